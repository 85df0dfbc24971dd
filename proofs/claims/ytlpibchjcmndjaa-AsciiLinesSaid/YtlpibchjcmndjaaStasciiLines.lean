-- Laid by sp.py, a program of this session's, out of the translation and the session's own stand-ins.
import Derived.Test.YtlpibchjcmndjaaPx0
import Derived.Test.YtlpibchjcmndjaaStbytesClone
import Derived.Test.YtlpibchjcmndjaaStasciiAwake
import Derived.Test.YtlpibchjcmndjaaStasciiReader
import Derived.Test.YtlpibchjcmndjaaStasciiReadsFn
import Derived.Test.YtlpibchjcmndjaaShelf
import Derived.Test.YtlpibchjcmndjaaStasciiReadsFn
import Derived.Test.YtlpibchjcmndjaaLineLem2
namespace Go.Proofs.Ytlpibchjcmndjaa.P
open Go.RowKit Go.Proofs.YtlpibchjcmndjaaW.PrintWords Go.Proofs.YtlpibchjcmndjaaW.PrintLast Go.Proofs.YtlpibchjcmndjaaW.PrintMore
attribute [local go_sem] max2_int min2_int max_two min_two max_three min_three max_four min_four   -- for this text's walks alone
set_option linter.unusedVariables false
set_option linter.unusedSimpArgs false
set_option linter.unnecessarySimpa false

/-! ### AsciiLines: a law by hand -/
open Go.Proofs.Ytlpibchjcmndjaa.Pure
theorem ln_clone {l : List Int} (h : l.length ≤ 1000000) : bytes_Clone.f l = some l := by unfold bytes_Clone.f; rw [if_pos (by omega)]
theorem ln_below {w a b : World} (h : Below w.heap.size w a) (hb : Below a.heap.size a b) : Below w.heap.size w b :=
  h.trans ⟨hb.os, hb.tape, hb.output, hb.size, fun j hj => hb.block j (Nat.lt_of_lt_of_le hj h.size)⟩
theorem bt_of {T : ByteArray} {q : Nat} (h : q < T.size) : (((T[q]'h).toNat : Nat) : Int) = bt T (q : Int) := bt_at T (q : Int) h
/-- No end begins ahead of a place of a text. -/
def NoEnd (T : ByteArray) (j : Nat) : Prop := ∀ q, q < j → q + 1 < T.size → ¬ (bt T (q : Int) = 13 ∧ bt T ((q + 1 : Nat) : Int) = 10)
theorem NoEnd.step {T : ByteArray} {j : Nat} (h : NoEnd T j) (hn : ¬ (bt T (j : Int) = 13 ∧ bt T ((j + 1 : Nat) : Int) = 10)) : NoEnd T (j + 1) := fun q hq h2 => by
  by_cases c : q < j
  · exact h q c h2
  · have : q = j := by omega
    subst this
    exact hn
/-- What is known of the first lines. -/
def GoodK (l : List ByteArray) (k : Nat) : Prop := ∀ j (hj : j < l.length), j < k → l[j].size ≤ 100 ∧ GoodT l[j]
theorem GoodK.step {l : List ByteArray} {k : Nat} (h : GoodK l k) (hk : k < l.length) (h1 : l[k].size ≤ 100) (h2 : GoodT l[k]) : GoodK l (k + 1) := fun j hj hjk => by
  by_cases c : j < k
  · exact h j hj c
  · have : j = k := by omega
    subst this
    exact ⟨h1, h2⟩
theorem two_C (W : World) : Kd.C (Kd.int .u8) (W.alloc (.cells #[.int .u8 13, .int .u8 10] 5)) (some ⟨W.heap.size, 0, none⟩) 2 [13, 10] :=
  (Kd.R_reads' (Kd.R_of_own (enc := Value.int .u8) (ok := fun _ => True) (h1 := fun _ => rfl) (own_lit W 0 5 .u8 [13, 10] (Nat.zero_le _) (by decide)) (fun _ _ => trivial))).2.2
def postilionlaw02_AsciiLines.f (_l : List ByteArray) (_m : Int) : Option Bool := some true
set_option maxRecDepth 100000 in
set_option maxHeartbeats 32000000 in
theorem postilionlaw02_AsciiLines.calls (A0 : Option Addr) (c0 : Nat) (l : List ByteArray) (most : Int) (r : Bool) (w : World) (hC0 : Kd.C Kd.string w A0 l.length l) (hc0 : l.length ≤ c0) (h : postilionlaw02_AsciiLines.f l most = some r) (hT : Aside0 (r = true)) (hm : hasMax w) :
    Calls Try.prog 6 #[.slice A0 l.length c0, .int .i64 most] w fun e w' => e = .returned (.bool r) ∧ Below w.heap.size w w' := by
  obtain rfl := hT.out
  clear h
  have hAw := postilionlaw02_awake.calls true w rfl hm
  by_cases hs : 20 < l.length
  · have q : decide (20 < (l.length : Int)) = true := decide_eq_true (by omega)
    go_enter Try.func6, Try.ntmps6
    go_wp2_with (go_at_call 23; refine hAw.mono ?_; rintro e w1 ⟨rfl, hb1⟩)
    go_ret
    exact ⟨rfl, hb1⟩
  have q : decide (20 < (l.length : Int)) = false := decide_eq_false (by omega)
  have hl20 : l.length ≤ 20 := by omega
  have HC := Aside0.mk hC0
  have HM := Aside0.mk hm
  clear hC0 hm hs
  go_enter Try.func6, Try.ntmps6
  go_wp2_with (go_at_call 23; refine hAw.mono ?_; rintro e w1 ⟨rfl, hb1⟩)
  clear hAw
  go_loopw [5, 6] (fun v i wr => ∃ k : Nat, k ≤ l.length ∧ i = .int .i64 (k : Int) ∧ Kd.R (Kd.int .u8) 5 wr w.heap.size (fun _ => True) v (encL (l.take k)) ∧ Aside0 (GoodK l k) ∧ Below w.heap.size w wr) (fun _ i _ => l.length - (intOf i).toNat)
  case atStart => exact ⟨0, Nat.zero_le _, rfl, Kd.R_nil _ _ _ _ _, ⟨fun j _ h => absurd h (Nat.not_lt_zero j)⟩, hb1⟩
  case round =>
    obtain ⟨k, hk, rfl, ho, hg, hB⟩ := hrel
    by_cases hlt : k < l.length
    · have s1 : decide ((k : Int) < (l.length : Int)) = true := decide_eq_true (by omega)
      have p1 : (k < l.length) = True := eq_true hlt
      obtain ⟨ad, e, hcell⟩ := Kd.at_string (Kd.C_below HC.out hB) (k : Int) (by omega) (by omega)
      subst e
      rw [Int.toNat_natCast] at hcell
      have hrd : rdOf ByteArray.empty l (k : Int) = l[k] := by
        unfold rdOf
        rw [Int.toNat_natCast, List.getD_eq_getElem?_getD, List.getElem?_eq_getElem hlt]
        rfl
      rw [hrd] at hcell
      have hsn := encL_snoc l hlt
      have hst := fun h1 h2 => hg.out.step hlt h1 h2
      have hps := posL_bound (l.take k) (fun j hj => by
        rw [List.getElem_take]
        exact (hg.out j (by rw [List.length_take] at hj; omega) (by rw [List.length_take] at hj; omega)).1) k (by rw [List.length_take]; omega)
      have hpl : (encL (l.take k)).length ≤ 102 * k := by
        unfold posL at hps
        rwa [List.take_take, Nat.min_self] at hps
      clear hps
      generalize l[k] = T at hcell hsn hst hrd
      have HSN := Aside0.mk hsn
      have HST := Aside0.mk hst
      clear hsn hst hrd
      by_cases ht : 100 < T.size
      · have s2 : decide (100 < (T.size : Int)) = true := decide_eq_true (by omega)
        go_wp2_with fail
        go_ret
        exact ⟨rfl, hB⟩
      · have s2 : decide (100 < (T.size : Int)) = false := decide_eq_false (by omega)
        have ht2 : T.size ≤ 100 := by omega
        clear ht
        go_wp2_with fail
        go_loop [7] (fun v7 => ∃ j : Nat, j ≤ T.size ∧ v7 = .int .i64 (j : Int) ∧ Aside0 (NoEnd T j)) (fun v7 => T.size - (intOf v7).toNat)
        case atStart => exact ⟨0, Nat.zero_le _, rfl, ⟨fun q hq => absurd hq (Nat.not_lt_zero q)⟩⟩
        case round =>
          obtain ⟨j, hj, rfl, hne⟩ := hrel
          by_cases hj1 : j + 1 < T.size
          · have s3 : decide ((j : Int) + 1 < (T.size : Int)) = true := decide_eq_true (by omega)
            have p3 : (j < T.size) = True := eq_true (by omega)
            have p4 : (j + 1 < T.size) = True := eq_true hj1
            have hjj : j < T.size := by omega
            have e1 := bt_of hjj
            have e2 := bt_of hj1
            by_cases c1 : bt T (j : Int) = 13
            · by_cases c2 : bt T ((j + 1 : Nat) : Int) = 10
              · have k1 : ((((T[j]'hjj).toNat : Nat) : Int) == 13) = true := beq_iff_eq.mpr (e1.trans c1)
                have k2 : ((((T[j + 1]'hj1).toNat : Nat) : Int) == 10) = true := beq_iff_eq.mpr (e2.trans c2)
                clear e1 e2 c1 c2
                go_wp2_with fail
                go_ret
                exact ⟨rfl, hB⟩
              · have k1 : ((((T[j]'hjj).toNat : Nat) : Int) == 13) = true := beq_iff_eq.mpr (e1.trans c1)
                have k2 : ((((T[j + 1]'hj1).toNat : Nat) : Int) == 10) = false := beq_eq_false_iff_ne.mpr (fun hq => c2 (e2.symm.trans hq))
                have nx := Aside0.mk (hne.out.step (fun hq => c2 hq.2))
                clear e1 e2 c1 c2
                go_wp2_with fail
                go_round
                case rel => exact ⟨j + 1, by omega, by go_num, nx⟩
                case measure => simp only [intOf]; omega
            · have k1 : ((((T[j]'hjj).toNat : Nat) : Int) == 13) = false := beq_eq_false_iff_ne.mpr (fun hq => c1 (e1.symm.trans hq))
              have nx := Aside0.mk (hne.out.step (fun hq => c1 hq.1))
              clear e1 e2 c1
              go_wp2_with fail
              go_round
              case rel => exact ⟨j + 1, by omega, by go_num, nx⟩
              case measure => simp only [intOf]; omega
          · have s3 : decide ((j : Int) + 1 < (T.size : Int)) = false := decide_eq_false (by omega)
            have hne2 : ∀ q, q + 1 < T.size → ¬ (bt T (q : Int) = 13 ∧ bt T ((q + 1 : Nat) : Int) = 10) := fun q hq => hne.out q (by omega) hq
            have HNE := Aside0.mk hne2
            clear hne2
            have hB2 : Below w.heap.size w wr.drew := hB.drew
            have ho2 := Kd.R_drew ho
            by_cases hz : T.size = 0
            · have d1 : decide (0 < (T.size : Int)) = false := decide_eq_false (by omega)
              have d1n : decide (0 < T.size) = false := decide_eq_false (by omega)
              have hgt : GoodT T := ⟨HNE.out, fun hq => by omega⟩
              have NX := Aside0.mk (HST.out ht2 hgt)
              clear hgt hz
              go_wp2_with fail
              refine start_ (n := 20) (S := fun w' => (w'.cell? (ad.add k) = some (.string T))) (ds := []) #[false, false, false, false, false, false, false, false, false, false, false, false, false, false, false, false, false, false, false, false] (by kernel_rfl) rfl rfl (hcell) (fun hHeld => ?_)
              refine pure_ (i := 0) (N := some 59) (v := ?_) (a' := ?_) #[true, false, false, false, false, false, false, false, false, false, false, false, false, false, false, false, false, false, false, false] rfl rfl (by kernel_rfl) (fun _ _ _ h => h) (Or.inl ⟨by rfl, ?_⟩) ?_ ?_
              rotate_left
              · intro w'
                go_simp
                with_reducible rfl
              rotate_left
              · simp only [Act.put, List.setIfInBounds_toArray, List.set_cons_zero, List.set_cons_succ, i64_w, i32_w]
                rfl
              refine pure_ (i := 1) (N := some 60) (v := ?_) (a' := ?_) #[true, true, false, false, false, false, false, false, false, false, false, false, false, false, false, false, false, false, false, false] rfl rfl (by kernel_rfl) (fun _ _ _ h => h) (Or.inl ⟨by rfl, ?_⟩) ?_ ?_
              rotate_left
              · intro w'
                go_simp
                with_reducible rfl
              rotate_left
              · simp only [Act.put, List.setIfInBounds_toArray, List.set_cons_zero, List.set_cons_succ, i64_w, i32_w]
                rfl
              refine pure_ (i := 2) (N := some 61) (v := ?_) (a' := ?_) #[true, true, true, false, false, false, false, false, false, false, false, false, false, false, false, false, false, false, false, false] rfl rfl (by kernel_rfl) (fun _ _ _ h => h) (Or.inl ⟨by rfl, ?_⟩) ?_ ?_
              rotate_left
              · intro w'
                go_simp
                with_reducible rfl
              rotate_left
              · simp only [Act.put, List.setIfInBounds_toArray, List.set_cons_zero, List.set_cons_succ, i64_w, i32_w]
                rfl
              refine take_ (i := 3) (N := some 62) (v := ?_) (a' := ?_) #[true, true, true, true, false, false, false, false, false, false, false, false, false, false, false, false, false, false, false, false] rfl rfl (by kernel_rfl) (fun _ _ _ h => h) (Or.inl ⟨by rfl, ?_⟩) hHeld ?_ ?_
              rotate_left
              · intro w' s0
                go_simp
                with_reducible rfl
              rotate_left
              · simp only [Act.put, List.setIfInBounds_toArray, List.set_cons_zero, List.set_cons_succ, i64_w, i32_w]
                rfl
              refine pure_ (i := 4) (N := some 63) (v := ?_) (a' := ?_) #[true, true, true, true, true, false, false, false, false, false, false, false, false, false, false, false, false, false, false, false] rfl rfl (by kernel_rfl) (fun _ _ _ h => h) (Or.inl ⟨by rfl, ?_⟩) ?_ ?_
              rotate_left
              · intro w'
                go_simp
                with_reducible rfl
              rotate_left
              · simp only [Act.put, List.setIfInBounds_toArray, List.set_cons_zero, List.set_cons_succ, i64_w, i32_w]
                rfl
              refine pure_ (i := 5) (N := some 64) (v := ?_) (a' := ?_) #[true, true, true, true, true, true, false, false, false, false, false, false, false, false, false, false, false, false, false, false] rfl rfl (by kernel_rfl) (fun _ _ _ h => h) (Or.inl ⟨by rfl, ?_⟩) ?_ ?_
              rotate_left
              · intro w'
                go_simp
                with_reducible rfl
              rotate_left
              · simp only [Act.put, List.setIfInBounds_toArray, List.set_cons_zero, List.set_cons_succ, i64_w, i32_w]
                rfl
              refine pure_ (i := 6) (N := some 65) (v := ?_) (a' := ?_) #[true, true, true, true, true, true, true, false, false, false, false, false, false, false, false, false, false, false, false, false] rfl rfl (by kernel_rfl) (fun _ _ _ h => h) (Or.inl ⟨by rfl, ?_⟩) ?_ ?_
              rotate_left
              · intro w'
                go_simp
                with_reducible rfl
              rotate_left
              · simp only [Act.put, List.setIfInBounds_toArray, List.set_cons_zero, List.set_cons_succ, i64_w, i32_w]
                rfl
              refine pure_ (i := 7) (N := some 66) (v := undef) (a' := ?_) #[true, true, true, true, true, true, true, true, false, false, false, false, false, false, false, false, false, false, false, false] rfl rfl (by kernel_rfl) (fun _ _ _ h => h) (Or.inr ⟨by rfl, rfl⟩) ?_ ?_
              rotate_left
              · simp only [Act.put, List.setIfInBounds_toArray, List.set_cons_zero, List.set_cons_succ, i64_w, i32_w]
                rfl
              refine pure_ (i := 8) (N := some 67) (v := undef) (a' := ?_) #[true, true, true, true, true, true, true, true, true, false, false, false, false, false, false, false, false, false, false, false] rfl rfl (by kernel_rfl) (fun _ _ _ h => h) (Or.inr ⟨by rfl, rfl⟩) ?_ ?_
              rotate_left
              · simp only [Act.put, List.setIfInBounds_toArray, List.set_cons_zero, List.set_cons_succ, i64_w, i32_w]
                rfl
              refine pure_ (i := 9) (N := some 68) (v := undef) (a' := ?_) #[true, true, true, true, true, true, true, true, true, true, false, false, false, false, false, false, false, false, false, false] rfl rfl (by kernel_rfl) (fun _ _ _ h => h) (Or.inr ⟨by rfl, rfl⟩) ?_ ?_
              rotate_left
              · simp only [Act.put, List.setIfInBounds_toArray, List.set_cons_zero, List.set_cons_succ, i64_w, i32_w]
                rfl
              refine pure_ (i := 10) (N := some 69) (v := undef) (a' := ?_) #[true, true, true, true, true, true, true, true, true, true, true, false, false, false, false, false, false, false, false, false] rfl rfl (by kernel_rfl) (fun _ _ _ h => h) (Or.inr ⟨by rfl, rfl⟩) ?_ ?_
              rotate_left
              · simp only [Act.put, List.setIfInBounds_toArray, List.set_cons_zero, List.set_cons_succ, i64_w, i32_w]
                rfl
              refine pure_ (i := 11) (N := some 70) (v := undef) (a' := ?_) #[true, true, true, true, true, true, true, true, true, true, true, true, false, false, false, false, false, false, false, false] rfl rfl (by kernel_rfl) (fun _ _ _ h => h) (Or.inr ⟨by rfl, rfl⟩) ?_ ?_
              rotate_left
              · simp only [Act.put, List.setIfInBounds_toArray, List.set_cons_zero, List.set_cons_succ, i64_w, i32_w]
                rfl
              refine pure_ (i := 12) (N := some 71) (v := undef) (a' := ?_) #[true, true, true, true, true, true, true, true, true, true, true, true, true, false, false, false, false, false, false, false] rfl rfl (by kernel_rfl) (fun _ _ _ h => h) (Or.inr ⟨by rfl, rfl⟩) ?_ ?_
              rotate_left
              · simp only [Act.put, List.setIfInBounds_toArray, List.set_cons_zero, List.set_cons_succ, i64_w, i32_w]
                rfl
              refine pure_ (i := 13) (N := some 72) (v := undef) (a' := ?_) #[true, true, true, true, true, true, true, true, true, true, true, true, true, true, false, false, false, false, false, false] rfl rfl (by kernel_rfl) (fun _ _ _ h => h) (Or.inr ⟨by rfl, rfl⟩) ?_ ?_
              rotate_left
              · simp only [Act.put, List.setIfInBounds_toArray, List.set_cons_zero, List.set_cons_succ, i64_w, i32_w]
                rfl
              refine pure_ (i := 14) (N := some 73) (v := undef) (a' := ?_) #[true, true, true, true, true, true, true, true, true, true, true, true, true, true, true, false, false, false, false, false] rfl rfl (by kernel_rfl) (fun _ _ _ h => h) (Or.inr ⟨by rfl, rfl⟩) ?_ ?_
              rotate_left
              · simp only [Act.put, List.setIfInBounds_toArray, List.set_cons_zero, List.set_cons_succ, i64_w, i32_w]
                rfl
              refine pure_ (i := 15) (N := some 74) (v := undef) (a' := ?_) #[true, true, true, true, true, true, true, true, true, true, true, true, true, true, true, true, false, false, false, false] rfl rfl (by kernel_rfl) (fun _ _ _ h => h) (Or.inr ⟨by rfl, rfl⟩) ?_ ?_
              rotate_left
              · simp only [Act.put, List.setIfInBounds_toArray, List.set_cons_zero, List.set_cons_succ, i64_w, i32_w]
                rfl
              refine pure_ (i := 16) (N := some 75) (v := undef) (a' := ?_) #[true, true, true, true, true, true, true, true, true, true, true, true, true, true, true, true, true, false, false, false] rfl rfl (by kernel_rfl) (fun _ _ _ h => h) (Or.inr ⟨by rfl, rfl⟩) ?_ ?_
              rotate_left
              · simp only [Act.put, List.setIfInBounds_toArray, List.set_cons_zero, List.set_cons_succ, i64_w, i32_w]
                rfl
              refine pure_ (i := 17) (N := some 76) (v := undef) (a' := ?_) #[true, true, true, true, true, true, true, true, true, true, true, true, true, true, true, true, true, true, false, false] rfl rfl (by kernel_rfl) (fun _ _ _ h => h) (Or.inr ⟨by rfl, rfl⟩) ?_ ?_
              rotate_left
              · simp only [Act.put, List.setIfInBounds_toArray, List.set_cons_zero, List.set_cons_succ, i64_w, i32_w]
                rfl
              refine pure_ (i := 18) (N := some 77) (v := undef) (a' := ?_) #[true, true, true, true, true, true, true, true, true, true, true, true, true, true, true, true, true, true, true, false] rfl rfl (by kernel_rfl) (fun _ _ _ h => h) (Or.inr ⟨by rfl, rfl⟩) ?_ ?_
              rotate_left
              · simp only [Act.put, List.setIfInBounds_toArray, List.set_cons_zero, List.set_cons_succ, i64_w, i32_w]
                rfl
              refine pure_ (i := 19) (N := some 78) (v := ?_) (a' := ?_) #[true, true, true, true, true, true, true, true, true, true, true, true, true, true, true, true, true, true, true, true] rfl rfl (by kernel_rfl) (fun _ _ _ h => h) (Or.inl ⟨by rfl, ?_⟩) ?_ ?_
              rotate_left
              · intro w'
                go_simp
                with_reducible rfl
              rotate_left
              · simp only [Act.put, List.setIfInBounds_toArray, List.set_cons_zero, List.set_cons_succ, i64_w, i32_w]
                rfl
              refine done_ (by kernel_rfl) ?_
              go_wp2_with (first | ((with_reducible refine gate_builtin (b := .append) (xs := #[.tmp 79, .tmp 83]) rfl ?_); at_builtin; refine print_append_str (w0 := w) w.heap.size rfl (.tmp 79) (.tmp 83) 31 9 5 rfl Try.underlying31 Try.underlying9 info5 _ (encL (l.take k)) T rfl rfl (Kd.own_of_R ho2) hB2 hB2.size (by omega) ?_; intro v6 w6 ho6 hb6 hg6; have ho7 := Kd.R_alloc (Kd.R_of_own (ok := fun _ => True) (h1 := fun _ => rfl) ho6 (fun _ _ => trivial)) (.cells #[.int .u8 13, .int .u8 10] 5); have hb7 := below_alloc hb6 (.cells #[.int .u8 13, .int .u8 10] 5); have hr7 := two_C w6) | ((with_reducible refine gate_builtin (b := .append) (xs := #[.tmp 85, .tmp 86]) rfl ?_); at_builtin; refine Kd.R_append_rows (Kd.int .u8) (w0 := w) w.heap.size rfl (.tmp 85) (.tmp 86) 31 5 (.int .u8 0) 1 rfl Try.underlying31 info5 rfl (by decide) (by omega) v6 (encL (l.take k) ++ bytesOf T) [13, 10] _ _ _ (fun _ => True) (fun _ => False) rfl rfl ho7 hr7 (fun _ _ h => h) (fun _ h => h.elim) (fun _ _ => trivial) hb7 hb7.size (by rw [List.length_append, bytesOf_length]; omega) ?_; intro v8 w8 ho8 hb8 hg8 hat8; clear hg8 hat8; rw [← HSN.out] at ho8))
              go_roundw
              case rel => exact ⟨k + 1, by omega, by go_num, ho8, NX, hb8⟩
              case measure => simp only [intOf]; omega
            · have d1 : decide (0 < (T.size : Int)) = true := decide_eq_true (by omega)
              have d1n : decide (0 < T.size) = true := decide_eq_true (by omega)
              have hlt9 : T.size - 1 < T.size := by omega
              have p9 : (T.size - 1 < T.size) = True := eq_true hlt9
              have e9 := bt_of hlt9
              have kw1 : wrap64 ((T.size : Int) - 1) = ((T.size - 1 : Nat) : Int) := by unfold wrap64; omega
              by_cases c9 : bt T ((T.size - 1 : Nat) : Int) = 13
              · have k9 : ((((T[T.size - 1]'hlt9).toNat : Nat) : Int) == 13) = true := beq_iff_eq.mpr (e9.trans c9)
                clear e9 c9
                go_wp2_with fail
                refine start_ (n := 20) (S := fun w' => (w'.cell? (ad.add k) = some (.string T))) (ds := []) #[false, false, false, false, false, false, false, false, false, false, false, false, false, false, false, false, false, false, false, false] (by kernel_rfl) rfl rfl (hcell) (fun hHeld => ?_)
                refine pure_ (i := 0) (N := some 59) (v := ?_) (a' := ?_) #[true, false, false, false, false, false, false, false, false, false, false, false, false, false, false, false, false, false, false, false] rfl rfl (by kernel_rfl) (fun _ _ _ h => h) (Or.inl ⟨by rfl, ?_⟩) ?_ ?_
                rotate_left
                · intro w'
                  go_simp
                  with_reducible rfl
                rotate_left
                · simp only [Act.put, List.setIfInBounds_toArray, List.set_cons_zero, List.set_cons_succ, i64_w, i32_w]
                  rfl
                refine pure_ (i := 1) (N := some 60) (v := ?_) (a' := ?_) #[true, true, false, false, false, false, false, false, false, false, false, false, false, false, false, false, false, false, false, false] rfl rfl (by kernel_rfl) (fun _ _ _ h => h) (Or.inl ⟨by rfl, ?_⟩) ?_ ?_
                rotate_left
                · intro w'
                  go_simp
                  with_reducible rfl
                rotate_left
                · simp only [Act.put, List.setIfInBounds_toArray, List.set_cons_zero, List.set_cons_succ, i64_w, i32_w]
                  rfl
                refine pure_ (i := 2) (N := some 61) (v := ?_) (a' := ?_) #[true, true, true, false, false, false, false, false, false, false, false, false, false, false, false, false, false, false, false, false] rfl rfl (by kernel_rfl) (fun _ _ _ h => h) (Or.inl ⟨by rfl, ?_⟩) ?_ ?_
                rotate_left
                · intro w'
                  go_simp
                  with_reducible rfl
                rotate_left
                · simp only [Act.put, List.setIfInBounds_toArray, List.set_cons_zero, List.set_cons_succ, i64_w, i32_w]
                  rfl
                refine take_ (i := 3) (N := some 62) (v := ?_) (a' := ?_) #[true, true, true, true, false, false, false, false, false, false, false, false, false, false, false, false, false, false, false, false] rfl rfl (by kernel_rfl) (fun _ _ _ h => h) (Or.inl ⟨by rfl, ?_⟩) hHeld ?_ ?_
                rotate_left
                · intro w' s0
                  go_simp
                  with_reducible rfl
                rotate_left
                · simp only [Act.put, List.setIfInBounds_toArray, List.set_cons_zero, List.set_cons_succ, i64_w, i32_w]
                  rfl
                refine pure_ (i := 4) (N := some 63) (v := ?_) (a' := ?_) #[true, true, true, true, true, false, false, false, false, false, false, false, false, false, false, false, false, false, false, false] rfl rfl (by kernel_rfl) (fun _ _ _ h => h) (Or.inl ⟨by rfl, ?_⟩) ?_ ?_
                rotate_left
                · intro w'
                  go_simp
                  with_reducible rfl
                rotate_left
                · simp only [Act.put, List.setIfInBounds_toArray, List.set_cons_zero, List.set_cons_succ, i64_w, i32_w]
                  rfl
                refine pure_ (i := 5) (N := some 64) (v := ?_) (a' := ?_) #[true, true, true, true, true, true, false, false, false, false, false, false, false, false, false, false, false, false, false, false] rfl rfl (by kernel_rfl) (fun _ _ _ h => h) (Or.inl ⟨by rfl, ?_⟩) ?_ ?_
                rotate_left
                · intro w'
                  go_simp
                  with_reducible rfl
                rotate_left
                · simp only [Act.put, List.setIfInBounds_toArray, List.set_cons_zero, List.set_cons_succ, i64_w, i32_w]
                  rfl
                refine pure_ (i := 6) (N := some 65) (v := ?_) (a' := ?_) #[true, true, true, true, true, true, true, false, false, false, false, false, false, false, false, false, false, false, false, false] rfl rfl (by kernel_rfl) (fun _ _ _ h => h) (Or.inl ⟨by rfl, ?_⟩) ?_ ?_
                rotate_left
                · intro w'
                  go_simp
                  with_reducible rfl
                rotate_left
                · simp only [Act.put, List.setIfInBounds_toArray, List.set_cons_zero, List.set_cons_succ, i64_w, i32_w]
                  rfl
                refine pure_ (i := 7) (N := some 66) (v := ?_) (a' := ?_) #[true, true, true, true, true, true, true, true, false, false, false, false, false, false, false, false, false, false, false, false] rfl rfl (by kernel_rfl) (fun _ _ _ h => h) (Or.inl ⟨by rfl, ?_⟩) ?_ ?_
                rotate_left
                · intro w'
                  go_simp
                  with_reducible rfl
                rotate_left
                · simp only [Act.put, List.setIfInBounds_toArray, List.set_cons_zero, List.set_cons_succ, i64_w, i32_w]
                  rfl
                refine pure_ (i := 8) (N := some 67) (v := ?_) (a' := ?_) #[true, true, true, true, true, true, true, true, true, false, false, false, false, false, false, false, false, false, false, false] rfl rfl (by kernel_rfl) (fun _ _ _ h => h) (Or.inl ⟨by rfl, ?_⟩) ?_ ?_
                rotate_left
                · intro w'
                  go_simp
                  with_reducible rfl
                rotate_left
                · simp only [Act.put, List.setIfInBounds_toArray, List.set_cons_zero, List.set_cons_succ, i64_w, i32_w]
                  rfl
                refine pure_ (i := 9) (N := some 68) (v := ?_) (a' := ?_) #[true, true, true, true, true, true, true, true, true, true, false, false, false, false, false, false, false, false, false, false] rfl rfl (by kernel_rfl) (fun _ _ _ h => h) (Or.inl ⟨by rfl, ?_⟩) ?_ ?_
                rotate_left
                · intro w'
                  go_simp
                  with_reducible rfl
                rotate_left
                · simp only [Act.put, List.setIfInBounds_toArray, List.set_cons_zero, List.set_cons_succ, i64_w, i32_w]
                  rfl
                refine pure_ (i := 11) (N := some 70) (v := ?_) (a' := ?_) #[true, true, true, true, true, true, true, true, true, true, false, true, false, false, false, false, false, false, false, false] rfl rfl (by kernel_rfl) (fun _ _ _ h => h) (Or.inl ⟨by rfl, ?_⟩) ?_ ?_
                rotate_left
                · intro w'
                  go_simp
                  with_reducible rfl
                rotate_left
                · simp only [Act.put, List.setIfInBounds_toArray, List.set_cons_zero, List.set_cons_succ, i64_w, i32_w]
                  rfl
                refine pure_ (i := 12) (N := some 71) (v := ?_) (a' := ?_) #[true, true, true, true, true, true, true, true, true, true, false, true, true, false, false, false, false, false, false, false] rfl rfl (by kernel_rfl) (fun _ _ _ h => h) (Or.inl ⟨by rfl, ?_⟩) ?_ ?_
                rotate_left
                · intro w'
                  go_simp
                  with_reducible rfl
                rotate_left
                · simp only [Act.put, List.setIfInBounds_toArray, List.set_cons_zero, List.set_cons_succ, i64_w, i32_w]
                  rfl
                refine pure_ (i := 13) (N := some 72) (v := ?_) (a' := ?_) #[true, true, true, true, true, true, true, true, true, true, false, true, true, true, false, false, false, false, false, false] rfl rfl (by kernel_rfl) (fun _ _ _ h => h) (Or.inl ⟨by rfl, ?_⟩) ?_ ?_
                rotate_left
                · intro w'
                  go_simp
                  with_reducible rfl
                rotate_left
                · simp only [Act.put, List.setIfInBounds_toArray, List.set_cons_zero, List.set_cons_succ, i64_w, i32_w]
                  rfl
                refine take_ (i := 10) (N := some 69) (v := ?_) (a' := ?_) #[true, true, true, true, true, true, true, true, true, true, true, true, true, true, false, false, false, false, false, false] rfl rfl (by kernel_rfl) (fun _ _ _ h => h) (Or.inl ⟨by rfl, ?_⟩) hHeld ?_ ?_
                rotate_left
                · intro w' s0
                  go_simp
                  with_reducible rfl
                rotate_left
                · simp only [Act.put, List.setIfInBounds_toArray, List.set_cons_zero, List.set_cons_succ, i64_w, i32_w]
                  rfl
                refine take_ (i := 14) (N := some 73) (v := ?_) (a' := ?_) #[true, true, true, true, true, true, true, true, true, true, true, true, true, true, true, false, false, false, false, false] rfl rfl (by kernel_rfl) (fun _ _ _ h => h) (Or.inl ⟨by rfl, ?_⟩) hHeld ?_ ?_
                rotate_left
                · intro w' s0
                  go_simp
                  with_reducible rfl
                rotate_left
                · simp only [Act.put, List.setIfInBounds_toArray, List.set_cons_zero, List.set_cons_succ, i64_w, i32_w]
                  rfl
                refine pure_ (i := 15) (N := some 74) (v := ?_) (a' := ?_) #[true, true, true, true, true, true, true, true, true, true, true, true, true, true, true, true, false, false, false, false] rfl rfl (by kernel_rfl) (fun _ _ _ h => h) (Or.inl ⟨by rfl, ?_⟩) ?_ ?_
                rotate_left
                · intro w'
                  go_simp
                  with_reducible rfl
                rotate_left
                · simp only [Act.put, List.setIfInBounds_toArray, List.set_cons_zero, List.set_cons_succ, i64_w, i32_w]
                  rfl
                refine pure_ (i := 16) (N := some 75) (v := ?_) (a' := ?_) #[true, true, true, true, true, true, true, true, true, true, true, true, true, true, true, true, true, false, false, false] rfl rfl (by kernel_rfl) (fun _ _ _ h => h) (Or.inl ⟨by rfl, ?_⟩) ?_ ?_
                rotate_left
                · intro w'
                  go_simp
                  with_reducible rfl
                rotate_left
                · simp only [Act.put, List.setIfInBounds_toArray, List.set_cons_zero, List.set_cons_succ, i64_w, i32_w]
                  rfl
                refine take_ (i := 17) (N := some 76) (v := ?_) (a' := ?_) #[true, true, true, true, true, true, true, true, true, true, true, true, true, true, true, true, true, true, false, false] rfl rfl (by kernel_rfl) (fun _ _ _ h => h) (Or.inl ⟨by rfl, ?_⟩) hHeld ?_ ?_
                rotate_left
                · intro w' s0
                  go_simp
                  with_reducible rfl
                rotate_left
                · simp only [Act.put, List.setIfInBounds_toArray, List.set_cons_zero, List.set_cons_succ, i64_w, i32_w]
                  rfl
                refine pure_ (i := 18) (N := some 77) (v := ?_) (a' := ?_) #[true, true, true, true, true, true, true, true, true, true, true, true, true, true, true, true, true, true, true, false] rfl rfl (by kernel_rfl) (fun _ _ _ h => h) (Or.inl ⟨by rfl, ?_⟩) ?_ ?_
                rotate_left
                · intro w'
                  go_simp
                  with_reducible rfl
                rotate_left
                · simp only [Act.put, List.setIfInBounds_toArray, List.set_cons_zero, List.set_cons_succ, i64_w, i32_w]
                  rfl
                refine pure_ (i := 19) (N := some 78) (v := ?_) (a' := ?_) #[true, true, true, true, true, true, true, true, true, true, true, true, true, true, true, true, true, true, true, true] rfl rfl (by kernel_rfl) (fun _ _ _ h => h) (Or.inl ⟨by rfl, ?_⟩) ?_ ?_
                rotate_left
                · intro w'
                  go_simp
                  with_reducible rfl
                rotate_left
                · simp only [Act.put, List.setIfInBounds_toArray, List.set_cons_zero, List.set_cons_succ, i64_w, i32_w]
                  rfl
                refine done_ (by kernel_rfl) ?_
                go_wp2_with fail
                go_ret
                exact ⟨rfl, hB2⟩
              · have k9 : ((((T[T.size - 1]'hlt9).toNat : Nat) : Int) == 13) = false := beq_eq_false_iff_ne.mpr (fun hq => c9 (e9.symm.trans hq))
                have hgt : GoodT T := ⟨HNE.out, fun hq => c9 hq.2⟩
                have NX := Aside0.mk (HST.out ht2 hgt)
                clear hgt e9 c9
                go_wp2_with fail
                refine start_ (n := 20) (S := fun w' => (w'.cell? (ad.add k) = some (.string T))) (ds := []) #[false, false, false, false, false, false, false, false, false, false, false, false, false, false, false, false, false, false, false, false] (by kernel_rfl) rfl rfl (hcell) (fun hHeld => ?_)
                refine pure_ (i := 0) (N := some 59) (v := ?_) (a' := ?_) #[true, false, false, false, false, false, false, false, false, false, false, false, false, false, false, false, false, false, false, false] rfl rfl (by kernel_rfl) (fun _ _ _ h => h) (Or.inl ⟨by rfl, ?_⟩) ?_ ?_
                rotate_left
                · intro w'
                  go_simp
                  with_reducible rfl
                rotate_left
                · simp only [Act.put, List.setIfInBounds_toArray, List.set_cons_zero, List.set_cons_succ, i64_w, i32_w]
                  rfl
                refine pure_ (i := 1) (N := some 60) (v := ?_) (a' := ?_) #[true, true, false, false, false, false, false, false, false, false, false, false, false, false, false, false, false, false, false, false] rfl rfl (by kernel_rfl) (fun _ _ _ h => h) (Or.inl ⟨by rfl, ?_⟩) ?_ ?_
                rotate_left
                · intro w'
                  go_simp
                  with_reducible rfl
                rotate_left
                · simp only [Act.put, List.setIfInBounds_toArray, List.set_cons_zero, List.set_cons_succ, i64_w, i32_w]
                  rfl
                refine pure_ (i := 2) (N := some 61) (v := ?_) (a' := ?_) #[true, true, true, false, false, false, false, false, false, false, false, false, false, false, false, false, false, false, false, false] rfl rfl (by kernel_rfl) (fun _ _ _ h => h) (Or.inl ⟨by rfl, ?_⟩) ?_ ?_
                rotate_left
                · intro w'
                  go_simp
                  with_reducible rfl
                rotate_left
                · simp only [Act.put, List.setIfInBounds_toArray, List.set_cons_zero, List.set_cons_succ, i64_w, i32_w]
                  rfl
                refine take_ (i := 3) (N := some 62) (v := ?_) (a' := ?_) #[true, true, true, true, false, false, false, false, false, false, false, false, false, false, false, false, false, false, false, false] rfl rfl (by kernel_rfl) (fun _ _ _ h => h) (Or.inl ⟨by rfl, ?_⟩) hHeld ?_ ?_
                rotate_left
                · intro w' s0
                  go_simp
                  with_reducible rfl
                rotate_left
                · simp only [Act.put, List.setIfInBounds_toArray, List.set_cons_zero, List.set_cons_succ, i64_w, i32_w]
                  rfl
                refine pure_ (i := 4) (N := some 63) (v := ?_) (a' := ?_) #[true, true, true, true, true, false, false, false, false, false, false, false, false, false, false, false, false, false, false, false] rfl rfl (by kernel_rfl) (fun _ _ _ h => h) (Or.inl ⟨by rfl, ?_⟩) ?_ ?_
                rotate_left
                · intro w'
                  go_simp
                  with_reducible rfl
                rotate_left
                · simp only [Act.put, List.setIfInBounds_toArray, List.set_cons_zero, List.set_cons_succ, i64_w, i32_w]
                  rfl
                refine pure_ (i := 5) (N := some 64) (v := ?_) (a' := ?_) #[true, true, true, true, true, true, false, false, false, false, false, false, false, false, false, false, false, false, false, false] rfl rfl (by kernel_rfl) (fun _ _ _ h => h) (Or.inl ⟨by rfl, ?_⟩) ?_ ?_
                rotate_left
                · intro w'
                  go_simp
                  with_reducible rfl
                rotate_left
                · simp only [Act.put, List.setIfInBounds_toArray, List.set_cons_zero, List.set_cons_succ, i64_w, i32_w]
                  rfl
                refine pure_ (i := 6) (N := some 65) (v := ?_) (a' := ?_) #[true, true, true, true, true, true, true, false, false, false, false, false, false, false, false, false, false, false, false, false] rfl rfl (by kernel_rfl) (fun _ _ _ h => h) (Or.inl ⟨by rfl, ?_⟩) ?_ ?_
                rotate_left
                · intro w'
                  go_simp
                  with_reducible rfl
                rotate_left
                · simp only [Act.put, List.setIfInBounds_toArray, List.set_cons_zero, List.set_cons_succ, i64_w, i32_w]
                  rfl
                refine pure_ (i := 7) (N := some 66) (v := ?_) (a' := ?_) #[true, true, true, true, true, true, true, true, false, false, false, false, false, false, false, false, false, false, false, false] rfl rfl (by kernel_rfl) (fun _ _ _ h => h) (Or.inl ⟨by rfl, ?_⟩) ?_ ?_
                rotate_left
                · intro w'
                  go_simp
                  with_reducible rfl
                rotate_left
                · simp only [Act.put, List.setIfInBounds_toArray, List.set_cons_zero, List.set_cons_succ, i64_w, i32_w]
                  rfl
                refine pure_ (i := 8) (N := some 67) (v := ?_) (a' := ?_) #[true, true, true, true, true, true, true, true, true, false, false, false, false, false, false, false, false, false, false, false] rfl rfl (by kernel_rfl) (fun _ _ _ h => h) (Or.inl ⟨by rfl, ?_⟩) ?_ ?_
                rotate_left
                · intro w'
                  go_simp
                  with_reducible rfl
                rotate_left
                · simp only [Act.put, List.setIfInBounds_toArray, List.set_cons_zero, List.set_cons_succ, i64_w, i32_w]
                  rfl
                refine pure_ (i := 9) (N := some 68) (v := ?_) (a' := ?_) #[true, true, true, true, true, true, true, true, true, true, false, false, false, false, false, false, false, false, false, false] rfl rfl (by kernel_rfl) (fun _ _ _ h => h) (Or.inl ⟨by rfl, ?_⟩) ?_ ?_
                rotate_left
                · intro w'
                  go_simp
                  with_reducible rfl
                rotate_left
                · simp only [Act.put, List.setIfInBounds_toArray, List.set_cons_zero, List.set_cons_succ, i64_w, i32_w]
                  rfl
                refine pure_ (i := 11) (N := some 70) (v := ?_) (a' := ?_) #[true, true, true, true, true, true, true, true, true, true, false, true, false, false, false, false, false, false, false, false] rfl rfl (by kernel_rfl) (fun _ _ _ h => h) (Or.inl ⟨by rfl, ?_⟩) ?_ ?_
                rotate_left
                · intro w'
                  go_simp
                  with_reducible rfl
                rotate_left
                · simp only [Act.put, List.setIfInBounds_toArray, List.set_cons_zero, List.set_cons_succ, i64_w, i32_w]
                  rfl
                refine pure_ (i := 12) (N := some 71) (v := ?_) (a' := ?_) #[true, true, true, true, true, true, true, true, true, true, false, true, true, false, false, false, false, false, false, false] rfl rfl (by kernel_rfl) (fun _ _ _ h => h) (Or.inl ⟨by rfl, ?_⟩) ?_ ?_
                rotate_left
                · intro w'
                  go_simp
                  with_reducible rfl
                rotate_left
                · simp only [Act.put, List.setIfInBounds_toArray, List.set_cons_zero, List.set_cons_succ, i64_w, i32_w]
                  rfl
                refine pure_ (i := 13) (N := some 72) (v := ?_) (a' := ?_) #[true, true, true, true, true, true, true, true, true, true, false, true, true, true, false, false, false, false, false, false] rfl rfl (by kernel_rfl) (fun _ _ _ h => h) (Or.inl ⟨by rfl, ?_⟩) ?_ ?_
                rotate_left
                · intro w'
                  go_simp
                  with_reducible rfl
                rotate_left
                · simp only [Act.put, List.setIfInBounds_toArray, List.set_cons_zero, List.set_cons_succ, i64_w, i32_w]
                  rfl
                refine take_ (i := 10) (N := some 69) (v := ?_) (a' := ?_) #[true, true, true, true, true, true, true, true, true, true, true, true, true, true, false, false, false, false, false, false] rfl rfl (by kernel_rfl) (fun _ _ _ h => h) (Or.inl ⟨by rfl, ?_⟩) hHeld ?_ ?_
                rotate_left
                · intro w' s0
                  go_simp
                  with_reducible rfl
                rotate_left
                · simp only [Act.put, List.setIfInBounds_toArray, List.set_cons_zero, List.set_cons_succ, i64_w, i32_w]
                  rfl
                refine take_ (i := 14) (N := some 73) (v := ?_) (a' := ?_) #[true, true, true, true, true, true, true, true, true, true, true, true, true, true, true, false, false, false, false, false] rfl rfl (by kernel_rfl) (fun _ _ _ h => h) (Or.inl ⟨by rfl, ?_⟩) hHeld ?_ ?_
                rotate_left
                · intro w' s0
                  go_simp
                  with_reducible rfl
                rotate_left
                · simp only [Act.put, List.setIfInBounds_toArray, List.set_cons_zero, List.set_cons_succ, i64_w, i32_w]
                  rfl
                refine pure_ (i := 15) (N := some 74) (v := ?_) (a' := ?_) #[true, true, true, true, true, true, true, true, true, true, true, true, true, true, true, true, false, false, false, false] rfl rfl (by kernel_rfl) (fun _ _ _ h => h) (Or.inl ⟨by rfl, ?_⟩) ?_ ?_
                rotate_left
                · intro w'
                  go_simp
                  with_reducible rfl
                rotate_left
                · simp only [Act.put, List.setIfInBounds_toArray, List.set_cons_zero, List.set_cons_succ, i64_w, i32_w]
                  rfl
                refine pure_ (i := 16) (N := some 75) (v := ?_) (a' := ?_) #[true, true, true, true, true, true, true, true, true, true, true, true, true, true, true, true, true, false, false, false] rfl rfl (by kernel_rfl) (fun _ _ _ h => h) (Or.inl ⟨by rfl, ?_⟩) ?_ ?_
                rotate_left
                · intro w'
                  go_simp
                  with_reducible rfl
                rotate_left
                · simp only [Act.put, List.setIfInBounds_toArray, List.set_cons_zero, List.set_cons_succ, i64_w, i32_w]
                  rfl
                refine take_ (i := 17) (N := some 76) (v := ?_) (a' := ?_) #[true, true, true, true, true, true, true, true, true, true, true, true, true, true, true, true, true, true, false, false] rfl rfl (by kernel_rfl) (fun _ _ _ h => h) (Or.inl ⟨by rfl, ?_⟩) hHeld ?_ ?_
                rotate_left
                · intro w' s0
                  go_simp
                  with_reducible rfl
                rotate_left
                · simp only [Act.put, List.setIfInBounds_toArray, List.set_cons_zero, List.set_cons_succ, i64_w, i32_w]
                  rfl
                refine pure_ (i := 18) (N := some 77) (v := ?_) (a' := ?_) #[true, true, true, true, true, true, true, true, true, true, true, true, true, true, true, true, true, true, true, false] rfl rfl (by kernel_rfl) (fun _ _ _ h => h) (Or.inl ⟨by rfl, ?_⟩) ?_ ?_
                rotate_left
                · intro w'
                  go_simp
                  with_reducible rfl
                rotate_left
                · simp only [Act.put, List.setIfInBounds_toArray, List.set_cons_zero, List.set_cons_succ, i64_w, i32_w]
                  rfl
                refine pure_ (i := 19) (N := some 78) (v := ?_) (a' := ?_) #[true, true, true, true, true, true, true, true, true, true, true, true, true, true, true, true, true, true, true, true] rfl rfl (by kernel_rfl) (fun _ _ _ h => h) (Or.inl ⟨by rfl, ?_⟩) ?_ ?_
                rotate_left
                · intro w'
                  go_simp
                  with_reducible rfl
                rotate_left
                · simp only [Act.put, List.setIfInBounds_toArray, List.set_cons_zero, List.set_cons_succ, i64_w, i32_w]
                  rfl
                refine done_ (by kernel_rfl) ?_
                go_wp2_with (first | ((with_reducible refine gate_builtin (b := .append) (xs := #[.tmp 79, .tmp 83]) rfl ?_); at_builtin; refine print_append_str (w0 := w) w.heap.size rfl (.tmp 79) (.tmp 83) 31 9 5 rfl Try.underlying31 Try.underlying9 info5 _ (encL (l.take k)) T rfl rfl (Kd.own_of_R ho2) hB2 hB2.size (by omega) ?_; intro v6 w6 ho6 hb6 hg6; have ho7 := Kd.R_alloc (Kd.R_of_own (ok := fun _ => True) (h1 := fun _ => rfl) ho6 (fun _ _ => trivial)) (.cells #[.int .u8 13, .int .u8 10] 5); have hb7 := below_alloc hb6 (.cells #[.int .u8 13, .int .u8 10] 5); have hr7 := two_C w6) | ((with_reducible refine gate_builtin (b := .append) (xs := #[.tmp 85, .tmp 86]) rfl ?_); at_builtin; refine Kd.R_append_rows (Kd.int .u8) (w0 := w) w.heap.size rfl (.tmp 85) (.tmp 86) 31 5 (.int .u8 0) 1 rfl Try.underlying31 info5 rfl (by decide) (by omega) v6 (encL (l.take k) ++ bytesOf T) [13, 10] _ _ _ (fun _ => True) (fun _ => False) rfl rfl ho7 hr7 (fun _ _ h => h) (fun _ h => h.elim) (fun _ _ => trivial) hb7 hb7.size (by rw [List.length_append, bytesOf_length]; omega) ?_; intro v8 w8 ho8 hb8 hg8 hat8; clear hg8 hat8; rw [← HSN.out] at ho8))
                go_roundw
                case rel => exact ⟨k + 1, by omega, by go_num, ho8, NX, hb8⟩
                case measure => simp only [intOf]; omega
    · have s1 : decide ((k : Int) < (l.length : Int)) = false := decide_eq_false (by omega)
      have hkl : k = l.length := by omega
      subst hkl
      rw [List.take_length] at ho
      have hbd : (encL l).length ≤ 2040 := by
        have := posL_bound l (fun j hj => (hg.out j hj hj).1) l.length (Nat.le_refl _)
        rw [posL_end] at this
        omega
      have hgt : ∀ (j : Nat) (hj : j < l.length), GoodT l[j] := fun j hj => (hg.out j hj hj).2
      have HGT := Aside0.mk hgt
      have hpos : ∀ k, k ≤ l.length → posL l k ≤ (encL l).length := fun k hk => by
        rw [← posL_end]
        exact posL_mono l hk (Nat.le_refl _)
      have HPOS := Aside0.mk hpos
      have hmm : ∃ m : Int, wrap64 ((IntKind.u64.wrap most).tmod 120) = m ∧ 0 ≤ m ∧ m < 120 := by
        refine ⟨_, rfl, ?_⟩
        have h1 : 0 ≤ IntKind.u64.wrap most := by
          simp only [IntKind.wrap, IntKind.bits, IntKind.signed]
          simp
          exact Int.emod_nonneg _ (by decide)
        rw [Int.tmod_eq_emod_of_nonneg h1]
        have h2 := Int.emod_nonneg (IntKind.u64.wrap most) (show (120 : Int) ≠ 0 by decide)
        have h3 := Int.emod_lt_of_pos (IntKind.u64.wrap most) (show (0 : Int) < 120 by decide)
        unfold wrap64
        omega
      obtain ⟨m, hme, hm0, hm1⟩ := hmm
      obtain ⟨A5, c5, ev⟩ := Kd.R_slice ho
      subst ev
      have hoC := own_C ho
      have n1 := rd_New A5 c5 (encL l) wr hoC.1 hoC.2 (encL l) (ln_clone (by omega))
      clear hgt hpos hoC ho
      go_wp2_with (go_at_call 20; refine n1.mono ?_; rintro e w2 ⟨R, v, rfl, r1⟩; have r2 := r1.rebase hB)
      rw [show (0 : Nat) = posL l 0 from rfl] at r2
      clear n1 r1
      go_loopw [9] (fun i wr2 => ∃ k : Nat, k ≤ l.length ∧ i = .int .i64 (k : Int) ∧ RdIn w R v (encL l) (posL l k) wr2) (fun i _ => l.length - (intOf i).toNat)
      case atStart => exact ⟨0, Nat.zero_le _, rfl, r2⟩
      case round =>
        obtain ⟨k, hk, rfl, hr⟩ := hrel
        have hpk := HPOS.out k hk
        by_cases hlt2 : k < l.length
        · have s2 : decide ((k : Int) < (l.length : Int)) = true := decide_eq_true (by omega)
          have p2 : (k < l.length) = True := eq_true hlt2
          obtain ⟨ad, e, _⟩ := Kd.at_string (Kd.C_below HC.out hr.hB) (k : Int) (by omega) (by omega)
          subst e
          have hrd : rdOf ByteArray.empty l (k : Int) = l[k] := by
            unfold rdOf
            rw [Int.toNat_natCast, List.getD_eq_getElem?_getD, List.getElem?_eq_getElem hlt2]
            rfl
          have hcf : ∀ W', Below w.heap.size w W' → W'.cell? (ad.add k) = some (.string l[k]) := fun W' hb => by
            obtain ⟨ad2, e2, hc2⟩ := Kd.at_string (Kd.C_below HC.out hb) (k : Int) (by omega) (by omega)
            cases e2
            rw [Int.toNat_natCast, hrd] at hc2
            exact hc2
          have hcell := hcf _ hr.hB
          have HCF := Aside0.mk hcf
          clear hcf
          have LN := rf_Line w R v (encL l) (posL l k) _ hr (HM.out.below hr.hB) m hpk (by omega) (encL_bytes l)
          rw [line_enc l hlt2 (HGT.out k hlt2) m hm0] at LN
          have hsn := posL_snoc l hlt2
          have hpk2 := HPOS.out (k + 1) hlt2
          obtain ⟨P2, hP2⟩ : ∃ P2, posL l (k + 1) = P2 := ⟨_, rfl⟩
          rw [hP2] at LN hsn hpk2
          have HP2 := Aside0.mk hP2
          clear hP2
          generalize l[k] = T at *
          by_cases c : (T.size : Int) ≤ m
          · rw [if_pos c] at LN
            have k1 : decide (m < (T.size : Int)) = false := decide_eq_false (by omega)
            have k2 : ((P2 : Int) != ((posL l k : Nat) : Int) + (T.size : Int) + 2) = false := by
              rw [hsn]
              simp
            clear hsn hrd
            go_wp2_with (first | (go_at_call 17; (with_reducible refine (rd_At _ R _ _ _ _ hr6).mono ?_); rintro e a1 ⟨rfl, ha1⟩; obtain rfl := ha1.symm) | (go_at_call 17; (with_reducible refine (rd_At _ R _ _ _ _ hr).mono ?_); rintro e a1 ⟨rfl, ha1⟩; obtain rfl := ha1.symm) | (go_at_call 16; refine LN.mono ?_; rintro e w6 ⟨rfl, hr6, f6⟩; have hc6 := HCF.out _ hr6.hB))
            go_roundw
            case rel => exact ⟨k + 1, by omega, by go_num, by rw [HP2.out]; exact hr6⟩
            case measure => simp only [intOf]; omega
          · rw [if_neg c] at LN
            have k1 : decide (m < (T.size : Int)) = true := decide_eq_true (by omega)
            clear hsn hrd
            go_wp2_with (first | (go_at_call 17; (with_reducible refine (rd_At _ R _ _ _ _ hr6).mono ?_); rintro e a1 ⟨rfl, ha1⟩; obtain rfl := ha1.symm) | (go_at_call 17; (with_reducible refine (rd_At _ R _ _ _ _ hr).mono ?_); rintro e a1 ⟨rfl, ha1⟩; obtain rfl := ha1.symm) | (go_at_call 16; refine LN.mono ?_; rintro e w6 ⟨rfl, hr6, f6⟩; have hc6 := HCF.out _ hr6.hB))
            go_ret
            exact ⟨rfl, hr6.hB⟩
        · have s2 : decide ((k : Int) < (l.length : Int)) = false := decide_eq_false (by omega)
          have hkl : k = l.length := by omega
          have LN := rf_Line w R v (encL l) (posL l k) _ hr (HM.out.below hr.hB) m hpk (by omega) (encL_bytes l)
          rw [hkl, line_end l m hm0, ← hkl] at LN
          have kk : (((encL l).length : Int) - ((posL l k : Nat) : Int) == 0) = true := by
            rw [hkl, posL_end]
            simp
          have hle := hpk
          have hbl : (encL l).length ≤ 1000000 := by omega
          clear hkl
          go_wp2_with (first | (go_at_call 16; refine LN.mono ?_; rintro e w6 ⟨rfl, hr6, f6⟩) | (go_at_call 18; refine (rd_Left w R v _ _ _ hr6 hle hbl).mono ?_; rintro e w7 ⟨rfl, hd7⟩))
          go_ret
          exact ⟨rfl, (hr6.below hd7.below).hB⟩

/-- THE ONE PURE STATEMENT of postilionlaw02_AsciiLines: yours. -/
def postilionlaw02_AsciiLines.Pure : Prop := ∀ (l0 : List ByteArray) (a1 : Int), l0.length ≤ maxLen → (∀ y_ ∈ l0, (y_.size ≤ 9223372036854775807)) → (Lit.int .i64 a1).wf = true → postilionlaw02_AsciiLines.f l0 a1 = some true

end Go.Proofs.Ytlpibchjcmndjaa.P
