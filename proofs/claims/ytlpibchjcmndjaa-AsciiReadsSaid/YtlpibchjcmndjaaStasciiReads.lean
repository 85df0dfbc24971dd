-- Laid by sp.py, a program of this session's, out of the translation and the session's own stand-ins.
import Derived.Test.YtlpibchjcmndjaaPx0
import Derived.Test.YtlpibchjcmndjaaPx5
import Derived.Test.YtlpibchjcmndjaaStbytesClone
import Derived.Test.YtlpibchjcmndjaaPx7
import Derived.Test.YtlpibchjcmndjaaStasciiAwake
import Derived.Test.YtlpibchjcmndjaaStreaderMore
import Derived.Test.YtlpibchjcmndjaaStasciiReadsFn
import Derived.Test.YtlpibchjcmndjaaShelf
import Derived.Test.YtlpibchjcmndjaaStasciiReadsFn
import Derived.Test.YtlpibchjcmndjaaSLswap
namespace Go.Proofs.Ytlpibchjcmndjaa.P
open Go.RowKit Go.Proofs.YtlpibchjcmndjaaW.PrintWords Go.Proofs.YtlpibchjcmndjaaW.PrintLast Go.Proofs.YtlpibchjcmndjaaW.PrintMore
attribute [local go_sem] max2_int min2_int max_two min_two max_three min_three max_four min_four   -- for this text's walks alone
set_option linter.unusedVariables false
set_option linter.unusedSimpArgs false
set_option linter.unnecessarySimpa false

/-! ### AsciiReads: a law by hand -/
theorem rq_same_loop (l : List Int) (hl : l.length ≤ 600) : ∀ (d i k : Nat), l.length - i ≤ d → i ≤ l.length → d < k → postilionref01_Same.l0 k l l (i : Int) = some true := by
  intro d
  induction d with
  | zero =>
    intro i k h1 h2 h3
    obtain ⟨k, rfl⟩ : ∃ m, k = m + 1 := ⟨k - 1, by omega⟩
    rw [postilionref01_Same.l0, if_neg (by omega)]
  | succ d ih =>
    intro i k h1 h2 h3
    obtain ⟨k, rfl⟩ : ∃ m, k = m + 1 := ⟨k - 1, by omega⟩
    rw [postilionref01_Same.l0]
    by_cases c : (i : Int) < (l.length : Int)
    · rw [if_pos c, if_pos (by omega), if_pos c, if_pos rfl]
      have e : wrap64 ((i : Int) + 1) = ((i + 1 : Nat) : Int) := by unfold wrap64; omega
      rw [e]
      exact ih (i + 1) k (by omega) (by omega) (by omega)
    · rw [if_neg c]
theorem rq_same (l : List Int) (hl : l.length ≤ 600) : postilionref01_Same.f 1000 l l = some true := by
  unfold postilionref01_Same.f
  rw [if_pos rfl]
  exact rq_same_loop l hl l.length 0 1000 (by omega) (by omega) (by omega)
theorem rq_clone {l : List Int} (h : l.length ≤ 1000000) : bytes_Clone.f l = some l := by unfold bytes_Clone.f; rw [if_pos (by omega)]
theorem rq_copy {l : List Int} (h : l.length ≤ 1000000) : postilionref01_Copy.f l = some l := by unfold postilionref01_Copy.f; rw [if_pos (by simp only [List.length_nil]; omega)]; rfl
theorem rq_below {w a b : World} (h : Below w.heap.size w a) (hb : Below a.heap.size a b) : Below w.heap.size w b :=
  h.trans ⟨hb.os, hb.tape, hb.output, hb.size, fun j hj => hb.block j (Nat.lt_of_lt_of_le hj h.size)⟩
def postilionlaw02_AsciiReads.f (b : List Int) (acts : List S47) : Option Bool := if b.all (fun x => decide (0 ≤ x ∧ x < 256)) = true ∧ acts.all (fun a => decide (0 ≤ a.f0 ∧ a.f0 < 256)) = true then some true else none
set_option maxRecDepth 100000 in
set_option maxHeartbeats 32000000 in
theorem postilionlaw02_AsciiReads.calls (A0 : Option Addr) (c0 : Nat) (b : List Int) (A1 : Option Addr) (c1 : Nat) (acts : List S47) (r : Bool) (w : World) (hC0 : Kd.C (Kd.int .u8) w A0 b.length b) (hc0 : b.length ≤ c0) (hC1 : Kd.C k47 w A1 acts.length acts) (hc1 : acts.length ≤ c1) (h : postilionlaw02_AsciiReads.f b acts = some r) (hT : Aside0 (r = true)) (hm : hasMax w) :
    Calls Try.prog 5 #[.slice A0 b.length c0, .slice A1 acts.length c1] w fun e w' => e = .returned (.bool r) ∧ Below w.heap.size w w' := by
  obtain rfl := hT.out
  unfold postilionlaw02_AsciiReads.f at h
  by_cases hg : b.all (fun x => decide (0 ≤ x ∧ x < 256)) = true ∧ acts.all (fun a => decide (0 ≤ a.f0 ∧ a.f0 < 256)) = true
  case neg => rw [if_neg hg] at h; cases h
  clear h
  have hb : ∀ x ∈ b, 0 ≤ x ∧ x < 256 := fun x hx => by simpa using (List.all_eq_true.1 hg.1) x hx
  have ha : ∀ x ∈ acts, 0 ≤ x.f0 ∧ x.f0 < 256 := fun x hx => by simpa using (List.all_eq_true.1 hg.2) x hx
  clear hg
  by_cases hs : 600 < b.length
  · have q : decide (600 < (b.length : Int)) = true := decide_eq_true (by omega)
    go_enter Try.func5, Try.ntmps5
    go_wp2_with fail
    go_ret
    exact ⟨rfl, Below.refl _ _⟩
  have q : decide (600 < (b.length : Int)) = false := decide_eq_false (by omega)
  by_cases hs2 : 100 < acts.length
  · have q2 : decide (100 < (acts.length : Int)) = true := decide_eq_true (by omega)
    go_enter Try.func5, Try.ntmps5
    go_wp2_with fail
    go_ret
    exact ⟨rfl, Below.refl _ _⟩
  have q2 : decide (100 < (acts.length : Int)) = false := decide_eq_false (by omega)
  have CPY := fun (W : World) (h : Kd.C (Kd.int .u8) W A0 b.length b) => postilionref01_Copy.calls A0 c0 b b W h hc0 (rq_copy (by omega))
  have NB := fun (A : Option Addr) (c : Nat) (W : World) (h : Kd.C (Kd.int .u8) W A b.length b) (hc : b.length ≤ c) => rd_New A c b W h hc b (rq_clone (by omega))
  have SM := fun A c W h1 h2 (h3 : Kd.C (Kd.int .u8) W A0 b.length b) => postilionref01_Same.calls 1000 A c b A0 c0 b true W h1 h2 h3 hc0 (rq_same b (by omega))
  have cp := CPY w hC0
  have HCB := Aside0.mk hC0
  have HCA := Aside0.mk hC1
  have HB := Aside0.mk hb
  have HA := Aside0.mk ha
  have HM := Aside0.mk hm
  have hs3 : acts.length ≤ 100 := by omega
  clear hC0 hC1 hb ha hm hs2 hc1
  go_enter Try.func5, Try.ntmps5
  go_wp2_with (first | (go_at_call 20; refine n1.mono ?_; rintro e w2 ⟨R, v, rfl, r1⟩; have cp2 := CPY w2 (Kd.C_below HCB.out (rq_below hw1 r1.hB))) | (go_at_call 21; refine (SM A1' c1' _ (Kd.C_below oc1.1 (rq_below (rq_below r1.hB hw3) hw4)) oc1.2 (Kd.C_below HCB.out (rq_below (rq_below (rq_below hw1 r1.hB) hw3) hw4))).mono ?_; rintro e w5 ⟨rfl, hd5⟩) | (go_at_call 19; first | (refine cp.mono ?_; rintro e w1 ⟨v1, rfl, o1, hw1⟩; clear cp; obtain ⟨A1', c1', ev⟩ := Kd.R_slice o1; subst ev; have oc1 := own_C o1; have n1 := NB A1' c1' w1 oc1.1 oc1.2) | (refine cp2.mono ?_; rintro e w3 ⟨v3, rfl, o3, hw3⟩; clear cp2; obtain ⟨A3, c3, ev⟩ := Kd.R_slice o3; subst ev; have hw4 : Below w3.heap.size w3 (w3.alloc (.cells #[.slice A3 b.length c3, .int .i64 0] 43)) := below_alloc (Below.refl _ _) _; have hbk4 := heap_alloc_new w3 (.cells #[.slice A3 b.length c3, .int .i64 0] 43))))
  have hb1 : Below w1.heap.size w1 w3 := rq_below r1.hB hw3
  have hb2 := rq_below hb1 hw4
  have hR0 : RdIn w R v b 0 w5 := ((((r1.rebase hw1).below hw3).below hw4).below hd5.below)
  have hM0 : MdIn w w3.heap.size (.slice A3 b.length c3) b 0 w5 := MdIn.below ⟨(rq_below hw1 hb1).size, hbk4, Kd.R_below (Kd.R_lower o3 (Nat.le_trans hw1.size r1.hB.size)) hw4, rq_below hw1 hb2⟩ hd5.below
  have hO0 : Kd.R (Kd.int .u8) 5 w5 w.heap.size (fun _ => True) (.slice A1' b.length c1') b := Kd.R_below (Kd.R_below o1 hb2) hd5.below
  have hRg : ∀ g, g < w1.heap.size → g ≠ R := fun g hg e => by have := r1.le; omega
  have hMg : ∀ g, g < w1.heap.size → g ≠ w3.heap.size := fun g hg e => by have := hb1.size; omega
  have hvg : ∀ g, g < w1.heap.size → some g ≠ v.ownBlock := fun g hg e => by have := Kd.R_base r1.hR _ e.symm; omega
  have hug : ∀ g, g < w1.heap.size → some g ≠ (Value.slice A3 b.length c3).ownBlock := fun g hg e => by have := Kd.R_base o3 _ e.symm; have := r1.hB.size; omega
  have hg1 : ∀ k, (Value.slice A1' b.length c1').ownBlock = some k → k < w1.heap.size := Kd.R_lt o1
  generalize w3.heap.size = M at *
  generalize Value.slice A3 b.length c3 = u at *
  clear oc1 n1 o3 hw3 hw4 hbk4 hb1 hb2 o1 hd5 hw1 r1
  go_loopw [8] (fun i wr => ∃ (k : Nat) (xs : List Int), k ≤ b.length ∧ xs.length = b.length ∧ i = .int .i64 (k : Int) ∧ Kd.R (Kd.int .u8) 5 wr w.heap.size (fun _ => True) (.slice A1' b.length c1') xs ∧ RdIn w R v b 0 wr ∧ MdIn w M u b 0 wr) (fun i _ => b.length - (intOf i).toNat)
  case atStart => exact ⟨0, b, Nat.zero_le _, rfl, rfl, hO0, hR0, hM0⟩
  case round =>
    obtain ⟨k, xs, hk, hxl, rfl, ho, hrr, hmm⟩ := hrel
    by_cases hlt : k < b.length
    · have s1 : decide ((k : Int) < (b.length : Int)) = true := decide_eq_true (by omega)
      have p1 : (k < b.length) = True := eq_true hlt
      obtain ⟨g, cap, ev, hg0, hgx, cells, hcl⟩ := Kd.R_form ho (by omega)
      rw [hxl] at ev
      injection ev with e1 e2 e3
      subst e1
      subst e3
      have hgl := hg1 g rfl
      have hcell := Kd.R_celln 0 ho (k : Int) (by omega) (by omega)
      rw [Int.toNat_natCast] at hcell
      obtain ⟨hc1, hf1⟩ := hcell
      have hput := fun x => Kd.R_putn ho (k : Int) x
      simp only [Int.toNat_natCast] at hput
      have HP := Aside0.mk hput
      have HR2 := Aside0.mk (fun x => hrr.far (hRg g hgl) (hvg g hgl) (by omega) k x)
      have HM2 := Aside0.mk (fun x => hmm.far (hMg g hgl) (hug g hgl) (by omega) k x)
      clear hput
      generalize rdOf 0 xs (k : Int) = x at hc1
      go_wp2_with fail
      go_roundw
      case rel => exact ⟨k + 1, _, by omega, by rw [List.length_set]; exact hxl, by go_num, HP.out _, HR2.out _, HM2.out _⟩
      case measure => simp only [intOf]; omega
    · have s1 : decide ((k : Int) < (b.length : Int)) = false := decide_eq_false (by omega)
      clear hg1 hug hvg hMg hRg hR0 hM0 hO0 ho
      go_wp2_with fail
      go_loopw [9] (fun i wr => ∃ (j n : Nat), j ≤ acts.length ∧ n ≤ b.length ∧ i = .int .i64 (j : Int) ∧ RdIn w R v b n wr ∧ MdIn w M u b n wr) (fun i _ => acts.length - (intOf i).toNat)
      case atStart => exact ⟨0, 0, Nat.zero_le _, Nat.zero_le _, rfl, hrr, hmm⟩
      case round =>
        obtain ⟨j, n, hj, hn, rfl, hr, hmd⟩ := hrel
        by_cases hlt2 : j < acts.length
        · have s2 : decide ((j : Int) < (acts.length : Int)) = true := decide_eq_true (by omega)
          have p2 : (j < acts.length) = True := eq_true hlt2
          obtain ⟨ad, e, h0, h1⟩ := at_T47 (Kd.C_below HCA.out hr.hB) (j : Int) (by omega) (by omega)
          subst e
          rw [Int.toNat_natCast] at h0 h1
          have hac := HA.out (rd_T47 acts (j : Int)) (by
            unfold rd_T47
            rw [Int.toNat_natCast, List.getD_eq_getElem?_getD, List.getElem?_eq_getElem hlt2]
            exact List.getElem_mem hlt2)
          generalize rd_T47 acts (j : Int) = act at h0 h1 hac
          have RD := rd_reads w R M v u b n wr.drew (hr.below (Below.refl _ _).drew) (hmd.below (Below.refl _ _).drew) (HM.out.below hr.hB.drew) act.f0 act.f1 hac.1 hac.2 hn (by omega) HB.out (fun q hq => rq_same q hq)
          generalize act.f0 = kd at *
          generalize act.f1 = N at *
          go_wp2_with fail
          refine start_ (n := 29) (S := fun w' => True) (ds := []) #[false, false, false, false, false, false, false, false, false, false, false, false, false, false, false, false, false, false, false, false, false, false, false, false, false, false, false, false, false] (by kernel_rfl) rfl rfl trivial (fun hHeld => ?_)
          refine pure_ (i := 0) (N := some 52) (v := ?_) (a' := ?_) #[true, false, false, false, false, false, false, false, false, false, false, false, false, false, false, false, false, false, false, false, false, false, false, false, false, false, false, false, false] rfl rfl (by kernel_rfl) (fun _ _ _ h => h) (Or.inl ⟨by rfl, ?_⟩) ?_ ?_
          rotate_left
          · intro w'
            go_simp
            with_reducible rfl
          rotate_left
          · simp only [Act.put, List.setIfInBounds_toArray, List.set_cons_zero, List.set_cons_succ, i64_w, i32_w]
            rfl
          refine pure_ (i := 1) (N := some 53) (v := ?_) (a' := ?_) #[true, true, false, false, false, false, false, false, false, false, false, false, false, false, false, false, false, false, false, false, false, false, false, false, false, false, false, false, false] rfl rfl (by kernel_rfl) (fun _ _ _ h => h) (Or.inl ⟨by rfl, ?_⟩) ?_ ?_
          rotate_left
          · intro w'
            go_simp
            with_reducible rfl
          rotate_left
          · simp only [Act.put, List.setIfInBounds_toArray, List.set_cons_zero, List.set_cons_succ, i64_w, i32_w]
            rfl
          refine pure_ (i := 2) (N := some 54) (v := ?_) (a' := ?_) #[true, true, true, false, false, false, false, false, false, false, false, false, false, false, false, false, false, false, false, false, false, false, false, false, false, false, false, false, false] rfl rfl (by kernel_rfl) (fun _ _ _ h => h) (Or.inl ⟨by rfl, ?_⟩) ?_ ?_
          rotate_left
          · intro w'
            go_simp
            with_reducible rfl
          rotate_left
          · simp only [Act.put, List.setIfInBounds_toArray, List.set_cons_zero, List.set_cons_succ, i64_w, i32_w]
            rfl
          refine pure_ (i := 3) (N := some 55) (v := ?_) (a' := ?_) #[true, true, true, true, false, false, false, false, false, false, false, false, false, false, false, false, false, false, false, false, false, false, false, false, false, false, false, false, false] rfl rfl (by kernel_rfl) (fun _ _ _ h => h) (Or.inl ⟨by rfl, ?_⟩) ?_ ?_
          rotate_left
          · intro w'
            go_simp
            with_reducible rfl
          rotate_left
          · simp only [Act.put, List.setIfInBounds_toArray, List.set_cons_zero, List.set_cons_succ, i64_w, i32_w]
            rfl
          refine pure_ (i := 4) (N := some 56) (v := ?_) (a' := ?_) #[true, true, true, true, true, false, false, false, false, false, false, false, false, false, false, false, false, false, false, false, false, false, false, false, false, false, false, false, false] rfl rfl (by kernel_rfl) (fun _ _ _ h => h) (Or.inl ⟨by rfl, ?_⟩) ?_ ?_
          rotate_left
          · intro w'
            go_simp
            with_reducible rfl
          rotate_left
          · simp only [Act.put, List.setIfInBounds_toArray, List.set_cons_zero, List.set_cons_succ, i64_w, i32_w]
            rfl
          refine one_ (i := 5) (N := some 57) #[true, true, true, true, true, true, false, false, false, false, false, false, false, false, false, false, false, false, false, false, false, false, false, false, false, false, false, false, false] rfl rfl (by kernel_rfl) (by decide) (fun K hK => ?_)
          refine value_ (w1 := ?_) (v := ?_) (by rfl) rfl ?_ ?_
          rotate_left 2
          · go_simp
            constructor
            · rfl
            · rfl
          refine hK.out _ _ trivial (fun hHeld => ?_)
          clear hK K
          refine norm_ (a' := ?_) ?_ ?_
          rotate_left
          · show Act.put _ (some 57) _ = _
            simp only [Act.put, List.setIfInBounds_toArray, List.set_cons_zero, List.set_cons_succ, i64_w, i32_w]
            rfl
          refine one_ (i := 6) (N := some 58) #[true, true, true, true, true, true, true, false, false, false, false, false, false, false, false, false, false, false, false, false, false, false, false, false, false, false, false, false, false] rfl rfl (by kernel_rfl) (by decide) (fun K hK => ?_)
          refine goes_ Try.func22 (by kernel_rfl) rfl #[.pointer (some ⟨R, 0, none⟩), .pointer (some ⟨M, 0, none⟩), .agg #[.int .u8 kd, .int .i64 N]] (by rfl) rfl rfl (by simp only [List.map_toArray, List.map_cons, List.map_nil]; rfl) ?_
          with_reducible refine (RD).mono ?_
          rintro e w6 ⟨rfl, n2, hn2, hr2, hm2⟩
          refine ⟨_, rfl, ?_⟩
          refine hK.out _ _ trivial (fun hHeld => ?_)
          clear hK K
          refine norm_ (a' := ?_) ?_ ?_
          rotate_left
          · show Act.put _ (some 58) _ = _
            simp only [Act.put, List.setIfInBounds_toArray, List.set_cons_zero, List.set_cons_succ, i64_w, i32_w]
            rfl
          have d1 : w6.cell? ⟨M, 1, none⟩ = some (.int .i64 (n2 : Int)) := (rd_cell hm2.blk 1).trans rfl
          clear hHeld
          refine Go.Proofs.Ytlpibchjcmndjaa.SL.swap_ (S' := fun w' => (w'.cell? ⟨M, 1, none⟩ = some (.int .i64 (n2 : Int))) ∧ (RdIn w R v b n2 w') ∧ (MdIn w M u b n2 w')) (ds' := []) ⟨d1, hr2, hm2⟩ (fun hHeld => ?_)
          refine pure_ (i := 7) (N := some 59) (v := ?_) (a' := ?_) #[true, true, true, true, true, true, true, true, false, false, false, false, false, false, false, false, false, false, false, false, false, false, false, false, false, false, false, false, false] rfl rfl (by kernel_rfl) (fun _ _ _ h => h) (Or.inl ⟨by rfl, ?_⟩) ?_ ?_
          rotate_left
          · intro w'
            go_simp
            with_reducible rfl
          rotate_left
          · simp only [Act.put, List.setIfInBounds_toArray, List.set_cons_zero, List.set_cons_succ, i64_w, i32_w]
            rfl
          refine pure_ (i := 8) (N := some 60) (v := ?_) (a' := ?_) #[true, true, true, true, true, true, true, true, true, false, false, false, false, false, false, false, false, false, false, false, false, false, false, false, false, false, false, false, false] rfl rfl (by kernel_rfl) (fun _ _ _ h => h) (Or.inl ⟨by rfl, ?_⟩) ?_ ?_
          rotate_left
          · intro w'
            go_simp
            with_reducible rfl
          rotate_left
          · simp only [Act.put, List.setIfInBounds_toArray, List.set_cons_zero, List.set_cons_succ, i64_w, i32_w]
            rfl
          refine pure_ (i := 9) (N := some 61) (v := ?_) (a' := ?_) #[true, true, true, true, true, true, true, true, true, true, false, false, false, false, false, false, false, false, false, false, false, false, false, false, false, false, false, false, false] rfl rfl (by kernel_rfl) (fun _ _ _ h => h) (Or.inl ⟨by rfl, ?_⟩) ?_ ?_
          rotate_left
          · intro w'
            go_simp
            with_reducible rfl
          rotate_left
          · simp only [Act.put, List.setIfInBounds_toArray, List.set_cons_zero, List.set_cons_succ, i64_w, i32_w]
            rfl
          refine pure_ (i := 11) (N := some 63) (v := ?_) (a' := ?_) #[true, true, true, true, true, true, true, true, true, true, false, true, false, false, false, false, false, false, false, false, false, false, false, false, false, false, false, false, false] rfl rfl (by kernel_rfl) (fun _ _ _ h => h) (Or.inl ⟨by rfl, ?_⟩) ?_ ?_
          rotate_left
          · intro w'
            go_simp
            with_reducible rfl
          rotate_left
          · simp only [Act.put, List.setIfInBounds_toArray, List.set_cons_zero, List.set_cons_succ, i64_w, i32_w]
            rfl
          refine pure_ (i := 12) (N := some 64) (v := ?_) (a' := ?_) #[true, true, true, true, true, true, true, true, true, true, false, true, true, false, false, false, false, false, false, false, false, false, false, false, false, false, false, false, false] rfl rfl (by kernel_rfl) (fun _ _ _ h => h) (Or.inl ⟨by rfl, ?_⟩) ?_ ?_
          rotate_left
          · intro w'
            go_simp
            with_reducible rfl
          rotate_left
          · simp only [Act.put, List.setIfInBounds_toArray, List.set_cons_zero, List.set_cons_succ, i64_w, i32_w]
            rfl
          refine pure_ (i := 13) (N := some 65) (v := ?_) (a' := ?_) #[true, true, true, true, true, true, true, true, true, true, false, true, true, true, false, false, false, false, false, false, false, false, false, false, false, false, false, false, false] rfl rfl (by kernel_rfl) (fun _ _ _ h => h) (Or.inl ⟨by rfl, ?_⟩) ?_ ?_
          rotate_left
          · intro w'
            go_simp
            with_reducible rfl
          rotate_left
          · simp only [Act.put, List.setIfInBounds_toArray, List.set_cons_zero, List.set_cons_succ, i64_w, i32_w]
            rfl
          refine take_ (i := 14) (N := some 66) (v := ?_) (a' := ?_) #[true, true, true, true, true, true, true, true, true, true, false, true, true, true, true, false, false, false, false, false, false, false, false, false, false, false, false, false, false] rfl rfl (by kernel_rfl) (fun _ _ _ h => h) (Or.inl ⟨by rfl, ?_⟩) hHeld ?_ ?_
          rotate_left
          · rintro w' ⟨s0, s1, s2⟩
            go_simp
            with_reducible rfl
          rotate_left
          · simp only [Act.put, List.setIfInBounds_toArray, List.set_cons_zero, List.set_cons_succ, i64_w, i32_w]
            rfl
          refine one_ (i := 10) (N := some 62) #[true, true, true, true, true, true, true, true, true, true, true, true, true, true, true, false, false, false, false, false, false, false, false, false, false, false, false, false, false] rfl rfl (by kernel_rfl) (by decide) (fun K hK => ?_)
          refine goes_ Try.func17 (by kernel_rfl) rfl #[.pointer (some ⟨R, 0, none⟩)] (by rfl) rfl rfl (by simp only [List.map_toArray, List.map_cons, List.map_nil]; rfl) ?_
          with_reducible refine (rd_At _ R _ _ _ _ hHeld.2.1).mono ?_
          rintro e a1 ⟨rfl, ha1⟩
          obtain rfl := ha1.symm
          refine ⟨_, rfl, ?_⟩
          refine hK.out _ _ ⟨hHeld.1, hHeld.2.1, hHeld.2.2⟩ (fun hHeld => ?_)
          clear hK K
          refine norm_ (a' := ?_) ?_ ?_
          rotate_left
          · show Act.put _ (some 62) _ = _
            simp only [Act.put, List.setIfInBounds_toArray, List.set_cons_zero, List.set_cons_succ, i64_w, i32_w]
            rfl
          refine pure_ (i := 15) (N := some 67) (v := ?_) (a' := ?_) #[true, true, true, true, true, true, true, true, true, true, true, true, true, true, true, true, false, false, false, false, false, false, false, false, false, false, false, false, false] rfl rfl (by kernel_rfl) (fun _ _ _ h => h) (Or.inl ⟨by rfl, ?_⟩) ?_ ?_
          rotate_left
          · intro w'
            go_simp
            with_reducible rfl
          rotate_left
          · simp only [Act.put, List.setIfInBounds_toArray, List.set_cons_zero, List.set_cons_succ, i64_w, i32_w]
            rfl
          refine pure_ (i := 16) (N := some 68) (v := ?_) (a' := ?_) #[true, true, true, true, true, true, true, true, true, true, true, true, true, true, true, true, true, false, false, false, false, false, false, false, false, false, false, false, false] rfl rfl (by kernel_rfl) (fun _ _ _ h => h) (Or.inl ⟨by rfl, ?_⟩) ?_ ?_
          rotate_left
          · intro w'
            go_simp
            with_reducible rfl
          rotate_left
          · simp only [Act.put, List.setIfInBounds_toArray, List.set_cons_zero, List.set_cons_succ, i64_w, i32_w]
            rfl
          refine pure_ (i := 17) (N := some 69) (v := ?_) (a' := ?_) #[true, true, true, true, true, true, true, true, true, true, true, true, true, true, true, true, true, true, false, false, false, false, false, false, false, false, false, false, false] rfl rfl (by kernel_rfl) (fun _ _ _ h => h) (Or.inl ⟨by rfl, ?_⟩) ?_ ?_
          rotate_left
          · intro w'
            go_simp
            with_reducible rfl
          rotate_left
          · simp only [Act.put, List.setIfInBounds_toArray, List.set_cons_zero, List.set_cons_succ, i64_w, i32_w]
            rfl
          refine pure_ (i := 18) (N := some 70) (v := ?_) (a' := ?_) #[true, true, true, true, true, true, true, true, true, true, true, true, true, true, true, true, true, true, true, false, false, false, false, false, false, false, false, false, false] rfl rfl (by kernel_rfl) (fun _ _ _ h => h) (Or.inl ⟨by rfl, ?_⟩) ?_ ?_
          rotate_left
          · intro w'
            go_simp
            with_reducible rfl
          rotate_left
          · simp only [Act.put, List.setIfInBounds_toArray, List.set_cons_zero, List.set_cons_succ, i64_w, i32_w]
            rfl
          refine pure_ (i := 20) (N := some 72) (v := ?_) (a' := ?_) #[true, true, true, true, true, true, true, true, true, true, true, true, true, true, true, true, true, true, true, false, true, false, false, false, false, false, false, false, false] rfl rfl (by kernel_rfl) (fun _ _ _ h => h) (Or.inl ⟨by rfl, ?_⟩) ?_ ?_
          rotate_left
          · intro w'
            go_simp
            with_reducible rfl
          rotate_left
          · simp only [Act.put, List.setIfInBounds_toArray, List.set_cons_zero, List.set_cons_succ, i64_w, i32_w]
            rfl
          refine pure_ (i := 21) (N := some 73) (v := ?_) (a' := ?_) #[true, true, true, true, true, true, true, true, true, true, true, true, true, true, true, true, true, true, true, false, true, true, false, false, false, false, false, false, false] rfl rfl (by kernel_rfl) (fun _ _ _ h => h) (Or.inl ⟨by rfl, ?_⟩) ?_ ?_
          rotate_left
          · intro w'
            go_simp
            with_reducible rfl
          rotate_left
          · simp only [Act.put, List.setIfInBounds_toArray, List.set_cons_zero, List.set_cons_succ, i64_w, i32_w]
            rfl
          refine pure_ (i := 22) (N := some 74) (v := ?_) (a' := ?_) #[true, true, true, true, true, true, true, true, true, true, true, true, true, true, true, true, true, true, true, false, true, true, true, false, false, false, false, false, false] rfl rfl (by kernel_rfl) (fun _ _ _ h => h) (Or.inl ⟨by rfl, ?_⟩) ?_ ?_
          rotate_left
          · intro w'
            go_simp
            with_reducible rfl
          rotate_left
          · simp only [Act.put, List.setIfInBounds_toArray, List.set_cons_zero, List.set_cons_succ, i64_w, i32_w]
            rfl
          refine pure_ (i := 23) (N := some 75) (v := ?_) (a' := ?_) #[true, true, true, true, true, true, true, true, true, true, true, true, true, true, true, true, true, true, true, false, true, true, true, true, false, false, false, false, false] rfl rfl (by kernel_rfl) (fun _ _ _ h => h) (Or.inl ⟨by rfl, ?_⟩) ?_ ?_
          rotate_left
          · intro w'
            go_simp
            with_reducible rfl
          rotate_left
          · simp only [Act.put, List.setIfInBounds_toArray, List.set_cons_zero, List.set_cons_succ, i64_w, i32_w]
            rfl
          refine pure_ (i := 24) (N := some 76) (v := ?_) (a' := ?_) #[true, true, true, true, true, true, true, true, true, true, true, true, true, true, true, true, true, true, true, false, true, true, true, true, true, false, false, false, false] rfl rfl (by kernel_rfl) (fun _ _ _ h => h) (Or.inl ⟨by rfl, ?_⟩) ?_ ?_
          rotate_left
          · intro w'
            go_simp
            with_reducible rfl
          rotate_left
          · simp only [Act.put, List.setIfInBounds_toArray, List.set_cons_zero, List.set_cons_succ, i64_w, i32_w]
            rfl
          refine take_ (i := 25) (N := some 77) (v := ?_) (a' := ?_) #[true, true, true, true, true, true, true, true, true, true, true, true, true, true, true, true, true, true, true, false, true, true, true, true, true, true, false, false, false] rfl rfl (by kernel_rfl) (fun _ _ _ h => h) (Or.inl ⟨by rfl, ?_⟩) hHeld ?_ ?_
          rotate_left
          · rintro w' ⟨s0, s1, s2⟩
            go_simp
            with_reducible rfl
          rotate_left
          · simp only [Act.put, List.setIfInBounds_toArray, List.set_cons_zero, List.set_cons_succ, i64_w, i32_w]
            rfl
          refine pure_ (i := 26) (N := some 78) (v := ?_) (a' := ?_) #[true, true, true, true, true, true, true, true, true, true, true, true, true, true, true, true, true, true, true, false, true, true, true, true, true, true, true, false, false] rfl rfl (by kernel_rfl) (fun _ _ _ h => h) (Or.inl ⟨by rfl, ?_⟩) ?_ ?_
          rotate_left
          · intro w'
            go_simp
            with_reducible rfl
          rotate_left
          · simp only [Act.put, List.setIfInBounds_toArray, List.set_cons_zero, List.set_cons_succ, i64_w, i32_w]
            rfl
          refine one_ (i := 19) (N := some 71) #[true, true, true, true, true, true, true, true, true, true, true, true, true, true, true, true, true, true, true, true, true, true, true, true, true, true, true, false, false] rfl rfl (by kernel_rfl) (by decide) (fun K hK => ?_)
          refine goes_ Try.func18 (by kernel_rfl) rfl #[.pointer (some ⟨R, 0, none⟩)] (by rfl) rfl rfl (by simp only [List.map_toArray, List.map_cons, List.map_nil]; rfl) ?_
          with_reducible refine (rd_Left _ R _ _ _ _ hHeld.2.1 hn2 (by omega)).mono ?_
          rintro e a2 ⟨rfl, ha2⟩
          have hm7 := hHeld.2.2.below ha2.below
          refine ⟨_, rfl, ?_⟩
          refine hK.out _ _ ⟨by have := rd_cell hm7.blk 1; simpa using this, hHeld.2.1.below ha2.below, hm7⟩ (fun hHeld => ?_)
          clear hK K
          refine norm_ (a' := ?_) ?_ ?_
          rotate_left
          · show Act.put _ (some 71) _ = _
            simp only [Act.put, List.setIfInBounds_toArray, List.set_cons_zero, List.set_cons_succ, i64_w, i32_w]
            rfl
          refine pure_ (i := 27) (N := some 79) (v := ?_) (a' := ?_) #[true, true, true, true, true, true, true, true, true, true, true, true, true, true, true, true, true, true, true, true, true, true, true, true, true, true, true, true, false] rfl rfl (by kernel_rfl) (fun _ _ _ h => h) (Or.inl ⟨by rfl, ?_⟩) ?_ ?_
          rotate_left
          · intro w'
            go_simp
            with_reducible rfl
          rotate_left
          · simp only [Act.put, List.setIfInBounds_toArray, List.set_cons_zero, List.set_cons_succ, i64_w, i32_w]
            rfl
          refine pure_ (i := 28) (N := some 80) (v := ?_) (a' := ?_) #[true, true, true, true, true, true, true, true, true, true, true, true, true, true, true, true, true, true, true, true, true, true, true, true, true, true, true, true, true] rfl rfl (by kernel_rfl) (fun _ _ _ h => h) (Or.inl ⟨by rfl, ?_⟩) ?_ ?_
          rotate_left
          · intro w'
            go_simp
            with_reducible rfl
          rotate_left
          · simp only [Act.put, List.setIfInBounds_toArray, List.set_cons_zero, List.set_cons_succ, i64_w, i32_w]
            rfl
          refine done_ (by kernel_rfl) ?_
          obtain ⟨_, hr9, hm9⟩ := hHeld
          have kw : ((b.length : Int) - (n2 : Int) != wrap64 ((b.length : Int) - (n2 : Int))) = false := by
            rw [show wrap64 ((b.length : Int) - (n2 : Int)) = (b.length : Int) - (n2 : Int) by unfold wrap64; omega]
            simp
          go_wp2_with fail
          go_roundw
          case rel => exact ⟨j + 1, n2, by omega, hn2, by go_num, hr9, hm9⟩
          case measure => simp only [intOf]; omega
        · have s2 : decide ((j : Int) < (acts.length : Int)) = false := decide_eq_false (by omega)
          go_wp2_with fail
          go_ret
          exact ⟨rfl, hr.hB⟩

/-- THE ONE PURE STATEMENT of postilionlaw02_AsciiReads: yours. -/
def postilionlaw02_AsciiReads.Pure : Prop := ∀ (l0 : List Int) (l1 : List (S47)), l0.length ≤ maxLen → l0.length * 1 ≤ 140737488351232 → (∀ x ∈ l0, (Lit.int .u8 x).wf = true) → l1.length ≤ maxLen → (∀ y_ ∈ l1, ((Lit.int .u8 y_.f0).wf = true) ∧ ((Lit.int .i64 y_.f1).wf = true)) → postilionlaw02_AsciiReads.f l0 l1 = some true

end Go.Proofs.Ytlpibchjcmndjaa.P
