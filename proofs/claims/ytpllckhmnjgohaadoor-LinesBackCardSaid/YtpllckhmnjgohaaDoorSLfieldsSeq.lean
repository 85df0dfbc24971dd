import Derived.Test.YtpllckhmnjgohaaDoorSLsplitSeq
import Derived.Lib.Space
namespace Go.Proofs.YtpllckhmnjgohaaDoor.P
open Go.RowKit Go.Proofs.YtpllckhmnjgohaaDoorW.PrintWords Go.Proofs.YtpllckhmnjgohaaDoorW.PrintLast Go.Proofs.YtpllckhmnjgohaaDoorW.PrintMore
set_option linter.unusedVariables false
set_option linter.unusedSimpArgs false
set_option linter.unnecessarySimpa false
attribute [local go_sem] max2_int min2_int max_two min_two max_three min_three max_four min_four
set_option linter.unusedVariables false
set_option linter.unusedSimpArgs false
set_option linter.unnecessarySimpa false
attribute [local go_sem] Oper.semAt_some
/-! ### strings.FieldsSeq at bytes from 32 to 126 -/
def fldG : List UInt8 → List UInt8 → List (List UInt8)
  | cur, [] => if cur = [] then [] else [cur]
  | cur, x :: xs => if x = 32 then (if cur = [] then fldG [] xs else cur :: fldG [] xs) else fldG (cur ++ [x]) xs
/-- A line's words. -/
def fieldsT (s : ByteArray) : List ByteArray := (fldG [] s.data.toList).map fun l => ⟨l.toArray⟩
def spTab (W : World) : Prop := ∀ c : Nat, c < 256 → W.cell? ⟨0, c, none⟩ = some (.int .u8 (if Lib.isSp (UInt8.ofNat c) then 1 else 0))
def plainT (s : ByteArray) : Prop := ∀ (j : Nat) (b : UInt8), s.data.toList[j]? = some b → 32 ≤ b.toNat ∧ b.toNat ≤ 126
def fsSees (H : Nat) (s : ByteArray) (W : World) : Prop := Boxed W H 9 (.string s) ∧ spTab W
def fsKeeps (H : Nat) (s : ByteArray) (A B : World) : Prop := fsSees H s A → fsSees H s B
theorem spTab_below1 {W W' : World} {p : Addr} {v : Value} (h : W.cell? p = some v) (hb : Below W.heap.size W W') : W'.cell? p = some v := by
  have hlt : p.block < W.heap.size := by
    obtain ⟨o, ho, _⟩ := cells_of_cell h
    exact (Array.getElem?_eq_some_iff.1 ho).1
  exact (World.cell?_of_block (hb.block _ hlt)).trans h
theorem spTab_below {W W' : World} (h : spTab W) (hb : Below W.heap.size W W') : spTab W' := fun c hc => spTab_below1 (h c hc) hb
theorem fldG_word {x : UInt8} (h : x ≠ 32) (cur xs : List UInt8) : fldG cur (x :: xs) = fldG (cur ++ [x]) xs := by rw [fldG, if_neg h]
theorem fldG_gap (xs : List UInt8) : fldG [] (32 :: xs) = fldG [] xs := by rw [fldG, if_pos rfl, if_pos rfl]
theorem fldG_end {cur : List UInt8} (h : cur ≠ []) (xs : List UInt8) : fldG cur (32 :: xs) = cur :: fldG [] xs := by rw [fldG, if_pos rfl, if_neg h]
theorem isSp_plain (b : UInt8) (h1 : 32 ≤ b.toNat) (h2 : b.toNat ≤ 126) : Lib.isSp b = decide (b = 32) := by
  have key : ∀ n : Fin 256, 32 ≤ n.val → n.val ≤ 126 → Lib.isSp (UInt8.ofNat n.val) = decide (UInt8.ofNat n.val = 32) := by decide +kernel
  have := key ⟨b.toNat, b.toNat_lt⟩ h1 h2
  simpa using this
theorem bytes_mid (s : ByteArray) (a b : Nat) (h : b ≤ s.size) : (⟨((s.data.toList.take b).drop a).toArray⟩ : ByteArray) = s.extract a b := by
  apply ByteArray.ext
  apply Array.ext'
  rw [ByteArray.data_extract, Array.toList_extract]
  simp [List.extract, List.drop_take]
theorem take_drop_more {l : List UInt8} {a i : Nat} (h : i < l.length) (ha : a ≤ i) : (l.take (i + 1)).drop a = (l.take i).drop a ++ [l[i]] := by
  rw [List.take_succ_eq_append_getElem h, List.drop_append_of_le_length (by rw [List.length_take]; omega)]
set_option maxRecDepth 100000 in
set_option maxHeartbeats 4000000 in
theorem fs_seq1 (H : Nat) (s : ByteArray) (n : Nat) (hn : 3 ≤ n) (lb : Nat) (J Jx : Nat → World → Prop) (W : World)
    (hY : ∀ k A, J k A → k < (fieldsT s).length → YieldAt Fence.wide (n - 1) Tryd.prog lb #[.string ((fieldsT s).getD k ByteArray.empty)] A fun e B =>
      (e = .returned (.bool true) ∧ J (k + 1) B ∧ fsKeeps H s A B) ∨ (e = .returned (.bool false) ∧ Jx k B))
    (hS : fsSees H s W) (h0 : J 0 W) (hsz : s.size ≤ 1000000) (hpl : plainT s) :
    CallsIn Fence.wide n Tryd.prog 30 #[.func (.yield lb) #[] #[], .pointer (some ⟨H, 0, none⟩)] W fun e W' => (∃ v, e = .returned v) ∧
      (J (fieldsT s).length W' ∨ ∃ k, k < (fieldsT s).length ∧ Jx k W') := by
  refine callsIn_of_wp Tryd.func30 rfl trivial ?_ rfl
  simp only [Tryd.ntmps30, List.size_toArray, List.length_cons, List.length_nil, Nat.reduceAdd, Nat.reduceSub, Array.replicate_succ, Array.replicate_zero, List.push_toArray, List.append_toArray, List.nil_append, List.cons_append]
  have HS := Aside0.mk hS
  have HY := Aside0.mk hY
  have H0 := Aside0.mk h0
  have HP := Aside0.mk hpl
  clear hY h0 hS hpl
  gi_wp2
  gi_loopw [3, 4] (fun st ii wr => ∃ (k i : Nat) (cur : List UInt8), i ≤ s.size ∧ ii = .int .i64 (i : Int) ∧ fsSees H s wr ∧ J k wr ∧ k ≤ (fieldsT s).length ∧ (fldG cur (s.data.toList.drop i)).map (fun l => (⟨l.toArray⟩ : ByteArray)) = (fieldsT s).drop k ∧
      ((st = .int .i64 (-1) ∧ cur = []) ∨ ∃ a : Nat, a < i ∧ st = .int .i64 (a : Int) ∧ cur = (s.data.toList.take i).drop a)) (fun _ ii _ => s.size - (intOf ii).toNat)
  case atStart => exact ⟨0, 0, [], Nat.zero_le _, rfl, HS.out, H0.out, Nat.zero_le _, rfl, .inl ⟨rfl, rfl⟩⟩
  case round =>
    obtain ⟨k, i, cur, hi, rfl, hS, hJ, hkk, hr, hst⟩ := hrel
    have cS := hS.1.cell
    by_cases hlt : i < s.size
    · have hl2 : i < s.data.toList.length := by rw [data_length]; exact hlt
      have p1 : decide ((i : Int) < (s.size : Int)) = true := decide_eq_true (by omega)
      obtain ⟨hb1, hb2⟩ := HP.out i _ (List.getElem?_eq_getElem hl2)
      have hx4 : (s.data.toList[i]'hl2) = s[i]'hlt := rfl
      rw [List.drop_eq_getElem_cons hl2, hx4] at hr
      rw [hx4] at hb1 hb2
      have hmore := fun (a : Nat) (ha : a ≤ i) => take_drop_more hl2 ha
      rw [hx4] at hmore
      have hT := hS.2 (s[i]'hlt).toNat (UInt8.toNat_lt _)
      rw [show UInt8.ofNat (s[i]'hlt).toNat = s[i]'hlt by simp, isSp_plain _ hb1 hb2] at hT
      have hspace : s[i]'hlt = 32 ↔ (s[i]'hlt).toNat = 32 := ⟨fun h => by rw [h]; rfl, fun h => by
        apply UInt8.toNat_inj.1
        rw [h]; rfl⟩
      have p2 : decide ((128 : Int) ≤ ((s[i]'hlt).toNat : Int)) = false := decide_eq_false (by omega)
      by_cases hsp : s[i]'hlt = 32
      · rw [decide_eq_true hsp] at hT
        simp only [if_true] at hT
        rw [hsp] at hr
        rcases hst with ⟨rfl, rfl⟩ | ⟨a, ha, rfl, rfl⟩
        · rw [fldG_gap] at hr
          have HR := Aside0.mk hr
          have HSS := Aside0.mk hS
          clear hr hmore hspace hS hsp
          gi_wp2
          exact ⟨⟨k, i + 1, [], by omega, by simp, HSS.out, hJ, hkk, HR.out, .inl ⟨rfl, rfl⟩⟩, by simp [intOf]; omega⟩
        · have hcur : (s.data.toList.take i).drop a ≠ [] := by
            intro e
            have := congrArg List.length e
            rw [List.length_drop, List.length_take] at this
            simp at this
            omega
          rw [fldG_end hcur, List.map_cons] at hr
          obtain ⟨hk, hg, hd⟩ := drop_cons (d := ByteArray.empty) hr
          obtain ⟨fn, tmps, assign, body, hy, hR⟩ := HY.out k wr hJ hk
          rw [hg] at hy
          simp only [bytes_mid s a i hi] at hy
          have HD := Aside0.mk hd
          have HSS := Aside0.mk hS
          have HK := Aside0.mk hk
          have q3 : decide ((0 : Int) ≤ (a : Int)) = true := decide_eq_true (by omega)
          have q4 : (0 : Int) ≤ (a : Int) := by omega
          have q5 : (a : Int) ≤ (i : Int) := by omega
          have q6 : (i : Int) ≤ (s.size : Int) := by omega
          clear hr hmore hspace hS hsp hg hd hcur hk hJ
          gi_wp2
          refine ⟨fun h => (by cases h), hR.mono ?_⟩
          rintro e W3 (⟨rfl, hJ3, hk3⟩ | ⟨rfl, hJx3⟩)
          · have HS3 := Aside0.mk (hk3 HSS.out)
            gi_wp2
            go_roundw
            case rel => exact ⟨k + 1, i + 1, [], by omega, by simp, HS3.out, hJ3, HK.out, HD.out.symm, .inl ⟨rfl, rfl⟩⟩
            case measure => simp [intOf]; omega
          · gi_wp2
            refine bodyPost_ret (results_none rfl _ _ _) rfl ?_
            exact ⟨⟨_, rfl⟩, .inr ⟨k, HK.out, hJx3⟩⟩
      · rw [decide_eq_false hsp] at hT
        simp only [if_false, Bool.false_eq_true] at hT
        rw [fldG_word hsp] at hr
        rcases hst with ⟨rfl, rfl⟩ | ⟨a, ha, rfl, rfl⟩
        · have e1 : ([] : List UInt8) ++ [s[i]'hlt] = (s.data.toList.take (i + 1)).drop i := by
            rw [hmore i (Nat.le_refl _)]
            simp
          rw [e1] at hr
          have HR := Aside0.mk hr
          have HSS := Aside0.mk hS
          clear hr hmore hspace hS hsp e1
          gi_wp2
          exact ⟨⟨k, i + 1, _, by omega, by simp, HSS.out, hJ, hkk, HR.out, .inr ⟨i, by omega, by simp, rfl⟩⟩, by simp [intOf]; omega⟩
        · rw [← hmore a (by omega)] at hr
          have HR := Aside0.mk hr
          have HSS := Aside0.mk hS
          have q3 : decide ((a : Int) < 0) = false := decide_eq_false (by omega)
          clear hr hmore hspace hS hsp
          gi_wp2
          exact ⟨⟨k, i + 1, _, by omega, by simp, HSS.out, hJ, hkk, HR.out, .inr ⟨a, by omega, by simp, rfl⟩⟩, by simp [intOf]; omega⟩
    · have p1 : decide ((i : Int) < (s.size : Int)) = false := decide_eq_false (by omega)
      have e0 : s.data.toList.drop i = [] := List.drop_eq_nil_of_le (by rw [data_length]; omega)
      rw [e0] at hr
      rcases hst with ⟨rfl, rfl⟩ | ⟨a, ha, rfl, rfl⟩
      · obtain rfl : k = (fieldsT s).length := by
          have := List.drop_eq_nil_iff.1 hr.symm
          omega
        have HR := Aside0.mk hr
        clear hr e0
        gi_wp2
        go_end0
        exact ⟨⟨_, rfl⟩, .inl hJ⟩
      · have hcur : (s.data.toList.take i).drop a ≠ [] := by
          intro e
          have := congrArg List.length e
          rw [List.length_drop, List.length_take, data_length] at this
          simp at this
          omega
        rw [fldG, if_neg hcur, List.map_cons] at hr
        obtain ⟨hk, hg, hd⟩ := drop_cons (d := ByteArray.empty) hr
        have hlen : (fieldsT s).length = k + 1 := by
          have := List.drop_eq_nil_iff.1 hd
          omega
        obtain ⟨fn, tmps, assign, body, hy, hR⟩ := HY.out k wr hJ hk
        rw [hg] at hy
        simp only [bytes_mid s a i hi] at hy
        obtain rfl : i = s.size := by omega
        have HL := Aside0.mk hlen
        have HK := Aside0.mk hk
        have q3 : decide ((0 : Int) ≤ (a : Int)) = true := decide_eq_true (by omega)
        clear hr hg hd hcur hk hJ e0 hlen
        gi_wp2
        refine ⟨fun h => (by cases h), hR.mono ?_⟩
        rintro e W3 (⟨rfl, hJ3, hk3⟩ | ⟨rfl, hJx3⟩)
        · have hJ4 := HL.out ▸ hJ3
          gi_wp2
          go_end0
          exact ⟨⟨_, rfl⟩, .inl hJ4⟩
        · have hJ4 := HK.out
          gi_wp2
          go_end0
          exact ⟨⟨_, rfl⟩, .inr ⟨k, hJ4, hJx3⟩⟩
theorem fs_seqN (H : Nat) (s : ByteArray) (n : Nat) (hn : 3 ≤ n) (w : World) (hS : fsSees H s w) (hsz : s.size ≤ 1000000) (hpl : plainT s) :
    SeqN n Tryd.prog 30 #[.pointer (some ⟨H, 0, none⟩)] (fieldsT s) (fsKeeps H s) (fun A B => A = B) w := fun lb J Jx W hW hT hY h0 =>
  fs_seq1 H s n hn lb J Jx W hY ⟨(hW.block _ hS.1.lt).trans hS.1, fun c hc => spTab_below1 (hS.2 c hc) hW⟩ h0 hsz hpl
theorem fsKeeps_t {H : Nat} {s : ByteArray} {X Y Z : World} (h : fsKeeps H s X Y) (k : fsKeeps H s Y Z) : fsKeeps H s X Z := fun hb => k (h hb)
theorem fsKeeps_b {H : Nat} {s : ByteArray} (W : World) (l : Nat) (o o' : Obj) (h : W.heap[l]? = some o) (hc : o.isCells = false) : fsKeeps H s W (W.putObj l o') := fun hb => by
  refine ⟨hb.1.kept (grownBy_putObj' W l o') (fun e => ?_), fun c hcc => ?_⟩
  · have e1 : H = l := Option.some.inj e
    rw [← e1, show W.heap[H]? = _ from hb.1] at h
    cases h
    cases hc
  · exact cell_kept (hb.2 c hcc) (grownBy_putObj' W l o') (fun r e => by cases e; exact ⟨o, h, hc⟩)
set_option maxHeartbeats 1000000 in
theorem fs_FieldsSeq (s : ByteArray) (W : World) (hT : spTab W) : Calls Tryd.prog 23 #[.string s] W fun e W' => e = .returned (.func (.func 30) #[] #[.pointer (some ⟨W.heap.size, 0, none⟩)]) ∧ fsSees W.heap.size s W' ∧ Below W.heap.size W W' ∧ W'.heap.size = W.heap.size + 1 := by
  have HT := Aside0.mk hT
  clear hT
  go_enter Tryd.func23, Tryd.ntmps23
  go_wp2_with fail
  go_ret
  have hb : Below W.heap.size W (W.alloc (.cells #[.string s] 9)) := (Below.refl _ W).alloc (Nat.le_refl _) _
  exact ⟨rfl, ⟨Boxed.new W _ _, spTab_below HT.out hb⟩, hb, by simp⟩
end Go.Proofs.YtpllckhmnjgohaaDoor.P
