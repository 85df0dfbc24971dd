import Derived.Test.YtpllckhmnjgohaaLinesLem
namespace Go.Proofs.Ytpllckhmnjgohaa.Pure
open Go.RowKit Go.Proofs.Ytpllckhmnjgohaa.P Go.Proofs.YtpllckhmnjgohaaW.PrintWords Go.Proofs.YtpllckhmnjgohaaW.PrintLast

theorem ref_bytes (l : List (List ByteArray)) (n m : Int) (s : ByteArray) (hs : s.size ≤ 1000000) (R : Bool) (hR : Ev (fun k => postilionref18_May.l1 k l n (wrap64 (m + 1))) R) (d : Nat) : ∀ (i : Nat), s.size - i = d → i ≤ s.size →
    Ev (fun k => postilionref18_May.l2 k l n m s (i : Int)) (((bytesOf s).drop i).all okc && R) := by
  have hlen := bytesOf_length s
  induction d with
  | zero =>
    intro i hd hi
    obtain ⟨K, hK⟩ := hR
    refine Ev.succ K fun q hq => ?_
    simp only [postilionref18_May.l2]
    rw [if_neg (by omega), List.drop_of_length_le (by omega), List.all_nil, Bool.true_and]
    exact hK q hq
  | succ d ih =>
    intro i hd hi
    have hil : i < s.size := by omega
    obtain ⟨K, hK⟩ := ih (i + 1) (by omega) (by omega)
    refine Ev.succ K fun q hq => ?_
    have := hK q hq
    simp only [postilionref18_May.l2]
    have hr := bt_range s (i : Int)
    rw [if_pos (by omega), if_pos (by omega), List.drop_eq_getElem_cons (by omega), List.all_cons, ← bt_at_nat s i hil, show wrap64 ((i : Int) + 1) = ((i + 1 : Nat) : Int) from by rw [wrap_id (by omega) (by omega)]; omega]
    generalize bt s (i : Int) = c at hr ⊢
    by_cases h1 : c < 33
    · rw [if_pos h1, show okc c = false by unfold okc; rw [decide_eq_false (by omega), Bool.false_and], Bool.false_and, Bool.false_and]
    · rw [if_neg h1]
      by_cases h2 : c > 126
      · rw [if_pos h2, show okc c = false by unfold okc; rw [decide_eq_false (show ¬ c ≤ 126 by omega), Bool.and_false], Bool.false_and, Bool.false_and]
      · rw [if_neg h2, show okc c = true by unfold okc; rw [decide_eq_true (by omega), decide_eq_true (by omega)]; rfl, Bool.true_and]
        exact this
theorem ref_row (l : List (List ByteArray)) (j : Nat) (hj : j < l.length) (hm : l[j].length ≤ 1000000 ∧ ∀ s ∈ l[j], s.size ≤ 1000000) (R : Bool) (hR : Ev (fun k => postilionref18_May.l0 k l (wrap64 ((j : Int) + 1))) R) (d : Nat) : ∀ (i : Nat), l[j].length - i = d → i ≤ l[j].length →
    Ev (fun k => postilionref18_May.l1 k l (j : Int) (i : Int)) ((l[j].drop i).all wOk && R) := by
  induction d with
  | zero =>
    intro i hd hi
    obtain ⟨K, hK⟩ := hR
    refine Ev.succ K fun q hq => ?_
    simp only [postilionref18_May.l1]
    rw [if_pos (by omega), if_pos (by omega), rd_row l j hj, if_neg (by omega), List.drop_of_length_le (by omega), List.all_nil, Bool.true_and]
    exact hK q hq
  | succ d ih =>
    intro i hd hi
    have hil : i < l[j].length := by omega
    have hn := ih (i + 1) (by omega) (by omega)
    rw [show ((i + 1 : Nat) : Int) = wrap64 ((i : Int) + 1) from by rw [wrap_id (by omega) (by omega)]; omega] at hn
    have hsz := hm.2 _ (List.getElem_mem hil)
    obtain ⟨K, hK⟩ := ref_bytes l (j : Int) (i : Int) l[j][i] hsz _ hn (l[j][i]).size 0 (by omega) (by omega)
    refine Ev.succ (K + 1) fun q hq => ?_
    obtain ⟨q, rfl⟩ : ∃ p, q = p + 1 := ⟨q - 1, by omega⟩
    have h1 := hK q (by omega)
    rw [Int.natCast_zero, List.drop_zero] at h1
    simp only [postilionref18_May.l1]
    rw [if_pos (by omega), if_pos (by omega), rd_row l j hj, if_pos (by omega), if_pos (by omega), rd_word l[j] i hil, List.drop_eq_getElem_cons hil, List.all_cons]
    by_cases h0 : l[j][i].size = 0
    · rw [if_pos (toList_nil.mpr h0)]
      simp only [postilionref18_May.j2]
      rw [if_pos trivial, show wOk l[j][i] = false by unfold wOk; rw [decide_eq_false (by omega), Bool.false_and, Bool.false_and], Bool.false_and, Bool.false_and]
    · rw [if_neg (fun h => h0 (toList_nil.mp h)), if_pos (by omega)]
      simp only [postilionref18_May.j2]
      cases h35 : (bt l[j][i] 0 == 35) with
      | true =>
        rw [if_pos rfl, show wOk l[j][i] = false by unfold wOk; rw [h35, Bool.not_true, Bool.and_false, Bool.false_and], Bool.false_and, Bool.false_and]
      | false =>
        rw [if_neg (by simp)]
        refine Eq.trans h1 ?_
        rw [show wOk l[j][i] = (bytesOf l[j][i]).all okc by unfold wOk; rw [h35, decide_eq_true (by omega)]; rfl, Bool.and_assoc]
theorem ref_rows (l : List (List ByteArray)) (hs : Small l) (d : Nat) : ∀ (j : Nat), l.length - j = d → j ≤ l.length → Ev (fun k => postilionref18_May.l0 k l (j : Int)) (allOk (l.drop j)) := by
  have hs1 := hs.1
  induction d with
  | zero =>
    intro j hd hj
    refine Ev.succ 0 fun q _ => ?_
    simp only [postilionref18_May.l0]
    rw [if_neg (by omega), List.drop_of_length_le (by omega)]
    rfl
  | succ d ih =>
    intro j hd hj
    have hjl : j < l.length := by omega
    have hm := hs.2 l[j] (List.getElem_mem hjl)
    have hR := ih (j + 1) (by omega) (by omega)
    rw [show ((j + 1 : Nat) : Int) = wrap64 ((j : Int) + 1) from by rw [wrap_id (by omega) (by omega)]; omega] at hR
    obtain ⟨K, hK⟩ := ref_row l j hjl hm _ hR l[j].length 0 (by omega) (by omega)
    refine Ev.succ K fun q hq => ?_
    have h1 := hK q hq
    rw [Int.natCast_zero, List.drop_zero] at h1
    simp only [postilionref18_May.l0]
    rw [if_pos (by omega), if_pos (by omega), rd_row l j hjl, List.drop_eq_getElem_cons hjl]
    unfold allOk at h1 ⊢
    rw [List.all_cons]
    unfold rowOk at h1 ⊢
    by_cases h0 : (l[j].length : Int) = 0
    · rw [if_pos h0, decide_eq_false (show ¬ 0 < l[j].length by omega), Bool.false_and, Bool.false_and]
    · rw [if_neg h0, decide_eq_true (show 0 < l[j].length by omega), Bool.true_and]
      exact h1
theorem refmay_ev (l : List (List ByteArray)) (hs : Small l) : Ev (fun k => postilionref18_May.f k l) (allOk l) := by
  have := ref_rows l hs l.length 0 (by omega) (by omega)
  rw [Int.natCast_zero, List.drop_zero] at this
  exact this
theorem copy_loop (l : List (List ByteArray)) (hs : Small l) (d : Nat) : ∀ (j : Nat), l.length - j = d → j ≤ l.length → Ev (fun k => postilionref18_Copy.l0 k l (l.take j) (j : Int)) l := by
  have hs1 := hs.1
  induction d with
  | zero =>
    intro j hd hj
    refine Ev.succ 0 fun q _ => ?_
    simp only [postilionref18_Copy.l0]
    rw [if_neg (by omega), List.take_of_length_le (by omega)]
  | succ d ih =>
    intro j hd hj
    have hjl : j < l.length := by omega
    have hm := hs.2 l[j] (List.getElem_mem hjl)
    obtain ⟨K, hK⟩ := ih (j + 1) (by omega) (by omega)
    refine Ev.succ K fun q hq => ?_
    have h1 := hK q hq
    simp only [postilionref18_Copy.l0]
    rw [if_pos (by omega), if_pos (by omega), rd_row l j hjl, if_pos (by simp only [List.length_nil]; omega), if_pos (by rw [List.length_take]; omega), List.nil_append, show wrap64 ((j : Int) + 1) = ((j + 1 : Nat) : Int) from by rw [wrap_id (by omega) (by omega)]; omega]
    rw [List.take_succ_eq_append_getElem hjl] at h1
    exact h1
theorem copy_ev (l : List (List ByteArray)) (hs : Small l) : Ev (fun k => postilionref18_Copy.f k l) l := by
  have := copy_loop l hs l.length 0 (by omega) (by omega)
  rw [Int.natCast_zero, List.take_zero] at this
  exact this
theorem same_row (l : List (List ByteArray)) (j : Nat) (hj : j < l.length) (hm : l[j].length ≤ 1000000) (hR : Ev (fun k => postilionref18_Same.l0 k l l (wrap64 ((j : Int) + 1))) true) (d : Nat) : ∀ (i : Nat), l[j].length - i = d → i ≤ l[j].length →
    Ev (fun k => postilionref18_Same.l1 k l l (j : Int) (i : Int)) true := by
  induction d with
  | zero =>
    intro i hd hi
    obtain ⟨K, hK⟩ := hR
    refine Ev.succ K fun q hq => ?_
    simp only [postilionref18_Same.l1]
    rw [if_pos (by omega), if_pos (by omega), rd_row l j hj, if_neg (by omega)]
    exact hK q hq
  | succ d ih =>
    intro i hd hi
    have hil : i < l[j].length := by omega
    obtain ⟨K, hK⟩ := ih (i + 1) (by omega) (by omega)
    refine Ev.succ K fun q hq => ?_
    have h1 := hK q hq
    simp only [postilionref18_Same.l1]
    rw [if_pos (by omega), if_pos (by omega), rd_row l j hj, if_pos (by omega), if_pos (by omega), if_pos (by omega), if_pos (by omega), if_pos trivial, show wrap64 ((i : Int) + 1) = ((i + 1 : Nat) : Int) from by rw [wrap_id (by omega) (by omega)]; omega]
    exact h1
theorem same_rows (l : List (List ByteArray)) (hs : Small l) (d : Nat) : ∀ (j : Nat), l.length - j = d → j ≤ l.length → Ev (fun k => postilionref18_Same.l0 k l l (j : Int)) true := by
  have hs1 := hs.1
  induction d with
  | zero =>
    intro j hd hj
    refine Ev.succ 0 fun q _ => ?_
    simp only [postilionref18_Same.l0]
    rw [if_neg (by omega)]
  | succ d ih =>
    intro j hd hj
    have hjl : j < l.length := by omega
    have hm := hs.2 l[j] (List.getElem_mem hjl)
    have hR := ih (j + 1) (by omega) (by omega)
    rw [show ((j + 1 : Nat) : Int) = wrap64 ((j : Int) + 1) from by rw [wrap_id (by omega) (by omega)]; omega] at hR
    obtain ⟨K, hK⟩ := same_row l j hjl hm.1 hR l[j].length 0 (by omega) (by omega)
    refine Ev.succ K fun q hq => ?_
    have h1 := hK q hq
    rw [Int.natCast_zero] at h1
    simp only [postilionref18_Same.l0]
    rw [if_pos (by omega), if_pos (by omega), if_pos (by omega), if_pos trivial]
    exact h1
theorem same_ev (l : List (List ByteArray)) (hs : Small l) : Ev (fun k => postilionref18_Same.f k l l) true := by
  obtain ⟨K, hK⟩ := same_rows l hs l.length 0 (by omega) (by omega)
  refine ⟨K, fun k hk => ?_⟩
  have h1 := hK k hk
  rw [Int.natCast_zero] at h1
  simp only [postilionref18_Same.f]
  rw [if_pos trivial]
  exact h1
end Go.Proofs.Ytpllckhmnjgohaa.Pure
