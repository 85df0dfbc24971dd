/- Plain laws: Same tells yes of the same rows; great tells no just of few bytes; no condition beyond the sizes. -/
import Derived.Test.YtpllckhmnjgohaaDoorLinesEvA
namespace Go.Proofs.YtpllckhmnjgohaaDoor.Pure
open Go.RowKit Go.Proofs.YtpllckhmnjgohaaDoor.P Go.Proofs.YtpllckhmnjgohaaDoorW.PrintWords Go.Proofs.YtpllckhmnjgohaaDoorW.PrintLast
theorem same_row (l : List (List ByteArray)) (j : Nat) (hj : j < l.length) (hm : l[j].length ≤ 1000000) (hR : Ev (fun k => postilionref18_Same.l0 k l l (wrap64 ((j : Int) + 1))) true) (d : Nat) : ∀ (i : Nat), l[j].length - i = d → i ≤ l[j].length →
    Ev (fun k => postilionref18_Same.l1 k l l (j : Int) (i : Int)) true := by
  induction d with
  | zero =>
    intro i hd hi
    obtain ⟨K, hK⟩ := hR
    refine Ev.succ K fun q hq => ?_
    simp only [postilionref18_Same.l1]
    rw [if_pos (by omega), if_pos (by omega), rd_row l j hj, if_neg (by omega)]
    exact hK q hq
  | succ d ih =>
    intro i hd hi
    have hil : i < l[j].length := by omega
    obtain ⟨K, hK⟩ := ih (i + 1) (by omega) (by omega)
    refine Ev.succ K fun q hq => ?_
    have h1 := hK q hq
    simp only [postilionref18_Same.l1]
    rw [if_pos (by omega), if_pos (by omega), rd_row l j hj, if_pos (by omega), if_pos (by omega), if_pos (by omega), if_pos (by omega), if_pos trivial, show wrap64 ((i : Int) + 1) = ((i + 1 : Nat) : Int) from by rw [wrap_id (by omega) (by omega)]; omega]
    exact h1
theorem same_rows (l : List (List ByteArray)) (hs : Small l) (d : Nat) : ∀ (j : Nat), l.length - j = d → j ≤ l.length → Ev (fun k => postilionref18_Same.l0 k l l (j : Int)) true := by
  have hs1 := hs.1
  induction d with
  | zero =>
    intro j hd hj
    refine Ev.succ 0 fun q _ => ?_
    simp only [postilionref18_Same.l0]
    rw [if_neg (by omega)]
  | succ d ih =>
    intro j hd hj
    have hjl : j < l.length := by omega
    have hm := hs.2 l[j] (List.getElem_mem hjl)
    have hR := ih (j + 1) (by omega) (by omega)
    rw [show ((j + 1 : Nat) : Int) = wrap64 ((j : Int) + 1) from by rw [wrap_id (by omega) (by omega)]; omega] at hR
    obtain ⟨K, hK⟩ := same_row l j hjl hm.1 hR l[j].length 0 (by omega) (by omega)
    refine Ev.succ K fun q hq => ?_
    have h1 := hK q hq
    rw [Int.natCast_zero] at h1
    simp only [postilionref18_Same.l0]
    rw [if_pos (by omega), if_pos (by omega), if_pos (by omega), if_pos trivial]
    exact h1
theorem same_ev (l : List (List ByteArray)) (hs : Small l) : Ev (fun k => postilionref18_Same.f k l l) true := by
  obtain ⟨K, hK⟩ := same_rows l hs l.length 0 (by omega) (by omega)
  refine ⟨K, fun k hk => ?_⟩
  have h1 := hK k hk
  rw [Int.natCast_zero] at h1
  simp only [postilionref18_Same.f]
  rw [if_pos trivial]
  exact h1
def costR (r : List ByteArray) : Nat := (r.map fun s => s.size + 1).sum
def cost (l : List (List ByteArray)) : Nat := (l.map fun r => costR r + 1).sum
theorem great_row (l : List (List ByteArray)) (j : Nat) (hj : j < l.length) (L : Int) (hL : L ≤ 0) (hL2 : -1000000 ≤ L) (d : Nat) : ∀ (i : Nat) (x : Int), l[j].length - i = d → i ≤ l[j].length → L ≤ x → x ≤ 1000000 → l[j].length ≤ 9223372036854775807 →
    (∀ y : Int, L ≤ y → y ≤ x → ∃ b, Ev (fun k => postilionlaw18_great.l0 k l y (wrap64 ((j : Int) + 1))) b ∧ (b = false → (cost (l.drop (j + 1)) : Int) ≤ y)) →
    ∃ b, Ev (fun k => postilionlaw18_great.l1 k l x (j : Int) (i : Int)) b ∧ (b = false → (costR (l[j].drop i) + cost (l.drop (j + 1)) : Int) ≤ x) := by
  induction d with
  | zero =>
    intro i x hd hi h0 h1 hlen hR
    obtain ⟨b, ⟨K, hK⟩, hb⟩ := hR x h0 (Int.le_refl _)
    refine ⟨b, Ev.succ K fun q hq => ?_, fun h => ?_⟩
    · simp only [postilionlaw18_great.l1]
      rw [if_pos (by omega), if_pos (by omega), rd_row l j hj, if_neg (by omega)]
      exact hK q hq
    · have := hb h
      rw [List.drop_of_length_le (by omega)]
      unfold costR
      simp only [List.map_nil, List.sum_nil]
      omega
  | succ d ih =>
    intro i x hd hi h0 h1 hlen hR
    have hil : i < l[j].length := by omega
    by_cases hbig : (l[j][i].size : Int) ≥ x
    · refine ⟨true, Ev.succ 0 fun q _ => ?_, fun h => by cases h⟩
      simp only [postilionlaw18_great.l1]
      rw [if_pos (by omega), if_pos (by omega), rd_row l j hj, if_pos (by omega), if_pos (by omega), rd_word l[j] i hil, if_pos hbig]
    · obtain ⟨b, ⟨K, hK⟩, hb⟩ := ih (i + 1) (x - l[j][i].size - 1) (by omega) (by omega) (by omega) (by omega) hlen (fun y hy0 hy1 => hR y hy0 (by omega))
      refine ⟨b, Ev.succ K fun q hq => ?_, fun h => ?_⟩
      · simp only [postilionlaw18_great.l1]
        rw [if_pos (by omega), if_pos (by omega), rd_row l j hj, if_pos (by omega), if_pos (by omega), rd_word l[j] i hil, if_neg hbig, wrap_id (x := x - (l[j][i].size : Int)) (by omega) (by omega), wrap_id (x := x - (l[j][i].size : Int) - 1) (by omega) (by omega), show wrap64 ((i : Int) + 1) = ((i + 1 : Nat) : Int) from by rw [wrap_id (by omega) (by omega)]; omega]
        exact hK q hq
      · have := hb h
        rw [List.drop_eq_getElem_cons hil]
        unfold costR at this ⊢
        simp only [List.map_cons, List.sum_cons]
        omega
theorem great_rows (l : List (List ByteArray)) (hl : l.length ≤ 200) (hr : ∀ r ∈ l, r.length ≤ 9223372036854775807) (d : Nat) : ∀ (j : Nat) (x : Int), l.length - j = d → j ≤ l.length → -1000 + (d : Int) ≤ x → x ≤ 1000000 →
    ∃ b, Ev (fun k => postilionlaw18_great.l0 k l x (j : Int)) b ∧ (b = false → (cost (l.drop j) : Int) ≤ x) := by
  induction d with
  | zero =>
    intro j x hd hj h0 h1
    refine ⟨decide (x < 0), Ev.succ 0 fun q _ => ?_, fun h => ?_⟩
    · simp only [postilionlaw18_great.l0]
      rw [if_neg (by omega)]
    · rw [List.drop_of_length_le (by omega)]
      have := of_decide_eq_false h
      unfold cost
      simp only [List.map_nil, List.sum_nil]
      omega
  | succ d ih =>
    intro j x hd hj h0 h1
    have hjl : j < l.length := by omega
    obtain ⟨b, ⟨K, hK⟩, hb⟩ := great_row l j hjl (-1000 + (d : Int)) (by omega) (by omega) l[j].length 0 (x - 1) (by omega) (by omega) (by omega) (by omega) (hr _ (List.getElem_mem hjl)) (fun y hy0 hy1 => by
      have := ih (j + 1) y (by omega) (by omega) hy0 (by omega)
      rw [show wrap64 ((j : Int) + 1) = ((j + 1 : Nat) : Int) from by rw [wrap_id (by omega) (by omega)]; omega]
      exact this)
    refine ⟨b, Ev.succ K fun q hq => ?_, fun h => ?_⟩
    · have h1 := hK q hq
      rw [Int.natCast_zero] at h1
      simp only [postilionlaw18_great.l0]
      rw [if_pos (by omega), wrap_id (x := x - 1) (by omega) (by omega)]
      exact h1
    · have := hb h
      rw [List.drop_zero] at this
      rw [List.drop_eq_getElem_cons hjl]
      unfold cost at this ⊢
      simp only [List.map_cons, List.sum_cons]
      omega
theorem great_ev (l : List (List ByteArray)) (hr : ∀ r ∈ l, r.length ≤ 9223372036854775807) : ∃ b, Ev (fun k => postilionlaw18_great.f k l) b ∧ (b = false → l.length ≤ 200 ∧ cost l ≤ 9000) := by
  by_cases h : (l.length : Int) > 200
  · refine ⟨true, ⟨0, fun k _ => ?_⟩, fun h => by cases h⟩
    simp only [postilionlaw18_great.f]
    rw [if_pos h]
  · obtain ⟨b, ⟨K, hK⟩, hb⟩ := great_rows l (by omega) hr l.length 0 9000 (by omega) (by omega) (by omega) (by omega)
    refine ⟨b, ⟨K, fun k hk => ?_⟩, fun h2 => ?_⟩
    · have h1 := hK k hk
      rw [Int.natCast_zero] at h1
      simp only [postilionlaw18_great.f]
      rw [if_neg h]
      exact h1
    · have := hb h2
      rw [List.drop_zero] at this
      exact ⟨by omega, by omega⟩
theorem cost_row {l : List (List ByteArray)} {r : List ByteArray} (h : r ∈ l) : costR r + 1 ≤ cost l := by
  induction l with
  | nil => cases h
  | cons a l ih =>
    unfold cost
    simp only [List.map_cons, List.sum_cons]
    rcases List.mem_cons.1 h with rfl | h
    · omega
    · have := ih h
      unfold cost at this
      omega
theorem cost_word {r : List ByteArray} {s : ByteArray} (h : s ∈ r) : s.size + 1 ≤ costR r := by
  induction r with
  | nil => cases h
  | cons a l ih =>
    unfold costR
    simp only [List.map_cons, List.sum_cons]
    rcases List.mem_cons.1 h with rfl | h
    · omega
    · have := ih h
      unfold costR at this
      omega
theorem cost_len (r : List ByteArray) : r.length ≤ costR r := by
  induction r with
  | nil => exact Nat.zero_le _
  | cons a l ih =>
    unfold costR at ih ⊢
    simp only [List.map_cons, List.sum_cons, List.length_cons]
    omega
theorem small_of {l : List (List ByteArray)} (h1 : l.length ≤ 200) (h2 : cost l ≤ 9000) : Small l :=
  ⟨by omega, fun r hr => by
    have := cost_row hr
    have hl := cost_len r
    exact ⟨by omega, fun s hs => by have := cost_word hs; omega⟩⟩
end Go.Proofs.YtpllckhmnjgohaaDoor.Pure
