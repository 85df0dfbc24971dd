/- Plain laws of the printed answers for lines (words, May), for the seat of the cards; no condition beyond the sizes. -/
import Derived.Test.YtpllckhmnjgohaaDoorPx7
import Derived.Test.YtpllckhmnjgohaaDoorPx5
import Derived.Test.YtpllckhmnjgohaaDoorPx2
import Derived.Test.YtpllckhmnjgohaaDoorPx4
import Derived.Test.YtpllckhmnjgohaaDoorSLlinesPure
namespace Go.Proofs.YtpllckhmnjgohaaDoor.Pure
open Go.RowKit Go.Proofs.YtpllckhmnjgohaaDoor.P Go.Proofs.YtpllckhmnjgohaaDoorW.PrintWords Go.Proofs.YtpllckhmnjgohaaDoorW.PrintLast

theorem wrap_id {x : Int} (h1 : -9223372036854775808 ≤ x) (h2 : x ≤ 9223372036854775807) : wrap64 x = x := by unfold wrap64; omega
/-- From some number of rounds on, that is told. -/
def Ev {α : Type} (F : Nat → Option α) (r : α) : Prop := ∃ K, ∀ k, K ≤ k → F k = some r
theorem Ev.succ {α : Type} {F : Nat → Option α} {r : α} (K : Nat) (h : ∀ q, K ≤ q → F (q + 1) = some r) : Ev F r :=
  ⟨K + 1, fun k hk => by obtain ⟨q, rfl⟩ : ∃ q, k = q + 1 := ⟨k - 1, by omega⟩; exact h q (by omega)⟩
/-- A byte that may be in a word. -/
def okc (c : Int) : Bool := decide (33 ≤ c) && decide (c ≤ 126)
/-- A word. -/
def wOk (s : ByteArray) : Bool := decide (0 < s.size) && !(bt s 0 == 35) && (bytesOf s).all okc
theorem bt_at_nat (s : ByteArray) (i : Nat) (h : i < s.size) : bt s (i : Int) = (bytesOf s)[i]'(by rw [bytesOf_length]; exact h) := by
  rw [← rd_bytesOf]
  unfold rd
  rw [List.getD_eq_getElem?_getD, Int.toNat_natCast, List.getElem?_eq_getElem (by rw [bytesOf_length]; exact h)]
  rfl
theorem toList_nil {s : ByteArray} : s.toList = ([] : List UInt8) ↔ s.size = 0 := by
  rw [ByteArray.toList_eq, ← data_length]
  exact List.length_eq_zero_iff.symm
theorem prefix_is (s : ByteArray) (h : 0 < s.size) : strings_HasPrefix.f s ⟨#[35]⟩ = some (bt s 0 == 35) := by
  unfold strings_HasPrefix.f stringslite_HasPrefix.f
  have h1 : ((⟨#[35]⟩ : ByteArray).size : Int) = 1 := rfl
  rw [h1, if_pos (by omega), if_pos (by omega), if_pos (by omega)]
  simp only [Option.bind_some]
  congr 1
  have hb : bt s 0 = (s.data.toList[0]'(by rw [data_length]; exact h)).toNat := by
    have := bt_at_nat s 0 h
    rw [Int.natCast_zero] at this
    rw [this]
    unfold bytesOf
    rw [List.getElem_map]
  rw [hb, ByteArray.toList_eq, ByteArray.toList_eq, ByteArray.data_extract, Array.toList_extract]
  have hl := data_length s
  obtain ⟨a, r, hs⟩ : ∃ a r, s.data.toList = a :: r := by
    cases hs : s.data.toList with
    | nil => rw [hs] at hl; simp at hl; omega
    | cons a r => exact ⟨a, r, rfl⟩
  simp only [hs, List.getElem_cons_zero]
  rw [Bool.eq_iff_iff]
  simp only [beq_iff_eq]
  constructor
  · intro he
    have : a = 35 := by simpa [hs] using he
    rw [this]; rfl
  · intro he
    have : a = 35 := by
      apply UInt8.toNat_inj.mp
      have e35 : (35 : UInt8).toNat = 35 := rfl
      rw [e35]; omega
    simp [hs, this]
/-- The words of a line that may be one. -/
def rowOk (r : List ByteArray) : Bool := decide (0 < r.length) && r.all wOk
def allOk (l : List (List ByteArray)) : Bool := l.all rowOk
theorem word_loop (s : ByteArray) (hs : s.size ≤ 1000000) (d : Nat) : ∀ (i : Nat), s.size - i = d → i ≤ s.size →
    Ev (fun k => lines_word.l0 k s (s.size : Int) (i : Int)) (((bytesOf s).drop i).all okc && (decide (0 < s.size) && !(bt s 0 == 35))) := by
  have hlen := bytesOf_length s
  induction d with
  | zero =>
    intro i hd hi
    refine Ev.succ 0 fun q _ => ?_
    simp only [lines_word.l0]
    rw [if_neg (by omega), List.drop_of_length_le (by omega), List.all_nil, Bool.true_and]
    by_cases h0 : s.size = 0
    · rw [if_pos (toList_nil.mpr h0), decide_eq_false (by omega), Bool.false_and]
    · rw [if_neg (fun h => h0 (toList_nil.mp h)), prefix_is s (by omega), decide_eq_true (by omega), Bool.true_and]
      rfl
  | succ d ih =>
    intro i hd hi
    have hil : i < s.size := by omega
    obtain ⟨K, hK⟩ := ih (i + 1) (by omega) (by omega)
    refine Ev.succ K fun q hq => ?_
    have := hK q hq
    simp only [lines_word.l0]
    have hr := bt_range s (i : Int)
    rw [if_pos (by omega), if_pos (by omega), if_pos (by omega), List.drop_eq_getElem_cons (by omega), List.all_cons, ← bt_at_nat s i hil, show wrap64 ((i : Int) + 1) = ((i + 1 : Nat) : Int) from by rw [wrap_id (by omega) (by omega)]; omega]
    generalize bt s (i : Int) = c at hr ⊢
    by_cases h1 : c ≤ 32
    · rw [if_pos h1, show okc c = false by unfold okc; rw [decide_eq_false (by omega), Bool.false_and], Bool.false_and, Bool.false_and]
    · rw [if_neg h1]
      by_cases h2 : c > 126
      · rw [if_pos h2, show okc c = false by unfold okc; rw [decide_eq_false (show ¬ c ≤ 126 by omega), Bool.and_false], Bool.false_and, Bool.false_and]
      · rw [if_neg h2, show okc c = true by unfold okc; rw [decide_eq_true (by omega), decide_eq_true (by omega)]; rfl, Bool.true_and]
        exact this
theorem word_ev (s : ByteArray) (hs : s.size ≤ 1000000) : Ev (fun k => lines_word.f k s) (wOk s) := by
  have := word_loop s hs s.size 0 (by omega) (by omega)
  rw [Int.natCast_zero, List.drop_zero] at this
  unfold wOk
  rw [Bool.and_comm]
  exact this
theorem rd_word (l : List ByteArray) (i : Nat) (h : i < l.length) : rdOf ByteArray.empty l (i : Int) = l[i] := by
  unfold rdOf
  rw [List.getD_eq_getElem?_getD, Int.toNat_natCast, List.getElem?_eq_getElem h]
  rfl
theorem rd_row (l : List (List ByteArray)) (i : Nat) (h : i < l.length) : rd_L1 l (i : Int) = l[i] := by
  unfold rd_L1
  rw [Int.toNat_natCast, List.getD_eq_getElem?_getD, List.getElem?_eq_getElem h]
  rfl
/-- Lines of a size that is gone through. -/
def Small (l : List (List ByteArray)) : Prop := l.length ≤ 1000000 ∧ ∀ r ∈ l, r.length ≤ 1000000 ∧ ∀ s ∈ r, s.size ≤ 1000000
theorem may_row (l : List (List ByteArray)) (r : List ByteArray) (hr : r.length ≤ 1000000) (hw : ∀ s ∈ r, s.size ≤ 1000000) (n j : Int) (R : Bool) (hR : Ev (fun k => lines_May.l0 k l n (wrap64 (j + 1))) R) (d : Nat) : ∀ (i : Nat), r.length - i = d → i ≤ r.length →
    Ev (fun k => lines_May.l1 k r l n j r (r.length : Int) (i : Int)) ((r.drop i).all wOk && (decide (0 < r.length) && R)) := by
  induction d with
  | zero =>
    intro i hd hi
    obtain ⟨K, hK⟩ := hR
    refine Ev.succ K fun q hq => ?_
    simp only [lines_May.l1]
    rw [if_neg (by omega), List.drop_of_length_le (by omega), List.all_nil, Bool.true_and]
    by_cases h0 : (r.length : Int) = 0
    · rw [if_pos h0, decide_eq_false (by omega), Bool.false_and]
    · rw [if_neg h0, decide_eq_true (by omega), Bool.true_and]
      exact hK q hq
  | succ d ih =>
    intro i hd hi
    have hil : i < r.length := by omega
    obtain ⟨K1, h1⟩ := word_ev r[i] (hw _ (List.getElem_mem hil))
    obtain ⟨K2, h2⟩ := ih (i + 1) (by omega) (by omega)
    refine Ev.succ (K1 + K2) fun q hq => ?_
    have h1 := h1 q (by omega)
    have h2 := h2 q (by omega)
    simp only at h1 h2
    simp only [lines_May.l1]
    rw [if_pos (by omega), if_pos (by omega), if_pos (by omega), rd_word r i hil, h1, Option.bind_some, List.drop_eq_getElem_cons hil, List.all_cons, show wrap64 ((i : Int) + 1) = ((i + 1 : Nat) : Int) from by rw [wrap_id (by omega) (by omega)]; omega]
    cases hv : wOk r[i] with
    | true => rw [if_pos rfl, h2, Bool.true_and]
    | false => rw [if_neg (by simp), Bool.false_and, Bool.false_and]
theorem may_rows (l : List (List ByteArray)) (hs : Small l) (d : Nat) : ∀ (j : Nat), l.length - j = d → j ≤ l.length → Ev (fun k => lines_May.l0 k l (l.length : Int) (j : Int)) (allOk (l.drop j)) := by
  have hs1 := hs.1
  induction d with
  | zero =>
    intro j hd hj
    refine Ev.succ 0 fun q _ => ?_
    simp only [lines_May.l0]
    rw [if_neg (by omega), List.drop_of_length_le (by omega)]
    rfl
  | succ d ih =>
    intro j hd hj
    have hjl : j < l.length := by omega
    have hm := hs.2 l[j] (List.getElem_mem hjl)
    have hR := ih (j + 1) (by omega) (by omega)
    rw [show ((j + 1 : Nat) : Int) = wrap64 ((j : Int) + 1) from by rw [wrap_id (by omega) (by omega)]; omega] at hR
    obtain ⟨K, hK⟩ := may_row l l[j] hm.1 hm.2 (l.length : Int) (j : Int) _ hR l[j].length 0 (by omega) (by omega)
    refine Ev.succ K fun q hq => ?_
    have h1 := hK q hq
    simp only [lines_May.l0]
    rw [if_pos (by omega), if_pos (by omega), if_pos (by omega), rd_row l j hjl]
    rw [Int.natCast_zero, List.drop_zero] at h1
    refine h1.trans ?_
    rw [List.drop_eq_getElem_cons hjl]
    unfold allOk
    rw [List.all_cons]
    unfold rowOk
    congr 1
    rw [← Bool.and_assoc, Bool.and_comm (l[j].all wOk)]
theorem may_ev (l : List (List ByteArray)) (hs : Small l) : Ev (fun k => lines_May.f k l) (allOk l) := by
  have := may_rows l hs l.length 0 (by omega) (by omega)
  rw [Int.natCast_zero, List.drop_zero] at this
  exact this
end Go.Proofs.YtpllckhmnjgohaaDoor.Pure
