/- Plain laws of lines, each with its end, one behind the other: where they stand, and what is read there; no condition beyond that none has an end within, or a 13 at its end. -/
import Derived.Test.YtlpibchjcmndjaaLineLem
namespace Go.Proofs.Ytlpibchjcmndjaa.Pure
open Go.RowKit Go.Proofs.Ytlpibchjcmndjaa.P Go.Proofs.YtlpibchjcmndjaaW.PrintWords Go.Proofs.YtlpibchjcmndjaaW.PrintLast

/-- The lines' bytes. -/
def encL (l : List ByteArray) : List Int := l.flatMap fun T => bytesOf T ++ [13, 10]
/-- Where a line begins. -/
def posL (l : List ByteArray) (k : Nat) : Nat := (encL (l.take k)).length
/-- No end within, and none that might be. -/
def GoodT (T : ByteArray) : Prop := (∀ q, q + 1 < T.size → ¬ (bt T (q : Int) = 13 ∧ bt T ((q + 1 : Nat) : Int) = 10)) ∧ ¬ (0 < T.size ∧ bt T ((T.size - 1 : Nat) : Int) = 13)
theorem encL_snoc (l : List ByteArray) {k : Nat} (h : k < l.length) : encL (l.take (k + 1)) = (encL (l.take k) ++ bytesOf l[k]) ++ [13, 10] := by
  unfold encL
  rw [List.take_succ_eq_append_getElem h, List.flatMap_append]
  simp
theorem posL_snoc (l : List ByteArray) {k : Nat} (h : k < l.length) : posL l (k + 1) = posL l k + l[k].size + 2 := by
  unfold posL
  rw [encL_snoc l h, List.length_append, List.length_append, bytesOf_length]
  rfl
theorem posL_end (l : List ByteArray) : posL l l.length = (encL l).length := by unfold posL; rw [List.take_length]
theorem bytes_isBytes (T : ByteArray) : isBytes (bytesOf T) := by
  intro x hx
  unfold bytesOf at hx
  obtain ⟨b, _, rfl⟩ := List.mem_map.1 hx
  have := b.toNat_lt
  omega
theorem encL_bytes (l : List ByteArray) : isBytes (encL l) := by
  intro x hx
  unfold encL at hx
  obtain ⟨T, _, hx⟩ := List.mem_flatMap.1 hx
  rcases List.mem_append.1 hx with hx | hx
  · exact bytes_isBytes T x hx
  · simp at hx
    omega
theorem encL_drop (l : List ByteArray) {k : Nat} (h : k < l.length) : (encL l).drop (posL l k) = bytesOf l[k] ++ 13 :: 10 :: encL (l.drop (k + 1)) := by
  have e : encL l = encL (l.take k) ++ (bytesOf l[k] ++ 13 :: 10 :: encL (l.drop (k + 1))) := by
    conv => lhs; rw [← List.take_append_drop k l, List.drop_eq_getElem_cons h]
    unfold encL
    rw [List.flatMap_append, List.flatMap_cons]
    simp
  unfold posL
  conv => lhs; rw [e]
  exact List.drop_left
theorem bt_get (T : ByteArray) {q : Nat} (h : q < T.size) : (bytesOf T)[q]? = some (bt T (q : Int)) := by
  have hl : q < (bytesOf T).length := by rw [bytesOf_length]; exact h
  rw [List.getElem?_eq_getElem hl, ← rd_bytesOf]
  unfold rd
  rw [Int.toNat_natCast, List.getD_eq_getElem?_getD, List.getElem?_eq_getElem hl]
  rfl
theorem strOf_bytes (T : ByteArray) : strOfNums (bytesOf T) = T := by
  apply ByteArray.ext
  apply Array.ext'
  unfold strOfNums bytesOf
  simp only [List.map_map]
  conv => rhs; rw [← List.map_id T.data.toList]
  exact List.map_congr_left fun b _ => by simp
theorem pair_first {T : ByteArray} (hT : GoodT T) (r : List Int) : pairAt (bytesOf T ++ 13 :: 10 :: r) T.size ∧ ∀ j, j < T.size → ¬ pairAt (bytesOf T ++ 13 :: 10 :: r) j := by
  have hl : (bytesOf T).length = T.size := bytesOf_length T
  refine ⟨⟨?_, ?_⟩, fun j hj hp => ?_⟩
  · rw [List.getElem?_append_right (by omega), hl, Nat.sub_self]
    rfl
  · rw [List.getElem?_append_right (by omega), hl, show T.size + 1 - T.size = 1 by omega]
    rfl
  · obtain ⟨h1, h2⟩ := hp
    rw [List.getElem?_append_left (by omega), bt_get T hj] at h1
    injection h1 with h1
    by_cases c : j + 1 < T.size
    · rw [List.getElem?_append_left (by omega), bt_get T c] at h2
      injection h2 with h2
      exact hT.1 j c ⟨h1, h2⟩
    · refine hT.2 ⟨by omega, ?_⟩
      rw [show T.size - 1 = j by omega]
      exact h1
theorem line_enc (l : List ByteArray) {k : Nat} (h : k < l.length) (hg : GoodT l[k]) (m : Int) (hm : 0 ≤ m) : lineS (encL l) (posL l k) m = if (l[k].size : Int) ≤ m then (l[k], 0, posL l (k + 1)) else (⟨#[]⟩, 6, posL l k) := by
  have hd := encL_drop l h
  obtain ⟨hp, hn⟩ := pair_first hg (encL (l.drop (k + 1)))
  rw [← hd] at hp hn
  by_cases c : (l[k].size : Int) ≤ m
  · rw [if_pos c, line_ok (encL_bytes l) hp hn c, hd, posL_snoc l h]
    have : (bytesOf l[k] ++ 13 :: 10 :: encL (l.drop (k + 1))).take l[k].size = bytesOf l[k] := by
      rw [List.take_append_of_le_length (by rw [bytesOf_length]; exact Nat.le_refl _), List.take_of_length_le (by rw [bytesOf_length]; exact Nat.le_refl _)]
    rw [this, strOf_bytes]
  · rw [if_neg c, line_far2 (encL_bytes l) hm (fun j hj => hn j (by omega)) hp]
theorem line_end (l : List ByteArray) (m : Int) (hm : 0 ≤ m) : lineS (encL l) (posL l l.length) m = (⟨#[]⟩, 5, posL l l.length) := by
  have hd : (encL l).drop (posL l l.length) = [] := by rw [posL_end]; exact List.drop_length
  refine line_more (encL_bytes l) hm (fun j hp => ?_) ?_
  · rw [hd] at hp
    cases hp.1
  · rw [hd]
    have := trim_len (L := []) (fun x hx => by cases hx)
    simp at this
    omega
theorem posL_bound (l : List ByteArray) (h : ∀ j (hj : j < l.length), l[j].size ≤ 100) : ∀ k, k ≤ l.length → posL l k ≤ 102 * k := by
  intro k
  induction k with
  | zero => intro _; exact Nat.le_refl _
  | succ k ih =>
    intro hk
    rw [posL_snoc l hk]
    have := ih (by omega)
    have := h k hk
    omega
theorem posL_mono (l : List ByteArray) {a b : Nat} (h : a ≤ b) (hb : b ≤ l.length) : posL l a ≤ posL l b := by
  induction b with
  | zero => rw [Nat.le_zero.1 h]; exact Nat.le_refl _
  | succ b ih =>
    by_cases c : a = b + 1
    · rw [c]; exact Nat.le_refl _
    · have := ih (by omega) (by omega)
      rw [posL_snoc l hb]
      omega
end Go.Proofs.Ytlpibchjcmndjaa.Pure
