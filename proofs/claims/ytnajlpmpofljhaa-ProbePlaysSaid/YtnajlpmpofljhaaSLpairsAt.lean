import Derived.Test.YtnajlpmpofljhaaSLsortedK
namespace Go.Proofs.Ytnajlpmpofljhaa.P
open Go.RowKit Go.Proofs.YtnajlpmpofljhaaW.PrintWords Go.Proofs.YtnajlpmpofljhaaW.PrintLast Go.Proofs.YtnajlpmpofljhaaW.PrintMore
set_option linter.unusedVariables false
set_option linter.unusedSimpArgs false
set_option linter.unnecessarySimpa false
attribute [local go_sem] max2_int min2_int max_two min_two max_three min_three max_four min_four
/-! ### where a number stands in a row of pairs -/
theorem ret_i {a b : Int} (h : a = b) : Ending.returned (.int .i64 a) = .returned (.int .i64 b) := by rw [h]
def atN : List (Int × Int) → Int → Nat
  | [], _ => 0
  | p :: t, id => if p.1 = id then 0 else atN t id + 1
theorem atN_le : ∀ (l : List (Int × Int)) (id : Int), atN l id ≤ l.length
  | [], _ => Nat.le_refl _
  | p :: t, id => by
    unfold atN
    have := atN_le t id
    split <;> simp <;> omega
theorem atN_step : ∀ (l : List (Int × Int)) (id : Int) (k : Nat), k ≤ atN l id → k < l.length → ((l.getD k (0, 0)).1 = id → atN l id = k) ∧ ((l.getD k (0, 0)).1 ≠ id → k + 1 ≤ atN l id)
  | [], _, k, _, h => absurd h (Nat.not_lt_zero _)
  | p :: t, id, 0, _, _ => by
    unfold atN
    refine ⟨fun h => if_pos h, fun h => ?_⟩
    rw [if_neg (show ¬ p.1 = id from h)]
    omega
  | p :: t, id, k + 1, h1, h2 => by
    have hp : ¬ p.1 = id := fun e => by
      unfold atN at h1
      rw [if_pos e] at h1
      omega
    have e : atN (p :: t) id = atN t id + 1 := by
      conv => lhs; unfold atN
      rw [if_neg hp]
    rw [e] at h1 ⊢
    have ih := atN_step t id k (by omega) (by simpa using h2)
    rw [List.getD_cons_succ]
    exact ⟨fun h => by rw [ih.1 h], fun h => by have := ih.2 h; omega⟩
def atI (l : List (Int × Int)) (id : Int) : Int := if atN l id < l.length then (atN l id : Int) else -1
def hasR (l : List (Int × Int)) (id : Int) : Bool := decide (atN l id < l.length)
section
variable {l : List (Int × Int)}
theorem atI_yes {id : Int} (h : hasR l id = true) : atI l id = (atN l id : Int) ∧ atN l id < l.length := by
  unfold hasR at h
  have h := of_decide_eq_true h
  exact ⟨by unfold atI; rw [if_pos h], h⟩
theorem atI_no {id : Int} (h : hasR l id = false) : atI l id = -1 := by
  unfold hasR at h
  have h := of_decide_eq_false h
  unfold atI
  rw [if_neg h]
theorem atN_get : ∀ (l : List (Int × Int)) (id : Int), atN l id < l.length → (l.getD (atN l id) (0, 0)).1 = id
  | [], _, h => absurd h (Nat.not_lt_zero _)
  | p :: t, id, h => by
    by_cases hp : p.1 = id
    · have e : atN (p :: t) id = 0 := by unfold atN; rw [if_pos hp]
      rw [e]
      exact hp
    · have e : atN (p :: t) id = atN t id + 1 := by
        conv => lhs; unfold atN
        rw [if_neg hp]
      rw [e] at h ⊢
      rw [List.getD_cons_succ]
      exact atN_get t id (by simpa using h)
theorem atN_has : ∀ (l : List (Int × Int)) (j : Nat), j < l.length → atN l (l.getD j (0, 0)).1 ≤ j
  | [], _, h => absurd h (Nat.not_lt_zero _)
  | p :: t, 0, h => by
    unfold atN
    rw [if_pos (show p.1 = ((p :: t).getD 0 (0, 0)).1 from rfl)]
    exact Nat.le_refl _
  | p :: t, j + 1, h => by
    rw [List.getD_cons_succ]
    have ih := atN_has t j (by simpa using h)
    unfold atN
    split <;> omega
theorem erase_same {l : List (Int × Int)} {k : Nat} (hk : k < l.length) : (l.take (k + 1)).eraseIdx k = (l.take k).eraseIdx k := by
  rw [List.take_succ_eq_append_getElem hk, List.eraseIdx_append_of_length_le (by rw [List.length_take]; omega), List.eraseIdx_of_length_le (l := l.take k) (by rw [List.length_take]; omega), List.length_take, show k - min k l.length = 0 by omega]
  simp
theorem erase_more {l : List (Int × Int)} {k i : Nat} (hi : i < l.length) (hk : i ≠ k) : (l.take (i + 1)).eraseIdx k = (l.take i).eraseIdx k ++ [((l.getD i (0, 0)).1, (l.getD i (0, 0)).2)] := by
  have e : l.getD i (0, 0) = l[i] := by rw [List.getD_eq_getElem?_getD, List.getElem?_eq_getElem hi]; rfl
  rw [e, List.take_succ_eq_append_getElem hi]
  have l1 : (l.take i).length = i := by rw [List.length_take]; omega
  by_cases h : i < k
  · rw [List.eraseIdx_append_of_length_le (by omega), List.eraseIdx_of_length_le (l := l.take i) (by omega), l1, List.eraseIdx_of_length_le (l := [l[i]]) (by simp; omega)]
  · rw [List.eraseIdx_append_of_lt_length (by omega)]
end
theorem own_up {W : World} {b b' n : Nat} {e : TypeId} {s : Nat} {v : Value} {xs : List Value} (h : W.ownsRow b e s v n xs) (hb : b' ≤ b) : W.ownsRow b' e s v n xs := by
  obtain ⟨h1, h2⟩ := h
  refine ⟨h1, h2.imp id ?_⟩
  rintro ⟨g, cap, cur, e, hg, r⟩
  exact ⟨g, cap, cur, e, Nat.le_trans hb hg, r⟩
theorem hasR_iff {l : List (Int × Int)} {x : Int} : hasR l x = true ↔ ∃ y, (x, y) ∈ l := by
  unfold hasR
  rw [decide_eq_true_eq]
  constructor
  · intro h
    have h1 := atN_get l x h
    refine ⟨(l.getD (atN l x) (0, 0)).2, ?_⟩
    have e : l.getD (atN l x) (0, 0) = l[atN l x] := by rw [List.getD_eq_getElem?_getD, List.getElem?_eq_getElem h]; rfl
    rw [e] at h1 ⊢
    have : l[atN l x] ∈ l := List.getElem_mem h
    rwa [show l[atN l x] = (x, l[atN l x].2) from Prod.ext h1 rfl] at this
  · rintro ⟨y, hy⟩
    obtain ⟨j, hj, e⟩ := List.mem_iff_getElem.1 hy
    have e2 : l.getD j (0, 0) = (x, y) := by rw [List.getD_eq_getElem?_getD, List.getElem?_eq_getElem hj, e]; rfl
    have := atN_has l j hj
    rw [e2] at this
    exact Nat.lt_of_le_of_lt this hj
end Go.Proofs.Ytnajlpmpofljhaa.P
