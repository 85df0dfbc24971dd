import Derived.Test.YtnajlpmpofljhaaSLpairs
namespace Go.Proofs.Ytnajlpmpofljhaa.P
open Go.RowKit Go.Proofs.YtnajlpmpofljhaaW.PrintWords Go.Proofs.YtnajlpmpofljhaaW.PrintLast Go.Proofs.YtnajlpmpofljhaaW.PrintMore
set_option linter.unusedVariables false
set_option linter.unusedSimpArgs false
set_option linter.unnecessarySimpa false
attribute [local go_sem] max2_int min2_int max_two min_two max_three min_three max_four min_four
/-! ### where a key stands in a list that rises -/
def posK (ks : List Int) (k : Int) : Nat := ks.countP (· < k)
theorem posK_le (ks : List Int) (k : Int) : posK ks k ≤ ks.length := List.countP_le_length
theorem posK_lt {ks : List Int} {k : Int} (h : ks.contains k = true) : posK ks k < ks.length := by
  unfold posK
  rw [List.contains_iff_mem] at h
  rcases Nat.lt_or_ge (ks.countP (· < k)) ks.length with h1 | h1
  · exact h1
  · have h2 : ks.countP (· < k) = ks.length := Nat.le_antisymm List.countP_le_length h1
    have h3 := List.countP_eq_length.1 h2 k h
    simp at h3
theorem posK_cons (a k : Int) (t : List Int) : posK (a :: t) k = posK t k + (if a < k then 1 else 0) := by
  unfold posK
  rw [List.countP_cons]
  simp
theorem posK_zero {ks : List Int} {k : Int} (h : ∀ x ∈ ks, k ≤ x) : posK ks k = 0 := by
  unfold posK
  rw [List.countP_eq_zero]
  intro x hx
  have := h x hx
  simp
  omega
theorem sorted_split {k : Int} : ∀ {ks : List Int}, ks.Pairwise (· < ·) → (∀ x ∈ ks.take (posK ks k), x < k) ∧ (∀ x ∈ ks.drop (posK ks k), k ≤ x)
  | [], _ => ⟨fun x hx => by simp at hx, fun x hx => by simp at hx⟩
  | a :: t, hs => by
    obtain ⟨h1, h2⟩ := List.pairwise_cons.1 hs
    by_cases h : a < k
    · have ih := sorted_split (k := k) h2
      rw [posK_cons, if_pos h, List.take_succ_cons, List.drop_succ_cons]
      refine ⟨fun x hx => ?_, ih.2⟩
      rcases List.mem_cons.1 hx with rfl | hx
      · exact h
      · exact ih.1 x hx
    · have e : posK (a :: t) k = 0 := posK_zero (fun x hx => by
        rcases List.mem_cons.1 hx with rfl | hx
        · omega
        · have := h1 x hx
          omega)
      rw [e]
      refine ⟨fun x hx => by simp at hx, fun x hx => ?_⟩
      rw [List.drop_zero] at hx
      rcases List.mem_cons.1 hx with rfl | hx
      · omega
      · have := h1 x hx
        omega
theorem drop_posK {ks : List Int} {k : Int} (hs : ks.Pairwise (· < ·)) (hc : ks.contains k = true) : ks.drop (posK ks k) = k :: ks.drop (posK ks k + 1) := by
  obtain ⟨s1, s2⟩ := sorted_split (k := k) hs
  have hlt := posK_lt hc
  have hd : (ks.drop (posK ks k)).Pairwise (· < ·) := hs.sublist (List.drop_sublist _ _)
  have hm : k ∈ ks.drop (posK ks k) := by
    rw [List.contains_iff_mem] at hc
    rw [← List.take_append_drop (posK ks k) ks] at hc
    rcases List.mem_append.1 hc with h | h
    · have := s1 k h
      omega
    · exact h
  have e : ks.drop (posK ks k) = ks[posK ks k] :: ks.drop (posK ks k + 1) := List.drop_eq_getElem_cons hlt
  have hk : ks[posK ks k] = k := by
    have h1 := s2 ks[posK ks k] (by rw [e]; exact List.mem_cons_self)
    rw [e] at hm hd
    rcases List.mem_cons.1 hm with h | h
    · exact h.symm
    · have := (List.pairwise_cons.1 hd).1 k h
      omega
  rw [e, hk]
theorem posK_getElem {ks : List Int} {k : Int} (hs : ks.Pairwise (· < ·)) (hc : ks.contains k = true) : ks[posK ks k]? = some k := by
  have := drop_posK hs hc
  have h2 := congrArg (fun l => l[0]?) this
  simpa using h2
theorem sorted_inj {ks : List Int} (hs : ks.Pairwise (· < ·)) {i j : Nat} {x : Int} (hi : ks[i]? = some x) (hj : ks[j]? = some x) : i = j := by
  obtain ⟨h1, e1⟩ := List.getElem?_eq_some_iff.1 hi
  obtain ⟨h2, e2⟩ := List.getElem?_eq_some_iff.1 hj
  rcases Nat.lt_trichotomy i j with h | h | h
  · have := List.pairwise_iff_getElem.1 hs i j h1 h2 h
    omega
  · exact h
  · have := List.pairwise_iff_getElem.1 hs j i h2 h1 h
    omega
/-- A key's value: what stands at any place where the key stands. -/
theorem contains_iff {ks : List Int} {x : Int} : ks.contains x = true ↔ x ∈ ks := List.contains_iff_mem
/-- What stands ahead of a key's place is less, and nothing else. -/
theorem posK_lt_iff {ks : List Int} {k : Int} (hs : ks.Pairwise (· < ·)) {h : Nat} (hh : h < ks.length) : ks.getD h 0 < k ↔ h < posK ks k := by
  obtain ⟨s1, s2⟩ := sorted_split (k := k) hs
  have e : ks.getD h 0 = ks[h] := by rw [List.getD_eq_getElem?_getD, List.getElem?_eq_getElem hh]; rfl
  rw [e]
  constructor
  · intro hlt
    rcases Nat.lt_or_ge h (posK ks k) with h1 | h1
    · exact h1
    · have : ks[h] ∈ ks.drop (posK ks k) := by
        refine List.mem_iff_getElem.2 ⟨h - posK ks k, by rw [List.length_drop]; omega, ?_⟩
        rw [List.getElem_drop]
        congr 1
        omega
      have := s2 _ this
      omega
  · intro hlt
    exact s1 _ (List.mem_iff_getElem.2 ⟨h, by rw [List.length_take]; omega, by rw [List.getElem_take]⟩)
theorem posK_eq_iff {ks : List Int} {k : Int} (hs : ks.Pairwise (· < ·)) (hp : posK ks k < ks.length) : ks.getD (posK ks k) 0 = k ↔ ks.contains k = true := by
  have e : ks.getD (posK ks k) 0 = ks[posK ks k] := by rw [List.getD_eq_getElem?_getD, List.getElem?_eq_getElem hp]; rfl
  constructor
  · intro h
    rw [e] at h
    exact contains_iff.2 (by rw [← h]; exact List.getElem_mem hp)
  · intro h
    have := posK_getElem hs h
    rw [List.getD_eq_getElem?_getD, this]
    rfl
end Go.Proofs.Ytnajlpmpofljhaa.P
