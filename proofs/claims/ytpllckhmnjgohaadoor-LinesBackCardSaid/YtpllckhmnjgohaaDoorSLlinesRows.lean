import Derived.Test.YtpllckhmnjgohaaDoorSLlinesSplit
namespace Go.Proofs.YtpllckhmnjgohaaDoor.P
open Go.RowKit Go.Proofs.YtpllckhmnjgohaaDoorW.PrintWords Go.Proofs.YtpllckhmnjgohaaDoorW.PrintLast Go.Proofs.YtpllckhmnjgohaaDoorW.PrintMore
set_option linter.unusedVariables false
set_option linter.unusedSimpArgs false
set_option linter.unnecessarySimpa false
attribute [local go_sem] max2_int min2_int max_two min_two max_three min_three max_four min_four
set_option linter.unusedVariables false
set_option linter.unusedSimpArgs false
set_option linter.unnecessarySimpa false
/-! ### rows of rows, as the printed contracts read them -/
theorem strs_readsW {W : World} {base : Nat} {v : Value} {l : List ByteArray} (h : W.ownsRow base 9 1 v l.length (strs l)) : ∃ A q, v = .slice A l.length q ∧ l.length ≤ q ∧ Kd.C Kd.string W A l.length l := by
  obtain ⟨hlen, hrest⟩ := h
  rcases hrest with ⟨rfl, h0⟩ | ⟨g, cap, cur, rfl, hg, hh, hnc, hcm, hsz, htk⟩
  · obtain rfl : l = [] := List.eq_nil_of_length_eq_zero h0
    exact ⟨none, 0, rfl, Nat.le_refl _, Kd.C_nil _ _⟩
  · rw [Nat.mul_one] at hsz htk
    refine ⟨_, cap, rfl, hnc, Kd.C_of_reads (d := ByteArray.empty) (h1 := fun _ => rfl) ⟨rfl, by unfold maxLen at hcm; omega, fun _ => ⟨⟨g, 0, none⟩, rfl, fun j hj => ?_⟩⟩⟩
    have h1 : (strs l)[j]? = some (.string (l.getD j ByteArray.empty)) := by
      unfold strs
      rw [List.getElem?_map, List.getElem?_eq_getElem hj, List.getD_eq_getElem?_getD, List.getElem?_eq_getElem hj]
      rfl
    rw [← htk, List.getElem?_take_of_lt hj] at h1
    rw [Addr.add_lit, Nat.zero_add, Lib.cell_of_heap hh]
    simpa using h1
theorem rows2_reads {W : World} {base : Nat} {v : Value} {ls : List (List ByteArray)} (h : Rows2 W base v ls) : ∃ A q, v = .slice A ls.length q ∧ ls.length ≤ q ∧ Kd.C (Kd.slice 9 Kd.string) W A ls.length ls := by
  obtain ⟨vs, ho, hvl, hin⟩ := h
  obtain ⟨hlen, hrest⟩ := ho
  rcases hrest with ⟨rfl, h0⟩ | ⟨g, cap, cur, rfl, hg, hh, hnc, hcm, hsz, htk⟩
  · obtain rfl : ls = [] := List.eq_nil_of_length_eq_zero h0
    exact ⟨none, 0, rfl, Nat.le_refl _, Kd.C_nil _ _⟩
  · rw [Nat.mul_one] at hsz htk
    refine ⟨_, cap, rfl, hnc, rfl, by unfold maxLen at hcm; omega, fun _ => ⟨⟨g, 0, none⟩, rfl, fun j l hj => ?_⟩⟩
    have hjl : j < ls.length := (List.getElem?_eq_some_iff.1 hj).1
    have el : ls.getD j [] = l := by rw [List.getD_eq_getElem?_getD, hj]; rfl
    obtain ⟨A2, q2, e2, hq2, c2⟩ := strs_readsW (hin j hjl)
    rw [el] at e2 hq2 c2
    refine ⟨[vs.getD j undef], rfl, ⟨A2, q2, by rw [e2], hq2, c2⟩, fun i u hu => ?_⟩
    obtain rfl : i = 0 := by
      have := (List.getElem?_eq_some_iff.1 hu).1
      simpa using this
    have hu2 : vs.getD j undef = u := by simpa using hu
    have h1 : vs[j]? = some (vs.getD j undef) := by rw [List.getD_eq_getElem?_getD, List.getElem?_eq_getElem (by omega)]; rfl
    rw [hu2, ← htk, List.getElem?_take_of_lt hjl] at h1
    rw [Addr.add_lit, Nat.zero_add, Lib.cell_of_heap hh]
    simpa [Kd.slice] using h1
end Go.Proofs.YtpllckhmnjgohaaDoor.P
