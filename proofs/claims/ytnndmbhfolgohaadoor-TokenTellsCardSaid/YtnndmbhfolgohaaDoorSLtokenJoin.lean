import Derived.Test.YtnndmbhfolgohaaDoorSLtokenAwake
namespace Go.Proofs.YtnndmbhfolgohaaDoor.P
open Go.RowKit Go.Proofs.YtnndmbhfolgohaaDoorW.PrintWords Go.Proofs.YtnndmbhfolgohaaDoorW.PrintLast Go.Proofs.YtnndmbhfolgohaaDoorW.PrintMore
set_option linter.unusedVariables false
set_option linter.unusedSimpArgs false
set_option linter.unnecessarySimpa false
attribute [local go_sem] max2_int min2_int max_two min_two max_three min_three max_four min_four
set_option linter.unusedVariables false
set_option linter.unusedSimpArgs false
set_option linter.unnecessarySimpa false
/-! ### the pieces of what was joined; what was cut, joined -/
theorem joinTail_cons (c : UInt8) (p : List UInt8) (ps : List (List UInt8)) : Lib.joinTail [c] (p :: ps) = c :: Lib.join (p :: ps) [c] := by
  rw [Lib.join_cons]
  simp [Lib.joinTail]
theorem join_pieces (c : UInt8) : ∀ l : List UInt8, Lib.join (piecesL c l) [c] = l
  | [] => by unfold piecesL; exact Lib.join_one _ _
  | x :: xs => by
    have ih := join_pieces c xs
    cases e : piecesL c xs with
    | nil => exact absurd e (piecesL_ne c xs)
    | cons p ps =>
      rw [e] at ih
      by_cases hx : x = c
      · subst hx
        rw [piecesL_same, e, Lib.join_cons, joinTail_cons, ih]
        rfl
      · rw [piecesL_step hx e, Lib.join_cons]
        rw [Lib.join_cons] at ih
        simp [ih]
theorem pieces_app (c : UInt8) (rest : List UInt8) (q : List UInt8) (qs : List (List UInt8)) (e : piecesL c rest = q :: qs) : ∀ p : List UInt8, c ∉ p → piecesL c (p ++ rest) = (p ++ q) :: qs
  | [], _ => e
  | x :: p, h => by
    have hx : x ≠ c := fun e2 => h (by rw [e2]; exact List.mem_cons_self ..)
    have ih := pieces_app c rest q qs e p (fun hm => h (List.mem_cons_of_mem _ hm))
    exact piecesL_step hx ih
theorem pieces_join (c : UInt8) : ∀ (ps : List (List UInt8)) (p : List UInt8), (∀ q ∈ p :: ps, c ∉ q) → piecesL c (Lib.join (p :: ps) [c]) = p :: ps
  | [], p, h => by
    rw [Lib.join_one]
    have := pieces_app c [] [] [] (by unfold piecesL; rfl) p (h p (List.mem_cons_self ..))
    simpa using this
  | q :: qs, p, h => by
    have ih := pieces_join c qs q (fun r hr => h r (List.mem_cons_of_mem _ hr))
    rw [Lib.join_cons, joinTail_cons]
    have := pieces_app c (c :: Lib.join (q :: qs) [c]) [] (q :: qs) (by rw [piecesL_same, ih]) p (h p (List.mem_cons_self ..))
    simpa using this
theorem bytes_id (s : ByteArray) : (⟨s.data.toList.toArray⟩ : ByteArray) = s := rfl
theorem joinT_texts (s : ByteArray) (c : UInt8) : joinT (texts c s) c = s := by
  unfold joinT texts
  rw [List.map_map, show (fun x : ByteArray => x.data.toList) ∘ (fun l : List UInt8 => (⟨l.toArray⟩ : ByteArray)) = id from rfl, List.map_id, join_pieces]
theorem texts_joinT {l : List ByteArray} {c : UInt8} (hne : l ≠ []) (h : ∀ x ∈ l, c ∉ x.data.toList) : texts c (joinT l c) = l := by
  unfold texts joinT
  cases l with
  | nil => exact absurd rfl hne
  | cons x xs =>
    show List.map _ (piecesL c (Lib.join (x.data.toList :: xs.map (·.data.toList)) [c])) = _
    rw [pieces_join c (xs.map (·.data.toList)) x.data.toList (fun q hq => by
      rcases List.mem_cons.1 hq with rfl | hq
      · exact h x (List.mem_cons_self ..)
      · obtain ⟨y, hy, rfl⟩ := List.mem_map.1 hq
        exact h y (List.mem_cons_of_mem _ hy))]
    simp only [List.map_cons, List.map_map]
    congr 1
    exact List.map_id _
theorem idB_free {x : ByteArray} {c : UInt8} (hx : idB x = true) (hc : ltB (c.toNat : Int) = false) : c ∉ x.data.toList := by
  intro hm
  obtain ⟨i, hi, e⟩ := List.getElem_of_mem hm
  have hi2 : i < x.size := by rw [data_length] at hi; exact hi
  unfold idB at hx
  rw [Bool.and_eq_true] at hx
  have := (List.all_eq_true.1 hx.2) i (List.mem_range.2 hi2)
  have hb := bt_at x (i : Int) (by simpa using hi2)
  have e2 : (x[i]'hi2) = c := e
  have h3 : bt x (i : Int) = (c.toNat : Int) := by
    rw [← e2]
    simpa using hb.symm
  rw [h3, hc] at this
  cases this
theorem mayB_id {l : List ByteArray} (h : mayB l = true) : l.length ≤ 8 ∧ ∀ x ∈ l, idB x = true := by
  unfold mayB at h
  rw [Bool.and_eq_true] at h
  exact ⟨of_decide_eq_true h.1, List.all_eq_true.1 h.2⟩
theorem idB_size {x : ByteArray} (h : idB x = true) : 1 ≤ x.size ∧ x.size ≤ 8 := by
  unfold idB at h
  rw [Bool.and_eq_true] at h
  exact of_decide_eq_true h.1
theorem join_zero {c : UInt8} {l : List ByteArray} (h : (joinT l c).size = 0) (hid : ∀ x ∈ l, 1 ≤ x.size) : l = [] := by
  cases l with
  | nil => rfl
  | cons x xs =>
    exfalso
    have h1 := hid x (List.mem_cons_self ..)
    unfold joinT at h
    rw [List.map_cons, Lib.join_cons] at h
    have h2 : (x.data.toList ++ Lib.joinTail [c] (xs.map (·.data.toList))).length = 0 := h
    rw [List.length_append, data_length] at h2
    omega
/-- What is printed is parsed as it was. -/
theorem parse_print {l : List ByteArray} {c : UInt8} (hc : ltB (c.toNat : Int) = false) (hm : mayB l = true) : parE (joinT l c) c = 0 ∧ parL (joinT l c) c = l := by
  obtain ⟨h8, hid⟩ := mayB_id hm
  unfold parE parL
  rw [hc]
  simp only [Bool.false_eq_true, if_false]
  by_cases h0 : (joinT l c).size = 0
  · obtain rfl := join_zero h0 (fun x hx => (idB_size (hid x hx)).1)
    rw [if_pos h0, if_pos h0]
    exact ⟨rfl, rfl⟩
  · rw [if_neg h0, if_neg h0]
    by_cases hl : l = []
    · subst hl
      exact absurd rfl h0
    · rw [texts_joinT hl (fun x hx => idB_free (hid x hx) hc), if_pos hm, if_pos hm]
      exact ⟨rfl, rfl⟩
/-- What is parsed is printed as it was. -/
theorem print_parse {s : ByteArray} {c : UInt8} (h : parE s c = 0) : priE (parL s c) c = 0 ∧ priS (parL s c) c = s ∧ mayB (parL s c) = true := by
  unfold parE at h
  unfold parL
  split at h
  · exact absurd h (by decide)
  · rename_i hc
    have hc2 : ltB (c.toNat : Int) = false := by simpa using hc
    rw [if_neg hc]
    split at h
    · rename_i h0
      rw [if_pos h0]
      have e1 : s = ⟨#[]⟩ := by
        obtain ⟨d⟩ := s
        have : d.size = 0 := h0
        rw [Array.eq_empty_of_size_eq_zero this]
      refine ⟨?_, ?_, by decide⟩
      · unfold priE; rw [if_pos ⟨hc2, by decide⟩]
      · unfold priS; rw [if_pos ⟨hc2, by decide⟩, e1]; rfl
    · rename_i h0
      rw [if_neg h0]
      split at h
      · rename_i hm
        rw [if_pos hm]
        refine ⟨?_, ?_, hm⟩
        · unfold priE; rw [if_pos ⟨hc2, hm⟩]
        · unfold priS; rw [if_pos ⟨hc2, hm⟩]; exact joinT_texts s c
      · exact absurd h (by decide)
theorem parE_cases (s : ByteArray) (c : UInt8) : parE s c = 0 ∨ (parE s c = 2 ∧ parL s c = []) ∨ (parE s c = 6 ∧ parL s c = []) := by
  unfold parE parL
  repeat' split
  all_goals simp
end Go.Proofs.YtnndmbhfolgohaaDoor.P
