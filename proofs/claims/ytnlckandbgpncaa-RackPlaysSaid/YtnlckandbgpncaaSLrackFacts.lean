import Derived.Test.YtnlckandbgpncaaStrackAwake
namespace Go.Proofs.Ytnlckandbgpncaa.P
open Go.RowKit Go.Proofs.YtnlckandbgpncaaW.PrintWords Go.Proofs.YtnlckandbgpncaaW.PrintLast Go.Proofs.YtnlckandbgpncaaW.PrintMore
set_option linter.unusedVariables false
set_option linter.unusedSimpArgs false
set_option linter.unnecessarySimpa false
/-! ### what is put and dropped, in plain words -/
theorem posK_cons (a k : Int) (t : List Int) : posK (a :: t) k = posK t k + (if a < k then 1 else 0) := by
  unfold posK
  rw [List.countP_cons]
  simp
theorem posK_zero {ks : List Int} {k : Int} (h : ∀ x ∈ ks, k ≤ x) : posK ks k = 0 := by
  unfold posK
  rw [List.countP_eq_zero]
  intro x hx
  have := h x hx
  simp
  omega
theorem sorted_split {k : Int} : ∀ {ks : List Int}, ks.Pairwise (· < ·) → (∀ x ∈ ks.take (posK ks k), x < k) ∧ (∀ x ∈ ks.drop (posK ks k), k ≤ x)
  | [], _ => ⟨fun x hx => by simp at hx, fun x hx => by simp at hx⟩
  | a :: t, hs => by
    obtain ⟨h1, h2⟩ := List.pairwise_cons.1 hs
    by_cases h : a < k
    · have ih := sorted_split (k := k) h2
      rw [posK_cons, if_pos h, List.take_succ_cons, List.drop_succ_cons]
      refine ⟨fun x hx => ?_, ih.2⟩
      rcases List.mem_cons.1 hx with rfl | hx
      · exact h
      · exact ih.1 x hx
    · have e : posK (a :: t) k = 0 := posK_zero (fun x hx => by
        rcases List.mem_cons.1 hx with rfl | hx
        · omega
        · have := h1 x hx
          omega)
      rw [e]
      refine ⟨fun x hx => by simp at hx, fun x hx => ?_⟩
      rw [List.drop_zero] at hx
      rcases List.mem_cons.1 hx with rfl | hx
      · omega
      · have := h1 x hx
        omega
theorem mem_insAt (ks : List Int) (i : Nat) (k x : Int) : x ∈ insAt ks i k ↔ x = k ∨ x ∈ ks := by
  have h : x ∈ ks ↔ x ∈ ks.take i ∨ x ∈ ks.drop i := by
    conv => lhs; rw [← List.take_append_drop i ks]
    exact List.mem_append
  unfold insAt
  rw [List.mem_append, List.mem_append, List.mem_singleton, h]
  constructor
  · rintro ((h | h) | h)
    · exact .inr (.inl h)
    · exact .inl h
    · exact .inr (.inr h)
  · rintro (h | h | h)
    · exact .inl (.inr h)
    · exact .inl (.inl h)
    · exact .inr h
theorem mem_putK (ks : List Int) (k x : Int) : x ∈ putK ks k ↔ x = k ∨ x ∈ ks := by
  unfold putK
  split
  · rename_i h
    rw [List.contains_iff_mem] at h
    constructor
    · exact .inr
    · rintro (rfl | h2)
      · exact h
      · exact h2
  · exact mem_insAt _ _ _ _
theorem putK_sorted {ks : List Int} {k : Int} (hs : ks.Pairwise (· < ·)) : (putK ks k).Pairwise (· < ·) := by
  unfold putK
  split
  · exact hs
  · rename_i h
    have hk : k ∉ ks := fun h2 => h (List.contains_iff_mem.2 h2)
    obtain ⟨s1, s2⟩ := sorted_split (k := k) hs
    unfold insAt
    have ht : (ks.take (posK ks k)).Pairwise (· < ·) := hs.sublist (List.take_sublist _ _)
    have hd : (ks.drop (posK ks k)).Pairwise (· < ·) := hs.sublist (List.drop_sublist _ _)
    refine List.pairwise_append.2 ⟨List.pairwise_append.2 ⟨ht, List.pairwise_singleton _ _, fun a ha b hb => ?_⟩, hd, fun a ha b hb => ?_⟩
    · rw [List.mem_singleton.1 hb]
      exact s1 a ha
    · have hb2 := s2 b hb
      have hbk : b ≠ k := fun e => hk (e ▸ List.mem_of_mem_drop hb)
      rcases List.mem_append.1 ha with ha | ha
      · have := s1 a ha
        omega
      · rw [List.mem_singleton.1 ha]
        omega
theorem putK_length (ks : List Int) (k : Int) : (putK ks k).length = if ks.contains k = true then ks.length else ks.length + 1 := by
  unfold putK
  split
  · rfl
  · exact insAt_length (posK_le ks k)
theorem TbOk.put {ks vs : List Int} (h : TbOk ks vs) (k v : Int) (hl : ks.length ≤ 99) : TbOk (putK ks k) (putV ks vs k v) := by
  refine ⟨putK_sorted h.sorted, ?_, ?_⟩
  · rw [putK_length]
    unfold putV
    split
    · rw [List.length_set]
      exact h.len
    · rw [insAt_length (by rw [← h.len]; exact posK_le ks k), h.len]
  · rw [putK_length]
    split <;> omega
/-- A key that is there stands at its place. -/
theorem drop_posK {ks : List Int} {k : Int} (hs : ks.Pairwise (· < ·)) (hc : ks.contains k = true) : ks.drop (posK ks k) = k :: ks.drop (posK ks k + 1) := by
  obtain ⟨s1, s2⟩ := sorted_split (k := k) hs
  have hlt := posK_lt hc
  have hd : (ks.drop (posK ks k)).Pairwise (· < ·) := hs.sublist (List.drop_sublist _ _)
  have hm : k ∈ ks.drop (posK ks k) := by
    rw [List.contains_iff_mem] at hc
    rw [← List.take_append_drop (posK ks k) ks] at hc
    rcases List.mem_append.1 hc with h | h
    · have := s1 k h
      omega
    · exact h
  have e : ks.drop (posK ks k) = ks[posK ks k] :: ks.drop (posK ks k + 1) := List.drop_eq_getElem_cons hlt
  have hk : ks[posK ks k] = k := by
    have h1 := s2 ks[posK ks k] (by rw [e]; exact List.mem_cons_self)
    rw [e] at hm hd
    rcases List.mem_cons.1 hm with h | h
    · exact h.symm
    · have := (List.pairwise_cons.1 hd).1 k h
      omega
  rw [e, hk]
theorem dropK_sorted {ks : List Int} {k : Int} (hs : ks.Pairwise (· < ·)) : (dropK ks k).Pairwise (· < ·) := by
  unfold dropK
  split
  · rename_i hc
    refine hs.sublist ?_
    unfold delAt
    conv => rhs; rw [← List.take_append_drop (posK ks k) ks, drop_posK hs hc]
    exact List.Sublist.append (List.Sublist.refl _) (List.sublist_cons_self _ _)
  · exact hs
theorem mem_dropK {ks : List Int} {k : Int} (hs : ks.Pairwise (· < ·)) (x : Int) : x ∈ dropK ks k ↔ x ∈ ks ∧ x ≠ k := by
  unfold dropK
  split
  · rename_i hc
    obtain ⟨s1, _⟩ := sorted_split (k := k) hs
    have hd : (ks.drop (posK ks k)).Pairwise (· < ·) := hs.sublist (List.drop_sublist _ _)
    have e := drop_posK hs hc
    rw [e] at hd
    have h3 := (List.pairwise_cons.1 hd).1
    have h : x ∈ ks ↔ x ∈ ks.take (posK ks k) ∨ x = k ∨ x ∈ ks.drop (posK ks k + 1) := by
      conv => lhs; rw [← List.take_append_drop (posK ks k) ks, e]
      rw [List.mem_append, List.mem_cons]
    unfold delAt
    rw [List.mem_append, h]
    constructor
    · rintro (h1 | h1)
      · exact ⟨.inl h1, by have := s1 x h1; omega⟩
      · exact ⟨.inr (.inr h1), by have := h3 x h1; omega⟩
    · rintro ⟨h1 | h1 | h1, h2⟩
      · exact .inl h1
      · exact absurd h1 h2
      · exact .inr h1
  · rename_i hc
    constructor
    · intro h
      exact ⟨h, fun e => hc (List.contains_iff_mem.2 (e ▸ h))⟩
    · exact fun h => h.1
theorem dropK_length (ks : List Int) (k : Int) : (dropK ks k).length = if ks.contains k = true then ks.length - 1 else ks.length := by
  unfold dropK
  split
  · rename_i hc
    exact delAt_length (posK_lt hc)
  · rfl
theorem TbOk.drop {ks vs : List Int} (h : TbOk ks vs) (k : Int) : TbOk (dropK ks k) (dropV ks vs k) := by
  refine ⟨dropK_sorted h.sorted, ?_, ?_⟩
  · rw [dropK_length]
    unfold dropV
    split
    · rename_i hc
      rw [delAt_length (by rw [← h.len]; exact posK_lt hc), h.len]
    · exact h.len
  · rw [dropK_length]
    have := h.most
    split <;> omega
/-- Where each key is a small one, or lies behind: what is given. -/
theorem give_law {ks : List Int} {step : Int} (hst : 1 ≤ step) (hst2 : step ≤ 1000) : ∀ (n : Nat) (nx : Int), 401 - nx ≤ n → nx ≤ 1000000000 → (∀ x ∈ ks, x ≤ 400 ∨ x < nx) →
    ∃ j : Nat, giveAt ks step (1099511627776 - nx).toNat nx = some (nx + step * j) ∧ giveNx ks step (1099511627776 - nx).toNat nx = nx + step * j + step ∧ (nx + step * j) ∉ ks ∧ (nx + step * j ≤ nx ∨ nx + step * j ≤ 1400) := by
  intro n
  induction n with
  | zero =>
    intro nx h0 h1 h2
    have hc : ks.contains nx = false := by
      rw [← Bool.not_eq_true, List.contains_iff_mem]
      intro h
      rcases h2 nx h with h | h <;> omega
    have := (give_round (ks := ks) (step := step) (o := giveAt ks step (1099511627776 - nx).toNat nx) (x := giveNx ks step (1099511627776 - nx).toNat nx) (nx := nx) (by omega) hst ⟨rfl, rfl⟩).2 hc
    refine ⟨0, ?_, ?_, ?_, .inl (by simp)⟩
    · rw [← this.1]; simp
    · rw [← this.2]; simp
    · simp only [Int.natCast_zero, Int.mul_zero, Int.add_zero]
      intro h
      rw [← List.contains_iff_mem, hc] at h
      cases h
  | succ n ih =>
    intro nx h0 h1 h2
    by_cases hc : ks.contains nx = true
    · have hr := (give_round (ks := ks) (step := step) (o := giveAt ks step (1099511627776 - nx).toNat nx) (x := giveNx ks step (1099511627776 - nx).toNat nx) (nx := nx) (by omega) hst ⟨rfl, rfl⟩).1 hc
      have hn : nx ≤ 400 := by
        rw [List.contains_iff_mem] at hc
        rcases h2 nx hc with h | h <;> omega
      obtain ⟨j, e1, e2, e3, e4⟩ := ih (nx + step) (by omega) (by omega) (fun x hx => (h2 x hx).imp id (fun h => by omega))
      have hm : nx + step + step * (j : Int) = nx + step * ((j + 1 : Nat) : Int) := by
        rw [Int.natCast_add, Int.mul_add]
        simp
        omega
      rw [hm] at e1 e2 e3 e4
      exact ⟨j + 1, hr.1.symm.trans e1, hr.2.symm.trans e2, e3, .inr (by omega)⟩
    · have hc : ks.contains nx = false := by simpa using hc
      have := (give_round (ks := ks) (step := step) (o := giveAt ks step (1099511627776 - nx).toNat nx) (x := giveNx ks step (1099511627776 - nx).toNat nx) (nx := nx) (by omega) hst ⟨rfl, rfl⟩).2 hc
      refine ⟨0, ?_, ?_, ?_, .inl (by simp)⟩
      · rw [← this.1]; simp
      · rw [← this.2]; simp
      · simp only [Int.natCast_zero, Int.mul_zero, Int.add_zero]
        intro h
        rw [← List.contains_iff_mem, hc] at h
        cases h

end Go.Proofs.Ytnlckandbgpncaa.P
