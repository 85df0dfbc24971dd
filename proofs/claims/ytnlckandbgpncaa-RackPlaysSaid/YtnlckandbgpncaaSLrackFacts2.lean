import Derived.Test.YtnlckandbgpncaaSLrackFacts
namespace Go.Proofs.Ytnlckandbgpncaa.P
open Go.RowKit Go.Proofs.YtnlckandbgpncaaW.PrintWords Go.Proofs.YtnlckandbgpncaaW.PrintLast Go.Proofs.YtnlckandbgpncaaW.PrintMore
set_option linter.unusedVariables false
set_option linter.unusedSimpArgs false
set_option linter.unnecessarySimpa false
/-! ### what stands under a key, behind a put, a drop -/
theorem posK_getElem {ks : List Int} {k : Int} (hs : ks.Pairwise (· < ·)) (hc : ks.contains k = true) : ks[posK ks k]? = some k := by
  have := drop_posK hs hc
  have h2 := congrArg (fun l => l[0]?) this
  simpa using h2
theorem sorted_inj {ks : List Int} (hs : ks.Pairwise (· < ·)) {i j : Nat} {x : Int} (hi : ks[i]? = some x) (hj : ks[j]? = some x) : i = j := by
  obtain ⟨h1, e1⟩ := List.getElem?_eq_some_iff.1 hi
  obtain ⟨h2, e2⟩ := List.getElem?_eq_some_iff.1 hj
  rcases Nat.lt_trichotomy i j with h | h | h
  · have := List.pairwise_iff_getElem.1 hs i j h1 h2 h
    omega
  · exact h
  · have := List.pairwise_iff_getElem.1 hs j i h2 h1 h
    omega
/-- A key's value: what stands at any place where the key stands. -/
theorem getV_at {ks vs : List Int} (ok : TbOk ks vs) {i : Nat} {x y : Int} (hx : ks[i]? = some x) (hy : vs[i]? = some y) : getV ks vs x = y := by
  have hc : ks.contains x = true := List.contains_iff_mem.2 (List.mem_of_getElem? hx)
  have hi := sorted_inj ok.sorted hx (posK_getElem ok.sorted hc)
  unfold getV
  rw [if_pos hc, ← hi, List.getD_eq_getElem?_getD, hy]
  rfl
theorem getV_ex {ks vs : List Int} (ok : TbOk ks vs) {x : Int} (hc : ks.contains x = true) : ∃ i : Nat, ks[i]? = some x ∧ vs[i]? = some (getV ks vs x) := by
  have hlt := posK_lt hc
  refine ⟨posK ks x, posK_getElem ok.sorted hc, ?_⟩
  unfold getV
  rw [if_pos hc, List.getD_eq_getElem?_getD, List.getElem?_eq_getElem (by rw [← ok.len]; exact hlt)]
  rfl
theorem contains_iff {ks : List Int} {x : Int} : ks.contains x = true ↔ x ∈ ks := List.contains_iff_mem
theorem insAt_getElem (xs : List Int) (i : Nat) (x : Int) (hi : i ≤ xs.length) (j : Nat) : (insAt xs i x)[j]? = if j < i then xs[j]? else if j = i then some x else xs[j - 1]? := by
  unfold insAt
  have l1 : (xs.take i).length = i := by rw [List.length_take]; omega
  rw [List.append_assoc]
  by_cases h : j < i
  · rw [if_pos h, List.getElem?_append_left (by omega), List.getElem?_take, if_pos h]
  · rw [if_neg h, List.getElem?_append_right (by omega), l1]
    by_cases h2 : j = i
    · rw [if_pos h2, h2, Nat.sub_self]
      rfl
    · rw [if_neg h2, List.getElem?_append_right (by simp; omega), List.getElem?_drop]
      congr 1
      simp
      omega
theorem getV_put {ks vs : List Int} (ok : TbOk ks vs) (k v x : Int) (hl : ks.length ≤ 99) (hx : (putK ks k).contains x = true) : getV (putK ks k) (putV ks vs k v) x = if x = k then v else getV ks vs x := by
  have ok2 := ok.put k v hl
  by_cases hc : ks.contains k = true
  · have ek : putK ks k = ks := by unfold putK; rw [if_pos hc]
    have ev : putV ks vs k v = vs.set (posK ks k) v := by unfold putV; rw [if_pos hc]
    rw [ek] at hx ok2 ⊢
    rw [ev] at ok2 ⊢
    have hlt := posK_lt hc
    have hlv : posK ks k < vs.length := by rw [← ok.len]; exact hlt
    by_cases hxk : x = k
    · rw [if_pos hxk, hxk]
      exact getV_at ok2 (posK_getElem ok.sorted hc) (by rw [List.getElem?_set]; simp [hlv])
    · rw [if_neg hxk]
      obtain ⟨i, h1, h2⟩ := getV_ex ok hx
      refine getV_at ok2 h1 ?_
      rw [List.getElem?_set, if_neg (fun e => hxk ?_)]
      · exact h2
      · have := posK_getElem ok.sorted hc
        rw [e, h1] at this
        exact Option.some.inj this
  · have ek : putK ks k = insAt ks (posK ks k) k := by unfold putK; rw [if_neg hc]
    have ev : putV ks vs k v = insAt vs (posK ks k) v := by unfold putV; rw [if_neg hc]
    rw [ek] at hx ok2 ⊢
    rw [ev] at ok2 ⊢
    have hp := posK_le ks k
    have hpv : posK ks k ≤ vs.length := by rw [← ok.len]; exact hp
    by_cases hxk : x = k
    · rw [if_pos hxk, hxk]
      refine getV_at (i := posK ks k) ok2 ?_ ?_
      · rw [insAt_getElem _ _ _ hp, if_neg (by omega), if_pos rfl]
      · rw [insAt_getElem _ _ _ hpv, if_neg (by omega), if_pos rfl]
    · rw [if_neg hxk]
      have hx2 : ks.contains x = true := by
        rw [contains_iff, mem_insAt] at hx
        rw [contains_iff]
        exact hx.resolve_left hxk
      obtain ⟨i, h1, h2⟩ := getV_ex ok hx2
      by_cases hi : i < posK ks k
      · refine getV_at (i := i) ok2 ?_ ?_
        · rw [insAt_getElem _ _ _ hp, if_pos hi]; exact h1
        · rw [insAt_getElem _ _ _ hpv, if_pos hi]; exact h2
      · refine getV_at (i := i + 1) ok2 ?_ ?_
        · rw [insAt_getElem _ _ _ hp, if_neg (by omega), if_neg (by omega)]; exact h1
        · rw [insAt_getElem _ _ _ hpv, if_neg (by omega), if_neg (by omega)]; exact h2
theorem delAt_getElem (xs : List Int) (i : Nat) (hi : i < xs.length) (j : Nat) : (delAt xs i)[j]? = if j < i then xs[j]? else xs[j + 1]? := by
  unfold delAt
  have l1 : (xs.take i).length = i := by rw [List.length_take]; omega
  by_cases h : j < i
  · rw [if_pos h, List.getElem?_append_left (by omega), List.getElem?_take, if_pos h]
  · rw [if_neg h, List.getElem?_append_right (by omega), l1, List.getElem?_drop]
    congr 1
    omega
theorem getV_drop {ks vs : List Int} (ok : TbOk ks vs) (k x : Int) (hx : (dropK ks k).contains x = true) : getV (dropK ks k) (dropV ks vs k) x = getV ks vs x := by
  have ok2 := ok.drop k
  have hm : x ∈ ks ∧ x ≠ k := (mem_dropK ok.sorted x).1 (contains_iff.1 hx)
  by_cases hc : ks.contains k = true
  · have ek : dropK ks k = delAt ks (posK ks k) := by unfold dropK; rw [if_pos hc]
    have ev : dropV ks vs k = delAt vs (posK ks k) := by unfold dropV; rw [if_pos hc]
    rw [ek] at ok2 ⊢
    rw [ev] at ok2 ⊢
    have hp := posK_lt hc
    have hpv : posK ks k < vs.length := by rw [← ok.len]; exact hp
    obtain ⟨i, h1, h2⟩ := getV_ex ok (contains_iff.2 hm.1)
    have hne : i ≠ posK ks k := fun e => by
      have := posK_getElem ok.sorted hc
      rw [← e, h1] at this
      exact hm.2 (Option.some.inj this)
    by_cases hi : i < posK ks k
    · refine getV_at (i := i) ok2 ?_ ?_
      · rw [delAt_getElem _ _ hp, if_pos hi]; exact h1
      · rw [delAt_getElem _ _ hpv, if_pos hi]; exact h2
    · refine getV_at (i := i - 1) ok2 ?_ ?_
      · rw [delAt_getElem _ _ hp, if_neg (by omega), show i - 1 + 1 = i by omega]; exact h1
      · rw [delAt_getElem _ _ hpv, if_neg (by omega), show i - 1 + 1 = i by omega]; exact h2
  · have ek : dropK ks k = ks := by unfold dropK; rw [if_neg hc]
    have ev : dropV ks vs k = vs := by unfold dropV; rw [if_neg hc]
    rw [ek, ev]
theorem contains_putK (ks : List Int) (k x : Int) : (putK ks k).contains x = (decide (x = k) || ks.contains x) := by
  rw [Bool.eq_iff_iff, contains_iff, mem_putK, Bool.or_eq_true, decide_eq_true_eq, contains_iff]
theorem contains_dropK {ks : List Int} (hs : ks.Pairwise (· < ·)) (k x : Int) : (dropK ks k).contains x = (!decide (x = k) && ks.contains x) := by
  rw [Bool.eq_iff_iff, contains_iff, mem_dropK hs, Bool.and_eq_true, Bool.not_eq_true', decide_eq_false_iff_not, contains_iff]
  exact And.comm
/-- Where each key is a small one, or lies behind: what is given, near. -/
theorem give_near {ks : List Int} {step : Int} (hst : 1 ≤ step) (hst2 : step ≤ 1000) : ∀ (n : Nat) (nx : Int), 401 - nx ≤ n → nx ≤ 1000000000 → (∀ x ∈ ks, x ≤ 400 ∨ x < nx) →
    ∃ j : Nat, giveAt ks step (1099511627776 - nx).toNat nx = some (nx + step * j) ∧ giveNx ks step (1099511627776 - nx).toNat nx = nx + step * j + step ∧ (nx + step * j) ∉ ks ∧ (nx + step * j ≤ nx ∨ nx + step * j ≤ 400 + step) := by
  intro n
  induction n with
  | zero =>
    intro nx h0 h1 h2
    obtain ⟨j, e1, e2, e3, e4⟩ := give_law hst hst2 0 nx h0 h1 h2
    have hc : ks.contains nx = false := by
      rw [← Bool.not_eq_true, List.contains_iff_mem]
      intro h
      rcases h2 nx h with h | h <;> omega
    have := (give_round (ks := ks) (step := step) (o := giveAt ks step (1099511627776 - nx).toNat nx) (x := giveNx ks step (1099511627776 - nx).toNat nx) (nx := nx) (by omega) hst ⟨rfl, rfl⟩).2 hc
    rw [e1] at this
    have h3 := Option.some.inj this.1
    exact ⟨j, e1, e2, e3, .inl (by omega)⟩
  | succ n ih =>
    intro nx h0 h1 h2
    by_cases hc : ks.contains nx = true
    · have hr := (give_round (ks := ks) (step := step) (o := giveAt ks step (1099511627776 - nx).toNat nx) (x := giveNx ks step (1099511627776 - nx).toNat nx) (nx := nx) (by omega) hst ⟨rfl, rfl⟩).1 hc
      have hn : nx ≤ 400 := by
        rw [List.contains_iff_mem] at hc
        rcases h2 nx hc with h | h <;> omega
      obtain ⟨j, e1, e2, e3, e4⟩ := ih (nx + step) (by omega) (by omega) (fun x hx => (h2 x hx).imp id (fun h => by omega))
      have hm : nx + step + step * (j : Int) = nx + step * ((j + 1 : Nat) : Int) := by
        rw [Int.natCast_add, Int.mul_add]
        simp
        omega
      rw [hm] at e1 e2 e3 e4
      exact ⟨j + 1, hr.1.symm.trans e1, hr.2.symm.trans e2, e3, .inr (by omega)⟩
    · have hc : ks.contains nx = false := by simpa using hc
      have := (give_round (ks := ks) (step := step) (o := giveAt ks step (1099511627776 - nx).toNat nx) (x := giveNx ks step (1099511627776 - nx).toNat nx) (nx := nx) (by omega) hst ⟨rfl, rfl⟩).2 hc
      refine ⟨0, ?_, ?_, ?_, .inl (by simp)⟩
      · rw [← this.1]; simp
      · rw [← this.2]; simp
      · simp only [Int.natCast_zero, Int.mul_zero, Int.add_zero]
        intro h
        rw [← List.contains_iff_mem, hc] at h
        cases h

end Go.Proofs.Ytnlckandbgpncaa.P
