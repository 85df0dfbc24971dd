import Derived.Test.YtnajlpmpofljhaaSLplaysH
namespace Go.Proofs.Ytnajlpmpofljhaa.P
open Go.RowKit Go.Proofs.YtnajlpmpofljhaaW.PrintWords Go.Proofs.YtnajlpmpofljhaaW.PrintLast Go.Proofs.YtnajlpmpofljhaaW.PrintMore
set_option linter.unusedVariables false
set_option linter.unusedSimpArgs false
set_option linter.unnecessarySimpa false
attribute [local go_sem] max2_int min2_int max_two min_two max_three min_three max_four min_four
theorem ints_news {W : World} {b0 n0 b off : Nat} {ws : List Int} (hc : ∀ j, j < ws.length → W.cell? ⟨b, off + j, none⟩ = some (.int .i64 (ws.getD j 0))) : ∀ j u, (nums .i64 ws)[j]? = some u → W.cell? ((⟨b, off, none⟩ : Addr).add j) = some u := fun j u hj => by
  unfold nums at hj
  rw [List.getElem?_map] at hj
  by_cases h : j < ws.length
  · rw [List.getElem?_eq_getElem h] at hj
    have h2 := hc j h
    rw [List.getD_eq_getElem?_getD, List.getElem?_eq_getElem h] at h2
    have e : (⟨b, off, none⟩ : Addr).add j = ⟨b, off + j, none⟩ := by
      unfold Addr.add
      split
      · rename_i h0; subst h0; rfl
      · rfl
    rw [e, h2, ← hj]
    rfl
  · rw [List.getElem?_eq_none (by omega)] at hj
    cases hj
theorem nums_one (ws : List Int) : ∀ u ∈ nums .i64 ws, u.oneCell' = true := fun u hu => by
  unfold nums at hu
  obtain ⟨x, _, rfl⟩ := List.mem_map.1 hu
  rfl
set_option maxHeartbeats 1000000 in
/-- 'append([]int{}, xs..)'. -/
theorem wp_copy {ops : Array Oper} {rest : List Oper} {o : Oper} {a : Act} {Q : Exit → Act → World → Prop} (hgd : o.guard = none) (s x : Operand)
    (ho : o.op = .call { callee := .builtin .append, args := #[s, x], argTypes := #[30, 30] })
    (base : Nat) {W : World} {B b0 n0 : Nat} (c : Nat) (A : Option Addr) (ws : List Int) (hs : a.eval s = .slice (some ⟨B, 0, none⟩) 0 0) (hB : W.heap[B]? = some (.cells #[] 3 (0, 0))) (hbB : base ≤ B)
    (hx : a.eval x = .slice A ws.length c) (IW : IntsAt b0 n0 A ws W) (hl : ws.length ≤ 1000) (hbase : base ≤ W.heap.size)
    (h : ∀ A' c' W', W'.ownsRow base 3 1 (.slice A' ws.length c') ws.length (nums .i64 ws) → W.grownBy W' (some B) → wpList Try.prog ops Q rest (a.put o.dst (.slice A' ws.length c')) W') :
    wpList Try.prog ops Q (o :: rest) a W := by
  obtain ⟨i0, hi, hz0, hz1, hz2⟩ := info_parts infoIntP
  have own0 : W.ownsRow base 3 1 (.slice (some ⟨B, 0, none⟩) 0 0) 0 [] := own1_mk (ys := []) hB hbB rfl (Nat.le_refl _) (by decide) rfl rfl
  have main : ∀ b off, A = some ⟨b, off, none⟩ → (∀ j, j < ws.length → W.cell? ⟨b, off + j, none⟩ = some (.int .i64 (ws.getD j 0))) → wpList Try.prog ops Q (o :: rest) a W := fun b off e hc => by
    subst e
    refine wpList_append_own_at W hgd s x 30 ho base 3 i0 (.int .i64 0) 1 8 Try.underlying30 hi hz0 hz1 hz2 rfl (by decide) _ 0 [] hs own0 ⟨b, off, none⟩ ws.length c (nums .i64 ws) hx (by unfold nums; simp) (ints_news (b0 := 0) (n0 := 0) hc) (nums_one ws) (by unfold maxLen; omega) (by omega) hbase ?_
    intro v' w' h1 h2 _ _
    rw [Nat.zero_add, List.nil_append] at h1
    obtain ⟨A2, c2, ev⟩ := own_slice h1
    subst ev
    exact h A2 c2 w' h1 h2
  rcases IW with rfl | ⟨b, off, e, _, _, hc⟩
  · cases A with
    | some ad =>
      refine wpList_append_own_at W hgd s x 30 ho base 3 i0 (.int .i64 0) 1 8 Try.underlying30 hi hz0 hz1 hz2 rfl (by decide) _ 0 [] hs own0 ad 0 c [] hx rfl (fun j u hj => by simp at hj) (fun u hu => by cases hu) (by decide) (by decide) hbase ?_
      intro v' w' h1 h2 _ _
      obtain ⟨A2, c2, ev⟩ := own_slice (xs := ([] : List Value)) h1
      subst ev
      exact h A2 c2 w' h1 h2
    | none =>
      refine wpList_plain hgd fun K hK => ?_
      have hr : (Builtin.append_ #[30, 30] o.type #[.slice (some ⟨B, 0, none⟩) 0 0, .slice none 0 c]).run Try.prog W = .ok (.slice (some ⟨B, 0, none⟩) 0 0) W := by
        simp [Builtin.append_, run_underlying Try.underlying30, sizeOf, typeInfo, hi, Builtin.lenOf, Builtin.firstCells, loadCells, loadCellsFrom, storeCells]
      unfold Oper.wp execOp
      simp only [ho, resolve, invoke, builtin, Sem.run_bind, Sem.run_pure, Result.andThen_ok, List.map_toArray, List.map_cons, List.map_nil, hs, hx, List.length_nil, hr]
      exact hK _ _ (h _ _ _ own0 ⟨rfl, rfl, rfl, Nat.le_refl _, fun _ _ _ => rfl⟩)
  · exact main b off e hc
end Go.Proofs.Ytnajlpmpofljhaa.P
