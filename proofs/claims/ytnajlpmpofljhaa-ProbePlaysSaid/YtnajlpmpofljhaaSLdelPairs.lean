import Derived.Test.YtnajlpmpofljhaaSLinsPairs
import Derived.Deep.RegionLaw
import Derived.Lib.SliceRun
namespace Go.Proofs.Ytnajlpmpofljhaa.P
open Go.RowKit Go.Proofs.YtnajlpmpofljhaaW.PrintWords Go.Proofs.YtnajlpmpofljhaaW.PrintLast Go.Proofs.YtnajlpmpofljhaaW.PrintMore
set_option linter.unusedVariables false
set_option linter.unusedSimpArgs false
set_option linter.unnecessarySimpa false
attribute [local go_sem] max2_int min2_int max_two min_two max_three min_three max_four min_four
/-! ### slices.Delete at rows of pairs: one goes -/
open Go.Lib
theorem run_clear_two {P : Program} (w : World) (t e ty : TypeId) (ht : P.underlying t = some (.slice e)) (hv : ∀ w, (zeroValue e).run P w = .ok (.agg #[.int .i64 0, .int .i64 0]) w) (b o c : Nat) (hc : ∀ j, j < 2 → (w.cell? ⟨b, o + j, none⟩).isSome = true) (hf : ∀ j, j < 2 → w.frozen? ⟨b, o + j, none⟩ = false) :
    (Builtin.clear_ #[t] ty #[.slice (some ⟨b, o, none⟩) 1 c]).run P w = .ok (.tuple #[]) (w.setCells b o [.int .i64 0, .int .i64 0]) := by
  have hst := run_storeCells_cells (P := P) b o [.int .i64 0, .int .i64 0] 0 w (by simpa using hc) (by simpa using hf) (by simp [Value.oneCell'])
  rw [Nat.add_zero] at hst
  have hz : (Builtin.zeroCells (Value.agg #[.int .i64 0, .int .i64 0]).cells 1).toList = [.int .i64 0, .int .i64 0] := by kernel_rfl
  simp [Builtin.clear_, run_underlying ht, hv, hz, hst]
set_option maxHeartbeats 4000000 in
set_option maxRecDepth 100000 in
theorem del_pairs (W : World) (base : Nat) (v : Value) (l : List (Int × Int)) (i : Nat) (hR : W.ownsRow base 55 2 v l.length (prs l)) (hi : i < l.length) (hl : l.length ≤ 1000) :
    Calls Try.prog 28 #[v, .int .i64 (i : Int), .int .i64 ((i : Int) + 1)] W fun e W' => ∃ v', e = .returned v' ∧ PairNow W base 55 v (l.eraseIdx i) W' v' := by
  rcases own2_form hR with ⟨rfl, rfl⟩ | ⟨g, cap, cur, rfl, hg, hh, hnc, hcm, hsz, htk, _⟩
  · exact absurd hi (Nat.not_lt_zero _)
  unfold maxLen at hcm
  obtain ⟨i0, hi0, hz0, hz1, hz2⟩ := info_parts infoRowP
  have hcell : ∀ j, j < cap * 2 → (W.cell? ⟨g, j, none⟩).isSome = true := fun j hj => by rw [blk_cell hh, Array.getElem?_eq_getElem (by omega)]; rfl
  have hcs : ∀ j v, (prs l)[j]? = some v → W.cell? ⟨g, j, none⟩ = some v := fun j v hj => by
    rw [blk_cell hh]
    rw [← htk, List.getElem?_take] at hj
    split at hj
    · simpa using hj
    · cases hj
  obtain ⟨news, hnews⟩ : ∃ news, news = prs (l.drop (i + 1)) := ⟨_, rfl⟩
  have hlen : news.length = (l.length - (i + 1)) * 2 := by rw [hnews, prs_length, List.length_drop]
  obtain ⟨A, hA, hsrc⟩ : ∃ A : Addr, (if cap = i + 1 then some (⟨g, 0, none⟩ : Addr) else some ⟨g, (i + 1) * 2, none⟩) = some A ∧ Aside0 (∀ t u, news[t]? = some u → W.drew.cell? (A.add t) = some u) := by
    by_cases h : cap = i + 1
    · refine ⟨⟨g, 0, none⟩, by simp [h], ⟨fun t u hu => ?_⟩⟩
      have h0 : news.length = 0 := by rw [hlen]; omega
      rw [List.length_eq_zero_iff.1 h0] at hu
      simp at hu
    · refine ⟨⟨g, (i + 1) * 2, none⟩, by simp [h], ⟨fun t u hu => ?_⟩⟩
      rw [Addr.add_lit]
      refine hcs _ u ?_
      rw [hnews, ← prs_drop, List.getElem?_drop] at hu
      exact hu
  have S1 := Aside0.mk hlen
  have S2 := Aside0.mk (show ∀ u ∈ news, u.oneCell' = true by rw [hnews]; exact prs_one _)
  have S3 := Aside0.mk (show ∀ t, t < news.length → (W.drew.cell? ⟨g, 0 + i * 2 + t, none⟩).isSome = true ∧ W.drew.frozen? ⟨g, 0 + i * 2 + t, none⟩ = false from fun t ht => ⟨hcell _ (by rw [hlen] at ht; omega), blk_frozen hh _⟩)
  obtain ⟨W1, hW1⟩ : ∃ W1, W1 = W.drew.setCells g (0 + i * 2) news := ⟨_, rfl⟩
  have hb1 : W1.heap[g]? = some (.cells (layAr cur (0 + i * 2) news) 55 (0, 0)) := by rw [hW1]; exact blk_setCs _ _ (blk_drew hh)
  have hcl : ∀ ty c, (Builtin.clear_ #[34] ty #[.slice (some ⟨g, (i + (l.length - (i + 1))) * 2, none⟩) (l.length - (i + (l.length - (i + 1)))) c]).run Try.prog W1 = .ok (.tuple #[]) (W1.setCells g ((i + (l.length - (i + 1))) * 2) [.int .i64 0, .int .i64 0]) := fun ty c => by
    rw [show l.length - (i + (l.length - (i + 1))) = 1 by omega]
    exact run_clear_two W1 _ 55 ty Try.underlying34 (fun w => by kernel_rfl) g _ c (fun j hj => by rw [blk_cell hb1, Array.getElem?_eq_getElem (by rw [layAr_size]; omega)]; rfl) (fun j _ => blk_frozen hb1 _)
  have HW1 := Aside0.mk hW1
  have HB1 := Aside0.mk hb1
  have HH := Aside0.mk hh
  have HSZ := Aside0.mk (And.intro hsz htk)
  have HNW := Aside0.mk hnews
  have hic : i ≤ cap := by omega
  have hjc : i + 1 ≤ cap := by omega
  have hin : i ≤ l.length := by omega
  have hjn : i + 1 ≤ l.length := by omega
  have hw1 : ((i : Int) == (i : Int) + 1) = false := by rw [beq_eq_false_iff_ne]; omega
  have htn : ((i : Int) + 1).toNat = i + 1 := by omega
  have hp1 : (0 : Int) ≤ (i : Int) + 1 := by omega
  have hp2 : (i : Int) + 1 ≤ (l.length : Int) := by omega
  clear hW1 hb1 hh hsz htk hnews hcell hcs hlen hR
  go_enter Try.func28, Try.ntmps28
  go_wp2_with fail
  go_region_law (refine step_append_room rfl (.tmp 22) (.tmp 25) 34 rfl 55 i0 2 Try.underlying34 hi0 hz1 g 0 i cap (by simp [Act.eval, Act.put]) A (l.length - (i + 1)) (cap - (i + 1)) news (by simp [Act.eval, Act.put]) S1.out hsrc.out S2.out (by omega) S3.out ?_; rw [← HW1.out])
  go_wp2_with fail
  go_ret
  have hh := HH.out
  have g1 := grown_setCs (g := g) news (W := W.drew) (0 + i * 2)
  have g2 := grown_setCs (g := g) [.int .i64 0, .int .i64 0] (W := W.drew.setCells g (0 + i * 2) news) ((i + (l.length - (i + 1))) * 2)
  rw [← HW1.out] at g1 g2
  have hlen : (l.eraseIdx i).length = i + (l.length - (i + 1)) := by rw [List.length_eraseIdx, if_pos hi]; omega
  refine ⟨_, rfl, own2_mk (blk_setCs _ _ HB1.out) hg hlen (by omega) hcm (by rw [layAr_size, layAr_size]; exact HSZ.out.1) ?_, ⟨g2.os.trans g1.os, g2.tape.trans g1.tape, g2.output.trans g1.output, Nat.le_trans g1.size g2.size, fun j hj hn => (g2.block j (Nat.lt_of_lt_of_le hj g1.size) hn).trans (g1.block j hj hn)⟩, .inl rfl⟩
  rw [layAr_list _ _ _ (by rw [layAr_size]; have := HSZ.out.1; simp; omega), layAr_list _ _ _ (by rw [S1.out]; have := HSZ.out.1; omega)]
  have hA : cur.toList.take (i * 2) = prs (l.take i) := by rw [← prs_take, ← HSZ.out.2, List.take_take, Nat.min_eq_left (by omega)]
  have hpl : (prs (l.take i)).length = i * 2 := by rw [prs_length, List.length_take]; omega
  rw [Nat.zero_add, hA, List.append_assoc, List.take_left' (by rw [List.length_take, List.length_append, List.length_append, List.length_drop, hpl, S1.out]; simp; have := HSZ.out.1; omega), List.take_append_of_le_length (by rw [List.length_append, hpl, S1.out]; omega), List.take_of_length_le (by rw [List.length_append, hpl, S1.out]; omega), HNW.out, ← prs_append, List.eraseIdx_eq_take_drop_succ]
end Go.Proofs.Ytnajlpmpofljhaa.P
