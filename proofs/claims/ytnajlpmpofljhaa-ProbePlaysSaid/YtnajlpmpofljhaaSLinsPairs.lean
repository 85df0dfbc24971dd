import Derived.Test.YtnajlpmpofljhaaSLpairs
import Derived.Shelf.Spec.SlicesInsert
import Derived.Shelf.Spec.SlicesInsertGrow
namespace Go.Proofs.Ytnajlpmpofljhaa.P
open Go.RowKit Go.Proofs.YtnajlpmpofljhaaW.PrintWords Go.Proofs.YtnajlpmpofljhaaW.PrintLast Go.Proofs.YtnajlpmpofljhaaW.PrintMore
set_option linter.unusedVariables false
set_option linter.unusedSimpArgs false
set_option linter.unnecessarySimpa false
attribute [local go_sem] max2_int min2_int max_two min_two max_three min_three max_four min_four
/-! ### slices.Insert at rows of pairs -/
open Go.Lib
structure PairNow (W : World) (base : Nat) (e : TypeId) (v : Value) (l : List (Int × Int)) (W' : World) (v' : Value) : Prop where
  own : W'.ownsRow base e 2 v' l.length (prs l)
  grown : W.grownBy W' v.ownBlock
  at_ : v'.ownBlock = v.ownBlock ∨ ∃ b, v'.ownBlock = some b ∧ W.heap.size ≤ b
theorem run_copy_two {P : Program} (w : World) (dT sT ty elem : TypeId) (b o dLen dCap : Nat) (a : Addr) (sLen sCap n : Nat) (cs : List Value)
    (hu : P.underlying dT = some (.slice elem)) (hs : (P.info? elem).map (·.size) = some 2) (hm : n = Nat.min sLen dLen) (hn : cs.length = n * 2)
    (hsrc : ∀ j v, cs[j]? = some v → w.cell? (a.add j) = some v) (hc : ∀ j, j < cs.length → (w.cell? ⟨b, o + j, none⟩).isSome = true) (hf : ∀ j, j < cs.length → w.frozen? ⟨b, o + j, none⟩ = false) (h1 : ∀ v ∈ cs, v.oneCell' = true) :
    (Builtin.copy_ #[dT, sT] ty #[.slice (some ⟨b, o, none⟩) dLen dCap, .slice (some a) sLen sCap]).run P w = .ok (goInt n) (w.setCells b o cs) := by
  have hl := run_loadCells_list (P := P) w a cs hsrc
  have hst := run_storeCells_cells (P := P) b o cs 0 w (by simpa using hc) (by simpa using hf) h1
  rw [hn] at hl
  cases hq : P.info? elem with
  | none => simp [hq] at hs
  | some i =>
    have hi : i.size = 2 := by simpa [hq] using hs
    simp [Builtin.copy_, run_underlying hu, Builtin.lenOf, Builtin.firstCells, sizeOf, typeInfo, hq, hi, ← hm, hl, hst]
theorem prs_one : ∀ (l : List (Int × Int)), ∀ v ∈ prs l, v.oneCell' = true
  | [], v, h => by cases h
  | a :: t, v, h => by
    have e : prs (a :: t) = .int .i64 a.1 :: .int .i64 a.2 :: prs t := rfl
    rw [e] at h
    rcases List.mem_cons.1 h with rfl | h
    · rfl
    · rcases List.mem_cons.1 h with rfl | h
      · rfl
      · exact prs_one t v h
theorem prs_drop (l : List (Int × Int)) (i : Nat) : (prs l).drop (i * 2) = prs (l.drop i) := by
  induction l generalizing i with
  | nil => simp [prs]
  | cons a t ih =>
    cases i with
    | zero => rfl
    | succ i =>
      have e : prs (a :: t) = .int .i64 a.1 :: .int .i64 a.2 :: prs t := rfl
      rw [e, show (i + 1) * 2 = i * 2 + 1 + 1 by omega, List.drop_succ_cons, List.drop_succ_cons, ih, List.drop_succ_cons]
theorem prs_take (l : List (Int × Int)) (i : Nat) : (prs l).take (i * 2) = prs (l.take i) := by
  induction l generalizing i with
  | nil => simp [prs]
  | cons a t ih =>
    cases i with
    | zero => simp [prs]
    | succ i =>
      have e : ∀ (a : Int × Int) (t : List (Int × Int)), prs (a :: t) = .int .i64 a.1 :: .int .i64 a.2 :: prs t := fun _ _ => rfl
      rw [e, show (i + 1) * 2 = i * 2 + 1 + 1 by omega, List.take_succ_cons, List.take_succ_cons, ih, List.take_succ_cons, e]
theorem infoRowP : (Try.prog.info? 55).map (fun i => (i.zero, i.size, i.bytes)) = some (some (.agg #[.int .i64 0, .int .i64 0]), 2, 16) := by kernel_rfl
set_option maxHeartbeats 2000000 in
theorem ins_end (W : World) (base : Nat) (v : Value) (l : List (Int × Int)) (k : Int) (hR : W.ownsRow base 55 2 v l.length (prs l)) (hl : l.length ≤ 1000) (vb : Nat) (hvb : W.heap[vb]? = some (.cells #[.int .i64 k, .int .i64 0] 55 (0, 0))) (hbase : base ≤ W.heap.size) :
    Calls Try.prog 26 #[v, .int .i64 (l.length : Int), .slice (some ⟨vb, 0, none⟩) 1 1] W fun e W' => ∃ v', e = .returned v' ∧ PairNow W base 55 v (l ++ [(k, 0)]) W' v' := by
  have HR := Aside0.mk hR
  have HN := Aside0.mk (World.news_of_block (cs := #[.int .i64 k, .int .i64 0]) hvb)
  obtain ⟨i0, hi, hz0, hz1, hz2⟩ := info_parts infoRowP
  have fin : ∀ (v' : Value) (w' : World), w'.ownsRow base 55 2 v' (l.length + 1) (prs l ++ [.int .i64 k, .int .i64 0]) → W.grownBy w' v.ownBlock → (v'.ownBlock = v.ownBlock ∨ v'.ownBlock = some W.heap.size) → ∃ v'', Ending.returned v' = .returned v'' ∧ PairNow W base 55 v (l ++ [(k, 0)]) w' v'' := fun v' w' h1 h2 h3 => by
    refine ⟨v', rfl, ⟨?_, h2, h3.imp id (fun e => ⟨_, e, Nat.le_refl _⟩)⟩⟩
    rw [prs_append, List.length_append]
    exact h1
  have FIN := Aside0.mk fin
  clear fin
  rcases own2_form hR with ⟨rfl, rfl⟩ | ⟨g, cap, cur, rfl, hg, hh, hnc, hcm, hsz, htk, hc⟩
  · clear hR hvb
    go_enter Try.func26, Try.ntmps26
    go_wp2_with (at_builtin; refine wpList_append_own_at _ rfl _ _ 34 rfl base 55 i0 (.agg #[.int .i64 0, .int .i64 0]) 2 16 Try.underlying34 hi hz0 hz1 hz2 rfl (by decide) _ _ _ rfl HR.out ⟨vb, 0, none⟩ 1 1 [.int .i64 k, .int .i64 0] rfl rfl HN.out (by simp [Value.oneCell']) (by unfold maxLen; simp) (by simp) hbase ?_; intro v' w2 hown hgrow _ hat; have FF := Aside0.mk (FIN.out v' w2 hown hgrow hat); clear hown hgrow hat)
    go_ret
    exact FF.out
  · clear hR hvb hc htk hsz hh
    by_cases hcl : l.length = cap
    · subst hcl
      go_enter Try.func26, Try.ntmps26
      go_wp2_with (at_builtin; refine wpList_append_own_at _ rfl _ _ 34 rfl base 55 i0 (.agg #[.int .i64 0, .int .i64 0]) 2 16 Try.underlying34 hi hz0 hz1 hz2 rfl (by decide) _ _ _ rfl HR.out ⟨vb, 0, none⟩ 1 1 [.int .i64 k, .int .i64 0] rfl rfl HN.out (by simp [Value.oneCell']) (by unfold maxLen; omega) (by omega) hbase ?_; intro v' w2 hown hgrow _ hat; have FF := Aside0.mk (FIN.out v' w2 hown hgrow hat); clear hown hgrow hat)
      go_ret
      exact FF.out
    · have hcl2 : ¬ cap = l.length := fun e => hcl e.symm
      go_enter Try.func26, Try.ntmps26
      go_wp2_with (at_builtin; refine wpList_append_own_at _ rfl _ _ 34 rfl base 55 i0 (.agg #[.int .i64 0, .int .i64 0]) 2 16 Try.underlying34 hi hz0 hz1 hz2 rfl (by decide) _ _ _ rfl HR.out ⟨vb, 0, none⟩ 1 1 [.int .i64 k, .int .i64 0] rfl rfl HN.out (by simp [Value.oneCell']) (by unfold maxLen; omega) (by omega) hbase ?_; intro v' w2 hown hgrow _ hat; have FF := Aside0.mk (FIN.out v' w2 hown hgrow hat); clear hown hgrow hat)
      go_ret
      exact FF.out
theorem drew_setCellsP (b : Nat) : ∀ (vs : List Value) (o : Nat) (w : World), (w.setCells b o vs).drew = w.drew.setCells b o vs
  | [], _, _ => rfl
  | v :: r, o, w => by rw [World.setCells, World.setCells, drew_setCellsP b r]; rfl
set_option maxHeartbeats 4000000 in
set_option maxRecDepth 100000 in
theorem ins_shift (W : World) (g cap : Nat) (cur : Array Value) (l : List (Int × Int)) (i : Nat) (k : Int) (hh : W.heap[g]? = some (.cells cur 55 (0, 0))) (hsz : cur.size = cap * 2) (htk : cur.toList.take (l.length * 2) = prs l) (hroom : l.length + 1 ≤ cap) (hcm : cap ≤ maxLen) (hi : i < l.length) (hl : l.length ≤ 1000) (vb : Nat) (hne : vb ≠ g) (hvb : W.heap[vb]? = some (.cells #[.int .i64 k, .int .i64 0] 55 (0, 0))) :
    Calls Try.prog 26 #[.slice (some ⟨g, 0, none⟩) l.length cap, .int .i64 (i : Int), .slice (some ⟨vb, 0, none⟩) 1 1] W fun e W' => e = .returned (.slice (some ⟨g, 0, none⟩) (l.length + 1) cap) ∧ W' = (W.drew.setCells g ((i + 1) * 2) (prs (l.drop i))).setCells g (i * 2) [.int .i64 k, .int .i64 0] := by
  unfold maxLen at hcm
  have hcell : ∀ j, j < cap * 2 → ∃ u, W.cell? ⟨g, j, none⟩ = some u := fun j hj => ⟨_, (blk_cell hh j).trans (Array.getElem?_eq_getElem (by omega))⟩
  have hsz2 : (Try.prog.info? 55).map (·.size) = some 2 := by
    obtain ⟨i0, hi0, h0, h1, h2⟩ := info_parts infoRowP
    rw [hi0]; simp [h1]
  have hov : ∀ (w : World) o lb cb, w.heap[g]? = some (.cells cur 55 (0, 0)) → w.heap[vb]? = some (.cells #[.int .i64 k, .int .i64 0] 55 (0, 0)) → (callFunc 33 #[.slice (some ⟨vb, 0, none⟩) 1 1, .slice (some ⟨g, o, none⟩) lb cb]).run Try.prog w = .ok (.value (.bool false)) w := fun w o lb cb hg hv => by
    rw [run_callFunc_extern Try.func33 (by kernel_rfl) (by kernel_rfl) (by kernel_rfl) (e := Extern.SlicesOverlaps.overlaps #[34, 34] #[4]) (by kernel_rfl),
      Lib.run_overlaps_apart w 34 4 55 Try.underlying34 2 (fun _ => by kernel_rfl) ⟨vb, 0, none⟩ ⟨g, o, none⟩ 1 1 lb cb hne 55 55 2 (cap * 2) (by simp [World.shape?, hv]) (by simp [World.shape?, hg, hsz]) (by omega) (blk_frozen hv _) (blk_frozen hv _)]
    rfl
  have hov2 : ∀ o lb cb, (callFunc 33 #[.slice (some ⟨vb, 0, none⟩) 1 1, .slice (some ⟨g, o, none⟩) lb cb]).run Try.prog W = .ok (.value (.bool false)) W := fun o lb cb => hov W o lb cb hh hvb
  have hdl : (prs (l.drop i)).length = (l.length - i) * 2 := by rw [prs_length, List.length_drop]
  have hcs : ∀ j v, (prs (l.drop i))[j]? = some v → W.cell? ((⟨g, i * 2, none⟩ : Addr).add j) = some v := fun j v hj => by
    rw [Addr.add_lit, blk_cell hh]
    rw [← prs_drop, ← htk, List.getElem?_drop, List.getElem?_take] at hj
    split at hj
    · simpa using hj
    · cases hj
  have hcp1 : ∀ ty dc sc, (Builtin.copy_ #[34, 34] ty #[.slice (some ⟨g, (i + 1) * 2, none⟩) (l.length - i) dc, .slice (some ⟨g, i * 2, none⟩) (l.length + 1 - i) sc]).run Try.prog W.drew = .ok (goInt ((l.length - i : Nat))) (W.drew.setCells g ((i + 1) * 2) (prs (l.drop i))) := fun ty dc sc =>
    run_copy_two W.drew _ _ ty 55 g ((i + 1) * 2) (l.length - i) dc ⟨g, i * 2, none⟩ (l.length + 1 - i) sc (l.length - i) (prs (l.drop i)) Try.underlying34 hsz2 (by simp only [Nat.min_def]; split <;> omega) hdl
      hcs (fun j hj => by obtain ⟨u, hu⟩ := hcell ((i + 1) * 2 + j) (by omega); exact Option.isSome_iff_exists.2 ⟨u, hu⟩) (fun j hj => blk_frozen hh _) (prs_one _)
  obtain ⟨W1, hW1⟩ : ∃ W1, W1 = W.drew.setCells g ((i + 1) * 2) (prs (l.drop i)) := ⟨_, rfl⟩
  rw [← hW1] at hcp1
  have hsp1 : ∀ j, j < cap * 2 → (W1.cell? ⟨g, j, none⟩).isSome = true := fun j hj => by
    rw [hW1]
    refine isSome_setCells g _ _ _ (fun q hq => ?_) _ ?_
    · obtain ⟨u, hu⟩ := hcell ((i + 1) * 2 + q) (by omega); exact Option.isSome_iff_exists.2 ⟨u, hu⟩
    · obtain ⟨u, hu⟩ := hcell j hj; exact Option.isSome_iff_exists.2 ⟨u, hu⟩
  have hcp2 : ∀ (X : World), (∀ x, X.cell? x = W1.cell? x) → (∀ x, X.frozen? x = W1.frozen? x) → ∀ ty dc, (Builtin.copy_ #[34, 34] ty #[.slice (some ⟨g, i * 2, none⟩) (l.length + 1 - i) dc, .slice (some ⟨vb, 0, none⟩) 1 1]).run Try.prog X = .ok (goInt 1) (X.setCells g (i * 2) [.int .i64 k, .int .i64 0]) := fun X hWc hWf ty dc =>
    run_copy_two X _ _ ty 55 g (i * 2) (l.length + 1 - i) dc ⟨vb, 0, none⟩ 1 1 1 [.int .i64 k, .int .i64 0] Try.underlying34 hsz2 (by simp only [Nat.min_def]; split <;> omega) rfl
      (fun j v hj => by
        rw [Addr.add_lit, hWc, hW1, World.cell?_setCells_out g _ _ _ _ (fun h _ => absurd h hne)]
        have := World.news_of_block (cs := #[.int .i64 k, .int .i64 0]) (blk_drew hvb) j v hj
        rwa [Addr.add_lit] at this)
      (fun j hj => by rw [hWc]; exact hsp1 _ (by simp at hj; omega)) (fun j hj => by rw [hWf, hW1, World.frozen?_setCells]; exact blk_frozen hh _) (by simp [Value.oneCell'])
  have hw1 : IntKind.i64.wrap ((i : Int) + 1) = (i : Int) + 1 := by rw [IntKind.wrap_i64]; omega
  have hb1 : (0 : Int) ≤ (i : Int) + 1 := by omega
  have htn : ((i : Int) + 1).toNat = i + 1 := by omega
  have hz2 : ((i : Int) == (l.length : Int)) = false := by rw [beq_eq_false_iff_ne]; omega
  have hb2 : ¬ (cap = i + 1) := by omega
  have hb3 : (i : Int) ≤ (l.length : Int) + 1 := by omega
  have hin : i ≤ l.length := by omega
  have hb4 : ¬ (cap = i) := by omega
  have hb5 : decide ((cap : Int) < (l.length : Int) + 1) = false := decide_eq_false (by omega)
  have HW1 := Aside0.mk hW1
  clear hW1 hsp1 hcs hov hcell
  go_enter Try.func26, Try.ntmps26
  go_wp2_with (simp only [hov2])
  go_region_law (refine step_copy_runI rfl _ _ 34 34 rfl _ _ (by simp [Act.eval, Act.put]) (by simp [Act.eval, Act.put]) (hcp1 _ _ _) ?_)
  go_wp2_with (at_builtin; refine wpList_copy_runI _ rfl _ _ 34 34 rfl _ _ rfl rfl (hcp2 _ (fun _ => rfl) (fun _ => rfl) _ _) ?_)
  go_ret
  exact ⟨rfl, by rw [HW1.out]⟩
set_option maxHeartbeats 4000000 in
set_option maxRecDepth 100000 in
theorem ins_grow (W : World) (g cap : Nat) (cur : Array Value) (l : List (Int × Int)) (i : Nat) (k : Int) (hh : W.heap[g]? = some (.cells cur 55 (0, 0))) (hsz : cur.size = cap * 2) (htk : cur.toList.take (l.length * 2) = prs l) (hnc : l.length ≤ cap) (hroom : cap < l.length + 1) (hi : i < l.length) (hl : l.length ≤ 1000) (vb : Nat) (hvb : W.heap[vb]? = some (.cells #[.int .i64 k, .int .i64 0] 55 (0, 0))) :
    Calls Try.prog 26 #[.slice (some ⟨g, 0, none⟩) l.length cap, .int .i64 (i : Int), .slice (some ⟨vb, 0, none⟩) 1 1] W fun e W' => ∃ G ROW, e = .returned (.slice (some ⟨W.heap.size, 0, none⟩) (l.length + 1) G) ∧ l.length + 1 ≤ G ∧ G ≤ maxLen ∧ ROW.size = G * 2 ∧ ROW.toList.take (i * 2) = prs (l.take i) ∧ W' = (((W.alloc (.cells ROW 55)).drew.setCells W.heap.size (i * 2) [.int .i64 k, .int .i64 0]).drew).setCells W.heap.size ((i + 1) * 2) (prs (l.drop i)) := by
  have hcs : ∀ j v, (prs l)[j]? = some v → W.cell? ⟨g, j, none⟩ = some v := fun j v hj => by
    rw [blk_cell hh]
    rw [← htk, List.getElem?_take] at hj
    split at hj
    · simpa using hj
    · cases hj
  have hsz2 : (Try.prog.info? 55).map (·.size) = some 2 := by
    obtain ⟨i0, hi0, h0, h1, h2⟩ := info_parts infoRowP
    rw [hi0]; simp [h1]
  obtain ⟨i0, hi0, hz0, hzs, hzb⟩ := info_parts infoRowP
  have hold : (Builtin.firstCells i0.size i (.slice (some ⟨g, 0, none⟩) i cap)).run Try.prog W.drew = .ok (prs (l.take i)).toArray W.drew := by
    rw [hzs]
    exact run_firstCells_some W.drew 2 i ⟨g, 0, none⟩ i cap (prs (l.take i)) (by rw [prs_length, List.length_take]; omega) (fun j v hj => by
      rw [Addr.add_lit, Nat.zero_add]
      rw [← prs_take, List.getElem?_take] at hj
      split at hj
      · exact hcs j v hj
      · cases hj)
  have hkk : (l.length : Int) + 1 - (i : Int) = ((l.length + 1 - i : Nat) : Int) := by omega
  have hik : i + (l.length + 1 - i) = l.length + 1 := by omega
  have hrz : ∀ ty, (Builtin.append_ #[34, 3] ty #[.slice (some ⟨g, 0, none⟩) i cap, .int .i64 ((l.length : Int) + 1 - (i : Int))]).run Try.prog W =
      .ok (.slice (some ⟨W.heap.size, 0, none⟩) (l.length + 1) (grownCap W (l.length + 1) cap 55)) (W.drew.alloc (.cells ((prs (l.take i)).toArray ++ Builtin.zeroCells (Value.agg #[.int .i64 0, .int .i64 0]).cells (l.length + 1 - i) ++ Builtin.zeroCells (Value.agg #[.int .i64 0, .int .i64 0]).cells (grownCap W (l.length + 1) cap 55 - (l.length + 1))) 55)) := fun ty => by
    have h := Lib.run_append_grow_zeros W 34 3 ty 55 i0 _ .i64 .i64 Try.underlying34 Try.underlying3 hi0 hz0 (some ⟨g, 0, none⟩) i cap (prs (l.take i)) hold (l.length + 1 - i) (by omega) (by omega) (by omega) (by omega) (by rw [hzb]; omega) (by rw [hzb, hik]; exact growslice_fits hroom (by omega))
    rw [hik] at h
    rw [hkk]
    exact h
  have hGn := grownCap_ge W (l.length + 1) cap 55
  have hGm := grownCap_le_maxLen W (l.length + 1) cap 55 (by unfold maxLen; omega)
  generalize grownCap W (l.length + 1) cap 55 = G at hrz hGn hGm
  obtain ⟨ROW, hROW⟩ : ∃ ROW : Array Value, ROW = (prs (l.take i)).toArray ++ Builtin.zeroCells (Value.agg #[.int .i64 0, .int .i64 0]).cells (l.length + 1 - i) ++ Builtin.zeroCells (Value.agg #[.int .i64 0, .int .i64 0]).cells (G - (l.length + 1)) := ⟨_, rfl⟩
  rw [← hROW] at hrz
  have hRs : ROW.size = G * 2 := by
    rw [hROW]
    simp [size_zeroCells, Value.cells, prs_length, List.length_take]
    omega
  have hRt : ROW.toList.take (i * 2) = prs (l.take i) := by
    rw [hROW, Array.toList_append, Array.toList_append, List.append_assoc, List.take_left' (by simp [prs_length, List.length_take]; omega)]
  have hgw : g < W.heap.size := blk_lt hh
  have hvw : vb < W.heap.size := blk_lt hvb
  obtain ⟨W1, hW1⟩ : ∃ W1, W1 = W.drew.alloc (.cells ROW 55) := ⟨_, rfl⟩
  rw [← hW1] at hrz
  have hb1 : W1.heap[W.heap.size]? = some (.cells ROW 55 (0, 0)) := by rw [hW1]; exact blk_new W.drew _
  have hbg : W1.heap[g]? = some (.cells cur 55 (0, 0)) := by rw [hW1]; exact blk_alloc (blk_drew hh) _
  have hbv : W1.heap[vb]? = some (.cells #[.int .i64 k, .int .i64 0] 55 (0, 0)) := by rw [hW1]; exact blk_alloc (blk_drew hvb) _
  have hN : ∀ j, j < (l.length + 1) * 2 → (W1.cell? ⟨W.heap.size, j, none⟩).isSome = true := fun j hj => by
    rw [blk_cell hb1, Array.getElem?_eq_getElem (by omega)]; rfl
  have hdl : (prs (l.drop i)).length = (l.length - i) * 2 := by rw [prs_length, List.length_drop]
  have hcpA : ∀ (X : World), (∀ x, X.cell? x = W1.cell? x) → (∀ x, X.frozen? x = W1.frozen? x) → ∀ ty dc, (Builtin.copy_ #[34, 34] ty #[.slice (some ⟨W.heap.size, i * 2, none⟩) (l.length + 1 - i) dc, .slice (some ⟨vb, 0, none⟩) 1 1]).run Try.prog X = .ok (goInt 1) (X.setCells W.heap.size (i * 2) [.int .i64 k, .int .i64 0]) := fun X hWc hWf ty dc =>
    run_copy_two X _ _ ty 55 W.heap.size (i * 2) (l.length + 1 - i) dc ⟨vb, 0, none⟩ 1 1 1 [.int .i64 k, .int .i64 0] Try.underlying34 hsz2 (by simp only [Nat.min_def]; split <;> omega) rfl
      (fun j v hj => by
        rw [Addr.add_lit, hWc]
        have := World.news_of_block (cs := #[.int .i64 k, .int .i64 0]) hbv j v hj
        rwa [Addr.add_lit] at this)
      (fun j hj => by rw [hWc]; exact hN _ (by simp at hj; omega)) (fun j hj => by rw [hWf]; exact blk_frozen hb1 _) (by simp [Value.oneCell'])
  have hcpB : ∀ (X : World), (∀ x, X.cell? x = (W1.setCells W.heap.size (i * 2) [.int .i64 k, .int .i64 0]).cell? x) → (∀ x, X.frozen? x = (W1.setCells W.heap.size (i * 2) [.int .i64 k, .int .i64 0]).frozen? x) → ∀ ty dc sc, (Builtin.copy_ #[34, 34] ty #[.slice (some ⟨W.heap.size, (i + 1) * 2, none⟩) (l.length - i) dc, .slice (some ⟨g, i * 2, none⟩) (l.length - i) sc]).run Try.prog X = .ok (goInt ((l.length - i : Nat))) (X.setCells W.heap.size ((i + 1) * 2) (prs (l.drop i))) := fun X hWc hWf ty dc sc =>
    run_copy_two X _ _ ty 55 W.heap.size ((i + 1) * 2) (l.length - i) dc ⟨g, i * 2, none⟩ (l.length - i) sc (l.length - i) (prs (l.drop i)) Try.underlying34 hsz2 (by simp only [Nat.min_def]; split <;> omega) hdl
      (fun j v hj => by
        rw [Addr.add_lit, hWc, World.cell?_setCells_out _ _ _ _ _ (fun h _ => absurd h (by show g ≠ W.heap.size; omega)), blk_cell hbg, ← blk_cell hh]
        refine hcs (i * 2 + j) v ?_
        rwa [← prs_drop, List.getElem?_drop] at hj)
      (fun j hj => by rw [hWc]; exact isSome_setCells _ _ _ _ (fun t ht => hN _ (by simp at ht; omega)) _ (hN _ (by omega)))
      (fun j hj => by rw [hWf, World.frozen?_setCells]; exact blk_frozen hb1 _) (prs_one _)
  have hw1 : IntKind.i64.wrap ((i : Int) + 1) = (i : Int) + 1 := by rw [IntKind.wrap_i64]; omega
  have hp1 : (0 : Int) ≤ (i : Int) + 1 := by omega
  have htn : ((i : Int) + 1).toNat = i + 1 := by omega
  have hz2 : ((i : Int) == (l.length : Int)) = false := by rw [beq_eq_false_iff_ne]; omega
  have hin : i ≤ l.length := by omega
  have hGi : ¬ (G = i) := by omega
  have hGim : ¬ (G = i + 1) := by omega
  have hci : ¬ (cap = i) := by omega
  have hci2 : i ≤ cap := by omega
  have hz3 : decide ((cap : Int) < (l.length : Int) + 1) = true := decide_eq_true (by omega)
  have hF : ∀ (X : World), X = ((W.alloc (.cells ROW 55)).drew.setCells W.heap.size (i * 2) [.int .i64 k, .int .i64 0]).drew → (∀ x, X.cell? x = (W1.setCells W.heap.size (i * 2) [.int .i64 k, .int .i64 0]).cell? x) ∧ (∀ x, X.frozen? x = (W1.setCells W.heap.size (i * 2) [.int .i64 k, .int .i64 0]).frozen? x) := fun X e => by
    subst e
    subst hW1
    exact ⟨fun x => rfl, fun x => rfl⟩
  have HF := Aside0.mk (hF _ rfl)
  have HE := Aside0.mk (show (∀ x, ((W.alloc (.cells ROW 55)).drew).cell? x = W1.cell? x) ∧ (∀ x, ((W.alloc (.cells ROW 55)).drew).frozen? x = W1.frozen? x) by subst hW1; exact ⟨fun x => rfl, fun x => rfl⟩)
  have HRS := Aside0.mk (And.intro hGn (And.intro hGm (And.intro hRs hRt)))
  have HW1 := Aside0.mk hW1
  clear hkk hik hold hROW hRs hRt hcs hb1 hbg hbv hN hF hdl hGm
  subst hW1
  have hcA := hcpA _ HE.out.1 HE.out.2
  have hcB := hcpB _ HF.out.1 HF.out.2
  clear hcpA hcpB
  go_enter Try.func26, Try.ntmps26
  go_wp2_with (first | (at_builtin; refine Lib.wpList_append_run _ rfl _ _ _ _ rfl _ _ rfl rfl _ _ (hrz _) ?_) | (at_builtin; refine wpList_copy_runI _ rfl _ _ 34 34 rfl _ _ rfl rfl (hcA _ _) ?_))
  go_region_law (refine step_copy_runI rfl _ _ 34 34 rfl _ _ (by simp [Act.eval, Act.put]) (by simp [Act.eval, Act.put]) (hcB _ _ _) ?_)
  go_wp2_with fail
  go_ret
  exact ⟨G, ROW, rfl, HRS.out.1, HRS.out.2.1, HRS.out.2.2.1, HRS.out.2.2.2, rfl⟩
/-- A row with cells laid anew. -/
def layAr (cur : Array Value) : Nat → List Value → Array Value
  | _, [] => cur
  | o, v :: r => layAr (cur.setIfInBounds o v) (o + 1) r
theorem layAr_list (vs : List Value) : ∀ (cur : Array Value) (o : Nat), o + vs.length ≤ cur.size → (layAr cur o vs).toList = cur.toList.take o ++ vs ++ cur.toList.drop (o + vs.length) := by
  induction vs with
  | nil => intro cur o _; simp [layAr]
  | cons v r ih =>
    intro cur o h
    have h2 : o < cur.size := by simp at h; omega
    have e := ih (cur.setIfInBounds o v) (o + 1) (by simp at h ⊢; omega)
    unfold layAr
    rw [e, Array.toList_setIfInBounds]
    have l1 : o < cur.toList.length := by simpa using h2
    rw [List.take_set, List.take_succ_eq_append_getElem l1, List.drop_set_of_lt (by omega), show o + 1 + r.length = o + (v :: r).length by simp; omega]
    have l2 : (cur.toList.take o).length = o := by rw [List.length_take]; omega
    rw [List.set_append_right _ _ (by omega), l2, Nat.sub_self]
    simp
theorem layAr_size (vs : List Value) : ∀ (cur : Array Value) (o : Nat), (layAr cur o vs).size = cur.size := by
  induction vs with
  | nil => intro cur o; rfl
  | cons v r ih => intro cur o; unfold layAr; rw [ih]; simp
theorem blk_setCs {g : Nat} {t : TypeId} (vs : List Value) : ∀ {W : World} {cur : Array Value} (o : Nat), W.heap[g]? = some (.cells cur t (0, 0)) → (W.setCells g o vs).heap[g]? = some (.cells (layAr cur o vs) t (0, 0)) := by
  induction vs with
  | nil => intro W cur o h; exact h
  | cons v r ih => intro W cur o h; exact ih (o + 1) (blk_set h o v)
theorem grown_setCs {g : Nat} (vs : List Value) : ∀ {W : World} (o : Nat), W.grownBy (W.setCells g o vs) (some g) := by
  induction vs with
  | nil => intro W o; exact ⟨rfl, rfl, rfl, Nat.le_refl _, fun _ _ _ => rfl⟩
  | cons v r ih =>
    intro W o
    have h := ih (W := W.setCell ⟨g, o, none⟩ v) (o + 1)
    exact ⟨h.os, h.tape, h.output, Nat.le_trans (by simp [World.setCell]) h.size, fun k hk hne => (h.block k (by simpa [World.setCell] using hk) hne).trans (Below.heap_setCell W ⟨g, o, none⟩ v k (fun e => hne (by rw [e])))⟩
theorem shift_two {α : Type} (c A B : List α) (u v : α) (p m : Nat) (hA : c.take p = A) (hp : A.length = p) (hB : p + B.length = m) (hc : m + 2 ≤ c.length) :
    ((c.take (p + 2) ++ B ++ c.drop (p + 2 + B.length)).take p ++ [u, v] ++ (c.take (p + 2) ++ B ++ c.drop (p + 2 + B.length)).drop (p + 2)).take (m + 2) = A ++ [u, v] ++ B := by
  have l1 : (c.take (p + 2)).length = p + 2 := by rw [List.length_take]; omega
  have e1 : (c.take (p + 2) ++ B ++ c.drop (p + 2 + B.length)).take p = A := by
    rw [List.append_assoc, List.take_append_of_le_length (by omega), List.take_take, Nat.min_eq_left (by omega)]
    exact hA
  have e2 : (c.take (p + 2) ++ B ++ c.drop (p + 2 + B.length)).drop (p + 2) = B ++ c.drop (p + 2 + B.length) := by
    rw [List.append_assoc, List.drop_left' l1]
  rw [e1, e2, ← List.append_assoc, List.take_left' (by simp; omega)]
theorem grow_two {α : Type} (c A B : List α) (u v : α) (p m : Nat) (hA : c.take p = A) (hp : A.length = p) (hB : p + B.length = m) (hc : m + 2 ≤ c.length) :
    ((c.take p ++ [u, v] ++ c.drop (p + 2)).take (p + 2) ++ B ++ (c.take p ++ [u, v] ++ c.drop (p + 2)).drop (p + 2 + B.length)).take (m + 2) = A ++ [u, v] ++ B := by
  rw [hA]
  have e1 : (A ++ [u, v] ++ c.drop (p + 2)).take (p + 2) = A ++ [u, v] := by rw [List.take_left' (by simp; omega)]
  rw [e1, List.take_left' (by simp; omega)]
theorem pairs_below {W W2 : World} {row : Option Nat} (h : Below W.heap.size W W2) : W.grownBy W2 row := ⟨h.os, h.tape, h.output, h.size, fun k hk _ => h.block k hk⟩
theorem below_setCs {W W2 : World} {vs : List Value} {o : Nat} (h : Below W.heap.size W W2) : Below W.heap.size W (W2.setCells W.heap.size o vs) := by
  have h2 := grown_setCs (g := W.heap.size) vs (W := W2) o
  exact ⟨h2.os.trans h.os, h2.tape.trans h.tape, h2.output.trans h.output, Nat.le_trans h.size h2.size, fun k hk => (h2.block k (Nat.lt_of_lt_of_le hk h.size) (fun e => by cases e; omega)).trans (h.block k hk)⟩
theorem ins_pairs (W : World) (base : Nat) (v : Value) (l : List (Int × Int)) (i : Nat) (k : Int) (hR : W.ownsRow base 55 2 v l.length (prs l)) (hi : i ≤ l.length) (hl : l.length ≤ 1000) (vb : Nat) (hvb : W.heap[vb]? = some (.cells #[.int .i64 k, .int .i64 0] 55 (0, 0))) (hne : v.ownBlock ≠ some vb) (hbase : base ≤ W.heap.size) :
    Calls Try.prog 26 #[v, .int .i64 (i : Int), .slice (some ⟨vb, 0, none⟩) 1 1] W fun e W' => ∃ v', e = .returned v' ∧ PairNow W base 55 v (l.take i ++ [(k, 0)] ++ l.drop i) W' v' := by
  by_cases he : i = l.length
  · subst he
    rw [List.take_of_length_le (Nat.le_refl _), List.drop_eq_nil_of_le (Nat.le_refl _), List.append_nil]
    exact ins_end W base v l k hR hl vb hvb hbase
  have hR2 := hR
  rcases own2_form hR with ⟨rfl, rfl⟩ | ⟨g, cap, cur, rfl, hg, hh, hnc, hcm, hsz, htk, _⟩
  · exact absurd (by simpa using hi) he
  have hA : (prs l).take (i * 2) = prs (l.take i) := prs_take l i
  have hlen : (l.take i ++ [(k, 0)] ++ l.drop i).length = l.length + 1 := by simp; omega
  have hfl : prs (l.take i ++ [(k, 0)] ++ l.drop i) = prs (l.take i) ++ [.int .i64 k, .int .i64 0] ++ prs (l.drop i) := by rw [prs_append, prs_append]; rfl
  have hla : (prs (l.take i)).length = i * 2 := by rw [prs_length, List.length_take]; omega
  have hlb : (prs (l.drop i)).length = (l.length - i) * 2 := by rw [prs_length, List.length_drop]
  by_cases hroom : l.length + 1 ≤ cap
  · refine (ins_shift W g cap cur l i k hh hsz htk hroom hcm (by omega) hl vb (fun e => hne (by rw [e]; rfl)) hvb).mono ?_
    rintro e W' ⟨rfl, rfl⟩
    have g1 := grown_setCs (g := g) (prs (l.drop i)) (W := W.drew) ((i + 1) * 2)
    have g2 := grown_setCs (g := g) [.int .i64 k, .int .i64 0] (W := W.drew.setCells g ((i + 1) * 2) (prs (l.drop i))) (i * 2)
    refine ⟨_, rfl, own2_mk (blk_setCs _ _ (blk_setCs _ _ (blk_drew hh))) hg hlen hroom hcm (by rw [layAr_size, layAr_size]; exact hsz) ?_, ⟨g2.os.trans g1.os, g2.tape.trans g1.tape, g2.output.trans g1.output, Nat.le_trans g1.size g2.size, fun j hj hn => (g2.block j (Nat.lt_of_lt_of_le hj g1.size) hn).trans (g1.block j hj hn)⟩, .inl rfl⟩
    rw [layAr_list _ _ _ (by rw [layAr_size]; simp; omega), layAr_list _ _ _ (by rw [hlb]; omega), hfl, show (i + 1) * 2 = i * 2 + 2 by omega, show (l.length + 1) * 2 = l.length * 2 + 2 by omega]
    exact shift_two cur.toList (prs (l.take i)) (prs (l.drop i)) _ _ (i * 2) (l.length * 2) (by rw [← hA, ← htk, List.take_take, Nat.min_eq_left (by omega)]) hla (by rw [hlb]; omega) (by simp; omega)
  · refine (ins_grow W g cap cur l i k hh hsz htk hnc (by omega) (by omega) hl vb hvb).mono ?_
    rintro e W' ⟨G, ROW, rfl, hG1, hG2, hR1, hR2, rfl⟩
    refine ⟨_, rfl, own2_mk (blk_setCs _ _ (blk_drew (blk_setCs _ _ (blk_drew (blk_new W _))))) hbase hlen hG1 hG2 (by rw [layAr_size, layAr_size]; exact hR1) ?_, pairs_below (below_setCs (W2 := World.drew _) (below_setCs (W2 := World.drew _) ((Below.refl _ W).alloc (Nat.le_refl _) _).drew).drew), .inr ⟨_, rfl, Nat.le_refl _⟩⟩
    rw [layAr_list _ _ _ (by rw [layAr_size, hlb]; omega), layAr_list _ _ _ (by simp; omega), hfl, show (i + 1) * 2 = i * 2 + 2 by omega, show (l.length + 1) * 2 = l.length * 2 + 2 by omega]
    exact grow_two ROW.toList (prs (l.take i)) (prs (l.drop i)) _ _ (i * 2) (l.length * 2) hR2 hla (by rw [hlb]; omega) (by simp; omega)
end Go.Proofs.Ytnajlpmpofljhaa.P
