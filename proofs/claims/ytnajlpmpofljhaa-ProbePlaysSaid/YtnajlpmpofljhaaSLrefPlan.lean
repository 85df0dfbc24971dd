import Derived.Test.YtnajlpmpofljhaaSLpairsAt
import Derived.Test.YtnajlpmpofljhaaSLints
import Derived.Test.YtnajlpmpofljhaaSLprobeAwake
import Derived.Test.YtnajlpmpofljhaaSLplan2
namespace Go.Proofs.Ytnajlpmpofljhaa.P
open Go.RowKit Go.Proofs.YtnajlpmpofljhaaW.PrintWords Go.Proofs.YtnajlpmpofljhaaW.PrintLast Go.Proofs.YtnajlpmpofljhaaW.PrintMore
set_option linter.unusedVariables false
set_option linter.unusedSimpArgs false
set_option linter.unnecessarySimpa false
attribute [local go_sem] max2_int min2_int max_two min_two max_three min_three max_four min_four
/-! ### the document's plan -/
structure RpRaw (w0 : World) (P : Nat) (rv : Value) (l : List (Int × Int)) (every : Int) (W : World) : Prop where
  le : w0.heap.size ≤ P
  blk : W.heap[P]? = some (.cells #[.int .i64 every, rv] 64 (0, 0))
  hr : W.ownsRow w0.heap.size 66 2 rv l.length (prs l)
  hB : Below w0.heap.size w0 W
structure RpMv (P : Nat) (rv : Value) (W W' : World) : Prop where
  size : W.heap.size ≤ W'.heap.size
  keep : ∀ j, j < W.heap.size → j ≠ P → some j ≠ rv.ownBlock → W'.heap[j]? = W.heap[j]?
theorem RpMv.refl (P : Nat) (rv : Value) (W : World) : RpMv P rv W W := ⟨Nat.le_refl _, fun _ _ _ _ => rfl⟩
theorem RpMv.of_below {P : Nat} {rv : Value} {W W' : World} (h : Below W.heap.size W W') : RpMv P rv W W' := ⟨h.size, fun j hj _ _ => h.block j hj⟩
theorem RpMv.below {P : Nat} {rv : Value} {W W1 W2 : World} (h : RpMv P rv W W1) (hb : Below W1.heap.size W1 W2) : RpMv P rv W W2 :=
  ⟨Nat.le_trans h.size hb.size, fun j hj h1 h2 => (hb.block j (Nat.lt_of_lt_of_le hj h.size)).trans (h.keep j hj h1 h2)⟩
theorem RpMv.after {P : Nat} {rv : Value} {W W1 W2 : World} (hb : Below W.heap.size W W1) (h : RpMv P rv W1 W2) : RpMv P rv W W2 :=
  ⟨Nat.le_trans hb.size h.size, fun j hj h1 h2 => (h.keep j (Nat.lt_of_lt_of_le hj hb.size) h1 h2).trans (hb.block j hj)⟩
section
variable {w0 : World} {P : Nat} {rv : Value} {l : List (Int × Int)} {every : Int} {W : World}
theorem RpRaw.lt (h : RpRaw w0 P rv l every W) : P < W.heap.size := blk_lt h.blk
theorem RpRaw.ne (h : RpRaw w0 P rv l every W) : some P ≠ rv.ownBlock := own_ne h.hr h.blk (by decide)
theorem RpRaw.below {W' : World} (h : RpRaw w0 P rv l every W) (hb : Below W.heap.size W W') : RpRaw w0 P rv l every W' :=
  ⟨h.le, (hb.block P h.lt).trans h.blk, pw_own_below h.hr hb, h.hB.trans ⟨hb.os, hb.tape, hb.output, hb.size, fun j hj => hb.block j (Nat.lt_of_lt_of_le hj h.hB.size)⟩⟩
theorem rp_rows {W2 : World} {v' : Value} {l' : List (Int × Int)} (h : RpRaw w0 P rv l every W) (own : W2.ownsRow w0.heap.size 66 2 v' l'.length (prs l')) (gr : W.grownBy W2 rv.ownBlock) : RpRaw w0 P v' l' every (W2.setCell ⟨P, 1, none⟩ v') ∧ RpMv P rv W (W2.setCell ⟨P, 1, none⟩ v') := by
  have hb2 : W2.heap[P]? = _ := (gr.block P h.lt h.ne).trans h.blk
  have hkb := own_base h.hr
  have hB2 : Below w0.heap.size w0 W2 := pw_below_grown h.hB _ h.hB.size gr (fun k e => hkb k e)
  have ne' : some P ≠ v'.ownBlock := own_ne own hb2 (by decide)
  refine ⟨⟨h.le, ?_, own_setCell own ne' _, hB2.setCell h.le _⟩, ⟨?_, ?_⟩⟩
  · have := blk_set hb2 1 v'
    exact this
  · simpa [World.setCell] using gr.size
  · intro j hj h1 h2
    exact (Below.heap_setCell W2 ⟨P, 1, none⟩ v' j h1).trans (gr.block j hj h2)
theorem rp_grown {W2 : World} {row : Option Nat} (h : RpRaw w0 P rv l every W) (gr : W.grownBy W2 row) (h1 : some P ≠ row) (h2 : ∀ k, row = some k → rv.ownBlock ≠ some k) (hb : ∀ k, row = some k → w0.heap.size ≤ k) : RpRaw w0 P rv l every W2 := by
  refine ⟨h.le, (gr.block P h.lt h1).trans h.blk, h.hr.kept gr ?_, pw_below_grown h.hB _ h.hB.size gr hb⟩
  cases ho : rv.ownBlock with
  | none => exact .inl rfl
  | some k => exact .inr (fun e => h2 k e.symm ho)
theorem rp_next {g cap n i : Nat} {ys : List (Int × Int)} (h : RpRaw w0 P (.slice (some ⟨g, 0, none⟩) n cap) ys every W) (hn : ys.length = n) (hi : i < ys.length) (v : Int) : RpRaw w0 P (.slice (some ⟨g, 0, none⟩) n cap) (ys.set i ((ys.getD i (0, 0)).1, v)) every (W.setCell ⟨g, i * 2 + 1, none⟩ (.int .i64 v)) ∧ RpMv P (.slice (some ⟨g, 0, none⟩) n cap) W (W.setCell ⟨g, i * 2 + 1, none⟩ (.int .i64 v)) := by
  subst hn
  have hne : P ≠ g := fun e => h.ne (by rw [e]; rfl)
  have hgb : w0.heap.size ≤ g := own_base h.hr g rfl
  refine ⟨⟨h.le, (Below.heap_setCell _ _ _ _ hne).trans h.blk, ?_, h.hB.setCell hgb _⟩, ⟨by simp [World.setCell], fun j hj h1 h2 => Below.heap_setCell _ _ _ j (fun e => h2 (by rw [e]; rfl))⟩⟩
  have := own2_set h.hr i hi v
  rw [List.length_set] at this ⊢
  exact this
theorem RpMv.trans {W1 W2 : World} (a : RpMv P rv W W1) (b : RpMv P rv W1 W2) : RpMv P rv W W2 :=
  ⟨Nat.le_trans a.size b.size, fun j hj h1 h2 => (b.keep j (Nat.lt_of_lt_of_le hj a.size) h1 h2).trans (a.keep j hj h1 h2)⟩
end
section
variable {w0 : World} {M : Nat} {rv : Value} {l : List (Int × Int)} {every : Int} {W : World}
set_option maxHeartbeats 1000000 in
theorem rp_at (h : RpRaw w0 M rv l every W) (id : Int) (hl : l.length ≤ 1000) : Calls Try.prog 30 #[.pointer (some ⟨M, 0, none⟩), .int .i64 id] W fun e W' => e = .returned (.int .i64 (atI l id)) ∧ W' = W := by
  obtain ⟨A, c, ev⟩ := own2_slice h.hr
  subst ev
  have c3 := blk_cell h.blk 1
  simp at c3
  have HR := Aside0.mk h.hr
  have hle := Aside0.mk (atN_le l id)
  have hat := Aside0.mk (atN_step l id)
  obtain ⟨an, han⟩ : ∃ an, an = atN l id := ⟨_, rfl⟩
  have HAN := Aside0.mk han
  have hi : atI l id = if an < l.length then (an : Int) else -1 := by rw [han]; rfl
  generalize atI l id = res at hi
  have HI := Aside0.mk hi
  clear h han hi
  go_enter Try.func30, Try.ntmps30
  go_wp2_with fail
  go_loop [5] (fun i => ∃ k : Nat, k ≤ an ∧ i = .int .i64 (k : Int)) (fun i => l.length - (intOf i).toNat)
  case atStart => exact ⟨0, Nat.zero_le _, rfl⟩
  case round =>
    obtain ⟨k, hk, rfl⟩ := hrel
    have hal : an ≤ l.length := by rw [HAN.out]; exact hle.out
    by_cases hlt : k < l.length
    · have p1 : decide ((k : Int) < (l.length : Int)) = true := decide_eq_true (by omega)
      rcases own2_form HR.out with ⟨_, rfl⟩ | ⟨g, cap, cur, ev, hg, hh, hnc, hcm, hsz, htk, hc⟩
      · exact absurd hlt (Nat.not_lt_zero _)
      · obtain ⟨rfl, _, rfl⟩ := Value.slice.inj ev
        obtain ⟨d0, d1⟩ := hc k hlt
        have hs := hat.out k (by rw [← HAN.out]; exact hk) hlt
        rw [← HAN.out] at hs
        clear hc hh htk ev
        generalize (l.getD k (0, 0)).1 = x at d0 hs
        by_cases hx : x = id
        · have e := hs.1 hx
          have q : (x == id) = true := beq_iff_eq.mpr hx
          have HE := Aside0.mk e
          clear hs hx e
          go_wp2_with fail
          go_ret
          exact ⟨ret_i (by rw [HI.out, HE.out, if_pos hlt]), rfl⟩
        · have e := hs.2 hx
          have q : (x == id) = false := beq_eq_false_iff_ne.mpr hx
          clear hs hx
          go_wp2_with fail
          exact ⟨⟨k + 1, e, by simp⟩, by simp [intOf]; omega⟩
    · have p1 : decide ((k : Int) < (l.length : Int)) = false := decide_eq_false (by omega)
      go_wp2_with fail
      go_ret
      exact ⟨ret_i (by rw [HI.out, if_neg (by omega)]), rfl⟩
def delR (l : List (Int × Int)) (id : Int) : List (Int × Int) := if hasR l id = true then l.eraseIdx (atN l id) else l
def erR (l : List (Int × Int)) (id : Int) : Int := if hasR l id = true then 0 else 30
theorem infoRow10 : (Try.prog.info? 66).map (fun i => (i.zero, i.size, i.bytes)) = some (some (.agg #[.int .i64 0, .int .i64 0]), 2, 16) := by kernel_rfl
set_option maxHeartbeats 4000000 in
theorem rp_Drop (h : RpRaw w0 M rv l every W) (id : Int) (hl : l.length ≤ 1000) : Calls Try.prog 18 #[.pointer (some ⟨M, 0, none⟩), .int .i64 id] W fun e W' => e = .returned (.int .i64 (erR l id)) ∧ ∃ rv', RpRaw w0 M rv' (delR l id) every W' ∧ RpMv M rv W W' := by
  have AT := rp_at h id hl
  cases hh : hasR l id with
  | false =>
    have e1 : delR l id = l := by unfold delR; rw [hh]; rfl
    have e2 : erR l id = 30 := by unfold erR; rw [hh]; rfl
    rw [atI_no hh] at AT
    rw [e1, e2]
    have H := Aside0.mk h
    clear hh e1 e2 h
    go_enter Try.func18, Try.ntmps18
    go_wp2_with (go_at_call 30; refine AT.mono ?_; rintro e w1 ⟨rfl, rfl⟩)
    go_ret
    exact ⟨rfl, rv, H.out, RpMv.refl _ _ _⟩
  | true =>
    have e1 : delR l id = l.eraseIdx (atN l id) := by unfold delR; rw [hh]; rfl
    have e2 : erR l id = 0 := by unfold erR; rw [hh]; rfl
    obtain ⟨e3, hlt⟩ := atI_yes hh
    rw [e3] at AT
    rw [e1, e2]
    have H := Aside0.mk h
    clear hh e1 e2 e3 h
    generalize atN l id = k at *
    have p1 : decide ((k : Int) < 0) = false := decide_eq_false (by omega)
    rcases own2_form H.out.hr with ⟨_, rfl⟩ | ⟨g, cap, cur, rfl, hg, hh2, hnc, hcm, hsz, htk, hc⟩
    · exact absurd hlt (Nat.not_lt_zero _)
    have HC := Aside0.mk hc
    have HW0 := Aside0.mk H.out.hB.size
    obtain ⟨i0, hi, hz0, hz1, hz2⟩ := info_parts infoRow10
    clear hh2 hc htk
    go_enter Try.func18, Try.ntmps18
    go_wp2_with (go_at_call 30; refine AT.mono ?_; rintro e w1 ⟨rfl, hw⟩; obtain rfl := hw.symm)
    go_loopw [6, 7] (fun v i wr => ∃ (j : Nat) (q : List (Int × Int)) (A : Option Addr) (c : Nat), j ≤ l.length ∧ i = .int .i64 (j : Int) ∧ v = .slice A q.length c ∧ Aside0 (q = (l.take j).eraseIdx k) ∧ q.length ≤ j ∧ wr.ownsRow W.heap.size 66 2 (.slice A q.length c) q.length (prs q) ∧ Below W.heap.size W wr) (fun _ i _ => l.length - (intOf i).toNat)
    case atStart => exact ⟨0, [], none, 0, Nat.zero_le _, rfl, rfl, ⟨by simp⟩, Nat.le_refl _, World.ownsRow_nil _ _ _ _, Below.refl _ _⟩
    case round =>
      obtain ⟨j, q, A, c, hj, rfl, rfl, hq, hql, hown, hB⟩ := hrel
      have hr := H.out.below hB
      have c3 : wr.cell? ⟨M, 1, none⟩ = some (.slice (some ⟨g, 0, none⟩) l.length cap) := (blk_cell hr.blk 1).trans rfl
      by_cases hjl : j < l.length
      · have p2 : decide ((j : Int) < (l.length : Int)) = true := decide_eq_true (by omega)
        by_cases hjk : j = k
        · have p3 : ((j : Int) != (k : Int)) = false := by rw [hjk]; simp
          have HQ := Aside0.mk (show q = (l.take (j + 1)).eraseIdx k by rw [hq.out, hjk]; exact (erase_same hlt).symm)
          have HO := Aside0.mk hown
          clear hjk hr hown
          go_wp2_with fail
          exact ⟨⟨j + 1, q, A, c, by omega, by simp, rfl, HQ, by omega, HO.out, hB⟩, by simp [intOf]; omega⟩
        · have p3 : ((j : Int) != (k : Int)) = true := by rw [bne_iff_ne]; omega
          obtain ⟨d0, d1⟩ := HC.out j hjl
          have d0' := pw_cell_below hB d0
          have d1' := pw_cell_below hB d1
          have hm := erase_more hjl hjk
          have HQ := Aside0.mk (show q ++ [((l.getD j (0, 0)).1, (l.getD j (0, 0)).2)] = (l.take (j + 1)).eraseIdx k by rw [hm, hq.out])
          clear d0 d1 hm hjk hr
          generalize (l.getD j (0, 0)).1 = x at d0' HQ
          generalize (l.getD j (0, 0)).2 = y at d1' HQ
          have bA : Below wr.heap.size wr (wr.alloc (.cells #[.int .i64 x, .int .i64 y] 66)) := (Below.refl _ wr).alloc (Nat.le_refl _) _
          have HO := Aside0.mk (pw_own_below hown bA)
          have HN := Aside0.mk (World.news_of_block (cs := #[.int .i64 x, .int .i64 y]) (blk_new wr (.cells #[.int .i64 x, .int .i64 y] 66)))
          have HB := Aside0.mk (hB.trans ⟨bA.os, bA.tape, bA.output, bA.size, fun j hj => bA.block j (Nat.lt_of_lt_of_le hj hB.size)⟩)
          have hbs := hB.size
          clear hown bA hB
          go_wp2_with (at_builtin; refine wpList_append_own_at _ rfl _ _ 62 rfl W.heap.size 66 i0 (.agg #[.int .i64 0, .int .i64 0]) 2 16 Try.underlying62 hi hz0 hz1 hz2 rfl (by decide) _ _ _ rfl HO.out ⟨wr.heap.size, 0, none⟩ 1 1 [.int .i64 x, .int .i64 y] rfl rfl HN.out (by simp [Value.oneCell']) (by unfold maxLen; omega) (by omega) HB.out.size ?_; intro v' w2 hown2 hgrow _ hat)
          have own3 : w2.ownsRow W.heap.size 66 2 v' (q ++ [(x, y)]).length (prs (q ++ [(x, y)])) := by
            rw [prs_append, List.length_append]
            exact hown2
          have hkb := own_base HO.out
          have hB2 : Below W.heap.size W w2 := pw_below_grown HB.out _ HB.out.size hgrow (fun k e => hkb k e)
          obtain ⟨A2, c2, ev⟩ := own2_slice own3
          subst ev
          exact ⟨⟨j + 1, q ++ [(x, y)], A2, c2, by omega, by simp, rfl, HQ, by simp; omega, own3, hB2⟩, by simp [intOf]; omega⟩
      · have p2 : decide ((j : Int) < (l.length : Int)) = false := decide_eq_false (by omega)
        have HQ := Aside0.mk (show q = l.eraseIdx k by rw [hq.out, List.take_of_length_le (by omega)])
        have fz := blk_frozen hr.blk 1
        have HR := Aside0.mk hr
        have HO := Aside0.mk hown
        have HB := Aside0.mk hB
        clear hr hown hB
        go_wp2_with fail
        go_ret
        refine ⟨rfl, .slice A q.length c, ?_, ?_⟩
        · have hr := HR.out
          rw [← HQ.out]
          have hne : some M ≠ (Value.slice A q.length c).ownBlock := own_ne HO.out hr.blk (by decide)
          refine ⟨hr.le, ?_, own_setCell (own_up HO.out HW0.out) hne _, hr.hB.setCell hr.le _⟩
          have := blk_set hr.blk 1 (.slice A q.length c)
          exact this
        · exact ⟨by simpa [World.setCell] using HB.out.size, fun j hj h1 _ => (Below.heap_setCell wr ⟨M, 1, none⟩ _ j h1).trans (HB.out.block j hj)⟩
end
/-- One pair more, behind a row of the call's own. -/
theorem app_pair {W u w2 : World} {e : TypeId} {v v' : Value} {q : List (Int × Int)} {x y : Int} (HB : Below W.heap.size W u) (own : u.ownsRow W.heap.size e 2 v q.length (prs q)) (hown : w2.ownsRow W.heap.size e 2 v' (q.length + 1) (prs q ++ [.int .i64 x, .int .i64 y])) (hgr : (u.alloc (.cells #[.int .i64 x, .int .i64 y] e)).grownBy w2 v.ownBlock) :
    w2.ownsRow W.heap.size e 2 v' (q ++ [(x, y)]).length (prs (q ++ [(x, y)])) ∧ Below W.heap.size W w2 ∧ ∃ A c, v' = .slice A (q ++ [(x, y)]).length c := by
  have hbA : Below u.heap.size u (u.alloc (.cells #[.int .i64 x, .int .i64 y] e)) := (Below.refl _ _).alloc (Nat.le_refl _) _
  have own2 : w2.ownsRow W.heap.size e 2 v' (q ++ [(x, y)]).length (prs (q ++ [(x, y)])) := by
    rw [prs_append, List.length_append]
    exact hown
  have hkb := own_base own
  exact ⟨own2, pw_below_grown (below2 HB hbA) _ (below2 HB hbA).size hgr (fun k e => hkb k e), own2_slice own2⟩
theorem app_int {W u w2 : World} {v v' : Value} {q : List Int} {x : Int} (HB : Below W.heap.size W u) (own : u.ownsRow W.heap.size 3 1 v q.length (nums .i64 q)) (hown : w2.ownsRow W.heap.size 3 1 v' (q.length + 1) (nums .i64 q ++ [.int .i64 x])) (hgr : (u.alloc (.cells #[.int .i64 x] 3)).grownBy w2 v.ownBlock) :
    w2.ownsRow W.heap.size 3 1 v' (q ++ [x]).length (nums .i64 (q ++ [x])) ∧ Below W.heap.size W w2 ∧ ∃ A c, v' = .slice A (q ++ [x]).length c := by
  have hbA : Below u.heap.size u (u.alloc (.cells #[.int .i64 x] 3)) := (Below.refl _ _).alloc (Nat.le_refl _) _
  have own2 : w2.ownsRow W.heap.size 3 1 v' (q ++ [x]).length (nums .i64 (q ++ [x])) := by
    unfold nums
    rw [List.map_append, List.length_append]
    exact hown
  have hkb := own_base own
  exact ⟨own2, pw_below_grown (below2 HB hbA) _ (below2 HB hbA).size hgr (fun k e => hkb k e), own_slice own2⟩
section
variable {w0 : World} {M : Nat} {rv : Value} {l : List (Int × Int)} {every : Int} {W : World}
theorem hasR_contains (k : Int) : hasR l k = (l.map Prod.fst).contains k := by
  rw [Bool.eq_iff_iff, hasR_iff, contains_iff, List.mem_map]
  constructor
  · rintro ⟨y, hy⟩
    exact ⟨(k, y), hy, rfl⟩
  · rintro ⟨p, hp, rfl⟩
    exact ⟨p.2, hp⟩
theorem rp_New (every : Int) (W : World) (h : fitsB every = true) : Calls Try.prog 16 #[.int .i64 every] W fun e W' => e = .returned (.tuple #[.pointer (some ⟨W.heap.size, 0, none⟩), .int .i64 0]) ∧ W' = W.alloc (.cells #[.int .i64 every, .slice none 0 0] 64) := by
  have HN := Aside0.mk (show 1 ≤ every ∧ every ≤ 1000 by unfold fitsB at h; simpa using h)
  clear h
  go_enter Try.func16, Try.ntmps16
  go_wp2_with fail
  all_goals first | (go_ret2; exact ⟨rfl, rfl⟩) | (exfalso; have h := HN.out; omega)
theorem rp_NewNo (every : Int) (W : World) (h : fitsB every = false) : Calls Try.prog 16 #[.int .i64 every] W fun e W' => e = .returned (.tuple #[.pointer none, .int .i64 2]) ∧ W' = W := by
  have HN := Aside0.mk (show ¬ (1 ≤ every ∧ every ≤ 1000) by unfold fitsB at h; intro h2; rw [decide_eq_true h2.1, decide_eq_true h2.2] at h; cases h)
  clear h
  go_enter Try.func16, Try.ntmps16
  go_wp2_with fail
  all_goals first | (go_ret2; exact ⟨rfl, rfl⟩) | (exfalso; have h := HN.out; omega)
theorem rp_Every (h : RpRaw w0 M rv l every W) (n : Int) : Calls Try.prog 19 #[.pointer (some ⟨M, 0, none⟩), .int .i64 n] W fun e W' => e = .returned (.int .i64 (erE n)) ∧ RpRaw w0 M rv l (if fitsB n = true then n else every) W' ∧ RpMv M rv W W' := by
  have H := Aside0.mk h
  have f1 := blk_frozen h.blk 0
  have c1 : W.cell? ⟨M, 0, none⟩ = some (.int .i64 every) := (blk_cell h.blk 0).trans rfl
  unfold erE
  cases hf : fitsB n with
  | false =>
    rw [if_neg (by decide), if_neg (by decide)]
    have HN := Aside0.mk (show ¬ (1 ≤ n ∧ n ≤ 1000) by unfold fitsB at hf; intro h2; rw [decide_eq_true h2.1, decide_eq_true h2.2] at hf; cases hf)
    clear h hf
    go_enter Try.func19, Try.ntmps19
    go_wp2_with fail
    all_goals first | (go_ret; exact ⟨rfl, H.out, RpMv.refl _ _ _⟩) | (exfalso; have h := HN.out; omega)
  | true =>
    rw [if_pos rfl, if_pos rfl]
    have HN := (show 1 ≤ n ∧ n ≤ 1000 by unfold fitsB at hf; simpa using hf)
    have p1 : decide (n < 1) = false := decide_eq_false (by omega)
    have p2 : decide (1000 < n) = false := decide_eq_false (by omega)
    clear h hf HN
    go_enter Try.func19, Try.ntmps19
    go_wp2_with fail
    go_ret
    have h := H.out
    refine ⟨rfl, ⟨h.le, ?_, own_setCell h.hr h.ne _, h.hB.setCell h.le _⟩, ⟨by simp [World.setCell], fun j hj h1 _ => Below.heap_setCell _ _ _ j h1⟩⟩
    have := blk_set h.blk 0 (.int .i64 n)
    simpa using this
set_option maxHeartbeats 4000000 in
theorem rp_Keys (h : RpRaw w0 M rv l every W) (hl : l.length ≤ 1000) : Calls Try.prog 22 #[.pointer (some ⟨M, 0, none⟩)] W fun e W' => ∃ v, e = .returned v ∧ W'.ownsRow W.heap.size 3 1 v (l.map Prod.fst).length (nums .i64 (l.map Prod.fst)) ∧ Below W.heap.size W W' := by
  have H := Aside0.mk h
  obtain ⟨A, c, ev⟩ := own2_slice h.hr
  subst ev
  obtain ⟨i0, hi, hz0, hz1, hz2⟩ := info_parts infoIntP
  clear h
  go_enter Try.func22, Try.ntmps22
  go_wp2_with fail
  go_loopw [3, 4] (fun v i wr => ∃ (j : Nat) (q : List Int) (A : Option Addr) (c : Nat), j ≤ l.length ∧ q.length ≤ j ∧ i = .int .i64 (j : Int) ∧ v = .slice A q.length c ∧ Aside0 (q = (l.take j).map Prod.fst) ∧ Aside0 (wr.ownsRow W.heap.size 3 1 (.slice A q.length c) q.length (nums .i64 q)) ∧ Aside0 (Below W.heap.size W wr)) (fun _ i _ => l.length - (intOf i).toNat)
  case atStart => exact ⟨0, [], none, 0, Nat.zero_le _, Nat.le_refl _, rfl, rfl, ⟨by simp⟩, ⟨World.ownsRow_nil _ _ _ _⟩, ⟨Below.refl _ _⟩⟩
  case round =>
    obtain ⟨j, q, A1, c1, hj, hqj, rfl, rfl, hq, hown, hB⟩ := hrel
    have hr := H.out.below hB.out
    have c3 : wr.cell? ⟨M, 1, none⟩ = some (.slice A l.length c) := (blk_cell hr.blk 1).trans rfl
    by_cases hjl : j < l.length
    · have p2 : decide ((j : Int) < (l.length : Int)) = true := decide_eq_true (by omega)
      rcases own2_form hr.hr with ⟨_, rfl⟩ | ⟨g, cap, cur, ev, hg, hh2, hnc, hcm, hsz, htk, hc⟩
      · exact absurd hjl (Nat.not_lt_zero _)
      obtain rfl : A = some ⟨g, 0, none⟩ := (Value.slice.inj ev).1
      obtain ⟨d0, d1⟩ := hc j hjl
      have HQ := Aside0.mk (show q ++ [(l.getD j (0, 0)).1] = (l.take (j + 1)).map Prod.fst by
        rw [List.take_succ_eq_append_getElem hjl, List.map_append, ← hq.out, List.getD_eq_getElem?_getD, List.getElem?_eq_getElem hjl]
        rfl)
      clear hc hh2 htk hsz ev hr
      generalize (l.getD j (0, 0)).1 = x at d0 HQ
      generalize (l.getD j (0, 0)).2 = y at d1
      have bA : Below wr.heap.size wr (wr.alloc (.cells #[.int .i64 x] 3)) := (Below.refl _ wr).alloc (Nat.le_refl _) _
      have HO2 := Aside0.mk (pw_own_below hown.out bA)
      have HN := Aside0.mk (World.news_of_block (cs := #[.int .i64 x]) (blk_new wr (.cells #[.int .i64 x] 3)))
      have HSZ := Aside0.mk (below2 hB.out bA).size
      clear bA
      go_wp2_with (at_builtin; refine wpList_append_own_at _ rfl _ _ 30 rfl W.heap.size 3 i0 (.int .i64 0) 1 8 Try.underlying30 hi hz0 hz1 hz2 rfl (by decide) _ _ _ rfl HO2.out ⟨wr.heap.size, 0, none⟩ 1 1 [.int .i64 x] rfl rfl HN.out (by simp [Value.oneCell']) (by unfold maxLen; omega) (by omega) HSZ.out ?_; intro v' w2 hown2 hgrow _ hat; obtain ⟨g1, g2, A2, c2, ev⟩ := app_int hB.out hown.out hown2 hgrow; subst ev; have G1 := Aside0.mk g1; have G2 := Aside0.mk g2; clear hown2 hgrow hat g1 g2)
      exact ⟨⟨j + 1, q ++ [x], A2, c2, by omega, by simp; omega, by simp, by simp, HQ, G1, G2⟩, by simp [intOf]; omega⟩
    · have p2 : decide ((j : Int) < (l.length : Int)) = false := decide_eq_false (by omega)
      have HQ := Aside0.mk (show q = l.map Prod.fst by rw [hq.out, List.take_of_length_le (by omega)])
      clear hr
      go_wp2_with fail
      go_ret
      have h1 := hown.out
      rw [← HQ.out]
      exact ⟨_, rfl, h1, hB.out⟩
end
section
variable {w0 : World} {M : Nat} {rv : Value} {l : List (Int × Int)} {every : Int} {W : World}
/-- What has been collected. -/
def colP (l : List (Int × Int)) (k : Int) (p i : Nat) : List (Int × Int) := if p < i then l.take p ++ [(k, 0)] ++ (l.take i).drop p else l.take i
theorem colP_a {k : Int} {p i : Nat} (hi : i < l.length) (h : i < p) : colP l k p (i + 1) = colP l k p i ++ [((l.getD i (0, 0)).1, (l.getD i (0, 0)).2)] := by
  unfold colP
  rw [if_neg (by omega), if_neg (by omega), List.take_succ_eq_append_getElem hi, List.getD_eq_getElem?_getD, List.getElem?_eq_getElem hi]
  rfl
theorem colP_b {k : Int} {i : Nat} (hi : i < l.length) : colP l k i (i + 1) = (colP l k i i ++ [(k, 0)]) ++ [((l.getD i (0, 0)).1, (l.getD i (0, 0)).2)] := by
  unfold colP
  have l1 : (l.take i).length = i := by rw [List.length_take]; omega
  rw [if_pos (by omega), if_neg (by omega), List.take_succ_eq_append_getElem hi, List.drop_left' l1, List.getD_eq_getElem?_getD, List.getElem?_eq_getElem hi]
  rfl
theorem colP_c {k : Int} {p i : Nat} (hi : i < l.length) (h : p < i) : colP l k p (i + 1) = colP l k p i ++ [((l.getD i (0, 0)).1, (l.getD i (0, 0)).2)] := by
  unfold colP
  rw [if_pos (by omega), if_pos h, List.take_succ_eq_append_getElem hi, List.drop_append_of_le_length (by rw [List.length_take]; omega), List.getD_eq_getElem?_getD, List.getElem?_eq_getElem hi, ← List.append_assoc]
  rfl
def RpAd (w0 : World) (M : Nat) (rv : Value) (l : List (Int × Int)) (every : Int) (W W' : World) : Prop := ∃ rv', RpRaw w0 M rv' l every W' ∧ RpMv M rv W W'
theorem colP_len {k : Int} {p i : Nat} (hi : i ≤ l.length) (hp : p ≤ l.length) : (colP l k p i).length ≤ i + 1 := by
  unfold colP
  split
  · simp
    omega
  · simp
    omega
set_option maxRecDepth 50000 in
set_option maxHeartbeats 16000000 in
theorem rp_Add (h : RpRaw w0 M rv l every W) (ok : PnOk l) (k : Int) : Calls Try.prog 17 #[.pointer (some ⟨M, 0, none⟩), .int .i64 k] W fun e W' => e = .returned (.int .i64 (erA l k)) ∧ RpAd w0 M rv (if erA l k = 0 then insP l k else l) every W W' := by
  have AT := rp_at h k (by have := ok.most; omega)
  have H := Aside0.mk h
  have hml := ok.most
  have c1 := blk_cell h.blk 1
  simp at c1
  rcases add_cases l k with ⟨g1, e⟩ | ⟨g1, g2, e⟩ | ⟨g1, g2, g3, e⟩ | ⟨g1, g2, g3, g4, e⟩ | ⟨g1, g2, g3, g4, e⟩
  · rw [e, if_neg (by decide)]
    have p1 : decide (k < 1) = true := decide_eq_true g1
    clear e g1 h ok
    go_enter Try.func17, Try.ntmps17
    go_wp2_with fail
    go_ret
    exact ⟨rfl, rv, H.out, RpMv.refl _ _ _⟩
  · rw [e, if_neg (by decide)]
    have p1 : decide (k < 1) = false := decide_eq_false (by omega)
    have p2 : decide (1099511627775 < k) = true := decide_eq_true g2
    clear e g1 g2 h ok
    go_enter Try.func17, Try.ntmps17
    go_wp2_with fail
    go_ret
    exact ⟨rfl, rv, H.out, RpMv.refl _ _ _⟩
  · rw [e, if_neg (by decide)]
    rw [(atI_yes ((hasR_contains k).trans g3)).1] at AT
    generalize atN l k = n at AT
    have p1 : decide (k < 1) = false := decide_eq_false (by omega)
    have p2 : decide (1099511627775 < k) = false := decide_eq_false (by omega)
    have p3 : decide ((0 : Int) ≤ (n : Int)) = true := decide_eq_true (by omega)
    clear e g1 g2 g3 h ok
    go_enter Try.func17, Try.ntmps17
    go_wp2_with (go_at_call 30; (with_reducible refine AT.mono ?_); rintro e w1 ⟨rfl, hw⟩; obtain rfl := hw.symm)
    go_ret
    exact ⟨rfl, rv, H.out, RpMv.refl _ _ _⟩
  · rw [e, if_neg (by decide)]
    rw [atI_no ((hasR_contains k).trans g3)] at AT
    have p1 : decide (k < 1) = false := decide_eq_false (by omega)
    have p2 : decide (1099511627775 < k) = false := decide_eq_false (by omega)
    have p3 : ((l.length : Int) == 64) = true := beq_iff_eq.mpr (by omega)
    obtain ⟨A, c, ev⟩ := own2_slice h.hr
    subst ev
    clear e g1 g2 g3 g4 h ok
    go_enter Try.func17, Try.ntmps17
    go_wp2_with (go_at_call 30; (with_reducible refine AT.mono ?_); rintro e w1 ⟨rfl, hw⟩; obtain rfl := hw.symm)
    go_ret
    exact ⟨rfl, _, H.out, RpMv.refl _ _ _⟩
  · rw [e, if_pos rfl]
    rw [atI_no ((hasR_contains k).trans g3)] at AT
    have p1 : decide (k < 1) = false := decide_eq_false (by omega)
    have p2 : decide (1099511627775 < k) = false := decide_eq_false (by omega)
    have p3 : ((l.length : Int) == 64) = false := beq_eq_false_iff_ne.mpr (by omega)
    have hpl : posK (l.map Prod.fst) k ≤ l.length := by have := posK_le (l.map Prod.fst) k; simpa using this
    have hins : insP l k = l.take (posK (l.map Prod.fst) k) ++ [(k, 0)] ++ l.drop (posK (l.map Prod.fst) k) := rfl
    have KL := Aside0.mk (fun (i : Nat) (hi : i < l.length) => (show ((l.getD i (0, 0)).1 < k ↔ i < posK (l.map Prod.fst) k) ∧ (l.getD i (0, 0)).1 ≠ k from ⟨by have := posK_lt_iff (k := k) ok.sorted (h := i) (by simpa using hi); rwa [fst_getD hi] at this, fun e => by
      have hm : (l.map Prod.fst).contains k = true := contains_iff.2 (by rw [← e, ← fst_getD hi, List.getD_eq_getElem?_getD, List.getElem?_eq_getElem (by simpa using hi)]; exact List.getElem_mem _)
      rw [g3] at hm
      cases hm⟩))
    generalize posK (l.map Prod.fst) k = p at hpl hins KL
    have HI := Aside0.mk hins
    obtain ⟨i0, hi, hz0, hz1, hz2⟩ := info_parts infoRow10
    rcases own2_form h.hr with ⟨rfl, rfl⟩ | ⟨g, cap, cur, rfl, hg, hh2, hnc, hcm, hsz, htk, hc⟩
    · have c1' : W.cell? ⟨M, 1, none⟩ = some (.slice none 0 0) := (blk_cell h.blk 1).trans rfl
      have fz := blk_frozen h.blk 1
      have hB : Aside0 (Below W.heap.size W W) := ⟨Below.refl _ _⟩
      have HW0 := Aside0.mk h.hB.size
      have bA : Below W.heap.size W (W.alloc (.cells #[.int .i64 k, .int .i64 0] 66)) := (Below.refl _ _).alloc (Nat.le_refl _) _
      have HBA := Aside0.mk bA
      have HN := Aside0.mk (World.news_of_block (cs := #[.int .i64 k, .int .i64 0]) (blk_new W (.cells #[.int .i64 k, .int .i64 0] 66)))
      have HSZ := Aside0.mk (below2 hB.out bA).size
      clear bA
      clear e g1 g2 g3 h ok hins KL
      go_enter Try.func17, Try.ntmps17
      go_wp2_with (go_at_call 30; (with_reducible refine AT.mono ?_); rintro e w1 ⟨rfl, hw⟩; obtain rfl := hw.symm)
      go_loopw [5, 6, 7] (fun v bb ii wr => ∃ (q : List (Int × Int)) (A : Option Addr) (c : Nat), q.length ≤ 1 ∧ v = .slice A q.length c ∧ bb = .bool false ∧ ii = .int .i64 0 ∧ wr = W ∧ Aside0 (q = []) ∧ Aside0 (W.ownsRow W.heap.size 66 2 (.slice A q.length c) q.length (prs q))) (fun _ _ _ _ => 0)
      case atStart => exact ⟨[], none, 0, by simp, rfl, rfl, rfl, rfl, ⟨rfl⟩, ⟨World.ownsRow_nil _ _ _ _⟩⟩
      case round =>
        obtain ⟨q, A, c, hql, rfl, rfl, rfl, hw, hq, hown⟩ := hrel
        obtain rfl := hw.symm
        have HO2 := Aside0.mk (pw_own_below hown.out HBA.out)
        go_wp2_with (at_builtin; refine wpList_append_own_at _ rfl _ _ 62 rfl W.heap.size 66 i0 (.agg #[.int .i64 0, .int .i64 0]) 2 16 Try.underlying62 hi hz0 hz1 hz2 rfl (by decide) _ _ _ rfl HO2.out ⟨W.heap.size, 0, none⟩ 1 1 [.int .i64 k, .int .i64 0] rfl rfl HN.out (by simp [Value.oneCell']) (by unfold maxLen; omega) (by omega) HSZ.out ?_; intro v' w2 hown2 hgrow _ hat; obtain ⟨g1, g2, A2, c2, ev⟩ := app_pair hB.out hown.out hown2 hgrow; obtain ⟨q2, hq2⟩ : ∃ q2, q2 = q ++ [(k, (0 : Int))] := ⟨_, rfl⟩; (rw [← hq2] at g1 ev); subst ev; have HQ2 := Aside0.mk hq2; clear hq2; have G1 := Aside0.mk g1; have G2 := Aside0.mk g2; have hr2 := H.out.below g2; have c32 : w2.cell? ⟨M, 1, none⟩ = some (.slice none 0 0) := (blk_cell hr2.blk 1).trans rfl; have fz2 := blk_frozen hr2.blk 1; have HR2 := Aside0.mk hr2; clear hown2 hgrow hat g1 g2 hr2)
        go_ret
        refine ⟨rfl, .slice A2 q2.length c2, ?_, ?_⟩
        · have e3 : insP [] k = q2 := by rw [HQ2.out, hq.out]; unfold insP; simp
          rw [e3]
          have hne : some M ≠ (Value.slice A2 q2.length c2).ownBlock := own_ne G1.out HR2.out.blk (by decide)
          refine ⟨HR2.out.le, ?_, own_setCell (own_up G1.out HW0.out) hne _, HR2.out.hB.setCell HR2.out.le _⟩
          have := blk_set HR2.out.blk 1 (.slice A2 q2.length c2)
          exact this
        · exact ⟨by simpa [World.setCell] using G2.out.size, fun j hj h1 _ => (Below.heap_setCell w2 ⟨M, 1, none⟩ _ j h1).trans (G2.out.block j hj)⟩
    have HC := Aside0.mk hc
    have HW0 := Aside0.mk h.hB.size
    clear e g1 g2 g3 h ok hins hc hh2 hsz htk
    go_enter Try.func17, Try.ntmps17
    go_wp2_with (go_at_call 30; (with_reducible refine AT.mono ?_); rintro e w1 ⟨rfl, hw⟩; obtain rfl := hw.symm)
    go_loopw [5, 6, 7] (fun v bb ii wr => ∃ (i : Nat) (b : Bool) (q : List (Int × Int)) (A : Option Addr) (c : Nat), i ≤ l.length ∧ q.length ≤ i + 1 ∧ ii = .int .i64 (i : Int) ∧ bb = .bool b ∧ v = .slice A q.length c ∧ Aside0 (b = decide (p < i)) ∧ Aside0 (q = colP l k p i) ∧ Aside0 (wr.ownsRow W.heap.size 66 2 (.slice A q.length c) q.length (prs q)) ∧ Aside0 (Below W.heap.size W wr)) (fun _ _ ii _ => l.length - (intOf ii).toNat)
    case atStart => exact ⟨0, false, [], none, 0, Nat.zero_le _, by simp, rfl, rfl, rfl, ⟨by simp⟩, ⟨by simp [colP]⟩, ⟨World.ownsRow_nil _ _ _ _⟩, ⟨Below.refl _ _⟩⟩
    case round =>
      obtain ⟨i, b, q, A, c, hil, hql, rfl, rfl, rfl, hb, hq, hown, hB⟩ := hrel
      have hr := H.out.below hB.out
      have c3 : wr.cell? ⟨M, 1, none⟩ = some (.slice (some ⟨g, 0, none⟩) l.length cap) := (blk_cell hr.blk 1).trans rfl
      by_cases hlt : i < l.length
      · have p4 : decide ((i : Int) < (l.length : Int)) = true := decide_eq_true (by omega)
        obtain ⟨d0, d1⟩ := HC.out i hlt
        have d0' := pw_cell_below hB.out d0
        have d1' := pw_cell_below hB.out d1
        obtain ⟨kl1, kl2⟩ := KL.out i hlt
        have D0 := Aside0.mk (fun (u : World) (hu : Below W.heap.size W u) => pw_cell_below hu d0)
        have D1 := Aside0.mk (fun (u : World) (hu : Below W.heap.size W u) => pw_cell_below hu d1)
        rcases Nat.lt_trichotomy i p with hip | hip | hip
        · have hbf : b = false := hb.out.trans (decide_eq_false (by omega))
          subst hbf
          have HB2 := Aside0.mk (show false = decide (p < i + 1) from (decide_eq_false (by omega)).symm)
          have HQ := Aside0.mk (show q ++ [((l.getD i (0, 0)).1, (l.getD i (0, 0)).2)] = colP l k p (i + 1) by rw [colP_a hlt hip, hq.out])
          have hkx := kl1.2 hip
          clear d0 d1 hr kl1 kl2 D0 D1
          generalize (l.getD i (0, 0)).1 = x at d0' HQ hkx
          generalize (l.getD i (0, 0)).2 = y at d1' HQ
          have p5 : decide (k < x) = false := decide_eq_false (by omega)
          have bA : Below wr.heap.size wr (wr.alloc (.cells #[.int .i64 x, .int .i64 y] 66)) := (Below.refl _ _).alloc (Nat.le_refl _) _
          have HO2 := Aside0.mk (pw_own_below hown.out bA)
          have HN := Aside0.mk (World.news_of_block (cs := #[.int .i64 x, .int .i64 y]) (blk_new wr (.cells #[.int .i64 x, .int .i64 y] 66)))
          have HSZ := Aside0.mk (below2 hB.out bA).size
          clear bA
          go_wp2_with (at_builtin; refine wpList_append_own_at _ rfl _ _ 62 rfl W.heap.size 66 i0 (.agg #[.int .i64 0, .int .i64 0]) 2 16 Try.underlying62 hi hz0 hz1 hz2 rfl (by decide) _ _ _ rfl HO2.out ⟨wr.heap.size, 0, none⟩ 1 1 [.int .i64 x, .int .i64 y] rfl rfl HN.out (by simp [Value.oneCell']) (by unfold maxLen; omega) (by omega) HSZ.out ?_; intro v' w2 hown2 hgrow _ hat; obtain ⟨g1, g2, A2, c2, ev⟩ := app_pair hB.out hown.out hown2 hgrow; subst ev; have G1 := Aside0.mk g1; have G2 := Aside0.mk g2; clear hown2 hgrow hat g1 g2)
          exact ⟨⟨i + 1, false, q ++ [(x, y)], A2, c2, by omega, by simp; omega, by simp, rfl, by simp, HB2, HQ, G1, G2⟩, by simp [intOf]; omega⟩
        · have hbf : b = false := hb.out.trans (decide_eq_false (by omega))
          subst hbf
          have HB2 := Aside0.mk (show true = decide (p < i + 1) from (decide_eq_true (by omega)).symm)
          have HQ := Aside0.mk (show (q ++ [(k, 0)]) ++ [((l.getD i (0, 0)).1, (l.getD i (0, 0)).2)] = colP l k p (i + 1) by rw [← hip, colP_b hlt, hq.out, ← hip])
          have hkx : ¬ (l.getD i (0, 0)).1 < k := fun h => by have := kl1.1 h; omega
          have hqi : q.length ≤ i := by rw [hq.out]; unfold colP; rw [if_neg (by omega)]; simp; omega
          clear d0 d1 hr kl1
          generalize (l.getD i (0, 0)).1 = x at *
          generalize (l.getD i (0, 0)).2 = y at *
          have p5 : decide (k < x) = true := decide_eq_true (by omega)
          clear hip kl2
          have bA : Below wr.heap.size wr (wr.alloc (.cells #[.int .i64 k, .int .i64 0] 66)) := (Below.refl _ _).alloc (Nat.le_refl _) _
          have HO2 := Aside0.mk (pw_own_below hown.out bA)
          have HN := Aside0.mk (World.news_of_block (cs := #[.int .i64 k, .int .i64 0]) (blk_new wr (.cells #[.int .i64 k, .int .i64 0] 66)))
          have HSZ := Aside0.mk (below2 hB.out bA).size
          clear bA
          go_wp2_with (first | (at_builtin; refine wpList_append_own_at _ rfl _ _ 62 rfl W.heap.size 66 i0 (.agg #[.int .i64 0, .int .i64 0]) 2 16 Try.underlying62 hi hz0 hz1 hz2 rfl (by decide) _ _ _ rfl HO2.out ⟨wr.heap.size, 0, none⟩ 1 1 [.int .i64 k, .int .i64 0] rfl rfl HN.out (by simp [Value.oneCell']) (by unfold maxLen; omega) (by omega) HSZ.out ?_; intro v' w2 hown2 hgrow _ hat; obtain ⟨g1, g2, A2, c2, ev⟩ := app_pair hB.out hown.out hown2 hgrow; obtain ⟨q2, hq2⟩ : ∃ q2, q2 = q ++ [(k, (0 : Int))] := ⟨_, rfl⟩; (rw [← hq2] at g1 ev); subst ev; have hl2 : q2.length ≤ i + 1 := (by rw [hq2, List.length_append]; simp; omega); have HQ2 := Aside0.mk hq2; clear hq2; have G1 := Aside0.mk g1; have G2 := Aside0.mk g2; clear hown2 hgrow hat g1 g2; have bA3 : Below w2.heap.size w2 (w2.alloc (.cells #[.int .i64 x, .int .i64 y] 66)) := (Below.refl _ _).alloc (Nat.le_refl _) _; have HO3 := Aside0.mk (pw_own_below G1.out bA3); have HN3 := Aside0.mk (World.news_of_block (cs := #[.int .i64 x, .int .i64 y]) (blk_new w2 (.cells #[.int .i64 x, .int .i64 y] 66))); have HSZ3 := Aside0.mk (below2 G2.out bA3).size; clear bA3; have hr2 := H.out.below G2.out; have c32 : w2.cell? ⟨M, 1, none⟩ = some (.slice (some ⟨g, 0, none⟩) l.length cap) := (blk_cell hr2.blk 1).trans rfl; have e0 := D0.out w2 G2.out; have e1 := D1.out w2 G2.out; clear hr2) | (at_builtin; refine wpList_append_own_at _ rfl _ _ 62 rfl W.heap.size 66 i0 (.agg #[.int .i64 0, .int .i64 0]) 2 16 Try.underlying62 hi hz0 hz1 hz2 rfl (by decide) _ _ _ rfl HO3.out ⟨w2.heap.size, 0, none⟩ 1 1 [.int .i64 x, .int .i64 y] rfl rfl HN3.out (by simp [Value.oneCell']) (by unfold maxLen; omega) (by omega) HSZ3.out ?_; intro v'' w3 hown2 hgrow _ hat; obtain ⟨g1, g2, A3, c3x, ev⟩ := app_pair G2.out G1.out hown2 hgrow; subst ev; have G3 := Aside0.mk g1; have G4 := Aside0.mk g2; clear hown2 hgrow hat g1 g2))
          exact ⟨⟨i + 1, true, q2 ++ [(x, y)], A3, c3x, by omega, by simp; omega, by simp, rfl, by simp, HB2, ⟨by rw [HQ2.out]; exact HQ.out⟩, G3, G4⟩, by simp [intOf]; omega⟩
        · have hbf : b = true := hb.out.trans (decide_eq_true (by omega))
          subst hbf
          have HB2 := Aside0.mk (show true = decide (p < i + 1) from (decide_eq_true (by omega)).symm)
          have HQ := Aside0.mk (show q ++ [((l.getD i (0, 0)).1, (l.getD i (0, 0)).2)] = colP l k p (i + 1) by rw [colP_c hlt hip, hq.out])
          clear d0 d1 hr kl1 kl2 D0 D1
          generalize (l.getD i (0, 0)).1 = x at d0' HQ
          generalize (l.getD i (0, 0)).2 = y at d1' HQ
          have bA : Below wr.heap.size wr (wr.alloc (.cells #[.int .i64 x, .int .i64 y] 66)) := (Below.refl _ _).alloc (Nat.le_refl _) _
          have HO2 := Aside0.mk (pw_own_below hown.out bA)
          have HN := Aside0.mk (World.news_of_block (cs := #[.int .i64 x, .int .i64 y]) (blk_new wr (.cells #[.int .i64 x, .int .i64 y] 66)))
          have HSZ := Aside0.mk (below2 hB.out bA).size
          clear bA
          go_wp2_with (at_builtin; refine wpList_append_own_at _ rfl _ _ 62 rfl W.heap.size 66 i0 (.agg #[.int .i64 0, .int .i64 0]) 2 16 Try.underlying62 hi hz0 hz1 hz2 rfl (by decide) _ _ _ rfl HO2.out ⟨wr.heap.size, 0, none⟩ 1 1 [.int .i64 x, .int .i64 y] rfl rfl HN.out (by simp [Value.oneCell']) (by unfold maxLen; omega) (by omega) HSZ.out ?_; intro v' w2 hown2 hgrow _ hat; obtain ⟨g1, g2, A2, c2, ev⟩ := app_pair hB.out hown.out hown2 hgrow; subst ev; have G1 := Aside0.mk g1; have G2 := Aside0.mk g2; clear hown2 hgrow hat g1 g2)
          exact ⟨⟨i + 1, true, q ++ [(x, y)], A2, c2, by omega, by simp; omega, by simp, rfl, by simp, HB2, HQ, G1, G2⟩, by simp [intOf]; omega⟩
      · have p4 : decide ((i : Int) < (l.length : Int)) = false := decide_eq_false (by omega)
        obtain rfl : i = l.length := by omega
        have fz := blk_frozen hr.blk 1
        have HR := Aside0.mk hr
        clear hr
        by_cases hp : p < l.length
        · have hbt : b = true := hb.out.trans (decide_eq_true hp)
          subst hbt
          have HQ := Aside0.mk (show q = insP l k by rw [hq.out, HI.out]; unfold colP; rw [if_pos hp, List.take_of_length_le (Nat.le_refl _)])
          go_wp2_with fail
          go_ret
          refine ⟨rfl, .slice A q.length c, ?_, ?_⟩
          · rw [← HQ.out]
            have hne : some M ≠ (Value.slice A q.length c).ownBlock := own_ne hown.out HR.out.blk (by decide)
            refine ⟨HR.out.le, ?_, own_setCell (own_up hown.out HW0.out) hne _, HR.out.hB.setCell HR.out.le _⟩
            have := blk_set HR.out.blk 1 (.slice A q.length c)
            exact this
          · exact ⟨by simpa [World.setCell] using hB.out.size, fun j hj h1 _ => (Below.heap_setCell wr ⟨M, 1, none⟩ _ j h1).trans (hB.out.block j hj)⟩
        · have hbf : b = false := hb.out.trans (decide_eq_false hp)
          subst hbf
          obtain rfl : p = l.length := by omega
          have HQ := Aside0.mk (show q ++ [(k, 0)] = insP l k by rw [hq.out, HI.out]; unfold colP; rw [if_neg hp, List.drop_eq_nil_of_le (Nat.le_refl _), List.append_nil])
          have bA : Below wr.heap.size wr (wr.alloc (.cells #[.int .i64 k, .int .i64 0] 66)) := (Below.refl _ _).alloc (Nat.le_refl _) _
          have HO2 := Aside0.mk (pw_own_below hown.out bA)
          have HN := Aside0.mk (World.news_of_block (cs := #[.int .i64 k, .int .i64 0]) (blk_new wr (.cells #[.int .i64 k, .int .i64 0] 66)))
          have HSZ := Aside0.mk (below2 hB.out bA).size
          clear bA
          go_wp2_with (at_builtin; refine wpList_append_own_at _ rfl _ _ 62 rfl W.heap.size 66 i0 (.agg #[.int .i64 0, .int .i64 0]) 2 16 Try.underlying62 hi hz0 hz1 hz2 rfl (by decide) _ _ _ rfl HO2.out ⟨wr.heap.size, 0, none⟩ 1 1 [.int .i64 k, .int .i64 0] rfl rfl HN.out (by simp [Value.oneCell']) (by unfold maxLen; omega) (by omega) HSZ.out ?_; intro v' w2 hown2 hgrow _ hat; obtain ⟨g1, g2, A2, c2, ev⟩ := app_pair hB.out hown.out hown2 hgrow; obtain ⟨q2, hq2⟩ : ∃ q2, q2 = q ++ [(k, (0 : Int))] := ⟨_, rfl⟩; (rw [← hq2] at g1 ev); subst ev; have HQ2 := Aside0.mk hq2; clear hq2; have G1 := Aside0.mk g1; have G2 := Aside0.mk g2; have hr2 := H.out.below g2; have c32 : w2.cell? ⟨M, 1, none⟩ = some (.slice (some ⟨g, 0, none⟩) l.length cap) := (blk_cell hr2.blk 1).trans rfl; have fz2 := blk_frozen hr2.blk 1; have HR2 := Aside0.mk hr2; clear hown2 hgrow hat g1 g2 hr2)
          go_ret
          refine ⟨rfl, .slice A2 q2.length c2, ?_, ?_⟩
          · rw [← HQ.out, ← HQ2.out]
            have hne : some M ≠ (Value.slice A2 q2.length c2).ownBlock := own_ne G1.out HR2.out.blk (by decide)
            refine ⟨HR2.out.le, ?_, own_setCell (own_up G1.out HW0.out) hne _, HR2.out.hB.setCell HR2.out.le _⟩
            have := blk_set HR2.out.blk 1 (.slice A2 q2.length c2)
            exact this
          · exact ⟨by simpa [World.setCell] using G2.out.size, fun j hj h1 _ => (Below.heap_setCell w2 ⟨M, 1, none⟩ _ j h1).trans (G2.out.block j hj)⟩
end
end Go.Proofs.Ytnajlpmpofljhaa.P
