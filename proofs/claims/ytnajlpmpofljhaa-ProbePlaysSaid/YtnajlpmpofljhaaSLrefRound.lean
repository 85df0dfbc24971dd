import Derived.Test.YtnajlpmpofljhaaSLrefPlan
namespace Go.Proofs.Ytnajlpmpofljhaa.P
open Go.RowKit Go.Proofs.YtnajlpmpofljhaaW.PrintWords Go.Proofs.YtnajlpmpofljhaaW.PrintLast Go.Proofs.YtnajlpmpofljhaaW.PrintMore
set_option linter.unusedVariables false
set_option linter.unusedSimpArgs false
set_option linter.unnecessarySimpa false
attribute [local go_sem] max2_int min2_int max_two min_two max_three min_three max_four min_four
section
variable {w0 : World} {P : Nat} {rv : Value} {l : List (Int × Int)} {every : Int} {W : World}
theorem IntsAt.rmv {N : Nat} {A : Option Addr} {ws : List Int} {W1 : World} (h : IntsAt w0.heap.size N A ws W) (hN : N ≤ W.heap.size) (hp : RpRaw w0 P rv l every W) (m : RpMv P rv W W1) : IntsAt w0.heap.size N A ws W1 :=
  h.block (fun b h1 h2 => by
    have hbw := Nat.lt_of_lt_of_le h1 hN
    rcases h2 with h2 | ⟨cs, hc⟩
    · refine m.keep b hbw (fun e => by have := hp.le; omega) (fun e => ?_)
      have := own_base hp.hr _ e.symm
      omega
    · exact m.keep b hbw (fun e => blk_ne hc hp.blk (by decide) e) (own_ne hp.hr hc (by decide)))
theorem IntsAt.cell {base N : Nat} {A : Option Addr} {ws : List Int} {k : Nat} (h : IntsAt base N A ws W) (hk : k < ws.length) : ∃ b off, A = some ⟨b, off, none⟩ ∧ W.cell? ⟨b, off + k, none⟩ = some (.int .i64 (ws.getD k 0)) := by
  rcases h with rfl | ⟨b, off, e, h1, h2, h3⟩
  · exact absurd hk (Nat.not_lt_zero _)
  · exact ⟨b, off, e, h3 k hk⟩
theorem contains_more {ws : List Int} {k : Nat} (hk : k < ws.length) (x : Int) : (ws.take (k + 1)).contains x = ((ws.take k).contains x || (ws.getD k 0 == x)) := by
  rw [List.take_succ_eq_append_getElem hk, List.getD_eq_getElem?_getD, List.getElem?_eq_getElem hk, Bool.eq_iff_iff, Bool.or_eq_true, contains_iff, contains_iff, List.mem_append, List.mem_singleton, beq_iff_eq]
  exact or_congr Iff.rfl eq_comm
/-- What the document's Round tells and leaves. -/
def RRoundEnd (w0 : World) (P : Nat) (rv : Value) (l : List (Int × Int)) (every now : Int) (ws : List Int) (W : World) (e : Ending) (W' : World) : Prop := ∃ v, e = .returned v ∧ W'.ownsRow W.heap.size 3 1 v (roundO ws now l).length (nums .i64 (roundO ws now l)) ∧ RpRaw w0 P rv (l.map (rowF ws now every)) every W' ∧ RpMv P rv W W'
set_option maxRecDepth 20000 in
set_option maxHeartbeats 8000000 in
theorem rp_Round (h : RpRaw w0 P rv l every W) (ok : PnOk l) (he : 1 ≤ every ∧ every ≤ 1000) (now : Int) (hn : 0 ≤ now ∧ now ≤ 1099511626775) {A : Option Addr} {c : Nat} {ws : List Int} (hw : IntsAt w0.heap.size W.heap.size A ws W) (hwl : ws.length ≤ 1000) :
    Calls Try.prog 21 #[.pointer (some ⟨P, 0, none⟩), .int .i64 now, .slice A ws.length c] W (RRoundEnd w0 P rv l every now ws W) := by
  have H := Aside0.mk h
  have HW := Aside0.mk hw
  have hml := ok.most
  obtain ⟨hn1, hn2⟩ := hn
  obtain ⟨he1, he2⟩ := he
  have p1 : decide (now < 0) = false := decide_eq_false (by omega)
  have p2 : decide (1099511626775 < now) = false := decide_eq_false (by omega)
  obtain ⟨i0, hi, hz0, hz1, hz2⟩ := info_parts infoIntP
  rcases own2_form h.hr with ⟨rfl, rfl⟩ | ⟨g, cap, cur, rfl, hg, hh, hnc, hcm, hsz, htk, _⟩
  · have c1 : W.cell? ⟨P, 1, none⟩ = some (.slice none 0 0) := (blk_cell h.blk 1).trans rfl
    clear h hw ok
    go_enter Try.func21, Try.ntmps21
    go_wp2_with fail
    go_loopw [7, 8] (fun a b wr => a = .slice none 0 0 ∧ b = .int .i64 0 ∧ wr = W) (fun _ _ _ => 0)
    case atStart => exact ⟨rfl, rfl, rfl⟩
    case round =>
      obtain ⟨rfl, rfl, hw⟩ := hrel
      obtain rfl := hw.symm
      go_wp2_with fail
      go_ret
      exact ⟨_, rfl, World.ownsRow_nil _ _ _ _, H.out, RpMv.refl _ _ _⟩
  have HOK := Aside0.mk ok
  have HB0 := Aside0.mk h.hB.size
  clear h hw ok hh htk hsz
  go_enter Try.func21, Try.ntmps21
  go_wp2_with fail
  go_loopw [7, 8] (fun v ii wr => ∃ (i : Nat) (q : List Int) (Ao : Option Addr) (co : Nat), i ≤ l.length ∧ q.length ≤ i ∧ ii = .int .i64 (i : Int) ∧ v = .slice Ao q.length co ∧ Aside0 (q = roundO ws now (l.take i)) ∧ Aside0 (wr.ownsRow W.heap.size 3 1 (.slice Ao q.length co) q.length (nums .i64 q)) ∧ Aside0 (RpRaw w0 P (.slice (some ⟨g, 0, none⟩) l.length cap) ((l.take i).map (rowF ws now every) ++ l.drop i) every wr) ∧ Aside0 (RpMv P (.slice (some ⟨g, 0, none⟩) l.length cap) W wr) ∧ Aside0 (IntsAt w0.heap.size W.heap.size A ws wr)) (fun _ ii _ => l.length - (intOf ii).toNat)
  case atStart => exact ⟨0, [], none, 0, Nat.zero_le _, Nat.le_refl _, rfl, rfl, ⟨rfl⟩, ⟨World.ownsRow_nil _ _ _ _⟩, ⟨by simpa using H.out⟩, ⟨RpMv.refl _ _ _⟩, HW⟩
  case round =>
    obtain ⟨i, q, Ao, co, hil, hqi, rfl, rfl, hq, hown, hp, hm, hwr⟩ := hrel
    have cP : wr.cell? ⟨P, 1, none⟩ = some (.slice (some ⟨g, 0, none⟩) l.length cap) := (blk_cell hp.out.blk 1).trans rfl
    by_cases hlt : i < l.length
    · have p3 : decide ((i : Int) < (l.length : Int)) = true := decide_eq_true (by omega)
      have hlen : ((l.take i).map (rowF ws now every) ++ l.drop i).length = l.length := by simp; omega
      have hr0 := hp.out.hr
      rcases own2_form hr0 with ⟨ev, _⟩ | ⟨g2, cap2, cur2, ev, hg2, hh2, hnc2, hcm2, hsz2, htk2, hc2⟩
      · cases ev
      obtain ⟨e1, e3, e2⟩ := Value.slice.inj ev
      clear e3
      obtain rfl : g = g2 := by injection e1 with e1; injection e1
      subst e2
      obtain ⟨d0, d1⟩ := hc2 i (by rw [hlen]; exact hlt)
      rw [mid_get _ hlt] at d0 d1
      have hkey := key_ok HOK.out hlt
      have HH2 := Aside0.mk hh2
      clear hc2 htk2 hsz2 ev e1 hr0
      have hF := mid_get (rowF ws now every) hlt
      have hbs := hm.out.size
      have TO := Aside0.mk (fun (u : World) (hu : Below wr.heap.size wr u) => (show u.cell? ⟨P, 1, none⟩ = some (.slice (some ⟨g, 0, none⟩) l.length cap) ∧ u.cell? ⟨P, 0, none⟩ = some (.int .i64 every) ∧ u.cell? ⟨g, i * 2, none⟩ = some (.int .i64 (l.getD i (0, 0)).1) ∧ u.cell? ⟨g, i * 2 + 1, none⟩ = some (.int .i64 (l.getD i (0, 0)).2) ∧ u.heap[g]? = some (.cells cur2 66 (0, 0)) ∧ u.ownsRow W.heap.size 3 1 (.slice Ao q.length co) q.length (nums .i64 q) ∧ RpRaw w0 P (.slice (some ⟨g, 0, none⟩) l.length cap) ((l.take i).map (rowF ws now every) ++ l.drop i) every u ∧ RpMv P (.slice (some ⟨g, 0, none⟩) l.length cap) W u ∧ IntsAt w0.heap.size W.heap.size A ws u ∧ W.heap.size ≤ u.heap.size from
        ⟨(blk_cell (hp.out.below hu).blk 1).trans rfl, (blk_cell (hp.out.below hu).blk 0).trans rfl, pw_cell_below hu d0, pw_cell_below hu d1, (hu.block g (blk_lt hh2)).trans hh2, pw_own_below hown.out hu, hp.out.below hu, hm.out.below hu, hwr.out.below hbs hu, Nat.le_trans hbs hu.size⟩))
      clear hh2 d0 d1
      have hx := HOK.out
      clear hx hown hm
      go_wp2_with fail
      go_loopw [9, 10] (fun bb kk wi => ∃ (k : Nat) (b : Bool), k ≤ ws.length ∧ kk = .int .i64 (k : Int) ∧ bb = .bool b ∧ Aside0 (b = (ws.take k).contains (l.getD i (0, 0)).1) ∧ Aside0 (Below wr.heap.size wr wi)) (fun _ kk _ => ws.length - (intOf kk).toNat)
      case atStart => exact ⟨0, false, Nat.zero_le _, rfl, rfl, ⟨by simp⟩, ⟨Below.refl _ _⟩⟩
      case round =>
        obtain ⟨k, b, hk, rfl, rfl, hb, hB⟩ := hrel
        obtain ⟨u1, u2, u3, u4, u5, u6, u7, u8, u9, u10⟩ := TO.out _ hB.out
        by_cases hkl : k < ws.length
        · have p4 : decide ((k : Int) < (ws.length : Int)) = true := decide_eq_true (by omega)
          obtain ⟨bA, off, eA, cw⟩ := u9.cell hkl
          subst eA
          have HC := Aside0.mk (contains_more hkl (l.getD i (0, 0)).1)
          rw [← hb.out] at HC
          have HWB := Aside0.mk hB
          clear u5 u6 u7 u8 u9 u10 hb hF hkey
          generalize (l.getD i (0, 0)).1 = x at *
          generalize (l.getD i (0, 0)).2 = y at *
          generalize ws.getD k 0 = z at cw HC
          cases hz : (z == x) with
          | true =>
            rw [hz, Bool.or_true] at HC
            cases b with
            | true =>
              go_wp2_with fail
              go_quiet (fail)
              go_wp2_with fail
              exact ⟨⟨k + 1, true, by omega, by simp, rfl, ⟨HC.out.symm⟩, ⟨pw_below_drewN hB.out _⟩⟩, by simp [intOf]; omega⟩
            | false =>
              go_wp2_with fail
              go_quiet (fail)
              go_wp2_with fail
              exact ⟨⟨k + 1, true, by omega, by simp, rfl, ⟨HC.out.symm⟩, ⟨pw_below_drewN hB.out _⟩⟩, by simp [intOf]; omega⟩
          | false =>
            rw [hz, Bool.or_false] at HC
            cases b with
            | true =>
              go_wp2_with fail
              go_quiet (fail)
              go_wp2_with fail
              exact ⟨⟨k + 1, true, by omega, by simp, rfl, ⟨HC.out.symm⟩, ⟨pw_below_drewN hB.out _⟩⟩, by simp [intOf]; omega⟩
            | false =>
              go_wp2_with fail
              go_quiet (fail)
              go_wp2_with fail
              exact ⟨⟨k + 1, false, by omega, by simp, rfl, ⟨HC.out.symm⟩, ⟨pw_below_drewN hB.out _⟩⟩, by simp [intOf]; omega⟩
        · have p4 : decide ((k : Int) < (ws.length : Int)) = false := decide_eq_false (by omega)
          rw [List.take_of_length_le (by omega)] at hb
          have fz := blk_frozen u5 (i * 2 + 1)
          have HR := Aside0.mk u7
          have HM := Aside0.mk u8
          have HI := Aside0.mk u9
          have HO := Aside0.mk u6
          have HG := Aside0.mk u5
          clear u5 u6 u7 u8 u9 TO hk
          cases hct : ws.contains (l.getD i (0, 0)).1 with
          | false =>
            have hE : rowF ws now every (l.getD i (0, 0)) = ((l.getD i (0, 0)).1, 0) := by unfold rowF; rw [hct]; rfl
            have hD : rowD ws now (l.getD i (0, 0)) = false := by unfold rowD; rw [hct]; rfl
            have hbf : b = false := hb.out.trans hct
            subst hbf
            obtain ⟨r1, m1⟩ := rp_next HR.out hlen (by rw [hlen]; exact hlt) 0
            rw [hF, mid_set _ hlt hE] at r1
            have HR1 := Aside0.mk r1
            have HM1 := Aside0.mk (HM.out.trans m1)
            have HI1 := Aside0.mk (HI.out.rmv u10 HR.out m1)
            have HQ1 := Aside0.mk (hq.out.trans (round_no hlt hD).symm)
            have HO1 := Aside0.mk (own_setCell (p := ⟨g, i * 2 + 1, none⟩) HO.out (own_ne HO.out HG.out (by decide)) (.int .i64 0))
            clear r1 m1 hE hD hF hct hb
            generalize (l.getD i (0, 0)).1 = x at *
            generalize (l.getD i (0, 0)).2 = y at *
            go_wp2_with fail
            exact ⟨⟨i + 1, q, Ao, co, by omega, by omega, by simp, rfl, HQ1, HO1, HR1, HM1, HI1⟩, by simp [intOf]; omega⟩
          | true =>
            have hbt : b = true := hb.out.trans hct
            subst hbt
            by_cases hnx : now < (l.getD i (0, 0)).2
            · have hE : rowF ws now every (l.getD i (0, 0)) = l.getD i (0, 0) := by unfold rowF; rw [if_pos hct, if_pos hnx]
              have hD : rowD ws now (l.getD i (0, 0)) = false := by unfold rowD; rw [hct, decide_eq_false (by omega)]; rfl
              have p5 : decide ((l.getD i (0, 0)).2 ≤ now) = false := decide_eq_false (by omega)
              have r1 := HR.out
              rw [mid_same _ hlt hE] at r1
              have HR1 := Aside0.mk r1
              have HQ1 := Aside0.mk (hq.out.trans (round_no hlt hD).symm)
              clear r1 hE hD hF hct hnx hb
              generalize (l.getD i (0, 0)).1 = x at *
              generalize (l.getD i (0, 0)).2 = y at *
              go_wp2_with fail
              exact ⟨⟨i + 1, q, Ao, co, by omega, by omega, by simp, rfl, HQ1, HO, HR1, HM, HI⟩, by simp [intOf]; omega⟩
            · have hE : rowF ws now every (l.getD i (0, 0)) = ((l.getD i (0, 0)).1, now + every) := by unfold rowF; rw [if_pos hct, if_neg hnx]
              have hD : rowD ws now (l.getD i (0, 0)) = true := by unfold rowD; rw [hct, decide_eq_true (by omega)]; rfl
              have p5 : decide ((l.getD i (0, 0)).2 ≤ now) = true := decide_eq_true (by omega)
              obtain ⟨r1, m1⟩ := rp_next HR.out hlen (by rw [hlen]; exact hlt) (now + every)
              rw [hF, mid_set _ hlt hE] at r1
              have hbk : (wr.setCell ⟨g, i * 2 + 1, none⟩ (.int .i64 (now + every))).heap[g]? = some (.cells (cur2.set! (i * 2 + 1) (.int .i64 (now + every))) 66 (0, 0)) := blk_set HG.out _ _
              have hO0 := own_setCell (p := ⟨g, i * 2 + 1, none⟩) HO.out (own_ne HO.out HG.out (by decide)) (.int .i64 (now + every))
              have dk : (wr.setCell ⟨g, i * 2 + 1, none⟩ (.int .i64 (now + every))).cell? ⟨g, i * 2, none⟩ = some (.int .i64 (l.getD i (0, 0)).1) := by
                rw [World.cell?_setCell_other _ _ _ _ (by simp)]
                exact u3
              have hb1 : (wr.setCell ⟨g, i * 2 + 1, none⟩ (.int .i64 (now + every))).heap.size = wr.heap.size := by simp [World.setCell]
              have dP : (wr.setCell ⟨g, i * 2 + 1, none⟩ (.int .i64 (now + every))).cell? ⟨P, 1, none⟩ = some (.slice (some ⟨g, 0, none⟩) l.length cap) := (blk_cell r1.blk 1).trans rfl
              obtain ⟨U, hU⟩ : ∃ U, U = (wr.setCell ⟨g, i * 2 + 1, none⟩ (.int .i64 (now + every))).drew := ⟨_, rfl⟩
              have bU : Below (wr.setCell ⟨g, i * 2 + 1, none⟩ (.int .i64 (now + every))).heap.size (wr.setCell ⟨g, i * 2 + 1, none⟩ (.int .i64 (now + every))) U := by rw [hU]; exact (Below.refl _ _).drew
              have kk := pw_cell_below bU dk
              have kP := pw_cell_below bU dP
              have HR1 := Aside0.mk (r1.below bU)
              have HM1 := Aside0.mk ((HM.out.trans m1).below bU)
              have HI1 := Aside0.mk ((HI.out.rmv u10 HR.out m1).below (by rw [hb1]; exact u10) bU)
              have HO1 := Aside0.mk (pw_own_below hO0 bU)
              have HK1 := Aside0.mk ((bU.block g (blk_lt hbk)).trans hbk)
              have HQ1 := Aside0.mk (show q ++ [(l.getD i (0, 0)).1] = roundO ws now (l.take (i + 1)) by rw [round_yes hlt hD, hq.out])
              have hsU : W.heap.size ≤ U.heap.size := Nat.le_trans (by rw [hb1]; exact u10) bU.size
              have HU := Aside0.mk hU
              clear r1 m1 hbk hO0 dk dP bU hU
              clear hE hD hF hct hnx hb
              generalize (l.getD i (0, 0)).1 = x at *
              generalize (l.getD i (0, 0)).2 = y at *
              have bA : Below U.heap.size U (U.alloc (.cells #[.int .i64 x] 3)) := (Below.refl _ _).alloc (Nat.le_refl _) _
              have HO2 := Aside0.mk (pw_own_below HO1.out bA)
              have HBA := Aside0.mk bA
              have HN := Aside0.mk (World.news_of_block (cs := #[.int .i64 x]) (blk_new U (.cells #[.int .i64 x] 3)))
              have HSZ := Aside0.mk (show W.heap.size ≤ (U.alloc (.cells #[.int .i64 x] 3)).heap.size by rw [World.size_alloc]; omega)
              have FIN := Aside0.mk (fun (v' : Value) (w2 : World) (h1 : w2.ownsRow W.heap.size 3 1 v' (q.length + 1) (nums .i64 q ++ [.int .i64 x])) (gr : (U.alloc (.cells #[.int .i64 x] 3)).grownBy w2 (Value.slice Ao q.length co).ownBlock) => (by
                have h3 := HR1.out.below HBA.out
                have hbo := own_base HO2.out
                have own3 : w2.ownsRow W.heap.size 3 1 v' (q ++ [x]).length (nums .i64 (q ++ [x])) := by
                  unfold nums
                  rw [List.map_append, List.length_append]
                  exact h1
                have f1 : ∀ k, (Value.slice Ao q.length co).ownBlock = some k → (Value.slice (some ⟨g, 0, none⟩) l.length cap).ownBlock ≠ some k := fun k hk e => by
                  have hb := (HBA.out.block g (blk_lt HK1.out)).trans HK1.out
                  have hne := own_ne HO2.out hb (by decide)
                  exact hne (e.trans hk.symm)
                have p3 := rp_grown h3 gr (own_ne HO2.out h3.blk (by decide)) f1 (fun k hk => Nat.le_trans HB0.out (hbo k hk))
                refine ⟨own3, p3, ?_, ?_⟩
                · refine ⟨Nat.le_trans hsU (Nat.le_trans (by rw [World.size_alloc]; omega) gr.size), fun j hj q1 q2 => ?_⟩
                  have hj2 : j < U.heap.size := Nat.lt_of_lt_of_le hj hsU
                  refine (gr.block j (by rw [World.size_alloc]; omega) (fun e => by have := hbo j e.symm; omega)).trans ?_
                  exact (HBA.out.block j hj2).trans (HM1.out.keep j hj q1 q2)
                · exact (HI1.out.below hsU HBA.out).grown HSZ.out gr hbo : w2.ownsRow W.heap.size 3 1 v' (q ++ [x]).length (nums .i64 (q ++ [x])) ∧ RpRaw w0 P (.slice (some ⟨g, 0, none⟩) l.length cap) ((l.take (i + 1)).map (rowF ws now every) ++ l.drop (i + 1)) every w2 ∧ RpMv P (.slice (some ⟨g, 0, none⟩) l.length cap) W w2 ∧ IntsAt w0.heap.size W.heap.size A ws w2))
              clear bA hb1
              go_wp2_with fail
              go_region
              rw [← HU.out]
              go_wp2_with (at_builtin; refine wpList_append_own_at _ rfl _ _ 30 rfl W.heap.size 3 i0 (.int .i64 0) 1 8 Try.underlying30 hi hz0 hz1 hz2 rfl (by decide) _ _ _ rfl HO2.out ⟨U.heap.size, 0, none⟩ 1 1 [.int .i64 x] rfl rfl HN.out (by simp [Value.oneCell']) (by unfold maxLen; omega) (by omega) HSZ.out ?_; intro v' w2 hown2 hgrow _ hat; obtain ⟨g1, g2, g3, g4⟩ := FIN.out v' w2 hown2 hgrow; obtain ⟨A2, c2, ev⟩ := own_slice g1; subst ev; have G1 := Aside0.mk g1; have G2 := Aside0.mk g2; have G3 := Aside0.mk g3; have G4 := Aside0.mk g4; clear hown2 hgrow hat g1 g2 g3 g4)
              exact ⟨⟨i + 1, q ++ [x], A2, c2, by omega, by simp; omega, by simp, by simp, HQ1, G1, G2, G3, G4⟩, by simp [intOf]; omega⟩
    · have p3 : decide ((i : Int) < (l.length : Int)) = false := decide_eq_false (by omega)
      obtain rfl : i = l.length := by omega
      go_wp2_with fail
      go_ret
      have h1 := hown.out
      have h2 := hp.out
      rw [List.take_of_length_le (Nat.le_refl _)] at h2 hq
      rw [List.drop_eq_nil_of_le (Nat.le_refl _), List.append_nil] at h2
      rw [hq.out] at h1
      have e := hq.out
      subst e
      exact ⟨_, rfl, h1, h2, hm.out⟩
end
end Go.Proofs.Ytnajlpmpofljhaa.P
