import Derived.Test.YtnlckandbgpncaaShelf
import Derived.Test.YtnlckandbgpncaaSLpairs
import Derived.Test.YtnlckandbgpncaaSLrackFacts2
namespace Go.Proofs.Ytnlckandbgpncaa.P
open Go.RowKit Go.Proofs.YtnlckandbgpncaaW.PrintWords Go.Proofs.YtnlckandbgpncaaW.PrintLast Go.Proofs.YtnlckandbgpncaaW.PrintMore
set_option linter.unusedVariables false
set_option linter.unusedSimpArgs false
set_option linter.unnecessarySimpa false
attribute [local go_sem] max2_int min2_int max_two min_two max_three min_three max_four min_four
/-! ### the document's rack: a block, and a row of pairs -/
structure RfRaw (w0 : World) (M : Nat) (rv : Value) (l : List (Int × Int)) (size next step : Int) (W : World) : Prop where
  le : w0.heap.size ≤ M
  blk : W.heap[M]? = some (.cells #[.int .i64 size, .int .i64 next, .int .i64 step, rv] 55 (0, 0))
  hr : W.ownsRow w0.heap.size 68 2 rv l.length (prs l)
  hB : Below w0.heap.size w0 W
theorem ret_i {a b : Int} (h : a = b) : Ending.returned (.int .i64 a) = .returned (.int .i64 b) := by rw [h]
structure RfMv (M : Nat) (rv : Value) (W W' : World) : Prop where
  size : W.heap.size ≤ W'.heap.size
  keep : ∀ j, j < W.heap.size → j ≠ M → some j ≠ rv.ownBlock → W'.heap[j]? = W.heap[j]?
theorem RfMv.refl (M : Nat) (rv : Value) (W : World) : RfMv M rv W W := ⟨Nat.le_refl _, fun _ _ _ _ => rfl⟩
theorem RfMv.of_below {M : Nat} {rv : Value} {W W' : World} (h : Below W.heap.size W W') : RfMv M rv W W' := ⟨h.size, fun j hj _ _ => h.block j hj⟩
/-- Where an id stands; the length: nowhere. -/
def atN : List (Int × Int) → Int → Nat
  | [], _ => 0
  | p :: t, id => if p.1 = id then 0 else atN t id + 1
theorem atN_le : ∀ (l : List (Int × Int)) (id : Int), atN l id ≤ l.length
  | [], _ => Nat.le_refl _
  | p :: t, id => by
    unfold atN
    have := atN_le t id
    split <;> simp <;> omega
theorem atN_step : ∀ (l : List (Int × Int)) (id : Int) (k : Nat), k ≤ atN l id → k < l.length → ((l.getD k (0, 0)).1 = id → atN l id = k) ∧ ((l.getD k (0, 0)).1 ≠ id → k + 1 ≤ atN l id)
  | [], _, k, _, h => absurd h (Nat.not_lt_zero _)
  | p :: t, id, 0, _, _ => by
    unfold atN
    refine ⟨fun h => if_pos h, fun h => ?_⟩
    rw [if_neg (show ¬ p.1 = id from h)]
    omega
  | p :: t, id, k + 1, h1, h2 => by
    have hp : ¬ p.1 = id := fun e => by
      unfold atN at h1
      rw [if_pos e] at h1
      omega
    have e : atN (p :: t) id = atN t id + 1 := by
      conv => lhs; unfold atN
      rw [if_neg hp]
    rw [e] at h1 ⊢
    have ih := atN_step t id k (by omega) (by simpa using h2)
    rw [List.getD_cons_succ]
    exact ⟨fun h => by rw [ih.1 h], fun h => by have := ih.2 h; omega⟩
def atI (l : List (Int × Int)) (id : Int) : Int := if atN l id < l.length then (atN l id : Int) else -1
section
variable {w0 : World} {M : Nat} {rv : Value} {l : List (Int × Int)} {size next step : Int} {W : World}
theorem RfRaw.lt (h : RfRaw w0 M rv l size next step W) : M < W.heap.size := blk_lt h.blk
theorem RfRaw.ne (h : RfRaw w0 M rv l size next step W) : some M ≠ rv.ownBlock := own_ne h.hr h.blk (by decide)
theorem RfRaw.below {W' : World} (h : RfRaw w0 M rv l size next step W) (hb : Below W.heap.size W W') : RfRaw w0 M rv l size next step W' :=
  ⟨h.le, (hb.block M h.lt).trans h.blk, pw_own_below h.hr hb, h.hB.trans ⟨hb.os, hb.tape, hb.output, hb.size, fun j hj => hb.block j (Nat.lt_of_lt_of_le hj h.hB.size)⟩⟩
set_option maxHeartbeats 1000000 in
theorem rf_at (h : RfRaw w0 M rv l size next step W) (id : Int) (hl : l.length ≤ 1000) : Calls Try.prog 31 #[.pointer (some ⟨M, 0, none⟩), .int .i64 id] W fun e W' => e = .returned (.int .i64 (atI l id)) ∧ W' = W := by
  obtain ⟨A, c, ev⟩ := own2_slice h.hr
  subst ev
  have c3 := blk_cell h.blk 3
  simp at c3
  have HR := Aside0.mk h.hr
  have hle := Aside0.mk (atN_le l id)
  have hat := Aside0.mk (atN_step l id)
  obtain ⟨an, han⟩ : ∃ an, an = atN l id := ⟨_, rfl⟩
  have HAN := Aside0.mk han
  have hi : atI l id = if an < l.length then (an : Int) else -1 := by rw [han]; rfl
  generalize atI l id = res at hi
  have HI := Aside0.mk hi
  clear h han hi
  go_enter Try.func31, Try.ntmps31
  go_wp2_with fail
  go_loop [5] (fun i => ∃ k : Nat, k ≤ an ∧ i = .int .i64 (k : Int)) (fun i => l.length - (intOf i).toNat)
  case atStart => exact ⟨0, Nat.zero_le _, rfl⟩
  case round =>
    obtain ⟨k, hk, rfl⟩ := hrel
    have hal : an ≤ l.length := by rw [HAN.out]; exact hle.out
    by_cases hlt : k < l.length
    · have p1 : decide ((k : Int) < (l.length : Int)) = true := decide_eq_true (by omega)
      rcases own2_form HR.out with ⟨_, rfl⟩ | ⟨g, cap, cur, ev, hg, hh, hnc, hcm, hsz, htk, hc⟩
      · exact absurd hlt (Nat.not_lt_zero _)
      · obtain ⟨rfl, _, rfl⟩ := Value.slice.inj ev
        obtain ⟨d0, d1⟩ := hc k hlt
        have hs := hat.out k (by rw [← HAN.out]; exact hk) hlt
        rw [← HAN.out] at hs
        clear hc hh htk ev
        generalize (l.getD k (0, 0)).1 = x at d0 hs
        by_cases hx : x = id
        · have e := hs.1 hx
          have q : (x == id) = true := beq_iff_eq.mpr hx
          have HE := Aside0.mk e
          clear hs hx e
          go_wp2_with fail
          go_ret
          exact ⟨ret_i (by rw [HI.out, HE.out, if_pos hlt]), rfl⟩
        · have e := hs.2 hx
          have q : (x == id) = false := beq_eq_false_iff_ne.mpr hx
          clear hs hx
          go_wp2_with fail
          exact ⟨⟨k + 1, e, by simp⟩, by simp [intOf]; omega⟩
    · have p1 : decide ((k : Int) < (l.length : Int)) = false := decide_eq_false (by omega)
      go_wp2_with fail
      go_ret
      exact ⟨ret_i (by rw [HI.out, if_neg (by omega)]), rfl⟩
theorem rf_rows {W2 : World} {v' : Value} {l' : List (Int × Int)} (h : RfRaw w0 M rv l size next step W) (own : W2.ownsRow w0.heap.size 68 2 v' l'.length (prs l')) (gr : W.grownBy W2 rv.ownBlock) : RfRaw w0 M v' l' size next step (W2.setCell ⟨M, 3, none⟩ v') ∧ RfMv M rv W (W2.setCell ⟨M, 3, none⟩ v') := by
  have hb2 : W2.heap[M]? = _ := (gr.block M h.lt h.ne).trans h.blk
  have hkb := own_base h.hr
  have hB2 : Below w0.heap.size w0 W2 := pw_below_grown h.hB _ h.hB.size gr (fun k e => hkb k e)
  have ne' : some M ≠ v'.ownBlock := own_ne own hb2 (by decide)
  refine ⟨⟨h.le, ?_, own_setCell own ne' _, hB2.setCell h.le _⟩, ⟨?_, ?_⟩⟩
  · have := blk_set hb2 3 v'
    exact this
  · simpa [World.setCell] using gr.size
  · intro j hj h1 h2
    exact (Below.heap_setCell W2 ⟨M, 3, none⟩ v' j h1).trans (gr.block j hj h2)
theorem rf_next (h : RfRaw w0 M rv l size next step W) (x : Int) : RfRaw w0 M rv l size x step (W.setCell ⟨M, 1, none⟩ (.int .i64 x)) ∧ RfMv M rv W (W.setCell ⟨M, 1, none⟩ (.int .i64 x)) := by
  refine ⟨⟨h.le, ?_, own_setCell h.hr h.ne _, h.hB.setCell h.le _⟩, ⟨by simp [World.setCell], fun j hj h1 _ => Below.heap_setCell W ⟨M, 1, none⟩ (.int .i64 x) j h1⟩⟩
  have := blk_set h.blk 1 (.int .i64 x)
  simpa using this
theorem RfMv.below {W1 W2 : World} (h : RfMv M rv W W1) (hb : Below W1.heap.size W1 W2) : RfMv M rv W W2 :=
  ⟨Nat.le_trans h.size hb.size, fun j hj h1 h2 => (hb.block j (Nat.lt_of_lt_of_le hj h.size)).trans (h.keep j hj h1 h2)⟩
theorem RfMv.trans {W1 W2 : World} (a : RfMv M rv W W1) (b : RfMv M rv W1 W2) : RfMv M rv W W2 :=
  ⟨Nat.le_trans a.size b.size, fun j hj h1 h2 => (b.keep j (Nat.lt_of_lt_of_le hj a.size) h1 h2).trans (a.keep j hj h1 h2)⟩
theorem RfMv.after {W1 W2 : World} (hb : Below W.heap.size W W1) (h : RfMv M rv W1 W2) : RfMv M rv W W2 :=
  ⟨Nat.le_trans hb.size h.size, fun j hj h1 h2 => (h.keep j (Nat.lt_of_lt_of_le hj hb.size) h1 h2).trans (hb.block j hj)⟩
theorem infoRow03 : (Try.prog.info? 68).map (fun i => (i.zero, i.size, i.bytes)) = some (some (.agg #[.int .i64 0, .int .i64 0]), 2, 16) := by kernel_rfl
def hasR (l : List (Int × Int)) (id : Int) : Bool := decide (atN l id < l.length)
def getR (l : List (Int × Int)) (id : Int) : Int := if hasR l id = true then (l.getD (atN l id) (0, 0)).2 else 0
def erR (l : List (Int × Int)) (id : Int) : Int := if hasR l id = true then 0 else 30
theorem atI_yes {id : Int} (h : hasR l id = true) : atI l id = (atN l id : Int) ∧ atN l id < l.length := by
  unfold hasR at h
  have h := of_decide_eq_true h
  exact ⟨by unfold atI; rw [if_pos h], h⟩
theorem atI_no {id : Int} (h : hasR l id = false) : atI l id = -1 := by
  unfold hasR at h
  have h := of_decide_eq_false h
  unfold atI
  rw [if_neg h]
theorem rf_Get (h : RfRaw w0 M rv l size next step W) (id : Int) (hl : l.length ≤ 1000) : Calls Try.prog 22 #[.pointer (some ⟨M, 0, none⟩), .int .i64 id] W fun e W' => e = .returned (.tuple #[.int .i64 (getR l id), .int .i64 (erR l id)]) ∧ W' = W := by
  have AT := rf_at h id hl
  cases hh : hasR l id with
  | false =>
    have e1 : getR l id = 0 := by unfold getR; rw [hh]; rfl
    have e2 : erR l id = 30 := by unfold erR; rw [hh]; rfl
    rw [atI_no hh] at AT
    rw [e1, e2]
    clear hh e1 e2 h
    go_enter Try.func22, Try.ntmps22
    go_wp2_with (go_at_call 31; refine AT.mono ?_; rintro e w1 ⟨rfl, rfl⟩)
    go_ret2
    exact ⟨rfl, rfl⟩
  | true =>
    have e1 : getR l id = (l.getD (atN l id) (0, 0)).2 := by unfold getR; rw [hh]; rfl
    have e2 : erR l id = 0 := by unfold erR; rw [hh]; rfl
    obtain ⟨e3, hlt⟩ := atI_yes hh
    rw [e3] at AT
    rw [e1, e2]
    have c3 := blk_cell h.blk 3
    simp at c3
    rcases own2_form h.hr with ⟨_, rfl⟩ | ⟨g, cap, cur, rfl, hg, hh2, hnc, hcm, hsz, htk, hc⟩
    · exact absurd hlt (Nat.not_lt_zero _)
    obtain ⟨d0, d1⟩ := hc _ hlt
    clear hh e1 e2 e3 hc hh2 htk h
    generalize (l.getD (atN l id) (0, 0)).2 = x at d1 ⊢
    generalize (l.getD (atN l id) (0, 0)).1 = y at d0
    generalize atN l id = k at *
    have p1 : decide ((k : Int) < 0) = false := decide_eq_false (by omega)
    go_enter Try.func22, Try.ntmps22
    go_wp2_with (go_at_call 31; refine AT.mono ?_; rintro e w1 ⟨rfl, rfl⟩)
    go_ret2
    exact ⟨rfl, rfl⟩
def setR (l : List (Int × Int)) (id v : Int) : List (Int × Int) := if hasR l id = true then l.set (atN l id) ((l.getD (atN l id) (0, 0)).1, v) else l
theorem rf_Set (h : RfRaw w0 M rv l size next step W) (id v : Int) (hl : l.length ≤ 1000) : Calls Try.prog 20 #[.pointer (some ⟨M, 0, none⟩), .int .i64 id, .int .i64 v] W fun e W' => e = .returned (.int .i64 (erR l id)) ∧ ∃ rv', RfRaw w0 M rv' (setR l id v) size next step W' ∧ RfMv M rv W W' := by
  have AT := rf_at h id hl
  cases hh : hasR l id with
  | false =>
    have e1 : setR l id v = l := by unfold setR; rw [hh]; rfl
    have e2 : erR l id = 30 := by unfold erR; rw [hh]; rfl
    rw [atI_no hh] at AT
    rw [e1, e2]
    have H := Aside0.mk h
    clear hh e1 e2 h
    go_enter Try.func20, Try.ntmps20
    go_wp2_with (go_at_call 31; refine AT.mono ?_; rintro e w1 ⟨rfl, rfl⟩)
    go_ret
    exact ⟨rfl, rv, H.out, RfMv.refl _ _ _⟩
  | true =>
    have e1 : setR l id v = l.set (atN l id) ((l.getD (atN l id) (0, 0)).1, v) := by unfold setR; rw [hh]; rfl
    have e2 : erR l id = 0 := by unfold erR; rw [hh]; rfl
    obtain ⟨e3, hlt⟩ := atI_yes hh
    rw [e3] at AT
    rw [e1, e2]
    have c3 := blk_cell h.blk 3
    simp at c3
    have H := Aside0.mk h
    rcases own2_form h.hr with ⟨_, rfl⟩ | ⟨g, cap, cur, rfl, hg, hh2, hnc, hcm, hsz, htk, hc⟩
    · exact absurd hlt (Nat.not_lt_zero _)
    obtain ⟨d0, d1⟩ := hc _ hlt
    have fz := blk_frozen hh2 (atN l id * 2 + 1)
    have HH2 := Aside0.mk hh2
    have hS := own2_set h.hr _ hlt v
    have HS := Aside0.mk hS
    clear hh e1 e2 e3 hc htk h hS hh2
    generalize l.set (atN l id) ((l.getD (atN l id) (0, 0)).1, v) = l2 at HS ⊢
    generalize (l.getD (atN l id) (0, 0)).2 = x at d1 ⊢
    generalize (l.getD (atN l id) (0, 0)).1 = y at d0
    generalize atN l id = k at *
    have p1 : decide ((k : Int) < 0) = false := decide_eq_false (by omega)
    go_enter Try.func20, Try.ntmps20
    go_wp2_with (go_at_call 31; refine AT.mono ?_; rintro e w1 ⟨rfl, rfl⟩)
    go_ret
    refine ⟨rfl, .slice (some ⟨g, 0, none⟩) l.length cap, ⟨H.out.le, blk_far H.out.blk (blk_ne H.out.blk HH2.out (by decide)) _, HS.out, H.out.hB.setCell hg _⟩, ⟨by simp [World.setCell], fun j hj h1 h2 => Below.heap_setCell _ _ _ j (fun e => h2 ?_)⟩⟩
    rw [e]
    rfl
def erHR (l : List (Int × Int)) (size id : Int) : Int := if id < 1 ∨ 1099511627775 < id ∨ hasR l id = true then 2 else if (l.length : Int) = size then 4 else 0
end
section
variable {w0 : World} {M : Nat} {rv : Value} {l : List (Int × Int)} {size next step : Int} {W : World}
/-- What is known behind an append of one more. -/
def AppRf (w0 : World) (M : Nat) (rv : Value) (l : List (Int × Int)) (size next step : Int) (W X : World) (b : Nat) (id v : Int) : Prop :=
  X.ownsRow w0.heap.size 68 2 rv l.length (prs l) ∧ w0.heap.size ≤ X.heap.size ∧
  (∀ j u, [Value.int .i64 id, Value.int .i64 v][j]? = some u → X.cell? ((⟨b, 0, none⟩ : Addr).add j) = some u) ∧
  ∀ (v' : Value) (w2 : World), w2.ownsRow w0.heap.size 68 2 v' (l.length + 1) (prs l ++ [.int .i64 id, .int .i64 v]) → X.grownBy w2 rv.ownBlock →
    (∃ A' c', v' = .slice A' (l.length + 1) c') ∧ (w2.cell? ⟨M, 0, none⟩ = some (.int .i64 size) ∧ w2.cell? ⟨M, 1, none⟩ = some (.int .i64 next) ∧ w2.cell? ⟨M, 2, none⟩ = some (.int .i64 step) ∧ w2.cell? ⟨M, 3, none⟩ = some rv ∧ w2.frozen? ⟨M, 3, none⟩ = false ∧ w2.frozen? ⟨M, 1, none⟩ = false) ∧
    RfRaw w0 M v' (l ++ [(id, v)]) size next step (w2.setCell ⟨M, 3, none⟩ v') ∧ RfMv M rv W (w2.setCell ⟨M, 3, none⟩ v')
theorem app_rf {X : World} {b : Nat} {id v : Int} (h : RfRaw w0 M rv l size next step W) (hb : Below W.heap.size W X) (hx : X.heap[b]? = some (.cells #[.int .i64 id, .int .i64 v] 68 (0, 0))) : AppRf w0 M rv l size next step W X b id v := by
  have h2 := h.below hb
  refine ⟨h2.hr, h2.hB.size, World.news_of_block (cs := #[.int .i64 id, .int .i64 v]) hx, fun v' w2 own gr => ?_⟩
  have own2 : w2.ownsRow w0.heap.size 68 2 v' (l ++ [(id, v)]).length (prs (l ++ [(id, v)])) := by
    rw [prs_append, List.length_append]
    exact own
  obtain ⟨r1, r2⟩ := rf_rows h2 own2 gr
  have b2 := blk_grown h2.blk gr h2.ne
  refine ⟨?_, ⟨(blk_cell b2 0).trans rfl, (blk_cell b2 1).trans rfl, (blk_cell b2 2).trans rfl, (blk_cell b2 3).trans rfl, blk_frozen b2 _, blk_frozen b2 _⟩, r1, RfMv.after hb r2⟩
  obtain ⟨A', c', e⟩ := own2_slice own2
  rw [List.length_append] at e
  exact ⟨A', c', e⟩
theorem app_rf_d (h : RfRaw w0 M rv l size next step W) (id v : Int) : AppRf w0 M rv l size next step W ((W.alloc (.cells #[.int .i64 id, .int .i64 v] 68)).drew) W.heap.size id v :=
  app_rf h ((Below.refl _ W).alloc (Nat.le_refl _) _).drew (blk_drew (blk_new W _))
theorem app_rf_n (h : RfRaw w0 M rv l size next step W) (id v : Int) : AppRf w0 M rv l size next step W (W.alloc (.cells #[.int .i64 id, .int .i64 v] 68)) W.heap.size id v :=
  app_rf h ((Below.refl _ W).alloc (Nat.le_refl _) _) (blk_new W _)
theorem hold_cases {l : List (Int × Int)} {size id : Int} : (id < 1 ∧ erHR l size id = 2) ∨ (1 ≤ id ∧ 1099511627775 < id ∧ erHR l size id = 2) ∨ (1 ≤ id ∧ id ≤ 1099511627775 ∧ hasR l id = true ∧ erHR l size id = 2) ∨ (1 ≤ id ∧ id ≤ 1099511627775 ∧ hasR l id = false ∧ (l.length : Int) = size ∧ erHR l size id = 4) ∨ (1 ≤ id ∧ id ≤ 1099511627775 ∧ hasR l id = false ∧ (l.length : Int) ≠ size ∧ erHR l size id = 0) := by
  unfold erHR
  by_cases h1 : id < 1
  · exact .inl ⟨h1, if_pos (.inl h1)⟩
  by_cases h2 : 1099511627775 < id
  · exact .inr (.inl ⟨by omega, h2, if_pos (.inr (.inl h2))⟩)
  cases h3 : hasR l id with
  | true => exact .inr (.inr (.inl ⟨by omega, by omega, rfl, if_pos (.inr (.inr rfl))⟩))
  | false =>
    have hn : ¬ (id < 1 ∨ 1099511627775 < id ∨ false = true) := by
      rintro (h | h | h)
      · exact h1 h
      · exact h2 h
      · cases h
    by_cases h4 : (l.length : Int) = size
    · exact .inr (.inr (.inr (.inl ⟨by omega, by omega, rfl, h4, by rw [if_neg hn, if_pos h4]⟩)))
    · exact .inr (.inr (.inr (.inr ⟨by omega, by omega, rfl, h4, by rw [if_neg hn, if_neg h4]⟩)))
set_option maxHeartbeats 2000000 in
theorem rf_Hold (h : RfRaw w0 M rv l size next step W) (id v : Int) (hl : l.length ≤ 1000) : Calls Try.prog 19 #[.pointer (some ⟨M, 0, none⟩), .int .i64 id, .int .i64 v] W fun e W' => e = .returned (.int .i64 (erHR l size id)) ∧ ∃ rv', RfRaw w0 M rv' (if erHR l size id = 0 then l ++ [(id, v)] else l) size next step W' ∧ RfMv M rv W W' := by
  have AT := rf_at h id hl
  have H := Aside0.mk h
  have c0 := blk_cell h.blk 0
  have c3 := blk_cell h.blk 3
  simp at c0 c3
  rcases hold_cases (l := l) (size := size) (id := id) with ⟨g1, e⟩ | ⟨g1, g2, e⟩ | ⟨g1, g2, g3, e⟩ | ⟨g1, g2, g3, g4, e⟩ | ⟨g1, g2, g3, g4, e⟩
  · rw [e, if_neg (by decide)]
    have p1 : decide (id < 1) = true := decide_eq_true g1
    clear e g1 h
    go_enter Try.func19, Try.ntmps19
    go_wp2_with fail
    go_ret
    exact ⟨rfl, rv, H.out, RfMv.refl _ _ _⟩
  · rw [e, if_neg (by decide)]
    have p1 : decide (id < 1) = false := decide_eq_false (by omega)
    have p2 : decide (1099511627775 < id) = true := decide_eq_true g2
    clear e g1 g2 h
    go_enter Try.func19, Try.ntmps19
    go_wp2_with fail
    go_ret
    exact ⟨rfl, rv, H.out, RfMv.refl _ _ _⟩
  · rw [e, if_neg (by decide)]
    rw [(atI_yes g3).1] at AT
    have p1 : decide (id < 1) = false := decide_eq_false (by omega)
    have p2 : decide (1099511627775 < id) = false := decide_eq_false (by omega)
    generalize atN l id = k at AT
    have p3 : decide ((0 : Int) ≤ (k : Int)) = true := decide_eq_true (by omega)
    clear e g1 g2 g3 h
    go_enter Try.func19, Try.ntmps19
    go_wp2_with (go_at_call 31; refine AT.mono ?_; rintro e w1 ⟨rfl, rfl⟩)
    go_ret
    exact ⟨rfl, rv, H.out, RfMv.refl _ _ _⟩
  · rw [e, if_neg (by decide)]
    rw [atI_no g3] at AT
    have p1 : decide (id < 1) = false := decide_eq_false (by omega)
    have p2 : decide (1099511627775 < id) = false := decide_eq_false (by omega)
    have p3 : ((l.length : Int) == size) = true := beq_iff_eq.mpr g4
    obtain ⟨A, c, ev⟩ := own2_slice h.hr
    subst ev
    clear e g1 g2 g3 g4 h
    go_enter Try.func19, Try.ntmps19
    go_wp2_with (go_at_call 31; refine AT.mono ?_; rintro e w1 ⟨rfl, rfl⟩)
    go_region
    go_wp2_with fail
    go_ret
    exact ⟨rfl, _, H.out.below (Below.refl _ _).drew, RfMv.of_below (Below.refl _ _).drew⟩
  · rw [e, if_pos rfl]
    rw [atI_no g3] at AT
    have p1 : decide (id < 1) = false := decide_eq_false (by omega)
    have p2 : decide (1099511627775 < id) = false := decide_eq_false (by omega)
    have p3 : ((l.length : Int) == size) = false := beq_eq_false_iff_ne.mpr g4
    obtain ⟨A, c, ev⟩ := own2_slice h.hr
    subst ev
    obtain ⟨i0, hi, hz0, hz1, hz2⟩ := info_parts infoRow03
    have HA := Aside0.mk (app_rf_d h id v)
    clear e g1 g2 g3 g4 h
    go_enter Try.func19, Try.ntmps19
    go_wp2_with (go_at_call 31; refine AT.mono ?_; rintro e w1 ⟨rfl, hw⟩; obtain rfl := hw.symm)
    go_region
    go_wp2_with (at_builtin; refine wpList_append_own_at _ rfl _ _ 53 rfl w0.heap.size 68 i0 (.agg #[.int .i64 0, .int .i64 0]) 2 16 Try.underlying53 hi hz0 hz1 hz2 rfl (by decide) _ _ _ rfl HA.out.1 ⟨W.heap.size, 0, none⟩ 1 1 [.int .i64 id, .int .i64 v] rfl rfl HA.out.2.2.1 (by simp [Value.oneCell']) (by unfold maxLen; omega) (by omega) HA.out.2.1 ?_; intro v' w2 hown hgrow _ hat; obtain ⟨⟨A2, c2, ev⟩, ⟨e0, e1, e2, e3, e4, e5⟩, r1, r2⟩ := HA.out.2.2.2 v' w2 hown hgrow; subst ev; have RR := Aside0.mk (And.intro r1 r2); clear hown hgrow hat r1 r2)
    go_ret
    exact ⟨rfl, _, RR.out.1, RR.out.2⟩
end
section
variable {w0 : World} {M : Nat} {rv : Value} {l : List (Int × Int)} {size next step : Int} {W : World}
def gvL (l : List (Int × Int)) (v : Int) : Option Int → List (Int × Int)
  | none => l
  | some k => l ++ [(k, v)]
def nextManyF (M : Nat) (W : World) : Nat := (1099511627776 - intOf ((W.cell? ⟨M, 1, none⟩).getD (.int .i64 0))).toNat
theorem RfRaw.many (h : RfRaw w0 M rv l size next step W) : nextManyF M W = (1099511627776 - next).toNat := by
  have c : W.cell? ⟨M, 1, none⟩ = some (.int .i64 next) := (blk_cell h.blk 1).trans rfl
  unfold nextManyF
  rw [c]
  rfl
set_option maxHeartbeats 4000000 in
theorem rf_Give {ks : List Int} (h : RfRaw w0 M rv l size next step W) (hst : 1 ≤ step) (hst2 : step ≤ 1000) (hn : 1 ≤ next) (hn2 : next ≤ 1099511629000) (v : Int) (hl : l.length ≤ 1000) (hll : l.length = ks.length) (hsz : (ks.length : Int) ≤ size) (hsim : ∀ x, hasR l x = ks.contains x) :
    Calls Try.prog 18 #[.pointer (some ⟨M, 0, none⟩), .int .i64 v] W fun e W' => e = .returned (.tuple #[.int .i64 ((gvId ks size next step).getD 0), .int .i64 (gvE (gvId ks size next step))]) ∧ ∃ rv', RfRaw w0 M rv' (gvL l v (gvId ks size next step)) size (gvNx ks size next step) step W' ∧ RfMv M rv W W' := by
  have H := Aside0.mk h
  have c0 := blk_cell h.blk 0
  have c3 := blk_cell h.blk 3
  simp at c0 c3
  obtain ⟨A, c, ev⟩ := own2_slice h.hr
  subst ev
  by_cases hf : size ≤ (ks.length : Int)
  · have e1 : gvId ks size next step = none := by unfold gvId; rw [if_pos hf]
    have e2 : gvNx ks size next step = next := by unfold gvNx; rw [if_pos hf]
    have p3 : ((l.length : Int) == size) = true := beq_iff_eq.mpr (by omega)
    rw [e1, e2]
    clear e1 e2 hf hll hsim h
    go_enter Try.func18, Try.ntmps18
    go_wp2_with fail
    go_region
    go_wp2_with fail
    go_ret2
    exact ⟨rfl, _, H.out.below (Below.refl _ _).drew, RfMv.of_below (Below.refl _ _).drew⟩
  have e1 : gvId ks size next step = giveAt ks step (1099511627776 - next).toNat next := by unfold gvId; rw [if_neg hf]
  have e2 : gvNx ks size next step = giveNx ks step (1099511627776 - next).toNat next := by unfold gvNx; rw [if_neg hf]
  have p3 : ((l.length : Int) == size) = false := beq_eq_false_iff_ne.mpr (by omega)
  rw [e1, e2]
  generalize hO : giveAt ks step (1099511627776 - next).toNat next = o
  generalize hX : giveNx ks step (1099511627776 - next).toNat next = x
  have AO := Aside0.mk (And.intro hO hX)
  have HS := Aside0.mk hsim
  have HLL := Aside0.mk hll
  clear e1 e2 hf hO hX hll hsim h
  obtain ⟨i0, hi, hz0, hz1, hz2⟩ := info_parts infoRow03
  go_enter Try.func18, Try.ntmps18
  go_wp2_with fail
  go_region
  go_wp2_with fail
  have h1 := H.out.below (Below.refl _ _).drew
  go_loopw [17] (fun _ wr => ∃ nx : Int, RfRaw w0 M (.slice A l.length c) l size nx step wr ∧ RfMv M (.slice A l.length c) W wr ∧ 1 ≤ nx ∧ nx ≤ 1099511629000 ∧ Aside0 (giveAt ks step (1099511627776 - nx).toNat nx = o ∧ giveNx ks step (1099511627776 - nx).toNat nx = x)) (fun _ wr => nextManyF M wr)
  case atStart => exact ⟨next, h1, RfMv.of_below (Below.refl _ _).drew, hn, hn2, AO⟩
  case round =>
    obtain ⟨nx, hr, hm, ha, hb, hao⟩ := hrel
    have c1 := (blk_cell hr.blk 1).trans rfl
    have c2 := (blk_cell hr.blk 2).trans rfl
    have fz := blk_frozen hr.blk 1
    simp at c1 c2
    have HR := Aside0.mk hr
    have HM := Aside0.mk hm
    by_cases hx : 1099511627775 < nx
    · have k4 : decide (nx ≤ 1099511627775) = false := decide_eq_false (by omega)
      have k5 : decide (1099511627775 < nx) = true := decide_eq_true hx
      obtain ⟨eo, ex⟩ := hao.out
      rw [show (1099511627776 - nx).toNat = 0 by omega] at eo ex
      obtain rfl : none = o := eo
      obtain rfl : nx = x := ex
      clear hr hm h1
      go_wp2_with fail
      go_ret2
      exact ⟨rfl, _, HR.out, HM.out⟩
    · have k4 : decide (nx ≤ 1099511627775) = true := decide_eq_true (by omega)
      have k5 : decide (1099511627775 < nx) = false := decide_eq_false hx
      have w4 : wrap64 (nx + step) = nx + step := by unfold wrap64; omega
      obtain ⟨gr1, gr2⟩ := give_round hx hst hao.out
      have AT := rf_at hr nx hl
      by_cases hc : ks.contains nx = true
      · have AO2 := Aside0.mk (gr1 hc)
        rw [(atI_yes ((HS.out nx).trans hc)).1] at AT
        obtain ⟨hr2, hm2⟩ := rf_next hr (nx + step)
        have HR2 := Aside0.mk (And.intro hr2 hm2)
        clear gr1 gr2 hr hm h1 hc hr2 hm2
        generalize atN l nx = k at AT
        have p4 : decide ((0 : Int) ≤ (k : Int)) = true := decide_eq_true (by omega)
        go_wp2_with (go_at_call 31; refine AT.mono ?_; rintro e w1 ⟨rfl, hw⟩; obtain rfl := hw.symm)
        go_region
        go_wp2_with fail
        have hr3 := HR2.out.1.below (Below.refl _ _).drew
        refine ⟨⟨nx + step, hr3, (HM.out.trans HR2.out.2).below (Below.refl _ _).drew, by omega, by omega, AO2⟩, ?_⟩
        rw [hr3.many, HR.out.many]
        omega
      · have hc2 : ks.contains nx = false := by simpa using hc
        obtain ⟨eo, ex⟩ := gr2 hc2
        subst eo ex
        rw [atI_no ((HS.out nx).trans hc2)] at AT
        have HA := Aside0.mk (app_rf_n hr nx v)
        have c3r : wr.cell? ⟨M, 3, none⟩ = some (.slice A l.length c) := (blk_cell hr.blk 3).trans rfl
        clear gr1 gr2 hc hc2 hr hm h1
        go_wp2_with (first | (go_at_call 31; refine AT.mono ?_; rintro e w1 ⟨rfl, hw⟩; obtain rfl := hw.symm) | (at_builtin; refine wpList_append_own_at _ rfl _ _ 53 rfl w0.heap.size 68 i0 (.agg #[.int .i64 0, .int .i64 0]) 2 16 Try.underlying53 hi hz0 hz1 hz2 rfl (by decide) _ _ _ rfl HA.out.1 ⟨wr.heap.size, 0, none⟩ 1 1 [.int .i64 nx, .int .i64 v] rfl rfl HA.out.2.2.1 (by simp [Value.oneCell']) (by unfold maxLen; omega) (by omega) HA.out.2.1 ?_; intro v' w2 hown hgrow _ hat; obtain ⟨⟨A2, c2, ev⟩, ⟨e0, e1, e2, e3, e4, e5⟩, r1, r2⟩ := HA.out.2.2.2 v' w2 hown hgrow; subst ev; have RR := Aside0.mk (And.intro r1 r2); clear hown hgrow hat r1 r2))
        go_region
        go_wp2_with fail
        go_ret2
        obtain ⟨r3, m3⟩ := rf_next RR.out.1 (nx + step)
        refine ⟨rfl, _, r3.below (Below.refl _ _).drew, RfMv.below ⟨Nat.le_trans HM.out.size (Nat.le_trans RR.out.2.size m3.size), fun j hj q1 q2 => ?_⟩ (Below.refl _ _).drew⟩
        have q3 : j < wr.heap.size := Nat.lt_of_lt_of_le hj HM.out.size
        have q4 := RR.out.2.keep j q3 q1 q2
        exact (Below.heap_setCell _ ⟨M, 1, none⟩ _ j q1).trans (q4.trans (HM.out.keep j hj q1 q2))
end
section
variable {w0 : World} {M : Nat} {rv : Value} {l : List (Int × Int)} {size next step : Int} {W : World}
theorem erase_same {l : List (Int × Int)} {k : Nat} (hk : k < l.length) : (l.take (k + 1)).eraseIdx k = (l.take k).eraseIdx k := by
  rw [List.take_succ_eq_append_getElem hk, List.eraseIdx_append_of_length_le (by rw [List.length_take]; omega), List.eraseIdx_of_length_le (l := l.take k) (by rw [List.length_take]; omega), List.length_take, show k - min k l.length = 0 by omega]
  simp
theorem erase_more {l : List (Int × Int)} {k i : Nat} (hi : i < l.length) (hk : i ≠ k) : (l.take (i + 1)).eraseIdx k = (l.take i).eraseIdx k ++ [((l.getD i (0, 0)).1, (l.getD i (0, 0)).2)] := by
  have e : l.getD i (0, 0) = l[i] := by rw [List.getD_eq_getElem?_getD, List.getElem?_eq_getElem hi]; rfl
  rw [e, List.take_succ_eq_append_getElem hi]
  have l1 : (l.take i).length = i := by rw [List.length_take]; omega
  by_cases h : i < k
  · rw [List.eraseIdx_append_of_length_le (by omega), List.eraseIdx_of_length_le (l := l.take i) (by omega), l1, List.eraseIdx_of_length_le (l := [l[i]]) (by simp; omega)]
  · rw [List.eraseIdx_append_of_lt_length (by omega)]
theorem own_up {W : World} {b b' n : Nat} {e : TypeId} {s : Nat} {v : Value} {xs : List Value} (h : W.ownsRow b e s v n xs) (hb : b' ≤ b) : W.ownsRow b' e s v n xs := by
  obtain ⟨h1, h2⟩ := h
  refine ⟨h1, h2.imp id ?_⟩
  rintro ⟨g, cap, cur, e, hg, r⟩
  exact ⟨g, cap, cur, e, Nat.le_trans hb hg, r⟩
def delR (l : List (Int × Int)) (id : Int) : List (Int × Int) := if hasR l id = true then l.eraseIdx (atN l id) else l
set_option maxHeartbeats 4000000 in
theorem rf_Drop (h : RfRaw w0 M rv l size next step W) (id : Int) (hl : l.length ≤ 1000) : Calls Try.prog 21 #[.pointer (some ⟨M, 0, none⟩), .int .i64 id] W fun e W' => e = .returned (.int .i64 (erR l id)) ∧ ∃ rv', RfRaw w0 M rv' (delR l id) size next step W' ∧ RfMv M rv W W' := by
  have AT := rf_at h id hl
  cases hh : hasR l id with
  | false =>
    have e1 : delR l id = l := by unfold delR; rw [hh]; rfl
    have e2 : erR l id = 30 := by unfold erR; rw [hh]; rfl
    rw [atI_no hh] at AT
    rw [e1, e2]
    have H := Aside0.mk h
    clear hh e1 e2 h
    go_enter Try.func21, Try.ntmps21
    go_wp2_with (go_at_call 31; refine AT.mono ?_; rintro e w1 ⟨rfl, rfl⟩)
    go_ret
    exact ⟨rfl, rv, H.out, RfMv.refl _ _ _⟩
  | true =>
    have e1 : delR l id = l.eraseIdx (atN l id) := by unfold delR; rw [hh]; rfl
    have e2 : erR l id = 0 := by unfold erR; rw [hh]; rfl
    obtain ⟨e3, hlt⟩ := atI_yes hh
    rw [e3] at AT
    rw [e1, e2]
    have H := Aside0.mk h
    clear hh e1 e2 e3 h
    generalize atN l id = k at *
    have p1 : decide ((k : Int) < 0) = false := decide_eq_false (by omega)
    rcases own2_form H.out.hr with ⟨_, rfl⟩ | ⟨g, cap, cur, rfl, hg, hh2, hnc, hcm, hsz, htk, hc⟩
    · exact absurd hlt (Nat.not_lt_zero _)
    have HC := Aside0.mk hc
    have HW0 := Aside0.mk H.out.hB.size
    obtain ⟨i0, hi, hz0, hz1, hz2⟩ := info_parts infoRow03
    clear hh2 hc htk
    go_enter Try.func21, Try.ntmps21
    go_wp2_with (go_at_call 31; refine AT.mono ?_; rintro e w1 ⟨rfl, hw⟩; obtain rfl := hw.symm)
    go_loopw [6, 7] (fun v i wr => ∃ (j : Nat) (q : List (Int × Int)) (A : Option Addr) (c : Nat), j ≤ l.length ∧ i = .int .i64 (j : Int) ∧ v = .slice A q.length c ∧ Aside0 (q = (l.take j).eraseIdx k) ∧ q.length ≤ j ∧ wr.ownsRow W.heap.size 68 2 (.slice A q.length c) q.length (prs q) ∧ Below W.heap.size W wr) (fun _ i _ => l.length - (intOf i).toNat)
    case atStart => exact ⟨0, [], none, 0, Nat.zero_le _, rfl, rfl, ⟨by simp⟩, Nat.le_refl _, World.ownsRow_nil _ _ _ _, Below.refl _ _⟩
    case round =>
      obtain ⟨j, q, A, c, hj, rfl, rfl, hq, hql, hown, hB⟩ := hrel
      have hr := H.out.below hB
      have c3 : wr.cell? ⟨M, 3, none⟩ = some (.slice (some ⟨g, 0, none⟩) l.length cap) := (blk_cell hr.blk 3).trans rfl
      by_cases hjl : j < l.length
      · have p2 : decide ((j : Int) < (l.length : Int)) = true := decide_eq_true (by omega)
        by_cases hjk : j = k
        · have p3 : ((j : Int) != (k : Int)) = false := by rw [hjk]; simp
          have HQ := Aside0.mk (show q = (l.take (j + 1)).eraseIdx k by rw [hq.out, hjk]; exact (erase_same hlt).symm)
          have HO := Aside0.mk hown
          clear hjk hr hown
          go_wp2_with fail
          exact ⟨⟨j + 1, q, A, c, by omega, by simp, rfl, HQ, by omega, HO.out, hB⟩, by simp [intOf]; omega⟩
        · have p3 : ((j : Int) != (k : Int)) = true := by rw [bne_iff_ne]; omega
          obtain ⟨d0, d1⟩ := HC.out j hjl
          have d0' := pw_cell_below hB d0
          have d1' := pw_cell_below hB d1
          have hm := erase_more hjl hjk
          have HQ := Aside0.mk (show q ++ [((l.getD j (0, 0)).1, (l.getD j (0, 0)).2)] = (l.take (j + 1)).eraseIdx k by rw [hm, hq.out])
          clear d0 d1 hm hjk hr
          generalize (l.getD j (0, 0)).1 = x at d0' HQ
          generalize (l.getD j (0, 0)).2 = y at d1' HQ
          have bA : Below wr.heap.size wr (wr.alloc (.cells #[.int .i64 x, .int .i64 y] 68)) := (Below.refl _ wr).alloc (Nat.le_refl _) _
          have HO := Aside0.mk (pw_own_below hown bA)
          have HN := Aside0.mk (World.news_of_block (cs := #[.int .i64 x, .int .i64 y]) (blk_new wr (.cells #[.int .i64 x, .int .i64 y] 68)))
          have HB := Aside0.mk (hB.trans ⟨bA.os, bA.tape, bA.output, bA.size, fun j hj => bA.block j (Nat.lt_of_lt_of_le hj hB.size)⟩)
          have hbs := hB.size
          clear hown bA hB
          go_wp2_with (at_builtin; refine wpList_append_own_at _ rfl _ _ 53 rfl W.heap.size 68 i0 (.agg #[.int .i64 0, .int .i64 0]) 2 16 Try.underlying53 hi hz0 hz1 hz2 rfl (by decide) _ _ _ rfl HO.out ⟨wr.heap.size, 0, none⟩ 1 1 [.int .i64 x, .int .i64 y] rfl rfl HN.out (by simp [Value.oneCell']) (by unfold maxLen; omega) (by omega) HB.out.size ?_; intro v' w2 hown2 hgrow _ hat)
          have own3 : w2.ownsRow W.heap.size 68 2 v' (q ++ [(x, y)]).length (prs (q ++ [(x, y)])) := by
            rw [prs_append, List.length_append]
            exact hown2
          have hkb := own_base HO.out
          have hB2 : Below W.heap.size W w2 := pw_below_grown HB.out _ HB.out.size hgrow (fun k e => hkb k e)
          obtain ⟨A2, c2, ev⟩ := own2_slice own3
          subst ev
          exact ⟨⟨j + 1, q ++ [(x, y)], A2, c2, by omega, by simp, rfl, HQ, by simp; omega, own3, hB2⟩, by simp [intOf]; omega⟩
      · have p2 : decide ((j : Int) < (l.length : Int)) = false := decide_eq_false (by omega)
        have HQ := Aside0.mk (show q = l.eraseIdx k by rw [hq.out, List.take_of_length_le (by omega)])
        have fz := blk_frozen hr.blk 3
        have HR := Aside0.mk hr
        have HO := Aside0.mk hown
        have HB := Aside0.mk hB
        clear hr hown hB
        go_wp2_with fail
        go_ret
        refine ⟨rfl, .slice A q.length c, ?_, ?_⟩
        · have hr := HR.out
          rw [← HQ.out]
          have hne : some M ≠ (Value.slice A q.length c).ownBlock := own_ne HO.out hr.blk (by decide)
          refine ⟨hr.le, ?_, own_setCell (own_up HO.out HW0.out) hne _, hr.hB.setCell hr.le _⟩
          have := blk_set hr.blk 3 (.slice A q.length c)
          exact this
        · exact ⟨by simpa [World.setCell] using HB.out.size, fun j hj h1 _ => (Below.heap_setCell wr ⟨M, 3, none⟩ _ j h1).trans (HB.out.block j hj)⟩
end
section
variable {w0 : World} {M : Nat} {rv : Value} {l : List (Int × Int)} {size next step : Int} {W : World}
theorem rf_New (size first step : Int) (W : World) (h : NewOk size first step) : Calls Try.prog 17 #[.int .i64 size, .int .i64 first, .int .i64 step] W fun e W' => e = .returned (.tuple #[.pointer (some ⟨W.heap.size, 0, none⟩), .int .i64 0]) ∧ W' = W.alloc (.cells #[.int .i64 size, .int .i64 first, .int .i64 step, .slice none 0 0] 55) := by
  have HN := Aside0.mk h
  clear h
  go_enter Try.func17, Try.ntmps17
  go_wp2_with fail
  all_goals first | (go_ret2; exact ⟨rfl, rfl⟩) | (exfalso; have h := HN.out; unfold NewOk at h; omega)
theorem rf_NewNo (size first step : Int) (W : World) (h : ¬ NewOk size first step) : Calls Try.prog 17 #[.int .i64 size, .int .i64 first, .int .i64 step] W fun e W' => e = .returned (.tuple #[.pointer none, .int .i64 2]) ∧ W' = W := by
  have HN := Aside0.mk h
  clear h
  go_enter Try.func17, Try.ntmps17
  go_wp2_with fail
  all_goals first | (go_ret2; exact ⟨rfl, rfl⟩) | (exfalso; have h := HN.out; unfold NewOk at h; omega)
/-- What is known of the least so far. -/
def LeastOk (l : List (Int × Int)) (last : Int) (i : Nat) (least : Int) : Prop :=
  (least = 0 ∧ ∀ j, j < i → (l.getD j (0, 0)).1 ≤ last) ∨ (∃ j, j < i ∧ (l.getD j (0, 0)).1 = least ∧ last < least ∧ ∀ j, j < i → (l.getD j (0, 0)).1 ≤ last ∨ least ≤ (l.getD j (0, 0)).1)
theorem LeastOk.small {last least : Int} {i : Nat} (h : LeastOk l last i least) (hx : (l.getD i (0, 0)).1 ≤ last) : LeastOk l last (i + 1) least := by
  rcases h with ⟨h1, h2⟩ | ⟨j, h1, h2, h3, h4⟩
  · refine .inl ⟨h1, fun j hj => ?_⟩
    rcases Nat.lt_or_ge j i with h | h
    · exact h2 j h
    · obtain rfl : j = i := by omega
      exact hx
  · refine .inr ⟨j, by omega, h2, h3, fun j2 hj => ?_⟩
    rcases Nat.lt_or_ge j2 i with h | h
    · exact h4 j2 h
    · obtain rfl : j2 = i := by omega
      exact .inl hx
theorem LeastOk.keep {last least : Int} {i : Nat} (h : LeastOk l last i least) (h0 : least ≠ 0) (hx : least ≤ (l.getD i (0, 0)).1) : LeastOk l last (i + 1) least := by
  rcases h with ⟨h1, h2⟩ | ⟨j, h1, h2, h3, h4⟩
  · exact absurd h1 h0
  · refine .inr ⟨j, by omega, h2, h3, fun j2 hj => ?_⟩
    rcases Nat.lt_or_ge j2 i with h | h
    · exact h4 j2 h
    · obtain rfl : j2 = i := by omega
      exact .inr hx
theorem LeastOk.new {last least : Int} {i : Nat} (h : LeastOk l last i least) (h0 : 0 ≤ last) (hl : last < (l.getD i (0, 0)).1) (hx : least = 0 ∨ (l.getD i (0, 0)).1 ≤ least) : LeastOk l last (i + 1) (l.getD i (0, 0)).1 := by
  refine .inr ⟨i, by omega, rfl, hl, fun j hj => ?_⟩
  rcases Nat.lt_or_ge j i with hji | hji
  · rcases h with ⟨h1, h2⟩ | ⟨j1, h1, h2, h3, h4⟩
    · exact .inl (h2 j hji)
    · rcases h4 j hji with h | h
      · exact .inl h
      · refine .inr ?_
        rcases hx with hx | hx
        · subst hx
          omega
        · omega
  · obtain rfl : j = i := by omega
    exact .inr (Int.le_refl _)
theorem atN_get : ∀ (l : List (Int × Int)) (id : Int), atN l id < l.length → (l.getD (atN l id) (0, 0)).1 = id
  | [], _, h => absurd h (Nat.not_lt_zero _)
  | p :: t, id, h => by
    by_cases hp : p.1 = id
    · have e : atN (p :: t) id = 0 := by unfold atN; rw [if_pos hp]
      rw [e]
      exact hp
    · have e : atN (p :: t) id = atN t id + 1 := by
        conv => lhs; unfold atN
        rw [if_neg hp]
      rw [e] at h ⊢
      rw [List.getD_cons_succ]
      exact atN_get t id (by simpa using h)
theorem atN_has : ∀ (l : List (Int × Int)) (j : Nat), j < l.length → atN l (l.getD j (0, 0)).1 ≤ j
  | [], _, h => absurd h (Nat.not_lt_zero _)
  | p :: t, 0, h => by
    unfold atN
    rw [if_pos (show p.1 = ((p :: t).getD 0 (0, 0)).1 from rfl)]
    exact Nat.le_refl _
  | p :: t, j + 1, h => by
    rw [List.getD_cons_succ]
    have ih := atN_has t j (by simpa using h)
    unfold atN
    split <;> omega
theorem least_is {ks : List Int} {last least : Int} {n : Nat} (hs : ks.Pairwise (· < ·)) (hsim : ∀ x, hasR l x = ks.contains x) (hn : n < ks.length) (h1 : ∀ x ∈ ks.take n, x ≤ last) (h2 : ∀ x ∈ ks.drop n, last < x) (h : LeastOk l last l.length least) : least = ks.getD n 0 := by
  have e : ks.getD n 0 = ks[n] := by rw [List.getD_eq_getElem?_getD, List.getElem?_eq_getElem hn]; rfl
  have hd : ks.drop n = ks[n] :: ks.drop (n + 1) := List.drop_eq_getElem_cons hn
  have hm : ∀ j, j < l.length → (l.getD j (0, 0)).1 ∈ ks := fun j hj => by
    rw [← contains_iff, ← hsim]
    unfold hasR
    exact decide_eq_true (Nat.lt_of_le_of_lt (atN_has l j hj) hj)
  have hk : ∃ j, j < l.length ∧ (l.getD j (0, 0)).1 = ks[n] := by
    have := (hsim ks[n]).trans (contains_iff.2 (List.getElem_mem hn))
    unfold hasR at this
    exact ⟨_, of_decide_eq_true this, atN_get _ _ (of_decide_eq_true this)⟩
  have hgt : last < ks[n] := h2 _ (by rw [hd]; exact List.mem_cons_self)
  obtain ⟨j0, hj0, hj1⟩ := hk
  rw [e]
  rcases h with ⟨_, h4⟩ | ⟨j, h3, h4, h5, h6⟩
  · have := h4 j0 hj0
    omega
  · have hle : least ≤ ks[n] := by
      rcases h6 j0 hj0 with h | h
      · omega
      · rw [← hj1]; exact h
    have hin : least ∈ ks.drop n := by
      have hmem := hm j h3
      rw [h4] at hmem
      rw [← List.take_append_drop n ks] at hmem
      rcases List.mem_append.1 hmem with h | h
      · have := h1 _ h
        omega
      · exact h
    rw [hd] at hin
    rcases List.mem_cons.1 hin with h | h
    · exact h
    · have hp : (ks.drop n).Pairwise (· < ·) := hs.sublist (List.drop_sublist _ _)
      rw [hd] at hp
      have := (List.pairwise_cons.1 hp).1 _ h
      omega
theorem next_is {ks q : List Int} {last least : Int} {n : Nat} (hs : ks.Pairwise (· < ·)) (hn : n < ks.length) (hq : q = ks.take n) (h : least = ks.getD n 0) (h0 : 0 ≤ last) (h2 : ∀ x ∈ ks.drop n, last < x) :
    q ++ [least] = ks.take (n + 1) ∧ 0 ≤ least ∧ (∀ x ∈ ks.take (n + 1), x ≤ least) ∧ (∀ x ∈ ks.drop (n + 1), least < x) := by
  have e : ks.getD n 0 = ks[n] := by rw [List.getD_eq_getElem?_getD, List.getElem?_eq_getElem hn]; rfl
  have hd : ks.drop n = ks[n] :: ks.drop (n + 1) := List.drop_eq_getElem_cons hn
  have hgt : last < ks[n] := h2 _ (by rw [hd]; exact List.mem_cons_self)
  have ht : ks.take (n + 1) = ks.take n ++ [ks[n]] := List.take_succ_eq_append_getElem hn
  rw [h, e, hq, ht]
  have hp : (ks.drop n).Pairwise (· < ·) := hs.sublist (List.drop_sublist _ _)
  rw [hd] at hp
  have hs2 := hs
  rw [← List.take_append_drop n ks, List.pairwise_append] at hs2
  refine ⟨rfl, by omega, fun x hx => ?_, (List.pairwise_cons.1 hp).1⟩
  rcases List.mem_append.1 hx with h | h
  · have := hs2.2.2 x h ks[n] (by rw [hd]; exact List.mem_cons_self)
    omega
  · rw [List.mem_singleton.1 h]
    exact Int.le_refl _
theorem infoInt03 : (Try.prog.info? 3).map (fun i => (i.zero, i.size, i.bytes)) = some (some (.int .i64 0), 1, 8) := by kernel_rfl
set_option maxHeartbeats 4000000 in
theorem rf_IDs {ks : List Int} (h : RfRaw w0 M rv l size next step W) (hl : l.length ≤ 1000) (hlen : l.length = ks.length) (hs : ks.Pairwise (· < ·)) (hsim : ∀ x, hasR l x = ks.contains x) (hpos : ∀ x ∈ ks, 1 ≤ x) :
    Calls Try.prog 24 #[.pointer (some ⟨M, 0, none⟩)] W fun e W' => ∃ v, e = .returned v ∧ W'.ownsRow W.heap.size 3 1 v ks.length (nums .i64 ks) ∧ Below W.heap.size W W' := by
  have H := Aside0.mk h
  have HF := Aside0.mk (And.intro hlen (And.intro hs (And.intro hsim hpos)))
  have hln : l.length = ks.length := hlen
  rcases own2_form h.hr with ⟨rfl, rfl⟩ | ⟨g, cap, cur, rfl, hg, hh2, hnc, hcm, hsz, htk, hc⟩
  · have hk0 : ks = [] := List.eq_nil_of_length_eq_zero (by simpa using hlen.symm)
    subst hk0
    have c3 : W.cell? ⟨M, 3, none⟩ = some (.slice none 0 0) := (blk_cell h.blk 3).trans rfl
    clear h hlen hs hsim hpos hln
    go_enter Try.func24, Try.ntmps24
    go_wp2_with fail
    go_loopw [3, 4, 5] (fun a b c wr => a = .slice none 0 0 ∧ c = .int .i64 0 ∧ wr = W) (fun _ _ _ _ => 0)
    case atStart => exact ⟨rfl, rfl, rfl⟩
    case round =>
      obtain ⟨rfl, rfl, rfl⟩ := hrel
      go_wp2_with fail
      go_ret
      exact ⟨_, rfl, World.ownsRow_nil _ _ _ _, Below.refl _ _⟩
  have HC := Aside0.mk hc
  obtain ⟨i0, hi, hz0, hz1, hz2⟩ := info_parts infoInt03
  have hks : ks.length ≤ 1000 := by omega
  clear h hh2 hc htk hs hsim hpos
  go_enter Try.func24, Try.ntmps24
  go_wp2_with fail
  go_loopw [3, 4, 5] (fun v la i wr => ∃ (n : Nat) (last : Int) (q : List Int) (A : Option Addr) (c : Nat), n ≤ ks.length ∧ q.length ≤ 1000 ∧ i = .int .i64 (n : Int) ∧ la = .int .i64 last ∧ v = .slice A q.length c ∧ Aside0 (q = ks.take n ∧ 0 ≤ last ∧ (∀ x ∈ ks.take n, x ≤ last) ∧ (∀ x ∈ ks.drop n, last < x)) ∧ wr.ownsRow W.heap.size 3 1 (.slice A q.length c) q.length (nums .i64 q) ∧ Below W.heap.size W wr) (fun _ _ i _ => ks.length - (intOf i).toNat)
  case atStart => exact ⟨0, 0, [], none, 0, Nat.zero_le _, by simp, rfl, rfl, rfl, ⟨by simp, Int.le_refl _, (fun x hx => by simp at hx), fun x hx => by have := HF.out.2.2.2 x (by simpa using hx); omega⟩, World.ownsRow_nil _ _ _ _, Below.refl _ _⟩
  case round =>
    obtain ⟨n, last, q, A, c, hn, hq1, rfl, rfl, rfl, hq, hown, hB⟩ := hrel
    have hr := H.out.below hB
    have c3 : wr.cell? ⟨M, 3, none⟩ = some (.slice (some ⟨g, 0, none⟩) l.length cap) := (blk_cell hr.blk 3).trans rfl
    have HO := Aside0.mk hown
    have HB := Aside0.mk hB
    clear hr hown hB
    by_cases hnl : n < ks.length
    · have p2 : decide ((n : Int) < (l.length : Int)) = true := decide_eq_true (by omega)
      clear hln
      go_wp2_with fail
      go_loopw [6, 7] (fun v i wr2 => ∃ (k : Nat) (least : Int), k ≤ l.length ∧ i = .int .i64 (k : Int) ∧ v = .int .i64 least ∧ Aside0 (LeastOk l last k least) ∧ wr2 = wr) (fun _ i _ => l.length - (intOf i).toNat)
      case atStart => exact ⟨0, 0, Nat.zero_le _, rfl, rfl, ⟨.inl ⟨rfl, fun j hj => absurd hj (Nat.not_lt_zero _)⟩⟩, rfl⟩
      case round =>
        obtain ⟨k, least, hk, rfl, rfl, hlo, hw⟩ := hrel
        subst hw
        by_cases hkl : k < l.length
        · have p3 : decide ((k : Int) < (l.length : Int)) = true := decide_eq_true (by omega)
          obtain ⟨d0, d1⟩ := HC.out k hkl
          have d0' := pw_cell_below HB.out d0
          have L1 := Aside0.mk (fun h => hlo.out.small (last := last) h)
          have L2 := Aside0.mk (fun h h' => hlo.out.keep (last := last) h h')
          have L3 := Aside0.mk (fun h h' => hlo.out.new hq.out.2.1 h h')
          clear d0 d1
          generalize (l.getD k (0, 0)).1 = x at d0' L1 L2 L3
          by_cases hx : x ≤ last
          · have p4 : decide (last < x) = false := decide_eq_false (by omega)
            have LL := Aside0.mk (L1.out hx)
            go_wp2_with fail
            exact ⟨⟨k + 1, least, by omega, by simp, rfl, LL, trivial⟩, by simp [intOf]; omega⟩
          · have p4 : decide (last < x) = true := decide_eq_true (by omega)
            by_cases h0 : least = 0
            · have p5 : (least == 0) = true := beq_iff_eq.mpr h0
              have LL := Aside0.mk (L3.out (by omega) (.inl h0))
              clear h0
              go_wp2_with fail
              exact ⟨⟨k + 1, x, by omega, by simp, rfl, LL, trivial⟩, by simp [intOf]; omega⟩
            · have p5 : (least == 0) = false := beq_eq_false_iff_ne.mpr h0
              by_cases h1 : x < least
              · have p6 : decide (x < least) = true := decide_eq_true h1
                have LL := Aside0.mk (L3.out (by omega) (.inr (by omega)))
                clear h0
                go_wp2_with fail
                exact ⟨⟨k + 1, x, by omega, by simp, rfl, LL, trivial⟩, by simp [intOf]; omega⟩
              · have p6 : decide (x < least) = false := decide_eq_false h1
                have LL := Aside0.mk (L2.out h0 (by omega))
                clear h0
                go_wp2_with fail
                exact ⟨⟨k + 1, least, by omega, by simp, rfl, LL, trivial⟩, by simp [intOf]; omega⟩
        · have p3 : decide ((k : Int) < (l.length : Int)) = false := decide_eq_false (by omega)
          obtain rfl : k = l.length := by omega
          have hle := least_is HF.out.2.1 HF.out.2.2.1 hnl hq.out.2.2.1 hq.out.2.2.2 hlo.out
          have hq2 := next_is HF.out.2.1 hnl hq.out.1 hle hq.out.2.1 hq.out.2.2.2
          have HQ := Aside0.mk hq2
          have bA : Below wr.heap.size wr (wr.alloc (.cells #[.int .i64 least] 3)) := (Below.refl _ wr).alloc (Nat.le_refl _) _
          have HO2 := Aside0.mk (pw_own_below HO.out bA)
          have HN := Aside0.mk (World.news_of_block (cs := #[.int .i64 least]) (blk_new wr (.cells #[.int .i64 least] 3)))
          have HB2 := Aside0.mk (HB.out.trans ⟨bA.os, bA.tape, bA.output, bA.size, fun j hj => bA.block j (Nat.lt_of_lt_of_le hj HB.out.size)⟩)
          have hqn : q.length ≤ n := by rw [hq.out.1, List.length_take]; omega
          clear hle hq2 bA
          go_wp2_with (at_builtin; refine wpList_append_own_at _ rfl _ _ 32 rfl W.heap.size 3 i0 (.int .i64 0) 1 8 Try.underlying32 hi hz0 hz1 hz2 rfl (by decide) _ _ _ rfl HO2.out ⟨wr.heap.size, 0, none⟩ 1 1 [.int .i64 least] rfl rfl HN.out (by simp [Value.oneCell']) (by unfold maxLen; omega) (by omega) HB2.out.size ?_; intro v' w2 hown2 hgrow _ hat)
          have own3 : w2.ownsRow W.heap.size 3 1 v' (q ++ [least]).length (nums .i64 (q ++ [least])) := by
            unfold nums
            rw [List.map_append, List.length_append]
            exact hown2
          have hkb := own_base HO2.out
          have hB3 : Below W.heap.size W w2 := pw_below_grown HB2.out _ HB2.out.size hgrow (fun k e => hkb k e)
          obtain ⟨A2, c2, ev⟩ := own_slice own3
          subst ev
          exact ⟨⟨n + 1, least, q ++ [least], A2, c2, by omega, by simp; omega, by simp, rfl, rfl, HQ, own3, hB3⟩, by simp [intOf]; omega⟩
    · have p2 : decide ((n : Int) < (l.length : Int)) = false := decide_eq_false (by omega)
      have hqk : q = ks := by rw [hq.out.1, List.take_of_length_le (by omega)]
      have HQ := Aside0.mk hqk
      clear hqk hln
      go_wp2_with fail
      go_ret
      have h2 := HO.out
      rw [← HQ.out]
      exact ⟨_, rfl, h2, HB.out⟩
end
end Go.Proofs.Ytnlckandbgpncaa.P
