import Derived.Test.YtnajlpmpofljhaaShelf
import Derived.Test.YtnajlpmpofljhaaSLpairs
import Derived.Test.YtnajlpmpofljhaaSLsortedK
import Derived.Test.YtnajlpmpofljhaaSLinsPairs
namespace Go.Proofs.Ytnajlpmpofljhaa.P
open Go.RowKit Go.Proofs.YtnajlpmpofljhaaW.PrintWords Go.Proofs.YtnajlpmpofljhaaW.PrintLast Go.Proofs.YtnajlpmpofljhaaW.PrintMore
set_option linter.unusedVariables false
set_option linter.unusedSimpArgs false
set_option linter.unnecessarySimpa false
attribute [local go_sem] max2_int min2_int max_two min_two max_three min_three max_four min_four
/-! ### probe.Plan -/
structure PnRaw (w0 : World) (P : Nat) (rv : Value) (l : List (Int × Int)) (every : Int) (W : World) : Prop where
  le : w0.heap.size ≤ P
  blk : W.heap[P]? = some (.cells #[.int .i64 every, rv] 36 (0, 0))
  hr : W.ownsRow w0.heap.size 55 2 rv l.length (prs l)
  hB : Below w0.heap.size w0 W
structure PnMv (P : Nat) (rv : Value) (W W' : World) : Prop where
  size : W.heap.size ≤ W'.heap.size
  keep : ∀ j, j < W.heap.size → j ≠ P → some j ≠ rv.ownBlock → W'.heap[j]? = W.heap[j]?
theorem PnMv.refl (P : Nat) (rv : Value) (W : World) : PnMv P rv W W := ⟨Nat.le_refl _, fun _ _ _ _ => rfl⟩
theorem PnMv.of_below {P : Nat} {rv : Value} {W W' : World} (h : Below W.heap.size W W') : PnMv P rv W W' := ⟨h.size, fun j hj _ _ => h.block j hj⟩
theorem PnMv.below {P : Nat} {rv : Value} {W W1 W2 : World} (h : PnMv P rv W W1) (hb : Below W1.heap.size W1 W2) : PnMv P rv W W2 :=
  ⟨Nat.le_trans h.size hb.size, fun j hj h1 h2 => (hb.block j (Nat.lt_of_lt_of_le hj h.size)).trans (h.keep j hj h1 h2)⟩
theorem PnMv.after {P : Nat} {rv : Value} {W W1 W2 : World} (hb : Below W.heap.size W W1) (h : PnMv P rv W1 W2) : PnMv P rv W W2 :=
  ⟨Nat.le_trans hb.size h.size, fun j hj h1 h2 => (h.keep j (Nat.lt_of_lt_of_le hj hb.size) h1 h2).trans (hb.block j hj)⟩
theorem below2 {w a b : World} (h : Below w.heap.size w a) (hb : Below a.heap.size a b) : Below w.heap.size w b :=
  h.trans ⟨hb.os, hb.tape, hb.output, hb.size, fun j hj => hb.block j (Nat.lt_of_lt_of_le hj h.size)⟩
/-- The keys rise, and are such as may be; so are the ticks. -/
structure PnOk (l : List (Int × Int)) : Prop where
  sorted : (l.map Prod.fst).Pairwise (· < ·)
  keys : ∀ x ∈ l.map Prod.fst, 1 ≤ x ∧ x ≤ 1099511627775
  most : l.length ≤ 64
section
variable {w0 : World} {P : Nat} {rv : Value} {l : List (Int × Int)} {every : Int} {W : World}
theorem PnRaw.lt (h : PnRaw w0 P rv l every W) : P < W.heap.size := blk_lt h.blk
theorem PnRaw.ne (h : PnRaw w0 P rv l every W) : some P ≠ rv.ownBlock := own_ne h.hr h.blk (by decide)
theorem PnRaw.below {W' : World} (h : PnRaw w0 P rv l every W) (hb : Below W.heap.size W W') : PnRaw w0 P rv l every W' :=
  ⟨h.le, (hb.block P h.lt).trans h.blk, pw_own_below h.hr hb, h.hB.trans ⟨hb.os, hb.tape, hb.output, hb.size, fun j hj => hb.block j (Nat.lt_of_lt_of_le hj h.hB.size)⟩⟩
theorem pz_none (h : PnRaw w0 P rv l every W) (he : every ≠ 0) : Calls Try.prog 24 #[.pointer (some ⟨P, 0, none⟩)] W fun e W' => e = .returned (.bool false) ∧ W' = W := by
  have c0 := blk_cell h.blk 0
  simp at c0
  have k : (every == 0) = false := beq_eq_false_iff_ne.mpr he
  clear he
  go_enter Try.func24, Try.ntmps24
  go_wp2_with fail
  go_ret
  exact ⟨rfl, rfl⟩
/-- What the search compares. -/
theorem pz_cmp (a b k : Int) (W : World) (ha : 1 ≤ a ∧ a ≤ 1099511627775) (hk : 1 ≤ k ∧ k ≤ 1099511627775) : Calls Try.prog 32 #[.agg #[.int .i64 a, .int .i64 b], .int .i64 k] W fun e W' => e = .returned (.int .i64 (a - k)) ∧ Below W.heap.size W W' := by
  have hw : wrap64 (a - k) = a - k := by unfold wrap64; omega
  obtain ⟨ha1, ha2⟩ := ha
  obtain ⟨hk1, hk2⟩ := hk
  go_enter Try.func32, Try.ntmps32
  go_wp2_with fail
  go_ret
  exact ⟨rfl, (Below.refl _ _).alloc (Nat.le_refl _) _⟩
theorem fst_getD {l : List (Int × Int)} {h : Nat} (hh : h < l.length) : (l.map Prod.fst).getD h 0 = (l.getD h (0, 0)).1 := by
  rw [List.getD_eq_getElem?_getD, List.getD_eq_getElem?_getD, List.getElem?_map, List.getElem?_eq_getElem hh]
  rfl
theorem key_ok (ok : PnOk l) {h : Nat} (hh : h < l.length) : 1 ≤ (l.getD h (0, 0)).1 ∧ (l.getD h (0, 0)).1 ≤ 1099511627775 := by
  refine ok.keys _ ?_
  rw [← fst_getD hh, List.getD_eq_getElem?_getD, List.getElem?_eq_getElem (by simpa using hh)]
  exact List.getElem_mem _
set_option maxHeartbeats 4000000 in
theorem pz_search (hr : W.ownsRow w0.heap.size 55 2 rv l.length (prs l)) (ok : PnOk l) (k : Int) (hk : 1 ≤ k ∧ k ≤ 1099511627775) : Calls Try.prog 31 #[rv, .int .i64 k, .func (.func 32) #[] #[]] W fun e W' => e = .returned (.tuple #[.int .i64 (posK (l.map Prod.fst) k : Int), .bool ((l.map Prod.fst).contains k)]) ∧ Below W.heap.size W W' := by
  obtain ⟨A, c, ev⟩ := own2_slice hr
  subst ev
  have hle : posK (l.map Prod.fst) k ≤ l.length := by have := posK_le (l.map Prod.fst) k; simpa using this
  have hiff := Aside0.mk (fun (h : Nat) (hh : h < l.length) => (by have := posK_lt_iff (k := k) ok.sorted (h := h) (by simpa using hh); rwa [fst_getD hh] at this : (l.getD h (0, 0)).1 < k ↔ h < posK (l.map Prod.fst) k))
  have heq := Aside0.mk (fun (hp : posK (l.map Prod.fst) k < l.length) => (by have := posK_eq_iff (k := k) ok.sorted (by simpa using hp); rwa [fst_getD hp] at this : (l.getD (posK (l.map Prod.fst) k) (0, 0)).1 = k ↔ (l.map Prod.fst).contains k = true))
  have hno := Aside0.mk (fun (hp : ¬ posK (l.map Prod.fst) k < l.length) => (show (l.map Prod.fst).contains k = false by
    cases hc : (l.map Prod.fst).contains k with
    | false => rfl
    | true => exact absurd (by have := posK_lt hc; simpa using this) hp))
  have HC := Aside0.mk hr
  have HK := Aside0.mk hk
  have HOK := Aside0.mk ok
  have hml := ok.most
  generalize (l.map Prod.fst).contains k = b at *
  generalize posK (l.map Prod.fst) k = p at *
  clear hr hk ok
  go_enter Try.func31, Try.ntmps31
  go_wp2_with fail
  go_loopw [9, 10] (fun vi vj wr => ∃ i j : Nat, i ≤ p ∧ p ≤ j ∧ j ≤ l.length ∧ vi = .int .i64 (i : Int) ∧ vj = .int .i64 (j : Int) ∧ Aside0 (Below W.heap.size W wr)) (fun vi vj _ => (intOf vj).toNat - (intOf vi).toNat)
  case atStart => exact ⟨0, l.length, Nat.zero_le _, hle, Nat.le_refl _, rfl, rfl, ⟨Below.refl _ _⟩⟩
  case round =>
    obtain ⟨i, j, hi, hj, hjl, rfl, rfl, hB⟩ := hrel
    by_cases hij : i < j
    · have p1 : decide ((i : Int) < (j : Int)) = true := decide_eq_true (by omega)
      obtain ⟨h, hh⟩ : ∃ h : Nat, h = (i + j) / 2 := ⟨_, rfl⟩
      have hhl : h < l.length := by omega
      have e1 : ((i : Int) + (j : Int)) / 2 = (h : Int) := by omega
      have hih : i ≤ h := by omega
      have hhj : h < j := by omega
      rcases own2_form HC.out with ⟨_, rfl⟩ | ⟨g, cap, cur, ev, hg, hhe, hnc, hcm, hsz, htk, hc⟩
      · exact absurd hhl (Nat.not_lt_zero _)
      obtain ⟨rfl, _, rfl⟩ := Value.slice.inj ev
      obtain ⟨d0, d1⟩ := hc h hhl
      have d0' := pw_cell_below hB.out d0
      have d1' := pw_cell_below hB.out d1
      have hif := hiff.out h hhl
      have CM := pz_cmp (l.getD h (0, 0)).1 (l.getD h (0, 0)).2 k wr (key_ok HOK.out hhl) HK.out
      clear hh d0 d1 hc hhe htk ev
      generalize (l.getD h (0, 0)).1 = x at *
      generalize (l.getD h (0, 0)).2 = y at *
      by_cases hx : x < k
      · have q1 : decide (x - k < 0) = true := decide_eq_true (by omega)
        have hhp := hif.1 hx
        clear hif
        go_wp2_with (go_at_call 32; (with_reducible refine CM.mono ?_); rintro e w2 ⟨rfl, hb2⟩)
        exact ⟨⟨h + 1, j, by omega, hj, hjl, by simp, rfl, ⟨below2 hB.out hb2⟩⟩, by simp [intOf]; omega⟩
      · have q1 : decide (x - k < 0) = false := decide_eq_false (by omega)
        have hhp : ¬ h < p := fun e => hx (hif.2 e)
        clear hif
        go_wp2_with (go_at_call 32; (with_reducible refine CM.mono ?_); rintro e w2 ⟨rfl, hb2⟩)
        exact ⟨⟨i, h, hi, by omega, by omega, rfl, rfl, ⟨below2 hB.out hb2⟩⟩, by simp [intOf]; omega⟩
    · have p1 : decide ((i : Int) < (j : Int)) = false := decide_eq_false (by omega)
      obtain rfl : i = p := by omega
      by_cases hpl : i < l.length
      · have p2 : decide ((i : Int) < (l.length : Int)) = true := decide_eq_true (by omega)
        rcases own2_form HC.out with ⟨_, rfl⟩ | ⟨g, cap, cur, ev, hg, hhe, hnc, hcm, hsz, htk, hc⟩
        · exact absurd hpl (Nat.not_lt_zero _)
        obtain ⟨rfl, _, rfl⟩ := Value.slice.inj ev
        obtain ⟨d0, d1⟩ := hc i hpl
        have d0' := pw_cell_below hB.out d0
        have d1' := pw_cell_below hB.out d1
        have hif := heq.out hpl
        have CM := pz_cmp (l.getD i (0, 0)).1 (l.getD i (0, 0)).2 k wr (key_ok HOK.out hpl) HK.out
        clear d0 d1 hc hhe htk ev
        generalize (l.getD i (0, 0)).1 = x at *
        generalize (l.getD i (0, 0)).2 = y at *
        by_cases hx : x = k
        · have q1 : (x - k == 0) = true := beq_iff_eq.mpr (by omega)
          obtain rfl := hif.1 hx
          clear hif hx
          go_wp2_with (go_at_call 32; (with_reducible refine CM.mono ?_); rintro e w2 ⟨rfl, hb2⟩)
          go_ret2
          exact ⟨rfl, below2 hB.out hb2⟩
        · have q1 : (x - k == 0) = false := beq_eq_false_iff_ne.mpr (by omega)
          have hbf : b = false := by
            cases b with
            | false => rfl
            | true => exact absurd (hif.2 rfl) hx
          subst hbf
          clear hif hx
          go_wp2_with (go_at_call 32; (with_reducible refine CM.mono ?_); rintro e w2 ⟨rfl, hb2⟩)
          go_ret2
          exact ⟨rfl, below2 hB.out hb2⟩
      · have p2 : decide ((i : Int) < (l.length : Int)) = false := decide_eq_false (by omega)
        obtain rfl := hno.out hpl
        go_wp2_with fail
        go_ret2
        exact ⟨rfl, hB.out⟩
end
section
variable {w0 : World} {P : Nat} {rv : Value} {l : List (Int × Int)} {every : Int} {W : World}
theorem pz_at (h : PnRaw w0 P rv l every W) (ok : PnOk l) (k : Int) (hk : 1 ≤ k ∧ k ≤ 1099511627775) : Calls Try.prog 25 #[.pointer (some ⟨P, 0, none⟩), .int .i64 k] W fun e W' => e = .returned (.tuple #[.int .i64 (posK (l.map Prod.fst) k : Int), .bool ((l.map Prod.fst).contains k)]) ∧ Below W.heap.size W W' := by
  obtain ⟨A, c, ev⟩ := own2_slice h.hr
  subst ev
  have c1 : W.cell? ⟨P, 1, none⟩ = some (.slice A l.length c) := (blk_cell h.blk 1).trans rfl
  have S := pz_search h.hr ok k hk
  generalize (l.map Prod.fst).contains k = b at *
  generalize posK (l.map Prod.fst) k = p at *
  clear h ok hk
  go_enter Try.func25, Try.ntmps25
  go_wp2_with (go_at_call 31; (with_reducible refine S.mono ?_); rintro e w2 ⟨rfl, hb2⟩)
  go_ret2
  exact ⟨rfl, hb2⟩
theorem pz_rows {W2 : World} {v' : Value} {l' : List (Int × Int)} (h : PnRaw w0 P rv l every W) (own : W2.ownsRow w0.heap.size 55 2 v' l'.length (prs l')) (gr : W.grownBy W2 rv.ownBlock) : PnRaw w0 P v' l' every (W2.setCell ⟨P, 1, none⟩ v') ∧ PnMv P rv W (W2.setCell ⟨P, 1, none⟩ v') := by
  have hb2 : W2.heap[P]? = _ := (gr.block P h.lt h.ne).trans h.blk
  have hkb := own_base h.hr
  have hB2 : Below w0.heap.size w0 W2 := pw_below_grown h.hB _ h.hB.size gr (fun k e => hkb k e)
  have ne' : some P ≠ v'.ownBlock := own_ne own hb2 (by decide)
  refine ⟨⟨h.le, ?_, own_setCell own ne' _, hB2.setCell h.le _⟩, ⟨?_, ?_⟩⟩
  · have := blk_set hb2 1 v'
    exact this
  · simpa [World.setCell] using gr.size
  · intro j hj h1 h2
    exact (Below.heap_setCell W2 ⟨P, 1, none⟩ v' j h1).trans (gr.block j hj h2)
theorem pz_grown {W2 : World} {row : Option Nat} (h : PnRaw w0 P rv l every W) (gr : W.grownBy W2 row) (h1 : some P ≠ row) (h2 : ∀ k, row = some k → rv.ownBlock ≠ some k) (hb : ∀ k, row = some k → w0.heap.size ≤ k) : PnRaw w0 P rv l every W2 := by
  refine ⟨h.le, (gr.block P h.lt h1).trans h.blk, h.hr.kept gr ?_, pw_below_grown h.hB _ h.hB.size gr hb⟩
  cases ho : rv.ownBlock with
  | none => exact .inl rfl
  | some k => exact .inr (fun e => h2 k e.symm ho)
def fitsB (every : Int) : Bool := decide (1 ≤ every) && decide (every ≤ 1000)
theorem pz_fits (every : Int) (W : World) : Calls Try.prog 23 #[.int .i64 every] W fun e W' => e = .returned (.bool (fitsB every)) ∧ W' = W := by
  unfold fitsB
  by_cases h1 : 1 ≤ every
  · have p1 : decide (1 ≤ every) = true := decide_eq_true h1
    by_cases h2 : every ≤ 1000
    · have p2 : decide (every ≤ 1000) = true := decide_eq_true h2
      rw [p1, p2]
      go_enter Try.func23, Try.ntmps23
      go_wp2_with fail
      go_ret
      exact ⟨rfl, rfl⟩
    · have p2 : decide (every ≤ 1000) = false := decide_eq_false h2
      rw [p1, p2]
      go_enter Try.func23, Try.ntmps23
      go_wp2_with fail
      go_ret
      exact ⟨rfl, rfl⟩
  · have p1 : decide (1 ≤ every) = false := decide_eq_false h1
    rw [p1, Bool.false_and]
    go_enter Try.func23, Try.ntmps23
    go_wp2_with fail
    go_ret
    exact ⟨rfl, rfl⟩
theorem pz_New (every : Int) (W : World) (h : fitsB every = true) : Calls Try.prog 8 #[.int .i64 every] W fun e W' => e = .returned (.tuple #[.pointer (some ⟨W.heap.size, 0, none⟩), .int .i64 0]) ∧ W' = W.alloc (.cells #[.int .i64 every, .slice none 0 0] 36) := by
  have F := pz_fits every W
  rw [h] at F
  go_enter Try.func8, Try.ntmps8
  go_wp2_with (go_at_call 23; (with_reducible refine F.mono ?_); rintro e w2 ⟨rfl, hw⟩; obtain rfl := hw.symm)
  go_ret2
  exact ⟨rfl, rfl⟩
theorem pz_NewNo (every : Int) (W : World) (h : fitsB every = false) : Calls Try.prog 8 #[.int .i64 every] W fun e W' => e = .returned (.tuple #[.pointer none, .int .i64 2]) ∧ W' = W := by
  have F := pz_fits every W
  rw [h] at F
  go_enter Try.func8, Try.ntmps8
  go_wp2_with (go_at_call 23; (with_reducible refine F.mono ?_); rintro e w2 ⟨rfl, hw⟩; obtain rfl := hw.symm)
  go_ret2
  exact ⟨rfl, rfl⟩
theorem pz_made (every : Int) (W : World) : PnRaw W W.heap.size (.slice none 0 0) [] every (W.alloc (.cells #[.int .i64 every, .slice none 0 0] 36)) :=
  ⟨Nat.le_refl _, blk_new W _, World.ownsRow_nil _ _ _ _, (Below.refl _ W).alloc (Nat.le_refl _) _⟩
theorem pz_ok_nil : PnOk [] := ⟨List.Pairwise.nil, (fun x hx => by cases hx), by decide⟩
def insP (l : List (Int × Int)) (k : Int) : List (Int × Int) := l.take (posK (l.map Prod.fst) k) ++ [(k, 0)] ++ l.drop (posK (l.map Prod.fst) k)
def erA (l : List (Int × Int)) (k : Int) : Int := if k < 1 ∨ 1099511627775 < k ∨ (l.map Prod.fst).contains k = true then 2 else if l.length ≥ 64 then 4 else 0
theorem add_cases (l : List (Int × Int)) (k : Int) : (k < 1 ∧ erA l k = 2) ∨ (1 ≤ k ∧ 1099511627775 < k ∧ erA l k = 2) ∨ (1 ≤ k ∧ k ≤ 1099511627775 ∧ (l.map Prod.fst).contains k = true ∧ erA l k = 2) ∨ (1 ≤ k ∧ k ≤ 1099511627775 ∧ (l.map Prod.fst).contains k = false ∧ 64 ≤ l.length ∧ erA l k = 4) ∨ (1 ≤ k ∧ k ≤ 1099511627775 ∧ (l.map Prod.fst).contains k = false ∧ l.length < 64 ∧ erA l k = 0) := by
  unfold erA
  by_cases h1 : k < 1
  · exact .inl ⟨h1, if_pos (.inl h1)⟩
  by_cases h2 : 1099511627775 < k
  · exact .inr (.inl ⟨by omega, h2, if_pos (.inr (.inl h2))⟩)
  cases h3 : (l.map Prod.fst).contains k with
  | true => exact .inr (.inr (.inl ⟨by omega, by omega, rfl, if_pos (.inr (.inr rfl))⟩))
  | false =>
    have hn : ¬ (k < 1 ∨ 1099511627775 < k ∨ false = true) := by
      rintro (h | h | h)
      · exact h1 h
      · exact h2 h
      · cases h
    by_cases h4 : l.length ≥ 64
    · exact .inr (.inr (.inr (.inl ⟨by omega, by omega, rfl, h4, by rw [if_neg hn, if_pos h4]⟩)))
    · exact .inr (.inr (.inr (.inr ⟨by omega, by omega, rfl, by omega, by rw [if_neg hn, if_neg h4]⟩)))
set_option maxHeartbeats 4000000 in
theorem pz_Add (h : PnRaw w0 P rv l every W) (ok : PnOk l) (he : every ≠ 0) (k : Int) : Calls Try.prog 9 #[.pointer (some ⟨P, 0, none⟩), .int .i64 k] W fun e W' => e = .returned (.int .i64 (erA l k)) ∧ ∃ rv', PnRaw w0 P rv' (if erA l k = 0 then insP l k else l) every W' ∧ PnMv P rv W W' := by
  have N := pz_none h he
  have H := Aside0.mk h
  rcases add_cases l k with ⟨g1, e⟩ | ⟨g1, g2, e⟩ | ⟨g1, g2, g3, e⟩ | ⟨g1, g2, g3, g4, e⟩ | ⟨g1, g2, g3, g4, e⟩
  · rw [e, if_neg (by decide)]
    have p1 : decide (k < 1) = true := decide_eq_true g1
    clear e g1 h he
    go_enter Try.func9, Try.ntmps9
    go_wp2_with (go_at_call 24; (with_reducible refine N.mono ?_); rintro e w1 ⟨rfl, hw⟩; obtain rfl := hw.symm)
    go_ret
    exact ⟨rfl, rv, H.out, PnMv.refl _ _ _⟩
  · rw [e, if_neg (by decide)]
    have p1 : decide (k < 1) = false := decide_eq_false (by omega)
    have p2 : decide (1099511627775 < k) = true := decide_eq_true g2
    clear e g1 g2 h he
    go_enter Try.func9, Try.ntmps9
    go_wp2_with (go_at_call 24; (with_reducible refine N.mono ?_); rintro e w1 ⟨rfl, hw⟩; obtain rfl := hw.symm)
    go_ret
    exact ⟨rfl, rv, H.out, PnMv.refl _ _ _⟩
  · have AT := pz_at h ok k ⟨g1, g2⟩
    rw [e, if_neg (by decide)]
    rw [g3] at AT
    have p1 : decide (k < 1) = false := decide_eq_false (by omega)
    have p2 : decide (1099511627775 < k) = false := decide_eq_false (by omega)
    generalize posK (l.map Prod.fst) k = p at AT
    clear e g1 g2 g3 h he
    go_enter Try.func9, Try.ntmps9
    go_wp2_with (first | (go_at_call 24; (with_reducible refine N.mono ?_); rintro e w1 ⟨rfl, hw⟩; obtain rfl := hw.symm) | (go_at_call 25; (with_reducible refine AT.mono ?_); rintro e w2 ⟨rfl, hb⟩))
    go_ret
    exact ⟨rfl, rv, H.out.below hb, PnMv.of_below hb⟩
  · have AT := pz_at h ok k ⟨g1, g2⟩
    rw [e, if_neg (by decide)]
    rw [g3] at AT
    have p1 : decide (k < 1) = false := decide_eq_false (by omega)
    have p2 : decide (1099511627775 < k) = false := decide_eq_false (by omega)
    have p3 : decide ((64 : Int) ≤ (l.length : Int)) = true := decide_eq_true (by omega)
    generalize posK (l.map Prod.fst) k = p at AT
    obtain ⟨A, c, ev⟩ := own2_slice h.hr
    subst ev
    clear e g1 g2 g3 h he
    go_enter Try.func9, Try.ntmps9
    go_wp2_with (first | (go_at_call 24; (with_reducible refine N.mono ?_); rintro e w1 ⟨rfl, hw⟩; obtain rfl := hw.symm) | (go_at_call 25; (with_reducible refine AT.mono ?_); rintro e w2 ⟨rfl, hb⟩; have h2 := Aside0.mk (H.out.below hb); have c1 : w2.cell? ⟨P, 1, none⟩ = some (.slice A l.length c) := (blk_cell h2.out.blk 1).trans rfl))
    go_ret
    exact ⟨rfl, _, h2.out, PnMv.of_below hb⟩
  · have AT := pz_at h ok k ⟨g1, g2⟩
    rw [e, if_pos rfl]
    rw [g3] at AT
    have p1 : decide (k < 1) = false := decide_eq_false (by omega)
    have p2 : decide (1099511627775 < k) = false := decide_eq_false (by omega)
    have p3 : decide ((64 : Int) ≤ (l.length : Int)) = false := decide_eq_false (by omega)
    have hpl : posK (l.map Prod.fst) k ≤ l.length := by have := posK_le (l.map Prod.fst) k; simpa using this
    have hins : insP l k = l.take (posK (l.map Prod.fst) k) ++ [(k, 0)] ++ l.drop (posK (l.map Prod.fst) k) := rfl
    generalize posK (l.map Prod.fst) k = p at AT hpl hins
    obtain ⟨l2, hl2⟩ : ∃ l2, l2 = l.take p ++ [(k, 0)] ++ l.drop p := ⟨_, rfl⟩
    have HI := Aside0.mk (hins.trans hl2.symm)
    obtain ⟨A, c, ev⟩ := own2_slice h.hr
    subst ev
    have IN := Aside0.mk (fun (w2 : World) (h2 : PnRaw w0 P (.slice A l.length c) l every w2) => (by
      have hb : Below w2.heap.size w2 (w2.alloc (.cells #[.int .i64 k, .int .i64 0] 55)) := (Below.refl _ _).alloc (Nat.le_refl _) _
      have h3 := h2.below hb
      exact ins_pairs (w2.alloc (.cells #[.int .i64 k, .int .i64 0] 55)) w0.heap.size (.slice A l.length c) l p k h3.hr hpl (by have := ok.most; omega) w2.heap.size (blk_new w2 _) (fun e => by
        have := own_lt h2.hr _ e
        omega) h3.hB.size))
    rw [← hl2] at IN
    clear e g1 g2 g3 h he hins hl2
    go_enter Try.func9, Try.ntmps9
    go_wp2_with (first | (go_at_call 24; (with_reducible refine N.mono ?_); rintro e w1 ⟨rfl, hw⟩; obtain rfl := hw.symm) | (go_at_call 25; (with_reducible refine AT.mono ?_); rintro e w2 ⟨rfl, hb⟩; have h2 := Aside0.mk (H.out.below hb); have c1 : w2.cell? ⟨P, 1, none⟩ = some (.slice A l.length c) := (blk_cell h2.out.blk 1).trans rfl; have I2 := IN.out w2 h2.out) | (go_at_call 26; (with_reducible refine I2.mono ?_); rintro e w3 ⟨v3, rfl, own3, gr3, at3⟩; have h2a := h2.out.below ((Below.refl _ w2).alloc (Nat.le_refl _) (.cells #[.int .i64 k, .int .i64 0] 55)); have b3 := blk_grown h2a.blk gr3 h2a.ne; have c3 := (blk_cell b3 1).trans rfl; have f3 := blk_frozen b3 1; have RR := Aside0.mk (pz_rows h2a own3 gr3); obtain ⟨A3, q3, ev3⟩ := own2_slice own3; subst ev3; clear own3 gr3 at3 h2a b3))
    go_ret
    refine ⟨rfl, .slice A3 l2.length q3, ?_, PnMv.after (below2 hb ((Below.refl _ w2).alloc (Nat.le_refl _) _)) RR.out.2⟩
    rw [HI.out]
    exact RR.out.1
/-- A plan with one more is such as may be. -/
theorem PnOk.ins (ok : PnOk l) {k : Int} (hk : 1 ≤ k ∧ k ≤ 1099511627775) (hc : (l.map Prod.fst).contains k = false) (hl : l.length < 64) : PnOk (insP l k) := by
  obtain ⟨s1, s2⟩ := sorted_split (k := k) ok.sorted
  have hp : posK (l.map Prod.fst) k ≤ l.length := by have := posK_le (l.map Prod.fst) k; simpa using this
  have em : (insP l k).map Prod.fst = (l.map Prod.fst).take (posK (l.map Prod.fst) k) ++ [k] ++ (l.map Prod.fst).drop (posK (l.map Prod.fst) k) := by
    unfold insP
    rw [List.map_append, List.map_append, List.map_take, List.map_drop]
    rfl
  have hk2 : k ∉ l.map Prod.fst := fun h => by
    rw [contains_iff.2 h] at hc
    cases hc
  refine ⟨?_, fun x hx => ?_, ?_⟩
  · rw [em]
    have ht : ((l.map Prod.fst).take (posK (l.map Prod.fst) k)).Pairwise (· < ·) := ok.sorted.sublist (List.take_sublist _ _)
    have hd : ((l.map Prod.fst).drop (posK (l.map Prod.fst) k)).Pairwise (· < ·) := ok.sorted.sublist (List.drop_sublist _ _)
    refine List.pairwise_append.2 ⟨List.pairwise_append.2 ⟨ht, List.pairwise_singleton _ _, fun a ha b hb => ?_⟩, hd, fun a ha b hb => ?_⟩
    · rw [List.mem_singleton.1 hb]
      exact s1 a ha
    · have hb2 := s2 b hb
      have hbk : b ≠ k := fun e => hk2 (e ▸ List.mem_of_mem_drop hb)
      rcases List.mem_append.1 ha with ha | ha
      · have := s1 a ha
        omega
      · rw [List.mem_singleton.1 ha]
        omega
  · rw [em] at hx
    rcases List.mem_append.1 hx with h | h
    · rcases List.mem_append.1 h with h | h
      · exact ok.keys x (List.mem_of_mem_take h)
      · rw [List.mem_singleton.1 h]
        exact hk
    · exact ok.keys x (List.mem_of_mem_drop h)
  · unfold insP
    simp
    omega
end
section
variable {w0 : World} {P : Nat} {rv : Value} {l : List (Int × Int)} {every : Int} {W : World}
/-- Numbers that are read, in memory of another kind than a plan's. -/
def IntsAt (base N : Nat) (A : Option Addr) (ws : List Int) (W : World) : Prop := ws = [] ∨ ∃ b off, A = some ⟨b, off, none⟩ ∧ b < N ∧ (b < base ∨ ∃ cs, W.heap[b]? = some (.cells cs 3 (0, 0))) ∧ ∀ j, j < ws.length → W.cell? ⟨b, off + j, none⟩ = some (.int .i64 (ws.getD j 0))
theorem IntsAt.block {base N : Nat} {A : Option Addr} {ws : List Int} {W1 : World} (h : IntsAt base N A ws W) (hk : ∀ b, b < N → (b < base ∨ ∃ cs, W.heap[b]? = some (.cells cs 3 (0, 0))) → W1.heap[b]? = W.heap[b]?) : IntsAt base N A ws W1 := by
  rcases h with h | ⟨b, off, e, h1, h2, h3⟩
  · exact .inl h
  · have hb := hk b h1 h2
    exact .inr ⟨b, off, e, h1, h2.imp id (fun ⟨cs, hc⟩ => ⟨cs, hb.trans hc⟩), fun j hj => by rw [← h3 j hj]; simp only [World.cell?, hb]⟩
theorem IntsAt.below {base N : Nat} {A : Option Addr} {ws : List Int} {W1 : World} (h : IntsAt base N A ws W) (hN : N ≤ W.heap.size) (hb : Below W.heap.size W W1) : IntsAt base N A ws W1 :=
  h.block (fun b h1 _ => hb.block b (Nat.lt_of_lt_of_le h1 hN))
theorem IntsAt.mv {N : Nat} {A : Option Addr} {ws : List Int} {W1 : World} (h : IntsAt w0.heap.size N A ws W) (hN : N ≤ W.heap.size) (hp : PnRaw w0 P rv l every W) (m : PnMv P rv W W1) : IntsAt w0.heap.size N A ws W1 :=
  h.block (fun b h1 h2 => by
    have hbw := Nat.lt_of_lt_of_le h1 hN
    rcases h2 with h2 | ⟨cs, hc⟩
    · refine m.keep b hbw (fun e => by have := hp.le; omega) (fun e => ?_)
      have := own_base hp.hr _ e.symm
      omega
    · exact m.keep b hbw (fun e => blk_ne hc hp.blk (by decide) e) (own_ne hp.hr hc (by decide)))
theorem IntsAt.grown {base N : Nat} {A : Option Addr} {ws : List Int} {W1 : World} {row : Option Nat} (h : IntsAt base N A ws W) (hN : N ≤ W.heap.size) (gr : W.grownBy W1 row) (hr : ∀ k, row = some k → N ≤ k) : IntsAt base N A ws W1 :=
  h.block (fun b h1 _ => gr.block b (Nat.lt_of_lt_of_le h1 hN) (fun e => by have := hr b e.symm; omega))
theorem IntsAt.more {base N N2 : Nat} {A : Option Addr} {ws : List Int} (h : IntsAt base N A ws W) (hN : N ≤ N2) : IntsAt base N2 A ws W := by
  rcases h with h | ⟨b, off, e, h1, h2, h3⟩
  · exact .inl h
  · exact .inr ⟨b, off, e, Nat.lt_of_lt_of_le h1 hN, h2, h3⟩
/-- A row's tick is laid anew. -/
theorem pz_next {g cap n i : Nat} {ys : List (Int × Int)} (h : PnRaw w0 P (.slice (some ⟨g, 0, none⟩) n cap) ys every W) (hn : ys.length = n) (hi : i < ys.length) (v : Int) : PnRaw w0 P (.slice (some ⟨g, 0, none⟩) n cap) (ys.set i ((ys.getD i (0, 0)).1, v)) every (W.setCell ⟨g, i * 2 + 1, none⟩ (.int .i64 v)) ∧ PnMv P (.slice (some ⟨g, 0, none⟩) n cap) W (W.setCell ⟨g, i * 2 + 1, none⟩ (.int .i64 v)) := by
  subst hn
  have hne : P ≠ g := fun e => h.ne (by rw [e]; rfl)
  have hgb : w0.heap.size ≤ g := own_base h.hr g rfl
  refine ⟨⟨h.le, (Below.heap_setCell _ _ _ _ hne).trans h.blk, ?_, h.hB.setCell hgb _⟩, ⟨by simp [World.setCell], fun j hj h1 h2 => Below.heap_setCell _ _ _ j (fun e => h2 (by rw [e]; rfl))⟩⟩
  have := own2_set h.hr i hi v
  rw [List.length_set] at this ⊢
  exact this
theorem PnMv.trans {W1 W2 : World} (a : PnMv P rv W W1) (b : PnMv P rv W1 W2) : PnMv P rv W W2 :=
  ⟨Nat.le_trans a.size b.size, fun j hj h1 h2 => (b.keep j (Nat.lt_of_lt_of_le hj a.size) h1 h2).trans (a.keep j hj h1 h2)⟩
theorem pz_contains {base N c : Nat} {A : Option Addr} {ws : List Int} (h : IntsAt base N A ws W) (hl : ws.length ≤ 1000) (k : Int) : Calls Try.prog 27 #[.slice A ws.length c, .int .i64 k] W fun e W' => e = .returned (.bool (ws.contains k)) ∧ W' = W := by
  rcases h with rfl | ⟨b, off, rfl, h1, h2, h3⟩
  · exact Try.slices_Contains_int_empty A c k W
  · have := Try.slices_Contains_int b off ws.length c ws k W (Nat.le_refl _) (by omega) h3
    rwa [List.take_length] at this
def rowF (ws : List Int) (now every : Int) (p : Int × Int) : Int × Int := if ws.contains p.1 = true then (if now < p.2 then p else (p.1, now + every)) else (p.1, 0)
def rowD (ws : List Int) (now : Int) (p : Int × Int) : Bool := ws.contains p.1 && decide (p.2 ≤ now)
def roundO (ws : List Int) (now : Int) (l : List (Int × Int)) : List Int := (l.filter (rowD ws now)).map Prod.fst
theorem rowF_fst (ws : List Int) (now every : Int) (p : Int × Int) : (rowF ws now every p).1 = p.1 := by
  unfold rowF
  split
  · split <;> rfl
  · rfl
theorem mid_get (f : Int × Int → Int × Int) {i : Nat} (hi : i < l.length) : ((l.take i).map f ++ l.drop i).getD i (0, 0) = l.getD i (0, 0) := by
  have l1 : ((l.take i).map f).length = i := by rw [List.length_map, List.length_take]; omega
  rw [List.getD_eq_getElem?_getD, List.getElem?_append_right (by omega), l1, Nat.sub_self, List.getElem?_drop, Nat.add_zero, List.getD_eq_getElem?_getD]
theorem mid_set (f : Int × Int → Int × Int) {i : Nat} (hi : i < l.length) {p : Int × Int} (hp : f (l.getD i (0, 0)) = p) : ((l.take i).map f ++ l.drop i).set i p = (l.take (i + 1)).map f ++ l.drop (i + 1) := by
  have e : l.getD i (0, 0) = l[i] := by rw [List.getD_eq_getElem?_getD, List.getElem?_eq_getElem hi]; rfl
  have l1 : ((l.take i).map f).length = i := by rw [List.length_map, List.length_take]; omega
  rw [List.set_append_right _ _ (by omega), l1, Nat.sub_self, List.drop_eq_getElem_cons hi, List.set_cons_zero, List.take_succ_eq_append_getElem hi, List.map_append, List.append_assoc, ← hp, e]
  rfl
theorem mid_same (f : Int × Int → Int × Int) {i : Nat} (hi : i < l.length) (hp : f (l.getD i (0, 0)) = l.getD i (0, 0)) : (l.take i).map f ++ l.drop i = (l.take (i + 1)).map f ++ l.drop (i + 1) := by
  have e : l.getD i (0, 0) = l[i] := by rw [List.getD_eq_getElem?_getD, List.getElem?_eq_getElem hi]; rfl
  rw [e] at hp
  rw [List.drop_eq_getElem_cons hi, List.take_succ_eq_append_getElem hi, List.map_append, List.append_assoc]
  simp [hp]
theorem round_no {ws : List Int} {now : Int} {i : Nat} (hi : i < l.length) (hd : rowD ws now (l.getD i (0, 0)) = false) : roundO ws now (l.take (i + 1)) = roundO ws now (l.take i) := by
  have e : l.getD i (0, 0) = l[i] := by rw [List.getD_eq_getElem?_getD, List.getElem?_eq_getElem hi]; rfl
  rw [e] at hd
  unfold roundO
  rw [List.take_succ_eq_append_getElem hi, List.filter_append]
  simp [hd]
theorem round_yes {ws : List Int} {now : Int} {i : Nat} (hi : i < l.length) (hd : rowD ws now (l.getD i (0, 0)) = true) : roundO ws now (l.take (i + 1)) = roundO ws now (l.take i) ++ [(l.getD i (0, 0)).1] := by
  have e : l.getD i (0, 0) = l[i] := by rw [List.getD_eq_getElem?_getD, List.getElem?_eq_getElem hi]; rfl
  rw [e] at hd ⊢
  unfold roundO
  rw [List.take_succ_eq_append_getElem hi, List.filter_append]
  simp [hd]
theorem PnOk.round (ok : PnOk l) (ws : List Int) (now : Int) : PnOk (l.map (rowF ws now every)) := by
  have e : (l.map (rowF ws now every)).map Prod.fst = l.map Prod.fst := by
    rw [List.map_map]
    exact List.map_congr_left (fun p _ => rowF_fst ws now every p)
  exact ⟨by rw [e]; exact ok.sorted, by rw [e]; exact ok.keys, by rw [List.length_map]; exact ok.most⟩
theorem infoIntP : (Try.prog.info? 3).map (fun i => (i.zero, i.size, i.bytes)) = some (some (.int .i64 0), 1, 8) := by kernel_rfl
/-- What Round tells and leaves. -/
def RoundEnd (w0 : World) (P : Nat) (rv : Value) (l : List (Int × Int)) (every now : Int) (ws : List Int) (W : World) (e : Ending) (W' : World) : Prop := ∃ v, e = .returned v ∧ W'.ownsRow W.heap.size 3 1 v (roundO ws now l).length (nums .i64 (roundO ws now l)) ∧ PnRaw w0 P rv (l.map (rowF ws now every)) every W' ∧ PnMv P rv W W'
set_option maxRecDepth 20000 in
set_option maxHeartbeats 8000000 in
theorem pz_Round (h : PnRaw w0 P rv l every W) (ok : PnOk l) (he : 1 ≤ every ∧ every ≤ 1000) (now : Int) (hn : 0 ≤ now ∧ now ≤ 1099511626775) {A : Option Addr} {c : Nat} {ws : List Int} (hw : IntsAt w0.heap.size W.heap.size A ws W) (hwl : ws.length ≤ 1000) :
    Calls Try.prog 11 #[.pointer (some ⟨P, 0, none⟩), .int .i64 now, .slice A ws.length c] W (RoundEnd w0 P rv l every now ws W) := by
  have N := pz_none h (by omega)
  have H := Aside0.mk h
  have HW := Aside0.mk hw
  have hml := ok.most
  obtain ⟨hn1, hn2⟩ := hn
  obtain ⟨he1, he2⟩ := he
  have p1 : decide (now < 0) = false := decide_eq_false (by omega)
  have p2 : decide (1099511626775 < now) = false := decide_eq_false (by omega)
  obtain ⟨i0, hi, hz0, hz1, hz2⟩ := info_parts infoIntP
  rcases own2_form h.hr with ⟨rfl, rfl⟩ | ⟨g, cap, cur, rfl, hg, hh, hnc, hcm, hsz, htk, _⟩
  · have c1 : W.cell? ⟨P, 1, none⟩ = some (.slice none 0 0) := (blk_cell h.blk 1).trans rfl
    clear h hw ok
    go_enter Try.func11, Try.ntmps11
    go_wp2_with fail
    go_step3
    go_wp2_with (go_at_call 24; (with_reducible refine N.mono ?_); rintro e w1 ⟨rfl, hw⟩; obtain rfl := hw.symm)
    go_step3
    go_wp2_with fail
    go_loopw [7, 25] (fun a b wr => a = .slice none 0 0 ∧ b = .int .i64 0 ∧ wr = W) (fun _ _ _ => 0)
    case atStart => exact ⟨rfl, rfl, rfl⟩
    case round =>
      obtain ⟨rfl, rfl, rfl⟩ := hrel
      go_wp2_with fail
      rw [Exit.noGoto_ret]
      go_ret
      exact ⟨_, rfl, World.ownsRow_nil _ _ _ _, H.out, PnMv.refl _ _ _⟩
  have c1 : W.cell? ⟨P, 1, none⟩ = some (.slice (some ⟨g, 0, none⟩) l.length cap) := (blk_cell h.blk 1).trans rfl
  have HOK := Aside0.mk ok
  have HB0 := Aside0.mk h.hB.size
  clear h hw ok hh htk hsz
  go_enter Try.func11, Try.ntmps11
  go_wp2_with fail
  go_step3
  go_wp2_with (go_at_call 24; (with_reducible refine N.mono ?_); rintro e w1 ⟨rfl, hw⟩; obtain rfl := hw.symm)
  go_step3
  go_wp2_with fail
  go_loopw [7, 25] (fun v ii wr => ∃ (i : Nat) (q : List Int) (Ao : Option Addr) (co : Nat), i ≤ l.length ∧ q.length ≤ i ∧ ii = .int .i64 (i : Int) ∧ v = .slice Ao q.length co ∧ Aside0 (q = roundO ws now (l.take i)) ∧ Aside0 (wr.ownsRow W.heap.size 3 1 (.slice Ao q.length co) q.length (nums .i64 q)) ∧ Aside0 (PnRaw w0 P (.slice (some ⟨g, 0, none⟩) l.length cap) ((l.take i).map (rowF ws now every) ++ l.drop i) every wr) ∧ Aside0 (PnMv P (.slice (some ⟨g, 0, none⟩) l.length cap) W wr) ∧ Aside0 (IntsAt w0.heap.size W.heap.size A ws wr)) (fun _ ii _ => l.length - (intOf ii).toNat)
  case atStart => exact ⟨0, [], none, 0, Nat.zero_le _, Nat.le_refl _, rfl, rfl, ⟨rfl⟩, ⟨World.ownsRow_nil _ _ _ _⟩, ⟨by simpa using H.out⟩, ⟨PnMv.refl _ _ _⟩, HW⟩
  case round =>
    obtain ⟨i, q, Ao, co, hil, hqi, rfl, rfl, hq, hown, hp, hm, hwr⟩ := hrel
    have cP : wr.cell? ⟨P, 1, none⟩ = some (.slice (some ⟨g, 0, none⟩) l.length cap) := (blk_cell hp.out.blk 1).trans rfl
    have cE : wr.cell? ⟨P, 0, none⟩ = some (.int .i64 every) := (blk_cell hp.out.blk 0).trans rfl
    by_cases hlt : i < l.length
    · have p3 : decide ((i : Int) < (l.length : Int)) = true := decide_eq_true (by omega)
      have hlen : ((l.take i).map (rowF ws now every) ++ l.drop i).length = l.length := by simp; omega
      have hr0 := hp.out.hr
      rcases own2_form hr0 with ⟨ev, _⟩ | ⟨g2, cap2, cur2, ev, hg2, hh2, hnc2, hcm2, hsz2, htk2, hc2⟩
      · cases ev
      obtain ⟨e1, e3, e2⟩ := Value.slice.inj ev
      clear e3
      obtain rfl : g = g2 := by injection e1 with e1; injection e1
      subst e2
      obtain ⟨d0, d1⟩ := hc2 i (by rw [hlen]; exact hlt)
      rw [mid_get _ hlt] at d0 d1
      have fz := blk_frozen hh2 (i * 2 + 1)
      have CT := pz_contains (c := c) hwr.out hwl (l.getD i (0, 0)).1
      have hkey := key_ok HOK.out hlt
      have HH2 := Aside0.mk hh2
      clear hc2 hh2 htk2 hsz2 ev e1 hr0
      have hF := mid_get (rowF ws now every) hlt
      have HF := Aside0.mk hF
      have hbs := hm.out.size
      cases hct : ws.contains (l.getD i (0, 0)).1 with
      | false =>
        have hE : rowF ws now every (l.getD i (0, 0)) = ((l.getD i (0, 0)).1, 0) := by unfold rowF; rw [hct]; rfl
        have hD : rowD ws now (l.getD i (0, 0)) = false := by unfold rowD; rw [hct]; rfl
        obtain ⟨r1, m1⟩ := pz_next hp.out hlen (by rw [hlen]; exact hlt) 0
        rw [hF, mid_set _ hlt hE] at r1
        have HR1 := Aside0.mk r1
        have HM1 := Aside0.mk (hm.out.trans m1)
        have HI1 := Aside0.mk (hwr.out.mv hbs hp.out m1)
        have HQ1 := Aside0.mk (hq.out.trans (round_no hlt hD).symm)
        have HO1 := Aside0.mk (own_setCell (p := ⟨g, i * 2 + 1, none⟩) hown.out (own_ne hown.out HH2.out (by decide)) (.int .i64 0))
        rw [hct] at CT
        clear r1 m1 hE hD hF hct
        generalize (l.getD i (0, 0)).1 = x at *
        generalize (l.getD i (0, 0)).2 = y at *
        go_wp2_with (go_at_call 27; (with_reducible refine CT.mono ?_); rintro e w1 ⟨rfl, hw⟩; obtain rfl := hw.symm)
        exact ⟨⟨i + 1, q, Ao, co, by omega, by omega, by simp, rfl, HQ1, HO1, HR1, HM1, HI1⟩, by simp [intOf]; omega⟩
      | true =>
        by_cases hnx : now < (l.getD i (0, 0)).2
        · have hE : rowF ws now every (l.getD i (0, 0)) = l.getD i (0, 0) := by unfold rowF; rw [if_pos hct, if_pos hnx]
          have hD : rowD ws now (l.getD i (0, 0)) = false := by unfold rowD; rw [hct, decide_eq_false (by omega)]; rfl
          have p4 : decide (now < (l.getD i (0, 0)).2) = true := decide_eq_true hnx
          have r1 := hp.out
          rw [mid_same _ hlt hE] at r1
          have HR1 := Aside0.mk r1
          have HQ1 := Aside0.mk (hq.out.trans (round_no hlt hD).symm)
          rw [hct] at CT
          clear r1 hE hD hF hct hnx
          generalize (l.getD i (0, 0)).1 = x at *
          generalize (l.getD i (0, 0)).2 = y at *
          go_wp2_with (go_at_call 27; (with_reducible refine CT.mono ?_); rintro e w1 ⟨rfl, hw⟩; obtain rfl := hw.symm)
          exact ⟨⟨i + 1, q, Ao, co, by omega, by omega, by simp, rfl, HQ1, hown, HR1, hm, hwr⟩, by simp [intOf]; omega⟩
        · have hE : rowF ws now every (l.getD i (0, 0)) = ((l.getD i (0, 0)).1, now + every) := by unfold rowF; rw [if_pos hct, if_neg hnx]
          have hD : rowD ws now (l.getD i (0, 0)) = true := by unfold rowD; rw [hct, decide_eq_true (by omega)]; rfl
          have p4 : decide (now < (l.getD i (0, 0)).2) = false := decide_eq_false hnx
          obtain ⟨r1, m1⟩ := pz_next hp.out hlen (by rw [hlen]; exact hlt) (now + every)
          rw [hF, mid_set _ hlt hE] at r1
          have HR1 := Aside0.mk r1
          have HM1 := Aside0.mk (hm.out.trans m1)
          have HI1 := Aside0.mk (hwr.out.mv hbs hp.out m1)
          have HQ1 := Aside0.mk (show q ++ [(l.getD i (0, 0)).1] = roundO ws now (l.take (i + 1)) by rw [round_yes hlt hD, hq.out])
          have HO1 := Aside0.mk (own_setCell (p := ⟨g, i * 2 + 1, none⟩) hown.out (own_ne hown.out HH2.out (by decide)) (.int .i64 (now + every)))
          have dk : (wr.setCell ⟨g, i * 2 + 1, none⟩ (.int .i64 (now + every))).cell? ⟨g, i * 2, none⟩ = some (.int .i64 (l.getD i (0, 0)).1) := by
            rw [World.cell?_setCell_other _ _ _ _ (by simp)]
            exact d0
          rw [hct] at CT
          clear r1 m1 hE hD hF hct hnx
          generalize (l.getD i (0, 0)).1 = x at *
          generalize (l.getD i (0, 0)).2 = y at *
          have hb1 : (wr.setCell ⟨g, i * 2 + 1, none⟩ (.int .i64 (now + every))).heap.size = wr.heap.size := by simp [World.setCell]
          have bA : Below (wr.setCell ⟨g, i * 2 + 1, none⟩ (.int .i64 (now + every))).heap.size (wr.setCell ⟨g, i * 2 + 1, none⟩ (.int .i64 (now + every))) ((wr.setCell ⟨g, i * 2 + 1, none⟩ (.int .i64 (now + every))).alloc (.cells #[.int .i64 x] 3)) := (Below.refl _ _).alloc (Nat.le_refl _) _
          have HO2 := Aside0.mk (pw_own_below HO1.out bA)
          have HBA := Aside0.mk bA
          have hbn := blk_new (wr.setCell ⟨g, i * 2 + 1, none⟩ (.int .i64 (now + every))) (.cells #[.int .i64 x] 3)
          rw [hb1] at hbn
          have HN := Aside0.mk (World.news_of_block (cs := #[.int .i64 x]) hbn)
          clear hbn
          have HSZ := Aside0.mk (show W.heap.size ≤ ((wr.setCell ⟨g, i * 2 + 1, none⟩ (.int .i64 (now + every))).alloc (.cells #[.int .i64 x] 3)).heap.size by rw [World.size_alloc, hb1]; omega)
          have FIN := Aside0.mk (fun (v' : Value) (w2 : World) (h1 : w2.ownsRow W.heap.size 3 1 v' (q.length + 1) (nums .i64 q ++ [.int .i64 x])) (gr : ((wr.setCell ⟨g, i * 2 + 1, none⟩ (.int .i64 (now + every))).alloc (.cells #[.int .i64 x] 3)).grownBy w2 (Value.slice Ao q.length co).ownBlock) => (by
            have h3 := HR1.out.below HBA.out
            have hbo := own_base HO2.out
            have own3 : w2.ownsRow W.heap.size 3 1 v' (q ++ [x]).length (nums .i64 (q ++ [x])) := by
              unfold nums
              rw [List.map_append, List.length_append]
              exact h1
            have f1 : ∀ k, (Value.slice Ao q.length co).ownBlock = some k → (Value.slice (some ⟨g, 0, none⟩) l.length cap).ownBlock ≠ some k := fun k hk e => by
              have hb := (HBA.out.block g (by rw [hb1]; exact blk_lt HH2.out)).trans (show (wr.setCell ⟨g, i * 2 + 1, none⟩ (.int .i64 (now + every))).heap[g]? = _ from blk_set HH2.out _ _)
              have hne := own_ne HO2.out hb (by decide)
              exact hne (e.trans hk.symm)
            have p3 := pz_grown h3 gr (own_ne HO2.out h3.blk (by decide)) f1 (fun k hk => Nat.le_trans HB0.out (hbo k hk))
            refine ⟨own3, p3, ?_, ?_⟩
            · refine ⟨Nat.le_trans hbs (Nat.le_trans (by rw [World.size_alloc, hb1]; omega) gr.size), fun j hj q1 q2 => ?_⟩
              have hj2 : j < wr.heap.size := Nat.lt_of_lt_of_le hj hbs
              refine (gr.block j (by rw [World.size_alloc, hb1]; omega) (fun e => by have := hbo j e.symm; omega)).trans ?_
              exact (HBA.out.block j (by rw [hb1]; exact hj2)).trans (HM1.out.keep j hj q1 q2)
            · exact (HI1.out.below (by rw [hb1]; exact hbs) HBA.out).grown HSZ.out gr hbo : w2.ownsRow W.heap.size 3 1 v' (q ++ [x]).length (nums .i64 (q ++ [x])) ∧ PnRaw w0 P (.slice (some ⟨g, 0, none⟩) l.length cap) ((l.take (i + 1)).map (rowF ws now every) ++ l.drop (i + 1)) every w2 ∧ PnMv P (.slice (some ⟨g, 0, none⟩) l.length cap) W w2 ∧ IntsAt w0.heap.size W.heap.size A ws w2))
          clear bA hb1
          go_wp2_with (first | (go_at_call 27; (with_reducible refine CT.mono ?_); rintro e w1 ⟨rfl, hw⟩; obtain rfl := hw.symm) | (at_builtin; refine wpList_append_own_at _ rfl _ _ 30 rfl W.heap.size 3 i0 (.int .i64 0) 1 8 Try.underlying30 hi hz0 hz1 hz2 rfl (by decide) _ _ _ rfl HO2.out ⟨wr.heap.size, 0, none⟩ 1 1 [.int .i64 x] rfl rfl HN.out (by simp [Value.oneCell']) (by unfold maxLen; omega) (by omega) HSZ.out ?_; intro v' w2 hown2 hgrow _ hat; obtain ⟨g1, g2, g3, g4⟩ := FIN.out v' w2 hown2 hgrow; obtain ⟨A2, c2, ev⟩ := own_slice g1; subst ev; have G1 := Aside0.mk g1; have G2 := Aside0.mk g2; have G3 := Aside0.mk g3; have G4 := Aside0.mk g4; clear hown2 hgrow hat g1 g2 g3 g4))
          exact ⟨⟨i + 1, q ++ [x], A2, c2, by omega, by simp; omega, by simp, by simp, HQ1, G1, G2, G3, G4⟩, by simp [intOf]; omega⟩
    · have p3 : decide ((i : Int) < (l.length : Int)) = false := decide_eq_false (by omega)
      obtain rfl : i = l.length := by omega
      go_wp2_with fail
      rw [Exit.noGoto_ret]
      go_ret
      have h1 := hown.out
      have h2 := hp.out
      rw [List.take_of_length_le (Nat.le_refl _)] at h2 hq
      rw [List.drop_eq_nil_of_le (Nat.le_refl _), List.append_nil] at h2
      rw [hq.out] at h1
      have e := hq.out
      subst e
      exact ⟨_, rfl, h1, h2, hm.out⟩
end
end Go.Proofs.Ytnajlpmpofljhaa.P
