-- Laid by sp.py, a program of this session's, out of the translation and the session's own stand-ins.
import Derived.Test.YtnajlpmpofljhaaPx0
import Derived.Test.YtnajlpmpofljhaaStprobeOften
import Derived.Test.YtnajlpmpofljhaaShelf
import Derived.Test.YtnajlpmpofljhaaSLprobeAwake
import Derived.Test.YtnajlpmpofljhaaStprobeOften
namespace Go.Proofs.Ytnajlpmpofljhaa.P
open Go.RowKit Go.Proofs.YtnajlpmpofljhaaW.PrintWords Go.Proofs.YtnajlpmpofljhaaW.PrintLast Go.Proofs.YtnajlpmpofljhaaW.PrintMore
attribute [local go_sem] max2_int min2_int max_two min_two max_three min_three max_four min_four   -- for this text's walks alone
set_option linter.unusedVariables false
set_option linter.unusedSimpArgs false
set_option linter.unnecessarySimpa false

/-! ### ProbeApart: a law by hand -/
section
variable {w0 : World} {P : Nat} {rv : Value} {l : List (Int × Int)} {every : Int} {W : World}
set_option maxHeartbeats 4000000 in
/-- Add, and where the row lies then. -/
theorem pz_Add_at (h : PnRaw w0 P rv l every W) (ok : PnOk l) (he : every ≠ 0) (k : Int) (hk : 1 ≤ k ∧ k ≤ 1099511627775) (g3 : (l.map Prod.fst).contains k = false) (g4 : l.length < 64) : Calls Try.prog 9 #[.pointer (some ⟨P, 0, none⟩), .int .i64 k] W fun e W' => e = .returned (.int .i64 0) ∧ ∃ rv', PnRaw w0 P rv' (insP l k) every W' ∧ PnMv P rv W W' ∧ (rv'.ownBlock = rv.ownBlock ∨ ∃ b, rv'.ownBlock = some b ∧ W.heap.size ≤ b) := by
  obtain ⟨g1, g2⟩ := hk
  have N := pz_none h he
  have H := Aside0.mk h
  have AT := pz_at h ok k ⟨g1, g2⟩
  rw [g3] at AT
  have p1 : decide (k < 1) = false := decide_eq_false (by omega)
  have p2 : decide (1099511627775 < k) = false := decide_eq_false (by omega)
  have p3 : decide ((64 : Int) ≤ (l.length : Int)) = false := decide_eq_false (by omega)
  have hpl : posK (l.map Prod.fst) k ≤ l.length := by have := posK_le (l.map Prod.fst) k; simpa using this
  have hins : insP l k = l.take (posK (l.map Prod.fst) k) ++ [(k, 0)] ++ l.drop (posK (l.map Prod.fst) k) := rfl
  generalize posK (l.map Prod.fst) k = p at AT hpl hins
  obtain ⟨l2, hl2⟩ : ∃ l2, l2 = l.take p ++ [(k, 0)] ++ l.drop p := ⟨_, rfl⟩
  have HI := Aside0.mk (hins.trans hl2.symm)
  obtain ⟨A, c, ev⟩ := own2_slice h.hr
  subst ev
  have IN := Aside0.mk (fun (w2 : World) (h2 : PnRaw w0 P (.slice A l.length c) l every w2) => (by
    have hb : Below w2.heap.size w2 (w2.alloc (.cells #[.int .i64 k, .int .i64 0] 55)) := (Below.refl _ _).alloc (Nat.le_refl _) _
    have h3 := h2.below hb
    exact ins_pairs (w2.alloc (.cells #[.int .i64 k, .int .i64 0] 55)) w0.heap.size (.slice A l.length c) l p k h3.hr hpl (by have := ok.most; omega) w2.heap.size (blk_new w2 _) (fun e => by
      have := own_lt h2.hr _ e
      omega) h3.hB.size))
  rw [← hl2] at IN
  clear g1 g2 g3 h he hins hl2
  go_enter Try.func9, Try.ntmps9
  go_wp2_with (first | (go_at_call 24; (with_reducible refine N.mono ?_); rintro e w1 ⟨rfl, hw⟩; obtain rfl := hw.symm) | (go_at_call 25; (with_reducible refine AT.mono ?_); rintro e w2 ⟨rfl, hb⟩; have h2 := Aside0.mk (H.out.below hb); have c1 : w2.cell? ⟨P, 1, none⟩ = some (.slice A l.length c) := (blk_cell h2.out.blk 1).trans rfl; have I2 := IN.out w2 h2.out) | (go_at_call 26; (with_reducible refine I2.mono ?_); rintro e w3 ⟨v3, rfl, own3, gr3, at3⟩; have h2a := h2.out.below ((Below.refl _ w2).alloc (Nat.le_refl _) (.cells #[.int .i64 k, .int .i64 0] 55)); have b3 := blk_grown h2a.blk gr3 h2a.ne; have c3 := (blk_cell b3 1).trans rfl; have f3 := blk_frozen b3 1; have RR := Aside0.mk (pz_rows h2a own3 gr3); obtain ⟨A3, q3, ev3⟩ := own2_slice own3; subst ev3; have AA := Aside0.mk at3; clear own3 gr3 at3 h2a b3))
  go_ret
  refine ⟨rfl, .slice A3 l2.length q3, ?_, PnMv.after (below2 hb ((Below.refl _ w2).alloc (Nat.le_refl _) _)) RR.out.2, AA.out.imp id (fun ⟨b, e, hb2⟩ => ⟨b, e, ?_⟩)⟩
  · rw [HI.out]
    exact RR.out.1
  · have h1 := hb.size
    rw [World.size_alloc] at hb2
    omega
/-- Another plan is as it was. -/
theorem pz_other {Q : Nat} {rq : Value} {lq : List (Int × Int)} {ev : Int} {W1 : World} (hq : PnRaw w0 Q rq lq ev W) (hp : PnRaw w0 P rv l every W) (m : PnMv P rv W W1) (hne : ∀ k, rv.ownBlock = some k → rq.ownBlock ≠ some k) (hPQ : P ≠ Q) (hB : Below w0.heap.size w0 W1) : PnRaw w0 Q rq lq ev W1 := by
  refine ⟨hq.le, (m.keep Q hq.lt (fun e => hPQ e.symm) (own_ne hp.hr hq.blk (by decide))).trans hq.blk, ?_, hB⟩
  rcases own2_form hq.hr with ⟨rfl, rfl⟩ | ⟨g, cap, cur, rfl, hg, hh, hnc, hcm, hsz, htk, _⟩
  · exact World.ownsRow_nil _ _ _ _
  · exact own2_mk ((m.keep g (blk_lt hh) (fun e => blk_ne hh hp.blk (by decide) e) (fun e => hne g e.symm rfl)).trans hh) hg rfl hnc hcm hsz htk
/-- A row of numbers is as it was. -/
theorem pz_row {base : Nat} {v : Value} {xs : List Int} {W1 : World} (h : W.ownsRow base 3 1 v xs.length (nums .i64 xs)) (hp : PnRaw w0 P rv l every W) (m : PnMv P rv W W1) : W1.ownsRow base 3 1 v xs.length (nums .i64 xs) := by
  rcases own1_form h with ⟨rfl, rfl⟩ | ⟨g, cap, cur, rfl, hg, hh, hnc, hcm, hsz, htk, _⟩
  · exact World.ownsRow_nil _ _ _ _
  · exact own1_mk ((m.keep g (blk_lt hh) (fun e => blk_ne hh hp.blk (by decide) e) (own_ne hp.hr hh (by decide))).trans hh) hg rfl hnc hcm hsz htk
theorem ints_own {b base : Nat} {A : Option Addr} {c : Nat} {xs : List Int} (h : W.ownsRow base 3 1 (.slice A xs.length c) xs.length (nums .i64 xs)) : IntsAt b W.heap.size A xs W := by
  rcases own1_form h with ⟨_, rfl⟩ | ⟨g, cap, cur, ev, hg, hh, hnc, hcm, hsz, htk, hc⟩
  · exact .inl rfl
  · obtain ⟨rfl, _, _⟩ := Value.slice.inj ev
    exact .inr ⟨g, 0, rfl, blk_lt hh, .inr ⟨_, hh⟩, fun j hj => by rw [Nat.zero_add]; exact hc j hj⟩
end
/-- When a row is due next. -/
def nxt (o : Bool) (na now every : Int) : Int := if o = true then (if now < na then na else now + every) else 0
theorem ap_round (a b na nb now every : Int) (o t : Bool) (hab : a < b) :
    roundO ((if o = true then [a] else []) ++ (if t = true then [b] else [])) now [(a, na), (b, nb)] = (if o = true ∧ na ≤ now then [a] else []) ++ (if t = true ∧ nb ≤ now then [b] else []) ∧
    [(a, na), (b, nb)].map (rowF ((if o = true then [a] else []) ++ (if t = true then [b] else [])) now every) = [(a, nxt o na now every), (b, nxt t nb now every)] ∧
    roundO (if o = true then [a] else []) now [(a, na)] = (if o = true ∧ na ≤ now then [a] else []) ∧
    [(a, na)].map (rowF (if o = true then [a] else []) now every) = [(a, nxt o na now every)] := by
  have h1 : ¬ a = b := by omega
  have h2 : ¬ b = a := by omega
  unfold roundO nxt
  by_cases hx : na ≤ now <;> by_cases hy : nb ≤ now <;> cases o <;> cases t <;> simp [rowD, rowF, h1, h2, hx, hy, Int.not_lt.2, Int.not_le.1]
  all_goals omega
theorem ok_two {a b na nb : Int} (ha : 1 ≤ a) (hab : a < b) (hb : b ≤ 1099511627775) : PnOk [(a, na), (b, nb)] := ⟨by simp; exact hab, fun x hx => by simp at hx; omega, by simp⟩
theorem ins_two {a b na : Int} (hab : a < b) : insP [(a, na)] b = [(a, na), (b, 0)] ∧ ([(a, na)].map Prod.fst).contains b = false := by
  refine ⟨?_, by simp; omega⟩
  unfold insP
  have : posK ([(a, na)].map Prod.fst) b = 1 := by unfold posK; simp [hab]
  rw [this]
  rfl
theorem below_none {W W1 : World} (h : W.grownBy W1 none) : Below W.heap.size W W1 := ⟨h.os, h.tape, h.output, h.size, fun j hj => h.block j hj (by simp)⟩
/-- One more, behind one that is there; another row stays. -/
theorem ap_more {wr w8 w9 w10 : World} {A8 A9 : Option Addr} {c8 c9 : Nat} {a b : Int} {v10 : Value} (HB9 : Below wr.heap.size wr w9) (HO8 : w9.ownsRow wr.heap.size 3 1 (.slice A8 ([a] : List Int).length c8) ([a] : List Int).length (nums .i64 [a])) (HO9 : w9.ownsRow w8.heap.size 3 1 (.slice A9 ([a] : List Int).length c9) ([a] : List Int).length (nums .i64 [a])) (h89 : wr.heap.size ≤ w8.heap.size)
    (hown : w10.ownsRow wr.heap.size 3 1 v10 (([a] : List Int).length + 1) (nums .i64 [a] ++ [.int .i64 b])) (hgr : (w9.alloc (.cells #[.int .i64 b] 3)).grownBy w10 (Value.slice A8 ([a] : List Int).length c8).ownBlock) (hne : ∀ k, (Value.slice A8 ([a] : List Int).length c8).ownBlock = some k → (Value.slice A9 ([a] : List Int).length c9).ownBlock ≠ some k) :
    w10.ownsRow wr.heap.size 3 1 v10 ([a, b] : List Int).length (nums .i64 [a, b]) ∧ w10.ownsRow w8.heap.size 3 1 (.slice A9 ([a] : List Int).length c9) ([a] : List Int).length (nums .i64 [a]) ∧ Below wr.heap.size wr w10 := by
  have hbA : Below w9.heap.size w9 (w9.alloc (.cells #[.int .i64 b] 3)) := (Below.refl _ _).alloc (Nat.le_refl _) _
  have hkb := own_base HO8
  refine ⟨hown, (pw_own_below HO9 hbA).kept hgr ?_, pw_below_grown (below2 HB9 hbA) _ (below2 HB9 hbA).size hgr (fun k e => hkb k e)⟩
  cases ho : (Value.slice A9 ([a] : List Int).length c9).ownBlock with
  | none => exact .inl rfl
  | some k => exact .inr (fun e => hne k e.symm ho)
def postilionlaw10_ProbeApart.f (_every _a _b : Int) (_one _two : List Bool) : Option Bool := some true
/-- What is true of two plans between two rounds. -/
def ApIn (w1 : World) (P Q : Nat) (rp rq : Value) (a b every : Int) (W : World) : Prop := ∃ na nb, PnRaw w1 P rp [(a, na), (b, nb)] every W ∧ PnRaw w1 Q rq [(a, na)] every W
set_option maxRecDepth 50000 in
set_option maxHeartbeats 32000000 in
theorem postilionlaw10_ProbeApart.calls (every a b : Int) (A3 : Option Addr) (c3 : Nat) (l : List Bool) (A4 : Option Addr) (c4 : Nat) (m : List Bool) (r : Bool) (w : World) (hC : Kd.bool.C w A3 l.length l) (hc : l.length ≤ c3) (hC4 : Kd.bool.C w A4 m.length m) (hc4 : m.length ≤ c4) (h : postilionlaw10_ProbeApart.f every a b l m = some r) (hT : Aside0 (r = true)) :
    Calls Try.prog 4 #[.int .i64 every, .int .i64 a, .int .i64 b, .slice A3 l.length c3, .slice A4 m.length c4] w fun e w' => e = .returned (.bool r) ∧ Below w.heap.size w w' := by
  obtain rfl := hT.out
  clear h
  have HC := Aside0.mk hC
  have HC4 := Aside0.mk hC4
  clear hC hc hC4 hc4
  have AW := pz_awake w
  by_cases hg : 1 ≤ every ∧ every ≤ 1000 ∧ 1 ≤ a ∧ a < b ∧ b ≤ 1099511627775 ∧ l.length ≤ 200
  · obtain ⟨g1, g2, g3, g4, g5, g6⟩ := hg
    have q1 : decide (every < 1) = false := decide_eq_false (by omega)
    have q2 : decide (1000 < every) = false := decide_eq_false (by omega)
    have q3 : decide (a < 1) = false := decide_eq_false (by omega)
    have q4 : decide (b ≤ a) = false := decide_eq_false (by omega)
    have q5 : decide (1099511627775 < b) = false := decide_eq_false (by omega)
    have q6 : decide (200 < (l.length : Int)) = false := decide_eq_false (by omega)
    have hfit : fitsB every = true := by unfold fitsB; rw [decide_eq_true g1, decide_eq_true g2]; rfl
    have NW := Aside0.mk (fun (W : World) => pz_New every W hfit)
    clear hfit
    have AA := Aside0.mk (fun (w0 W : World) (P : Nat) (h : PnRaw w0 P (.slice none 0 0) [] every W) => (by
      have h2 := pz_Add_at h pz_ok_nil (by omega) a ⟨g3, by omega⟩ rfl (by decide)
      rw [(add_one (key := a) ⟨g3, by omega⟩).2] at h2
      exact h2 : Calls Try.prog 9 #[.pointer (some ⟨P, 0, none⟩), .int .i64 a] W fun e W' => e = .returned (.int .i64 0) ∧ ∃ rv', PnRaw w0 P rv' [(a, 0)] every W' ∧ PnMv P (.slice none 0 0) W W' ∧ (rv'.ownBlock = (Value.slice none 0 0).ownBlock ∨ ∃ b, rv'.ownBlock = some b ∧ W.heap.size ≤ b)))
    have AB := Aside0.mk (fun (w0 W : World) (P : Nat) (rv : Value) (h : PnRaw w0 P rv [(a, 0)] every W) => (by
      have h2 := pz_Add_at h (ok_one ⟨g3, by omega⟩) (by omega) b ⟨by omega, g5⟩ (ins_two g4).2 (by simp)
      rw [(ins_two g4).1] at h2
      exact h2 : Calls Try.prog 9 #[.pointer (some ⟨P, 0, none⟩), .int .i64 b] W fun e W' => e = .returned (.int .i64 0) ∧ ∃ rv', PnRaw w0 P rv' [(a, 0), (b, 0)] every W' ∧ PnMv P rv W W' ∧ (rv'.ownBlock = rv.ownBlock ∨ ∃ b, rv'.ownBlock = some b ∧ W.heap.size ≤ b)))
    go_enter Try.func4, Try.ntmps4
    go_wp2_with (first | (go_at_call 7; (with_reducible refine AW.mono ?_); rintro e w1 ⟨rfl, hb1⟩; have NW1 := NW.out w1))
    (with_reducible refine NW1.mono ?_)
    rintro e w2 ⟨rfl, hw2⟩
    have rp2 : PnRaw w1 w1.heap.size (.slice none 0 0) [] every w2 := by rw [hw2]; exact pz_made every w1
    have hs2 : w2.heap.size = w1.heap.size + 1 := by rw [hw2, World.size_alloc]
    have RP2 := Aside0.mk (And.intro rp2 hs2)
    have NW2 := NW.out w2
    clear NW1 hw2 rp2 hs2
    go_wp2_with fail
    (with_reducible refine NW2.mono ?_)
    rintro e w3 ⟨rfl, hw3⟩
    have hb3 : Below w2.heap.size w2 w3 := by rw [hw3]; exact (Below.refl _ _).alloc (Nat.le_refl _) _
    have rp3 := RP2.out.1.below hb3
    have rq3 : PnRaw w1 w2.heap.size (.slice none 0 0) [] every w3 := ⟨by rw [RP2.out.2]; omega, by rw [hw3]; exact blk_new w2 _, World.ownsRow_nil _ _ _ _, rp3.hB⟩
    have RQ3 := Aside0.mk rq3
    have RP3 := Aside0.mk rp3
    have A3a := AA.out w1 w3 w1.heap.size rp3
    have HPQ := Aside0.mk (show w1.heap.size ≠ w2.heap.size by rw [RP2.out.2]; omega)
    clear NW2 hw3 rp3 rq3 hb3
    go_wp2_with fail
    (with_reducible refine A3a.mono ?_)
    rintro e w4 ⟨rfl, rv4, rp4, m4, at4⟩
    have RQ4 := Aside0.mk (pz_other RQ3.out RP3.out m4 (fun k e => by cases e) HPQ.out rp4.hB)
    have RP4 := Aside0.mk rp4
    have A4b := AB.out w1 w4 w1.heap.size rv4 rp4
    clear A3a rp4 m4 at4
    go_wp2_with fail
    (with_reducible refine A4b.mono ?_)
    rintro e w5 ⟨rfl, rp, rp5, m5, at5⟩
    have RQ5 := Aside0.mk (pz_other RQ4.out RP4.out m5 (fun k e => by intro h; cases h) HPQ.out rp5.hB)
    have RP5 := Aside0.mk rp5
    have A5a := AA.out w1 w5 w2.heap.size RQ5.out
    clear A4b rp5 m5 at5
    go_wp2_with fail
    (with_reducible refine A5a.mono ?_)
    rintro e w6 ⟨rfl, rq, rq6, m6, at6⟩
    have RP6 := Aside0.mk (pz_other RP5.out RQ5.out m6 (fun k e => by cases e) (fun e => HPQ.out e.symm) rq6.hB)
    have RQ6 := Aside0.mk rq6
    have HNE := Aside0.mk (fun (k : Nat) (hk : rp.ownBlock = some k) => (show rq.ownBlock ≠ some k from fun e => by
      have hlt := own_lt RP5.out.hr k hk
      rcases at6 with h | ⟨b2, h, hb2⟩
      · rw [h] at e
        cases e
      · rw [h] at e
        have := Option.some.inj e
        omega))
    clear A5a rq6 m6 at6
    go_wp2_with fail
    go_loopw [15] (fun ii wr => ∃ i : Nat, i ≤ l.length ∧ ii = .int .i64 (i : Int) ∧ Aside0 (ApIn w1 w1.heap.size w2.heap.size rp rq a b every wr)) (fun ii _ => l.length - (intOf ii).toNat)
    case atStart => exact ⟨0, Nat.zero_le _, rfl, ⟨0, 0, RP6.out, RQ6.out⟩⟩
    case round =>
      obtain ⟨i, hil, rfl, hin⟩ := hrel
      obtain ⟨na, nb, hp, hq⟩ := hin.out
      have HP := Aside0.mk hp
      have HQ := Aside0.mk hq
      by_cases hlt : i < l.length
      · have p1 : decide ((i : Int) < (l.length : Int)) = true := decide_eq_true (by omega)
        have i1 : (0 : Int) ≤ (i : Int) := by omega
        obtain ⟨ad, e, d0⟩ := Kd.at_bool (Kd.C_below HC.out (below2 hb1 hp.hB)) (i : Int) (by omega) (by omega)
        subst e
        rw [Int.toNat_natCast] at d0
        generalize rdOf false l (i : Int) = o at d0
        clear hp hq hin
        obtain ⟨i0, hi, hz0, hz1, hz2⟩ := info_parts infoIntP
        have hba : (b == a) = false := beq_eq_false_iff_ne.mpr (by omega)
        cases o with
        | false =>
          by_cases hml : i < m.length
          · have p5 : decide ((i : Int) < (m.length : Int)) = true := decide_eq_true (by omega)
            obtain ⟨ad4, e4, d4⟩ := Kd.at_bool (Kd.C_below HC4.out (below2 hb1 HP.out.hB)) (i : Int) (by omega) (by omega)
            subst e4
            rw [Int.toNat_natCast] at d4
            generalize rdOf false m (i : Int) = tb at d4
            cases tb with
            | false =>
              go_wp2_with fail
              have HPu := Aside0.mk (HP.out.below (Below.refl _ wr))
              have HQu := Aside0.mk (HQ.out.below (Below.refl _ wr))
              have PR : Calls Try.prog 11 #[.pointer (some ⟨w1.heap.size, 0, none⟩), .int .i64 (i : Int), .slice none 0 0] wr (RoundEnd w1 w1.heap.size rp [(a, na), (b, nb)] every (i : Int) [] wr) := pz_Round (c := 0) HPu.out (ok_two g3 g4 g5) ⟨g1, g2⟩ (i : Int) ⟨by omega, by omega⟩ (.inl rfl) (by simp)
              have IA := Aside0.mk (show IntsAt w1.heap.size wr.heap.size none [] wr from .inl rfl)
              (with_reducible refine PR.mono ?_)
              rintro e w11 ⟨x, rfl, hx, hp11, m11⟩
              have HQ11 := Aside0.mk (pz_other HQu.out HPu.out m11 HNE.out HPQ.out hp11.hB)
              have IA2 := Aside0.mk ((IA.out.mv (Nat.le_refl _) HPu.out m11).more m11.size)
              have QR : Calls Try.prog 11 #[.pointer (some ⟨w2.heap.size, 0, none⟩), .int .i64 (i : Int), .slice none 0 0] w11 (RoundEnd w1 w2.heap.size rq [(a, na)] every (i : Int) [] w11) := pz_Round (c := 0) HQ11.out (ok_one ⟨g3, by omega⟩) ⟨g1, g2⟩ (i : Int) ⟨by omega, by omega⟩ IA2.out (by simp)
              have AR := ap_round a b na nb (i : Int) every false false g4
              have AR2 := Aside0.mk (And.intro AR.2.1 AR.2.2.2)
              have e1 : roundO [] (i : Int) [(a, na), (b, nb)] = [] := by have := AR.1; simpa using this
              have e2 : roundO [] (i : Int) [(a, na)] = [] := by have := AR.2.2.1; simpa using this
              rw [e1] at hx
              have HE2 := Aside0.mk e2
              have HX := Aside0.mk hx
              have HP11 := Aside0.mk hp11
              obtain ⟨Ax, cx, ex⟩ := own_slice hx
              subst ex
              clear hx e1 e2 AR hp11
              go_wp2_with fail
              (with_reducible refine QR.mono ?_)
              rintro e w12 ⟨y, rfl, hy, hq12, m12⟩
              rw [HE2.out] at hy
              have hx2 := pz_row HX.out HQ11.out m12
              have hp12 := pz_other HP11.out HQ11.out m12 (fun k h1 h2 => HNE.out k h2 h1) (fun e => HPQ.out e.symm) hq12.hB
              have AP := Aside0.mk (show ApIn w1 w1.heap.size w2.heap.size rp rq a b every w12 from ⟨_, _, (by rw [← AR2.out.1]; exact hp12), (by rw [← AR2.out.2]; exact hq12)⟩)
              obtain ⟨Ay, cy, ey⟩ := own_slice hy
              subst ey
              clear hx2 hp12 hq12 hy m12 m11 QR PR
              go_wp2_with fail
              exact ⟨⟨i + 1, by omega, by simp, AP⟩, by simp [intOf]; omega⟩
            | true =>
              have HN1 := Aside0.mk (World.news_of_block (cs := #[.int .i64 b]) (blk_new wr (.cells #[.int .i64 b] 3)))
              go_wp2_with (at_builtin; refine wpList_append_own_at _ rfl _ _ 30 rfl wr.heap.size 3 i0 (.int .i64 0) 1 8 Try.underlying30 hi hz0 hz1 hz2 rfl (by decide) _ _ _ rfl (World.ownsRow_nil _ _ _ _) ⟨wr.heap.size, 0, none⟩ 1 1 [.int .i64 b] rfl rfl HN1.out (by simp [Value.oneCell']) (by unfold maxLen; simp) (by simp) (by simp) ?_; intro v8 w8 hown8 hgr8 _ _; have HB8 := Aside0.mk (below2 ((Below.refl _ wr).alloc (Nat.le_refl _) (.cells #[.int .i64 b] 3)) (below_none hgr8)); have HO8 := Aside0.mk (show w8.ownsRow wr.heap.size 3 1 v8 ([b] : List Int).length (nums .i64 [b]) from hown8); obtain ⟨A8, c8, ev8⟩ := own_slice HO8.out; subst ev8; clear hown8 hgr8)
              have HPu := Aside0.mk (HP.out.below HB8.out)
              have HQu := Aside0.mk (HQ.out.below HB8.out)
              have PR : Calls Try.prog 11 #[.pointer (some ⟨w1.heap.size, 0, none⟩), .int .i64 (i : Int), .slice A8 1 c8] w8 (RoundEnd w1 w1.heap.size rp [(a, na), (b, nb)] every (i : Int) [b] w8) := pz_Round (c := c8) HPu.out (ok_two g3 g4 g5) ⟨g1, g2⟩ (i : Int) ⟨by omega, by omega⟩ (ints_own (c := c8) (xs := [b]) HO8.out) (by simp)
              have IA := Aside0.mk (show IntsAt w1.heap.size w8.heap.size none [] w8 from .inl rfl)
              (with_reducible refine PR.mono ?_)
              rintro e w11 ⟨x, rfl, hx, hp11, m11⟩
              have HQ11 := Aside0.mk (pz_other HQu.out HPu.out m11 HNE.out HPQ.out hp11.hB)
              have IA2 := Aside0.mk ((IA.out.mv (Nat.le_refl _) HPu.out m11).more m11.size)
              have QR : Calls Try.prog 11 #[.pointer (some ⟨w2.heap.size, 0, none⟩), .int .i64 (i : Int), .slice none 0 0] w11 (RoundEnd w1 w2.heap.size rq [(a, na)] every (i : Int) [] w11) := pz_Round (c := 0) HQ11.out (ok_one ⟨g3, by omega⟩) ⟨g1, g2⟩ (i : Int) ⟨by omega, by omega⟩ IA2.out (by simp)
              have AR := ap_round a b na nb (i : Int) every false true g4
              have AR2 := Aside0.mk (And.intro AR.2.1 AR.2.2.2)
              by_cases hdb : nb ≤ (i : Int)
              · skip
                have e1 : roundO [b] (i : Int) [(a, na), (b, nb)] = [b] := by have := AR.1; simpa [hdb] using this
                have e2 : roundO [] (i : Int) [(a, na)] = [] := by have := AR.2.2.1; simpa using this
                rw [e1] at hx
                have HE2 := Aside0.mk e2
                have HX := Aside0.mk hx
                have HP11 := Aside0.mk hp11
                obtain ⟨Ax, cx, ex⟩ := own_slice hx
                subst ex
                clear hx e1 e2 AR hp11 hdb
                go_wp2_with fail
                (with_reducible refine QR.mono ?_)
                rintro e w12 ⟨y, rfl, hy, hq12, m12⟩
                rw [HE2.out] at hy
                have hx2 := pz_row HX.out HQ11.out m12
                have hp12 := pz_other HP11.out HQ11.out m12 (fun k h1 h2 => HNE.out k h2 h1) (fun e => HPQ.out e.symm) hq12.hB
                have AP := Aside0.mk (show ApIn w1 w1.heap.size w2.heap.size rp rq a b every w12 from ⟨_, _, (by rw [← AR2.out.1]; exact hp12), (by rw [← AR2.out.2]; exact hq12)⟩)
                obtain ⟨Ay, cy, ey⟩ := own_slice hy
                subst ey
                rcases own1_form hx2 with ⟨_, h0⟩ | ⟨gx, qx, curx, evx, _, _, _, _, _, _, hcx⟩
                · cases h0
                obtain rfl : Ax = some ⟨gx, 0, none⟩ := (Value.slice.inj evx).1
                have dx : w12.cell? ⟨gx, 0, none⟩ = some (.int .i64 b) := hcx 0 (by simp)
                clear hcx evx
                clear hx2 hp12 hq12 hy m12 m11 QR PR
                go_wp2_with fail
                exact ⟨⟨i + 1, by omega, by simp, AP⟩, by simp [intOf]; omega⟩
              · skip
                have e1 : roundO [b] (i : Int) [(a, na), (b, nb)] = [] := by have := AR.1; simpa [hdb] using this
                have e2 : roundO [] (i : Int) [(a, na)] = [] := by have := AR.2.2.1; simpa using this
                rw [e1] at hx
                have HE2 := Aside0.mk e2
                have HX := Aside0.mk hx
                have HP11 := Aside0.mk hp11
                obtain ⟨Ax, cx, ex⟩ := own_slice hx
                subst ex
                clear hx e1 e2 AR hp11 hdb
                go_wp2_with fail
                (with_reducible refine QR.mono ?_)
                rintro e w12 ⟨y, rfl, hy, hq12, m12⟩
                rw [HE2.out] at hy
                have hx2 := pz_row HX.out HQ11.out m12
                have hp12 := pz_other HP11.out HQ11.out m12 (fun k h1 h2 => HNE.out k h2 h1) (fun e => HPQ.out e.symm) hq12.hB
                have AP := Aside0.mk (show ApIn w1 w1.heap.size w2.heap.size rp rq a b every w12 from ⟨_, _, (by rw [← AR2.out.1]; exact hp12), (by rw [← AR2.out.2]; exact hq12)⟩)
                obtain ⟨Ay, cy, ey⟩ := own_slice hy
                subst ey
                clear hx2 hp12 hq12 hy m12 m11 QR PR
                go_wp2_with fail
                exact ⟨⟨i + 1, by omega, by simp, AP⟩, by simp [intOf]; omega⟩
          · have p5 : decide ((i : Int) < (m.length : Int)) = false := decide_eq_false (by omega)
            go_wp2_with fail
            have HPu := Aside0.mk (HP.out.below (Below.refl _ wr))
            have HQu := Aside0.mk (HQ.out.below (Below.refl _ wr))
            have PR : Calls Try.prog 11 #[.pointer (some ⟨w1.heap.size, 0, none⟩), .int .i64 (i : Int), .slice none 0 0] wr (RoundEnd w1 w1.heap.size rp [(a, na), (b, nb)] every (i : Int) [] wr) := pz_Round (c := 0) HPu.out (ok_two g3 g4 g5) ⟨g1, g2⟩ (i : Int) ⟨by omega, by omega⟩ (.inl rfl) (by simp)
            have IA := Aside0.mk (show IntsAt w1.heap.size wr.heap.size none [] wr from .inl rfl)
            (with_reducible refine PR.mono ?_)
            rintro e w11 ⟨x, rfl, hx, hp11, m11⟩
            have HQ11 := Aside0.mk (pz_other HQu.out HPu.out m11 HNE.out HPQ.out hp11.hB)
            have IA2 := Aside0.mk ((IA.out.mv (Nat.le_refl _) HPu.out m11).more m11.size)
            have QR : Calls Try.prog 11 #[.pointer (some ⟨w2.heap.size, 0, none⟩), .int .i64 (i : Int), .slice none 0 0] w11 (RoundEnd w1 w2.heap.size rq [(a, na)] every (i : Int) [] w11) := pz_Round (c := 0) HQ11.out (ok_one ⟨g3, by omega⟩) ⟨g1, g2⟩ (i : Int) ⟨by omega, by omega⟩ IA2.out (by simp)
            have AR := ap_round a b na nb (i : Int) every false false g4
            have AR2 := Aside0.mk (And.intro AR.2.1 AR.2.2.2)
            have e1 : roundO [] (i : Int) [(a, na), (b, nb)] = [] := by have := AR.1; simpa using this
            have e2 : roundO [] (i : Int) [(a, na)] = [] := by have := AR.2.2.1; simpa using this
            rw [e1] at hx
            have HE2 := Aside0.mk e2
            have HX := Aside0.mk hx
            have HP11 := Aside0.mk hp11
            obtain ⟨Ax, cx, ex⟩ := own_slice hx
            subst ex
            clear hx e1 e2 AR hp11
            go_wp2_with fail
            (with_reducible refine QR.mono ?_)
            rintro e w12 ⟨y, rfl, hy, hq12, m12⟩
            rw [HE2.out] at hy
            have hx2 := pz_row HX.out HQ11.out m12
            have hp12 := pz_other HP11.out HQ11.out m12 (fun k h1 h2 => HNE.out k h2 h1) (fun e => HPQ.out e.symm) hq12.hB
            have AP := Aside0.mk (show ApIn w1 w1.heap.size w2.heap.size rp rq a b every w12 from ⟨_, _, (by rw [← AR2.out.1]; exact hp12), (by rw [← AR2.out.2]; exact hq12)⟩)
            obtain ⟨Ay, cy, ey⟩ := own_slice hy
            subst ey
            clear hx2 hp12 hq12 hy m12 m11 QR PR
            go_wp2_with fail
            exact ⟨⟨i + 1, by omega, by simp, AP⟩, by simp [intOf]; omega⟩
        | true =>
          by_cases hml : i < m.length
          · have p5 : decide ((i : Int) < (m.length : Int)) = true := decide_eq_true (by omega)
            obtain ⟨ad4, e4, d4⟩ := Kd.at_bool (Kd.C_below HC4.out (below2 hb1 HP.out.hB)) (i : Int) (by omega) (by omega)
            subst e4
            rw [Int.toNat_natCast] at d4
            generalize rdOf false m (i : Int) = tb at d4
            cases tb with
            | false =>
              have HN1 := Aside0.mk (World.news_of_block (cs := #[.int .i64 a]) (blk_new wr (.cells #[.int .i64 a] 3)))
              go_wp2_with (first | (at_builtin; refine wpList_append_own_at _ rfl _ _ 30 rfl wr.heap.size 3 i0 (.int .i64 0) 1 8 Try.underlying30 hi hz0 hz1 hz2 rfl (by decide) _ _ _ rfl (World.ownsRow_nil _ _ _ _) ⟨wr.heap.size, 0, none⟩ 1 1 [.int .i64 a] rfl rfl HN1.out (by simp [Value.oneCell']) (by unfold maxLen; simp) (by simp) (by simp) ?_; intro v8 w8 hown8 hgr8 _ _; have HB8 := Aside0.mk (below2 ((Below.refl _ wr).alloc (Nat.le_refl _) (.cells #[.int .i64 a] 3)) (below_none hgr8)); have HO8 := Aside0.mk (show w8.ownsRow wr.heap.size 3 1 v8 ([a] : List Int).length (nums .i64 [a]) from hown8); obtain ⟨A8, c8, ev8⟩ := own_slice HO8.out; subst ev8; have HN2 := Aside0.mk (World.news_of_block (cs := #[.int .i64 a]) (blk_new w8 (.cells #[.int .i64 a] 3))); clear hown8 hgr8; have d8 := pw_cell_below HB8.out d4) | (at_builtin; refine wpList_append_own_at _ rfl _ _ 30 rfl w8.heap.size 3 i0 (.int .i64 0) 1 8 Try.underlying30 hi hz0 hz1 hz2 rfl (by decide) _ _ _ rfl (World.ownsRow_nil _ _ _ _) ⟨w8.heap.size, 0, none⟩ 1 1 [.int .i64 a] rfl rfl HN2.out (by simp [Value.oneCell']) (by unfold maxLen; simp) (by simp) (by simp) ?_; intro v9 w9 hown9 hgr9 _ _; have hb89 : Below w8.heap.size w8 w9 := below2 ((Below.refl _ w8).alloc (Nat.le_refl _) (.cells #[.int .i64 a] 3)) (below_none hgr9); have HB9 := Aside0.mk (below2 HB8.out hb89); have HO9 := Aside0.mk (show w9.ownsRow w8.heap.size 3 1 v9 ([a] : List Int).length (nums .i64 [a]) from hown9); have HO8b := Aside0.mk (pw_own_below HO8.out hb89); obtain ⟨A9, c9, ev9⟩ := own_slice HO9.out; subst ev9; clear hown9 hgr9; have d9 := pw_cell_below hb89 d8))
              have HPu := Aside0.mk (HP.out.below HB9.out)
              have HQu := Aside0.mk (HQ.out.below HB9.out)
              have PR : Calls Try.prog 11 #[.pointer (some ⟨w1.heap.size, 0, none⟩), .int .i64 (i : Int), .slice A8 1 c8] w9 (RoundEnd w1 w1.heap.size rp [(a, na), (b, nb)] every (i : Int) [a] w9) := pz_Round (c := c8) HPu.out (ok_two g3 g4 g5) ⟨g1, g2⟩ (i : Int) ⟨by omega, by omega⟩ (ints_own (c := c8) (xs := [a]) HO8b.out) (by simp)
              have IA := Aside0.mk (show IntsAt w1.heap.size w9.heap.size A9 [a] w9 from ints_own (c := c9) (xs := [a]) HO9.out)
              (with_reducible refine PR.mono ?_)
              rintro e w11 ⟨x, rfl, hx, hp11, m11⟩
              have HQ11 := Aside0.mk (pz_other HQu.out HPu.out m11 HNE.out HPQ.out hp11.hB)
              have IA2 := Aside0.mk ((IA.out.mv (Nat.le_refl _) HPu.out m11).more m11.size)
              have QR : Calls Try.prog 11 #[.pointer (some ⟨w2.heap.size, 0, none⟩), .int .i64 (i : Int), .slice A9 1 c9] w11 (RoundEnd w1 w2.heap.size rq [(a, na)] every (i : Int) [a] w11) := pz_Round (c := c9) HQ11.out (ok_one ⟨g3, by omega⟩) ⟨g1, g2⟩ (i : Int) ⟨by omega, by omega⟩ IA2.out (by simp)
              have AR := ap_round a b na nb (i : Int) every true false g4
              have AR2 := Aside0.mk (And.intro AR.2.1 AR.2.2.2)
              by_cases hda : na ≤ (i : Int)
              · skip
                have e1 : roundO [a] (i : Int) [(a, na), (b, nb)] = [a] := by have := AR.1; simpa [hda] using this
                have e2 : roundO [a] (i : Int) [(a, na)] = [a] := by have := AR.2.2.1; simpa [hda] using this
                rw [e1] at hx
                have HE2 := Aside0.mk e2
                have HX := Aside0.mk hx
                have HP11 := Aside0.mk hp11
                obtain ⟨Ax, cx, ex⟩ := own_slice hx
                subst ex
                clear hx e1 e2 AR hp11 hda
                go_wp2_with fail
                (with_reducible refine QR.mono ?_)
                rintro e w12 ⟨y, rfl, hy, hq12, m12⟩
                rw [HE2.out] at hy
                have hx2 := pz_row HX.out HQ11.out m12
                have hp12 := pz_other HP11.out HQ11.out m12 (fun k h1 h2 => HNE.out k h2 h1) (fun e => HPQ.out e.symm) hq12.hB
                have AP := Aside0.mk (show ApIn w1 w1.heap.size w2.heap.size rp rq a b every w12 from ⟨_, _, (by rw [← AR2.out.1]; exact hp12), (by rw [← AR2.out.2]; exact hq12)⟩)
                obtain ⟨Ay, cy, ey⟩ := own_slice hy
                subst ey
                rcases own1_form hx2 with ⟨_, h0⟩ | ⟨gx, qx, curx, evx, _, _, _, _, _, _, hcx⟩
                · cases h0
                obtain rfl : Ax = some ⟨gx, 0, none⟩ := (Value.slice.inj evx).1
                have dx : w12.cell? ⟨gx, 0, none⟩ = some (.int .i64 a) := hcx 0 (by simp)
                clear hcx evx
                clear hx2 hp12 hq12 hy m12 m11 QR PR
                go_wp2_with fail
                exact ⟨⟨i + 1, by omega, by simp, AP⟩, by simp [intOf]; omega⟩
              · skip
                have e1 : roundO [a] (i : Int) [(a, na), (b, nb)] = [] := by have := AR.1; simpa [hda] using this
                have e2 : roundO [a] (i : Int) [(a, na)] = [] := by have := AR.2.2.1; simpa [hda] using this
                rw [e1] at hx
                have HE2 := Aside0.mk e2
                have HX := Aside0.mk hx
                have HP11 := Aside0.mk hp11
                obtain ⟨Ax, cx, ex⟩ := own_slice hx
                subst ex
                clear hx e1 e2 AR hp11 hda
                go_wp2_with fail
                (with_reducible refine QR.mono ?_)
                rintro e w12 ⟨y, rfl, hy, hq12, m12⟩
                rw [HE2.out] at hy
                have hx2 := pz_row HX.out HQ11.out m12
                have hp12 := pz_other HP11.out HQ11.out m12 (fun k h1 h2 => HNE.out k h2 h1) (fun e => HPQ.out e.symm) hq12.hB
                have AP := Aside0.mk (show ApIn w1 w1.heap.size w2.heap.size rp rq a b every w12 from ⟨_, _, (by rw [← AR2.out.1]; exact hp12), (by rw [← AR2.out.2]; exact hq12)⟩)
                obtain ⟨Ay, cy, ey⟩ := own_slice hy
                subst ey
                clear hx2 hp12 hq12 hy m12 m11 QR PR
                go_wp2_with fail
                exact ⟨⟨i + 1, by omega, by simp, AP⟩, by simp [intOf]; omega⟩
            | true =>
              have HN1 := Aside0.mk (World.news_of_block (cs := #[.int .i64 a]) (blk_new wr (.cells #[.int .i64 a] 3)))
              go_wp2_with (first | (at_builtin; refine wpList_append_own_at _ rfl _ _ 30 rfl wr.heap.size 3 i0 (.int .i64 0) 1 8 Try.underlying30 hi hz0 hz1 hz2 rfl (by decide) _ _ _ rfl (World.ownsRow_nil _ _ _ _) ⟨wr.heap.size, 0, none⟩ 1 1 [.int .i64 a] rfl rfl HN1.out (by simp [Value.oneCell']) (by unfold maxLen; simp) (by simp) (by simp) ?_; intro v8 w8 hown8 hgr8 _ _; have HB8 := Aside0.mk (below2 ((Below.refl _ wr).alloc (Nat.le_refl _) (.cells #[.int .i64 a] 3)) (below_none hgr8)); have HO8 := Aside0.mk (show w8.ownsRow wr.heap.size 3 1 v8 ([a] : List Int).length (nums .i64 [a]) from hown8); obtain ⟨A8, c8, ev8⟩ := own_slice HO8.out; subst ev8; have HN2 := Aside0.mk (World.news_of_block (cs := #[.int .i64 a]) (blk_new w8 (.cells #[.int .i64 a] 3))); clear hown8 hgr8; have d8 := pw_cell_below HB8.out d4) | (at_builtin; refine wpList_append_own_at _ rfl _ _ 30 rfl w8.heap.size 3 i0 (.int .i64 0) 1 8 Try.underlying30 hi hz0 hz1 hz2 rfl (by decide) _ _ _ rfl (World.ownsRow_nil _ _ _ _) ⟨w8.heap.size, 0, none⟩ 1 1 [.int .i64 a] rfl rfl HN2.out (by simp [Value.oneCell']) (by unfold maxLen; simp) (by simp) (by simp) ?_; intro v9 w9 hown9 hgr9 _ _; have hb89 : Below w8.heap.size w8 w9 := below2 ((Below.refl _ w8).alloc (Nat.le_refl _) (.cells #[.int .i64 a] 3)) (below_none hgr9); have HB9 := Aside0.mk (below2 HB8.out hb89); have HO9 := Aside0.mk (show w9.ownsRow w8.heap.size 3 1 v9 ([a] : List Int).length (nums .i64 [a]) from hown9); have HO8b := Aside0.mk (pw_own_below HO8.out hb89); obtain ⟨A9, c9, ev9⟩ := own_slice HO9.out; subst ev9; clear hown9 hgr9; have d9 := pw_cell_below hb89 d8; have HN3 := Aside0.mk (World.news_of_block (cs := #[.int .i64 b]) (blk_new w9 (.cells #[.int .i64 b] 3)))) | (at_builtin; refine wpList_append_own_at _ rfl _ _ 30 rfl wr.heap.size 3 i0 (.int .i64 0) 1 8 Try.underlying30 hi hz0 hz1 hz2 rfl (by decide) _ _ _ rfl (pw_own_below HO8b.out ((Below.refl _ w9).alloc (Nat.le_refl _) (.cells #[.int .i64 b] 3))) ⟨w9.heap.size, 0, none⟩ 1 1 [.int .i64 b] rfl rfl HN3.out (by simp [Value.oneCell']) (by unfold maxLen; simp) (by simp) (by have := HB9.out.size; simp; omega) ?_; intro v10 w10 hown10 hgr10 _ _; have FF := Aside0.mk (ap_more HB9.out HO8b.out HO9.out HB8.out.size hown10 hgr10 (fun k h1 h2 => by have q1 := own_lt HO8.out k h1; have q2 := own_base HO9.out k h2; omega)); obtain ⟨A10, c10, ev10⟩ := own_slice FF.out.1; subst ev10; clear hown10 hgr10))
              have HPu := Aside0.mk (HP.out.below FF.out.2.2)
              have HQu := Aside0.mk (HQ.out.below FF.out.2.2)
              have PR : Calls Try.prog 11 #[.pointer (some ⟨w1.heap.size, 0, none⟩), .int .i64 (i : Int), .slice A10 2 c10] w10 (RoundEnd w1 w1.heap.size rp [(a, na), (b, nb)] every (i : Int) [a, b] w10) := pz_Round (c := c10) HPu.out (ok_two g3 g4 g5) ⟨g1, g2⟩ (i : Int) ⟨by omega, by omega⟩ (ints_own (c := c10) (xs := [a, b]) FF.out.1) (by simp)
              have IA := Aside0.mk (show IntsAt w1.heap.size w10.heap.size A9 [a] w10 from ints_own (c := c9) (xs := [a]) FF.out.2.1)
              (with_reducible refine PR.mono ?_)
              rintro e w11 ⟨x, rfl, hx, hp11, m11⟩
              have HQ11 := Aside0.mk (pz_other HQu.out HPu.out m11 HNE.out HPQ.out hp11.hB)
              have IA2 := Aside0.mk ((IA.out.mv (Nat.le_refl _) HPu.out m11).more m11.size)
              have QR : Calls Try.prog 11 #[.pointer (some ⟨w2.heap.size, 0, none⟩), .int .i64 (i : Int), .slice A9 1 c9] w11 (RoundEnd w1 w2.heap.size rq [(a, na)] every (i : Int) [a] w11) := pz_Round (c := c9) HQ11.out (ok_one ⟨g3, by omega⟩) ⟨g1, g2⟩ (i : Int) ⟨by omega, by omega⟩ IA2.out (by simp)
              have AR := ap_round a b na nb (i : Int) every true true g4
              have AR2 := Aside0.mk (And.intro AR.2.1 AR.2.2.2)
              by_cases hda : na ≤ (i : Int)
              · by_cases hdb : nb ≤ (i : Int)
                · skip
                  have e1 : roundO [a, b] (i : Int) [(a, na), (b, nb)] = [a, b] := by have := AR.1; simpa [hda, hdb] using this
                  have e2 : roundO [a] (i : Int) [(a, na)] = [a] := by have := AR.2.2.1; simpa [hda] using this
                  rw [e1] at hx
                  have HE2 := Aside0.mk e2
                  have HX := Aside0.mk hx
                  have HP11 := Aside0.mk hp11
                  obtain ⟨Ax, cx, ex⟩ := own_slice hx
                  subst ex
                  clear hx e1 e2 AR hp11 hda hdb
                  go_wp2_with fail
                  (with_reducible refine QR.mono ?_)
                  rintro e w12 ⟨y, rfl, hy, hq12, m12⟩
                  rw [HE2.out] at hy
                  have hx2 := pz_row HX.out HQ11.out m12
                  have hp12 := pz_other HP11.out HQ11.out m12 (fun k h1 h2 => HNE.out k h2 h1) (fun e => HPQ.out e.symm) hq12.hB
                  have AP := Aside0.mk (show ApIn w1 w1.heap.size w2.heap.size rp rq a b every w12 from ⟨_, _, (by rw [← AR2.out.1]; exact hp12), (by rw [← AR2.out.2]; exact hq12)⟩)
                  obtain ⟨Ay, cy, ey⟩ := own_slice hy
                  subst ey
                  rcases own1_form hx2 with ⟨_, h0⟩ | ⟨gx, qx, curx, evx, _, _, _, _, _, _, hcx⟩
                  · cases h0
                  obtain rfl : Ax = some ⟨gx, 0, none⟩ := (Value.slice.inj evx).1
                  have dx : w12.cell? ⟨gx, 0, none⟩ = some (.int .i64 a) := hcx 0 (by simp)
                  clear hcx evx
                  clear hx2 hp12 hq12 hy m12 m11 QR PR
                  go_wp2_with fail
                  exact ⟨⟨i + 1, by omega, by simp, AP⟩, by simp [intOf]; omega⟩
                · skip
                  have e1 : roundO [a, b] (i : Int) [(a, na), (b, nb)] = [a] := by have := AR.1; simpa [hda, hdb] using this
                  have e2 : roundO [a] (i : Int) [(a, na)] = [a] := by have := AR.2.2.1; simpa [hda] using this
                  rw [e1] at hx
                  have HE2 := Aside0.mk e2
                  have HX := Aside0.mk hx
                  have HP11 := Aside0.mk hp11
                  obtain ⟨Ax, cx, ex⟩ := own_slice hx
                  subst ex
                  clear hx e1 e2 AR hp11 hda hdb
                  go_wp2_with fail
                  (with_reducible refine QR.mono ?_)
                  rintro e w12 ⟨y, rfl, hy, hq12, m12⟩
                  rw [HE2.out] at hy
                  have hx2 := pz_row HX.out HQ11.out m12
                  have hp12 := pz_other HP11.out HQ11.out m12 (fun k h1 h2 => HNE.out k h2 h1) (fun e => HPQ.out e.symm) hq12.hB
                  have AP := Aside0.mk (show ApIn w1 w1.heap.size w2.heap.size rp rq a b every w12 from ⟨_, _, (by rw [← AR2.out.1]; exact hp12), (by rw [← AR2.out.2]; exact hq12)⟩)
                  obtain ⟨Ay, cy, ey⟩ := own_slice hy
                  subst ey
                  rcases own1_form hx2 with ⟨_, h0⟩ | ⟨gx, qx, curx, evx, _, _, _, _, _, _, hcx⟩
                  · cases h0
                  obtain rfl : Ax = some ⟨gx, 0, none⟩ := (Value.slice.inj evx).1
                  have dx : w12.cell? ⟨gx, 0, none⟩ = some (.int .i64 a) := hcx 0 (by simp)
                  clear hcx evx
                  clear hx2 hp12 hq12 hy m12 m11 QR PR
                  go_wp2_with fail
                  exact ⟨⟨i + 1, by omega, by simp, AP⟩, by simp [intOf]; omega⟩
              · by_cases hdb : nb ≤ (i : Int)
                · skip
                  have e1 : roundO [a, b] (i : Int) [(a, na), (b, nb)] = [b] := by have := AR.1; simpa [hda, hdb] using this
                  have e2 : roundO [a] (i : Int) [(a, na)] = [] := by have := AR.2.2.1; simpa [hda] using this
                  rw [e1] at hx
                  have HE2 := Aside0.mk e2
                  have HX := Aside0.mk hx
                  have HP11 := Aside0.mk hp11
                  obtain ⟨Ax, cx, ex⟩ := own_slice hx
                  subst ex
                  clear hx e1 e2 AR hp11 hda hdb
                  go_wp2_with fail
                  (with_reducible refine QR.mono ?_)
                  rintro e w12 ⟨y, rfl, hy, hq12, m12⟩
                  rw [HE2.out] at hy
                  have hx2 := pz_row HX.out HQ11.out m12
                  have hp12 := pz_other HP11.out HQ11.out m12 (fun k h1 h2 => HNE.out k h2 h1) (fun e => HPQ.out e.symm) hq12.hB
                  have AP := Aside0.mk (show ApIn w1 w1.heap.size w2.heap.size rp rq a b every w12 from ⟨_, _, (by rw [← AR2.out.1]; exact hp12), (by rw [← AR2.out.2]; exact hq12)⟩)
                  obtain ⟨Ay, cy, ey⟩ := own_slice hy
                  subst ey
                  rcases own1_form hx2 with ⟨_, h0⟩ | ⟨gx, qx, curx, evx, _, _, _, _, _, _, hcx⟩
                  · cases h0
                  obtain rfl : Ax = some ⟨gx, 0, none⟩ := (Value.slice.inj evx).1
                  have dx : w12.cell? ⟨gx, 0, none⟩ = some (.int .i64 b) := hcx 0 (by simp)
                  clear hcx evx
                  clear hx2 hp12 hq12 hy m12 m11 QR PR
                  go_wp2_with fail
                  exact ⟨⟨i + 1, by omega, by simp, AP⟩, by simp [intOf]; omega⟩
                · skip
                  have e1 : roundO [a, b] (i : Int) [(a, na), (b, nb)] = [] := by have := AR.1; simpa [hda, hdb] using this
                  have e2 : roundO [a] (i : Int) [(a, na)] = [] := by have := AR.2.2.1; simpa [hda] using this
                  rw [e1] at hx
                  have HE2 := Aside0.mk e2
                  have HX := Aside0.mk hx
                  have HP11 := Aside0.mk hp11
                  obtain ⟨Ax, cx, ex⟩ := own_slice hx
                  subst ex
                  clear hx e1 e2 AR hp11 hda hdb
                  go_wp2_with fail
                  (with_reducible refine QR.mono ?_)
                  rintro e w12 ⟨y, rfl, hy, hq12, m12⟩
                  rw [HE2.out] at hy
                  have hx2 := pz_row HX.out HQ11.out m12
                  have hp12 := pz_other HP11.out HQ11.out m12 (fun k h1 h2 => HNE.out k h2 h1) (fun e => HPQ.out e.symm) hq12.hB
                  have AP := Aside0.mk (show ApIn w1 w1.heap.size w2.heap.size rp rq a b every w12 from ⟨_, _, (by rw [← AR2.out.1]; exact hp12), (by rw [← AR2.out.2]; exact hq12)⟩)
                  obtain ⟨Ay, cy, ey⟩ := own_slice hy
                  subst ey
                  clear hx2 hp12 hq12 hy m12 m11 QR PR
                  go_wp2_with fail
                  exact ⟨⟨i + 1, by omega, by simp, AP⟩, by simp [intOf]; omega⟩
          · have p5 : decide ((i : Int) < (m.length : Int)) = false := decide_eq_false (by omega)
            have HN1 := Aside0.mk (World.news_of_block (cs := #[.int .i64 a]) (blk_new wr (.cells #[.int .i64 a] 3)))
            go_wp2_with (first | (at_builtin; refine wpList_append_own_at _ rfl _ _ 30 rfl wr.heap.size 3 i0 (.int .i64 0) 1 8 Try.underlying30 hi hz0 hz1 hz2 rfl (by decide) _ _ _ rfl (World.ownsRow_nil _ _ _ _) ⟨wr.heap.size, 0, none⟩ 1 1 [.int .i64 a] rfl rfl HN1.out (by simp [Value.oneCell']) (by unfold maxLen; simp) (by simp) (by simp) ?_; intro v8 w8 hown8 hgr8 _ _; have HB8 := Aside0.mk (below2 ((Below.refl _ wr).alloc (Nat.le_refl _) (.cells #[.int .i64 a] 3)) (below_none hgr8)); have HO8 := Aside0.mk (show w8.ownsRow wr.heap.size 3 1 v8 ([a] : List Int).length (nums .i64 [a]) from hown8); obtain ⟨A8, c8, ev8⟩ := own_slice HO8.out; subst ev8; have HN2 := Aside0.mk (World.news_of_block (cs := #[.int .i64 a]) (blk_new w8 (.cells #[.int .i64 a] 3))); clear hown8 hgr8) | (at_builtin; refine wpList_append_own_at _ rfl _ _ 30 rfl w8.heap.size 3 i0 (.int .i64 0) 1 8 Try.underlying30 hi hz0 hz1 hz2 rfl (by decide) _ _ _ rfl (World.ownsRow_nil _ _ _ _) ⟨w8.heap.size, 0, none⟩ 1 1 [.int .i64 a] rfl rfl HN2.out (by simp [Value.oneCell']) (by unfold maxLen; simp) (by simp) (by simp) ?_; intro v9 w9 hown9 hgr9 _ _; have hb89 : Below w8.heap.size w8 w9 := below2 ((Below.refl _ w8).alloc (Nat.le_refl _) (.cells #[.int .i64 a] 3)) (below_none hgr9); have HB9 := Aside0.mk (below2 HB8.out hb89); have HO9 := Aside0.mk (show w9.ownsRow w8.heap.size 3 1 v9 ([a] : List Int).length (nums .i64 [a]) from hown9); have HO8b := Aside0.mk (pw_own_below HO8.out hb89); obtain ⟨A9, c9, ev9⟩ := own_slice HO9.out; subst ev9; clear hown9 hgr9))
            have HPu := Aside0.mk (HP.out.below HB9.out)
            have HQu := Aside0.mk (HQ.out.below HB9.out)
            have PR : Calls Try.prog 11 #[.pointer (some ⟨w1.heap.size, 0, none⟩), .int .i64 (i : Int), .slice A8 1 c8] w9 (RoundEnd w1 w1.heap.size rp [(a, na), (b, nb)] every (i : Int) [a] w9) := pz_Round (c := c8) HPu.out (ok_two g3 g4 g5) ⟨g1, g2⟩ (i : Int) ⟨by omega, by omega⟩ (ints_own (c := c8) (xs := [a]) HO8b.out) (by simp)
            have IA := Aside0.mk (show IntsAt w1.heap.size w9.heap.size A9 [a] w9 from ints_own (c := c9) (xs := [a]) HO9.out)
            (with_reducible refine PR.mono ?_)
            rintro e w11 ⟨x, rfl, hx, hp11, m11⟩
            have HQ11 := Aside0.mk (pz_other HQu.out HPu.out m11 HNE.out HPQ.out hp11.hB)
            have IA2 := Aside0.mk ((IA.out.mv (Nat.le_refl _) HPu.out m11).more m11.size)
            have QR : Calls Try.prog 11 #[.pointer (some ⟨w2.heap.size, 0, none⟩), .int .i64 (i : Int), .slice A9 1 c9] w11 (RoundEnd w1 w2.heap.size rq [(a, na)] every (i : Int) [a] w11) := pz_Round (c := c9) HQ11.out (ok_one ⟨g3, by omega⟩) ⟨g1, g2⟩ (i : Int) ⟨by omega, by omega⟩ IA2.out (by simp)
            have AR := ap_round a b na nb (i : Int) every true false g4
            have AR2 := Aside0.mk (And.intro AR.2.1 AR.2.2.2)
            by_cases hda : na ≤ (i : Int)
            · skip
              have e1 : roundO [a] (i : Int) [(a, na), (b, nb)] = [a] := by have := AR.1; simpa [hda] using this
              have e2 : roundO [a] (i : Int) [(a, na)] = [a] := by have := AR.2.2.1; simpa [hda] using this
              rw [e1] at hx
              have HE2 := Aside0.mk e2
              have HX := Aside0.mk hx
              have HP11 := Aside0.mk hp11
              obtain ⟨Ax, cx, ex⟩ := own_slice hx
              subst ex
              clear hx e1 e2 AR hp11 hda
              go_wp2_with fail
              (with_reducible refine QR.mono ?_)
              rintro e w12 ⟨y, rfl, hy, hq12, m12⟩
              rw [HE2.out] at hy
              have hx2 := pz_row HX.out HQ11.out m12
              have hp12 := pz_other HP11.out HQ11.out m12 (fun k h1 h2 => HNE.out k h2 h1) (fun e => HPQ.out e.symm) hq12.hB
              have AP := Aside0.mk (show ApIn w1 w1.heap.size w2.heap.size rp rq a b every w12 from ⟨_, _, (by rw [← AR2.out.1]; exact hp12), (by rw [← AR2.out.2]; exact hq12)⟩)
              obtain ⟨Ay, cy, ey⟩ := own_slice hy
              subst ey
              rcases own1_form hx2 with ⟨_, h0⟩ | ⟨gx, qx, curx, evx, _, _, _, _, _, _, hcx⟩
              · cases h0
              obtain rfl : Ax = some ⟨gx, 0, none⟩ := (Value.slice.inj evx).1
              have dx : w12.cell? ⟨gx, 0, none⟩ = some (.int .i64 a) := hcx 0 (by simp)
              clear hcx evx
              clear hx2 hp12 hq12 hy m12 m11 QR PR
              go_wp2_with fail
              exact ⟨⟨i + 1, by omega, by simp, AP⟩, by simp [intOf]; omega⟩
            · skip
              have e1 : roundO [a] (i : Int) [(a, na), (b, nb)] = [] := by have := AR.1; simpa [hda] using this
              have e2 : roundO [a] (i : Int) [(a, na)] = [] := by have := AR.2.2.1; simpa [hda] using this
              rw [e1] at hx
              have HE2 := Aside0.mk e2
              have HX := Aside0.mk hx
              have HP11 := Aside0.mk hp11
              obtain ⟨Ax, cx, ex⟩ := own_slice hx
              subst ex
              clear hx e1 e2 AR hp11 hda
              go_wp2_with fail
              (with_reducible refine QR.mono ?_)
              rintro e w12 ⟨y, rfl, hy, hq12, m12⟩
              rw [HE2.out] at hy
              have hx2 := pz_row HX.out HQ11.out m12
              have hp12 := pz_other HP11.out HQ11.out m12 (fun k h1 h2 => HNE.out k h2 h1) (fun e => HPQ.out e.symm) hq12.hB
              have AP := Aside0.mk (show ApIn w1 w1.heap.size w2.heap.size rp rq a b every w12 from ⟨_, _, (by rw [← AR2.out.1]; exact hp12), (by rw [← AR2.out.2]; exact hq12)⟩)
              obtain ⟨Ay, cy, ey⟩ := own_slice hy
              subst ey
              clear hx2 hp12 hq12 hy m12 m11 QR PR
              go_wp2_with fail
              exact ⟨⟨i + 1, by omega, by simp, AP⟩, by simp [intOf]; omega⟩
      · have p1 : decide ((i : Int) < (l.length : Int)) = false := decide_eq_false (by omega)
        have HB := Aside0.mk (below2 hb1 hp.hB)
        clear hp hq hin
        go_wp2_with fail
        go_ret
        exact ⟨rfl, HB.out⟩
  · have HG := Aside0.mk hg
    clear hg
    go_enter Try.func4, Try.ntmps4
    go_wp2_with (first | (go_at_call 7; (with_reducible refine AW.mono ?_); rintro e w1 ⟨rfl, hb1⟩))
    all_goals first | (go_ret; exact ⟨rfl, hb1⟩) | (exfalso; have h := HG.out; omega)

/-- THE ONE PURE STATEMENT of postilionlaw10_ProbeApart: yours. -/
def postilionlaw10_ProbeApart.Pure : Prop := ∀ (a0 : Int) (a1 : Int) (a2 : Int) (l3 : List Bool) (l4 : List Bool), (Lit.int .i64 a0).wf = true → (Lit.int .i64 a1).wf = true → (Lit.int .i64 a2).wf = true → l3.length ≤ maxLen → (∀ y_ ∈ l3, True) → l4.length ≤ maxLen → (∀ y_ ∈ l4, True) → postilionlaw10_ProbeApart.f a0 a1 a2 l3 l4 = some true

end Go.Proofs.Ytnajlpmpofljhaa.P
