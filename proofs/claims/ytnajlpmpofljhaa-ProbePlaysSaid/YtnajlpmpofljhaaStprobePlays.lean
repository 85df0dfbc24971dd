-- Laid by sp.py, a program of this session's, out of the translation and the session's own stand-ins.
import Derived.Test.YtnajlpmpofljhaaPx0
import Derived.Test.YtnajlpmpofljhaaPx2
import Derived.Test.YtnajlpmpofljhaaShelf
import Derived.Test.YtnajlpmpofljhaaSLswap
import Derived.Test.YtnajlpmpofljhaaSLplaysD
namespace Go.Proofs.Ytnajlpmpofljhaa.P
open Go.RowKit Go.Proofs.YtnajlpmpofljhaaW.PrintWords Go.Proofs.YtnajlpmpofljhaaW.PrintLast Go.Proofs.YtnajlpmpofljhaaW.PrintMore
attribute [local go_sem] max2_int min2_int max_two min_two max_three min_three max_four min_four   -- for this text's walks alone
set_option linter.unusedVariables false
set_option linter.unusedSimpArgs false
set_option linter.unnecessarySimpa false

/-! ### ProbePlays: a law by hand -/
def postilionlaw10_ProbePlays.f (_every : Int) (l : List S46) : Option Bool := if l.all (fun a => decide (0 ≤ a.f0 ∧ a.f0 < 256)) = true then some true else none
theorem pyb2 {w a b : World} (h : Below w.heap.size w a) (hb : Below a.heap.size a b) : Below w.heap.size w b :=
  h.trans ⟨hb.os, hb.tape, hb.output, hb.size, fun j hj => hb.block j (Nat.lt_of_lt_of_le hj h.size)⟩
theorem py_great (l : List S46) (hl : l.length ≤ 150) : ∀ (n i : Nat), i ≤ l.length → l.length - i ≤ n → ∃ r, postilionlaw10_Great.l0 (n + 1) l (i : Int) = some r ∧ (r = false → ∀ j, i ≤ j → j < l.length → (rd_T46 l (j : Int)).f2.length ≤ 100)
  | n, i, hi, hn => by
    unfold postilionlaw10_Great.l0
    by_cases h : i < l.length
    · rw [if_pos (by omega), if_pos (by omega)]
      by_cases g : ((rd_T46 l (i : Int)).f2.length : Int) > 100
      · rw [if_pos g]
        exact ⟨true, rfl, fun h => by cases h⟩
      · rw [if_neg g]
        have e : wrap64 ((i : Int) + 1) = ((i + 1 : Nat) : Int) := by rw [show wrap64 ((i : Int) + 1) = (i : Int) + 1 from by unfold wrap64; omega]; omega
        rw [e]
        cases n with
        | zero => exfalso; omega
        | succ n =>
          obtain ⟨r, h1, h2⟩ := py_great l hl n (i + 1) (by omega) (by omega)
          refine ⟨r, h1, fun hr j hj hjl => ?_⟩
          by_cases hji : j = i
          · subst hji; omega
          · exact h2 hr j (by omega) hjl
    · rw [if_neg (by omega)]
      exact ⟨false, rfl, fun _ j h1 h2 => by omega⟩
theorem py_great_f (l : List S46) : ∃ k r, postilionlaw10_Great.f k l = some r ∧ (r = false → l.length ≤ 150 ∧ ∀ j, j < l.length → (rd_T46 l (j : Int)).f2.length ≤ 100) := by
  unfold postilionlaw10_Great.f
  by_cases h : (l.length : Int) > 150
  · exact ⟨0, true, by rw [if_pos h], fun h => by cases h⟩
  · obtain ⟨r, h1, h2⟩ := py_great l (by omega) l.length 0 (Nat.zero_le _) (by omega)
    exact ⟨l.length + 1, r, by rw [if_neg h]; exact h1, fun hr => ⟨by omega, fun j hj => h2 hr j (Nat.zero_le _) hj⟩⟩
/-- What is true between two acts. -/
def PyIn (w0 : World) (P M : Nat) (W : World) : Prop := ∃ pv rv l every, PnRaw w0 P pv l every W ∧ RpRaw w0 M rv l every W ∧ PnOk l ∧ 1 ≤ every ∧ every ≤ 1000
def PyMid (w0 : World) (P M : Nat) (g : Nat) (kd n : Int) (v : Value) (W : World) : Prop := PyIn w0 P M W ∧ W.heap[g]? = some (.cells #[.int .u8 kd, .int .i64 n, v] 46 (0, 0))
section
variable {w0 : World} {P M : Nat} {pv rv pv' rv' : Value} {l l' : List (Int × Int)} {every every' : Int} {W W5 W6 : World}
theorem py_both {g : Nat} {kd n : Int} {v : Value} (h5 : PnRaw w0 P pv' l' every' W5) (hf5 : RpRaw w0 M rv l every W5) (hA5 : W5.heap[g]? = some (.cells #[.int .u8 kd, .int .i64 n, v] 46 (0, 0))) (h6 : RpRaw w0 M rv' l' every' W6) (m6 : RpMv M rv W5 W6) (ok : PnOk l') (he : 1 ≤ every' ∧ every' ≤ 1000) : PyMid w0 P M g kd n v W6 :=
  ⟨⟨_, _, _, _, pz_mv h5 hf5 m6 h6.hB, h6, ok, he.1, he.2⟩, act_rp hA5 hf5 m6⟩
theorem py_below {g : Nat} {kd n : Int} {v : Value} (h : PyMid w0 P M g kd n v W) (hb : Below W.heap.size W W5) : PyMid w0 P M g kd n v W5 := by
  obtain ⟨⟨pv, rv, l, ev, h1, h2, h3, h4, h5⟩, h6⟩ := h
  exact ⟨⟨pv, rv, l, ev, h1.below hb, h2.below hb, h3, h4, h5⟩, (hb.block g (blk_lt h6)).trans h6⟩
theorem py_store {g b k : Nat} {kd n : Int} {v x : Value} {cs : Array Value} (h : PyMid w0 P M g kd n v W) (hb : W.heap[b]? = some (.cells cs 3 (0, 0))) (hg : w0.heap.size ≤ b) : PyMid w0 P M g kd n v (W.setCell ⟨b, k, none⟩ x) := by
  obtain ⟨⟨pv, rv, l, ev, h1, h2, h3, h4, h5⟩, h6⟩ := h
  exact ⟨⟨pv, rv, l, ev, pz_store h1 hb hg, rp_store h2 hb hg, h3, h4, h5⟩, (Below.heap_setCell _ _ _ _ (fun e => blk_ne h6 hb (by decide) e)).trans h6⟩
theorem py_add (ok : PnOk l) (k : Int) : PnOk (if erA l k = 0 then insP l k else l) := by
  rcases add_cases l k with ⟨_, e⟩ | ⟨_, _, e⟩ | ⟨_, _, _, e⟩ | ⟨_, _, _, _, e⟩ | ⟨h1, h2, h3, h4, e⟩
  · rw [e, if_neg (by decide)]; exact ok
  · rw [e, if_neg (by decide)]; exact ok
  · rw [e, if_neg (by decide)]; exact ok
  · rw [e, if_neg (by decide)]; exact ok
  · rw [e, if_pos rfl]; exact ok.ins ⟨h1, h2⟩ h3 (by omega)
theorem py_every (he : 1 ≤ every ∧ every ≤ 1000) (n : Int) : 1 ≤ (if fitsB n = true then n else every) ∧ (if fitsB n = true then n else every) ≤ 1000 := by
  split
  · rename_i h
    unfold fitsB at h
    simpa using h
  · exact he
end
set_option maxRecDepth 100000 in
set_option maxHeartbeats 32000000 in
theorem postilionlaw10_ProbePlays.calls (every : Int) (A3 : Option Addr) (c3 : Nat) (l : List S46) (r : Bool) (w : World) (hC : Kd.C k46 w A3 l.length l) (hc : l.length ≤ c3) (h : postilionlaw10_ProbePlays.f every l = some r) (hT : Aside0 (r = true)) :
    Calls Try.prog 6 #[.int .i64 every, .slice A3 l.length c3] w fun e w' => e = .returned (.bool r) ∧ Below w.heap.size w w' := by
  obtain rfl := hT.out
  have ha : ∀ x ∈ l, 0 ≤ x.f0 ∧ x.f0 < 256 := by
    unfold postilionlaw10_ProbePlays.f at h
    split at h
    · rename_i hg
      exact fun x hx => by simpa using (List.all_eq_true.1 hg) x hx
    · cases h
  clear h
  have HA := Aside0.mk ha
  clear ha
  obtain ⟨gk, gr, hgk, hgr⟩ := py_great_f l
  have GC := postilionlaw10_Great.calls gk A3 c3 l gr w hC hc hgk
  have HGR := Aside0.mk hgr
  clear hgk hgr
  have HC := Aside0.mk hC
  have HCC := Aside0.mk hc
  clear hC hc
  cases gr with
  | true =>
    go_enter Try.func6, Try.ntmps6
    go_wp2_with (go_at_call 15; (with_reducible refine GC.mono ?_); rintro e w1 ⟨rfl, d1⟩)
    go_ret
    exact ⟨rfl, d1.below⟩
  | false =>
  obtain ⟨hl, hwl⟩ := HGR.out rfl
  have HWL := Aside0.mk hwl
  clear hwl HGR
  have hl2 : ¬ (150 < l.length) := by omega
  cases hfit : fitsB every with
  | false =>
    have NW := fun (W : World) => pz_NewNo every W hfit
    have NF := fun (W : World) => rp_NewNo every W hfit
    clear hfit
    go_enter Try.func6, Try.ntmps6
    go_wp2_with (first | (go_at_call 15; (with_reducible refine GC.mono ?_); rintro e w1 ⟨rfl, d1⟩) | (go_at_call 8; (with_reducible refine (NW _).mono ?_); rintro e w2 ⟨rfl, hw2⟩; obtain rfl := hw2.symm) | (go_at_call 16; (with_reducible refine (NF _).mono ?_); rintro e w3 ⟨rfl, hw3⟩; obtain rfl := hw3.symm))
    go_ret
    exact ⟨rfl, d1.below⟩
  | true =>
    have NW := fun (W : World) => pz_New every W hfit
    have NF := fun (W : World) => rp_New every W hfit
    have hev0 : 1 ≤ every ∧ every ≤ 1000 := by unfold fitsB at hfit; simpa using hfit
    clear hfit
    go_enter Try.func6, Try.ntmps6
    go_wp2_with (first | (go_at_call 15; (with_reducible refine GC.mono ?_); rintro e w1 ⟨rfl, d1⟩; have HD := Aside0.mk d1; clear d1 GC) | (go_at_call 8; (with_reducible refine (NW _).mono ?_); rintro e w2 ⟨rfl, hw2⟩; subst hw2) | (go_at_call 16; (with_reducible refine (NF _).mono ?_); rintro e w3 ⟨rfl, hw3⟩; subst hw3))
    have T0 : PyIn w1 w1.heap.size (w1.heap.size + 1) ((w1.alloc (.cells #[.int .i64 every, .slice none 0 0] 36)).alloc (.cells #[.int .i64 every, .slice none 0 0] 64)) := by
      have b1 : Below (w1.alloc (.cells #[.int .i64 every, .slice none 0 0] 36)).heap.size (w1.alloc (.cells #[.int .i64 every, .slice none 0 0] 36)) ((w1.alloc (.cells #[.int .i64 every, .slice none 0 0] 36)).alloc (.cells #[.int .i64 every, .slice none 0 0] 64)) := (Below.refl _ _).alloc (Nat.le_refl _) _
      have r1 := (pz_made every w1).below b1
      have e2 := blk_new (w1.alloc (.cells #[.int .i64 every, .slice none 0 0] 36)) (.cells #[.int .i64 every, .slice none 0 0] 64)
      rw [World.size_alloc] at e2
      exact ⟨_, .slice none 0 0, [], every, r1, ⟨by omega, e2, World.ownsRow_nil _ _ _ _, r1.hB⟩, pz_ok_nil, hev0.1, hev0.2⟩
    have HT0 := Aside0.mk T0
    clear T0
    have HC1 := Aside0.mk (Kd.C_below HC.out HD.out.below)
    clear HC NW NF
    go_loopw [9] (fun i wr => ∃ (j : Nat), j ≤ l.length ∧ i = .int .i64 (j : Int) ∧ Aside0 (PyIn w1 w1.heap.size (w1.heap.size + 1) wr)) (fun i _ => l.length - (intOf i).toNat)
    case atStart => exact ⟨0, Nat.zero_le _, rfl, HT0⟩
    case round =>
      obtain ⟨j, hj, rfl, ht⟩ := hrel
      by_cases hlt : j < l.length
      · have p1 : decide ((j : Int) < (l.length : Int)) = true := decide_eq_true (by omega)
        obtain ⟨pv, rv, rl, ev, hr, hf, hok2, hev1, hev2⟩ := ht.out
        clear ht
        have hev : 1 ≤ ev ∧ ev ≤ 1000 := ⟨hev1, hev2⟩
        have hll : rl.length ≤ 1000 := by have := hok2.most; omega
        obtain ⟨ad, A2, c2, e, d0, d1, d2, hwc, hwk⟩ := at_T46 (Kd.C_below HC1.out hr.hB) (j : Int) (by omega) (by omega)
        obtain ⟨ad', A2', c2', e', _, _, d2', _, hwk'⟩ := at_T46 HC1.out (j : Int) (by omega) (by omega)
        have eA : A2 = A2' ∧ c2 = c2' := by
          obtain rfl : ad = ad' := by rw [e] at e'; exact Option.some.inj e'
          have q := pw_cell_below hr.hB d2'
          rw [d2] at q
          have q2 := Value.slice.inj (Option.some.inj q)
          exact ⟨q2.1, q2.2.2⟩
        obtain ⟨rfl, rfl⟩ := eA
        have IW := Aside0.mk (ints_ofC hwk')
        clear hwk' d2' e' hwk
        subst e
        rw [Int.toNat_natCast] at d0 d1 d2
        have hac := HA.out (rd_T46 l (j : Int)) (by
          unfold rd_T46
          rw [Int.toNat_natCast, List.getD_eq_getElem?_getD, List.getElem?_eq_getElem hlt]
          exact List.getElem_mem hlt)
        have hwl := HWL.out j hlt
        generalize rd_T46 l (j : Int) = act at d0 d1 d2 hac hwl IW hwc
        obtain ⟨kd, n, f2⟩ := act
        simp only at d0 d1 d2 hac hwl IW hwc
        have bA : Below wr.heap.size wr (wr.alloc (.cells #[.int .u8 kd, .int .i64 n, .slice A2 f2.length c2] 46)) := (Below.refl _ wr).alloc (Nat.le_refl _) _
        have HR := Aside0.mk (hr.below bA)
        have HF := Aside0.mk (hf.below bA)
        have HA1 := Aside0.mk (blk_new wr (.cells #[.int .u8 kd, .int .i64 n, .slice A2 f2.length c2] 46))
        have HWB := Aside0.mk (pyb2 hr.hB bA)
        have HOK := Aside0.mk hok2
        have HS1 := Aside0.mk hr.hB.size
        clear hr hf bA
        go_upto_block 2 with fail
        go_cut [11, 12, 13] (fun _ _ _ wx => PyMid w1 w1.heap.size (w1.heap.size + 1) wr.heap.size kd n (.slice A2 f2.length c2) wx)
        case first =>
          have hs1 : w1.heap.size ≤ wr.heap.size := HS1.out
          have bB : Below (wr.alloc (.cells #[.int .u8 kd, .int .i64 n, .slice A2 f2.length c2] 46)).heap.size (wr.alloc (.cells #[.int .u8 kd, .int .i64 n, .slice A2 f2.length c2] 46)) ((wr.alloc (.cells #[.int .u8 kd, .int .i64 n, .slice A2 f2.length c2] 46)).alloc (.cells #[] 3)) := (Below.refl _ _).alloc (Nat.le_refl _) _
          have hBK0 := blk_new (wr.alloc (.cells #[.int .u8 kd, .int .i64 n, .slice A2 f2.length c2] 46)) (.cells #[] 3)
          rw [World.size_alloc] at hBK0
          have HBK := Aside0.mk hBK0
          have HRB := Aside0.mk (HR.out.below bB)
          have HFB := Aside0.mk (HF.out.below bB)
          have HAB := Aside0.mk ((bB.block wr.heap.size (by rw [World.size_alloc]; omega)).trans HA1.out)
          have HWBB := Aside0.mk (pyb2 HWB.out bB)
          have HIB := Aside0.mk (IW.out.below (Nat.le_refl _) HWBB.out)
          have hlP := HR.out.lt
          have hlM := HF.out.lt
          rw [World.size_alloc] at hlP hlM
          have hbs : w1.heap.size ≤ ((wr.alloc (.cells #[.int .u8 kd, .int .i64 n, .slice A2 f2.length c2] 46)).alloc (.cells #[] 3)).heap.size := HWBB.out.size
          have HNF := Aside0.mk (fun (A4 : Option Addr) (c4 : Nat) (w4 : World) (own4 : w4.ownsRow w1.heap.size 3 1 (.slice A4 f2.length c4) f2.length (nums .i64 f2)) (gr : World.grownBy ((wr.alloc (.cells #[.int .u8 kd, .int .i64 n, .slice A2 f2.length c2] 46)).alloc (.cells #[] 3)) w4 (some (wr.heap.size + 1))) => (show PnRaw w1 w1.heap.size pv rl ev w4 ∧ RpRaw w1 (w1.heap.size + 1) rv rl ev w4 ∧ w4.heap[wr.heap.size]? = some (.cells #[.int .u8 kd, .int .i64 n, .slice A2 f2.length c2] 46 (0, 0)) ∧ IntsAt w1.heap.size w1.heap.size A2 f2 w4 ∧ IntsAt w1.heap.size w4.heap.size A4 f2 w4 ∧ w1.heap.size ≤ w4.heap.size from
            ⟨pz_grown HRB.out gr (fun e => by injection e with e; omega) (fun k e q => by injection e with e; subst e; exact own_ne HRB.out.hr HBK.out (by decide) q.symm) (fun k e => by injection e with e; omega),
             rp_grown HFB.out gr (fun e => by injection e with e; omega) (fun k e q => by injection e with e; subst e; exact own_ne HFB.out.hr HBK.out (by decide) q.symm) (fun k e => by injection e with e; omega),
             (gr.block wr.heap.size (blk_lt HAB.out) (fun e => by injection e with e; omega)).trans HAB.out,
             HIB.out.grown hbs gr (fun k e => by injection e with e; omega), ints_ofOwn own4, Nat.le_trans hbs gr.size⟩))
          clear bB hBK0 hlP hlM
          go_wp2_with (first | (at_builtin; refine wp_copy rfl _ _ rfl w1.heap.size c2 A2 f2 rfl HBK.out (by omega) rfl HIB.out (by omega) hbs ?_; intro A4 c4 w4 own4 gr4; obtain ⟨h4, f4, a4, i4, j4, s4⟩ := HNF.out A4 c4 w4 own4 gr4; have c41 : w4.cell? ⟨wr.heap.size, 1, none⟩ = some (.int .i64 n) := (blk_cell a4 1).trans rfl; have RD := pz_RoundA (c := c4) h4 HOK.out hev n j4 (by omega); have hxl := rdO_len HOK.out f2 n; have okl := rdL_ok (every := ev) HOK.out f2 n; have RG := Aside0.mk (fun (W : World) (f : RpRaw w1 (w1.heap.size + 1) rv rl ev W) (i : IntsAt w1.heap.size W.heap.size A2 f2 W) => rp_RoundA (c := c2) f HOK.out hev n i (by omega)); generalize rdO f2 n rl = xs at RD hxl RG; generalize rdL f2 n ev rl = nl at RD okl RG; have OKL := Aside0.mk okl; have H4 := Aside0.mk h4; have F4 := Aside0.mk f4; have A4' := Aside0.mk a4; have I4 := Aside0.mk i4; have J4 := Aside0.mk j4; clear h4 f4 a4 i4 j4 own4 gr4 okl) | (go_at_call 11; (with_reducible refine RD.mono ?_); rintro e w5 ⟨v5, rfl, own5, h5, m5⟩; obtain ⟨A5, c5, ev5⟩ := own_slice own5; subst ev5; have s5 : w4.heap.size ≤ w5.heap.size := m5.size; have hf5 := rp_mv F4.out H4.out m5 h5.hB; have ha5 := act_pz A4'.out H4.out m5; have i5 := I4.out.mv s4 H4.out m5; have j5 := J4.out.mv (Nat.le_refl _) H4.out m5; have x5 : IntsAt w1.heap.size w5.heap.size A5 xs w5 := ints_ofOwn own5; have c51 : w5.cell? ⟨wr.heap.size, 1, none⟩ = some (.int .i64 n) := (blk_cell ha5 1).trans rfl; have c52 : w5.cell? ⟨wr.heap.size, 2, none⟩ = some (.slice A2 f2.length c2) := (blk_cell ha5 2).trans rfl; have RF := RG.out w5 hf5 (i5.more (by omega)); have H5 := Aside0.mk h5; have F5 := Aside0.mk hf5; have A5' := Aside0.mk ha5; have I5 := Aside0.mk i5; have J5 := Aside0.mk j5; have X5 := Aside0.mk x5; have O5 := Aside0.mk own5; clear h5 m5 hf5 ha5 i5 j5 x5 own5 RD) | (go_at_call 21; (with_reducible refine RF.mono ?_); rintro e w6 ⟨v6, rfl, own6, h6, m6⟩; obtain ⟨A6, c6, ev6⟩ := own_slice own6; subst ev6; have s6 : w5.heap.size ≤ w6.heap.size := m6.size; have ha6 := act_rp A5'.out F5.out m6; have mid6 : PyMid w1 w1.heap.size (w1.heap.size + 1) wr.heap.size kd n (.slice A2 f2.length c2) w6 := ⟨⟨_, _, _, _, pz_mv H5.out F5.out m6 h6.hB, h6, OKL.out, hev.1, hev.2⟩, ha6⟩; have i6 := I5.out.rmv (by omega) F5.out m6; have j6 := J5.out.rmv s5 F5.out m6; have x6 := X5.out.rmv (Nat.le_refl _) F5.out m6; have IN := ints_both (c0 := c5) (c1 := c6) x6 (ints_ofOwn (base := 0) own6) (by omega); have MID6 := Aside0.mk mid6; have O6 := Aside0.mk (own_rmv O5.out F5.out m6); have I6 := Aside0.mk i6; have J6 := Aside0.mk j6; clear own6 h6 m6 ha6 mid6 i6 j6 x6 RF) | (go_at_call 20; (with_reducible refine IN.mono ?_); rintro e w7 ⟨rfl, n7, hw7⟩; have b7 : Below w6.heap.size w6 w7 := (by rw [hw7]; exact pw_below_drewN (Below.refl _ w6) n7); have c72 : w7.cell? ⟨wr.heap.size, 2, none⟩ = some (.slice A2 f2.length c2) := pw_cell_below b7 ((blk_cell MID6.out.2 2).trans rfl); have IN2 := ints_both (c0 := c4) (c1 := c2) (J6.out.below (by omega) b7) (I6.out.below (by omega) b7) (by omega); have MID7 := Aside0.mk (py_below MID6.out b7); have O7 := Aside0.mk (pw_own_below O6.out b7); clear hw7 b7 IN) | (go_at_call 20; (with_reducible refine IN2.mono ?_); rintro e w8 ⟨rfl, n8, hw8⟩; have b8 : Below w7.heap.size w7 w8 := (by rw [hw8]; exact pw_below_drewN (Below.refl _ w7) n8); have MID8 := Aside0.mk (py_below MID7.out b8); have O8 := Aside0.mk (pw_own_below O7.out b8); clear hw8 b8 IN2))
          · skip
            have HRd := Aside0.mk (HR.out.below (Below.refl _ _).drew)
            have HFd := Aside0.mk (HF.out.below (Below.refl _ _).drew)
            have GV := pz_Add HRd.out hok2 (by omega) n
            have GF := Aside0.mk (fun (W : World) (hf5 : RpRaw w1 (w1.heap.size + 1) rv rl ev W) => rp_Add hf5 hok2 n)
            refine start_ (n := 9) (S := fun w' => (w'.cell? ⟨wr.heap.size, 1, none⟩ = some (.int .i64 n))) (ds := []) #[false, false, false, false, false, false, false, false, false] (by kernel_rfl) rfl rfl ((blk_cell HA1.out 1).trans rfl) (fun hHeld => ?_)
            refine pure_ (i := 0) (N := some 99) (v := ?_) (a' := ?_) #[true, false, false, false, false, false, false, false, false] rfl rfl (by kernel_rfl) (fun _ _ _ h => h) (Or.inl ⟨by rfl, ?_⟩) ?_ ?_
            rotate_left
            · intro w'
              go_simp
              with_reducible rfl
            rotate_left
            · simp only [Act.put, List.setIfInBounds_toArray, List.set_cons_zero, List.set_cons_succ, i64_w, i32_w]
              rfl
            refine pure_ (i := 1) (N := some 100) (v := ?_) (a' := ?_) #[true, true, false, false, false, false, false, false, false] rfl rfl (by kernel_rfl) (fun _ _ _ h => h) (Or.inl ⟨by rfl, ?_⟩) ?_ ?_
            rotate_left
            · intro w'
              go_simp
              with_reducible rfl
            rotate_left
            · simp only [Act.put, List.setIfInBounds_toArray, List.set_cons_zero, List.set_cons_succ, i64_w, i32_w]
              rfl
            refine pure_ (i := 4) (N := some 103) (v := ?_) (a' := ?_) #[true, true, false, false, true, false, false, false, false] rfl rfl (by kernel_rfl) (fun _ _ _ h => h) (Or.inl ⟨by rfl, ?_⟩) ?_ ?_
            rotate_left
            · intro w'
              go_simp
              with_reducible rfl
            rotate_left
            · simp only [Act.put, List.setIfInBounds_toArray, List.set_cons_zero, List.set_cons_succ, i64_w, i32_w]
              rfl
            refine pure_ (i := 5) (N := some 104) (v := ?_) (a' := ?_) #[true, true, false, false, true, true, false, false, false] rfl rfl (by kernel_rfl) (fun _ _ _ h => h) (Or.inl ⟨by rfl, ?_⟩) ?_ ?_
            rotate_left
            · intro w'
              go_simp
              with_reducible rfl
            rotate_left
            · simp only [Act.put, List.setIfInBounds_toArray, List.set_cons_zero, List.set_cons_succ, i64_w, i32_w]
              rfl
            refine take_ (i := 2) (N := some 101) (v := ?_) (a' := ?_) #[true, true, true, false, true, true, false, false, false] rfl rfl (by kernel_rfl) (fun _ _ _ h => h) (Or.inl ⟨by rfl, ?_⟩) hHeld ?_ ?_
            rotate_left
            · intro w' s0
              go_simp
              with_reducible rfl
            rotate_left
            · simp only [Act.put, List.setIfInBounds_toArray, List.set_cons_zero, List.set_cons_succ, i64_w, i32_w]
              rfl
            refine take_ (i := 6) (N := some 105) (v := ?_) (a' := ?_) #[true, true, true, false, true, true, true, false, false] rfl rfl (by kernel_rfl) (fun _ _ _ h => h) (Or.inl ⟨by rfl, ?_⟩) hHeld ?_ ?_
            rotate_left
            · intro w' s0
              go_simp
              with_reducible rfl
            rotate_left
            · simp only [Act.put, List.setIfInBounds_toArray, List.set_cons_zero, List.set_cons_succ, i64_w, i32_w]
              rfl
            refine one_ (i := 3) (N := some 102) #[true, true, true, true, true, true, true, false, false] rfl rfl (by kernel_rfl) (by decide) (fun K hK => ?_)
            refine goes_ Try.func9 (by kernel_rfl) rfl #[.pointer (some ⟨w1.heap.size, 0, none⟩), .int .i64 n] (by rfl) rfl rfl (by simp only [List.map_toArray, List.map_cons, List.map_nil]; rfl) ?_
            with_reducible refine (GV).mono ?_
            rintro e w5 ⟨rfl, pv', h5, m5⟩
            have hf5 := Aside0.mk (rp_mv HFd.out HRd.out m5 h5.hB)
            have hA5 := Aside0.mk (act_pz (g := wr.heap.size) (blk_drew HA1.out) HRd.out m5)
            have G5 := GF.out w5 hf5.out
            refine ⟨_, rfl, ?_⟩
            refine hK.out _ _ ((blk_cell hA5.out 1).trans rfl) (fun hHeld => ?_)
            clear hK K
            refine norm_ (a' := ?_) ?_ ?_
            rotate_left
            · show Act.put _ (some 102) _ = _
              simp only [Act.put, List.setIfInBounds_toArray, List.set_cons_zero, List.set_cons_succ, i64_w, i32_w]
              rfl
            refine one_ (i := 7) (N := some 106) #[true, true, true, true, true, true, true, true, false] rfl rfl (by kernel_rfl) (by decide) (fun K hK => ?_)
            refine goes_ Try.func17 (by kernel_rfl) rfl #[.pointer (some ⟨w1.heap.size + 1, 0, none⟩), .int .i64 n] (by rfl) rfl rfl (by simp only [List.map_toArray, List.map_cons, List.map_nil]; rfl) ?_
            with_reducible refine (G5).mono ?_
            rintro e w6 ⟨rfl, rv', h6, m6⟩
            refine ⟨_, rfl, ?_⟩
            refine hK.out _ _ ((blk_cell (act_rp hA5.out hf5.out m6) 1).trans rfl) (fun hHeld => ?_)
            clear hK K
            refine norm_ (a' := ?_) ?_ ?_
            rotate_left
            · show Act.put _ (some 106) _ = _
              simp only [Act.put, List.setIfInBounds_toArray, List.set_cons_zero, List.set_cons_succ, i64_w, i32_w]
              rfl
            refine pure_ (i := 8) (N := some 107) (v := ?_) (a' := ?_) #[true, true, true, true, true, true, true, true, true] rfl rfl (by kernel_rfl) (fun _ _ _ h => h) (Or.inl ⟨by rfl, ?_⟩) ?_ ?_
            rotate_left
            · intro w'
              go_simp
              with_reducible rfl
            rotate_left
            · simp only [Act.put, List.setIfInBounds_toArray, List.set_cons_zero, List.set_cons_succ, i64_w, i32_w]
              rfl
            refine done_ (by kernel_rfl) ?_
            have QQ := Aside0.mk (py_both h5 hf5.out hA5.out h6 m6 (py_add hok2 n) hev)
            clear h5 m5 h6 m6 GV G5 hHeld
            generalize erA rl n = er
            go_wp2_with fail
            go_meet
            exact QQ.out
          · skip
            have HRd := Aside0.mk (HR.out.below (Below.refl _ _).drew)
            have HFd := Aside0.mk (HF.out.below (Below.refl _ _).drew)
            have GV := pz_Drop HRd.out hok2 (by omega) n
            have GF := Aside0.mk (fun (W : World) (hf5 : RpRaw w1 (w1.heap.size + 1) rv rl ev W) => rp_Drop hf5 n hll)
            rw [erDR, delDR hok2] at GF
            refine start_ (n := 9) (S := fun w' => (w'.cell? ⟨wr.heap.size, 1, none⟩ = some (.int .i64 n))) (ds := []) #[false, false, false, false, false, false, false, false, false] (by kernel_rfl) rfl rfl ((blk_cell HA1.out 1).trans rfl) (fun hHeld => ?_)
            refine pure_ (i := 0) (N := some 110) (v := ?_) (a' := ?_) #[true, false, false, false, false, false, false, false, false] rfl rfl (by kernel_rfl) (fun _ _ _ h => h) (Or.inl ⟨by rfl, ?_⟩) ?_ ?_
            rotate_left
            · intro w'
              go_simp
              with_reducible rfl
            rotate_left
            · simp only [Act.put, List.setIfInBounds_toArray, List.set_cons_zero, List.set_cons_succ, i64_w, i32_w]
              rfl
            refine pure_ (i := 1) (N := some 111) (v := ?_) (a' := ?_) #[true, true, false, false, false, false, false, false, false] rfl rfl (by kernel_rfl) (fun _ _ _ h => h) (Or.inl ⟨by rfl, ?_⟩) ?_ ?_
            rotate_left
            · intro w'
              go_simp
              with_reducible rfl
            rotate_left
            · simp only [Act.put, List.setIfInBounds_toArray, List.set_cons_zero, List.set_cons_succ, i64_w, i32_w]
              rfl
            refine pure_ (i := 4) (N := some 114) (v := ?_) (a' := ?_) #[true, true, false, false, true, false, false, false, false] rfl rfl (by kernel_rfl) (fun _ _ _ h => h) (Or.inl ⟨by rfl, ?_⟩) ?_ ?_
            rotate_left
            · intro w'
              go_simp
              with_reducible rfl
            rotate_left
            · simp only [Act.put, List.setIfInBounds_toArray, List.set_cons_zero, List.set_cons_succ, i64_w, i32_w]
              rfl
            refine pure_ (i := 5) (N := some 115) (v := ?_) (a' := ?_) #[true, true, false, false, true, true, false, false, false] rfl rfl (by kernel_rfl) (fun _ _ _ h => h) (Or.inl ⟨by rfl, ?_⟩) ?_ ?_
            rotate_left
            · intro w'
              go_simp
              with_reducible rfl
            rotate_left
            · simp only [Act.put, List.setIfInBounds_toArray, List.set_cons_zero, List.set_cons_succ, i64_w, i32_w]
              rfl
            refine take_ (i := 2) (N := some 112) (v := ?_) (a' := ?_) #[true, true, true, false, true, true, false, false, false] rfl rfl (by kernel_rfl) (fun _ _ _ h => h) (Or.inl ⟨by rfl, ?_⟩) hHeld ?_ ?_
            rotate_left
            · intro w' s0
              go_simp
              with_reducible rfl
            rotate_left
            · simp only [Act.put, List.setIfInBounds_toArray, List.set_cons_zero, List.set_cons_succ, i64_w, i32_w]
              rfl
            refine take_ (i := 6) (N := some 116) (v := ?_) (a' := ?_) #[true, true, true, false, true, true, true, false, false] rfl rfl (by kernel_rfl) (fun _ _ _ h => h) (Or.inl ⟨by rfl, ?_⟩) hHeld ?_ ?_
            rotate_left
            · intro w' s0
              go_simp
              with_reducible rfl
            rotate_left
            · simp only [Act.put, List.setIfInBounds_toArray, List.set_cons_zero, List.set_cons_succ, i64_w, i32_w]
              rfl
            refine one_ (i := 3) (N := some 113) #[true, true, true, true, true, true, true, false, false] rfl rfl (by kernel_rfl) (by decide) (fun K hK => ?_)
            refine goes_ Try.func12 (by kernel_rfl) rfl #[.pointer (some ⟨w1.heap.size, 0, none⟩), .int .i64 n] (by rfl) rfl rfl (by simp only [List.map_toArray, List.map_cons, List.map_nil]; rfl) ?_
            with_reducible refine (GV).mono ?_
            rintro e w5 ⟨rfl, pv', h5, m5⟩
            have hf5 := Aside0.mk (rp_mv HFd.out HRd.out m5 h5.hB)
            have hA5 := Aside0.mk (act_pz (g := wr.heap.size) (blk_drew HA1.out) HRd.out m5)
            have G5 := GF.out w5 hf5.out
            refine ⟨_, rfl, ?_⟩
            refine hK.out _ _ ((blk_cell hA5.out 1).trans rfl) (fun hHeld => ?_)
            clear hK K
            refine norm_ (a' := ?_) ?_ ?_
            rotate_left
            · show Act.put _ (some 113) _ = _
              simp only [Act.put, List.setIfInBounds_toArray, List.set_cons_zero, List.set_cons_succ, i64_w, i32_w]
              rfl
            refine one_ (i := 7) (N := some 117) #[true, true, true, true, true, true, true, true, false] rfl rfl (by kernel_rfl) (by decide) (fun K hK => ?_)
            refine goes_ Try.func18 (by kernel_rfl) rfl #[.pointer (some ⟨w1.heap.size + 1, 0, none⟩), .int .i64 n] (by rfl) rfl rfl (by simp only [List.map_toArray, List.map_cons, List.map_nil]; rfl) ?_
            with_reducible refine (G5).mono ?_
            rintro e w6 ⟨rfl, rv', h6, m6⟩
            refine ⟨_, rfl, ?_⟩
            refine hK.out _ _ ((blk_cell (act_rp hA5.out hf5.out m6) 1).trans rfl) (fun hHeld => ?_)
            clear hK K
            refine norm_ (a' := ?_) ?_ ?_
            rotate_left
            · show Act.put _ (some 117) _ = _
              simp only [Act.put, List.setIfInBounds_toArray, List.set_cons_zero, List.set_cons_succ, i64_w, i32_w]
              rfl
            refine pure_ (i := 8) (N := some 118) (v := ?_) (a' := ?_) #[true, true, true, true, true, true, true, true, true] rfl rfl (by kernel_rfl) (fun _ _ _ h => h) (Or.inl ⟨by rfl, ?_⟩) ?_ ?_
            rotate_left
            · intro w'
              go_simp
              with_reducible rfl
            rotate_left
            · simp only [Act.put, List.setIfInBounds_toArray, List.set_cons_zero, List.set_cons_succ, i64_w, i32_w]
              rfl
            refine done_ (by kernel_rfl) ?_
            have QQ := Aside0.mk (py_both h5 hf5.out hA5.out h6 m6 (hok2.del n) hev)
            clear h5 m5 h6 m6 GV G5 hHeld
            generalize erD rl n = er
            go_wp2_with fail
            go_meet
            exact QQ.out
          · skip
            have HRd := Aside0.mk (HR.out.below (Below.refl _ _).drew)
            have HFd := Aside0.mk (HF.out.below (Below.refl _ _).drew)
            have GV := pz_Every HRd.out (by omega) n
            have GF := Aside0.mk (fun (W : World) (hf5 : RpRaw w1 (w1.heap.size + 1) rv rl ev W) => rp_Every hf5 n)
            refine start_ (n := 9) (S := fun w' => (w'.cell? ⟨wr.heap.size, 1, none⟩ = some (.int .i64 n))) (ds := []) #[false, false, false, false, false, false, false, false, false] (by kernel_rfl) rfl rfl ((blk_cell HA1.out 1).trans rfl) (fun hHeld => ?_)
            refine pure_ (i := 0) (N := some 121) (v := ?_) (a' := ?_) #[true, false, false, false, false, false, false, false, false] rfl rfl (by kernel_rfl) (fun _ _ _ h => h) (Or.inl ⟨by rfl, ?_⟩) ?_ ?_
            rotate_left
            · intro w'
              go_simp
              with_reducible rfl
            rotate_left
            · simp only [Act.put, List.setIfInBounds_toArray, List.set_cons_zero, List.set_cons_succ, i64_w, i32_w]
              rfl
            refine pure_ (i := 1) (N := some 122) (v := ?_) (a' := ?_) #[true, true, false, false, false, false, false, false, false] rfl rfl (by kernel_rfl) (fun _ _ _ h => h) (Or.inl ⟨by rfl, ?_⟩) ?_ ?_
            rotate_left
            · intro w'
              go_simp
              with_reducible rfl
            rotate_left
            · simp only [Act.put, List.setIfInBounds_toArray, List.set_cons_zero, List.set_cons_succ, i64_w, i32_w]
              rfl
            refine pure_ (i := 4) (N := some 125) (v := ?_) (a' := ?_) #[true, true, false, false, true, false, false, false, false] rfl rfl (by kernel_rfl) (fun _ _ _ h => h) (Or.inl ⟨by rfl, ?_⟩) ?_ ?_
            rotate_left
            · intro w'
              go_simp
              with_reducible rfl
            rotate_left
            · simp only [Act.put, List.setIfInBounds_toArray, List.set_cons_zero, List.set_cons_succ, i64_w, i32_w]
              rfl
            refine pure_ (i := 5) (N := some 126) (v := ?_) (a' := ?_) #[true, true, false, false, true, true, false, false, false] rfl rfl (by kernel_rfl) (fun _ _ _ h => h) (Or.inl ⟨by rfl, ?_⟩) ?_ ?_
            rotate_left
            · intro w'
              go_simp
              with_reducible rfl
            rotate_left
            · simp only [Act.put, List.setIfInBounds_toArray, List.set_cons_zero, List.set_cons_succ, i64_w, i32_w]
              rfl
            refine take_ (i := 2) (N := some 123) (v := ?_) (a' := ?_) #[true, true, true, false, true, true, false, false, false] rfl rfl (by kernel_rfl) (fun _ _ _ h => h) (Or.inl ⟨by rfl, ?_⟩) hHeld ?_ ?_
            rotate_left
            · intro w' s0
              go_simp
              with_reducible rfl
            rotate_left
            · simp only [Act.put, List.setIfInBounds_toArray, List.set_cons_zero, List.set_cons_succ, i64_w, i32_w]
              rfl
            refine take_ (i := 6) (N := some 127) (v := ?_) (a' := ?_) #[true, true, true, false, true, true, true, false, false] rfl rfl (by kernel_rfl) (fun _ _ _ h => h) (Or.inl ⟨by rfl, ?_⟩) hHeld ?_ ?_
            rotate_left
            · intro w' s0
              go_simp
              with_reducible rfl
            rotate_left
            · simp only [Act.put, List.setIfInBounds_toArray, List.set_cons_zero, List.set_cons_succ, i64_w, i32_w]
              rfl
            refine one_ (i := 3) (N := some 124) #[true, true, true, true, true, true, true, false, false] rfl rfl (by kernel_rfl) (by decide) (fun K hK => ?_)
            refine goes_ Try.func13 (by kernel_rfl) rfl #[.pointer (some ⟨w1.heap.size, 0, none⟩), .int .i64 n] (by rfl) rfl rfl (by simp only [List.map_toArray, List.map_cons, List.map_nil]; rfl) ?_
            with_reducible refine (GV).mono ?_
            rintro e w5 ⟨rfl, h5, m5⟩
            have hf5 := Aside0.mk (rp_mv HFd.out HRd.out m5 h5.hB)
            have hA5 := Aside0.mk (act_pz (g := wr.heap.size) (blk_drew HA1.out) HRd.out m5)
            have G5 := GF.out w5 hf5.out
            refine ⟨_, rfl, ?_⟩
            refine hK.out _ _ ((blk_cell hA5.out 1).trans rfl) (fun hHeld => ?_)
            clear hK K
            refine norm_ (a' := ?_) ?_ ?_
            rotate_left
            · show Act.put _ (some 124) _ = _
              simp only [Act.put, List.setIfInBounds_toArray, List.set_cons_zero, List.set_cons_succ, i64_w, i32_w]
              rfl
            refine one_ (i := 7) (N := some 128) #[true, true, true, true, true, true, true, true, false] rfl rfl (by kernel_rfl) (by decide) (fun K hK => ?_)
            refine goes_ Try.func19 (by kernel_rfl) rfl #[.pointer (some ⟨w1.heap.size + 1, 0, none⟩), .int .i64 n] (by rfl) rfl rfl (by simp only [List.map_toArray, List.map_cons, List.map_nil]; rfl) ?_
            with_reducible refine (G5).mono ?_
            rintro e w6 ⟨rfl, h6, m6⟩
            refine ⟨_, rfl, ?_⟩
            refine hK.out _ _ ((blk_cell (act_rp hA5.out hf5.out m6) 1).trans rfl) (fun hHeld => ?_)
            clear hK K
            refine norm_ (a' := ?_) ?_ ?_
            rotate_left
            · show Act.put _ (some 128) _ = _
              simp only [Act.put, List.setIfInBounds_toArray, List.set_cons_zero, List.set_cons_succ, i64_w, i32_w]
              rfl
            refine pure_ (i := 8) (N := some 129) (v := ?_) (a' := ?_) #[true, true, true, true, true, true, true, true, true] rfl rfl (by kernel_rfl) (fun _ _ _ h => h) (Or.inl ⟨by rfl, ?_⟩) ?_ ?_
            rotate_left
            · intro w'
              go_simp
              with_reducible rfl
            rotate_left
            · simp only [Act.put, List.setIfInBounds_toArray, List.set_cons_zero, List.set_cons_succ, i64_w, i32_w]
              rfl
            refine done_ (by kernel_rfl) ?_
            have QQ := Aside0.mk (py_both h5 hf5.out hA5.out h6 m6 hok2 (py_every hev n))
            clear h5 m5 h6 m6 GV G5 hHeld
            generalize erE n = er
            go_wp2_with fail
            go_meet
            exact QQ.out
          · skip
            go_loopw [13] (fun ii wq => ∃ (k : Nat) (ys : List Int), k ≤ xs.length ∧ ii = .int .i64 (k : Int) ∧ Aside0 (ys.length = xs.length ∧ wq.ownsRow w4.heap.size 3 1 (.slice A5 ys.length c5) ys.length (nums .i64 ys)) ∧ Aside0 (PyMid w1 w1.heap.size (w1.heap.size + 1) wr.heap.size kd n (.slice A2 f2.length c2) wq)) (fun ii _ => xs.length - (intOf ii).toNat)
            case atStart => exact ⟨0, xs, Nat.zero_le _, rfl, ⟨rfl, O8.out⟩, MID8⟩
            case round =>
              obtain ⟨k, ys, hk, rfl, hys, hmid⟩ := hrel
              by_cases hkx : k < xs.length
              · have p3 : decide ((k : Int) < (xs.length : Int)) = true := decide_eq_true (by omega)
                obtain ⟨y1, y3⟩ := hys.out
                rcases own1_form y3 with ⟨_, hy0⟩ | ⟨g, cap, cur, ev9, hg, hh, hnc, hcm, hszc, htk, _⟩
                · rw [hy0] at y1
                  exact absurd hkx (by simp at y1; omega)
                obtain rfl : A5 = some ⟨g, 0, none⟩ := (Value.slice.inj ev9).1
                have fz := blk_frozen hh k
                have HY := Aside0.mk (own1_set y3 k (-5))
                have HM := Aside0.mk (py_store (k := k) (x := .int .i64 (-5)) hmid.out hh (by omega))
                have ck : ∃ u, wr.cell? ⟨g, k, none⟩ = some u := by
                  rw [blk_cell hh]
                  exact ⟨_, Array.getElem?_eq_getElem (by omega)⟩
                obtain ⟨ck0, ck⟩ := ck
                have HY1 := Aside0.mk y1
                have i1 : (0 : Int) ≤ (k : Int) := by omega
                have i2 : (k : Int) < (xs.length : Int) := by omega
                clear y1 y3 hh htk ev9 hys hmid
                go_wp2_with fail
                refine ⟨⟨k + 1, ys.set k (-5), by omega, by simp, ⟨by rw [List.length_set]; exact HY1.out, ?_⟩, HM⟩, by simp [intOf]; omega⟩
                have := HY.out
                rw [List.length_set] at this ⊢
                exact this
              · have p3 : decide ((k : Int) < (xs.length : Int)) = false := decide_eq_false (by omega)
                go_wp2_with fail
                go_meet
                exact hmid.out
        case rest =>
          clear HR HF HA1 HWB HOK IW HS1 hok2 hev hev1 hev2 hll d0 d1 d2 hac
          obtain ⟨⟨pv, rv, rl, ev, hr, hf, hok2, hev1, hev2⟩, hA⟩ := hcut
          have hll : rl.length ≤ 1000 := by have := hok2.most; omega
          have KY := pz_Keys hr hok2 (by omega)
          have KF := Aside0.mk (fun (W : World) (hb : Below wc.heap.size wc W) => rp_Keys (hf.below hb) hll)
          have hkl : (rl.map Prod.fst).length ≤ 64 := by rw [List.length_map]; exact hok2.most
          have HR := Aside0.mk hr
          have HF := Aside0.mk hf
          have HOK := Aside0.mk hok2
          have hwcs : w1.heap.size ≤ wc.heap.size := hr.hB.size
          clear hr hf hA hok2
          generalize rl.map Prod.fst = ks at KY KF hkl
          go_wp2_with (first | (go_at_call 14; (with_reducible refine KY.mono ?_); rintro e w5 ⟨v5, rfl, own5, hb5⟩; obtain ⟨A5, c5, ev5⟩ := own_slice own5; subst ev5; have K6 := KF.out w5 hb5; have O5 := Aside0.mk own5; have B5 := Aside0.mk hb5; clear own5 hb5 KY) | (go_at_call 22; (with_reducible refine K6.mono ?_); rintro e w6 ⟨v6, rfl, own6, hb6⟩; obtain ⟨A6, c6, ev6⟩ := own_slice own6; subst ev6; have IN := ints_both (c0 := c5) (c1 := c6) (ints_ofOwn (base := 0) (pw_own_below O5.out hb6)) (ints_ofOwn (base := 0) own6) (by omega); have O6 := Aside0.mk (pw_own_below O5.out hb6); have B6 := Aside0.mk (pyb2 B5.out hb6); clear own6 hb6 K6) | (go_at_call 20; (with_reducible refine IN.mono ?_); rintro e w7 ⟨rfl, n7, hw7⟩; have b7 : Below w6.heap.size w6 w7 := (by rw [hw7]; exact pw_below_drewN (Below.refl _ w6) n7); have O7 := Aside0.mk (pw_own_below O6.out b7); have B7 := Aside0.mk (pyb2 B6.out b7); clear hw7 b7 IN))
          go_loopw [15] (fun ii wq => ∃ (k : Nat) (ys : List Int), k ≤ ks.length ∧ ii = .int .i64 (k : Int) ∧ Aside0 (ys.length = ks.length ∧ wq.ownsRow wc.heap.size 3 1 (.slice A5 ys.length c5) ys.length (nums .i64 ys)) ∧ Aside0 (Below wc.heap.size wc wq)) (fun ii _ => ks.length - (intOf ii).toNat)
          case atStart => exact ⟨0, ks, Nat.zero_le _, rfl, ⟨rfl, O7.out⟩, B7⟩
          case round =>
            obtain ⟨k, ys, hk, rfl, hys, hB2⟩ := hrel
            by_cases hkx : k < ks.length
            · have p3 : decide ((k : Int) < (ks.length : Int)) = true := decide_eq_true (by omega)
              obtain ⟨y1, y3⟩ := hys.out
              rcases own1_form y3 with ⟨_, hy0⟩ | ⟨g, cap, cur, ev9, hg, hh, hnc, hcm, hszc, htk, _⟩
              · rw [hy0] at y1
                exact absurd hkx (by simp at y1; omega)
              obtain rfl : A5 = some ⟨g, 0, none⟩ := (Value.slice.inj ev9).1
              have fz := blk_frozen hh k
              have HY := Aside0.mk (own1_set y3 k (-5))
              have ck : ∃ u, wr.cell? ⟨g, k, none⟩ = some u := by
                rw [blk_cell hh]
                exact ⟨_, Array.getElem?_eq_getElem (by omega)⟩
              obtain ⟨ck0, ck⟩ := ck
              have HY1 := Aside0.mk y1
              have i1 : (0 : Int) ≤ (k : Int) := by omega
              have i2 : (k : Int) < (ks.length : Int) := by omega
              clear y1 y3 hh htk ev9 hys
              go_wp2_with fail
              refine ⟨⟨k + 1, ys.set k (-5), by omega, by simp, ⟨by rw [List.length_set]; exact HY1.out, ?_⟩, ⟨hB2.out.setCell hg _⟩⟩, by simp [intOf]; omega⟩
              have := HY.out
              rw [List.length_set] at this ⊢
              exact this
            · have p3 : decide ((k : Int) < (ks.length : Int)) = false := decide_eq_false (by omega)
              go_wp2_with fail
              exact ⟨⟨j + 1, by omega, by simp, ⟨pv, rv, rl, ev, HR.out.below hB2.out, HF.out.below hB2.out, HOK.out, hev1, hev2⟩⟩, by simp [intOf]; omega⟩
      · have p1 : decide ((j : Int) < (l.length : Int)) = false := decide_eq_false (by omega)
        obtain ⟨pv, rv, rl, ev, hr, hf, hok2, hev1, hev2⟩ := ht.out
        have HB := Aside0.mk hr.hB
        clear hr hf hok2 ht
        go_wp2_with fail
        go_ret
        exact ⟨rfl, pyb2 HD.out.below HB.out⟩

/-- THE ONE PURE STATEMENT of postilionlaw10_ProbePlays: yours. -/
def postilionlaw10_ProbePlays.Pure : Prop := ∀ (a0 : Int) (l1 : List (S46)), (Lit.int .i64 a0).wf = true → l1.length ≤ maxLen → (∀ y_ ∈ l1, ((Lit.int .u8 y_.f0).wf = true) ∧ ((Lit.int .i64 y_.f1).wf = true) ∧ (y_.f2.length ≤ maxLen) ∧ (∀ z_ ∈ y_.f2, ((Lit.int .i64 z_).wf = true))) → postilionlaw10_ProbePlays.f a0 l1 = some true

end Go.Proofs.Ytnajlpmpofljhaa.P
