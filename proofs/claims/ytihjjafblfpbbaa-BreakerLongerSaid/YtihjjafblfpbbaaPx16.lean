-- Laid by sp.py, a program of this session's, out of the translation and the session's own stand-ins.
import Derived.Test.YtihjjafblfpbbaaPx0
import Derived.Test.YtihjjafblfpbbaaPx1
import Derived.Test.YtihjjafblfpbbaaPx3
import Derived.Test.YtihjjafblfpbbaaPx4
import Derived.Test.YtihjjafblfpbbaaPx10
import Derived.Test.YtihjjafblfpbbaaPx12
import Derived.Test.YtihjjafblfpbbaaPx15
namespace Go.Proofs.Ytihjjafblfpbbaa.P
open Go.RowKit Go.Proofs.YtihjjafblfpbbaaW.PrintWords Go.Proofs.YtihjjafblfpbbaaW.PrintLast Go.Proofs.YtihjjafblfpbbaaW.PrintMore
attribute [local go_sem] max2_int min2_int max_two min_two max_three min_three max_four min_four   -- for this text's walks alone
set_option linter.unusedVariables false
set_option linter.unusedSimpArgs false
set_option linter.unnecessarySimpa false

attribute [local go_sem high] eqA23
/-! ### postilionlaw09_BreakerLonger: function 5 -/
mutual
def postilionlaw09_BreakerLonger.j0 : Nat → Int → List Int → Bool → Option (Bool)
  | 0, _, _, _ => none
  | k + 1, x0, x1, x25 => if x25 = true then (some true) else ((breaker_Breaker_Bad.f k false 0 0 false 7 x0 false true).bind fun bt235 => (postilionlaw09_BreakerLonger.l0 k x0 x1 bt235.2.2.2.2 7 x0 0 bt235.1 bt235.2.1 bt235.2.2.1 bt235.2.2.2.1))
def postilionlaw09_BreakerLonger.l0 : Nat → Int → List Int → Int → Int → Int → Int → Bool → Int → Int → Bool → Option (Bool)
  | 0, _, _, _, _, _, _, _, _, _, _ => none
  | k + 1, x0, x1, x6, x7, x8, x9, x235000, x235001, x235002, x235003 => if x9 < (x1.length : Int) then (if x6 = 0 then ((breaker_Breaker_Lets.f x235000 x235001 x235002 x235003 (wrap64 ((wrap64 (x7 + x8)) - 1))).bind fun t242 => (if t242 = true then (postilionlaw09_BreakerLonger.j2 k x0 x1 x7 x8 x9 true x235000 x235001 x235002 x235003) else ((breaker_Breaker_Lets.f x235000 x235001 x235002 x235003 (wrap64 (x7 + x8))).bind fun t243 => (postilionlaw09_BreakerLonger.j2 k x0 x1 x7 x8 x9 (!t243) x235000 x235001 x235002 x235003)))) else (postilionlaw09_BreakerLonger.j2 k x0 x1 x7 x8 x9 true x235000 x235001 x235002 x235003)) else (if x6 = 0 then ((breaker_Breaker_Lets.f x235000 x235001 x235002 x235003 (wrap64 ((wrap64 (x7 + x8)) - 1))).bind fun t240 => (if t240 = true then (some false) else ((breaker_Breaker_Lets.f x235000 x235001 x235002 x235003 (wrap64 (x7 + x8))).bind fun t241 => (some t241)))) else (some false))
def postilionlaw09_BreakerLonger.j2 : Nat → Int → List Int → Int → Int → Int → Bool → Bool → Int → Int → Bool → Option (Bool)
  | 0, _, _, _, _, _, _, _, _, _, _ => none
  | k + 1, x0, x1, x7, x8, x9, x56, x235000, x235001, x235002, x235003 => if x56 = true then (some false) else (if 0 ≤ x9 then (if x9 < (x1.length : Int) then ((breaker_Breaker_Try.f x235000 x235001 x235002 x235003 (wrap64 ((wrap64 (x7 + x8)) + (wrap64 (rd x1 x9))))).bind fun bt245 => (if bt245.2.2.2.2.2 = 0 then (postilionlaw09_BreakerLonger.j3 k x0 x1 (wrap64 ((wrap64 (x7 + x8)) + (wrap64 (rd x1 x9)))) x8 x9 (!bt245.2.2.2.2.1) bt245.1 bt245.2.1 bt245.2.2.1 bt245.2.2.2.1) else (postilionlaw09_BreakerLonger.j3 k x0 x1 (wrap64 ((wrap64 (x7 + x8)) + (wrap64 (rd x1 x9)))) x8 x9 true bt245.1 bt245.2.1 bt245.2.2.1 bt245.2.2.2.1))) else (none)) else (none))
def postilionlaw09_BreakerLonger.j3 : Nat → Int → List Int → Int → Int → Int → Bool → Bool → Int → Int → Bool → Option (Bool)
  | 0, _, _, _, _, _, _, _, _, _, _ => none
  | k + 1, x0, x1, x7, x8, x9, x78, x252000, x252001, x252002, x252003 => if x78 = true then (some false) else ((breaker_Breaker_Good.f x252000 x252001 x252002 x252003 true).bind fun bt252 => (if (bt252.1 || (!(bt252.2.1 == 0) || (!(bt252.2.2.1 == 0) || (bt252.2.2.2)))) = true then (some false) else ((breaker_Breaker_Bad.f k x252000 x252001 x252002 x252003 x7 x0 true false).bind fun bt256 => (if (wrap64 (2 * x8)) > (wrap64 (8 * x0)) then (postilionlaw09_BreakerLonger.l0 k x0 x1 bt256.2.2.2.2 x7 (wrap64 (8 * x0)) (wrap64 (x9 + 1)) bt256.1 bt256.2.1 bt256.2.2.1 bt256.2.2.2.1) else (postilionlaw09_BreakerLonger.l0 k x0 x1 bt256.2.2.2.2 x7 (wrap64 (2 * x8)) (wrap64 (x9 + 1)) bt256.1 bt256.2.1 bt256.2.2.1 bt256.2.2.2.1)))))
end
def postilionlaw09_BreakerLonger.f (k : Nat) (a0 : Int) (l1 : List Int) : Option (Bool) := (postilionlaw09_awake.f k).bind fun t233 => (if t233 = true then (if a0 < 1 then (postilionlaw09_BreakerLonger.j0 k a0 l1 true) else (if a0 > 1000 then (postilionlaw09_BreakerLonger.j0 k a0 l1 true) else (postilionlaw09_BreakerLonger.j0 k a0 l1 (decide ((l1.length : Int) > 20))))) else (some false))
theorem postilionlaw09_BreakerLonger.mono_l : ∀ k, (∀ y0 y1 y2, LeO (postilionlaw09_BreakerLonger.j0 k y0 y1 y2) (postilionlaw09_BreakerLonger.j0 (k + 1) y0 y1 y2)) ∧ (∀ y0 y1 y2 y3 y4 y5 y6 y7 y8 y9, LeO (postilionlaw09_BreakerLonger.l0 k y0 y1 y2 y3 y4 y5 y6 y7 y8 y9) (postilionlaw09_BreakerLonger.l0 (k + 1) y0 y1 y2 y3 y4 y5 y6 y7 y8 y9)) ∧ (∀ y0 y1 y2 y3 y4 y5 y6 y7 y8 y9, LeO (postilionlaw09_BreakerLonger.j2 k y0 y1 y2 y3 y4 y5 y6 y7 y8 y9) (postilionlaw09_BreakerLonger.j2 (k + 1) y0 y1 y2 y3 y4 y5 y6 y7 y8 y9)) ∧ (∀ y0 y1 y2 y3 y4 y5 y6 y7 y8 y9, LeO (postilionlaw09_BreakerLonger.j3 k y0 y1 y2 y3 y4 y5 y6 y7 y8 y9) (postilionlaw09_BreakerLonger.j3 (k + 1) y0 y1 y2 y3 y4 y5 y6 y7 y8 y9))
  | 0 => ⟨fun _ _ _ r h => by simp [postilionlaw09_BreakerLonger.j0] at h, fun _ _ _ _ _ _ _ _ _ _ r h => by simp [postilionlaw09_BreakerLonger.l0] at h, fun _ _ _ _ _ _ _ _ _ _ r h => by simp [postilionlaw09_BreakerLonger.j2] at h, fun _ _ _ _ _ _ _ _ _ _ r h => by simp [postilionlaw09_BreakerLonger.j3] at h⟩
  | k + 1 => by
    obtain ⟨ih0, ih1, ih2, ih3⟩ := postilionlaw09_BreakerLonger.mono_l k
    refine ⟨?_, ?_, ?_, ?_⟩
    · intro y0 y1 y2
      unfold postilionlaw09_BreakerLonger.j0
      repeat' first
      | (with_reducible exact ih0 _ _ _)
      | (with_reducible exact ih1 _ _ _ _ _ _ _ _ _ _)
      | (with_reducible exact ih2 _ _ _ _ _ _ _ _ _ _)
      | (with_reducible exact ih3 _ _ _ _ _ _ _ _ _ _)
      | (with_reducible exact breaker_Breaker_Bad.mono _ _ _ _ _ _ _ _ _)
      | (with_reducible exact postilionlaw09_awake.mono _)
      | (with_reducible exact LeO.refl _)
      | (with_reducible exact LeO.none _)
      | (with_reducible refine LeO.ite ?_ ?_)
      | (with_reducible refine LeO.bind ?_ (fun _ => ?_))
      | exact ih0 _ _ _
      | exact ih1 _ _ _ _ _ _ _ _ _ _
      | exact ih2 _ _ _ _ _ _ _ _ _ _
      | exact ih3 _ _ _ _ _ _ _ _ _ _
      | exact breaker_Breaker_Bad.mono _ _ _ _ _ _ _ _ _
      | exact postilionlaw09_awake.mono _
      | exact LeO.none _
      | refine LeO.ite ?_ ?_
      | refine LeO.bind ?_ (fun _ => ?_)
    · intro y0 y1 y2 y3 y4 y5 y6 y7 y8 y9
      unfold postilionlaw09_BreakerLonger.l0
      repeat' first
      | (with_reducible exact ih0 _ _ _)
      | (with_reducible exact ih1 _ _ _ _ _ _ _ _ _ _)
      | (with_reducible exact ih2 _ _ _ _ _ _ _ _ _ _)
      | (with_reducible exact ih3 _ _ _ _ _ _ _ _ _ _)
      | (with_reducible exact breaker_Breaker_Bad.mono _ _ _ _ _ _ _ _ _)
      | (with_reducible exact postilionlaw09_awake.mono _)
      | (with_reducible exact LeO.refl _)
      | (with_reducible exact LeO.none _)
      | (with_reducible refine LeO.ite ?_ ?_)
      | (with_reducible refine LeO.bind ?_ (fun _ => ?_))
      | exact ih0 _ _ _
      | exact ih1 _ _ _ _ _ _ _ _ _ _
      | exact ih2 _ _ _ _ _ _ _ _ _ _
      | exact ih3 _ _ _ _ _ _ _ _ _ _
      | exact breaker_Breaker_Bad.mono _ _ _ _ _ _ _ _ _
      | exact postilionlaw09_awake.mono _
      | exact LeO.none _
      | refine LeO.ite ?_ ?_
      | refine LeO.bind ?_ (fun _ => ?_)
    · intro y0 y1 y2 y3 y4 y5 y6 y7 y8 y9
      unfold postilionlaw09_BreakerLonger.j2
      repeat' first
      | (with_reducible exact ih0 _ _ _)
      | (with_reducible exact ih1 _ _ _ _ _ _ _ _ _ _)
      | (with_reducible exact ih2 _ _ _ _ _ _ _ _ _ _)
      | (with_reducible exact ih3 _ _ _ _ _ _ _ _ _ _)
      | (with_reducible exact breaker_Breaker_Bad.mono _ _ _ _ _ _ _ _ _)
      | (with_reducible exact postilionlaw09_awake.mono _)
      | (with_reducible exact LeO.refl _)
      | (with_reducible exact LeO.none _)
      | (with_reducible refine LeO.ite ?_ ?_)
      | (with_reducible refine LeO.bind ?_ (fun _ => ?_))
      | exact ih0 _ _ _
      | exact ih1 _ _ _ _ _ _ _ _ _ _
      | exact ih2 _ _ _ _ _ _ _ _ _ _
      | exact ih3 _ _ _ _ _ _ _ _ _ _
      | exact breaker_Breaker_Bad.mono _ _ _ _ _ _ _ _ _
      | exact postilionlaw09_awake.mono _
      | exact LeO.none _
      | refine LeO.ite ?_ ?_
      | refine LeO.bind ?_ (fun _ => ?_)
    · intro y0 y1 y2 y3 y4 y5 y6 y7 y8 y9
      unfold postilionlaw09_BreakerLonger.j3
      repeat' first
      | (with_reducible exact ih0 _ _ _)
      | (with_reducible exact ih1 _ _ _ _ _ _ _ _ _ _)
      | (with_reducible exact ih2 _ _ _ _ _ _ _ _ _ _)
      | (with_reducible exact ih3 _ _ _ _ _ _ _ _ _ _)
      | (with_reducible exact breaker_Breaker_Bad.mono _ _ _ _ _ _ _ _ _)
      | (with_reducible exact postilionlaw09_awake.mono _)
      | (with_reducible exact LeO.refl _)
      | (with_reducible exact LeO.none _)
      | (with_reducible refine LeO.ite ?_ ?_)
      | (with_reducible refine LeO.bind ?_ (fun _ => ?_))
      | exact ih0 _ _ _
      | exact ih1 _ _ _ _ _ _ _ _ _ _
      | exact ih2 _ _ _ _ _ _ _ _ _ _
      | exact ih3 _ _ _ _ _ _ _ _ _ _
      | exact breaker_Breaker_Bad.mono _ _ _ _ _ _ _ _ _
      | exact postilionlaw09_awake.mono _
      | exact LeO.none _
      | refine LeO.ite ?_ ?_
      | refine LeO.bind ?_ (fun _ => ?_)
theorem postilionlaw09_BreakerLonger.mono : ∀ a0 a1 k, LeO (postilionlaw09_BreakerLonger.f k a0 a1) (postilionlaw09_BreakerLonger.f (k + 1) a0 a1) := by
  intro a0 a1 k
  obtain ⟨ih0, ih1, ih2, ih3⟩ := postilionlaw09_BreakerLonger.mono_l k
  unfold postilionlaw09_BreakerLonger.f
  repeat' first
      | (with_reducible exact ih0 _ _ _)
      | (with_reducible exact ih1 _ _ _ _ _ _ _ _ _ _)
      | (with_reducible exact ih2 _ _ _ _ _ _ _ _ _ _)
      | (with_reducible exact ih3 _ _ _ _ _ _ _ _ _ _)
      | (with_reducible exact breaker_Breaker_Bad.mono _ _ _ _ _ _ _ _ _)
      | (with_reducible exact postilionlaw09_awake.mono _)
      | (with_reducible exact LeO.refl _)
      | (with_reducible exact LeO.none _)
      | (with_reducible refine LeO.ite ?_ ?_)
      | (with_reducible refine LeO.bind ?_ (fun _ => ?_))
      | exact ih0 _ _ _
      | exact ih1 _ _ _ _ _ _ _ _ _ _
      | exact ih2 _ _ _ _ _ _ _ _ _ _
      | exact ih3 _ _ _ _ _ _ _ _ _ _
      | exact breaker_Breaker_Bad.mono _ _ _ _ _ _ _ _ _
      | exact postilionlaw09_awake.mono _
      | exact LeO.none _
      | refine LeO.ite ?_ ?_
      | refine LeO.bind ?_ (fun _ => ?_)
set_option maxHeartbeats 8000000 in
set_option maxRecDepth 100000 in
theorem postilionlaw09_BreakerLonger.calls (k : Nat) (a0 : Int) (A1 : Option Addr) (c1 : Nat) (l1 : List Int) (r : Bool) (w : World) (hr1 : Kd.C (Kd.int .u8) w A1 l1.length l1) (hc1 : l1.length ≤ c1) (h : postilionlaw09_BreakerLonger.f k a0 l1 = some r) (hT : Aside0 (r = true)) :
    Calls Try.prog 5 #[.int .i64 a0, .slice A1 l1.length c1] w fun e w' => e = .returned (.bool r) ∧ Below w.heap.size w w' := by
  have hu23 := Try.underlying23
  have HR1 := Aside0.mk hr1
  have HC1 := Aside0.mk hc1
  clear hr1 hc1
  have HB := Aside0.mk (Below.refl w.heap.size w)
  have H : ((postilionlaw09_awake.f k).bind fun t233 => (if t233 = true then (if a0 < 1 then (postilionlaw09_BreakerLonger.j0 k a0 l1 true) else (if a0 > 1000 then (postilionlaw09_BreakerLonger.j0 k a0 l1 true) else (postilionlaw09_BreakerLonger.j0 k a0 l1 (decide ((l1.length : Int) > 20))))) else (some false))) = some r := h
  clear h
  replace H := Option.bind_eq_some_iff.mp H
  obtain ⟨t233, A30, H⟩ := H
  replace H : (if t233 = true then (if a0 < 1 then (postilionlaw09_BreakerLonger.j0 k a0 l1 true) else (if a0 > 1000 then (postilionlaw09_BreakerLonger.j0 k a0 l1 true) else (postilionlaw09_BreakerLonger.j0 k a0 l1 (decide ((l1.length : Int) > 20))))) else (some false)) = some r := H
  have A3 := Aside0.mk A30
  clear A30
  by_cases c4 : t233 = true
  · subst c4
    have H1 : (if a0 < 1 then (postilionlaw09_BreakerLonger.j0 k a0 l1 true) else (if a0 > 1000 then (postilionlaw09_BreakerLonger.j0 k a0 l1 true) else (postilionlaw09_BreakerLonger.j0 k a0 l1 (decide ((l1.length : Int) > 20))))) = some r := by rw [if_pos rfl] at H; exact H
    clear H
    have H := H1
    clear H1
    have HC5 := Aside0.mk H
    clear H
    go_enter Try.func5, Try.ntmps5
    go_upto_region 3 with (first | ((with_reducible refine gate_callee (f := 21) rfl ?_); refine goesL_ (some 13) rfl rfl Try.func21 (by kernel_rfl) rfl #[] rfl (by (try simp only [List.map_toArray, List.map_cons, List.map_nil]); first | done | rfl | (simp only [List.length_drop, List.length_take]; rfl)) ?_; (with_reducible refine (postilionlaw09_awake.calls k  true _ A3.out).mono ?_); rintro e w6 ⟨rfl, hb⟩; refine ⟨_, rfl, ?_⟩; have n0_ := Aside0.mk (below_step (by repeat (first | (with_reducible first | exact HB.out | apply below_alloc | apply pw_below_drewN | apply below_drew1) | exact HB.out)) hb); clear HB; have HB := n0_; clear n0_; (try clear hb); (try clear hb2); (try clear hk); (try clear hi)))
    (try simp only [Act.put, List.setIfInBounds_toArray, List.set_cons_zero, List.set_cons_succ])
    go_cut [25] (fun v25 wc => ∃ (kq : Nat) (x25_4 : Bool), v25 = .bool x25_4 ∧ Aside0 (postilionlaw09_BreakerLonger.j0 kq a0 l1 x25_4 = some r) ∧ Aside0 (kq ≤ k) ∧ Aside0 (Below w.heap.size w wc))
    case first =>
      have H := HC5.out
      clear HC5
      by_cases c7 : a0 < 1
      · rw [if_pos c7] at H
        have c7b0 : decide (a0 < 1) = true := decide_eq_true c7
        clear c7
        (first | rw [c7b0] | (simp only [i64_w, i32_w]; rw [c7b0]) | skip)
        have H' := Aside0.mk H
        clear H
        go_wp2
        go_meet
        case rel => exact ⟨_, (true), (by first | rfl | (simp; done) | (simp [*]; done)), H', ⟨by first | omega | exact Nat.le_refl _⟩, ⟨by repeat (first | (with_reducible first | exact HB.out | apply below_alloc | apply pw_below_drewN | apply below_drew1) | exact HB.out)⟩⟩
      · rw [if_neg c7] at H
        have c7b0 : decide (a0 < 1) = false := decide_eq_false c7
        clear c7
        (first | rw [c7b0] | (simp only [i64_w, i32_w]; rw [c7b0]) | skip)
        by_cases c8 : a0 > 1000
        · rw [if_pos c8] at H
          have c8b0 : decide (1000 < a0) = true := decide_eq_true c8
          clear c8
          have H' := Aside0.mk H
          clear H
          go_wp2
          go_meet
          case rel => exact ⟨_, (true), (by first | rfl | (simp; done) | (simp [*]; done)), H', ⟨by first | omega | exact Nat.le_refl _⟩, ⟨by repeat (first | (with_reducible first | exact HB.out | apply below_alloc | apply pw_below_drewN | apply below_drew1) | exact HB.out)⟩⟩
        · rw [if_neg c8] at H
          have c8b0 : decide (1000 < a0) = false := decide_eq_false c8
          clear c8
          have H' := Aside0.mk H
          clear H
          go_wp2
          go_meet
          case rel => exact ⟨_, (decide ((l1.length : Int) > 20)), (by first | rfl | (simp; done) | (simp [*]; done)), H', ⟨by first | omega | exact Nat.le_refl _⟩, ⟨by repeat (first | (with_reducible first | exact HB.out | apply below_alloc | apply pw_below_drewN | apply below_drew1) | exact HB.out)⟩⟩
    case rest =>
      clear HC5
      try clear c1
      try clear c2
      try clear p2
      try clear c4
      try clear c5
      try clear c7
      try clear c7b0
      try clear c8
      try clear c8b0
      obtain ⟨kq, x25_4, rfl, HA, HJ4, HB⟩ := hcut
      cases kq with
      | zero => exact absurd HA.out (by simp [postilionlaw09_BreakerLonger.j0])
      | succ kj4 =>
        have H := HA.out
        clear HA
        simp only [postilionlaw09_BreakerLonger.j0] at H
        by_cases c9 : x25_4 = true
        · subst c9
          have H1 : (some true) = some r := by rw [if_pos rfl] at H; exact H
          clear H
          have H := H1
          clear H1
          obtain rfl := Option.some.inj H
          go_wp2
          go_ret
          exact ⟨by first | rfl | (simp [errW_none, errW_some] <;> rfl) | (simp [*, errW_none, errW_some] <;> rfl), by repeat (first | (with_reducible first | exact HB.out | apply below_alloc | apply pw_below_drewN | apply below_drew1) | exact HB.out)⟩
        · replace c9 := Bool.eq_false_iff.mpr c9
          subst c9
          have H1 : ((breaker_Breaker_Bad.f kj4 false 0 0 false 7 a0 false true).bind fun bt235 => (postilionlaw09_BreakerLonger.l0 kj4 a0 l1 bt235.2.2.2.2 7 a0 0 bt235.1 bt235.2.1 bt235.2.2.1 bt235.2.2.2.1)) = some r := by rw [if_neg (show ¬ (false = true) by decide)] at H; exact H
          clear H
          have H := H1
          clear H1
          replace H := Option.bind_eq_some_iff.mp H
          obtain ⟨⟨t235, t236, t237, t238, t239⟩, A100, H⟩ := H
          replace H : (postilionlaw09_BreakerLonger.l0 kj4 a0 l1 t239 7 a0 0 t235 t236 t237 t238) = some r := H
          have A10 := Aside0.mk A100
          clear A100
          have H' := Aside0.mk H
          clear H
          go_wp2_with (first | ((with_reducible refine gate_dst (N := 5) rfl ?_); (try (refine gate_guard (by rfl) ?_; dsimp only)); refine box_event ?hg (N := 5) ?hd (cs := #[.bool false, .int .i64 0, .int .i64 0, .bool false]) (t := 23) ?hr ?_; (case hd => rfl); (case hg => rfl); (case hr => first | (go_simp; done) | (go_simp; rfl)); intro gb234 hg w11 hbox hb; have n0_ := Aside0.mk (below_step (by repeat (first | (with_reducible first | exact HB.out | apply below_alloc | apply pw_below_drewN | apply below_drew1) | exact HB.out)) hb); have n1_ := Aside0.mk (hbox); have n2_ := Aside0.mk ((by rw [hg]; exact (below_size (by repeat (first | (with_reducible first | exact HB.out | apply below_alloc | apply pw_below_drewN | apply below_drew1) | exact HB.out))) : w.heap.size ≤ gb234)); have n3_ := Aside0.mk ((by rw [hg]; exact (below_size (by repeat (first | (with_reducible first | exact HB.out | apply below_alloc | apply pw_below_drewN | apply below_drew1) | exact HB.out))) : w.heap.size ≤ gb234)); clear HB; have HB := n0_; have BK234 := n1_; have GW234 := n2_; have GE234 := n3_; clear n0_ n1_ n2_ n3_; clear hb hbox hg; have hcz12_0 : w11.cell? ⟨gb234, 0, none⟩ = some (.bool false) := (blk_cell BK234.out 0).trans rfl; have hcz12_1 : w11.cell? ⟨gb234, 1, none⟩ = some (.int .i64 0) := (blk_cell BK234.out 1).trans rfl; have hcz12_2 : w11.cell? ⟨gb234, 2, none⟩ = some (.int .i64 0) := (blk_cell BK234.out 2).trans rfl; have hcz12_3 : w11.cell? ⟨gb234, 3, none⟩ = some (.bool false) := (blk_cell BK234.out 3).trans rfl; have hfz12_0 := blk_frozen BK234.out 0; have hfz12_1 := blk_frozen BK234.out 1; have hfz12_2 := blk_frozen BK234.out 2; have hfz12_3 := blk_frozen BK234.out 3) | ((with_reducible refine gate_callee (f := 15) rfl ?_); refine goesL_ (some 29) rfl rfl Try.func15 (by kernel_rfl) rfl #[.agg #[.bool false, .int .i64 0, .int .i64 0, .bool false], .int .i64 7, .int .i64 a0, .bool false, .bool true] rfl (by (try simp only [List.map_toArray, List.map_cons, List.map_nil]); first | done | rfl | (simp only [List.length_drop, List.length_take]; rfl)) ?_; (with_reducible refine (breaker_Breaker_Bad.calls kj4 false 0 0 false 7 a0 false true t235 t236 t237 t238 t239 _ A10.out).mono ?_); rintro e w13 ⟨rfl, hb⟩; refine ⟨_, rfl, ?_⟩; have n0_ := Aside0.mk (blk_below (g := gb234) (o := .cells #[.bool false, .int .i64 0, .int .i64 0, .bool false] 23 (0, 0)) (by (with_reducible repeat (first | refine blk_drewN ?_ _ | refine blk_drew ?_ | refine blk_alloc ?_ _)); exact BK234.out) hb); have n1_ := Aside0.mk (below_step (by repeat (first | (with_reducible first | exact HB.out | apply below_alloc | apply pw_below_drewN | apply below_drew1 | refine below_set ?_ GE234.out) | exact HB.out)) hb); clear BK234; clear HB; have BK234 := n0_; have HB := n1_; clear n0_ n1_; (try clear hb); (try clear hb2); (try clear hk); (try clear hi); have hcz14_0 : w13.cell? ⟨gb234, 0, none⟩ = some (.bool false) := (blk_cell BK234.out 0).trans rfl; have hcz14_1 : w13.cell? ⟨gb234, 1, none⟩ = some (.int .i64 0) := (blk_cell BK234.out 1).trans rfl; have hcz14_2 : w13.cell? ⟨gb234, 2, none⟩ = some (.int .i64 0) := (blk_cell BK234.out 2).trans rfl; have hcz14_3 : w13.cell? ⟨gb234, 3, none⟩ = some (.bool false) := (blk_cell BK234.out 3).trans rfl; have hfz14_0 := blk_frozen BK234.out 0; have hfz14_1 := blk_frozen BK234.out 1; have hfz14_2 := blk_frozen BK234.out 2; have hfz14_3 := blk_frozen BK234.out 3))
          go_loopg [6, 7, 8, 9] kj4 (fun kq v6 v7 v8 v9 w' => ∃ (x6_2 : Int) (x7_2 : Int) (x8_2 : Int) (x9_2 : Int) (x235000_2 : Bool) (x235001_2 : Int) (x235002_2 : Int) (x235003_2 : Bool), v6 = .int .i64 x6_2 ∧ v7 = .int .i64 x7_2 ∧ v8 = .int .i64 x8_2 ∧ v9 = .int .i64 x9_2 ∧ Aside0 (postilionlaw09_BreakerLonger.l0 kq a0 l1 x6_2 x7_2 x8_2 x9_2 x235000_2 x235001_2 x235002_2 x235003_2 = some r) ∧ Aside0 (kq ≤ kj4) ∧ Aside0 (w'.heap[gb234]? = some (.cells #[.bool x235000_2, .int .i64 x235001_2, .int .i64 x235002_2, .bool x235003_2] 23 (0, 0))) ∧ Aside0 (Below w.heap.size w w'))
          case atStart => exact ⟨(t239), (7), (a0), (0), (t235), (t236), (t237), (t238), (by first | rfl | (simp; done) | (simp [*]; done)), (by first | rfl | (simp; done) | (simp [*]; done)), (by first | rfl | (simp; done) | (simp [*]; done)), (by first | rfl | (simp; done) | (simp [*]; done)), H', ⟨Nat.le_refl _⟩, ⟨by (with_reducible repeat (first | refine blk_drewN ?_ _ | refine blk_drew ?_ | refine blk_alloc ?_ _)); refine blk_put (cs := #[.bool t235, .int .i64 t236, .int .i64 t237, .bool false]) ?_ 3 _ rfl; (with_reducible repeat (first | refine blk_drewN ?_ _ | refine blk_drew ?_ | refine blk_alloc ?_ _)); refine blk_put (cs := #[.bool t235, .int .i64 t236, .int .i64 0, .bool false]) ?_ 2 _ rfl; (with_reducible repeat (first | refine blk_drewN ?_ _ | refine blk_drew ?_ | refine blk_alloc ?_ _)); refine blk_put (cs := #[.bool t235, .int .i64 0, .int .i64 0, .bool false]) ?_ 1 _ rfl; (with_reducible repeat (first | refine blk_drewN ?_ _ | refine blk_drew ?_ | refine blk_alloc ?_ _)); refine blk_put (cs := #[.bool false, .int .i64 0, .int .i64 0, .bool false]) ?_ 0 _ rfl; (with_reducible repeat (first | refine blk_drewN ?_ _ | refine blk_drew ?_ | refine blk_alloc ?_ _)); exact BK234.out⟩, ⟨by repeat (first | (with_reducible first | exact HB.out | apply below_alloc | apply pw_below_drewN | apply below_drew1 | refine below_set ?_ GE234.out) | exact HB.out)⟩⟩
          case round =>
            clear H'
            try clear c1
            try clear c2
            try clear p2
            try clear c4
            try clear c5
            try clear c7
            try clear c7b0
            try clear c8
            try clear c8b0
            try clear c9
            try clear hcz12_0
            try clear hcz12_1
            try clear hcz12_2
            try clear hcz12_3
            try clear hcz14_0
            try clear hcz14_1
            try clear hcz14_2
            try clear hcz14_3
            try clear hfz12_0
            try clear hfz12_1
            try clear hfz12_2
            try clear hfz12_3
            try clear hfz14_0
            try clear hfz14_1
            try clear hfz14_2
            try clear hfz14_3
            try clear p2
            obtain ⟨x6_2, x7_2, x8_2, x9_2, x235000_2, x235001_2, x235002_2, x235003_2, rfl, rfl, rfl, rfl, HA, HK2, BK234, HB⟩ := hrel
            cases gk with
            | zero => exact absurd HA.out (by simp [postilionlaw09_BreakerLonger.l0])
            | succ k2 =>
              have H := HA.out
              clear HA
              simp only [postilionlaw09_BreakerLonger.l0] at H
              by_cases c15 : x9_2 < (l1.length : Int)
              · rw [if_pos c15] at H
                have c15b0 : decide (x9_2 < (l1.length : Int)) = true := decide_eq_true c15
                clear c15
                have HC16 := Aside0.mk H
                clear H
                go_upto_region 11 with (fail)
                go_cut [56] (fun v56 wc => ∃ (kq : Nat) (x56_15 : Bool), v56 = .bool x56_15 ∧ Aside0 (postilionlaw09_BreakerLonger.j2 kq a0 l1 x7_2 x8_2 x9_2 x56_15 x235000_2 x235001_2 x235002_2 x235003_2 = some r) ∧ Aside0 (kq ≤ k2) ∧ Aside0 (wc.heap[gb234]? = some (.cells #[.bool x235000_2, .int .i64 x235001_2, .int .i64 x235002_2, .bool x235003_2] 23 (0, 0))) ∧ Aside0 (Below w.heap.size w wc))
                case first =>
                  have H := HC16.out
                  clear HC16
                  by_cases c17 : x6_2 = 0
                  · rw [if_pos c17] at H
                    have c17b0 : (x6_2 == 0) = true := beq_iff_eq.mpr c17
                    have c17b1 : (x6_2 != 0) = false := bne_eq_false_iff_eq.mpr c17
                    clear c17
                    (first | rw [c17b0] | (simp only [i64_w, i32_w]; rw [c17b0]) | skip)
                    replace H := Option.bind_eq_some_iff.mp H
                    obtain ⟨t242, A180, H⟩ := H
                    replace H : (if t242 = true then (postilionlaw09_BreakerLonger.j2 k2 a0 l1 x7_2 x8_2 x9_2 true x235000_2 x235001_2 x235002_2 x235003_2) else ((breaker_Breaker_Lets.f x235000_2 x235001_2 x235002_2 x235003_2 (wrap64 (x7_2 + x8_2))).bind fun t243 => (postilionlaw09_BreakerLonger.j2 k2 a0 l1 x7_2 x8_2 x9_2 (!t243) x235000_2 x235001_2 x235002_2 x235003_2))) = some r := H
                    have A18 := Aside0.mk A180
                    clear A180
                    by_cases c19 : t242 = true
                    · subst c19
                      have H1 : (postilionlaw09_BreakerLonger.j2 k2 a0 l1 x7_2 x8_2 x9_2 true x235000_2 x235001_2 x235002_2 x235003_2) = some r := by rw [if_pos rfl] at H; exact H
                      clear H
                      have H := H1
                      clear H1
                      have H' := Aside0.mk H
                      clear H
                      have hcz20_0 : wr.cell? ⟨gb234, 0, none⟩ = some (.bool x235000_2) := (blk_cell BK234.out 0).trans rfl
                      have hcz20_1 : wr.cell? ⟨gb234, 1, none⟩ = some (.int .i64 x235001_2) := (blk_cell BK234.out 1).trans rfl
                      have hcz20_2 : wr.cell? ⟨gb234, 2, none⟩ = some (.int .i64 x235002_2) := (blk_cell BK234.out 2).trans rfl
                      have hcz20_3 : wr.cell? ⟨gb234, 3, none⟩ = some (.bool x235003_2) := (blk_cell BK234.out 3).trans rfl
                      have hfz20_0 := blk_frozen BK234.out 0
                      have hfz20_1 := blk_frozen BK234.out 1
                      have hfz20_2 := blk_frozen BK234.out 2
                      have hfz20_3 := blk_frozen BK234.out 3
                      go_wp2_with (first | (go_at_call 13; (with_reducible refine (breaker_Breaker_Lets.calls x235000_2 x235001_2 x235002_2 x235003_2 (wrap64 ((wrap64 (x7_2 + x8_2)) - 1)) true _ A18.out).mono ?_); rintro e w21 ⟨rfl, hb⟩; have n0_ := Aside0.mk (blk_below (g := gb234) (o := .cells #[.bool x235000_2, .int .i64 x235001_2, .int .i64 x235002_2, .bool x235003_2] 23 (0, 0)) (by (with_reducible repeat (first | refine blk_drewN ?_ _ | refine blk_drew ?_ | refine blk_alloc ?_ _)); exact BK234.out) hb); have n1_ := Aside0.mk (below_step (by repeat (first | (with_reducible first | exact HB.out | apply below_alloc | apply pw_below_drewN | apply below_drew1 | refine below_set ?_ GE234.out) | exact HB.out)) hb); clear BK234; clear HB; have BK234 := n0_; have HB := n1_; clear n0_ n1_; (try clear hb); (try clear hb2); (try clear hk); (try clear hi)))
                      go_meet
                      case rel => exact ⟨_, (true), (by first | rfl | (simp; done) | (simp [*]; done)), H', ⟨by have := HJ4.out; have := HK2.out; first | omega | exact Nat.le_refl _⟩, ⟨by (with_reducible repeat (first | refine blk_drewN ?_ _ | refine blk_drew ?_ | refine blk_alloc ?_ _)); exact BK234.out⟩, ⟨by repeat (first | (with_reducible first | exact HB.out | apply below_alloc | apply pw_below_drewN | apply below_drew1 | refine below_set ?_ GE234.out) | exact HB.out)⟩⟩
                    · replace c19 := Bool.eq_false_iff.mpr c19
                      subst c19
                      have H1 : ((breaker_Breaker_Lets.f x235000_2 x235001_2 x235002_2 x235003_2 (wrap64 (x7_2 + x8_2))).bind fun t243 => (postilionlaw09_BreakerLonger.j2 k2 a0 l1 x7_2 x8_2 x9_2 (!t243) x235000_2 x235001_2 x235002_2 x235003_2)) = some r := by rw [if_neg (show ¬ (false = true) by decide)] at H; exact H
                      clear H
                      have H := H1
                      clear H1
                      replace H := Option.bind_eq_some_iff.mp H
                      obtain ⟨t243, A220, H⟩ := H
                      replace H : (postilionlaw09_BreakerLonger.j2 k2 a0 l1 x7_2 x8_2 x9_2 (!t243) x235000_2 x235001_2 x235002_2 x235003_2) = some r := H
                      have A22 := Aside0.mk A220
                      clear A220
                      have H' := Aside0.mk H
                      clear H
                      have hcz23_0 : wr.cell? ⟨gb234, 0, none⟩ = some (.bool x235000_2) := (blk_cell BK234.out 0).trans rfl
                      have hcz23_1 : wr.cell? ⟨gb234, 1, none⟩ = some (.int .i64 x235001_2) := (blk_cell BK234.out 1).trans rfl
                      have hcz23_2 : wr.cell? ⟨gb234, 2, none⟩ = some (.int .i64 x235002_2) := (blk_cell BK234.out 2).trans rfl
                      have hcz23_3 : wr.cell? ⟨gb234, 3, none⟩ = some (.bool x235003_2) := (blk_cell BK234.out 3).trans rfl
                      have hfz23_0 := blk_frozen BK234.out 0
                      have hfz23_1 := blk_frozen BK234.out 1
                      have hfz23_2 := blk_frozen BK234.out 2
                      have hfz23_3 := blk_frozen BK234.out 3
                      go_wp2_with (first | (go_at_call 13; (with_reducible refine (breaker_Breaker_Lets.calls x235000_2 x235001_2 x235002_2 x235003_2 (wrap64 ((wrap64 (x7_2 + x8_2)) - 1)) false _ A18.out).mono ?_); rintro e w24 ⟨rfl, hb⟩; have n0_ := Aside0.mk (blk_below (g := gb234) (o := .cells #[.bool x235000_2, .int .i64 x235001_2, .int .i64 x235002_2, .bool x235003_2] 23 (0, 0)) (by (with_reducible repeat (first | refine blk_drewN ?_ _ | refine blk_drew ?_ | refine blk_alloc ?_ _)); exact BK234.out) hb); have n1_ := Aside0.mk (below_step (by repeat (first | (with_reducible first | exact HB.out | apply below_alloc | apply pw_below_drewN | apply below_drew1 | refine below_set ?_ GE234.out) | exact HB.out)) hb); clear BK234; clear HB; have BK234 := n0_; have HB := n1_; clear n0_ n1_; (try clear hb); (try clear hb2); (try clear hk); (try clear hi); have hcz25_0 : w24.cell? ⟨gb234, 0, none⟩ = some (.bool x235000_2) := (blk_cell BK234.out 0).trans rfl; have hcz25_1 : w24.cell? ⟨gb234, 1, none⟩ = some (.int .i64 x235001_2) := (blk_cell BK234.out 1).trans rfl; have hcz25_2 : w24.cell? ⟨gb234, 2, none⟩ = some (.int .i64 x235002_2) := (blk_cell BK234.out 2).trans rfl; have hcz25_3 : w24.cell? ⟨gb234, 3, none⟩ = some (.bool x235003_2) := (blk_cell BK234.out 3).trans rfl; have hfz25_0 := blk_frozen BK234.out 0; have hfz25_1 := blk_frozen BK234.out 1; have hfz25_2 := blk_frozen BK234.out 2; have hfz25_3 := blk_frozen BK234.out 3) | (go_at_call 13; (with_reducible refine (breaker_Breaker_Lets.calls x235000_2 x235001_2 x235002_2 x235003_2 (wrap64 (x7_2 + x8_2)) t243 _ A22.out).mono ?_); rintro e w26 ⟨rfl, hb⟩; have n0_ := Aside0.mk (blk_below (g := gb234) (o := .cells #[.bool x235000_2, .int .i64 x235001_2, .int .i64 x235002_2, .bool x235003_2] 23 (0, 0)) (by (with_reducible repeat (first | refine blk_drewN ?_ _ | refine blk_drew ?_ | refine blk_alloc ?_ _)); exact BK234.out) hb); have n1_ := Aside0.mk (below_step (by repeat (first | (with_reducible first | exact HB.out | apply below_alloc | apply pw_below_drewN | apply below_drew1 | refine below_set ?_ GE234.out) | exact HB.out)) hb); clear BK234; clear HB; have BK234 := n0_; have HB := n1_; clear n0_ n1_; (try clear hb); (try clear hb2); (try clear hk); (try clear hi)))
                      go_meet
                      case rel => exact ⟨_, (!t243), (by first | rfl | (simp; done) | (simp [*]; done)), H', ⟨by have := HJ4.out; have := HK2.out; first | omega | exact Nat.le_refl _⟩, ⟨by (with_reducible repeat (first | refine blk_drewN ?_ _ | refine blk_drew ?_ | refine blk_alloc ?_ _)); exact BK234.out⟩, ⟨by repeat (first | (with_reducible first | exact HB.out | apply below_alloc | apply pw_below_drewN | apply below_drew1 | refine below_set ?_ GE234.out) | exact HB.out)⟩⟩
                  · rw [if_neg c17] at H
                    have c17b0 : (x6_2 == 0) = false := beq_eq_false_iff_ne.mpr c17
                    have c17b1 : (x6_2 != 0) = true := bne_iff_ne.mpr c17
                    (first | rw [c17b0] | (simp only [i64_w, i32_w]; rw [c17b0]) | skip)
                    have H' := Aside0.mk H
                    clear H
                    go_wp2
                    go_meet
                    case rel => exact ⟨_, (true), (by first | rfl | (simp; done) | (simp [*]; done)), H', ⟨by have := HJ4.out; have := HK2.out; first | omega | exact Nat.le_refl _⟩, ⟨by (with_reducible repeat (first | refine blk_drewN ?_ _ | refine blk_drew ?_ | refine blk_alloc ?_ _)); exact BK234.out⟩, ⟨by repeat (first | (with_reducible first | exact HB.out | apply below_alloc | apply pw_below_drewN | apply below_drew1 | refine below_set ?_ GE234.out) | exact HB.out)⟩⟩
                case rest =>
                  clear HC16
                  try clear c1
                  try clear c2
                  try clear p2
                  try clear c4
                  try clear c5
                  try clear p6
                  try clear c7
                  try clear c7b0
                  try clear c8
                  try clear c8b0
                  try clear c9
                  try clear c15
                  try clear c15b0
                  try clear c17
                  try clear c17b0
                  try clear c17b1
                  try clear c19
                  try clear c21
                  try clear hcz12_0
                  try clear hcz12_1
                  try clear hcz12_2
                  try clear hcz12_3
                  try clear hcz14_0
                  try clear hcz14_1
                  try clear hcz14_2
                  try clear hcz14_3
                  try clear hcz20_0
                  try clear hcz20_1
                  try clear hcz20_2
                  try clear hcz20_3
                  try clear hcz23_0
                  try clear hcz23_1
                  try clear hcz23_2
                  try clear hcz23_3
                  try clear hcz25_0
                  try clear hcz25_1
                  try clear hcz25_2
                  try clear hcz25_3
                  try clear hfz12_0
                  try clear hfz12_1
                  try clear hfz12_2
                  try clear hfz12_3
                  try clear hfz14_0
                  try clear hfz14_1
                  try clear hfz14_2
                  try clear hfz14_3
                  try clear hfz20_0
                  try clear hfz20_1
                  try clear hfz20_2
                  try clear hfz20_3
                  try clear hfz23_0
                  try clear hfz23_1
                  try clear hfz23_2
                  try clear hfz23_3
                  try clear hfz25_0
                  try clear hfz25_1
                  try clear hfz25_2
                  try clear hfz25_3
                  try clear p2
                  obtain ⟨kq, x56_15, rfl, HA, HJ15, BK234, HB⟩ := hcut
                  cases kq with
                  | zero => exact absurd HA.out (by simp [postilionlaw09_BreakerLonger.j2])
                  | succ kj15 =>
                    have H := HA.out
                    clear HA
                    simp only [postilionlaw09_BreakerLonger.j2] at H
                    by_cases c27 : x56_15 = true
                    · subst c27
                      have H1 : (some false) = some r := by rw [if_pos rfl] at H; exact H
                      clear H
                      have H := H1
                      clear H1
                      exact absurd ((Option.some.inj H).trans hT.out) (by decide)
                    · replace c27 := Bool.eq_false_iff.mpr c27
                      subst c27
                      have H1 : (if 0 ≤ x9_2 then (if x9_2 < (l1.length : Int) then ((breaker_Breaker_Try.f x235000_2 x235001_2 x235002_2 x235003_2 (wrap64 ((wrap64 (x7_2 + x8_2)) + (wrap64 (rd l1 x9_2))))).bind fun bt245 => (if bt245.2.2.2.2.2 = 0 then (postilionlaw09_BreakerLonger.j3 kj15 a0 l1 (wrap64 ((wrap64 (x7_2 + x8_2)) + (wrap64 (rd l1 x9_2)))) x8_2 x9_2 (!bt245.2.2.2.2.1) bt245.1 bt245.2.1 bt245.2.2.1 bt245.2.2.2.1) else (postilionlaw09_BreakerLonger.j3 kj15 a0 l1 (wrap64 ((wrap64 (x7_2 + x8_2)) + (wrap64 (rd l1 x9_2)))) x8_2 x9_2 true bt245.1 bt245.2.1 bt245.2.2.1 bt245.2.2.2.1))) else (none)) else (none)) = some r := by rw [if_neg (show ¬ (false = true) by decide)] at H; exact H
                      clear H
                      have H := H1
                      clear H1
                      by_cases c28 : 0 ≤ x9_2
                      · rw [if_pos c28] at H
                        have c28b0 : decide (0 ≤ x9_2) = true := decide_eq_true c28
                        clear c28
                        by_cases c29 : x9_2 < (l1.length : Int)
                        · rw [if_pos c29] at H
                          have c29b0 : decide (x9_2 < (l1.length : Int)) = true := decide_eq_true c29
                          clear c29
                          replace H := Option.bind_eq_some_iff.mp H
                          obtain ⟨⟨t245, t246, t247, t248, t249, t250⟩, A300, H⟩ := H
                          replace H : (if t250 = 0 then (postilionlaw09_BreakerLonger.j3 kj15 a0 l1 (wrap64 ((wrap64 (x7_2 + x8_2)) + (wrap64 (rd l1 x9_2)))) x8_2 x9_2 (!t249) t245 t246 t247 t248) else (postilionlaw09_BreakerLonger.j3 kj15 a0 l1 (wrap64 ((wrap64 (x7_2 + x8_2)) + (wrap64 (rd l1 x9_2)))) x8_2 x9_2 true t245 t246 t247 t248)) = some r := H
                          have A30 := Aside0.mk A300
                          clear A300
                          have HC31 := Aside0.mk H
                          clear H
                          have p244 : 0 ≤ (x9_2 : Int) := of_decide_eq_true (by first | (with_reducible assumption) | assumption)
                          have q244 : x9_2 < (l1.length : Int) := of_decide_eq_true (by first | (with_reducible assumption) | assumption)
                          obtain ⟨ad244, e244, hx244_0⟩ := Kd.at_int HR1.out x9_2 p244 q244
                          cases e244
                          replace hx244_0 := (HB.out.cell (World.block_lt_of_cell? w _ hx244_0)).trans hx244_0
                          replace p244 := eq_true p244
                          replace q244 := eq_true q244
                          have hcz32_0 : wc.cell? ⟨gb234, 0, none⟩ = some (.bool x235000_2) := (blk_cell BK234.out 0).trans rfl
                          have hcz32_1 : wc.cell? ⟨gb234, 1, none⟩ = some (.int .i64 x235001_2) := (blk_cell BK234.out 1).trans rfl
                          have hcz32_2 : wc.cell? ⟨gb234, 2, none⟩ = some (.int .i64 x235002_2) := (blk_cell BK234.out 2).trans rfl
                          have hcz32_3 : wc.cell? ⟨gb234, 3, none⟩ = some (.bool x235003_2) := (blk_cell BK234.out 3).trans rfl
                          have hfz32_0 := blk_frozen BK234.out 0
                          have hfz32_1 := blk_frozen BK234.out 1
                          have hfz32_2 := blk_frozen BK234.out 2
                          have hfz32_3 := blk_frozen BK234.out 3
                          go_upto_region 15 with (first | ((with_reducible refine gate_callee (f := 7) rfl ?_); refine goesL_ (some 69) rfl rfl Try.func7 (by kernel_rfl) rfl #[.agg #[.bool x235000_2, .int .i64 x235001_2, .int .i64 x235002_2, .bool x235003_2], .int .i64 (wrap64 ((wrap64 (x7_2 + x8_2)) + (wrap64 (rd l1 x9_2))))] rfl (by (try simp only [List.map_toArray, List.map_cons, List.map_nil]); first | done | rfl | (simp only [List.length_drop, List.length_take]; rfl)) ?_; (with_reducible refine (breaker_Breaker_Try.calls x235000_2 x235001_2 x235002_2 x235003_2 (wrap64 ((wrap64 (x7_2 + x8_2)) + (wrap64 (rd l1 x9_2)))) t245 t246 t247 t248 t249 t250 _ A30.out).mono ?_); rintro e w33 ⟨rfl, hb⟩; refine ⟨_, rfl, ?_⟩; have n0_ := Aside0.mk (blk_below (g := gb234) (o := .cells #[.bool x235000_2, .int .i64 x235001_2, .int .i64 x235002_2, .bool x235003_2] 23 (0, 0)) (by (with_reducible repeat (first | refine blk_drewN ?_ _ | refine blk_drew ?_ | refine blk_alloc ?_ _)); exact BK234.out) hb); have n1_ := Aside0.mk (below_step (by repeat (first | (with_reducible first | exact HB.out | apply below_alloc | apply pw_below_drewN | apply below_drew1 | refine below_set ?_ GE234.out) | exact HB.out)) hb); clear BK234; clear HB; have BK234 := n0_; have HB := n1_; clear n0_ n1_; (try clear hb); (try clear hb2); (try clear hk); (try clear hi)) | ((with_reducible refine gate_dst (N := 10) rfl ?_); (try (refine gate_guard (by rfl) ?_; dsimp only)); refine box_event ?hg (N := 10) ?hd (cs := #[.bool false, .int .i64 0, .int .i64 0, .bool false]) (t := 23) ?hr ?_; (case hd => rfl); (case hg => rfl); (case hr => first | (go_simp; done) | (go_simp; rfl)); intro gb251 hg w34 hbox hb; have n0_ := Aside0.mk (blk_below (g := gb234) (o := .cells #[.bool x235000_2, .int .i64 x235001_2, .int .i64 x235002_2, .bool x235003_2] 23 (0, 0)) (by (with_reducible repeat (first | refine blk_drewN ?_ _ | refine blk_drew ?_ | refine blk_alloc ?_ _)); exact BK234.out) hb); have n1_ := Aside0.mk (below_step (by repeat (first | (with_reducible first | exact HB.out | apply below_alloc | apply pw_below_drewN | apply below_drew1 | refine below_set ?_ GE234.out) | exact HB.out)) hb); have n2_ := Aside0.mk (hbox); have n3_ := Aside0.mk ((by rw [hg]; exact (below_size (by repeat (first | (with_reducible first | exact HB.out | apply below_alloc | apply pw_below_drewN | apply below_drew1 | refine below_set ?_ GE234.out) | exact HB.out))) : w.heap.size ≤ gb251)); have n4_ := Aside0.mk ((by rw [hg]; exact (below_size (by repeat (first | (with_reducible first | exact HB.out | apply below_alloc | apply pw_below_drewN | apply below_drew1 | refine below_set ?_ GE234.out) | exact HB.out))) : w.heap.size ≤ gb251)); have n5_ := Aside0.mk ((by rw [hg]; exact Nat.ne_of_lt (blk_lt (g := gb234) (o := .cells #[.bool x235000_2, .int .i64 x235001_2, .int .i64 x235002_2, .bool x235003_2] 23 (0, 0)) (by (with_reducible repeat (first | refine blk_drewN ?_ _ | refine blk_drew ?_ | refine blk_alloc ?_ _)); exact BK234.out)) : gb234 ≠ gb251)); have n6_ := Aside0.mk ((by rw [hg]; exact Nat.ne_of_gt (blk_lt (g := gb234) (o := .cells #[.bool x235000_2, .int .i64 x235001_2, .int .i64 x235002_2, .bool x235003_2] 23 (0, 0)) (by (with_reducible repeat (first | refine blk_drewN ?_ _ | refine blk_drew ?_ | refine blk_alloc ?_ _)); exact BK234.out)) : gb251 ≠ gb234)); clear BK234; clear HB; have BK234 := n0_; have HB := n1_; have BK251 := n2_; have GW251 := n3_; have GE251 := n4_; have NB234_251 := n5_; have NB251_234 := n6_; clear n0_ n1_ n2_ n3_ n4_ n5_ n6_; clear hb hbox hg; have hnb35 := NB251_234.out; have hnc35 := NB234_251.out; have hcz36_0 : w34.cell? ⟨gb251, 0, none⟩ = some (.bool false) := (blk_cell BK251.out 0).trans rfl; have hcz36_1 : w34.cell? ⟨gb251, 1, none⟩ = some (.int .i64 0) := (blk_cell BK251.out 1).trans rfl; have hcz36_2 : w34.cell? ⟨gb251, 2, none⟩ = some (.int .i64 0) := (blk_cell BK251.out 2).trans rfl; have hcz36_3 : w34.cell? ⟨gb251, 3, none⟩ = some (.bool false) := (blk_cell BK251.out 3).trans rfl; have hfz36_0 := blk_frozen BK251.out 0; have hfz36_1 := blk_frozen BK251.out 1; have hfz36_2 := blk_frozen BK251.out 2; have hfz36_3 := blk_frozen BK251.out 3))
                          (try simp only [Act.put, List.setIfInBounds_toArray, List.set_cons_zero, List.set_cons_succ])
                          go_cut [78] (fun v78 wc => ∃ (kq : Nat) (x78_30 : Bool), v78 = .bool x78_30 ∧ Aside0 (postilionlaw09_BreakerLonger.j3 kq a0 l1 (wrap64 ((wrap64 (x7_2 + x8_2)) + (wrap64 (rd l1 x9_2)))) x8_2 x9_2 x78_30 t245 t246 t247 t248 = some r) ∧ Aside0 (kq ≤ kj15) ∧ Aside0 (wc.heap[gb234]? = some (.cells #[.bool x235000_2, .int .i64 x235001_2, .int .i64 x235002_2, .bool x235003_2] 23 (0, 0))) ∧ Aside0 (wc.heap[gb251]? = some (.cells #[.bool t245, .int .i64 t246, .int .i64 t247, .bool t248] 23 (0, 0))) ∧ Aside0 (Below w.heap.size w wc))
                          case first =>
                            have H := HC31.out
                            clear HC31
                            by_cases c37 : t250 = 0
                            · rw [if_pos c37] at H
                              have c37b0 : (t250 == 0) = true := beq_iff_eq.mpr c37
                              have c37b1 : (t250 != 0) = false := bne_eq_false_iff_eq.mpr c37
                              clear c37
                              (first | rw [c37b0] | (simp only [i64_w, i32_w]; rw [c37b0]) | skip)
                              have H' := Aside0.mk H
                              clear H
                              go_wp2
                              go_meet
                              case rel => exact ⟨_, (!t249), (by first | rfl | (simp; done) | (simp [*]; done)), H', ⟨by have := HJ4.out; have := HK2.out; have := HJ15.out; first | omega | exact Nat.le_refl _⟩, ⟨by (with_reducible repeat (first | refine blk_drewN ?_ _ | refine blk_drew ?_ | refine blk_alloc ?_ _)); refine blk_far ?_ NB234_251.out _; (with_reducible repeat (first | refine blk_drewN ?_ _ | refine blk_drew ?_ | refine blk_alloc ?_ _)); refine blk_far ?_ NB234_251.out _; (with_reducible repeat (first | refine blk_drewN ?_ _ | refine blk_drew ?_ | refine blk_alloc ?_ _)); refine blk_far ?_ NB234_251.out _; (with_reducible repeat (first | refine blk_drewN ?_ _ | refine blk_drew ?_ | refine blk_alloc ?_ _)); refine blk_far ?_ NB234_251.out _; (with_reducible repeat (first | refine blk_drewN ?_ _ | refine blk_drew ?_ | refine blk_alloc ?_ _)); exact BK234.out⟩, ⟨by (with_reducible repeat (first | refine blk_drewN ?_ _ | refine blk_drew ?_ | refine blk_alloc ?_ _)); refine blk_put (cs := #[.bool t245, .int .i64 t246, .int .i64 t247, .bool false]) ?_ 3 _ rfl; (with_reducible repeat (first | refine blk_drewN ?_ _ | refine blk_drew ?_ | refine blk_alloc ?_ _)); refine blk_put (cs := #[.bool t245, .int .i64 t246, .int .i64 0, .bool false]) ?_ 2 _ rfl; (with_reducible repeat (first | refine blk_drewN ?_ _ | refine blk_drew ?_ | refine blk_alloc ?_ _)); refine blk_put (cs := #[.bool t245, .int .i64 0, .int .i64 0, .bool false]) ?_ 1 _ rfl; (with_reducible repeat (first | refine blk_drewN ?_ _ | refine blk_drew ?_ | refine blk_alloc ?_ _)); refine blk_put (cs := #[.bool false, .int .i64 0, .int .i64 0, .bool false]) ?_ 0 _ rfl; (with_reducible repeat (first | refine blk_drewN ?_ _ | refine blk_drew ?_ | refine blk_alloc ?_ _)); exact BK251.out⟩, ⟨by repeat (first | (with_reducible first | exact HB.out | apply below_alloc | apply pw_below_drewN | apply below_drew1 | refine below_set ?_ GE234.out | refine below_set ?_ GE251.out) | exact HB.out)⟩⟩
                            · rw [if_neg c37] at H
                              have c37b0 : (t250 == 0) = false := beq_eq_false_iff_ne.mpr c37
                              have c37b1 : (t250 != 0) = true := bne_iff_ne.mpr c37
                              (first | rw [c37b0] | (simp only [i64_w, i32_w]; rw [c37b0]) | skip)
                              have H' := Aside0.mk H
                              clear H
                              go_wp2
                              go_meet
                              case rel => exact ⟨_, (true), (by first | rfl | (simp; done) | (simp [*]; done)), H', ⟨by have := HJ4.out; have := HK2.out; have := HJ15.out; first | omega | exact Nat.le_refl _⟩, ⟨by (with_reducible repeat (first | refine blk_drewN ?_ _ | refine blk_drew ?_ | refine blk_alloc ?_ _)); refine blk_far ?_ NB234_251.out _; (with_reducible repeat (first | refine blk_drewN ?_ _ | refine blk_drew ?_ | refine blk_alloc ?_ _)); refine blk_far ?_ NB234_251.out _; (with_reducible repeat (first | refine blk_drewN ?_ _ | refine blk_drew ?_ | refine blk_alloc ?_ _)); refine blk_far ?_ NB234_251.out _; (with_reducible repeat (first | refine blk_drewN ?_ _ | refine blk_drew ?_ | refine blk_alloc ?_ _)); refine blk_far ?_ NB234_251.out _; (with_reducible repeat (first | refine blk_drewN ?_ _ | refine blk_drew ?_ | refine blk_alloc ?_ _)); exact BK234.out⟩, ⟨by (with_reducible repeat (first | refine blk_drewN ?_ _ | refine blk_drew ?_ | refine blk_alloc ?_ _)); refine blk_put (cs := #[.bool t245, .int .i64 t246, .int .i64 t247, .bool false]) ?_ 3 _ rfl; (with_reducible repeat (first | refine blk_drewN ?_ _ | refine blk_drew ?_ | refine blk_alloc ?_ _)); refine blk_put (cs := #[.bool t245, .int .i64 t246, .int .i64 0, .bool false]) ?_ 2 _ rfl; (with_reducible repeat (first | refine blk_drewN ?_ _ | refine blk_drew ?_ | refine blk_alloc ?_ _)); refine blk_put (cs := #[.bool t245, .int .i64 0, .int .i64 0, .bool false]) ?_ 1 _ rfl; (with_reducible repeat (first | refine blk_drewN ?_ _ | refine blk_drew ?_ | refine blk_alloc ?_ _)); refine blk_put (cs := #[.bool false, .int .i64 0, .int .i64 0, .bool false]) ?_ 0 _ rfl; (with_reducible repeat (first | refine blk_drewN ?_ _ | refine blk_drew ?_ | refine blk_alloc ?_ _)); exact BK251.out⟩, ⟨by repeat (first | (with_reducible first | exact HB.out | apply below_alloc | apply pw_below_drewN | apply below_drew1 | refine below_set ?_ GE234.out | refine below_set ?_ GE251.out) | exact HB.out)⟩⟩
                          case rest =>
                            clear HC31
                            try clear c1
                            try clear c2
                            try clear p2
                            try clear q2
                            try clear hx2
                            try clear c3
                            try clear c4
                            try clear c5
                            try clear p6
                            try clear c7
                            try clear c7b0
                            try clear c8
                            try clear c8b0
                            try clear c9
                            try clear c15
                            try clear c15b0
                            try clear c17
                            try clear c17b0
                            try clear c17b1
                            try clear c19
                            try clear c21
                            try clear p24
                            try clear q24
                            try clear hx24
                            try clear c27
                            try clear c28
                            try clear c28b0
                            try clear c29
                            try clear c29b0
                            try clear c35
                            try clear c37
                            try clear c37b0
                            try clear c37b1
                            try clear hcz12_0
                            try clear hcz12_1
                            try clear hcz12_2
                            try clear hcz12_3
                            try clear hcz14_0
                            try clear hcz14_1
                            try clear hcz14_2
                            try clear hcz14_3
                            try clear hcz20_0
                            try clear hcz20_1
                            try clear hcz20_2
                            try clear hcz20_3
                            try clear hcz23_0
                            try clear hcz23_1
                            try clear hcz23_2
                            try clear hcz23_3
                            try clear hcz25_0
                            try clear hcz25_1
                            try clear hcz25_2
                            try clear hcz25_3
                            try clear hcz32_0
                            try clear hcz32_1
                            try clear hcz32_2
                            try clear hcz32_3
                            try clear hcz36_0
                            try clear hcz36_1
                            try clear hcz36_2
                            try clear hcz36_3
                            try clear hfz12_0
                            try clear hfz12_1
                            try clear hfz12_2
                            try clear hfz12_3
                            try clear hfz14_0
                            try clear hfz14_1
                            try clear hfz14_2
                            try clear hfz14_3
                            try clear hfz20_0
                            try clear hfz20_1
                            try clear hfz20_2
                            try clear hfz20_3
                            try clear hfz23_0
                            try clear hfz23_1
                            try clear hfz23_2
                            try clear hfz23_3
                            try clear hfz25_0
                            try clear hfz25_1
                            try clear hfz25_2
                            try clear hfz25_3
                            try clear hfz32_0
                            try clear hfz32_1
                            try clear hfz32_2
                            try clear hfz32_3
                            try clear hfz36_0
                            try clear hfz36_1
                            try clear hfz36_2
                            try clear hfz36_3
                            try clear hx244_0
                            try clear p2
                            try clear p244
                            try clear p6
                            try clear q244
                            obtain ⟨kq, x78_30, rfl, HA, HJ30, BK234, BK251, HB⟩ := hcut
                            cases kq with
                            | zero => exact absurd HA.out (by simp [postilionlaw09_BreakerLonger.j3])
                            | succ kj30 =>
                              have H := HA.out
                              clear HA
                              simp only [postilionlaw09_BreakerLonger.j3] at H
                              by_cases c38 : x78_30 = true
                              · subst c38
                                have H1 : (some false) = some r := by rw [if_pos rfl] at H; exact H
                                clear H
                                have H := H1
                                clear H1
                                exact absurd ((Option.some.inj H).trans hT.out) (by decide)
                              · replace c38 := Bool.eq_false_iff.mpr c38
                                subst c38
                                have H1 : ((breaker_Breaker_Good.f t245 t246 t247 t248 true).bind fun bt252 => (if (bt252.1 || (!(bt252.2.1 == 0) || (!(bt252.2.2.1 == 0) || (bt252.2.2.2)))) = true then (some false) else ((breaker_Breaker_Bad.f kj30 t245 t246 t247 t248 (wrap64 ((wrap64 (x7_2 + x8_2)) + (wrap64 (rd l1 x9_2)))) a0 true false).bind fun bt256 => (if (wrap64 (2 * x8_2)) > (wrap64 (8 * a0)) then (postilionlaw09_BreakerLonger.l0 kj30 a0 l1 bt256.2.2.2.2 (wrap64 ((wrap64 (x7_2 + x8_2)) + (wrap64 (rd l1 x9_2)))) (wrap64 (8 * a0)) (wrap64 (x9_2 + 1)) bt256.1 bt256.2.1 bt256.2.2.1 bt256.2.2.2.1) else (postilionlaw09_BreakerLonger.l0 kj30 a0 l1 bt256.2.2.2.2 (wrap64 ((wrap64 (x7_2 + x8_2)) + (wrap64 (rd l1 x9_2)))) (wrap64 (2 * x8_2)) (wrap64 (x9_2 + 1)) bt256.1 bt256.2.1 bt256.2.2.1 bt256.2.2.2.1))))) = some r := by rw [if_neg (show ¬ (false = true) by decide)] at H; exact H
                                clear H
                                have H := H1
                                clear H1
                                replace H := Option.bind_eq_some_iff.mp H
                                obtain ⟨⟨t252, t253, t254, t255⟩, A390, H⟩ := H
                                replace H : (if (t252 || (!(t253 == 0) || (!(t254 == 0) || (t255)))) = true then (some false) else ((breaker_Breaker_Bad.f kj30 t245 t246 t247 t248 (wrap64 ((wrap64 (x7_2 + x8_2)) + (wrap64 (rd l1 x9_2)))) a0 true false).bind fun bt256 => (if (wrap64 (2 * x8_2)) > (wrap64 (8 * a0)) then (postilionlaw09_BreakerLonger.l0 kj30 a0 l1 bt256.2.2.2.2 (wrap64 ((wrap64 (x7_2 + x8_2)) + (wrap64 (rd l1 x9_2)))) (wrap64 (8 * a0)) (wrap64 (x9_2 + 1)) bt256.1 bt256.2.1 bt256.2.2.1 bt256.2.2.2.1) else (postilionlaw09_BreakerLonger.l0 kj30 a0 l1 bt256.2.2.2.2 (wrap64 ((wrap64 (x7_2 + x8_2)) + (wrap64 (rd l1 x9_2)))) (wrap64 (2 * x8_2)) (wrap64 (x9_2 + 1)) bt256.1 bt256.2.1 bt256.2.2.1 bt256.2.2.2.1)))) = some r := H
                                have A39 := Aside0.mk A390
                                clear A390
                                by_cases c40 : (t252 || (!(t253 == 0) || (!(t254 == 0) || (t255)))) = true
                                · rw [if_pos c40] at H
                                  have c40b0 : (t252 || (!(t253 == 0) || (!(t254 == 0) || (t255)))) = true := c40
                                  clear c40
                                  exact absurd ((Option.some.inj H).trans hT.out) (by decide)
                                · rw [if_neg c40] at H
                                  have c40b0 : (t252 || (!(t253 == 0) || (!(t254 == 0) || (t255)))) = false := by simpa using c40
                                  clear c40
                                  replace H := Option.bind_eq_some_iff.mp H
                                  obtain ⟨⟨t256, t257, t258, t259, t260⟩, A410, H⟩ := H
                                  replace H : (if (wrap64 (2 * x8_2)) > (wrap64 (8 * a0)) then (postilionlaw09_BreakerLonger.l0 kj30 a0 l1 t260 (wrap64 ((wrap64 (x7_2 + x8_2)) + (wrap64 (rd l1 x9_2)))) (wrap64 (8 * a0)) (wrap64 (x9_2 + 1)) t256 t257 t258 t259) else (postilionlaw09_BreakerLonger.l0 kj30 a0 l1 t260 (wrap64 ((wrap64 (x7_2 + x8_2)) + (wrap64 (rd l1 x9_2)))) (wrap64 (2 * x8_2)) (wrap64 (x9_2 + 1)) t256 t257 t258 t259)) = some r := H
                                  have A41 := Aside0.mk A410
                                  clear A410
                                  by_cases c42 : (wrap64 (2 * x8_2)) > (wrap64 (8 * a0))
                                  · rw [if_pos c42] at H
                                    have c42b0 : decide ((wrap64 (8 * a0)) < (wrap64 (2 * x8_2))) = true := decide_eq_true c42
                                    clear c42
                                    have H' := Aside0.mk H
                                    clear H
                                    have hnb43 := NB251_234.out
                                    have hnc43 := NB234_251.out
                                    have hcz44_0 : wc.cell? ⟨gb251, 0, none⟩ = some (.bool t245) := (blk_cell BK251.out 0).trans rfl
                                    have hcz44_1 : wc.cell? ⟨gb251, 1, none⟩ = some (.int .i64 t246) := (blk_cell BK251.out 1).trans rfl
                                    have hcz44_2 : wc.cell? ⟨gb251, 2, none⟩ = some (.int .i64 t247) := (blk_cell BK251.out 2).trans rfl
                                    have hcz44_3 : wc.cell? ⟨gb251, 3, none⟩ = some (.bool t248) := (blk_cell BK251.out 3).trans rfl
                                    have hfz44_0 := blk_frozen BK251.out 0
                                    have hfz44_1 := blk_frozen BK251.out 1
                                    have hfz44_2 := blk_frozen BK251.out 2
                                    have hfz44_3 := blk_frozen BK251.out 3
                                    go_wp2_with (first | ((with_reducible refine gate_callee (f := 17) rfl ?_); refine goesL_ (some 80) rfl rfl Try.func17 (by kernel_rfl) rfl #[.agg #[.bool t245, .int .i64 t246, .int .i64 t247, .bool t248], .bool true] rfl (by (try simp only [List.map_toArray, List.map_cons, List.map_nil]); first | done | rfl | (simp only [List.length_drop, List.length_take]; rfl)) ?_; (with_reducible refine (breaker_Breaker_Good.calls t245 t246 t247 t248 true t252 t253 t254 t255 _ A39.out).mono ?_); rintro e w45 ⟨rfl, hb⟩; refine ⟨_, rfl, ?_⟩; have n0_ := Aside0.mk (blk_below (g := gb234) (o := .cells #[.bool x235000_2, .int .i64 x235001_2, .int .i64 x235002_2, .bool x235003_2] 23 (0, 0)) (by (with_reducible repeat (first | refine blk_drewN ?_ _ | refine blk_drew ?_ | refine blk_alloc ?_ _)); exact BK234.out) hb); have n1_ := Aside0.mk (blk_below (g := gb251) (o := .cells #[.bool t245, .int .i64 t246, .int .i64 t247, .bool t248] 23 (0, 0)) (by (with_reducible repeat (first | refine blk_drewN ?_ _ | refine blk_drew ?_ | refine blk_alloc ?_ _)); exact BK251.out) hb); have n2_ := Aside0.mk (below_step (by repeat (first | (with_reducible first | exact HB.out | apply below_alloc | apply pw_below_drewN | apply below_drew1 | refine below_set ?_ GE234.out | refine below_set ?_ GE251.out) | exact HB.out)) hb); clear BK234; clear BK251; clear HB; have BK234 := n0_; have BK251 := n1_; have HB := n2_; clear n0_ n1_ n2_; (try clear hb); (try clear hb2); (try clear hk); (try clear hi); have hcz46_0 : w45.cell? ⟨gb251, 0, none⟩ = some (.bool t245) := (blk_cell BK251.out 0).trans rfl; have hcz46_1 : w45.cell? ⟨gb251, 1, none⟩ = some (.int .i64 t246) := (blk_cell BK251.out 1).trans rfl; have hcz46_2 : w45.cell? ⟨gb251, 2, none⟩ = some (.int .i64 t247) := (blk_cell BK251.out 2).trans rfl; have hcz46_3 : w45.cell? ⟨gb251, 3, none⟩ = some (.bool t248) := (blk_cell BK251.out 3).trans rfl; have hfz46_0 := blk_frozen BK251.out 0; have hfz46_1 := blk_frozen BK251.out 1; have hfz46_2 := blk_frozen BK251.out 2; have hfz46_3 := blk_frozen BK251.out 3) | ((with_reducible refine gate_callee (f := 15) rfl ?_); refine goesL_ (some 87) rfl rfl Try.func15 (by kernel_rfl) rfl #[.agg #[.bool t245, .int .i64 t246, .int .i64 t247, .bool t248], .int .i64 (wrap64 ((wrap64 (x7_2 + x8_2)) + (wrap64 (rd l1 x9_2)))), .int .i64 a0, .bool true, .bool false] rfl (by (try simp only [List.map_toArray, List.map_cons, List.map_nil]); first | done | rfl | (simp only [List.length_drop, List.length_take]; rfl)) ?_; (with_reducible refine (breaker_Breaker_Bad.calls kj30 t245 t246 t247 t248 (wrap64 ((wrap64 (x7_2 + x8_2)) + (wrap64 (rd l1 x9_2)))) a0 true false t256 t257 t258 t259 t260 _ A41.out).mono ?_); rintro e w47 ⟨rfl, hb⟩; refine ⟨_, rfl, ?_⟩; have n0_ := Aside0.mk (blk_below (g := gb234) (o := .cells #[.bool x235000_2, .int .i64 x235001_2, .int .i64 x235002_2, .bool x235003_2] 23 (0, 0)) (by (with_reducible repeat (first | refine blk_drewN ?_ _ | refine blk_drew ?_ | refine blk_alloc ?_ _)); exact BK234.out) hb); have n1_ := Aside0.mk (blk_below (g := gb251) (o := .cells #[.bool t245, .int .i64 t246, .int .i64 t247, .bool t248] 23 (0, 0)) (by (with_reducible repeat (first | refine blk_drewN ?_ _ | refine blk_drew ?_ | refine blk_alloc ?_ _)); exact BK251.out) hb); have n2_ := Aside0.mk (below_step (by repeat (first | (with_reducible first | exact HB.out | apply below_alloc | apply pw_below_drewN | apply below_drew1 | refine below_set ?_ GE234.out | refine below_set ?_ GE251.out) | exact HB.out)) hb); clear BK234; clear BK251; clear HB; have BK234 := n0_; have BK251 := n1_; have HB := n2_; clear n0_ n1_ n2_; (try clear hb); (try clear hb2); (try clear hk); (try clear hi); have hcz48_0 : w47.cell? ⟨gb234, 0, none⟩ = some (.bool x235000_2) := (blk_cell BK234.out 0).trans rfl; have hcz48_1 : w47.cell? ⟨gb234, 1, none⟩ = some (.int .i64 x235001_2) := (blk_cell BK234.out 1).trans rfl; have hcz48_2 : w47.cell? ⟨gb234, 2, none⟩ = some (.int .i64 x235002_2) := (blk_cell BK234.out 2).trans rfl; have hcz48_3 : w47.cell? ⟨gb234, 3, none⟩ = some (.bool x235003_2) := (blk_cell BK234.out 3).trans rfl; have hfz48_0 := blk_frozen BK234.out 0; have hfz48_1 := blk_frozen BK234.out 1; have hfz48_2 := blk_frozen BK234.out 2; have hfz48_3 := blk_frozen BK234.out 3))
                                    go_roundg kj30
                                    case measure => have := HJ4.out; have := HK2.out; have := HJ15.out; have := HJ30.out; omega
                                    case rel => exact ⟨(t260), ((wrap64 ((wrap64 (x7_2 + x8_2)) + (wrap64 (rd l1 x9_2))))), (wrap64 (8 * a0)), (wrap64 (x9_2 + 1)), (t256), (t257), (t258), (t259), (by first | rfl | (simp; done) | (simp [*]; done)), (by first | rfl | (simp; done) | (simp [*]; done)), (by first | rfl | (simp; done) | (simp [*]; done)), (by first | rfl | (simp; done) | (simp [*]; done)), H', ⟨by have := HJ4.out; have := HK2.out; have := HJ15.out; have := HJ30.out; omega⟩, ⟨by (with_reducible repeat (first | refine blk_drewN ?_ _ | refine blk_drew ?_ | refine blk_alloc ?_ _)); refine blk_put (cs := #[.bool t256, .int .i64 t257, .int .i64 t258, .bool x235003_2]) ?_ 3 _ rfl; (with_reducible repeat (first | refine blk_drewN ?_ _ | refine blk_drew ?_ | refine blk_alloc ?_ _)); refine blk_put (cs := #[.bool t256, .int .i64 t257, .int .i64 x235002_2, .bool x235003_2]) ?_ 2 _ rfl; (with_reducible repeat (first | refine blk_drewN ?_ _ | refine blk_drew ?_ | refine blk_alloc ?_ _)); refine blk_put (cs := #[.bool t256, .int .i64 x235001_2, .int .i64 x235002_2, .bool x235003_2]) ?_ 1 _ rfl; (with_reducible repeat (first | refine blk_drewN ?_ _ | refine blk_drew ?_ | refine blk_alloc ?_ _)); refine blk_put (cs := #[.bool x235000_2, .int .i64 x235001_2, .int .i64 x235002_2, .bool x235003_2]) ?_ 0 _ rfl; (with_reducible repeat (first | refine blk_drewN ?_ _ | refine blk_drew ?_ | refine blk_alloc ?_ _)); exact BK234.out⟩, ⟨by repeat (first | (with_reducible first | exact HB.out | apply below_alloc | apply pw_below_drewN | apply below_drew1 | refine below_set ?_ GE234.out | refine below_set ?_ GE251.out) | exact HB.out)⟩⟩
                                  · rw [if_neg c42] at H
                                    have c42b0 : decide ((wrap64 (8 * a0)) < (wrap64 (2 * x8_2))) = false := decide_eq_false c42
                                    clear c42
                                    have H' := Aside0.mk H
                                    clear H
                                    have hnb49 := NB251_234.out
                                    have hnc49 := NB234_251.out
                                    have hcz50_0 : wc.cell? ⟨gb251, 0, none⟩ = some (.bool t245) := (blk_cell BK251.out 0).trans rfl
                                    have hcz50_1 : wc.cell? ⟨gb251, 1, none⟩ = some (.int .i64 t246) := (blk_cell BK251.out 1).trans rfl
                                    have hcz50_2 : wc.cell? ⟨gb251, 2, none⟩ = some (.int .i64 t247) := (blk_cell BK251.out 2).trans rfl
                                    have hcz50_3 : wc.cell? ⟨gb251, 3, none⟩ = some (.bool t248) := (blk_cell BK251.out 3).trans rfl
                                    have hfz50_0 := blk_frozen BK251.out 0
                                    have hfz50_1 := blk_frozen BK251.out 1
                                    have hfz50_2 := blk_frozen BK251.out 2
                                    have hfz50_3 := blk_frozen BK251.out 3
                                    go_wp2_with (first | ((with_reducible refine gate_callee (f := 17) rfl ?_); refine goesL_ (some 80) rfl rfl Try.func17 (by kernel_rfl) rfl #[.agg #[.bool t245, .int .i64 t246, .int .i64 t247, .bool t248], .bool true] rfl (by (try simp only [List.map_toArray, List.map_cons, List.map_nil]); first | done | rfl | (simp only [List.length_drop, List.length_take]; rfl)) ?_; (with_reducible refine (breaker_Breaker_Good.calls t245 t246 t247 t248 true t252 t253 t254 t255 _ A39.out).mono ?_); rintro e w51 ⟨rfl, hb⟩; refine ⟨_, rfl, ?_⟩; have n0_ := Aside0.mk (blk_below (g := gb234) (o := .cells #[.bool x235000_2, .int .i64 x235001_2, .int .i64 x235002_2, .bool x235003_2] 23 (0, 0)) (by (with_reducible repeat (first | refine blk_drewN ?_ _ | refine blk_drew ?_ | refine blk_alloc ?_ _)); exact BK234.out) hb); have n1_ := Aside0.mk (blk_below (g := gb251) (o := .cells #[.bool t245, .int .i64 t246, .int .i64 t247, .bool t248] 23 (0, 0)) (by (with_reducible repeat (first | refine blk_drewN ?_ _ | refine blk_drew ?_ | refine blk_alloc ?_ _)); exact BK251.out) hb); have n2_ := Aside0.mk (below_step (by repeat (first | (with_reducible first | exact HB.out | apply below_alloc | apply pw_below_drewN | apply below_drew1 | refine below_set ?_ GE234.out | refine below_set ?_ GE251.out) | exact HB.out)) hb); clear BK234; clear BK251; clear HB; have BK234 := n0_; have BK251 := n1_; have HB := n2_; clear n0_ n1_ n2_; (try clear hb); (try clear hb2); (try clear hk); (try clear hi); have hcz52_0 : w51.cell? ⟨gb251, 0, none⟩ = some (.bool t245) := (blk_cell BK251.out 0).trans rfl; have hcz52_1 : w51.cell? ⟨gb251, 1, none⟩ = some (.int .i64 t246) := (blk_cell BK251.out 1).trans rfl; have hcz52_2 : w51.cell? ⟨gb251, 2, none⟩ = some (.int .i64 t247) := (blk_cell BK251.out 2).trans rfl; have hcz52_3 : w51.cell? ⟨gb251, 3, none⟩ = some (.bool t248) := (blk_cell BK251.out 3).trans rfl; have hfz52_0 := blk_frozen BK251.out 0; have hfz52_1 := blk_frozen BK251.out 1; have hfz52_2 := blk_frozen BK251.out 2; have hfz52_3 := blk_frozen BK251.out 3) | ((with_reducible refine gate_callee (f := 15) rfl ?_); refine goesL_ (some 87) rfl rfl Try.func15 (by kernel_rfl) rfl #[.agg #[.bool t245, .int .i64 t246, .int .i64 t247, .bool t248], .int .i64 (wrap64 ((wrap64 (x7_2 + x8_2)) + (wrap64 (rd l1 x9_2)))), .int .i64 a0, .bool true, .bool false] rfl (by (try simp only [List.map_toArray, List.map_cons, List.map_nil]); first | done | rfl | (simp only [List.length_drop, List.length_take]; rfl)) ?_; (with_reducible refine (breaker_Breaker_Bad.calls kj30 t245 t246 t247 t248 (wrap64 ((wrap64 (x7_2 + x8_2)) + (wrap64 (rd l1 x9_2)))) a0 true false t256 t257 t258 t259 t260 _ A41.out).mono ?_); rintro e w53 ⟨rfl, hb⟩; refine ⟨_, rfl, ?_⟩; have n0_ := Aside0.mk (blk_below (g := gb234) (o := .cells #[.bool x235000_2, .int .i64 x235001_2, .int .i64 x235002_2, .bool x235003_2] 23 (0, 0)) (by (with_reducible repeat (first | refine blk_drewN ?_ _ | refine blk_drew ?_ | refine blk_alloc ?_ _)); exact BK234.out) hb); have n1_ := Aside0.mk (blk_below (g := gb251) (o := .cells #[.bool t245, .int .i64 t246, .int .i64 t247, .bool t248] 23 (0, 0)) (by (with_reducible repeat (first | refine blk_drewN ?_ _ | refine blk_drew ?_ | refine blk_alloc ?_ _)); exact BK251.out) hb); have n2_ := Aside0.mk (below_step (by repeat (first | (with_reducible first | exact HB.out | apply below_alloc | apply pw_below_drewN | apply below_drew1 | refine below_set ?_ GE234.out | refine below_set ?_ GE251.out) | exact HB.out)) hb); clear BK234; clear BK251; clear HB; have BK234 := n0_; have BK251 := n1_; have HB := n2_; clear n0_ n1_ n2_; (try clear hb); (try clear hb2); (try clear hk); (try clear hi); have hcz54_0 : w53.cell? ⟨gb234, 0, none⟩ = some (.bool x235000_2) := (blk_cell BK234.out 0).trans rfl; have hcz54_1 : w53.cell? ⟨gb234, 1, none⟩ = some (.int .i64 x235001_2) := (blk_cell BK234.out 1).trans rfl; have hcz54_2 : w53.cell? ⟨gb234, 2, none⟩ = some (.int .i64 x235002_2) := (blk_cell BK234.out 2).trans rfl; have hcz54_3 : w53.cell? ⟨gb234, 3, none⟩ = some (.bool x235003_2) := (blk_cell BK234.out 3).trans rfl; have hfz54_0 := blk_frozen BK234.out 0; have hfz54_1 := blk_frozen BK234.out 1; have hfz54_2 := blk_frozen BK234.out 2; have hfz54_3 := blk_frozen BK234.out 3))
                                    go_roundg kj30
                                    case measure => have := HJ4.out; have := HK2.out; have := HJ15.out; have := HJ30.out; omega
                                    case rel => exact ⟨(t260), ((wrap64 ((wrap64 (x7_2 + x8_2)) + (wrap64 (rd l1 x9_2))))), (wrap64 (2 * x8_2)), (wrap64 (x9_2 + 1)), (t256), (t257), (t258), (t259), (by first | rfl | (simp; done) | (simp [*]; done)), (by first | rfl | (simp; done) | (simp [*]; done)), (by first | rfl | (simp; done) | (simp [*]; done)), (by first | rfl | (simp; done) | (simp [*]; done)), H', ⟨by have := HJ4.out; have := HK2.out; have := HJ15.out; have := HJ30.out; omega⟩, ⟨by (with_reducible repeat (first | refine blk_drewN ?_ _ | refine blk_drew ?_ | refine blk_alloc ?_ _)); refine blk_put (cs := #[.bool t256, .int .i64 t257, .int .i64 t258, .bool x235003_2]) ?_ 3 _ rfl; (with_reducible repeat (first | refine blk_drewN ?_ _ | refine blk_drew ?_ | refine blk_alloc ?_ _)); refine blk_put (cs := #[.bool t256, .int .i64 t257, .int .i64 x235002_2, .bool x235003_2]) ?_ 2 _ rfl; (with_reducible repeat (first | refine blk_drewN ?_ _ | refine blk_drew ?_ | refine blk_alloc ?_ _)); refine blk_put (cs := #[.bool t256, .int .i64 x235001_2, .int .i64 x235002_2, .bool x235003_2]) ?_ 1 _ rfl; (with_reducible repeat (first | refine blk_drewN ?_ _ | refine blk_drew ?_ | refine blk_alloc ?_ _)); refine blk_put (cs := #[.bool x235000_2, .int .i64 x235001_2, .int .i64 x235002_2, .bool x235003_2]) ?_ 0 _ rfl; (with_reducible repeat (first | refine blk_drewN ?_ _ | refine blk_drew ?_ | refine blk_alloc ?_ _)); exact BK234.out⟩, ⟨by repeat (first | (with_reducible first | exact HB.out | apply below_alloc | apply pw_below_drewN | apply below_drew1 | refine below_set ?_ GE234.out | refine below_set ?_ GE251.out) | exact HB.out)⟩⟩
                        · rw [if_neg c29] at H
                          exact absurd H (by simp)
                      · rw [if_neg c28] at H
                        exact absurd H (by simp)
              · rw [if_neg c15] at H
                have c15b0 : decide (x9_2 < (l1.length : Int)) = false := decide_eq_false c15
                clear c15
                by_cases c55 : x6_2 = 0
                · rw [if_pos c55] at H
                  have c55b0 : (x6_2 == 0) = true := beq_iff_eq.mpr c55
                  have c55b1 : (x6_2 != 0) = false := bne_eq_false_iff_eq.mpr c55
                  clear c55
                  replace H := Option.bind_eq_some_iff.mp H
                  obtain ⟨t240, A560, H⟩ := H
                  replace H : (if t240 = true then (some false) else ((breaker_Breaker_Lets.f x235000_2 x235001_2 x235002_2 x235003_2 (wrap64 (x7_2 + x8_2))).bind fun t241 => (some t241))) = some r := H
                  have A56 := Aside0.mk A560
                  clear A560
                  by_cases c57 : t240 = true
                  · subst c57
                    have H1 : (some false) = some r := by rw [if_pos rfl] at H; exact H
                    clear H
                    have H := H1
                    clear H1
                    exact absurd ((Option.some.inj H).trans hT.out) (by decide)
                  · replace c57 := Bool.eq_false_iff.mpr c57
                    subst c57
                    have H1 : ((breaker_Breaker_Lets.f x235000_2 x235001_2 x235002_2 x235003_2 (wrap64 (x7_2 + x8_2))).bind fun t241 => (some t241)) = some r := by rw [if_neg (show ¬ (false = true) by decide)] at H; exact H
                    clear H
                    have H := H1
                    clear H1
                    replace H := Option.bind_eq_some_iff.mp H
                    obtain ⟨t241, A580, H⟩ := H
                    replace H : (some t241) = some r := H
                    have A58 := Aside0.mk A580
                    clear A580
                    obtain rfl := Option.some.inj H
                    have hcz59_0 : wr.cell? ⟨gb234, 0, none⟩ = some (.bool x235000_2) := (blk_cell BK234.out 0).trans rfl
                    have hcz59_1 : wr.cell? ⟨gb234, 1, none⟩ = some (.int .i64 x235001_2) := (blk_cell BK234.out 1).trans rfl
                    have hcz59_2 : wr.cell? ⟨gb234, 2, none⟩ = some (.int .i64 x235002_2) := (blk_cell BK234.out 2).trans rfl
                    have hcz59_3 : wr.cell? ⟨gb234, 3, none⟩ = some (.bool x235003_2) := (blk_cell BK234.out 3).trans rfl
                    have hfz59_0 := blk_frozen BK234.out 0
                    have hfz59_1 := blk_frozen BK234.out 1
                    have hfz59_2 := blk_frozen BK234.out 2
                    have hfz59_3 := blk_frozen BK234.out 3
                    go_wp2_with (first | (go_at_call 13; (with_reducible refine (breaker_Breaker_Lets.calls x235000_2 x235001_2 x235002_2 x235003_2 (wrap64 ((wrap64 (x7_2 + x8_2)) - 1)) false _ A56.out).mono ?_); rintro e w60 ⟨rfl, hb⟩; have n0_ := Aside0.mk (blk_below (g := gb234) (o := .cells #[.bool x235000_2, .int .i64 x235001_2, .int .i64 x235002_2, .bool x235003_2] 23 (0, 0)) (by (with_reducible repeat (first | refine blk_drewN ?_ _ | refine blk_drew ?_ | refine blk_alloc ?_ _)); exact BK234.out) hb); have n1_ := Aside0.mk (below_step (by repeat (first | (with_reducible first | exact HB.out | apply below_alloc | apply pw_below_drewN | apply below_drew1 | refine below_set ?_ GE234.out) | exact HB.out)) hb); clear BK234; clear HB; have BK234 := n0_; have HB := n1_; clear n0_ n1_; (try clear hb); (try clear hb2); (try clear hk); (try clear hi); have hcz61_0 : w60.cell? ⟨gb234, 0, none⟩ = some (.bool x235000_2) := (blk_cell BK234.out 0).trans rfl; have hcz61_1 : w60.cell? ⟨gb234, 1, none⟩ = some (.int .i64 x235001_2) := (blk_cell BK234.out 1).trans rfl; have hcz61_2 : w60.cell? ⟨gb234, 2, none⟩ = some (.int .i64 x235002_2) := (blk_cell BK234.out 2).trans rfl; have hcz61_3 : w60.cell? ⟨gb234, 3, none⟩ = some (.bool x235003_2) := (blk_cell BK234.out 3).trans rfl; have hfz61_0 := blk_frozen BK234.out 0; have hfz61_1 := blk_frozen BK234.out 1; have hfz61_2 := blk_frozen BK234.out 2; have hfz61_3 := blk_frozen BK234.out 3) | (go_at_call 13; (with_reducible refine (breaker_Breaker_Lets.calls x235000_2 x235001_2 x235002_2 x235003_2 (wrap64 (x7_2 + x8_2)) t241 _ A58.out).mono ?_); rintro e w62 ⟨rfl, hb⟩; have n0_ := Aside0.mk (blk_below (g := gb234) (o := .cells #[.bool x235000_2, .int .i64 x235001_2, .int .i64 x235002_2, .bool x235003_2] 23 (0, 0)) (by (with_reducible repeat (first | refine blk_drewN ?_ _ | refine blk_drew ?_ | refine blk_alloc ?_ _)); exact BK234.out) hb); have n1_ := Aside0.mk (below_step (by repeat (first | (with_reducible first | exact HB.out | apply below_alloc | apply pw_below_drewN | apply below_drew1 | refine below_set ?_ GE234.out) | exact HB.out)) hb); clear BK234; clear HB; have BK234 := n0_; have HB := n1_; clear n0_ n1_; (try clear hb); (try clear hb2); (try clear hk); (try clear hi)))
                    go_ret
                    exact ⟨by first | rfl | (simp [errW_none, errW_some] <;> rfl) | (simp [*, errW_none, errW_some] <;> rfl), by repeat (first | (with_reducible first | exact HB.out | apply below_alloc | apply pw_below_drewN | apply below_drew1 | refine below_set ?_ GE234.out) | exact HB.out)⟩
                · rw [if_neg c55] at H
                  have c55b0 : (x6_2 == 0) = false := beq_eq_false_iff_ne.mpr c55
                  have c55b1 : (x6_2 != 0) = true := bne_iff_ne.mpr c55
                  exact absurd ((Option.some.inj H).trans hT.out) (by decide)
  · replace c4 := Bool.eq_false_iff.mpr c4
    subst c4
    have H1 : (some false) = some r := by rw [if_neg (show ¬ (false = true) by decide)] at H; exact H
    clear H
    have H := H1
    clear H1
    exact absurd ((Option.some.inj H).trans hT.out) (by decide)

/-- THE ONE PURE STATEMENT of postilionlaw09_BreakerLonger: yours. -/
def postilionlaw09_BreakerLonger.Pure : Prop := ∀ (a0 : Int) (l1 : List Int), (Lit.int .i64 a0).wf = true → l1.length ≤ maxLen → l1.length * 1 ≤ 140737488351232 → (∀ x ∈ l1, (Lit.int .u8 x).wf = true) → ∃ k, postilionlaw09_BreakerLonger.f k a0 l1 = some true
theorem postilionlaw09_BreakerLonger.walk (P : postilionlaw09_BreakerLonger.Pure) (a0 : Int) (a1 : Option Addr) (len1 cap1 : Nat) (z1 : List Int) (w : World) (w0 : (Lit.int .i64 a0).wf = true) (w1 : (a1 = none ∧ len1 = 0 ∧ cap1 = 0 ∧ z1 = []) ∨ ∃ x, a1 = some x ∧ len1 ≤ cap1 ∧ cap1 ≤ maxLen ∧ z1.length = cap1 ∧ (∀ i, i < z1.length → w.cell? (x.add i) = some (.int .u8 (z1.getD i 0))) ∧ ∀ n ∈ z1, (Lit.int .u8 n).wf = true) (y1 : len1 * 1 ≤ 140737488351232) :
    Calls Try.prog 5 #[.int .i64 a0, .slice a1 len1 cap1] w fun e w' => e = .returned (.bool true) ∧ Below w.heap.size w w' := by
  obtain ⟨l1, rfl, hr1, hm1, hw1, hc1⟩ := ReadsInt.ofRowC w1
  obtain ⟨k, h⟩ := P a0 l1 w0 hm1 y1 hw1
  refine (postilionlaw09_BreakerLonger.calls k a0 _ _ l1 true w (Kd.C_of_reads (d := (0 : Int)) (h1 := fun _ => rfl) hr1) hc1 h ⟨rfl⟩).mono ?_
  rintro e w' ⟨rfl, hd⟩
  exact ⟨rfl, hd⟩

end Go.Proofs.Ytihjjafblfpbbaa.P
