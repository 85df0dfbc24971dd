-- Laid by sp.py, a program of this session's, out of the translation and the session's own stand-ins.
import Derived.Test.YtihjjafblfpbbaaPx0
import Derived.Test.YtihjjafblfpbbaaPx1
import Derived.Test.YtihjjafblfpbbaaPx2
import Derived.Test.YtihjjafblfpbbaaPx3
import Derived.Test.YtihjjafblfpbbaaPx4
import Derived.Test.YtihjjafblfpbbaaPx10
import Derived.Test.YtihjjafblfpbbaaPx12
import Derived.Test.YtihjjafblfpbbaaPx13
import Derived.Test.YtihjjafblfpbbaaPx15
import Derived.Test.YtihjjafblfpbbaaSLshort
namespace Go.Proofs.Ytihjjafblfpbbaa.P
open Go.RowKit Go.Proofs.YtihjjafblfpbbaaW.PrintWords Go.Proofs.YtihjjafblfpbbaaW.PrintLast Go.Proofs.YtihjjafblfpbbaaW.PrintMore
attribute [local go_sem] max2_int min2_int max_two min_two max_three min_three max_four min_four   -- for this text's walks alone
set_option linter.unusedVariables false
set_option linter.unusedSimpArgs false
set_option linter.unnecessarySimpa false

open Go.Proofs.Ytihjjafblfpbbaa.SL
attribute [local go_sem high] eqA23
/-! ### postilionlaw09_BreakerOne: function 6 -/
mutual
def postilionlaw09_BreakerOne.j0 : Nat → Int → List (S47) → Bool → Option (Bool)
  | 0, _, _, _ => none
  | k + 1, x0, x1, x29 => if x29 = true then (some true) else (postilionlaw09_BreakerOne.l0 k x0 x1 0 false 0 false 0 0 false)
def postilionlaw09_BreakerOne.l0 : Nat → Int → List (S47) → Int → Bool → Int → Bool → Int → Int → Bool → Option (Bool)
  | 0, _, _, _, _, _, _, _, _, _ => none
  | k + 1, x0, x1, x6, x7, x8, x263000, x263001, x263002, x263003 => if x8 < (x1.length : Int) then (if 0 ≤ x8 then (if (Int.tmod ((rd_T47 x1 x8).f0) 6) = 0 then ((breaker_Breaker_Try.f x263000 x263001 x263002 x263003 (wrap64 (x6 + (wrap64 ((rd_T47 x1 x8).f1))))).bind fun bt265 => ((breaker_Breaker_Lets.f x263000 x263001 x263002 x263003 (wrap64 (x6 + (wrap64 ((rd_T47 x1 x8).f1))))).bind fun t272 => (if ((bt265.2.2.2.2.2 == 0) != t272) = true then (some false) else (if bt265.2.2.2.2.1 = true then (if x7 = true then (some false) else (if bt265.2.2.2.2.2 = 0 then ((breaker_Breaker_State.f x263000 x263001 x263002 x263003 (wrap64 (x6 + (wrap64 ((rd_T47 x1 x8).f1))))).bind fun t273 => (if (bt265.2.2.2.2.1 != (t273 == 2)) = true then (some false) else (postilionlaw09_BreakerOne.j2 k x0 x1 (wrap64 (x6 + (wrap64 ((rd_T47 x1 x8).f1)))) bt265.2.2.2.2.1 x8 0 bt265.1 bt265.2.1 bt265.2.2.1 bt265.2.2.2.1))) else (if (!(bt265.1 == x263000) || (!(bt265.2.1 == x263001) || (!(bt265.2.2.1 == x263002) || (!(bt265.2.2.2.1 == x263003))))) = true then (some false) else (if (bt265.2.2.2.2.1 != false) = true then (some false) else (postilionlaw09_BreakerOne.j2 k x0 x1 (wrap64 (x6 + (wrap64 ((rd_T47 x1 x8).f1)))) bt265.2.2.2.2.1 x8 0 bt265.1 bt265.2.1 bt265.2.2.1 bt265.2.2.2.1))))) else (if bt265.2.2.2.2.2 = 0 then ((breaker_Breaker_State.f x263000 x263001 x263002 x263003 (wrap64 (x6 + (wrap64 ((rd_T47 x1 x8).f1))))).bind fun t274 => (if (bt265.2.2.2.2.1 != (t274 == 2)) = true then (some false) else (if x7 = true then (postilionlaw09_BreakerOne.j2 k x0 x1 (wrap64 (x6 + (wrap64 ((rd_T47 x1 x8).f1)))) true x8 0 bt265.1 bt265.2.1 bt265.2.2.1 bt265.2.2.2.1) else (postilionlaw09_BreakerOne.j2 k x0 x1 (wrap64 (x6 + (wrap64 ((rd_T47 x1 x8).f1)))) bt265.2.2.2.2.1 x8 0 bt265.1 bt265.2.1 bt265.2.2.1 bt265.2.2.2.1)))) else (if (!(bt265.1 == x263000) || (!(bt265.2.1 == x263001) || (!(bt265.2.2.1 == x263002) || (!(bt265.2.2.2.1 == x263003))))) = true then (some false) else (if (bt265.2.2.2.2.1 != false) = true then (some false) else (if x7 = true then (postilionlaw09_BreakerOne.j2 k x0 x1 (wrap64 (x6 + (wrap64 ((rd_T47 x1 x8).f1)))) true x8 0 bt265.1 bt265.2.1 bt265.2.2.1 bt265.2.2.2.1) else (postilionlaw09_BreakerOne.j2 k x0 x1 (wrap64 (x6 + (wrap64 ((rd_T47 x1 x8).f1)))) bt265.2.2.2.2.1 x8 0 bt265.1 bt265.2.1 bt265.2.2.1 bt265.2.2.2.1))))))))) else (if (Int.tmod ((rd_T47 x1 x8).f0) 6) = 1 then ((breaker_Breaker_Good.f x263000 x263001 x263002 x263003 true).bind fun bt275 => (if x7 = true then (if (bt275.1 || (!(bt275.2.1 == 0) || (!(bt275.2.2.1 == 0) || (bt275.2.2.2)))) = true then (some false) else (postilionlaw09_BreakerOne.j2 k x0 x1 (wrap64 (x6 + (wrap64 ((rd_T47 x1 x8).f1)))) false x8 0 bt275.1 bt275.2.1 bt275.2.2.1 bt275.2.2.2)) else (postilionlaw09_BreakerOne.j2 k x0 x1 (wrap64 (x6 + (wrap64 ((rd_T47 x1 x8).f1)))) false x8 0 bt275.1 bt275.2.1 bt275.2.2.1 bt275.2.2.2))) else (if (Int.tmod ((rd_T47 x1 x8).f0) 6) = 2 then ((breaker_Breaker_Bad.f k x263000 x263001 x263002 x263003 (wrap64 (x6 + (wrap64 ((rd_T47 x1 x8).f1)))) x0 true ((rd_T47 x1 x8).f2)).bind fun bt279 => (if x7 = true then ((breaker_Breaker_State.f bt279.1 bt279.2.1 bt279.2.2.1 bt279.2.2.2.1 (wrap64 (x6 + (wrap64 ((rd_T47 x1 x8).f1))))).bind fun t284 => (if t284 = 1 then ((breaker_Breaker_Lets.f bt279.1 bt279.2.1 bt279.2.2.1 bt279.2.2.2.1 (wrap64 (x6 + (wrap64 ((rd_T47 x1 x8).f1))))).bind fun t285 => (if t285 = true then (some false) else (postilionlaw09_BreakerOne.j2 k x0 x1 (wrap64 (x6 + (wrap64 ((rd_T47 x1 x8).f1)))) false x8 bt279.2.2.2.2 bt279.1 bt279.2.1 bt279.2.2.1 bt279.2.2.2.1))) else (some false))) else (postilionlaw09_BreakerOne.j2 k x0 x1 (wrap64 (x6 + (wrap64 ((rd_T47 x1 x8).f1)))) false x8 bt279.2.2.2.2 bt279.1 bt279.2.1 bt279.2.2.1 bt279.2.2.2.1))) else (if (Int.tmod ((rd_T47 x1 x8).f0) 6) = 3 then ((breaker_Breaker_Back.f x263000 x263001 x263002 x263003 true).bind fun bt286 => (postilionlaw09_BreakerOne.j2 k x0 x1 (wrap64 (x6 + (wrap64 ((rd_T47 x1 x8).f1)))) false x8 0 bt286.1 bt286.2.1 bt286.2.2.1 bt286.2.2.2)) else (if (Int.tmod ((rd_T47 x1 x8).f0) 6) = 4 then ((breaker_Breaker_State.f x263000 x263001 x263002 x263003 (wrap64 (x6 + (wrap64 ((rd_T47 x1 x8).f1))))).bind fun t290 => ((breaker_Breaker_Bad.f k x263000 x263001 x263002 x263003 (wrap64 (x6 + (wrap64 ((rd_T47 x1 x8).f1)))) x0 false ((rd_T47 x1 x8).f2)).bind fun bt291 => (if t290 = 0 then ((breaker_Breaker_State.f bt291.1 bt291.2.1 bt291.2.2.1 bt291.2.2.2.1 (wrap64 (x6 + (wrap64 ((rd_T47 x1 x8).f1))))).bind fun t296 => (if ((t296 == 1) != ((rd_T47 x1 x8).f2)) = true then (some false) else (postilionlaw09_BreakerOne.j2 k x0 x1 (wrap64 (x6 + (wrap64 ((rd_T47 x1 x8).f1)))) x7 x8 bt291.2.2.2.2 bt291.1 bt291.2.1 bt291.2.2.1 bt291.2.2.2.1))) else (postilionlaw09_BreakerOne.j2 k x0 x1 (wrap64 (x6 + (wrap64 ((rd_T47 x1 x8).f1)))) x7 x8 bt291.2.2.2.2 bt291.1 bt291.2.1 bt291.2.2.1 bt291.2.2.2.1)))) else ((breaker_Breaker_Good.f x263000 x263001 x263002 x263003 false).bind fun bt298 => (if (!(bt298.1 == x263000) || (!(bt298.2.1 == x263001) || (!(bt298.2.2.1 == x263002) || (!(bt298.2.2.2 == x263003))))) = true then (some false) else (postilionlaw09_BreakerOne.j2 k x0 x1 (wrap64 (x6 + (wrap64 ((rd_T47 x1 x8).f1)))) x7 x8 0 bt298.1 bt298.2.1 bt298.2.2.1 bt298.2.2.2)))))))) else (none)) else (some true)
def postilionlaw09_BreakerOne.j2 : Nat → Int → List (S47) → Int → Bool → Int → Int → Bool → Int → Int → Bool → Option (Bool)
  | 0, _, _, _, _, _, _, _, _, _, _ => none
  | k + 1, x0, x1, x6, x7, x8, x10, x263000, x263001, x263002, x263003 => (breaker_Breaker_State.f x263000 x263001 x263002 x263003 x6).bind fun t302 => (if x10 = 0 then ((breaker_May.f x263000 x263001 x263002 x263003).bind fun t303 => (if t303 = true then (if t302 = 1 then ((breaker_Breaker_Lets.f x263000 x263001 x263002 x263003 x6).bind fun t304 => (if t304 = true then (some false) else (if (x7 != x263003) = true then (some false) else (postilionlaw09_BreakerOne.l0 k x0 x1 x6 x7 (wrap64 (x8 + 1)) x263000 x263001 x263002 x263003)))) else (if t302 = 0 then ((breaker_Breaker_Lets.f x263000 x263001 x263002 x263003 x6).bind fun t305 => (if t305 = true then (if (x7 != x263003) = true then (some false) else (postilionlaw09_BreakerOne.l0 k x0 x1 x6 x7 (wrap64 (x8 + 1)) x263000 x263001 x263002 x263003)) else (some false))) else (if t302 = 2 then ((breaker_Breaker_Lets.f x263000 x263001 x263002 x263003 x6).bind fun t306 => (if (t306 == x7) = true then (some false) else (if (x7 != x263003) = true then (some false) else (postilionlaw09_BreakerOne.l0 k x0 x1 x6 x7 (wrap64 (x8 + 1)) x263000 x263001 x263002 x263003)))) else (if (x7 != x263003) = true then (some false) else (postilionlaw09_BreakerOne.l0 k x0 x1 x6 x7 (wrap64 (x8 + 1)) x263000 x263001 x263002 x263003))))) else (some false))) else (some false))
end
def postilionlaw09_BreakerOne.f (k : Nat) (a0 : Int) (l1 : List (S47)) : Option (Bool) := (postilionlaw09_awake.f k).bind fun t261 => (if t261 = true then (if a0 < 1 then (postilionlaw09_BreakerOne.j0 k a0 l1 true) else (if a0 > 1000 then (postilionlaw09_BreakerOne.j0 k a0 l1 true) else (postilionlaw09_BreakerOne.j0 k a0 l1 (decide ((l1.length : Int) > 200))))) else (some false))
theorem postilionlaw09_BreakerOne.mono_l : ∀ k, (∀ y0 y1 y2, LeO (postilionlaw09_BreakerOne.j0 k y0 y1 y2) (postilionlaw09_BreakerOne.j0 (k + 1) y0 y1 y2)) ∧ (∀ y0 y1 y2 y3 y4 y5 y6 y7 y8, LeO (postilionlaw09_BreakerOne.l0 k y0 y1 y2 y3 y4 y5 y6 y7 y8) (postilionlaw09_BreakerOne.l0 (k + 1) y0 y1 y2 y3 y4 y5 y6 y7 y8)) ∧ (∀ y0 y1 y2 y3 y4 y5 y6 y7 y8 y9, LeO (postilionlaw09_BreakerOne.j2 k y0 y1 y2 y3 y4 y5 y6 y7 y8 y9) (postilionlaw09_BreakerOne.j2 (k + 1) y0 y1 y2 y3 y4 y5 y6 y7 y8 y9))
  | 0 => ⟨fun _ _ _ r h => by simp [postilionlaw09_BreakerOne.j0] at h, fun _ _ _ _ _ _ _ _ _ r h => by simp [postilionlaw09_BreakerOne.l0] at h, fun _ _ _ _ _ _ _ _ _ _ r h => by simp [postilionlaw09_BreakerOne.j2] at h⟩
  | k + 1 => by
    obtain ⟨ih0, ih1, ih2⟩ := postilionlaw09_BreakerOne.mono_l k
    refine ⟨?_, ?_, ?_⟩
    · intro y0 y1 y2
      unfold postilionlaw09_BreakerOne.j0
      repeat' first
      | (with_reducible exact ih0 _ _ _)
      | (with_reducible exact ih1 _ _ _ _ _ _ _ _ _)
      | (with_reducible exact ih2 _ _ _ _ _ _ _ _ _ _)
      | (with_reducible exact breaker_Breaker_Bad.mono _ _ _ _ _ _ _ _ _)
      | (with_reducible exact postilionlaw09_awake.mono _)
      | (with_reducible exact LeO.refl _)
      | (with_reducible exact LeO.none _)
      | (with_reducible refine LeO.ite ?_ ?_)
      | (with_reducible refine LeO.bind ?_ (fun _ => ?_))
      | exact ih0 _ _ _
      | exact ih1 _ _ _ _ _ _ _ _ _
      | exact ih2 _ _ _ _ _ _ _ _ _ _
      | exact breaker_Breaker_Bad.mono _ _ _ _ _ _ _ _ _
      | exact postilionlaw09_awake.mono _
      | exact LeO.none _
      | refine LeO.ite ?_ ?_
      | refine LeO.bind ?_ (fun _ => ?_)
    · intro y0 y1 y2 y3 y4 y5 y6 y7 y8
      unfold postilionlaw09_BreakerOne.l0
      repeat' first
      | (with_reducible exact ih0 _ _ _)
      | (with_reducible exact ih1 _ _ _ _ _ _ _ _ _)
      | (with_reducible exact ih2 _ _ _ _ _ _ _ _ _ _)
      | (with_reducible exact breaker_Breaker_Bad.mono _ _ _ _ _ _ _ _ _)
      | (with_reducible exact postilionlaw09_awake.mono _)
      | (with_reducible exact LeO.refl _)
      | (with_reducible exact LeO.none _)
      | (with_reducible refine LeO.ite ?_ ?_)
      | (with_reducible refine LeO.bind ?_ (fun _ => ?_))
      | exact ih0 _ _ _
      | exact ih1 _ _ _ _ _ _ _ _ _
      | exact ih2 _ _ _ _ _ _ _ _ _ _
      | exact breaker_Breaker_Bad.mono _ _ _ _ _ _ _ _ _
      | exact postilionlaw09_awake.mono _
      | exact LeO.none _
      | refine LeO.ite ?_ ?_
      | refine LeO.bind ?_ (fun _ => ?_)
    · intro y0 y1 y2 y3 y4 y5 y6 y7 y8 y9
      unfold postilionlaw09_BreakerOne.j2
      repeat' first
      | (with_reducible exact ih0 _ _ _)
      | (with_reducible exact ih1 _ _ _ _ _ _ _ _ _)
      | (with_reducible exact ih2 _ _ _ _ _ _ _ _ _ _)
      | (with_reducible exact breaker_Breaker_Bad.mono _ _ _ _ _ _ _ _ _)
      | (with_reducible exact postilionlaw09_awake.mono _)
      | (with_reducible exact LeO.refl _)
      | (with_reducible exact LeO.none _)
      | (with_reducible refine LeO.ite ?_ ?_)
      | (with_reducible refine LeO.bind ?_ (fun _ => ?_))
      | exact ih0 _ _ _
      | exact ih1 _ _ _ _ _ _ _ _ _
      | exact ih2 _ _ _ _ _ _ _ _ _ _
      | exact breaker_Breaker_Bad.mono _ _ _ _ _ _ _ _ _
      | exact postilionlaw09_awake.mono _
      | exact LeO.none _
      | refine LeO.ite ?_ ?_
      | refine LeO.bind ?_ (fun _ => ?_)
theorem postilionlaw09_BreakerOne.mono : ∀ a0 a1 k, LeO (postilionlaw09_BreakerOne.f k a0 a1) (postilionlaw09_BreakerOne.f (k + 1) a0 a1) := by
  intro a0 a1 k
  obtain ⟨ih0, ih1, ih2⟩ := postilionlaw09_BreakerOne.mono_l k
  unfold postilionlaw09_BreakerOne.f
  repeat' first
      | (with_reducible exact ih0 _ _ _)
      | (with_reducible exact ih1 _ _ _ _ _ _ _ _ _)
      | (with_reducible exact ih2 _ _ _ _ _ _ _ _ _ _)
      | (with_reducible exact breaker_Breaker_Bad.mono _ _ _ _ _ _ _ _ _)
      | (with_reducible exact postilionlaw09_awake.mono _)
      | (with_reducible exact LeO.refl _)
      | (with_reducible exact LeO.none _)
      | (with_reducible refine LeO.ite ?_ ?_)
      | (with_reducible refine LeO.bind ?_ (fun _ => ?_))
      | exact ih0 _ _ _
      | exact ih1 _ _ _ _ _ _ _ _ _
      | exact ih2 _ _ _ _ _ _ _ _ _ _
      | exact breaker_Breaker_Bad.mono _ _ _ _ _ _ _ _ _
      | exact postilionlaw09_awake.mono _
      | exact LeO.none _
      | refine LeO.ite ?_ ?_
      | refine LeO.bind ?_ (fun _ => ?_)
def postilionlaw09_BreakerOne.T40 : Bool × List (List Nat × List Nat) := (true, [([], []), ([0], [0]), ([1], [1]), ([2], [2]), ([2], [2]), ([3, 4, 2, 2], [2, 3, 4]), ([5, 2], [2, 5]), ([2], [2]), ([7, 2], [2, 7]), ([6, 8, 2], [2, 6, 8]), ([2, 9], [2, 9])])
def postilionlaw09_BreakerOne.B40 : List Nat := [0, 1, 3, 7, 7, 31, 63, 7, 135, 511, 1023]
theorem postilionlaw09_BreakerOne.tab40 : rtab .any (opsOf Try.f6 40) = postilionlaw09_BreakerOne.T40 := by kernel_rfl
theorem postilionlaw09_BreakerOne.bits40 : waitsOk postilionlaw09_BreakerOne.T40.2 postilionlaw09_BreakerOne.B40 = true := by kernel_rfl
set_option maxHeartbeats 8000000 in
set_option maxRecDepth 100000 in
theorem postilionlaw09_BreakerOne.calls (k : Nat) (a0 : Int) (A1 : Option Addr) (c1 : Nat) (l1 : List (S47)) (r : Bool) (w : World) (hr1 : Kd.C k47 w A1 l1.length l1) (hc1 : l1.length ≤ c1) (h : postilionlaw09_BreakerOne.f k a0 l1 = some r) (hT : Aside0 (r = true)) :
  Calls Try.prog 6 #[.int .i64 a0, .slice A1 l1.length c1] w fun e w' => e = .returned (.bool r) ∧ Below w.heap.size w w' := by
 have hu23 := Try.underlying23
 have hu47 := Try.underlying47
 have HR1 := Aside0.mk hr1
 have HC1 := Aside0.mk hc1
 clear hr1 hc1
 have HB := Aside0.mk (Below.refl w.heap.size w)
 have H : ((postilionlaw09_awake.f k).bind fun t261 => (if t261 = true then (if a0 < 1 then (postilionlaw09_BreakerOne.j0 k a0 l1 true) else (if a0 > 1000 then (postilionlaw09_BreakerOne.j0 k a0 l1 true) else (postilionlaw09_BreakerOne.j0 k a0 l1 (decide ((l1.length : Int) > 200))))) else (some false))) = some r := h
 clear h
 replace H := Option.bind_eq_some_iff.mp H
 obtain ⟨t261, A30, H⟩ := H
 replace H : (if t261 = true then (if a0 < 1 then (postilionlaw09_BreakerOne.j0 k a0 l1 true) else (if a0 > 1000 then (postilionlaw09_BreakerOne.j0 k a0 l1 true) else (postilionlaw09_BreakerOne.j0 k a0 l1 (decide ((l1.length : Int) > 200))))) else (some false)) = some r := H
 have A3 := Aside0.mk A30
 clear A30
 by_cases c4 : t261 = true
 ·
  subst c4
  have H1 : (if a0 < 1 then (postilionlaw09_BreakerOne.j0 k a0 l1 true) else (if a0 > 1000 then (postilionlaw09_BreakerOne.j0 k a0 l1 true) else (postilionlaw09_BreakerOne.j0 k a0 l1 (decide ((l1.length : Int) > 200))))) = some r := by rw [if_pos rfl] at H; exact H
  clear H
  have H := H1
  clear H1
  have HC5 := Aside0.mk H
  clear H
  go_enter Try.func6, Try.ntmps6
  go_upto_region 3 with (first | ((with_reducible refine gate_callee (f := 21) rfl ?_); refine goesL_ (some 17) rfl rfl Try.func21 (by kernel_rfl) rfl #[] rfl (by (try simp only [List.map_toArray, List.map_cons, List.map_nil]); first | done | rfl | (simp only [List.length_drop, List.length_take]; rfl)) ?_; (with_reducible refine (postilionlaw09_awake.calls k  true _ A3.out).mono ?_); rintro e w6 ⟨rfl, hb⟩; refine ⟨_, rfl, ?_⟩; have n0_ := Aside0.mk (below_step (by repeat (first | (with_reducible first | exact HB.out | apply below_alloc | apply pw_below_drewN | apply below_drew1) | exact HB.out)) hb); clear HB; have HB := n0_; clear n0_; (try clear hb); (try clear hb2); (try clear hk); (try clear hi)))
  (try simp only [Act.put, List.setIfInBounds_toArray, List.set_cons_zero, List.set_cons_succ])
  go_cut [29] (fun v29 wc => ∃ (kq : Nat) (x29_4 : Bool), v29 = .bool x29_4 ∧ Aside0 (postilionlaw09_BreakerOne.j0 kq a0 l1 x29_4 = some r) ∧ Aside0 (kq ≤ k) ∧ Aside0 (Below w.heap.size w wc))
  case first =>
   have H := HC5.out
   clear HC5
   by_cases c7 : a0 < 1
   ·
    rw [if_pos c7] at H
    have c7b0 : decide (a0 < 1) = true := decide_eq_true c7
    clear c7
    (first | rw [c7b0] | (simp only [i64_w, i32_w]; rw [c7b0]) | skip)
    as_aux_lemma =>
     have H' := Aside0.mk H
     clear H
     go_wp2
     go_meet
     case rel => exact ⟨_, (true), (by first | rfl | (simp; done) | (simp [*]; done)), H', ⟨by first | omega | exact Nat.le_refl _⟩, ⟨by repeat (first | (with_reducible first | exact HB.out | apply below_alloc | apply pw_below_drewN | apply below_drew1) | exact HB.out)⟩⟩
   ·
    rw [if_neg c7] at H
    have c7b0 : decide (a0 < 1) = false := decide_eq_false c7
    clear c7
    (first | rw [c7b0] | (simp only [i64_w, i32_w]; rw [c7b0]) | skip)
    by_cases c8 : a0 > 1000
    ·
     rw [if_pos c8] at H
     have c8b0 : decide (1000 < a0) = true := decide_eq_true c8
     clear c8
     as_aux_lemma =>
      have H' := Aside0.mk H
      clear H
      go_wp2
      go_meet
      case rel => exact ⟨_, (true), (by first | rfl | (simp; done) | (simp [*]; done)), H', ⟨by first | omega | exact Nat.le_refl _⟩, ⟨by repeat (first | (with_reducible first | exact HB.out | apply below_alloc | apply pw_below_drewN | apply below_drew1) | exact HB.out)⟩⟩
    ·
     rw [if_neg c8] at H
     have c8b0 : decide (1000 < a0) = false := decide_eq_false c8
     clear c8
     as_aux_lemma =>
      have H' := Aside0.mk H
      clear H
      go_wp2
      go_meet
      case rel => exact ⟨_, (decide ((l1.length : Int) > 200)), (by first | rfl | (simp; done) | (simp [*]; done)), H', ⟨by first | omega | exact Nat.le_refl _⟩, ⟨by repeat (first | (with_reducible first | exact HB.out | apply below_alloc | apply pw_below_drewN | apply below_drew1) | exact HB.out)⟩⟩
  case rest =>
   clear HC5
   try clear c1
   try clear c2
   try clear p2
   try clear c4
   try clear c6
   try clear c7
   try clear c7b0
   try clear c8
   try clear c8b0
   obtain ⟨kq, x29_4, rfl, HA, HJ4, HB⟩ := hcut
   cases kq with
   | zero => exact absurd HA.out (by simp [postilionlaw09_BreakerOne.j0])
   | succ kj4 =>
    have H := HA.out
    clear HA
    simp only [postilionlaw09_BreakerOne.j0] at H
    by_cases c9 : x29_4 = true
    ·
     subst c9
     have H1 : (some true) = some r := by rw [if_pos rfl] at H; exact H
     clear H
     have H := H1
     clear H1
     as_aux_lemma =>
      obtain rfl := Option.some.inj H
      go_wp2
      go_ret
      exact ⟨by first | rfl | (simp [errW_none, errW_some] <;> rfl) | (simp [*, errW_none, errW_some] <;> rfl), by repeat (first | (with_reducible first | exact HB.out | apply below_alloc | apply pw_below_drewN | apply below_drew1) | exact HB.out)⟩
    ·
     replace c9 := Bool.eq_false_iff.mpr c9
     subst c9
     have H1 : (postilionlaw09_BreakerOne.l0 kj4 a0 l1 0 false 0 false 0 0 false) = some r := by rw [if_neg (show ¬ (false = true) by decide)] at H; exact H
     clear H
     have H := H1
     clear H1
     have H' := Aside0.mk H
     clear H
     go_wp2_with (first | ((with_reducible refine gate_dst (N := 5) rfl ?_); (try (refine gate_guard (by rfl) ?_; dsimp only)); refine box_event ?hg (N := 5) ?hd (cs := #[.bool false, .int .i64 0, .int .i64 0, .bool false]) (t := 23) ?hr ?_; (case hd => rfl); (case hg => rfl); (case hr => first | (go_simp; done) | (go_simp; rfl)); intro gb262 hg w10 hbox hb; have n0_ := Aside0.mk (below_step (by repeat (first | (with_reducible first | exact HB.out | apply below_alloc | apply pw_below_drewN | apply below_drew1) | exact HB.out)) hb); have n1_ := Aside0.mk (hbox); have n2_ := Aside0.mk ((by rw [hg]; exact (below_size (by repeat (first | (with_reducible first | exact HB.out | apply below_alloc | apply pw_below_drewN | apply below_drew1) | exact HB.out))) : w.heap.size ≤ gb262)); have n3_ := Aside0.mk ((by rw [hg]; exact (below_size (by repeat (first | (with_reducible first | exact HB.out | apply below_alloc | apply pw_below_drewN | apply below_drew1) | exact HB.out))) : w.heap.size ≤ gb262)); clear HB; have HB := n0_; have BK262 := n1_; have GW262 := n2_; have GE262 := n3_; clear n0_ n1_ n2_ n3_; clear hb hbox hg))
     go_loopg [6, 7, 8] kj4 (fun kq v6 v7 v8 w' => ∃ (x6_2 : Int) (x7_2 : Bool) (x8_2 : Int) (x263000_2 : Bool) (x263001_2 : Int) (x263002_2 : Int) (x263003_2 : Bool), v6 = .int .i64 x6_2 ∧ v7 = .bool x7_2 ∧ v8 = .int .i64 x8_2 ∧ Aside0 (postilionlaw09_BreakerOne.l0 kq a0 l1 x6_2 x7_2 x8_2 x263000_2 x263001_2 x263002_2 x263003_2 = some r) ∧ Aside0 (kq ≤ kj4) ∧ Aside0 (w'.heap[gb262]? = some (.cells #[.bool x263000_2, .int .i64 x263001_2, .int .i64 x263002_2, .bool x263003_2] 23 (0, 0))) ∧ Aside0 (Below w.heap.size w w'))
     case atStart => exact ⟨(0), (false), (0), (false), (0), (0), (false), (by first | rfl | (simp; done) | (simp [*]; done)), (by first | rfl | (simp; done) | (simp [*]; done)), (by first | rfl | (simp; done) | (simp [*]; done)), H', ⟨Nat.le_refl _⟩, ⟨by (with_reducible repeat (first | refine b1 ?_ _ | refine b2 ?_ | refine b3 ?_ _)); exact BK262.out⟩, ⟨by repeat (first | (with_reducible first | exact HB.out | apply below_alloc | apply pw_below_drewN | apply below_drew1 | refine below_set ?_ GE262.out) | exact HB.out)⟩⟩
     case round =>
      clear H'
      try clear c1
      try clear c2
      try clear p2
      try clear c4
      try clear c6
      try clear c7
      try clear c7b0
      try clear c8
      try clear c8b0
      try clear c9
      try clear p2
      obtain ⟨x6_2, x7_2, x8_2, x263000_2, x263001_2, x263002_2, x263003_2, rfl, rfl, rfl, HA, HK2, BK262, HB⟩ := hrel
      cases gk with
      | zero => exact absurd HA.out (by simp [postilionlaw09_BreakerOne.l0])
      | succ k2 =>
       have H := HA.out
       clear HA
       simp only [postilionlaw09_BreakerOne.l0] at H
       by_cases c11 : x8_2 < (l1.length : Int)
       ·
        rw [if_pos c11] at H
        have c11b0 : decide (x8_2 < (l1.length : Int)) = true := decide_eq_true c11
        clear c11
        by_cases c12 : 0 ≤ x8_2
        ·
         rw [if_pos c12] at H
         have c12b0 : decide (0 ≤ x8_2) = true := decide_eq_true c12
         clear c12
         have HC13 := Aside0.mk H
         clear H
         have p263 : 0 ≤ (x8_2 : Int) := of_decide_eq_true (by first | (with_reducible assumption) | assumption)
         have q263 : x8_2 < (l1.length : Int) := of_decide_eq_true (by first | (with_reducible assumption) | assumption)
         obtain ⟨ad263, e263, hx263_0, hx263_1, hx263_2⟩ := at_T47 HR1.out x8_2 p263 q263
         cases e263
         replace hx263_0 := (HB.out.cell (World.block_lt_of_cell? w _ hx263_0)).trans hx263_0
         replace hx263_1 := (HB.out.cell (World.block_lt_of_cell? w _ hx263_1)).trans hx263_1
         replace hx263_2 := (HB.out.cell (World.block_lt_of_cell? w _ hx263_2)).trans hx263_2
         replace p263 := eq_true p263
         replace q263 := eq_true q263
         go_upto_block 2 with (first | ((with_reducible refine gate_dst (N := 9) rfl ?_); (try (refine gate_guard (by rfl) ?_; dsimp only)); refine box_event ?hg (N := 9) ?hd (cs := #[.int .u8 0, .int .u16 0, .bool false]) (t := 47) ?hr ?_; (case hd => rfl); (case hg => rfl); (case hr => first | (go_simp; done) | (go_simp; rfl)); intro gb264 hg w14 hbox hb; have n0_ := Aside0.mk (blk_below (g := gb262) (o := .cells #[.bool x263000_2, .int .i64 x263001_2, .int .i64 x263002_2, .bool x263003_2] 23 (0, 0)) (by (with_reducible repeat (first | refine b1 ?_ _ | refine b2 ?_ | refine b3 ?_ _)); exact BK262.out) hb); have n1_ := Aside0.mk (below_step (by repeat (first | (with_reducible first | exact HB.out | apply below_alloc | apply pw_below_drewN | apply below_drew1 | refine below_set ?_ GE262.out) | exact HB.out)) hb); have n2_ := Aside0.mk (hbox); have n3_ := Aside0.mk ((by rw [hg]; exact (below_size (by repeat (first | (with_reducible first | exact HB.out | apply below_alloc | apply pw_below_drewN | apply below_drew1 | refine below_set ?_ GE262.out) | exact HB.out))) : w.heap.size ≤ gb264)); have n4_ := Aside0.mk ((by rw [hg]; exact (below_size (by repeat (first | (with_reducible first | exact HB.out | apply below_alloc | apply pw_below_drewN | apply below_drew1 | refine below_set ?_ GE262.out) | exact HB.out))) : w.heap.size ≤ gb264)); have n5_ := Aside0.mk ((by rw [hg]; exact Nat.ne_of_lt (blk_lt (g := gb262) (o := .cells #[.bool x263000_2, .int .i64 x263001_2, .int .i64 x263002_2, .bool x263003_2] 23 (0, 0)) (by (with_reducible repeat (first | refine b1 ?_ _ | refine b2 ?_ | refine b3 ?_ _)); exact BK262.out)) : gb262 ≠ gb264)); have n6_ := Aside0.mk ((by rw [hg]; exact Nat.ne_of_gt (blk_lt (g := gb262) (o := .cells #[.bool x263000_2, .int .i64 x263001_2, .int .i64 x263002_2, .bool x263003_2] 23 (0, 0)) (by (with_reducible repeat (first | refine b1 ?_ _ | refine b2 ?_ | refine b3 ?_ _)); exact BK262.out)) : gb264 ≠ gb262)); clear BK262; clear HB; have BK262 := n0_; have HB := n1_; have BK264 := n2_; have GW264 := n3_; have GE264 := n4_; have NB262_264 := n5_; have NB264_262 := n6_; clear n0_ n1_ n2_ n3_ n4_ n5_ n6_; clear hb hbox hg; have hnb15 := NB264_262.out; have hnc15 := NB262_264.out; have hcz16_0 : w14.cell? ⟨gb264, 0, none⟩ = some (.int .u8 0) := (blk_cell BK264.out 0).trans rfl; have hcz16_1 : w14.cell? ⟨gb264, 1, none⟩ = some (.int .u16 0) := (blk_cell BK264.out 1).trans rfl; have hcz16_2 : w14.cell? ⟨gb264, 2, none⟩ = some (.bool false) := (blk_cell BK264.out 2).trans rfl; have hfz16_0 := blk_frozen BK264.out 0; have hfz16_1 := blk_frozen BK264.out 1; have hfz16_2 := blk_frozen BK264.out 2))
         (try simp only [Act.put, List.setIfInBounds_toArray, List.set_cons_zero, List.set_cons_succ])
         go_cut [7, 10] (fun v7 v10 wc => ∃ (kq : Nat) (x7_12 : Bool) (x10_12 : Int) (x263000_12 : Bool) (x263001_12 : Int) (x263002_12 : Int) (x263003_12 : Bool), v7 = .bool x7_12 ∧ v10 = .int .i64 x10_12 ∧ Aside0 (postilionlaw09_BreakerOne.j2 kq a0 l1 (wrap64 (x6_2 + (wrap64 ((rd_T47 l1 x8_2).f1)))) x7_12 x8_2 x10_12 x263000_12 x263001_12 x263002_12 x263003_12 = some r) ∧ Aside0 (kq ≤ k2) ∧ Aside0 (wc.heap[gb262]? = some (.cells #[.bool x263000_12, .int .i64 x263001_12, .int .i64 x263002_12, .bool x263003_12] 23 (0, 0))) ∧ Aside0 (wc.heap[gb264]? = some (.cells #[.int .u8 ((rd_T47 l1 x8_2).f0), .int .u16 ((rd_T47 l1 x8_2).f1), .bool ((rd_T47 l1 x8_2).f2)] 47 (0, 0))) ∧ Aside0 (Below w.heap.size w wc))
         case first =>
          have H := HC13.out
          clear HC13
          by_cases c17 : (Int.tmod ((rd_T47 l1 x8_2).f0) 6) = 0
          ·
           rw [if_pos c17] at H
           have c17b0 : ((Int.tmod ((rd_T47 l1 x8_2).f0) 6) == 0) = true := beq_iff_eq.mpr c17
           have c17b1 : ((Int.tmod ((rd_T47 l1 x8_2).f0) 6) != 0) = false := bne_eq_false_iff_eq.mpr c17
           clear c17
           (first | rw [c17b0] | (simp only [i64_w, i32_w]; rw [c17b0]) | skip)
           replace H := Option.bind_eq_some_iff.mp H
           obtain ⟨⟨t265, t266, t267, t268, t269, t270⟩, A180, H⟩ := H
           replace H : ((breaker_Breaker_Lets.f x263000_2 x263001_2 x263002_2 x263003_2 (wrap64 (x6_2 + (wrap64 ((rd_T47 l1 x8_2).f1))))).bind fun t272 => (if ((t270 == 0) != t272) = true then (some false) else (if t269 = true then (if x7_2 = true then (some false) else (if t270 = 0 then ((breaker_Breaker_State.f x263000_2 x263001_2 x263002_2 x263003_2 (wrap64 (x6_2 + (wrap64 ((rd_T47 l1 x8_2).f1))))).bind fun t273 => (if (t269 != (t273 == 2)) = true then (some false) else (postilionlaw09_BreakerOne.j2 k2 a0 l1 (wrap64 (x6_2 + (wrap64 ((rd_T47 l1 x8_2).f1)))) t269 x8_2 0 t265 t266 t267 t268))) else (if (!(t265 == x263000_2) || (!(t266 == x263001_2) || (!(t267 == x263002_2) || (!(t268 == x263003_2))))) = true then (some false) else (if (t269 != false) = true then (some false) else (postilionlaw09_BreakerOne.j2 k2 a0 l1 (wrap64 (x6_2 + (wrap64 ((rd_T47 l1 x8_2).f1)))) t269 x8_2 0 t265 t266 t267 t268))))) else (if t270 = 0 then ((breaker_Breaker_State.f x263000_2 x263001_2 x263002_2 x263003_2 (wrap64 (x6_2 + (wrap64 ((rd_T47 l1 x8_2).f1))))).bind fun t274 => (if (t269 != (t274 == 2)) = true then (some false) else (if x7_2 = true then (postilionlaw09_BreakerOne.j2 k2 a0 l1 (wrap64 (x6_2 + (wrap64 ((rd_T47 l1 x8_2).f1)))) true x8_2 0 t265 t266 t267 t268) else (postilionlaw09_BreakerOne.j2 k2 a0 l1 (wrap64 (x6_2 + (wrap64 ((rd_T47 l1 x8_2).f1)))) t269 x8_2 0 t265 t266 t267 t268)))) else (if (!(t265 == x263000_2) || (!(t266 == x263001_2) || (!(t267 == x263002_2) || (!(t268 == x263003_2))))) = true then (some false) else (if (t269 != false) = true then (some false) else (if x7_2 = true then (postilionlaw09_BreakerOne.j2 k2 a0 l1 (wrap64 (x6_2 + (wrap64 ((rd_T47 l1 x8_2).f1)))) true x8_2 0 t265 t266 t267 t268) else (postilionlaw09_BreakerOne.j2 k2 a0 l1 (wrap64 (x6_2 + (wrap64 ((rd_T47 l1 x8_2).f1)))) t269 x8_2 0 t265 t266 t267 t268)))))))) = some r := H
           have A18 := Aside0.mk A180
           clear A180
           replace H := Option.bind_eq_some_iff.mp H
           obtain ⟨t272, A190, H⟩ := H
           replace H : (if ((t270 == 0) != t272) = true then (some false) else (if t269 = true then (if x7_2 = true then (some false) else (if t270 = 0 then ((breaker_Breaker_State.f x263000_2 x263001_2 x263002_2 x263003_2 (wrap64 (x6_2 + (wrap64 ((rd_T47 l1 x8_2).f1))))).bind fun t273 => (if (t269 != (t273 == 2)) = true then (some false) else (postilionlaw09_BreakerOne.j2 k2 a0 l1 (wrap64 (x6_2 + (wrap64 ((rd_T47 l1 x8_2).f1)))) t269 x8_2 0 t265 t266 t267 t268))) else (if (!(t265 == x263000_2) || (!(t266 == x263001_2) || (!(t267 == x263002_2) || (!(t268 == x263003_2))))) = true then (some false) else (if (t269 != false) = true then (some false) else (postilionlaw09_BreakerOne.j2 k2 a0 l1 (wrap64 (x6_2 + (wrap64 ((rd_T47 l1 x8_2).f1)))) t269 x8_2 0 t265 t266 t267 t268))))) else (if t270 = 0 then ((breaker_Breaker_State.f x263000_2 x263001_2 x263002_2 x263003_2 (wrap64 (x6_2 + (wrap64 ((rd_T47 l1 x8_2).f1))))).bind fun t274 => (if (t269 != (t274 == 2)) = true then (some false) else (if x7_2 = true then (postilionlaw09_BreakerOne.j2 k2 a0 l1 (wrap64 (x6_2 + (wrap64 ((rd_T47 l1 x8_2).f1)))) true x8_2 0 t265 t266 t267 t268) else (postilionlaw09_BreakerOne.j2 k2 a0 l1 (wrap64 (x6_2 + (wrap64 ((rd_T47 l1 x8_2).f1)))) t269 x8_2 0 t265 t266 t267 t268)))) else (if (!(t265 == x263000_2) || (!(t266 == x263001_2) || (!(t267 == x263002_2) || (!(t268 == x263003_2))))) = true then (some false) else (if (t269 != false) = true then (some false) else (if x7_2 = true then (postilionlaw09_BreakerOne.j2 k2 a0 l1 (wrap64 (x6_2 + (wrap64 ((rd_T47 l1 x8_2).f1)))) true x8_2 0 t265 t266 t267 t268) else (postilionlaw09_BreakerOne.j2 k2 a0 l1 (wrap64 (x6_2 + (wrap64 ((rd_T47 l1 x8_2).f1)))) t269 x8_2 0 t265 t266 t267 t268))))))) = some r := H
           have A19 := Aside0.mk A190
           clear A190
           by_cases c20 : ((t270 == 0) != t272) = true
           ·
            rw [if_pos c20] at H
            have c20b0 : ((t270 == 0) != t272) = true := c20
            (try (have c20b1 : decide ((t270 == 0) = t272) = false := by simpa using c20))
            (try (have c20b2 : ((t270 == 0) == t272) = false := by simpa using c20))
            (try (have c20b3 : ¬ ((t270 == 0) = t272) := by simpa using c20))
            clear c20
            as_aux_lemma =>
             exact absurd ((Option.some.inj H).trans hT.out) (by decide)
           ·
            rw [if_neg c20] at H
            have c20b0 : ((t270 == 0) != t272) = false := by simpa using c20
            (try (have c20b1 : decide ((t270 == 0) = t272) = true := by simpa using c20))
            (try (have c20b2 : ((t270 == 0) == t272) = true := by simpa using c20))
            clear c20
            by_cases c21 : t269 = true
            ·
             subst c21
             have H1 : (if x7_2 = true then (some false) else (if t270 = 0 then ((breaker_Breaker_State.f x263000_2 x263001_2 x263002_2 x263003_2 (wrap64 (x6_2 + (wrap64 ((rd_T47 l1 x8_2).f1))))).bind fun t273 => (if (true != (t273 == 2)) = true then (some false) else (postilionlaw09_BreakerOne.j2 k2 a0 l1 (wrap64 (x6_2 + (wrap64 ((rd_T47 l1 x8_2).f1)))) true x8_2 0 t265 t266 t267 t268))) else (if (!(t265 == x263000_2) || (!(t266 == x263001_2) || (!(t267 == x263002_2) || (!(t268 == x263003_2))))) = true then (some false) else (if (true != false) = true then (some false) else (postilionlaw09_BreakerOne.j2 k2 a0 l1 (wrap64 (x6_2 + (wrap64 ((rd_T47 l1 x8_2).f1)))) true x8_2 0 t265 t266 t267 t268))))) = some r := by rw [if_pos rfl] at H; exact H
             clear H
             have H := H1
             clear H1
             by_cases c22 : x7_2 = true
             ·
              subst c22
              have H1 : (some false) = some r := by rw [if_pos rfl] at H; exact H
              clear H
              have H := H1
              clear H1
              as_aux_lemma =>
               exact absurd ((Option.some.inj H).trans hT.out) (by decide)
             ·
              replace c22 := Bool.eq_false_iff.mpr c22
              subst c22
              have H1 : (if t270 = 0 then ((breaker_Breaker_State.f x263000_2 x263001_2 x263002_2 x263003_2 (wrap64 (x6_2 + (wrap64 ((rd_T47 l1 x8_2).f1))))).bind fun t273 => (if (true != (t273 == 2)) = true then (some false) else (postilionlaw09_BreakerOne.j2 k2 a0 l1 (wrap64 (x6_2 + (wrap64 ((rd_T47 l1 x8_2).f1)))) true x8_2 0 t265 t266 t267 t268))) else (if (!(t265 == x263000_2) || (!(t266 == x263001_2) || (!(t267 == x263002_2) || (!(t268 == x263003_2))))) = true then (some false) else (if (true != false) = true then (some false) else (postilionlaw09_BreakerOne.j2 k2 a0 l1 (wrap64 (x6_2 + (wrap64 ((rd_T47 l1 x8_2).f1)))) true x8_2 0 t265 t266 t267 t268)))) = some r := by rw [if_neg (show ¬ (false = true) by decide)] at H; exact H
              clear H
              have H := H1
              clear H1
              by_cases c23 : t270 = 0
              ·
               rw [if_pos c23] at H
               have c23b0 : (t270 == 0) = true := beq_iff_eq.mpr c23
               have c23b1 : (t270 != 0) = false := bne_eq_false_iff_eq.mpr c23
               (try simp [c23b0] at c20b0)
               clear c23
               replace H := Option.bind_eq_some_iff.mp H
               obtain ⟨t273, A240, H⟩ := H
               replace H : (if (true != (t273 == 2)) = true then (some false) else (postilionlaw09_BreakerOne.j2 k2 a0 l1 (wrap64 (x6_2 + (wrap64 ((rd_T47 l1 x8_2).f1)))) true x8_2 0 t265 t266 t267 t268)) = some r := H
               have A24 := Aside0.mk A240
               clear A240
               by_cases c25 : (true != (t273 == 2)) = true
               ·
                rw [if_pos c25] at H
                have c25b0 : (true != (t273 == 2)) = true := c25
                (try (have c25b1 : decide (true = (t273 == 2)) = false := by simpa using c25))
                (try (have c25b2 : (true == (t273 == 2)) = false := by simpa using c25))
                (try (have c25b3 : ¬ (true = (t273 == 2)) := by simpa using c25))
                clear c25
                as_aux_lemma =>
                 exact absurd ((Option.some.inj H).trans hT.out) (by decide)
               ·
                rw [if_neg c25] at H
                have c25b0 : (true != (t273 == 2)) = false := by simpa using c25
                (try (have c25b1 : decide (true = (t273 == 2)) = true := by simpa using c25))
                (try (have c25b2 : (true == (t273 == 2)) = true := by simpa using c25))
                clear c25
                as_aux_lemma =>
                 have H' := Aside0.mk H
                 clear H
                 have hnb26 := NB262_264.out
                 have hnc26 := NB264_262.out
                 have hcz27_0 : w14.cell? ⟨gb262, 0, none⟩ = some (.bool x263000_2) := (blk_cell BK262.out 0).trans rfl
                 have hcz27_1 : w14.cell? ⟨gb262, 1, none⟩ = some (.int .i64 x263001_2) := (blk_cell BK262.out 1).trans rfl
                 have hcz27_2 : w14.cell? ⟨gb262, 2, none⟩ = some (.int .i64 x263002_2) := (blk_cell BK262.out 2).trans rfl
                 have hcz27_3 : w14.cell? ⟨gb262, 3, none⟩ = some (.bool x263003_2) := (blk_cell BK262.out 3).trans rfl
                 have hfz27_0 := blk_frozen BK262.out 0
                 have hfz27_1 := blk_frozen BK262.out 1
                 have hfz27_2 := blk_frozen BK262.out 2
                 have hfz27_3 := blk_frozen BK262.out 3
                 go_wp2_with (first | ((with_reducible refine gate_callee (f := 7) rfl ?_); refine goesL_ (some 59) rfl rfl Try.func7 (by kernel_rfl) rfl #[.agg #[.bool x263000_2, .int .i64 x263001_2, .int .i64 x263002_2, .bool x263003_2], .int .i64 (wrap64 (x6_2 + (wrap64 ((rd_T47 l1 x8_2).f1))))] rfl (by (try simp only [List.map_toArray, List.map_cons, List.map_nil]); first | done | rfl | (simp only [List.length_drop, List.length_take]; rfl)) ?_; (with_reducible refine (breaker_Breaker_Try.calls x263000_2 x263001_2 x263002_2 x263003_2 (wrap64 (x6_2 + (wrap64 ((rd_T47 l1 x8_2).f1)))) t265 t266 t267 t268 true t270 _ A18.out).mono ?_); rintro e w28 ⟨rfl, hb⟩; refine ⟨_, rfl, ?_⟩; have n0_ := Aside0.mk (blk_below (g := gb262) (o := .cells #[.bool x263000_2, .int .i64 x263001_2, .int .i64 x263002_2, .bool x263003_2] 23 (0, 0)) (by (with_reducible repeat (first | refine b1 ?_ _ | refine b2 ?_ | refine b3 ?_ _)); refine blk_far ?_ NB262_264.out _; (with_reducible repeat (first | refine b1 ?_ _ | refine b2 ?_ | refine b3 ?_ _)); refine blk_far ?_ NB262_264.out _; (with_reducible repeat (first | refine b1 ?_ _ | refine b2 ?_ | refine b3 ?_ _)); refine blk_far ?_ NB262_264.out _; (with_reducible repeat (first | refine b1 ?_ _ | refine b2 ?_ | refine b3 ?_ _)); exact BK262.out) hb); have n1_ := Aside0.mk (blk_below (g := gb264) (o := .cells #[.int .u8 ((rd_T47 l1 x8_2).f0), .int .u16 ((rd_T47 l1 x8_2).f1), .bool ((rd_T47 l1 x8_2).f2)] 47 (0, 0)) (by (with_reducible repeat (first | refine b1 ?_ _ | refine b2 ?_ | refine b3 ?_ _)); refine blk_put (cs := #[.int .u8 ((rd_T47 l1 x8_2).f0), .int .u16 ((rd_T47 l1 x8_2).f1), .bool false]) ?_ 2 _ rfl; (with_reducible repeat (first | refine b1 ?_ _ | refine b2 ?_ | refine b3 ?_ _)); refine blk_put (cs := #[.int .u8 ((rd_T47 l1 x8_2).f0), .int .u16 0, .bool false]) ?_ 1 _ rfl; (with_reducible repeat (first | refine b1 ?_ _ | refine b2 ?_ | refine b3 ?_ _)); refine blk_put (cs := #[.int .u8 0, .int .u16 0, .bool false]) ?_ 0 _ rfl; (with_reducible repeat (first | refine b1 ?_ _ | refine b2 ?_ | refine b3 ?_ _)); exact BK264.out) hb); have n2_ := Aside0.mk (below_step (by repeat (first | (with_reducible first | exact HB.out | apply below_alloc | apply pw_below_drewN | apply below_drew1 | refine below_set ?_ GE262.out | refine below_set ?_ GE264.out) | exact HB.out)) hb); clear BK262; clear BK264; clear HB; have BK262 := n0_; have BK264 := n1_; have HB := n2_; clear n0_ n1_ n2_; (try clear hb); (try clear hb2); (try clear hk); (try clear hi)) | ((with_reducible refine gate_dst (N := 11) rfl ?_); (try (refine gate_guard (by rfl) ?_; dsimp only)); refine box_event ?hg (N := 11) ?hd (cs := #[.bool false, .int .i64 0, .int .i64 0, .bool false]) (t := 23) ?hr ?_; (case hd => rfl); (case hg => rfl); (case hr => first | (go_simp; done) | (go_simp; rfl)); intro gb271 hg w29 hbox hb; have n0_ := Aside0.mk (blk_below (g := gb262) (o := .cells #[.bool x263000_2, .int .i64 x263001_2, .int .i64 x263002_2, .bool x263003_2] 23 (0, 0)) (by (with_reducible repeat (first | refine b1 ?_ _ | refine b2 ?_ | refine b3 ?_ _)); exact BK262.out) hb); have n1_ := Aside0.mk (blk_below (g := gb264) (o := .cells #[.int .u8 ((rd_T47 l1 x8_2).f0), .int .u16 ((rd_T47 l1 x8_2).f1), .bool ((rd_T47 l1 x8_2).f2)] 47 (0, 0)) (by (with_reducible repeat (first | refine b1 ?_ _ | refine b2 ?_ | refine b3 ?_ _)); exact BK264.out) hb); have n2_ := Aside0.mk (below_step (by repeat (first | (with_reducible first | exact HB.out | apply below_alloc | apply pw_below_drewN | apply below_drew1 | refine below_set ?_ GE262.out | refine below_set ?_ GE264.out) | exact HB.out)) hb); have n3_ := Aside0.mk (hbox); have n4_ := Aside0.mk ((by rw [hg]; exact (below_size (by repeat (first | (with_reducible first | exact HB.out | apply below_alloc | apply pw_below_drewN | apply below_drew1 | refine below_set ?_ GE262.out | refine below_set ?_ GE264.out) | exact HB.out))) : w.heap.size ≤ gb271)); have n5_ := Aside0.mk ((by rw [hg]; exact (below_size (by repeat (first | (with_reducible first | exact HB.out | apply below_alloc | apply pw_below_drewN | apply below_drew1 | refine below_set ?_ GE262.out | refine below_set ?_ GE264.out) | exact HB.out))) : w.heap.size ≤ gb271)); have n6_ := Aside0.mk ((by rw [hg]; exact Nat.ne_of_lt (blk_lt (g := gb262) (o := .cells #[.bool x263000_2, .int .i64 x263001_2, .int .i64 x263002_2, .bool x263003_2] 23 (0, 0)) (by (with_reducible repeat (first | refine b1 ?_ _ | refine b2 ?_ | refine b3 ?_ _)); exact BK262.out)) : gb262 ≠ gb271)); have n7_ := Aside0.mk ((by rw [hg]; exact Nat.ne_of_gt (blk_lt (g := gb262) (o := .cells #[.bool x263000_2, .int .i64 x263001_2, .int .i64 x263002_2, .bool x263003_2] 23 (0, 0)) (by (with_reducible repeat (first | refine b1 ?_ _ | refine b2 ?_ | refine b3 ?_ _)); exact BK262.out)) : gb271 ≠ gb262)); have n8_ := Aside0.mk ((by rw [hg]; exact Nat.ne_of_lt (blk_lt (g := gb264) (o := .cells #[.int .u8 ((rd_T47 l1 x8_2).f0), .int .u16 ((rd_T47 l1 x8_2).f1), .bool ((rd_T47 l1 x8_2).f2)] 47 (0, 0)) (by (with_reducible repeat (first | refine b1 ?_ _ | refine b2 ?_ | refine b3 ?_ _)); exact BK264.out)) : gb264 ≠ gb271)); have n9_ := Aside0.mk ((by rw [hg]; exact Nat.ne_of_gt (blk_lt (g := gb264) (o := .cells #[.int .u8 ((rd_T47 l1 x8_2).f0), .int .u16 ((rd_T47 l1 x8_2).f1), .bool ((rd_T47 l1 x8_2).f2)] 47 (0, 0)) (by (with_reducible repeat (first | refine b1 ?_ _ | refine b2 ?_ | refine b3 ?_ _)); exact BK264.out)) : gb271 ≠ gb264)); clear BK262; clear BK264; clear HB; have BK262 := n0_; have BK264 := n1_; have HB := n2_; have BK271 := n3_; have GW271 := n4_; have GE271 := n5_; have NB262_271 := n6_; have NB271_262 := n7_; have NB264_271 := n8_; have NB271_264 := n9_; clear n0_ n1_ n2_ n3_ n4_ n5_ n6_ n7_ n8_ n9_; clear hb hbox hg; have hnb30 := NB271_262.out; have hnc30 := NB262_271.out; have hnb31 := NB271_264.out; have hnc31 := NB264_271.out; have hcz32_0 : w29.cell? ⟨gb271, 0, none⟩ = some (.bool false) := (blk_cell BK271.out 0).trans rfl; have hcz32_1 : w29.cell? ⟨gb271, 1, none⟩ = some (.int .i64 0) := (blk_cell BK271.out 1).trans rfl; have hcz32_2 : w29.cell? ⟨gb271, 2, none⟩ = some (.int .i64 0) := (blk_cell BK271.out 2).trans rfl; have hcz32_3 : w29.cell? ⟨gb271, 3, none⟩ = some (.bool false) := (blk_cell BK271.out 3).trans rfl; have hfz32_0 := blk_frozen BK271.out 0; have hfz32_1 := blk_frozen BK271.out 1; have hfz32_2 := blk_frozen BK271.out 2; have hfz32_3 := blk_frozen BK271.out 3; have hcz33_0 : w29.cell? ⟨gb262, 0, none⟩ = some (.bool x263000_2) := (blk_cell BK262.out 0).trans rfl; have hcz33_1 : w29.cell? ⟨gb262, 1, none⟩ = some (.int .i64 x263001_2) := (blk_cell BK262.out 1).trans rfl; have hcz33_2 : w29.cell? ⟨gb262, 2, none⟩ = some (.int .i64 x263002_2) := (blk_cell BK262.out 2).trans rfl; have hcz33_3 : w29.cell? ⟨gb262, 3, none⟩ = some (.bool x263003_2) := (blk_cell BK262.out 3).trans rfl; have hfz33_0 := blk_frozen BK262.out 0; have hfz33_1 := blk_frozen BK262.out 1; have hfz33_2 := blk_frozen BK262.out 2; have hfz33_3 := blk_frozen BK262.out 3) | ((with_reducible refine gate_callee (f := 13) rfl ?_); refine goesL_ (some 67) rfl rfl Try.func13 (by kernel_rfl) rfl #[.agg #[.bool x263000_2, .int .i64 x263001_2, .int .i64 x263002_2, .bool x263003_2], .int .i64 (wrap64 (x6_2 + (wrap64 ((rd_T47 l1 x8_2).f1))))] rfl (by (try simp only [List.map_toArray, List.map_cons, List.map_nil]); first | done | rfl | (simp only [List.length_drop, List.length_take]; rfl)) ?_; (with_reducible refine (breaker_Breaker_Lets.calls x263000_2 x263001_2 x263002_2 x263003_2 (wrap64 (x6_2 + (wrap64 ((rd_T47 l1 x8_2).f1)))) t272 _ A19.out).mono ?_); rintro e w34 ⟨rfl, hb⟩; refine ⟨_, rfl, ?_⟩; have n0_ := Aside0.mk (blk_below (g := gb262) (o := .cells #[.bool x263000_2, .int .i64 x263001_2, .int .i64 x263002_2, .bool x263003_2] 23 (0, 0)) (by (with_reducible repeat (first | refine b1 ?_ _ | refine b2 ?_ | refine b3 ?_ _)); refine blk_far ?_ NB262_271.out _; (with_reducible repeat (first | refine b1 ?_ _ | refine b2 ?_ | refine b3 ?_ _)); refine blk_far ?_ NB262_271.out _; (with_reducible repeat (first | refine b1 ?_ _ | refine b2 ?_ | refine b3 ?_ _)); refine blk_far ?_ NB262_271.out _; (with_reducible repeat (first | refine b1 ?_ _ | refine b2 ?_ | refine b3 ?_ _)); refine blk_far ?_ NB262_271.out _; (with_reducible repeat (first | refine b1 ?_ _ | refine b2 ?_ | refine b3 ?_ _)); exact BK262.out) hb); have n1_ := Aside0.mk (blk_below (g := gb264) (o := .cells #[.int .u8 ((rd_T47 l1 x8_2).f0), .int .u16 ((rd_T47 l1 x8_2).f1), .bool ((rd_T47 l1 x8_2).f2)] 47 (0, 0)) (by (with_reducible repeat (first | refine b1 ?_ _ | refine b2 ?_ | refine b3 ?_ _)); refine blk_far ?_ NB264_271.out _; (with_reducible repeat (first | refine b1 ?_ _ | refine b2 ?_ | refine b3 ?_ _)); refine blk_far ?_ NB264_271.out _; (with_reducible repeat (first | refine b1 ?_ _ | refine b2 ?_ | refine b3 ?_ _)); refine blk_far ?_ NB264_271.out _; (with_reducible repeat (first | refine b1 ?_ _ | refine b2 ?_ | refine b3 ?_ _)); refine blk_far ?_ NB264_271.out _; (with_reducible repeat (first | refine b1 ?_ _ | refine b2 ?_ | refine b3 ?_ _)); exact BK264.out) hb); have n2_ := Aside0.mk (blk_below (g := gb271) (o := .cells #[.bool t265, .int .i64 t266, .int .i64 t267, .bool t268] 23 (0, 0)) (by (with_reducible repeat (first | refine b1 ?_ _ | refine b2 ?_ | refine b3 ?_ _)); refine blk_put (cs := #[.bool t265, .int .i64 t266, .int .i64 t267, .bool false]) ?_ 3 _ rfl; (with_reducible repeat (first | refine b1 ?_ _ | refine b2 ?_ | refine b3 ?_ _)); refine blk_put (cs := #[.bool t265, .int .i64 t266, .int .i64 0, .bool false]) ?_ 2 _ rfl; (with_reducible repeat (first | refine b1 ?_ _ | refine b2 ?_ | refine b3 ?_ _)); refine blk_put (cs := #[.bool t265, .int .i64 0, .int .i64 0, .bool false]) ?_ 1 _ rfl; (with_reducible repeat (first | refine b1 ?_ _ | refine b2 ?_ | refine b3 ?_ _)); refine blk_put (cs := #[.bool false, .int .i64 0, .int .i64 0, .bool false]) ?_ 0 _ rfl; (with_reducible repeat (first | refine b1 ?_ _ | refine b2 ?_ | refine b3 ?_ _)); exact BK271.out) hb); have n3_ := Aside0.mk (below_step (by repeat (first | (with_reducible first | exact HB.out | apply below_alloc | apply pw_below_drewN | apply below_drew1 | refine below_set ?_ GE262.out | refine below_set ?_ GE264.out | refine below_set ?_ GE271.out) | exact HB.out)) hb); clear BK262; clear BK264; clear BK271; clear HB; have BK262 := n0_; have BK264 := n1_; have BK271 := n2_; have HB := n3_; clear n0_ n1_ n2_ n3_; (try clear hb); (try clear hb2); (try clear hk); (try clear hi); have hcz35_0 : w34.cell? ⟨gb262, 0, none⟩ = some (.bool x263000_2) := (blk_cell BK262.out 0).trans rfl; have hcz35_1 : w34.cell? ⟨gb262, 1, none⟩ = some (.int .i64 x263001_2) := (blk_cell BK262.out 1).trans rfl; have hcz35_2 : w34.cell? ⟨gb262, 2, none⟩ = some (.int .i64 x263002_2) := (blk_cell BK262.out 2).trans rfl; have hcz35_3 : w34.cell? ⟨gb262, 3, none⟩ = some (.bool x263003_2) := (blk_cell BK262.out 3).trans rfl; have hfz35_0 := blk_frozen BK262.out 0; have hfz35_1 := blk_frozen BK262.out 1; have hfz35_2 := blk_frozen BK262.out 2; have hfz35_3 := blk_frozen BK262.out 3) | (go_at_call 11; (with_reducible refine (breaker_Breaker_State.calls x263000_2 x263001_2 x263002_2 x263003_2 (wrap64 (x6_2 + (wrap64 ((rd_T47 l1 x8_2).f1)))) t273 _ A24.out).mono ?_); rintro e w36 ⟨rfl, hb⟩; have n0_ := Aside0.mk (blk_below (g := gb262) (o := .cells #[.bool x263000_2, .int .i64 x263001_2, .int .i64 x263002_2, .bool x263003_2] 23 (0, 0)) (by (with_reducible repeat (first | refine b1 ?_ _ | refine b2 ?_ | refine b3 ?_ _)); exact BK262.out) hb); have n1_ := Aside0.mk (blk_below (g := gb264) (o := .cells #[.int .u8 ((rd_T47 l1 x8_2).f0), .int .u16 ((rd_T47 l1 x8_2).f1), .bool ((rd_T47 l1 x8_2).f2)] 47 (0, 0)) (by (with_reducible repeat (first | refine b1 ?_ _ | refine b2 ?_ | refine b3 ?_ _)); exact BK264.out) hb); have n2_ := Aside0.mk (blk_below (g := gb271) (o := .cells #[.bool t265, .int .i64 t266, .int .i64 t267, .bool t268] 23 (0, 0)) (by (with_reducible repeat (first | refine b1 ?_ _ | refine b2 ?_ | refine b3 ?_ _)); exact BK271.out) hb); have n3_ := Aside0.mk (below_step (by repeat (first | (with_reducible first | exact HB.out | apply below_alloc | apply pw_below_drewN | apply below_drew1 | refine below_set ?_ GE262.out | refine below_set ?_ GE264.out | refine below_set ?_ GE271.out) | exact HB.out)) hb); clear BK262; clear BK264; clear BK271; clear HB; have BK262 := n0_; have BK264 := n1_; have BK271 := n2_; have HB := n3_; clear n0_ n1_ n2_ n3_; (try clear hb); (try clear hb2); (try clear hk); (try clear hi); have hcz37_0 : w36.cell? ⟨gb271, 0, none⟩ = some (.bool t265) := (blk_cell BK271.out 0).trans rfl; have hcz37_1 : w36.cell? ⟨gb271, 1, none⟩ = some (.int .i64 t266) := (blk_cell BK271.out 1).trans rfl; have hcz37_2 : w36.cell? ⟨gb271, 2, none⟩ = some (.int .i64 t267) := (blk_cell BK271.out 2).trans rfl; have hcz37_3 : w36.cell? ⟨gb271, 3, none⟩ = some (.bool t268) := (blk_cell BK271.out 3).trans rfl; have hfz37_0 := blk_frozen BK271.out 0; have hfz37_1 := blk_frozen BK271.out 1; have hfz37_2 := blk_frozen BK271.out 2; have hfz37_3 := blk_frozen BK271.out 3; have hcz38_0 : w36.cell? ⟨gb262, 0, none⟩ = some (.bool x263000_2) := (blk_cell BK262.out 0).trans rfl; have hcz38_1 : w36.cell? ⟨gb262, 1, none⟩ = some (.int .i64 x263001_2) := (blk_cell BK262.out 1).trans rfl; have hcz38_2 : w36.cell? ⟨gb262, 2, none⟩ = some (.int .i64 x263002_2) := (blk_cell BK262.out 2).trans rfl; have hcz38_3 : w36.cell? ⟨gb262, 3, none⟩ = some (.bool x263003_2) := (blk_cell BK262.out 3).trans rfl; have hfz38_0 := blk_frozen BK262.out 0; have hfz38_1 := blk_frozen BK262.out 1; have hfz38_2 := blk_frozen BK262.out 2; have hfz38_3 := blk_frozen BK262.out 3))
                 go_meet
                 case rel => exact ⟨_, (true), (0), (t265), (t266), (t267), (t268), (by first | rfl | (simp; done) | (simp [*]; done)), (by first | rfl | (simp; done) | (simp [*]; done)), H', ⟨by have := HJ4.out; have := HK2.out; first | omega | exact Nat.le_refl _⟩, ⟨by (with_reducible repeat (first | refine b1 ?_ _ | refine b2 ?_ | refine b3 ?_ _)); refine blk_put (cs := #[.bool t265, .int .i64 t266, .int .i64 t267, .bool x263003_2]) ?_ 3 _ rfl; (with_reducible repeat (first | refine b1 ?_ _ | refine b2 ?_ | refine b3 ?_ _)); refine blk_put (cs := #[.bool t265, .int .i64 t266, .int .i64 x263002_2, .bool x263003_2]) ?_ 2 _ rfl; (with_reducible repeat (first | refine b1 ?_ _ | refine b2 ?_ | refine b3 ?_ _)); refine blk_put (cs := #[.bool t265, .int .i64 x263001_2, .int .i64 x263002_2, .bool x263003_2]) ?_ 1 _ rfl; (with_reducible repeat (first | refine b1 ?_ _ | refine b2 ?_ | refine b3 ?_ _)); refine blk_put (cs := #[.bool x263000_2, .int .i64 x263001_2, .int .i64 x263002_2, .bool x263003_2]) ?_ 0 _ rfl; (with_reducible repeat (first | refine b1 ?_ _ | refine b2 ?_ | refine b3 ?_ _)); exact BK262.out⟩, ⟨by (with_reducible repeat (first | refine b1 ?_ _ | refine b2 ?_ | refine b3 ?_ _)); refine blk_far ?_ NB264_262.out _; (with_reducible repeat (first | refine b1 ?_ _ | refine b2 ?_ | refine b3 ?_ _)); refine blk_far ?_ NB264_262.out _; (with_reducible repeat (first | refine b1 ?_ _ | refine b2 ?_ | refine b3 ?_ _)); refine blk_far ?_ NB264_262.out _; (with_reducible repeat (first | refine b1 ?_ _ | refine b2 ?_ | refine b3 ?_ _)); refine blk_far ?_ NB264_262.out _; (with_reducible repeat (first | refine b1 ?_ _ | refine b2 ?_ | refine b3 ?_ _)); exact BK264.out⟩, ⟨by repeat (first | (with_reducible first | exact HB.out | apply below_alloc | apply pw_below_drewN | apply below_drew1 | refine below_set ?_ GE262.out | refine below_set ?_ GE264.out | refine below_set ?_ GE271.out) | exact HB.out)⟩⟩
              ·
               rw [if_neg c23] at H
               have c23b0 : (t270 == 0) = false := beq_eq_false_iff_ne.mpr c23
               have c23b1 : (t270 != 0) = true := bne_iff_ne.mpr c23
               (try simp [c23b0] at c20b0)
               by_cases c39 : (!(t265 == x263000_2) || (!(t266 == x263001_2) || (!(t267 == x263002_2) || (!(t268 == x263003_2))))) = true
               ·
                rw [if_pos c39] at H
                have c39b0 : (!(t265 == x263000_2) || (!(t266 == x263001_2) || (!(t267 == x263002_2) || (!(t268 == x263003_2))))) = true := c39
                clear c39
                as_aux_lemma =>
                 exact absurd ((Option.some.inj H).trans hT.out) (by decide)
               ·
                rw [if_neg c39] at H
                have c39b0 : (!(t265 == x263000_2) || (!(t266 == x263001_2) || (!(t267 == x263002_2) || (!(t268 == x263003_2))))) = false := by simpa using c39
                clear c39
                by_cases c40 : (true != false) = true
                ·
                 rw [if_pos c40] at H
                 have c40b0 : (true != false) = true := c40
                 (try (have c40b1 : decide (true = false) = false := by simpa using c40))
                 (try (have c40b2 : (true == false) = false := by simpa using c40))
                 (try (have c40b3 : ¬ (true = false) := by simpa using c40))
                 clear c40
                 as_aux_lemma =>
                  exact absurd ((Option.some.inj H).trans hT.out) (by decide)
                ·
                 rw [if_neg c40] at H
                 have c40b0 : (true != false) = false := by simpa using c40
                 (try (have c40b1 : decide (true = false) = true := by simpa using c40))
                 (try (have c40b2 : (true == false) = true := by simpa using c40))
                 clear c40
                 as_aux_lemma =>
                  have H' := Aside0.mk H
                  clear H
                  have hnb41 := NB262_264.out
                  have hnc41 := NB264_262.out
                  have hcz42_0 : w14.cell? ⟨gb262, 0, none⟩ = some (.bool x263000_2) := (blk_cell BK262.out 0).trans rfl
                  have hcz42_1 : w14.cell? ⟨gb262, 1, none⟩ = some (.int .i64 x263001_2) := (blk_cell BK262.out 1).trans rfl
                  have hcz42_2 : w14.cell? ⟨gb262, 2, none⟩ = some (.int .i64 x263002_2) := (blk_cell BK262.out 2).trans rfl
                  have hcz42_3 : w14.cell? ⟨gb262, 3, none⟩ = some (.bool x263003_2) := (blk_cell BK262.out 3).trans rfl
                  have hfz42_0 := blk_frozen BK262.out 0
                  have hfz42_1 := blk_frozen BK262.out 1
                  have hfz42_2 := blk_frozen BK262.out 2
                  have hfz42_3 := blk_frozen BK262.out 3
                  go_wp2_with (first | ((with_reducible refine gate_callee (f := 7) rfl ?_); refine goesL_ (some 59) rfl rfl Try.func7 (by kernel_rfl) rfl #[.agg #[.bool x263000_2, .int .i64 x263001_2, .int .i64 x263002_2, .bool x263003_2], .int .i64 (wrap64 (x6_2 + (wrap64 ((rd_T47 l1 x8_2).f1))))] rfl (by (try simp only [List.map_toArray, List.map_cons, List.map_nil]); first | done | rfl | (simp only [List.length_drop, List.length_take]; rfl)) ?_; (with_reducible refine (breaker_Breaker_Try.calls x263000_2 x263001_2 x263002_2 x263003_2 (wrap64 (x6_2 + (wrap64 ((rd_T47 l1 x8_2).f1)))) t265 t266 t267 t268 true t270 _ A18.out).mono ?_); rintro e w43 ⟨rfl, hb⟩; refine ⟨_, rfl, ?_⟩; have n0_ := Aside0.mk (blk_below (g := gb262) (o := .cells #[.bool x263000_2, .int .i64 x263001_2, .int .i64 x263002_2, .bool x263003_2] 23 (0, 0)) (by (with_reducible repeat (first | refine b1 ?_ _ | refine b2 ?_ | refine b3 ?_ _)); refine blk_far ?_ NB262_264.out _; (with_reducible repeat (first | refine b1 ?_ _ | refine b2 ?_ | refine b3 ?_ _)); refine blk_far ?_ NB262_264.out _; (with_reducible repeat (first | refine b1 ?_ _ | refine b2 ?_ | refine b3 ?_ _)); refine blk_far ?_ NB262_264.out _; (with_reducible repeat (first | refine b1 ?_ _ | refine b2 ?_ | refine b3 ?_ _)); exact BK262.out) hb); have n1_ := Aside0.mk (blk_below (g := gb264) (o := .cells #[.int .u8 ((rd_T47 l1 x8_2).f0), .int .u16 ((rd_T47 l1 x8_2).f1), .bool ((rd_T47 l1 x8_2).f2)] 47 (0, 0)) (by (with_reducible repeat (first | refine b1 ?_ _ | refine b2 ?_ | refine b3 ?_ _)); refine blk_put (cs := #[.int .u8 ((rd_T47 l1 x8_2).f0), .int .u16 ((rd_T47 l1 x8_2).f1), .bool false]) ?_ 2 _ rfl; (with_reducible repeat (first | refine b1 ?_ _ | refine b2 ?_ | refine b3 ?_ _)); refine blk_put (cs := #[.int .u8 ((rd_T47 l1 x8_2).f0), .int .u16 0, .bool false]) ?_ 1 _ rfl; (with_reducible repeat (first | refine b1 ?_ _ | refine b2 ?_ | refine b3 ?_ _)); refine blk_put (cs := #[.int .u8 0, .int .u16 0, .bool false]) ?_ 0 _ rfl; (with_reducible repeat (first | refine b1 ?_ _ | refine b2 ?_ | refine b3 ?_ _)); exact BK264.out) hb); have n2_ := Aside0.mk (below_step (by repeat (first | (with_reducible first | exact HB.out | apply below_alloc | apply pw_below_drewN | apply below_drew1 | refine below_set ?_ GE262.out | refine below_set ?_ GE264.out) | exact HB.out)) hb); clear BK262; clear BK264; clear HB; have BK262 := n0_; have BK264 := n1_; have HB := n2_; clear n0_ n1_ n2_; (try clear hb); (try clear hb2); (try clear hk); (try clear hi)) | ((with_reducible refine gate_dst (N := 11) rfl ?_); (try (refine gate_guard (by rfl) ?_; dsimp only)); refine box_event ?hg (N := 11) ?hd (cs := #[.bool false, .int .i64 0, .int .i64 0, .bool false]) (t := 23) ?hr ?_; (case hd => rfl); (case hg => rfl); (case hr => first | (go_simp; done) | (go_simp; rfl)); intro gb271 hg w44 hbox hb; have n0_ := Aside0.mk (blk_below (g := gb262) (o := .cells #[.bool x263000_2, .int .i64 x263001_2, .int .i64 x263002_2, .bool x263003_2] 23 (0, 0)) (by (with_reducible repeat (first | refine b1 ?_ _ | refine b2 ?_ | refine b3 ?_ _)); exact BK262.out) hb); have n1_ := Aside0.mk (blk_below (g := gb264) (o := .cells #[.int .u8 ((rd_T47 l1 x8_2).f0), .int .u16 ((rd_T47 l1 x8_2).f1), .bool ((rd_T47 l1 x8_2).f2)] 47 (0, 0)) (by (with_reducible repeat (first | refine b1 ?_ _ | refine b2 ?_ | refine b3 ?_ _)); exact BK264.out) hb); have n2_ := Aside0.mk (below_step (by repeat (first | (with_reducible first | exact HB.out | apply below_alloc | apply pw_below_drewN | apply below_drew1 | refine below_set ?_ GE262.out | refine below_set ?_ GE264.out) | exact HB.out)) hb); have n3_ := Aside0.mk (hbox); have n4_ := Aside0.mk ((by rw [hg]; exact (below_size (by repeat (first | (with_reducible first | exact HB.out | apply below_alloc | apply pw_below_drewN | apply below_drew1 | refine below_set ?_ GE262.out | refine below_set ?_ GE264.out) | exact HB.out))) : w.heap.size ≤ gb271)); have n5_ := Aside0.mk ((by rw [hg]; exact (below_size (by repeat (first | (with_reducible first | exact HB.out | apply below_alloc | apply pw_below_drewN | apply below_drew1 | refine below_set ?_ GE262.out | refine below_set ?_ GE264.out) | exact HB.out))) : w.heap.size ≤ gb271)); have n6_ := Aside0.mk ((by rw [hg]; exact Nat.ne_of_lt (blk_lt (g := gb262) (o := .cells #[.bool x263000_2, .int .i64 x263001_2, .int .i64 x263002_2, .bool x263003_2] 23 (0, 0)) (by (with_reducible repeat (first | refine b1 ?_ _ | refine b2 ?_ | refine b3 ?_ _)); exact BK262.out)) : gb262 ≠ gb271)); have n7_ := Aside0.mk ((by rw [hg]; exact Nat.ne_of_gt (blk_lt (g := gb262) (o := .cells #[.bool x263000_2, .int .i64 x263001_2, .int .i64 x263002_2, .bool x263003_2] 23 (0, 0)) (by (with_reducible repeat (first | refine b1 ?_ _ | refine b2 ?_ | refine b3 ?_ _)); exact BK262.out)) : gb271 ≠ gb262)); have n8_ := Aside0.mk ((by rw [hg]; exact Nat.ne_of_lt (blk_lt (g := gb264) (o := .cells #[.int .u8 ((rd_T47 l1 x8_2).f0), .int .u16 ((rd_T47 l1 x8_2).f1), .bool ((rd_T47 l1 x8_2).f2)] 47 (0, 0)) (by (with_reducible repeat (first | refine b1 ?_ _ | refine b2 ?_ | refine b3 ?_ _)); exact BK264.out)) : gb264 ≠ gb271)); have n9_ := Aside0.mk ((by rw [hg]; exact Nat.ne_of_gt (blk_lt (g := gb264) (o := .cells #[.int .u8 ((rd_T47 l1 x8_2).f0), .int .u16 ((rd_T47 l1 x8_2).f1), .bool ((rd_T47 l1 x8_2).f2)] 47 (0, 0)) (by (with_reducible repeat (first | refine b1 ?_ _ | refine b2 ?_ | refine b3 ?_ _)); exact BK264.out)) : gb271 ≠ gb264)); clear BK262; clear BK264; clear HB; have BK262 := n0_; have BK264 := n1_; have HB := n2_; have BK271 := n3_; have GW271 := n4_; have GE271 := n5_; have NB262_271 := n6_; have NB271_262 := n7_; have NB264_271 := n8_; have NB271_264 := n9_; clear n0_ n1_ n2_ n3_ n4_ n5_ n6_ n7_ n8_ n9_; clear hb hbox hg; have hnb45 := NB271_262.out; have hnc45 := NB262_271.out; have hnb46 := NB271_264.out; have hnc46 := NB264_271.out; have hcz47_0 : w44.cell? ⟨gb271, 0, none⟩ = some (.bool false) := (blk_cell BK271.out 0).trans rfl; have hcz47_1 : w44.cell? ⟨gb271, 1, none⟩ = some (.int .i64 0) := (blk_cell BK271.out 1).trans rfl; have hcz47_2 : w44.cell? ⟨gb271, 2, none⟩ = some (.int .i64 0) := (blk_cell BK271.out 2).trans rfl; have hcz47_3 : w44.cell? ⟨gb271, 3, none⟩ = some (.bool false) := (blk_cell BK271.out 3).trans rfl; have hfz47_0 := blk_frozen BK271.out 0; have hfz47_1 := blk_frozen BK271.out 1; have hfz47_2 := blk_frozen BK271.out 2; have hfz47_3 := blk_frozen BK271.out 3; have hcz48_0 : w44.cell? ⟨gb262, 0, none⟩ = some (.bool x263000_2) := (blk_cell BK262.out 0).trans rfl; have hcz48_1 : w44.cell? ⟨gb262, 1, none⟩ = some (.int .i64 x263001_2) := (blk_cell BK262.out 1).trans rfl; have hcz48_2 : w44.cell? ⟨gb262, 2, none⟩ = some (.int .i64 x263002_2) := (blk_cell BK262.out 2).trans rfl; have hcz48_3 : w44.cell? ⟨gb262, 3, none⟩ = some (.bool x263003_2) := (blk_cell BK262.out 3).trans rfl; have hfz48_0 := blk_frozen BK262.out 0; have hfz48_1 := blk_frozen BK262.out 1; have hfz48_2 := blk_frozen BK262.out 2; have hfz48_3 := blk_frozen BK262.out 3) | ((with_reducible refine gate_callee (f := 13) rfl ?_); refine goesL_ (some 67) rfl rfl Try.func13 (by kernel_rfl) rfl #[.agg #[.bool x263000_2, .int .i64 x263001_2, .int .i64 x263002_2, .bool x263003_2], .int .i64 (wrap64 (x6_2 + (wrap64 ((rd_T47 l1 x8_2).f1))))] rfl (by (try simp only [List.map_toArray, List.map_cons, List.map_nil]); first | done | rfl | (simp only [List.length_drop, List.length_take]; rfl)) ?_; (with_reducible refine (breaker_Breaker_Lets.calls x263000_2 x263001_2 x263002_2 x263003_2 (wrap64 (x6_2 + (wrap64 ((rd_T47 l1 x8_2).f1)))) t272 _ A19.out).mono ?_); rintro e w49 ⟨rfl, hb⟩; refine ⟨_, rfl, ?_⟩; have n0_ := Aside0.mk (blk_below (g := gb262) (o := .cells #[.bool x263000_2, .int .i64 x263001_2, .int .i64 x263002_2, .bool x263003_2] 23 (0, 0)) (by (with_reducible repeat (first | refine b1 ?_ _ | refine b2 ?_ | refine b3 ?_ _)); refine blk_far ?_ NB262_271.out _; (with_reducible repeat (first | refine b1 ?_ _ | refine b2 ?_ | refine b3 ?_ _)); refine blk_far ?_ NB262_271.out _; (with_reducible repeat (first | refine b1 ?_ _ | refine b2 ?_ | refine b3 ?_ _)); refine blk_far ?_ NB262_271.out _; (with_reducible repeat (first | refine b1 ?_ _ | refine b2 ?_ | refine b3 ?_ _)); refine blk_far ?_ NB262_271.out _; (with_reducible repeat (first | refine b1 ?_ _ | refine b2 ?_ | refine b3 ?_ _)); exact BK262.out) hb); have n1_ := Aside0.mk (blk_below (g := gb264) (o := .cells #[.int .u8 ((rd_T47 l1 x8_2).f0), .int .u16 ((rd_T47 l1 x8_2).f1), .bool ((rd_T47 l1 x8_2).f2)] 47 (0, 0)) (by (with_reducible repeat (first | refine b1 ?_ _ | refine b2 ?_ | refine b3 ?_ _)); refine blk_far ?_ NB264_271.out _; (with_reducible repeat (first | refine b1 ?_ _ | refine b2 ?_ | refine b3 ?_ _)); refine blk_far ?_ NB264_271.out _; (with_reducible repeat (first | refine b1 ?_ _ | refine b2 ?_ | refine b3 ?_ _)); refine blk_far ?_ NB264_271.out _; (with_reducible repeat (first | refine b1 ?_ _ | refine b2 ?_ | refine b3 ?_ _)); refine blk_far ?_ NB264_271.out _; (with_reducible repeat (first | refine b1 ?_ _ | refine b2 ?_ | refine b3 ?_ _)); exact BK264.out) hb); have n2_ := Aside0.mk (blk_below (g := gb271) (o := .cells #[.bool t265, .int .i64 t266, .int .i64 t267, .bool t268] 23 (0, 0)) (by (with_reducible repeat (first | refine b1 ?_ _ | refine b2 ?_ | refine b3 ?_ _)); refine blk_put (cs := #[.bool t265, .int .i64 t266, .int .i64 t267, .bool false]) ?_ 3 _ rfl; (with_reducible repeat (first | refine b1 ?_ _ | refine b2 ?_ | refine b3 ?_ _)); refine blk_put (cs := #[.bool t265, .int .i64 t266, .int .i64 0, .bool false]) ?_ 2 _ rfl; (with_reducible repeat (first | refine b1 ?_ _ | refine b2 ?_ | refine b3 ?_ _)); refine blk_put (cs := #[.bool t265, .int .i64 0, .int .i64 0, .bool false]) ?_ 1 _ rfl; (with_reducible repeat (first | refine b1 ?_ _ | refine b2 ?_ | refine b3 ?_ _)); refine blk_put (cs := #[.bool false, .int .i64 0, .int .i64 0, .bool false]) ?_ 0 _ rfl; (with_reducible repeat (first | refine b1 ?_ _ | refine b2 ?_ | refine b3 ?_ _)); exact BK271.out) hb); have n3_ := Aside0.mk (below_step (by repeat (first | (with_reducible first | exact HB.out | apply below_alloc | apply pw_below_drewN | apply below_drew1 | refine below_set ?_ GE262.out | refine below_set ?_ GE264.out | refine below_set ?_ GE271.out) | exact HB.out)) hb); clear BK262; clear BK264; clear BK271; clear HB; have BK262 := n0_; have BK264 := n1_; have BK271 := n2_; have HB := n3_; clear n0_ n1_ n2_ n3_; (try clear hb); (try clear hb2); (try clear hk); (try clear hi); have hcz50_0 : w49.cell? ⟨gb271, 0, none⟩ = some (.bool t265) := (blk_cell BK271.out 0).trans rfl; have hcz50_1 : w49.cell? ⟨gb271, 1, none⟩ = some (.int .i64 t266) := (blk_cell BK271.out 1).trans rfl; have hcz50_2 : w49.cell? ⟨gb271, 2, none⟩ = some (.int .i64 t267) := (blk_cell BK271.out 2).trans rfl; have hcz50_3 : w49.cell? ⟨gb271, 3, none⟩ = some (.bool t268) := (blk_cell BK271.out 3).trans rfl; have hfz50_0 := blk_frozen BK271.out 0; have hfz50_1 := blk_frozen BK271.out 1; have hfz50_2 := blk_frozen BK271.out 2; have hfz50_3 := blk_frozen BK271.out 3; have hcz51_0 : w49.cell? ⟨gb262, 0, none⟩ = some (.bool x263000_2) := (blk_cell BK262.out 0).trans rfl; have hcz51_1 : w49.cell? ⟨gb262, 1, none⟩ = some (.int .i64 x263001_2) := (blk_cell BK262.out 1).trans rfl; have hcz51_2 : w49.cell? ⟨gb262, 2, none⟩ = some (.int .i64 x263002_2) := (blk_cell BK262.out 2).trans rfl; have hcz51_3 : w49.cell? ⟨gb262, 3, none⟩ = some (.bool x263003_2) := (blk_cell BK262.out 3).trans rfl; have hfz51_0 := blk_frozen BK262.out 0; have hfz51_1 := blk_frozen BK262.out 1; have hfz51_2 := blk_frozen BK262.out 2; have hfz51_3 := blk_frozen BK262.out 3))
                  go_meet
                  case rel => exact ⟨_, (true), (0), (t265), (t266), (t267), (t268), (by first | rfl | (simp; done) | (simp [*]; done)), (by first | rfl | (simp; done) | (simp [*]; done)), H', ⟨by have := HJ4.out; have := HK2.out; first | omega | exact Nat.le_refl _⟩, ⟨by (with_reducible repeat (first | refine b1 ?_ _ | refine b2 ?_ | refine b3 ?_ _)); refine blk_put (cs := #[.bool t265, .int .i64 t266, .int .i64 t267, .bool x263003_2]) ?_ 3 _ rfl; (with_reducible repeat (first | refine b1 ?_ _ | refine b2 ?_ | refine b3 ?_ _)); refine blk_put (cs := #[.bool t265, .int .i64 t266, .int .i64 x263002_2, .bool x263003_2]) ?_ 2 _ rfl; (with_reducible repeat (first | refine b1 ?_ _ | refine b2 ?_ | refine b3 ?_ _)); refine blk_put (cs := #[.bool t265, .int .i64 x263001_2, .int .i64 x263002_2, .bool x263003_2]) ?_ 1 _ rfl; (with_reducible repeat (first | refine b1 ?_ _ | refine b2 ?_ | refine b3 ?_ _)); refine blk_put (cs := #[.bool x263000_2, .int .i64 x263001_2, .int .i64 x263002_2, .bool x263003_2]) ?_ 0 _ rfl; (with_reducible repeat (first | refine b1 ?_ _ | refine b2 ?_ | refine b3 ?_ _)); exact BK262.out⟩, ⟨by (with_reducible repeat (first | refine b1 ?_ _ | refine b2 ?_ | refine b3 ?_ _)); refine blk_far ?_ NB264_262.out _; (with_reducible repeat (first | refine b1 ?_ _ | refine b2 ?_ | refine b3 ?_ _)); refine blk_far ?_ NB264_262.out _; (with_reducible repeat (first | refine b1 ?_ _ | refine b2 ?_ | refine b3 ?_ _)); refine blk_far ?_ NB264_262.out _; (with_reducible repeat (first | refine b1 ?_ _ | refine b2 ?_ | refine b3 ?_ _)); refine blk_far ?_ NB264_262.out _; (with_reducible repeat (first | refine b1 ?_ _ | refine b2 ?_ | refine b3 ?_ _)); exact BK264.out⟩, ⟨by repeat (first | (with_reducible first | exact HB.out | apply below_alloc | apply pw_below_drewN | apply below_drew1 | refine below_set ?_ GE262.out | refine below_set ?_ GE264.out | refine below_set ?_ GE271.out) | exact HB.out)⟩⟩
            ·
             replace c21 := Bool.eq_false_iff.mpr c21
             subst c21
             have H1 : (if t270 = 0 then ((breaker_Breaker_State.f x263000_2 x263001_2 x263002_2 x263003_2 (wrap64 (x6_2 + (wrap64 ((rd_T47 l1 x8_2).f1))))).bind fun t274 => (if (false != (t274 == 2)) = true then (some false) else (if x7_2 = true then (postilionlaw09_BreakerOne.j2 k2 a0 l1 (wrap64 (x6_2 + (wrap64 ((rd_T47 l1 x8_2).f1)))) true x8_2 0 t265 t266 t267 t268) else (postilionlaw09_BreakerOne.j2 k2 a0 l1 (wrap64 (x6_2 + (wrap64 ((rd_T47 l1 x8_2).f1)))) false x8_2 0 t265 t266 t267 t268)))) else (if (!(t265 == x263000_2) || (!(t266 == x263001_2) || (!(t267 == x263002_2) || (!(t268 == x263003_2))))) = true then (some false) else (if (false != false) = true then (some false) else (if x7_2 = true then (postilionlaw09_BreakerOne.j2 k2 a0 l1 (wrap64 (x6_2 + (wrap64 ((rd_T47 l1 x8_2).f1)))) true x8_2 0 t265 t266 t267 t268) else (postilionlaw09_BreakerOne.j2 k2 a0 l1 (wrap64 (x6_2 + (wrap64 ((rd_T47 l1 x8_2).f1)))) false x8_2 0 t265 t266 t267 t268))))) = some r := by rw [if_neg (show ¬ (false = true) by decide)] at H; exact H
             clear H
             have H := H1
             clear H1
             by_cases c52 : t270 = 0
             ·
              rw [if_pos c52] at H
              have c52b0 : (t270 == 0) = true := beq_iff_eq.mpr c52
              have c52b1 : (t270 != 0) = false := bne_eq_false_iff_eq.mpr c52
              (try simp [c52b0] at c20b0)
              clear c52
              replace H := Option.bind_eq_some_iff.mp H
              obtain ⟨t274, A530, H⟩ := H
              replace H : (if (false != (t274 == 2)) = true then (some false) else (if x7_2 = true then (postilionlaw09_BreakerOne.j2 k2 a0 l1 (wrap64 (x6_2 + (wrap64 ((rd_T47 l1 x8_2).f1)))) true x8_2 0 t265 t266 t267 t268) else (postilionlaw09_BreakerOne.j2 k2 a0 l1 (wrap64 (x6_2 + (wrap64 ((rd_T47 l1 x8_2).f1)))) false x8_2 0 t265 t266 t267 t268))) = some r := H
              have A53 := Aside0.mk A530
              clear A530
              by_cases c54 : (false != (t274 == 2)) = true
              ·
               rw [if_pos c54] at H
               have c54b0 : (false != (t274 == 2)) = true := c54
               (try (have c54b1 : decide (false = (t274 == 2)) = false := by simpa using c54))
               (try (have c54b2 : (false == (t274 == 2)) = false := by simpa using c54))
               (try (have c54b3 : ¬ (false = (t274 == 2)) := by simpa using c54))
               clear c54
               as_aux_lemma =>
                exact absurd ((Option.some.inj H).trans hT.out) (by decide)
              ·
               rw [if_neg c54] at H
               have c54b0 : (false != (t274 == 2)) = false := by simpa using c54
               (try (have c54b1 : decide (false = (t274 == 2)) = true := by simpa using c54))
               (try (have c54b2 : (false == (t274 == 2)) = true := by simpa using c54))
               clear c54
               by_cases c55 : x7_2 = true
               ·
                subst c55
                have H1 : (postilionlaw09_BreakerOne.j2 k2 a0 l1 (wrap64 (x6_2 + (wrap64 ((rd_T47 l1 x8_2).f1)))) true x8_2 0 t265 t266 t267 t268) = some r := by rw [if_pos rfl] at H; exact H
                clear H
                have H := H1
                clear H1
                as_aux_lemma =>
                 have H' := Aside0.mk H
                 clear H
                 have hnb56 := NB262_264.out
                 have hnc56 := NB264_262.out
                 have hcz57_0 : w14.cell? ⟨gb262, 0, none⟩ = some (.bool x263000_2) := (blk_cell BK262.out 0).trans rfl
                 have hcz57_1 : w14.cell? ⟨gb262, 1, none⟩ = some (.int .i64 x263001_2) := (blk_cell BK262.out 1).trans rfl
                 have hcz57_2 : w14.cell? ⟨gb262, 2, none⟩ = some (.int .i64 x263002_2) := (blk_cell BK262.out 2).trans rfl
                 have hcz57_3 : w14.cell? ⟨gb262, 3, none⟩ = some (.bool x263003_2) := (blk_cell BK262.out 3).trans rfl
                 have hfz57_0 := blk_frozen BK262.out 0
                 have hfz57_1 := blk_frozen BK262.out 1
                 have hfz57_2 := blk_frozen BK262.out 2
                 have hfz57_3 := blk_frozen BK262.out 3
                 go_wp2_with (first | ((with_reducible refine gate_callee (f := 7) rfl ?_); refine goesL_ (some 59) rfl rfl Try.func7 (by kernel_rfl) rfl #[.agg #[.bool x263000_2, .int .i64 x263001_2, .int .i64 x263002_2, .bool x263003_2], .int .i64 (wrap64 (x6_2 + (wrap64 ((rd_T47 l1 x8_2).f1))))] rfl (by (try simp only [List.map_toArray, List.map_cons, List.map_nil]); first | done | rfl | (simp only [List.length_drop, List.length_take]; rfl)) ?_; (with_reducible refine (breaker_Breaker_Try.calls x263000_2 x263001_2 x263002_2 x263003_2 (wrap64 (x6_2 + (wrap64 ((rd_T47 l1 x8_2).f1)))) t265 t266 t267 t268 false t270 _ A18.out).mono ?_); rintro e w58 ⟨rfl, hb⟩; refine ⟨_, rfl, ?_⟩; have n0_ := Aside0.mk (blk_below (g := gb262) (o := .cells #[.bool x263000_2, .int .i64 x263001_2, .int .i64 x263002_2, .bool x263003_2] 23 (0, 0)) (by (with_reducible repeat (first | refine b1 ?_ _ | refine b2 ?_ | refine b3 ?_ _)); refine blk_far ?_ NB262_264.out _; (with_reducible repeat (first | refine b1 ?_ _ | refine b2 ?_ | refine b3 ?_ _)); refine blk_far ?_ NB262_264.out _; (with_reducible repeat (first | refine b1 ?_ _ | refine b2 ?_ | refine b3 ?_ _)); refine blk_far ?_ NB262_264.out _; (with_reducible repeat (first | refine b1 ?_ _ | refine b2 ?_ | refine b3 ?_ _)); exact BK262.out) hb); have n1_ := Aside0.mk (blk_below (g := gb264) (o := .cells #[.int .u8 ((rd_T47 l1 x8_2).f0), .int .u16 ((rd_T47 l1 x8_2).f1), .bool ((rd_T47 l1 x8_2).f2)] 47 (0, 0)) (by (with_reducible repeat (first | refine b1 ?_ _ | refine b2 ?_ | refine b3 ?_ _)); refine blk_put (cs := #[.int .u8 ((rd_T47 l1 x8_2).f0), .int .u16 ((rd_T47 l1 x8_2).f1), .bool false]) ?_ 2 _ rfl; (with_reducible repeat (first | refine b1 ?_ _ | refine b2 ?_ | refine b3 ?_ _)); refine blk_put (cs := #[.int .u8 ((rd_T47 l1 x8_2).f0), .int .u16 0, .bool false]) ?_ 1 _ rfl; (with_reducible repeat (first | refine b1 ?_ _ | refine b2 ?_ | refine b3 ?_ _)); refine blk_put (cs := #[.int .u8 0, .int .u16 0, .bool false]) ?_ 0 _ rfl; (with_reducible repeat (first | refine b1 ?_ _ | refine b2 ?_ | refine b3 ?_ _)); exact BK264.out) hb); have n2_ := Aside0.mk (below_step (by repeat (first | (with_reducible first | exact HB.out | apply below_alloc | apply pw_below_drewN | apply below_drew1 | refine below_set ?_ GE262.out | refine below_set ?_ GE264.out) | exact HB.out)) hb); clear BK262; clear BK264; clear HB; have BK262 := n0_; have BK264 := n1_; have HB := n2_; clear n0_ n1_ n2_; (try clear hb); (try clear hb2); (try clear hk); (try clear hi)) | ((with_reducible refine gate_dst (N := 11) rfl ?_); (try (refine gate_guard (by rfl) ?_; dsimp only)); refine box_event ?hg (N := 11) ?hd (cs := #[.bool false, .int .i64 0, .int .i64 0, .bool false]) (t := 23) ?hr ?_; (case hd => rfl); (case hg => rfl); (case hr => first | (go_simp; done) | (go_simp; rfl)); intro gb271 hg w59 hbox hb; have n0_ := Aside0.mk (blk_below (g := gb262) (o := .cells #[.bool x263000_2, .int .i64 x263001_2, .int .i64 x263002_2, .bool x263003_2] 23 (0, 0)) (by (with_reducible repeat (first | refine b1 ?_ _ | refine b2 ?_ | refine b3 ?_ _)); exact BK262.out) hb); have n1_ := Aside0.mk (blk_below (g := gb264) (o := .cells #[.int .u8 ((rd_T47 l1 x8_2).f0), .int .u16 ((rd_T47 l1 x8_2).f1), .bool ((rd_T47 l1 x8_2).f2)] 47 (0, 0)) (by (with_reducible repeat (first | refine b1 ?_ _ | refine b2 ?_ | refine b3 ?_ _)); exact BK264.out) hb); have n2_ := Aside0.mk (below_step (by repeat (first | (with_reducible first | exact HB.out | apply below_alloc | apply pw_below_drewN | apply below_drew1 | refine below_set ?_ GE262.out | refine below_set ?_ GE264.out) | exact HB.out)) hb); have n3_ := Aside0.mk (hbox); have n4_ := Aside0.mk ((by rw [hg]; exact (below_size (by repeat (first | (with_reducible first | exact HB.out | apply below_alloc | apply pw_below_drewN | apply below_drew1 | refine below_set ?_ GE262.out | refine below_set ?_ GE264.out) | exact HB.out))) : w.heap.size ≤ gb271)); have n5_ := Aside0.mk ((by rw [hg]; exact (below_size (by repeat (first | (with_reducible first | exact HB.out | apply below_alloc | apply pw_below_drewN | apply below_drew1 | refine below_set ?_ GE262.out | refine below_set ?_ GE264.out) | exact HB.out))) : w.heap.size ≤ gb271)); have n6_ := Aside0.mk ((by rw [hg]; exact Nat.ne_of_lt (blk_lt (g := gb262) (o := .cells #[.bool x263000_2, .int .i64 x263001_2, .int .i64 x263002_2, .bool x263003_2] 23 (0, 0)) (by (with_reducible repeat (first | refine b1 ?_ _ | refine b2 ?_ | refine b3 ?_ _)); exact BK262.out)) : gb262 ≠ gb271)); have n7_ := Aside0.mk ((by rw [hg]; exact Nat.ne_of_gt (blk_lt (g := gb262) (o := .cells #[.bool x263000_2, .int .i64 x263001_2, .int .i64 x263002_2, .bool x263003_2] 23 (0, 0)) (by (with_reducible repeat (first | refine b1 ?_ _ | refine b2 ?_ | refine b3 ?_ _)); exact BK262.out)) : gb271 ≠ gb262)); have n8_ := Aside0.mk ((by rw [hg]; exact Nat.ne_of_lt (blk_lt (g := gb264) (o := .cells #[.int .u8 ((rd_T47 l1 x8_2).f0), .int .u16 ((rd_T47 l1 x8_2).f1), .bool ((rd_T47 l1 x8_2).f2)] 47 (0, 0)) (by (with_reducible repeat (first | refine b1 ?_ _ | refine b2 ?_ | refine b3 ?_ _)); exact BK264.out)) : gb264 ≠ gb271)); have n9_ := Aside0.mk ((by rw [hg]; exact Nat.ne_of_gt (blk_lt (g := gb264) (o := .cells #[.int .u8 ((rd_T47 l1 x8_2).f0), .int .u16 ((rd_T47 l1 x8_2).f1), .bool ((rd_T47 l1 x8_2).f2)] 47 (0, 0)) (by (with_reducible repeat (first | refine b1 ?_ _ | refine b2 ?_ | refine b3 ?_ _)); exact BK264.out)) : gb271 ≠ gb264)); clear BK262; clear BK264; clear HB; have BK262 := n0_; have BK264 := n1_; have HB := n2_; have BK271 := n3_; have GW271 := n4_; have GE271 := n5_; have NB262_271 := n6_; have NB271_262 := n7_; have NB264_271 := n8_; have NB271_264 := n9_; clear n0_ n1_ n2_ n3_ n4_ n5_ n6_ n7_ n8_ n9_; clear hb hbox hg; have hnb60 := NB271_262.out; have hnc60 := NB262_271.out; have hnb61 := NB271_264.out; have hnc61 := NB264_271.out; have hcz62_0 : w59.cell? ⟨gb271, 0, none⟩ = some (.bool false) := (blk_cell BK271.out 0).trans rfl; have hcz62_1 : w59.cell? ⟨gb271, 1, none⟩ = some (.int .i64 0) := (blk_cell BK271.out 1).trans rfl; have hcz62_2 : w59.cell? ⟨gb271, 2, none⟩ = some (.int .i64 0) := (blk_cell BK271.out 2).trans rfl; have hcz62_3 : w59.cell? ⟨gb271, 3, none⟩ = some (.bool false) := (blk_cell BK271.out 3).trans rfl; have hfz62_0 := blk_frozen BK271.out 0; have hfz62_1 := blk_frozen BK271.out 1; have hfz62_2 := blk_frozen BK271.out 2; have hfz62_3 := blk_frozen BK271.out 3; have hcz63_0 : w59.cell? ⟨gb262, 0, none⟩ = some (.bool x263000_2) := (blk_cell BK262.out 0).trans rfl; have hcz63_1 : w59.cell? ⟨gb262, 1, none⟩ = some (.int .i64 x263001_2) := (blk_cell BK262.out 1).trans rfl; have hcz63_2 : w59.cell? ⟨gb262, 2, none⟩ = some (.int .i64 x263002_2) := (blk_cell BK262.out 2).trans rfl; have hcz63_3 : w59.cell? ⟨gb262, 3, none⟩ = some (.bool x263003_2) := (blk_cell BK262.out 3).trans rfl; have hfz63_0 := blk_frozen BK262.out 0; have hfz63_1 := blk_frozen BK262.out 1; have hfz63_2 := blk_frozen BK262.out 2; have hfz63_3 := blk_frozen BK262.out 3) | ((with_reducible refine gate_callee (f := 13) rfl ?_); refine goesL_ (some 67) rfl rfl Try.func13 (by kernel_rfl) rfl #[.agg #[.bool x263000_2, .int .i64 x263001_2, .int .i64 x263002_2, .bool x263003_2], .int .i64 (wrap64 (x6_2 + (wrap64 ((rd_T47 l1 x8_2).f1))))] rfl (by (try simp only [List.map_toArray, List.map_cons, List.map_nil]); first | done | rfl | (simp only [List.length_drop, List.length_take]; rfl)) ?_; (with_reducible refine (breaker_Breaker_Lets.calls x263000_2 x263001_2 x263002_2 x263003_2 (wrap64 (x6_2 + (wrap64 ((rd_T47 l1 x8_2).f1)))) t272 _ A19.out).mono ?_); rintro e w64 ⟨rfl, hb⟩; refine ⟨_, rfl, ?_⟩; have n0_ := Aside0.mk (blk_below (g := gb262) (o := .cells #[.bool x263000_2, .int .i64 x263001_2, .int .i64 x263002_2, .bool x263003_2] 23 (0, 0)) (by (with_reducible repeat (first | refine b1 ?_ _ | refine b2 ?_ | refine b3 ?_ _)); refine blk_far ?_ NB262_271.out _; (with_reducible repeat (first | refine b1 ?_ _ | refine b2 ?_ | refine b3 ?_ _)); refine blk_far ?_ NB262_271.out _; (with_reducible repeat (first | refine b1 ?_ _ | refine b2 ?_ | refine b3 ?_ _)); refine blk_far ?_ NB262_271.out _; (with_reducible repeat (first | refine b1 ?_ _ | refine b2 ?_ | refine b3 ?_ _)); refine blk_far ?_ NB262_271.out _; (with_reducible repeat (first | refine b1 ?_ _ | refine b2 ?_ | refine b3 ?_ _)); exact BK262.out) hb); have n1_ := Aside0.mk (blk_below (g := gb264) (o := .cells #[.int .u8 ((rd_T47 l1 x8_2).f0), .int .u16 ((rd_T47 l1 x8_2).f1), .bool ((rd_T47 l1 x8_2).f2)] 47 (0, 0)) (by (with_reducible repeat (first | refine b1 ?_ _ | refine b2 ?_ | refine b3 ?_ _)); refine blk_far ?_ NB264_271.out _; (with_reducible repeat (first | refine b1 ?_ _ | refine b2 ?_ | refine b3 ?_ _)); refine blk_far ?_ NB264_271.out _; (with_reducible repeat (first | refine b1 ?_ _ | refine b2 ?_ | refine b3 ?_ _)); refine blk_far ?_ NB264_271.out _; (with_reducible repeat (first | refine b1 ?_ _ | refine b2 ?_ | refine b3 ?_ _)); refine blk_far ?_ NB264_271.out _; (with_reducible repeat (first | refine b1 ?_ _ | refine b2 ?_ | refine b3 ?_ _)); exact BK264.out) hb); have n2_ := Aside0.mk (blk_below (g := gb271) (o := .cells #[.bool t265, .int .i64 t266, .int .i64 t267, .bool t268] 23 (0, 0)) (by (with_reducible repeat (first | refine b1 ?_ _ | refine b2 ?_ | refine b3 ?_ _)); refine blk_put (cs := #[.bool t265, .int .i64 t266, .int .i64 t267, .bool false]) ?_ 3 _ rfl; (with_reducible repeat (first | refine b1 ?_ _ | refine b2 ?_ | refine b3 ?_ _)); refine blk_put (cs := #[.bool t265, .int .i64 t266, .int .i64 0, .bool false]) ?_ 2 _ rfl; (with_reducible repeat (first | refine b1 ?_ _ | refine b2 ?_ | refine b3 ?_ _)); refine blk_put (cs := #[.bool t265, .int .i64 0, .int .i64 0, .bool false]) ?_ 1 _ rfl; (with_reducible repeat (first | refine b1 ?_ _ | refine b2 ?_ | refine b3 ?_ _)); refine blk_put (cs := #[.bool false, .int .i64 0, .int .i64 0, .bool false]) ?_ 0 _ rfl; (with_reducible repeat (first | refine b1 ?_ _ | refine b2 ?_ | refine b3 ?_ _)); exact BK271.out) hb); have n3_ := Aside0.mk (below_step (by repeat (first | (with_reducible first | exact HB.out | apply below_alloc | apply pw_below_drewN | apply below_drew1 | refine below_set ?_ GE262.out | refine below_set ?_ GE264.out | refine below_set ?_ GE271.out) | exact HB.out)) hb); clear BK262; clear BK264; clear BK271; clear HB; have BK262 := n0_; have BK264 := n1_; have BK271 := n2_; have HB := n3_; clear n0_ n1_ n2_ n3_; (try clear hb); (try clear hb2); (try clear hk); (try clear hi); have hcz65_0 : w64.cell? ⟨gb262, 0, none⟩ = some (.bool x263000_2) := (blk_cell BK262.out 0).trans rfl; have hcz65_1 : w64.cell? ⟨gb262, 1, none⟩ = some (.int .i64 x263001_2) := (blk_cell BK262.out 1).trans rfl; have hcz65_2 : w64.cell? ⟨gb262, 2, none⟩ = some (.int .i64 x263002_2) := (blk_cell BK262.out 2).trans rfl; have hcz65_3 : w64.cell? ⟨gb262, 3, none⟩ = some (.bool x263003_2) := (blk_cell BK262.out 3).trans rfl; have hfz65_0 := blk_frozen BK262.out 0; have hfz65_1 := blk_frozen BK262.out 1; have hfz65_2 := blk_frozen BK262.out 2; have hfz65_3 := blk_frozen BK262.out 3) | (go_at_call 11; (with_reducible refine (breaker_Breaker_State.calls x263000_2 x263001_2 x263002_2 x263003_2 (wrap64 (x6_2 + (wrap64 ((rd_T47 l1 x8_2).f1)))) t274 _ A53.out).mono ?_); rintro e w66 ⟨rfl, hb⟩; have n0_ := Aside0.mk (blk_below (g := gb262) (o := .cells #[.bool x263000_2, .int .i64 x263001_2, .int .i64 x263002_2, .bool x263003_2] 23 (0, 0)) (by (with_reducible repeat (first | refine b1 ?_ _ | refine b2 ?_ | refine b3 ?_ _)); exact BK262.out) hb); have n1_ := Aside0.mk (blk_below (g := gb264) (o := .cells #[.int .u8 ((rd_T47 l1 x8_2).f0), .int .u16 ((rd_T47 l1 x8_2).f1), .bool ((rd_T47 l1 x8_2).f2)] 47 (0, 0)) (by (with_reducible repeat (first | refine b1 ?_ _ | refine b2 ?_ | refine b3 ?_ _)); exact BK264.out) hb); have n2_ := Aside0.mk (blk_below (g := gb271) (o := .cells #[.bool t265, .int .i64 t266, .int .i64 t267, .bool t268] 23 (0, 0)) (by (with_reducible repeat (first | refine b1 ?_ _ | refine b2 ?_ | refine b3 ?_ _)); exact BK271.out) hb); have n3_ := Aside0.mk (below_step (by repeat (first | (with_reducible first | exact HB.out | apply below_alloc | apply pw_below_drewN | apply below_drew1 | refine below_set ?_ GE262.out | refine below_set ?_ GE264.out | refine below_set ?_ GE271.out) | exact HB.out)) hb); clear BK262; clear BK264; clear BK271; clear HB; have BK262 := n0_; have BK264 := n1_; have BK271 := n2_; have HB := n3_; clear n0_ n1_ n2_ n3_; (try clear hb); (try clear hb2); (try clear hk); (try clear hi); have hcz67_0 : w66.cell? ⟨gb271, 0, none⟩ = some (.bool t265) := (blk_cell BK271.out 0).trans rfl; have hcz67_1 : w66.cell? ⟨gb271, 1, none⟩ = some (.int .i64 t266) := (blk_cell BK271.out 1).trans rfl; have hcz67_2 : w66.cell? ⟨gb271, 2, none⟩ = some (.int .i64 t267) := (blk_cell BK271.out 2).trans rfl; have hcz67_3 : w66.cell? ⟨gb271, 3, none⟩ = some (.bool t268) := (blk_cell BK271.out 3).trans rfl; have hfz67_0 := blk_frozen BK271.out 0; have hfz67_1 := blk_frozen BK271.out 1; have hfz67_2 := blk_frozen BK271.out 2; have hfz67_3 := blk_frozen BK271.out 3; have hcz68_0 : w66.cell? ⟨gb262, 0, none⟩ = some (.bool x263000_2) := (blk_cell BK262.out 0).trans rfl; have hcz68_1 : w66.cell? ⟨gb262, 1, none⟩ = some (.int .i64 x263001_2) := (blk_cell BK262.out 1).trans rfl; have hcz68_2 : w66.cell? ⟨gb262, 2, none⟩ = some (.int .i64 x263002_2) := (blk_cell BK262.out 2).trans rfl; have hcz68_3 : w66.cell? ⟨gb262, 3, none⟩ = some (.bool x263003_2) := (blk_cell BK262.out 3).trans rfl; have hfz68_0 := blk_frozen BK262.out 0; have hfz68_1 := blk_frozen BK262.out 1; have hfz68_2 := blk_frozen BK262.out 2; have hfz68_3 := blk_frozen BK262.out 3))
                 go_meet
                 case rel => exact ⟨_, (true), (0), (t265), (t266), (t267), (t268), (by first | rfl | (simp; done) | (simp [*]; done)), (by first | rfl | (simp; done) | (simp [*]; done)), H', ⟨by have := HJ4.out; have := HK2.out; first | omega | exact Nat.le_refl _⟩, ⟨by (with_reducible repeat (first | refine b1 ?_ _ | refine b2 ?_ | refine b3 ?_ _)); refine blk_put (cs := #[.bool t265, .int .i64 t266, .int .i64 t267, .bool x263003_2]) ?_ 3 _ rfl; (with_reducible repeat (first | refine b1 ?_ _ | refine b2 ?_ | refine b3 ?_ _)); refine blk_put (cs := #[.bool t265, .int .i64 t266, .int .i64 x263002_2, .bool x263003_2]) ?_ 2 _ rfl; (with_reducible repeat (first | refine b1 ?_ _ | refine b2 ?_ | refine b3 ?_ _)); refine blk_put (cs := #[.bool t265, .int .i64 x263001_2, .int .i64 x263002_2, .bool x263003_2]) ?_ 1 _ rfl; (with_reducible repeat (first | refine b1 ?_ _ | refine b2 ?_ | refine b3 ?_ _)); refine blk_put (cs := #[.bool x263000_2, .int .i64 x263001_2, .int .i64 x263002_2, .bool x263003_2]) ?_ 0 _ rfl; (with_reducible repeat (first | refine b1 ?_ _ | refine b2 ?_ | refine b3 ?_ _)); exact BK262.out⟩, ⟨by (with_reducible repeat (first | refine b1 ?_ _ | refine b2 ?_ | refine b3 ?_ _)); refine blk_far ?_ NB264_262.out _; (with_reducible repeat (first | refine b1 ?_ _ | refine b2 ?_ | refine b3 ?_ _)); refine blk_far ?_ NB264_262.out _; (with_reducible repeat (first | refine b1 ?_ _ | refine b2 ?_ | refine b3 ?_ _)); refine blk_far ?_ NB264_262.out _; (with_reducible repeat (first | refine b1 ?_ _ | refine b2 ?_ | refine b3 ?_ _)); refine blk_far ?_ NB264_262.out _; (with_reducible repeat (first | refine b1 ?_ _ | refine b2 ?_ | refine b3 ?_ _)); exact BK264.out⟩, ⟨by repeat (first | (with_reducible first | exact HB.out | apply below_alloc | apply pw_below_drewN | apply below_drew1 | refine below_set ?_ GE262.out | refine below_set ?_ GE264.out | refine below_set ?_ GE271.out) | exact HB.out)⟩⟩
               ·
                replace c55 := Bool.eq_false_iff.mpr c55
                subst c55
                have H1 : (postilionlaw09_BreakerOne.j2 k2 a0 l1 (wrap64 (x6_2 + (wrap64 ((rd_T47 l1 x8_2).f1)))) false x8_2 0 t265 t266 t267 t268) = some r := by rw [if_neg (show ¬ (false = true) by decide)] at H; exact H
                clear H
                have H := H1
                clear H1
                as_aux_lemma =>
                 have H' := Aside0.mk H
                 clear H
                 have hnb69 := NB262_264.out
                 have hnc69 := NB264_262.out
                 have hcz70_0 : w14.cell? ⟨gb262, 0, none⟩ = some (.bool x263000_2) := (blk_cell BK262.out 0).trans rfl
                 have hcz70_1 : w14.cell? ⟨gb262, 1, none⟩ = some (.int .i64 x263001_2) := (blk_cell BK262.out 1).trans rfl
                 have hcz70_2 : w14.cell? ⟨gb262, 2, none⟩ = some (.int .i64 x263002_2) := (blk_cell BK262.out 2).trans rfl
                 have hcz70_3 : w14.cell? ⟨gb262, 3, none⟩ = some (.bool x263003_2) := (blk_cell BK262.out 3).trans rfl
                 have hfz70_0 := blk_frozen BK262.out 0
                 have hfz70_1 := blk_frozen BK262.out 1
                 have hfz70_2 := blk_frozen BK262.out 2
                 have hfz70_3 := blk_frozen BK262.out 3
                 go_wp2_with (first | ((with_reducible refine gate_callee (f := 7) rfl ?_); refine goesL_ (some 59) rfl rfl Try.func7 (by kernel_rfl) rfl #[.agg #[.bool x263000_2, .int .i64 x263001_2, .int .i64 x263002_2, .bool x263003_2], .int .i64 (wrap64 (x6_2 + (wrap64 ((rd_T47 l1 x8_2).f1))))] rfl (by (try simp only [List.map_toArray, List.map_cons, List.map_nil]); first | done | rfl | (simp only [List.length_drop, List.length_take]; rfl)) ?_; (with_reducible refine (breaker_Breaker_Try.calls x263000_2 x263001_2 x263002_2 x263003_2 (wrap64 (x6_2 + (wrap64 ((rd_T47 l1 x8_2).f1)))) t265 t266 t267 t268 false t270 _ A18.out).mono ?_); rintro e w71 ⟨rfl, hb⟩; refine ⟨_, rfl, ?_⟩; have n0_ := Aside0.mk (blk_below (g := gb262) (o := .cells #[.bool x263000_2, .int .i64 x263001_2, .int .i64 x263002_2, .bool x263003_2] 23 (0, 0)) (by (with_reducible repeat (first | refine b1 ?_ _ | refine b2 ?_ | refine b3 ?_ _)); refine blk_far ?_ NB262_264.out _; (with_reducible repeat (first | refine b1 ?_ _ | refine b2 ?_ | refine b3 ?_ _)); refine blk_far ?_ NB262_264.out _; (with_reducible repeat (first | refine b1 ?_ _ | refine b2 ?_ | refine b3 ?_ _)); refine blk_far ?_ NB262_264.out _; (with_reducible repeat (first | refine b1 ?_ _ | refine b2 ?_ | refine b3 ?_ _)); exact BK262.out) hb); have n1_ := Aside0.mk (blk_below (g := gb264) (o := .cells #[.int .u8 ((rd_T47 l1 x8_2).f0), .int .u16 ((rd_T47 l1 x8_2).f1), .bool ((rd_T47 l1 x8_2).f2)] 47 (0, 0)) (by (with_reducible repeat (first | refine b1 ?_ _ | refine b2 ?_ | refine b3 ?_ _)); refine blk_put (cs := #[.int .u8 ((rd_T47 l1 x8_2).f0), .int .u16 ((rd_T47 l1 x8_2).f1), .bool false]) ?_ 2 _ rfl; (with_reducible repeat (first | refine b1 ?_ _ | refine b2 ?_ | refine b3 ?_ _)); refine blk_put (cs := #[.int .u8 ((rd_T47 l1 x8_2).f0), .int .u16 0, .bool false]) ?_ 1 _ rfl; (with_reducible repeat (first | refine b1 ?_ _ | refine b2 ?_ | refine b3 ?_ _)); refine blk_put (cs := #[.int .u8 0, .int .u16 0, .bool false]) ?_ 0 _ rfl; (with_reducible repeat (first | refine b1 ?_ _ | refine b2 ?_ | refine b3 ?_ _)); exact BK264.out) hb); have n2_ := Aside0.mk (below_step (by repeat (first | (with_reducible first | exact HB.out | apply below_alloc | apply pw_below_drewN | apply below_drew1 | refine below_set ?_ GE262.out | refine below_set ?_ GE264.out) | exact HB.out)) hb); clear BK262; clear BK264; clear HB; have BK262 := n0_; have BK264 := n1_; have HB := n2_; clear n0_ n1_ n2_; (try clear hb); (try clear hb2); (try clear hk); (try clear hi)) | ((with_reducible refine gate_dst (N := 11) rfl ?_); (try (refine gate_guard (by rfl) ?_; dsimp only)); refine box_event ?hg (N := 11) ?hd (cs := #[.bool false, .int .i64 0, .int .i64 0, .bool false]) (t := 23) ?hr ?_; (case hd => rfl); (case hg => rfl); (case hr => first | (go_simp; done) | (go_simp; rfl)); intro gb271 hg w72 hbox hb; have n0_ := Aside0.mk (blk_below (g := gb262) (o := .cells #[.bool x263000_2, .int .i64 x263001_2, .int .i64 x263002_2, .bool x263003_2] 23 (0, 0)) (by (with_reducible repeat (first | refine b1 ?_ _ | refine b2 ?_ | refine b3 ?_ _)); exact BK262.out) hb); have n1_ := Aside0.mk (blk_below (g := gb264) (o := .cells #[.int .u8 ((rd_T47 l1 x8_2).f0), .int .u16 ((rd_T47 l1 x8_2).f1), .bool ((rd_T47 l1 x8_2).f2)] 47 (0, 0)) (by (with_reducible repeat (first | refine b1 ?_ _ | refine b2 ?_ | refine b3 ?_ _)); exact BK264.out) hb); have n2_ := Aside0.mk (below_step (by repeat (first | (with_reducible first | exact HB.out | apply below_alloc | apply pw_below_drewN | apply below_drew1 | refine below_set ?_ GE262.out | refine below_set ?_ GE264.out) | exact HB.out)) hb); have n3_ := Aside0.mk (hbox); have n4_ := Aside0.mk ((by rw [hg]; exact (below_size (by repeat (first | (with_reducible first | exact HB.out | apply below_alloc | apply pw_below_drewN | apply below_drew1 | refine below_set ?_ GE262.out | refine below_set ?_ GE264.out) | exact HB.out))) : w.heap.size ≤ gb271)); have n5_ := Aside0.mk ((by rw [hg]; exact (below_size (by repeat (first | (with_reducible first | exact HB.out | apply below_alloc | apply pw_below_drewN | apply below_drew1 | refine below_set ?_ GE262.out | refine below_set ?_ GE264.out) | exact HB.out))) : w.heap.size ≤ gb271)); have n6_ := Aside0.mk ((by rw [hg]; exact Nat.ne_of_lt (blk_lt (g := gb262) (o := .cells #[.bool x263000_2, .int .i64 x263001_2, .int .i64 x263002_2, .bool x263003_2] 23 (0, 0)) (by (with_reducible repeat (first | refine b1 ?_ _ | refine b2 ?_ | refine b3 ?_ _)); exact BK262.out)) : gb262 ≠ gb271)); have n7_ := Aside0.mk ((by rw [hg]; exact Nat.ne_of_gt (blk_lt (g := gb262) (o := .cells #[.bool x263000_2, .int .i64 x263001_2, .int .i64 x263002_2, .bool x263003_2] 23 (0, 0)) (by (with_reducible repeat (first | refine b1 ?_ _ | refine b2 ?_ | refine b3 ?_ _)); exact BK262.out)) : gb271 ≠ gb262)); have n8_ := Aside0.mk ((by rw [hg]; exact Nat.ne_of_lt (blk_lt (g := gb264) (o := .cells #[.int .u8 ((rd_T47 l1 x8_2).f0), .int .u16 ((rd_T47 l1 x8_2).f1), .bool ((rd_T47 l1 x8_2).f2)] 47 (0, 0)) (by (with_reducible repeat (first | refine b1 ?_ _ | refine b2 ?_ | refine b3 ?_ _)); exact BK264.out)) : gb264 ≠ gb271)); have n9_ := Aside0.mk ((by rw [hg]; exact Nat.ne_of_gt (blk_lt (g := gb264) (o := .cells #[.int .u8 ((rd_T47 l1 x8_2).f0), .int .u16 ((rd_T47 l1 x8_2).f1), .bool ((rd_T47 l1 x8_2).f2)] 47 (0, 0)) (by (with_reducible repeat (first | refine b1 ?_ _ | refine b2 ?_ | refine b3 ?_ _)); exact BK264.out)) : gb271 ≠ gb264)); clear BK262; clear BK264; clear HB; have BK262 := n0_; have BK264 := n1_; have HB := n2_; have BK271 := n3_; have GW271 := n4_; have GE271 := n5_; have NB262_271 := n6_; have NB271_262 := n7_; have NB264_271 := n8_; have NB271_264 := n9_; clear n0_ n1_ n2_ n3_ n4_ n5_ n6_ n7_ n8_ n9_; clear hb hbox hg; have hnb73 := NB271_262.out; have hnc73 := NB262_271.out; have hnb74 := NB271_264.out; have hnc74 := NB264_271.out; have hcz75_0 : w72.cell? ⟨gb271, 0, none⟩ = some (.bool false) := (blk_cell BK271.out 0).trans rfl; have hcz75_1 : w72.cell? ⟨gb271, 1, none⟩ = some (.int .i64 0) := (blk_cell BK271.out 1).trans rfl; have hcz75_2 : w72.cell? ⟨gb271, 2, none⟩ = some (.int .i64 0) := (blk_cell BK271.out 2).trans rfl; have hcz75_3 : w72.cell? ⟨gb271, 3, none⟩ = some (.bool false) := (blk_cell BK271.out 3).trans rfl; have hfz75_0 := blk_frozen BK271.out 0; have hfz75_1 := blk_frozen BK271.out 1; have hfz75_2 := blk_frozen BK271.out 2; have hfz75_3 := blk_frozen BK271.out 3; have hcz76_0 : w72.cell? ⟨gb262, 0, none⟩ = some (.bool x263000_2) := (blk_cell BK262.out 0).trans rfl; have hcz76_1 : w72.cell? ⟨gb262, 1, none⟩ = some (.int .i64 x263001_2) := (blk_cell BK262.out 1).trans rfl; have hcz76_2 : w72.cell? ⟨gb262, 2, none⟩ = some (.int .i64 x263002_2) := (blk_cell BK262.out 2).trans rfl; have hcz76_3 : w72.cell? ⟨gb262, 3, none⟩ = some (.bool x263003_2) := (blk_cell BK262.out 3).trans rfl; have hfz76_0 := blk_frozen BK262.out 0; have hfz76_1 := blk_frozen BK262.out 1; have hfz76_2 := blk_frozen BK262.out 2; have hfz76_3 := blk_frozen BK262.out 3) | ((with_reducible refine gate_callee (f := 13) rfl ?_); refine goesL_ (some 67) rfl rfl Try.func13 (by kernel_rfl) rfl #[.agg #[.bool x263000_2, .int .i64 x263001_2, .int .i64 x263002_2, .bool x263003_2], .int .i64 (wrap64 (x6_2 + (wrap64 ((rd_T47 l1 x8_2).f1))))] rfl (by (try simp only [List.map_toArray, List.map_cons, List.map_nil]); first | done | rfl | (simp only [List.length_drop, List.length_take]; rfl)) ?_; (with_reducible refine (breaker_Breaker_Lets.calls x263000_2 x263001_2 x263002_2 x263003_2 (wrap64 (x6_2 + (wrap64 ((rd_T47 l1 x8_2).f1)))) t272 _ A19.out).mono ?_); rintro e w77 ⟨rfl, hb⟩; refine ⟨_, rfl, ?_⟩; have n0_ := Aside0.mk (blk_below (g := gb262) (o := .cells #[.bool x263000_2, .int .i64 x263001_2, .int .i64 x263002_2, .bool x263003_2] 23 (0, 0)) (by (with_reducible repeat (first | refine b1 ?_ _ | refine b2 ?_ | refine b3 ?_ _)); refine blk_far ?_ NB262_271.out _; (with_reducible repeat (first | refine b1 ?_ _ | refine b2 ?_ | refine b3 ?_ _)); refine blk_far ?_ NB262_271.out _; (with_reducible repeat (first | refine b1 ?_ _ | refine b2 ?_ | refine b3 ?_ _)); refine blk_far ?_ NB262_271.out _; (with_reducible repeat (first | refine b1 ?_ _ | refine b2 ?_ | refine b3 ?_ _)); refine blk_far ?_ NB262_271.out _; (with_reducible repeat (first | refine b1 ?_ _ | refine b2 ?_ | refine b3 ?_ _)); exact BK262.out) hb); have n1_ := Aside0.mk (blk_below (g := gb264) (o := .cells #[.int .u8 ((rd_T47 l1 x8_2).f0), .int .u16 ((rd_T47 l1 x8_2).f1), .bool ((rd_T47 l1 x8_2).f2)] 47 (0, 0)) (by (with_reducible repeat (first | refine b1 ?_ _ | refine b2 ?_ | refine b3 ?_ _)); refine blk_far ?_ NB264_271.out _; (with_reducible repeat (first | refine b1 ?_ _ | refine b2 ?_ | refine b3 ?_ _)); refine blk_far ?_ NB264_271.out _; (with_reducible repeat (first | refine b1 ?_ _ | refine b2 ?_ | refine b3 ?_ _)); refine blk_far ?_ NB264_271.out _; (with_reducible repeat (first | refine b1 ?_ _ | refine b2 ?_ | refine b3 ?_ _)); refine blk_far ?_ NB264_271.out _; (with_reducible repeat (first | refine b1 ?_ _ | refine b2 ?_ | refine b3 ?_ _)); exact BK264.out) hb); have n2_ := Aside0.mk (blk_below (g := gb271) (o := .cells #[.bool t265, .int .i64 t266, .int .i64 t267, .bool t268] 23 (0, 0)) (by (with_reducible repeat (first | refine b1 ?_ _ | refine b2 ?_ | refine b3 ?_ _)); refine blk_put (cs := #[.bool t265, .int .i64 t266, .int .i64 t267, .bool false]) ?_ 3 _ rfl; (with_reducible repeat (first | refine b1 ?_ _ | refine b2 ?_ | refine b3 ?_ _)); refine blk_put (cs := #[.bool t265, .int .i64 t266, .int .i64 0, .bool false]) ?_ 2 _ rfl; (with_reducible repeat (first | refine b1 ?_ _ | refine b2 ?_ | refine b3 ?_ _)); refine blk_put (cs := #[.bool t265, .int .i64 0, .int .i64 0, .bool false]) ?_ 1 _ rfl; (with_reducible repeat (first | refine b1 ?_ _ | refine b2 ?_ | refine b3 ?_ _)); refine blk_put (cs := #[.bool false, .int .i64 0, .int .i64 0, .bool false]) ?_ 0 _ rfl; (with_reducible repeat (first | refine b1 ?_ _ | refine b2 ?_ | refine b3 ?_ _)); exact BK271.out) hb); have n3_ := Aside0.mk (below_step (by repeat (first | (with_reducible first | exact HB.out | apply below_alloc | apply pw_below_drewN | apply below_drew1 | refine below_set ?_ GE262.out | refine below_set ?_ GE264.out | refine below_set ?_ GE271.out) | exact HB.out)) hb); clear BK262; clear BK264; clear BK271; clear HB; have BK262 := n0_; have BK264 := n1_; have BK271 := n2_; have HB := n3_; clear n0_ n1_ n2_ n3_; (try clear hb); (try clear hb2); (try clear hk); (try clear hi); have hcz78_0 : w77.cell? ⟨gb262, 0, none⟩ = some (.bool x263000_2) := (blk_cell BK262.out 0).trans rfl; have hcz78_1 : w77.cell? ⟨gb262, 1, none⟩ = some (.int .i64 x263001_2) := (blk_cell BK262.out 1).trans rfl; have hcz78_2 : w77.cell? ⟨gb262, 2, none⟩ = some (.int .i64 x263002_2) := (blk_cell BK262.out 2).trans rfl; have hcz78_3 : w77.cell? ⟨gb262, 3, none⟩ = some (.bool x263003_2) := (blk_cell BK262.out 3).trans rfl; have hfz78_0 := blk_frozen BK262.out 0; have hfz78_1 := blk_frozen BK262.out 1; have hfz78_2 := blk_frozen BK262.out 2; have hfz78_3 := blk_frozen BK262.out 3) | (go_at_call 11; (with_reducible refine (breaker_Breaker_State.calls x263000_2 x263001_2 x263002_2 x263003_2 (wrap64 (x6_2 + (wrap64 ((rd_T47 l1 x8_2).f1)))) t274 _ A53.out).mono ?_); rintro e w79 ⟨rfl, hb⟩; have n0_ := Aside0.mk (blk_below (g := gb262) (o := .cells #[.bool x263000_2, .int .i64 x263001_2, .int .i64 x263002_2, .bool x263003_2] 23 (0, 0)) (by (with_reducible repeat (first | refine b1 ?_ _ | refine b2 ?_ | refine b3 ?_ _)); exact BK262.out) hb); have n1_ := Aside0.mk (blk_below (g := gb264) (o := .cells #[.int .u8 ((rd_T47 l1 x8_2).f0), .int .u16 ((rd_T47 l1 x8_2).f1), .bool ((rd_T47 l1 x8_2).f2)] 47 (0, 0)) (by (with_reducible repeat (first | refine b1 ?_ _ | refine b2 ?_ | refine b3 ?_ _)); exact BK264.out) hb); have n2_ := Aside0.mk (blk_below (g := gb271) (o := .cells #[.bool t265, .int .i64 t266, .int .i64 t267, .bool t268] 23 (0, 0)) (by (with_reducible repeat (first | refine b1 ?_ _ | refine b2 ?_ | refine b3 ?_ _)); exact BK271.out) hb); have n3_ := Aside0.mk (below_step (by repeat (first | (with_reducible first | exact HB.out | apply below_alloc | apply pw_below_drewN | apply below_drew1 | refine below_set ?_ GE262.out | refine below_set ?_ GE264.out | refine below_set ?_ GE271.out) | exact HB.out)) hb); clear BK262; clear BK264; clear BK271; clear HB; have BK262 := n0_; have BK264 := n1_; have BK271 := n2_; have HB := n3_; clear n0_ n1_ n2_ n3_; (try clear hb); (try clear hb2); (try clear hk); (try clear hi); have hcz80_0 : w79.cell? ⟨gb271, 0, none⟩ = some (.bool t265) := (blk_cell BK271.out 0).trans rfl; have hcz80_1 : w79.cell? ⟨gb271, 1, none⟩ = some (.int .i64 t266) := (blk_cell BK271.out 1).trans rfl; have hcz80_2 : w79.cell? ⟨gb271, 2, none⟩ = some (.int .i64 t267) := (blk_cell BK271.out 2).trans rfl; have hcz80_3 : w79.cell? ⟨gb271, 3, none⟩ = some (.bool t268) := (blk_cell BK271.out 3).trans rfl; have hfz80_0 := blk_frozen BK271.out 0; have hfz80_1 := blk_frozen BK271.out 1; have hfz80_2 := blk_frozen BK271.out 2; have hfz80_3 := blk_frozen BK271.out 3; have hcz81_0 : w79.cell? ⟨gb262, 0, none⟩ = some (.bool x263000_2) := (blk_cell BK262.out 0).trans rfl; have hcz81_1 : w79.cell? ⟨gb262, 1, none⟩ = some (.int .i64 x263001_2) := (blk_cell BK262.out 1).trans rfl; have hcz81_2 : w79.cell? ⟨gb262, 2, none⟩ = some (.int .i64 x263002_2) := (blk_cell BK262.out 2).trans rfl; have hcz81_3 : w79.cell? ⟨gb262, 3, none⟩ = some (.bool x263003_2) := (blk_cell BK262.out 3).trans rfl; have hfz81_0 := blk_frozen BK262.out 0; have hfz81_1 := blk_frozen BK262.out 1; have hfz81_2 := blk_frozen BK262.out 2; have hfz81_3 := blk_frozen BK262.out 3))
                 go_meet
                 case rel => exact ⟨_, (false), (0), (t265), (t266), (t267), (t268), (by first | rfl | (simp; done) | (simp [*]; done)), (by first | rfl | (simp; done) | (simp [*]; done)), H', ⟨by have := HJ4.out; have := HK2.out; first | omega | exact Nat.le_refl _⟩, ⟨by (with_reducible repeat (first | refine b1 ?_ _ | refine b2 ?_ | refine b3 ?_ _)); refine blk_put (cs := #[.bool t265, .int .i64 t266, .int .i64 t267, .bool x263003_2]) ?_ 3 _ rfl; (with_reducible repeat (first | refine b1 ?_ _ | refine b2 ?_ | refine b3 ?_ _)); refine blk_put (cs := #[.bool t265, .int .i64 t266, .int .i64 x263002_2, .bool x263003_2]) ?_ 2 _ rfl; (with_reducible repeat (first | refine b1 ?_ _ | refine b2 ?_ | refine b3 ?_ _)); refine blk_put (cs := #[.bool t265, .int .i64 x263001_2, .int .i64 x263002_2, .bool x263003_2]) ?_ 1 _ rfl; (with_reducible repeat (first | refine b1 ?_ _ | refine b2 ?_ | refine b3 ?_ _)); refine blk_put (cs := #[.bool x263000_2, .int .i64 x263001_2, .int .i64 x263002_2, .bool x263003_2]) ?_ 0 _ rfl; (with_reducible repeat (first | refine b1 ?_ _ | refine b2 ?_ | refine b3 ?_ _)); exact BK262.out⟩, ⟨by (with_reducible repeat (first | refine b1 ?_ _ | refine b2 ?_ | refine b3 ?_ _)); refine blk_far ?_ NB264_262.out _; (with_reducible repeat (first | refine b1 ?_ _ | refine b2 ?_ | refine b3 ?_ _)); refine blk_far ?_ NB264_262.out _; (with_reducible repeat (first | refine b1 ?_ _ | refine b2 ?_ | refine b3 ?_ _)); refine blk_far ?_ NB264_262.out _; (with_reducible repeat (first | refine b1 ?_ _ | refine b2 ?_ | refine b3 ?_ _)); refine blk_far ?_ NB264_262.out _; (with_reducible repeat (first | refine b1 ?_ _ | refine b2 ?_ | refine b3 ?_ _)); exact BK264.out⟩, ⟨by repeat (first | (with_reducible first | exact HB.out | apply below_alloc | apply pw_below_drewN | apply below_drew1 | refine below_set ?_ GE262.out | refine below_set ?_ GE264.out | refine below_set ?_ GE271.out) | exact HB.out)⟩⟩
             ·
              rw [if_neg c52] at H
              have c52b0 : (t270 == 0) = false := beq_eq_false_iff_ne.mpr c52
              have c52b1 : (t270 != 0) = true := bne_iff_ne.mpr c52
              (try simp [c52b0] at c20b0)
              by_cases c82 : (!(t265 == x263000_2) || (!(t266 == x263001_2) || (!(t267 == x263002_2) || (!(t268 == x263003_2))))) = true
              ·
               rw [if_pos c82] at H
               have c82b0 : (!(t265 == x263000_2) || (!(t266 == x263001_2) || (!(t267 == x263002_2) || (!(t268 == x263003_2))))) = true := c82
               clear c82
               as_aux_lemma =>
                exact absurd ((Option.some.inj H).trans hT.out) (by decide)
              ·
               rw [if_neg c82] at H
               have c82b0 : (!(t265 == x263000_2) || (!(t266 == x263001_2) || (!(t267 == x263002_2) || (!(t268 == x263003_2))))) = false := by simpa using c82
               clear c82
               by_cases c83 : (false != false) = true
               ·
                rw [if_pos c83] at H
                have c83b0 : (false != false) = true := c83
                (try (have c83b1 : decide (false = false) = false := by simpa using c83))
                (try (have c83b2 : (false == false) = false := by simpa using c83))
                (try (have c83b3 : ¬ (false = false) := by simpa using c83))
                clear c83
                as_aux_lemma =>
                 exact absurd ((Option.some.inj H).trans hT.out) (by decide)
               ·
                rw [if_neg c83] at H
                have c83b0 : (false != false) = false := by simpa using c83
                (try (have c83b1 : decide (false = false) = true := by simpa using c83))
                (try (have c83b2 : (false == false) = true := by simpa using c83))
                clear c83
                by_cases c84 : x7_2 = true
                ·
                 subst c84
                 have H1 : (postilionlaw09_BreakerOne.j2 k2 a0 l1 (wrap64 (x6_2 + (wrap64 ((rd_T47 l1 x8_2).f1)))) true x8_2 0 t265 t266 t267 t268) = some r := by rw [if_pos rfl] at H; exact H
                 clear H
                 have H := H1
                 clear H1
                 as_aux_lemma =>
                  have H' := Aside0.mk H
                  clear H
                  have hnb85 := NB262_264.out
                  have hnc85 := NB264_262.out
                  have hcz86_0 : w14.cell? ⟨gb262, 0, none⟩ = some (.bool x263000_2) := (blk_cell BK262.out 0).trans rfl
                  have hcz86_1 : w14.cell? ⟨gb262, 1, none⟩ = some (.int .i64 x263001_2) := (blk_cell BK262.out 1).trans rfl
                  have hcz86_2 : w14.cell? ⟨gb262, 2, none⟩ = some (.int .i64 x263002_2) := (blk_cell BK262.out 2).trans rfl
                  have hcz86_3 : w14.cell? ⟨gb262, 3, none⟩ = some (.bool x263003_2) := (blk_cell BK262.out 3).trans rfl
                  have hfz86_0 := blk_frozen BK262.out 0
                  have hfz86_1 := blk_frozen BK262.out 1
                  have hfz86_2 := blk_frozen BK262.out 2
                  have hfz86_3 := blk_frozen BK262.out 3
                  go_wp2_with (first | ((with_reducible refine gate_callee (f := 7) rfl ?_); refine goesL_ (some 59) rfl rfl Try.func7 (by kernel_rfl) rfl #[.agg #[.bool x263000_2, .int .i64 x263001_2, .int .i64 x263002_2, .bool x263003_2], .int .i64 (wrap64 (x6_2 + (wrap64 ((rd_T47 l1 x8_2).f1))))] rfl (by (try simp only [List.map_toArray, List.map_cons, List.map_nil]); first | done | rfl | (simp only [List.length_drop, List.length_take]; rfl)) ?_; (with_reducible refine (breaker_Breaker_Try.calls x263000_2 x263001_2 x263002_2 x263003_2 (wrap64 (x6_2 + (wrap64 ((rd_T47 l1 x8_2).f1)))) t265 t266 t267 t268 false t270 _ A18.out).mono ?_); rintro e w87 ⟨rfl, hb⟩; refine ⟨_, rfl, ?_⟩; have n0_ := Aside0.mk (blk_below (g := gb262) (o := .cells #[.bool x263000_2, .int .i64 x263001_2, .int .i64 x263002_2, .bool x263003_2] 23 (0, 0)) (by (with_reducible repeat (first | refine b1 ?_ _ | refine b2 ?_ | refine b3 ?_ _)); refine blk_far ?_ NB262_264.out _; (with_reducible repeat (first | refine b1 ?_ _ | refine b2 ?_ | refine b3 ?_ _)); refine blk_far ?_ NB262_264.out _; (with_reducible repeat (first | refine b1 ?_ _ | refine b2 ?_ | refine b3 ?_ _)); refine blk_far ?_ NB262_264.out _; (with_reducible repeat (first | refine b1 ?_ _ | refine b2 ?_ | refine b3 ?_ _)); exact BK262.out) hb); have n1_ := Aside0.mk (blk_below (g := gb264) (o := .cells #[.int .u8 ((rd_T47 l1 x8_2).f0), .int .u16 ((rd_T47 l1 x8_2).f1), .bool ((rd_T47 l1 x8_2).f2)] 47 (0, 0)) (by (with_reducible repeat (first | refine b1 ?_ _ | refine b2 ?_ | refine b3 ?_ _)); refine blk_put (cs := #[.int .u8 ((rd_T47 l1 x8_2).f0), .int .u16 ((rd_T47 l1 x8_2).f1), .bool false]) ?_ 2 _ rfl; (with_reducible repeat (first | refine b1 ?_ _ | refine b2 ?_ | refine b3 ?_ _)); refine blk_put (cs := #[.int .u8 ((rd_T47 l1 x8_2).f0), .int .u16 0, .bool false]) ?_ 1 _ rfl; (with_reducible repeat (first | refine b1 ?_ _ | refine b2 ?_ | refine b3 ?_ _)); refine blk_put (cs := #[.int .u8 0, .int .u16 0, .bool false]) ?_ 0 _ rfl; (with_reducible repeat (first | refine b1 ?_ _ | refine b2 ?_ | refine b3 ?_ _)); exact BK264.out) hb); have n2_ := Aside0.mk (below_step (by repeat (first | (with_reducible first | exact HB.out | apply below_alloc | apply pw_below_drewN | apply below_drew1 | refine below_set ?_ GE262.out | refine below_set ?_ GE264.out) | exact HB.out)) hb); clear BK262; clear BK264; clear HB; have BK262 := n0_; have BK264 := n1_; have HB := n2_; clear n0_ n1_ n2_; (try clear hb); (try clear hb2); (try clear hk); (try clear hi)) | ((with_reducible refine gate_dst (N := 11) rfl ?_); (try (refine gate_guard (by rfl) ?_; dsimp only)); refine box_event ?hg (N := 11) ?hd (cs := #[.bool false, .int .i64 0, .int .i64 0, .bool false]) (t := 23) ?hr ?_; (case hd => rfl); (case hg => rfl); (case hr => first | (go_simp; done) | (go_simp; rfl)); intro gb271 hg w88 hbox hb; have n0_ := Aside0.mk (blk_below (g := gb262) (o := .cells #[.bool x263000_2, .int .i64 x263001_2, .int .i64 x263002_2, .bool x263003_2] 23 (0, 0)) (by (with_reducible repeat (first | refine b1 ?_ _ | refine b2 ?_ | refine b3 ?_ _)); exact BK262.out) hb); have n1_ := Aside0.mk (blk_below (g := gb264) (o := .cells #[.int .u8 ((rd_T47 l1 x8_2).f0), .int .u16 ((rd_T47 l1 x8_2).f1), .bool ((rd_T47 l1 x8_2).f2)] 47 (0, 0)) (by (with_reducible repeat (first | refine b1 ?_ _ | refine b2 ?_ | refine b3 ?_ _)); exact BK264.out) hb); have n2_ := Aside0.mk (below_step (by repeat (first | (with_reducible first | exact HB.out | apply below_alloc | apply pw_below_drewN | apply below_drew1 | refine below_set ?_ GE262.out | refine below_set ?_ GE264.out) | exact HB.out)) hb); have n3_ := Aside0.mk (hbox); have n4_ := Aside0.mk ((by rw [hg]; exact (below_size (by repeat (first | (with_reducible first | exact HB.out | apply below_alloc | apply pw_below_drewN | apply below_drew1 | refine below_set ?_ GE262.out | refine below_set ?_ GE264.out) | exact HB.out))) : w.heap.size ≤ gb271)); have n5_ := Aside0.mk ((by rw [hg]; exact (below_size (by repeat (first | (with_reducible first | exact HB.out | apply below_alloc | apply pw_below_drewN | apply below_drew1 | refine below_set ?_ GE262.out | refine below_set ?_ GE264.out) | exact HB.out))) : w.heap.size ≤ gb271)); have n6_ := Aside0.mk ((by rw [hg]; exact Nat.ne_of_lt (blk_lt (g := gb262) (o := .cells #[.bool x263000_2, .int .i64 x263001_2, .int .i64 x263002_2, .bool x263003_2] 23 (0, 0)) (by (with_reducible repeat (first | refine b1 ?_ _ | refine b2 ?_ | refine b3 ?_ _)); exact BK262.out)) : gb262 ≠ gb271)); have n7_ := Aside0.mk ((by rw [hg]; exact Nat.ne_of_gt (blk_lt (g := gb262) (o := .cells #[.bool x263000_2, .int .i64 x263001_2, .int .i64 x263002_2, .bool x263003_2] 23 (0, 0)) (by (with_reducible repeat (first | refine b1 ?_ _ | refine b2 ?_ | refine b3 ?_ _)); exact BK262.out)) : gb271 ≠ gb262)); have n8_ := Aside0.mk ((by rw [hg]; exact Nat.ne_of_lt (blk_lt (g := gb264) (o := .cells #[.int .u8 ((rd_T47 l1 x8_2).f0), .int .u16 ((rd_T47 l1 x8_2).f1), .bool ((rd_T47 l1 x8_2).f2)] 47 (0, 0)) (by (with_reducible repeat (first | refine b1 ?_ _ | refine b2 ?_ | refine b3 ?_ _)); exact BK264.out)) : gb264 ≠ gb271)); have n9_ := Aside0.mk ((by rw [hg]; exact Nat.ne_of_gt (blk_lt (g := gb264) (o := .cells #[.int .u8 ((rd_T47 l1 x8_2).f0), .int .u16 ((rd_T47 l1 x8_2).f1), .bool ((rd_T47 l1 x8_2).f2)] 47 (0, 0)) (by (with_reducible repeat (first | refine b1 ?_ _ | refine b2 ?_ | refine b3 ?_ _)); exact BK264.out)) : gb271 ≠ gb264)); clear BK262; clear BK264; clear HB; have BK262 := n0_; have BK264 := n1_; have HB := n2_; have BK271 := n3_; have GW271 := n4_; have GE271 := n5_; have NB262_271 := n6_; have NB271_262 := n7_; have NB264_271 := n8_; have NB271_264 := n9_; clear n0_ n1_ n2_ n3_ n4_ n5_ n6_ n7_ n8_ n9_; clear hb hbox hg; have hnb89 := NB271_262.out; have hnc89 := NB262_271.out; have hnb90 := NB271_264.out; have hnc90 := NB264_271.out; have hcz91_0 : w88.cell? ⟨gb271, 0, none⟩ = some (.bool false) := (blk_cell BK271.out 0).trans rfl; have hcz91_1 : w88.cell? ⟨gb271, 1, none⟩ = some (.int .i64 0) := (blk_cell BK271.out 1).trans rfl; have hcz91_2 : w88.cell? ⟨gb271, 2, none⟩ = some (.int .i64 0) := (blk_cell BK271.out 2).trans rfl; have hcz91_3 : w88.cell? ⟨gb271, 3, none⟩ = some (.bool false) := (blk_cell BK271.out 3).trans rfl; have hfz91_0 := blk_frozen BK271.out 0; have hfz91_1 := blk_frozen BK271.out 1; have hfz91_2 := blk_frozen BK271.out 2; have hfz91_3 := blk_frozen BK271.out 3; have hcz92_0 : w88.cell? ⟨gb262, 0, none⟩ = some (.bool x263000_2) := (blk_cell BK262.out 0).trans rfl; have hcz92_1 : w88.cell? ⟨gb262, 1, none⟩ = some (.int .i64 x263001_2) := (blk_cell BK262.out 1).trans rfl; have hcz92_2 : w88.cell? ⟨gb262, 2, none⟩ = some (.int .i64 x263002_2) := (blk_cell BK262.out 2).trans rfl; have hcz92_3 : w88.cell? ⟨gb262, 3, none⟩ = some (.bool x263003_2) := (blk_cell BK262.out 3).trans rfl; have hfz92_0 := blk_frozen BK262.out 0; have hfz92_1 := blk_frozen BK262.out 1; have hfz92_2 := blk_frozen BK262.out 2; have hfz92_3 := blk_frozen BK262.out 3) | ((with_reducible refine gate_callee (f := 13) rfl ?_); refine goesL_ (some 67) rfl rfl Try.func13 (by kernel_rfl) rfl #[.agg #[.bool x263000_2, .int .i64 x263001_2, .int .i64 x263002_2, .bool x263003_2], .int .i64 (wrap64 (x6_2 + (wrap64 ((rd_T47 l1 x8_2).f1))))] rfl (by (try simp only [List.map_toArray, List.map_cons, List.map_nil]); first | done | rfl | (simp only [List.length_drop, List.length_take]; rfl)) ?_; (with_reducible refine (breaker_Breaker_Lets.calls x263000_2 x263001_2 x263002_2 x263003_2 (wrap64 (x6_2 + (wrap64 ((rd_T47 l1 x8_2).f1)))) t272 _ A19.out).mono ?_); rintro e w93 ⟨rfl, hb⟩; refine ⟨_, rfl, ?_⟩; have n0_ := Aside0.mk (blk_below (g := gb262) (o := .cells #[.bool x263000_2, .int .i64 x263001_2, .int .i64 x263002_2, .bool x263003_2] 23 (0, 0)) (by (with_reducible repeat (first | refine b1 ?_ _ | refine b2 ?_ | refine b3 ?_ _)); refine blk_far ?_ NB262_271.out _; (with_reducible repeat (first | refine b1 ?_ _ | refine b2 ?_ | refine b3 ?_ _)); refine blk_far ?_ NB262_271.out _; (with_reducible repeat (first | refine b1 ?_ _ | refine b2 ?_ | refine b3 ?_ _)); refine blk_far ?_ NB262_271.out _; (with_reducible repeat (first | refine b1 ?_ _ | refine b2 ?_ | refine b3 ?_ _)); refine blk_far ?_ NB262_271.out _; (with_reducible repeat (first | refine b1 ?_ _ | refine b2 ?_ | refine b3 ?_ _)); exact BK262.out) hb); have n1_ := Aside0.mk (blk_below (g := gb264) (o := .cells #[.int .u8 ((rd_T47 l1 x8_2).f0), .int .u16 ((rd_T47 l1 x8_2).f1), .bool ((rd_T47 l1 x8_2).f2)] 47 (0, 0)) (by (with_reducible repeat (first | refine b1 ?_ _ | refine b2 ?_ | refine b3 ?_ _)); refine blk_far ?_ NB264_271.out _; (with_reducible repeat (first | refine b1 ?_ _ | refine b2 ?_ | refine b3 ?_ _)); refine blk_far ?_ NB264_271.out _; (with_reducible repeat (first | refine b1 ?_ _ | refine b2 ?_ | refine b3 ?_ _)); refine blk_far ?_ NB264_271.out _; (with_reducible repeat (first | refine b1 ?_ _ | refine b2 ?_ | refine b3 ?_ _)); refine blk_far ?_ NB264_271.out _; (with_reducible repeat (first | refine b1 ?_ _ | refine b2 ?_ | refine b3 ?_ _)); exact BK264.out) hb); have n2_ := Aside0.mk (blk_below (g := gb271) (o := .cells #[.bool t265, .int .i64 t266, .int .i64 t267, .bool t268] 23 (0, 0)) (by (with_reducible repeat (first | refine b1 ?_ _ | refine b2 ?_ | refine b3 ?_ _)); refine blk_put (cs := #[.bool t265, .int .i64 t266, .int .i64 t267, .bool false]) ?_ 3 _ rfl; (with_reducible repeat (first | refine b1 ?_ _ | refine b2 ?_ | refine b3 ?_ _)); refine blk_put (cs := #[.bool t265, .int .i64 t266, .int .i64 0, .bool false]) ?_ 2 _ rfl; (with_reducible repeat (first | refine b1 ?_ _ | refine b2 ?_ | refine b3 ?_ _)); refine blk_put (cs := #[.bool t265, .int .i64 0, .int .i64 0, .bool false]) ?_ 1 _ rfl; (with_reducible repeat (first | refine b1 ?_ _ | refine b2 ?_ | refine b3 ?_ _)); refine blk_put (cs := #[.bool false, .int .i64 0, .int .i64 0, .bool false]) ?_ 0 _ rfl; (with_reducible repeat (first | refine b1 ?_ _ | refine b2 ?_ | refine b3 ?_ _)); exact BK271.out) hb); have n3_ := Aside0.mk (below_step (by repeat (first | (with_reducible first | exact HB.out | apply below_alloc | apply pw_below_drewN | apply below_drew1 | refine below_set ?_ GE262.out | refine below_set ?_ GE264.out | refine below_set ?_ GE271.out) | exact HB.out)) hb); clear BK262; clear BK264; clear BK271; clear HB; have BK262 := n0_; have BK264 := n1_; have BK271 := n2_; have HB := n3_; clear n0_ n1_ n2_ n3_; (try clear hb); (try clear hb2); (try clear hk); (try clear hi); have hcz94_0 : w93.cell? ⟨gb271, 0, none⟩ = some (.bool t265) := (blk_cell BK271.out 0).trans rfl; have hcz94_1 : w93.cell? ⟨gb271, 1, none⟩ = some (.int .i64 t266) := (blk_cell BK271.out 1).trans rfl; have hcz94_2 : w93.cell? ⟨gb271, 2, none⟩ = some (.int .i64 t267) := (blk_cell BK271.out 2).trans rfl; have hcz94_3 : w93.cell? ⟨gb271, 3, none⟩ = some (.bool t268) := (blk_cell BK271.out 3).trans rfl; have hfz94_0 := blk_frozen BK271.out 0; have hfz94_1 := blk_frozen BK271.out 1; have hfz94_2 := blk_frozen BK271.out 2; have hfz94_3 := blk_frozen BK271.out 3; have hcz95_0 : w93.cell? ⟨gb262, 0, none⟩ = some (.bool x263000_2) := (blk_cell BK262.out 0).trans rfl; have hcz95_1 : w93.cell? ⟨gb262, 1, none⟩ = some (.int .i64 x263001_2) := (blk_cell BK262.out 1).trans rfl; have hcz95_2 : w93.cell? ⟨gb262, 2, none⟩ = some (.int .i64 x263002_2) := (blk_cell BK262.out 2).trans rfl; have hcz95_3 : w93.cell? ⟨gb262, 3, none⟩ = some (.bool x263003_2) := (blk_cell BK262.out 3).trans rfl; have hfz95_0 := blk_frozen BK262.out 0; have hfz95_1 := blk_frozen BK262.out 1; have hfz95_2 := blk_frozen BK262.out 2; have hfz95_3 := blk_frozen BK262.out 3))
                  go_meet
                  case rel => exact ⟨_, (true), (0), (t265), (t266), (t267), (t268), (by first | rfl | (simp; done) | (simp [*]; done)), (by first | rfl | (simp; done) | (simp [*]; done)), H', ⟨by have := HJ4.out; have := HK2.out; first | omega | exact Nat.le_refl _⟩, ⟨by (with_reducible repeat (first | refine b1 ?_ _ | refine b2 ?_ | refine b3 ?_ _)); refine blk_put (cs := #[.bool t265, .int .i64 t266, .int .i64 t267, .bool x263003_2]) ?_ 3 _ rfl; (with_reducible repeat (first | refine b1 ?_ _ | refine b2 ?_ | refine b3 ?_ _)); refine blk_put (cs := #[.bool t265, .int .i64 t266, .int .i64 x263002_2, .bool x263003_2]) ?_ 2 _ rfl; (with_reducible repeat (first | refine b1 ?_ _ | refine b2 ?_ | refine b3 ?_ _)); refine blk_put (cs := #[.bool t265, .int .i64 x263001_2, .int .i64 x263002_2, .bool x263003_2]) ?_ 1 _ rfl; (with_reducible repeat (first | refine b1 ?_ _ | refine b2 ?_ | refine b3 ?_ _)); refine blk_put (cs := #[.bool x263000_2, .int .i64 x263001_2, .int .i64 x263002_2, .bool x263003_2]) ?_ 0 _ rfl; (with_reducible repeat (first | refine b1 ?_ _ | refine b2 ?_ | refine b3 ?_ _)); exact BK262.out⟩, ⟨by (with_reducible repeat (first | refine b1 ?_ _ | refine b2 ?_ | refine b3 ?_ _)); refine blk_far ?_ NB264_262.out _; (with_reducible repeat (first | refine b1 ?_ _ | refine b2 ?_ | refine b3 ?_ _)); refine blk_far ?_ NB264_262.out _; (with_reducible repeat (first | refine b1 ?_ _ | refine b2 ?_ | refine b3 ?_ _)); refine blk_far ?_ NB264_262.out _; (with_reducible repeat (first | refine b1 ?_ _ | refine b2 ?_ | refine b3 ?_ _)); refine blk_far ?_ NB264_262.out _; (with_reducible repeat (first | refine b1 ?_ _ | refine b2 ?_ | refine b3 ?_ _)); exact BK264.out⟩, ⟨by repeat (first | (with_reducible first | exact HB.out | apply below_alloc | apply pw_below_drewN | apply below_drew1 | refine below_set ?_ GE262.out | refine below_set ?_ GE264.out | refine below_set ?_ GE271.out) | exact HB.out)⟩⟩
                ·
                 replace c84 := Bool.eq_false_iff.mpr c84
                 subst c84
                 have H1 : (postilionlaw09_BreakerOne.j2 k2 a0 l1 (wrap64 (x6_2 + (wrap64 ((rd_T47 l1 x8_2).f1)))) false x8_2 0 t265 t266 t267 t268) = some r := by rw [if_neg (show ¬ (false = true) by decide)] at H; exact H
                 clear H
                 have H := H1
                 clear H1
                 as_aux_lemma =>
                  have H' := Aside0.mk H
                  clear H
                  have hnb96 := NB262_264.out
                  have hnc96 := NB264_262.out
                  have hcz97_0 : w14.cell? ⟨gb262, 0, none⟩ = some (.bool x263000_2) := (blk_cell BK262.out 0).trans rfl
                  have hcz97_1 : w14.cell? ⟨gb262, 1, none⟩ = some (.int .i64 x263001_2) := (blk_cell BK262.out 1).trans rfl
                  have hcz97_2 : w14.cell? ⟨gb262, 2, none⟩ = some (.int .i64 x263002_2) := (blk_cell BK262.out 2).trans rfl
                  have hcz97_3 : w14.cell? ⟨gb262, 3, none⟩ = some (.bool x263003_2) := (blk_cell BK262.out 3).trans rfl
                  have hfz97_0 := blk_frozen BK262.out 0
                  have hfz97_1 := blk_frozen BK262.out 1
                  have hfz97_2 := blk_frozen BK262.out 2
                  have hfz97_3 := blk_frozen BK262.out 3
                  go_wp2_with (first | ((with_reducible refine gate_callee (f := 7) rfl ?_); refine goesL_ (some 59) rfl rfl Try.func7 (by kernel_rfl) rfl #[.agg #[.bool x263000_2, .int .i64 x263001_2, .int .i64 x263002_2, .bool x263003_2], .int .i64 (wrap64 (x6_2 + (wrap64 ((rd_T47 l1 x8_2).f1))))] rfl (by (try simp only [List.map_toArray, List.map_cons, List.map_nil]); first | done | rfl | (simp only [List.length_drop, List.length_take]; rfl)) ?_; (with_reducible refine (breaker_Breaker_Try.calls x263000_2 x263001_2 x263002_2 x263003_2 (wrap64 (x6_2 + (wrap64 ((rd_T47 l1 x8_2).f1)))) t265 t266 t267 t268 false t270 _ A18.out).mono ?_); rintro e w98 ⟨rfl, hb⟩; refine ⟨_, rfl, ?_⟩; have n0_ := Aside0.mk (blk_below (g := gb262) (o := .cells #[.bool x263000_2, .int .i64 x263001_2, .int .i64 x263002_2, .bool x263003_2] 23 (0, 0)) (by (with_reducible repeat (first | refine b1 ?_ _ | refine b2 ?_ | refine b3 ?_ _)); refine blk_far ?_ NB262_264.out _; (with_reducible repeat (first | refine b1 ?_ _ | refine b2 ?_ | refine b3 ?_ _)); refine blk_far ?_ NB262_264.out _; (with_reducible repeat (first | refine b1 ?_ _ | refine b2 ?_ | refine b3 ?_ _)); refine blk_far ?_ NB262_264.out _; (with_reducible repeat (first | refine b1 ?_ _ | refine b2 ?_ | refine b3 ?_ _)); exact BK262.out) hb); have n1_ := Aside0.mk (blk_below (g := gb264) (o := .cells #[.int .u8 ((rd_T47 l1 x8_2).f0), .int .u16 ((rd_T47 l1 x8_2).f1), .bool ((rd_T47 l1 x8_2).f2)] 47 (0, 0)) (by (with_reducible repeat (first | refine b1 ?_ _ | refine b2 ?_ | refine b3 ?_ _)); refine blk_put (cs := #[.int .u8 ((rd_T47 l1 x8_2).f0), .int .u16 ((rd_T47 l1 x8_2).f1), .bool false]) ?_ 2 _ rfl; (with_reducible repeat (first | refine b1 ?_ _ | refine b2 ?_ | refine b3 ?_ _)); refine blk_put (cs := #[.int .u8 ((rd_T47 l1 x8_2).f0), .int .u16 0, .bool false]) ?_ 1 _ rfl; (with_reducible repeat (first | refine b1 ?_ _ | refine b2 ?_ | refine b3 ?_ _)); refine blk_put (cs := #[.int .u8 0, .int .u16 0, .bool false]) ?_ 0 _ rfl; (with_reducible repeat (first | refine b1 ?_ _ | refine b2 ?_ | refine b3 ?_ _)); exact BK264.out) hb); have n2_ := Aside0.mk (below_step (by repeat (first | (with_reducible first | exact HB.out | apply below_alloc | apply pw_below_drewN | apply below_drew1 | refine below_set ?_ GE262.out | refine below_set ?_ GE264.out) | exact HB.out)) hb); clear BK262; clear BK264; clear HB; have BK262 := n0_; have BK264 := n1_; have HB := n2_; clear n0_ n1_ n2_; (try clear hb); (try clear hb2); (try clear hk); (try clear hi)) | ((with_reducible refine gate_dst (N := 11) rfl ?_); (try (refine gate_guard (by rfl) ?_; dsimp only)); refine box_event ?hg (N := 11) ?hd (cs := #[.bool false, .int .i64 0, .int .i64 0, .bool false]) (t := 23) ?hr ?_; (case hd => rfl); (case hg => rfl); (case hr => first | (go_simp; done) | (go_simp; rfl)); intro gb271 hg w99 hbox hb; have n0_ := Aside0.mk (blk_below (g := gb262) (o := .cells #[.bool x263000_2, .int .i64 x263001_2, .int .i64 x263002_2, .bool x263003_2] 23 (0, 0)) (by (with_reducible repeat (first | refine b1 ?_ _ | refine b2 ?_ | refine b3 ?_ _)); exact BK262.out) hb); have n1_ := Aside0.mk (blk_below (g := gb264) (o := .cells #[.int .u8 ((rd_T47 l1 x8_2).f0), .int .u16 ((rd_T47 l1 x8_2).f1), .bool ((rd_T47 l1 x8_2).f2)] 47 (0, 0)) (by (with_reducible repeat (first | refine b1 ?_ _ | refine b2 ?_ | refine b3 ?_ _)); exact BK264.out) hb); have n2_ := Aside0.mk (below_step (by repeat (first | (with_reducible first | exact HB.out | apply below_alloc | apply pw_below_drewN | apply below_drew1 | refine below_set ?_ GE262.out | refine below_set ?_ GE264.out) | exact HB.out)) hb); have n3_ := Aside0.mk (hbox); have n4_ := Aside0.mk ((by rw [hg]; exact (below_size (by repeat (first | (with_reducible first | exact HB.out | apply below_alloc | apply pw_below_drewN | apply below_drew1 | refine below_set ?_ GE262.out | refine below_set ?_ GE264.out) | exact HB.out))) : w.heap.size ≤ gb271)); have n5_ := Aside0.mk ((by rw [hg]; exact (below_size (by repeat (first | (with_reducible first | exact HB.out | apply below_alloc | apply pw_below_drewN | apply below_drew1 | refine below_set ?_ GE262.out | refine below_set ?_ GE264.out) | exact HB.out))) : w.heap.size ≤ gb271)); have n6_ := Aside0.mk ((by rw [hg]; exact Nat.ne_of_lt (blk_lt (g := gb262) (o := .cells #[.bool x263000_2, .int .i64 x263001_2, .int .i64 x263002_2, .bool x263003_2] 23 (0, 0)) (by (with_reducible repeat (first | refine b1 ?_ _ | refine b2 ?_ | refine b3 ?_ _)); exact BK262.out)) : gb262 ≠ gb271)); have n7_ := Aside0.mk ((by rw [hg]; exact Nat.ne_of_gt (blk_lt (g := gb262) (o := .cells #[.bool x263000_2, .int .i64 x263001_2, .int .i64 x263002_2, .bool x263003_2] 23 (0, 0)) (by (with_reducible repeat (first | refine b1 ?_ _ | refine b2 ?_ | refine b3 ?_ _)); exact BK262.out)) : gb271 ≠ gb262)); have n8_ := Aside0.mk ((by rw [hg]; exact Nat.ne_of_lt (blk_lt (g := gb264) (o := .cells #[.int .u8 ((rd_T47 l1 x8_2).f0), .int .u16 ((rd_T47 l1 x8_2).f1), .bool ((rd_T47 l1 x8_2).f2)] 47 (0, 0)) (by (with_reducible repeat (first | refine b1 ?_ _ | refine b2 ?_ | refine b3 ?_ _)); exact BK264.out)) : gb264 ≠ gb271)); have n9_ := Aside0.mk ((by rw [hg]; exact Nat.ne_of_gt (blk_lt (g := gb264) (o := .cells #[.int .u8 ((rd_T47 l1 x8_2).f0), .int .u16 ((rd_T47 l1 x8_2).f1), .bool ((rd_T47 l1 x8_2).f2)] 47 (0, 0)) (by (with_reducible repeat (first | refine b1 ?_ _ | refine b2 ?_ | refine b3 ?_ _)); exact BK264.out)) : gb271 ≠ gb264)); clear BK262; clear BK264; clear HB; have BK262 := n0_; have BK264 := n1_; have HB := n2_; have BK271 := n3_; have GW271 := n4_; have GE271 := n5_; have NB262_271 := n6_; have NB271_262 := n7_; have NB264_271 := n8_; have NB271_264 := n9_; clear n0_ n1_ n2_ n3_ n4_ n5_ n6_ n7_ n8_ n9_; clear hb hbox hg; have hnb100 := NB271_262.out; have hnc100 := NB262_271.out; have hnb101 := NB271_264.out; have hnc101 := NB264_271.out; have hcz102_0 : w99.cell? ⟨gb271, 0, none⟩ = some (.bool false) := (blk_cell BK271.out 0).trans rfl; have hcz102_1 : w99.cell? ⟨gb271, 1, none⟩ = some (.int .i64 0) := (blk_cell BK271.out 1).trans rfl; have hcz102_2 : w99.cell? ⟨gb271, 2, none⟩ = some (.int .i64 0) := (blk_cell BK271.out 2).trans rfl; have hcz102_3 : w99.cell? ⟨gb271, 3, none⟩ = some (.bool false) := (blk_cell BK271.out 3).trans rfl; have hfz102_0 := blk_frozen BK271.out 0; have hfz102_1 := blk_frozen BK271.out 1; have hfz102_2 := blk_frozen BK271.out 2; have hfz102_3 := blk_frozen BK271.out 3; have hcz103_0 : w99.cell? ⟨gb262, 0, none⟩ = some (.bool x263000_2) := (blk_cell BK262.out 0).trans rfl; have hcz103_1 : w99.cell? ⟨gb262, 1, none⟩ = some (.int .i64 x263001_2) := (blk_cell BK262.out 1).trans rfl; have hcz103_2 : w99.cell? ⟨gb262, 2, none⟩ = some (.int .i64 x263002_2) := (blk_cell BK262.out 2).trans rfl; have hcz103_3 : w99.cell? ⟨gb262, 3, none⟩ = some (.bool x263003_2) := (blk_cell BK262.out 3).trans rfl; have hfz103_0 := blk_frozen BK262.out 0; have hfz103_1 := blk_frozen BK262.out 1; have hfz103_2 := blk_frozen BK262.out 2; have hfz103_3 := blk_frozen BK262.out 3) | ((with_reducible refine gate_callee (f := 13) rfl ?_); refine goesL_ (some 67) rfl rfl Try.func13 (by kernel_rfl) rfl #[.agg #[.bool x263000_2, .int .i64 x263001_2, .int .i64 x263002_2, .bool x263003_2], .int .i64 (wrap64 (x6_2 + (wrap64 ((rd_T47 l1 x8_2).f1))))] rfl (by (try simp only [List.map_toArray, List.map_cons, List.map_nil]); first | done | rfl | (simp only [List.length_drop, List.length_take]; rfl)) ?_; (with_reducible refine (breaker_Breaker_Lets.calls x263000_2 x263001_2 x263002_2 x263003_2 (wrap64 (x6_2 + (wrap64 ((rd_T47 l1 x8_2).f1)))) t272 _ A19.out).mono ?_); rintro e w104 ⟨rfl, hb⟩; refine ⟨_, rfl, ?_⟩; have n0_ := Aside0.mk (blk_below (g := gb262) (o := .cells #[.bool x263000_2, .int .i64 x263001_2, .int .i64 x263002_2, .bool x263003_2] 23 (0, 0)) (by (with_reducible repeat (first | refine b1 ?_ _ | refine b2 ?_ | refine b3 ?_ _)); refine blk_far ?_ NB262_271.out _; (with_reducible repeat (first | refine b1 ?_ _ | refine b2 ?_ | refine b3 ?_ _)); refine blk_far ?_ NB262_271.out _; (with_reducible repeat (first | refine b1 ?_ _ | refine b2 ?_ | refine b3 ?_ _)); refine blk_far ?_ NB262_271.out _; (with_reducible repeat (first | refine b1 ?_ _ | refine b2 ?_ | refine b3 ?_ _)); refine blk_far ?_ NB262_271.out _; (with_reducible repeat (first | refine b1 ?_ _ | refine b2 ?_ | refine b3 ?_ _)); exact BK262.out) hb); have n1_ := Aside0.mk (blk_below (g := gb264) (o := .cells #[.int .u8 ((rd_T47 l1 x8_2).f0), .int .u16 ((rd_T47 l1 x8_2).f1), .bool ((rd_T47 l1 x8_2).f2)] 47 (0, 0)) (by (with_reducible repeat (first | refine b1 ?_ _ | refine b2 ?_ | refine b3 ?_ _)); refine blk_far ?_ NB264_271.out _; (with_reducible repeat (first | refine b1 ?_ _ | refine b2 ?_ | refine b3 ?_ _)); refine blk_far ?_ NB264_271.out _; (with_reducible repeat (first | refine b1 ?_ _ | refine b2 ?_ | refine b3 ?_ _)); refine blk_far ?_ NB264_271.out _; (with_reducible repeat (first | refine b1 ?_ _ | refine b2 ?_ | refine b3 ?_ _)); refine blk_far ?_ NB264_271.out _; (with_reducible repeat (first | refine b1 ?_ _ | refine b2 ?_ | refine b3 ?_ _)); exact BK264.out) hb); have n2_ := Aside0.mk (blk_below (g := gb271) (o := .cells #[.bool t265, .int .i64 t266, .int .i64 t267, .bool t268] 23 (0, 0)) (by (with_reducible repeat (first | refine b1 ?_ _ | refine b2 ?_ | refine b3 ?_ _)); refine blk_put (cs := #[.bool t265, .int .i64 t266, .int .i64 t267, .bool false]) ?_ 3 _ rfl; (with_reducible repeat (first | refine b1 ?_ _ | refine b2 ?_ | refine b3 ?_ _)); refine blk_put (cs := #[.bool t265, .int .i64 t266, .int .i64 0, .bool false]) ?_ 2 _ rfl; (with_reducible repeat (first | refine b1 ?_ _ | refine b2 ?_ | refine b3 ?_ _)); refine blk_put (cs := #[.bool t265, .int .i64 0, .int .i64 0, .bool false]) ?_ 1 _ rfl; (with_reducible repeat (first | refine b1 ?_ _ | refine b2 ?_ | refine b3 ?_ _)); refine blk_put (cs := #[.bool false, .int .i64 0, .int .i64 0, .bool false]) ?_ 0 _ rfl; (with_reducible repeat (first | refine b1 ?_ _ | refine b2 ?_ | refine b3 ?_ _)); exact BK271.out) hb); have n3_ := Aside0.mk (below_step (by repeat (first | (with_reducible first | exact HB.out | apply below_alloc | apply pw_below_drewN | apply below_drew1 | refine below_set ?_ GE262.out | refine below_set ?_ GE264.out | refine below_set ?_ GE271.out) | exact HB.out)) hb); clear BK262; clear BK264; clear BK271; clear HB; have BK262 := n0_; have BK264 := n1_; have BK271 := n2_; have HB := n3_; clear n0_ n1_ n2_ n3_; (try clear hb); (try clear hb2); (try clear hk); (try clear hi); have hcz105_0 : w104.cell? ⟨gb271, 0, none⟩ = some (.bool t265) := (blk_cell BK271.out 0).trans rfl; have hcz105_1 : w104.cell? ⟨gb271, 1, none⟩ = some (.int .i64 t266) := (blk_cell BK271.out 1).trans rfl; have hcz105_2 : w104.cell? ⟨gb271, 2, none⟩ = some (.int .i64 t267) := (blk_cell BK271.out 2).trans rfl; have hcz105_3 : w104.cell? ⟨gb271, 3, none⟩ = some (.bool t268) := (blk_cell BK271.out 3).trans rfl; have hfz105_0 := blk_frozen BK271.out 0; have hfz105_1 := blk_frozen BK271.out 1; have hfz105_2 := blk_frozen BK271.out 2; have hfz105_3 := blk_frozen BK271.out 3; have hcz106_0 : w104.cell? ⟨gb262, 0, none⟩ = some (.bool x263000_2) := (blk_cell BK262.out 0).trans rfl; have hcz106_1 : w104.cell? ⟨gb262, 1, none⟩ = some (.int .i64 x263001_2) := (blk_cell BK262.out 1).trans rfl; have hcz106_2 : w104.cell? ⟨gb262, 2, none⟩ = some (.int .i64 x263002_2) := (blk_cell BK262.out 2).trans rfl; have hcz106_3 : w104.cell? ⟨gb262, 3, none⟩ = some (.bool x263003_2) := (blk_cell BK262.out 3).trans rfl; have hfz106_0 := blk_frozen BK262.out 0; have hfz106_1 := blk_frozen BK262.out 1; have hfz106_2 := blk_frozen BK262.out 2; have hfz106_3 := blk_frozen BK262.out 3))
                  go_meet
                  case rel => exact ⟨_, (false), (0), (t265), (t266), (t267), (t268), (by first | rfl | (simp; done) | (simp [*]; done)), (by first | rfl | (simp; done) | (simp [*]; done)), H', ⟨by have := HJ4.out; have := HK2.out; first | omega | exact Nat.le_refl _⟩, ⟨by (with_reducible repeat (first | refine b1 ?_ _ | refine b2 ?_ | refine b3 ?_ _)); refine blk_put (cs := #[.bool t265, .int .i64 t266, .int .i64 t267, .bool x263003_2]) ?_ 3 _ rfl; (with_reducible repeat (first | refine b1 ?_ _ | refine b2 ?_ | refine b3 ?_ _)); refine blk_put (cs := #[.bool t265, .int .i64 t266, .int .i64 x263002_2, .bool x263003_2]) ?_ 2 _ rfl; (with_reducible repeat (first | refine b1 ?_ _ | refine b2 ?_ | refine b3 ?_ _)); refine blk_put (cs := #[.bool t265, .int .i64 x263001_2, .int .i64 x263002_2, .bool x263003_2]) ?_ 1 _ rfl; (with_reducible repeat (first | refine b1 ?_ _ | refine b2 ?_ | refine b3 ?_ _)); refine blk_put (cs := #[.bool x263000_2, .int .i64 x263001_2, .int .i64 x263002_2, .bool x263003_2]) ?_ 0 _ rfl; (with_reducible repeat (first | refine b1 ?_ _ | refine b2 ?_ | refine b3 ?_ _)); exact BK262.out⟩, ⟨by (with_reducible repeat (first | refine b1 ?_ _ | refine b2 ?_ | refine b3 ?_ _)); refine blk_far ?_ NB264_262.out _; (with_reducible repeat (first | refine b1 ?_ _ | refine b2 ?_ | refine b3 ?_ _)); refine blk_far ?_ NB264_262.out _; (with_reducible repeat (first | refine b1 ?_ _ | refine b2 ?_ | refine b3 ?_ _)); refine blk_far ?_ NB264_262.out _; (with_reducible repeat (first | refine b1 ?_ _ | refine b2 ?_ | refine b3 ?_ _)); refine blk_far ?_ NB264_262.out _; (with_reducible repeat (first | refine b1 ?_ _ | refine b2 ?_ | refine b3 ?_ _)); exact BK264.out⟩, ⟨by repeat (first | (with_reducible first | exact HB.out | apply below_alloc | apply pw_below_drewN | apply below_drew1 | refine below_set ?_ GE262.out | refine below_set ?_ GE264.out | refine below_set ?_ GE271.out) | exact HB.out)⟩⟩
          ·
           rw [if_neg c17] at H
           have c17b0 : ((Int.tmod ((rd_T47 l1 x8_2).f0) 6) == 0) = false := beq_eq_false_iff_ne.mpr c17
           have c17b1 : ((Int.tmod ((rd_T47 l1 x8_2).f0) 6) != 0) = true := bne_iff_ne.mpr c17
           (first | rw [c17b0] | (simp only [i64_w, i32_w]; rw [c17b0]) | skip)
           by_cases c107 : (Int.tmod ((rd_T47 l1 x8_2).f0) 6) = 1
           ·
            rw [if_pos c107] at H
            have c107b0 : ((Int.tmod ((rd_T47 l1 x8_2).f0) 6) == 1) = true := beq_iff_eq.mpr c107
            have c107b1 : ((Int.tmod ((rd_T47 l1 x8_2).f0) 6) != 1) = false := bne_eq_false_iff_eq.mpr c107
            clear c107
            replace H := Option.bind_eq_some_iff.mp H
            obtain ⟨⟨t275, t276, t277, t278⟩, A1080, H⟩ := H
            replace H : (if x7_2 = true then (if (t275 || (!(t276 == 0) || (!(t277 == 0) || (t278)))) = true then (some false) else (postilionlaw09_BreakerOne.j2 k2 a0 l1 (wrap64 (x6_2 + (wrap64 ((rd_T47 l1 x8_2).f1)))) false x8_2 0 t275 t276 t277 t278)) else (postilionlaw09_BreakerOne.j2 k2 a0 l1 (wrap64 (x6_2 + (wrap64 ((rd_T47 l1 x8_2).f1)))) false x8_2 0 t275 t276 t277 t278)) = some r := H
            have A108 := Aside0.mk A1080
            clear A1080
            by_cases c109 : x7_2 = true
            ·
             subst c109
             have H1 : (if (t275 || (!(t276 == 0) || (!(t277 == 0) || (t278)))) = true then (some false) else (postilionlaw09_BreakerOne.j2 k2 a0 l1 (wrap64 (x6_2 + (wrap64 ((rd_T47 l1 x8_2).f1)))) false x8_2 0 t275 t276 t277 t278)) = some r := by rw [if_pos rfl] at H; exact H
             clear H
             have H := H1
             clear H1
             by_cases c110 : (t275 || (!(t276 == 0) || (!(t277 == 0) || (t278)))) = true
             ·
              rw [if_pos c110] at H
              have c110b0 : (t275 || (!(t276 == 0) || (!(t277 == 0) || (t278)))) = true := c110
              clear c110
              as_aux_lemma =>
               exact absurd ((Option.some.inj H).trans hT.out) (by decide)
             ·
              rw [if_neg c110] at H
              have c110b0 : (t275 || (!(t276 == 0) || (!(t277 == 0) || (t278)))) = false := by simpa using c110
              clear c110
              as_aux_lemma =>
               have H' := Aside0.mk H
               clear H
               have hnb111 := NB262_264.out
               have hnc111 := NB264_262.out
               have hcz112_0 : w14.cell? ⟨gb262, 0, none⟩ = some (.bool x263000_2) := (blk_cell BK262.out 0).trans rfl
               have hcz112_1 : w14.cell? ⟨gb262, 1, none⟩ = some (.int .i64 x263001_2) := (blk_cell BK262.out 1).trans rfl
               have hcz112_2 : w14.cell? ⟨gb262, 2, none⟩ = some (.int .i64 x263002_2) := (blk_cell BK262.out 2).trans rfl
               have hcz112_3 : w14.cell? ⟨gb262, 3, none⟩ = some (.bool x263003_2) := (blk_cell BK262.out 3).trans rfl
               have hfz112_0 := blk_frozen BK262.out 0
               have hfz112_1 := blk_frozen BK262.out 1
               have hfz112_2 := blk_frozen BK262.out 2
               have hfz112_3 := blk_frozen BK262.out 3
               go_wp2_with (first | ((with_reducible refine gate_callee (f := 17) rfl ?_); refine goesL_ (some 104) rfl rfl Try.func17 (by kernel_rfl) rfl #[.agg #[.bool x263000_2, .int .i64 x263001_2, .int .i64 x263002_2, .bool x263003_2], .bool true] rfl (by (try simp only [List.map_toArray, List.map_cons, List.map_nil]); first | done | rfl | (simp only [List.length_drop, List.length_take]; rfl)) ?_; (with_reducible refine (breaker_Breaker_Good.calls x263000_2 x263001_2 x263002_2 x263003_2 true t275 t276 t277 t278 _ A108.out).mono ?_); rintro e w113 ⟨rfl, hb⟩; refine ⟨_, rfl, ?_⟩; have n0_ := Aside0.mk (blk_below (g := gb262) (o := .cells #[.bool x263000_2, .int .i64 x263001_2, .int .i64 x263002_2, .bool x263003_2] 23 (0, 0)) (by (with_reducible repeat (first | refine b1 ?_ _ | refine b2 ?_ | refine b3 ?_ _)); refine blk_far ?_ NB262_264.out _; (with_reducible repeat (first | refine b1 ?_ _ | refine b2 ?_ | refine b3 ?_ _)); refine blk_far ?_ NB262_264.out _; (with_reducible repeat (first | refine b1 ?_ _ | refine b2 ?_ | refine b3 ?_ _)); refine blk_far ?_ NB262_264.out _; (with_reducible repeat (first | refine b1 ?_ _ | refine b2 ?_ | refine b3 ?_ _)); exact BK262.out) hb); have n1_ := Aside0.mk (blk_below (g := gb264) (o := .cells #[.int .u8 ((rd_T47 l1 x8_2).f0), .int .u16 ((rd_T47 l1 x8_2).f1), .bool ((rd_T47 l1 x8_2).f2)] 47 (0, 0)) (by (with_reducible repeat (first | refine b1 ?_ _ | refine b2 ?_ | refine b3 ?_ _)); refine blk_put (cs := #[.int .u8 ((rd_T47 l1 x8_2).f0), .int .u16 ((rd_T47 l1 x8_2).f1), .bool false]) ?_ 2 _ rfl; (with_reducible repeat (first | refine b1 ?_ _ | refine b2 ?_ | refine b3 ?_ _)); refine blk_put (cs := #[.int .u8 ((rd_T47 l1 x8_2).f0), .int .u16 0, .bool false]) ?_ 1 _ rfl; (with_reducible repeat (first | refine b1 ?_ _ | refine b2 ?_ | refine b3 ?_ _)); refine blk_put (cs := #[.int .u8 0, .int .u16 0, .bool false]) ?_ 0 _ rfl; (with_reducible repeat (first | refine b1 ?_ _ | refine b2 ?_ | refine b3 ?_ _)); exact BK264.out) hb); have n2_ := Aside0.mk (below_step (by repeat (first | (with_reducible first | exact HB.out | apply below_alloc | apply pw_below_drewN | apply below_drew1 | refine below_set ?_ GE262.out | refine below_set ?_ GE264.out) | exact HB.out)) hb); clear BK262; clear BK264; clear HB; have BK262 := n0_; have BK264 := n1_; have HB := n2_; clear n0_ n1_ n2_; (try clear hb); (try clear hb2); (try clear hk); (try clear hi); have hcz114_0 : w113.cell? ⟨gb262, 0, none⟩ = some (.bool x263000_2) := (blk_cell BK262.out 0).trans rfl; have hcz114_1 : w113.cell? ⟨gb262, 1, none⟩ = some (.int .i64 x263001_2) := (blk_cell BK262.out 1).trans rfl; have hcz114_2 : w113.cell? ⟨gb262, 2, none⟩ = some (.int .i64 x263002_2) := (blk_cell BK262.out 2).trans rfl; have hcz114_3 : w113.cell? ⟨gb262, 3, none⟩ = some (.bool x263003_2) := (blk_cell BK262.out 3).trans rfl; have hfz114_0 := blk_frozen BK262.out 0; have hfz114_1 := blk_frozen BK262.out 1; have hfz114_2 := blk_frozen BK262.out 2; have hfz114_3 := blk_frozen BK262.out 3))
               go_meet
               case rel => exact ⟨_, (false), (0), (t275), (t276), (t277), (t278), (by first | rfl | (simp; done) | (simp [*]; done)), (by first | rfl | (simp; done) | (simp [*]; done)), H', ⟨by have := HJ4.out; have := HK2.out; first | omega | exact Nat.le_refl _⟩, ⟨by (with_reducible repeat (first | refine b1 ?_ _ | refine b2 ?_ | refine b3 ?_ _)); refine blk_put (cs := #[.bool t275, .int .i64 t276, .int .i64 t277, .bool x263003_2]) ?_ 3 _ rfl; (with_reducible repeat (first | refine b1 ?_ _ | refine b2 ?_ | refine b3 ?_ _)); refine blk_put (cs := #[.bool t275, .int .i64 t276, .int .i64 x263002_2, .bool x263003_2]) ?_ 2 _ rfl; (with_reducible repeat (first | refine b1 ?_ _ | refine b2 ?_ | refine b3 ?_ _)); refine blk_put (cs := #[.bool t275, .int .i64 x263001_2, .int .i64 x263002_2, .bool x263003_2]) ?_ 1 _ rfl; (with_reducible repeat (first | refine b1 ?_ _ | refine b2 ?_ | refine b3 ?_ _)); refine blk_put (cs := #[.bool x263000_2, .int .i64 x263001_2, .int .i64 x263002_2, .bool x263003_2]) ?_ 0 _ rfl; (with_reducible repeat (first | refine b1 ?_ _ | refine b2 ?_ | refine b3 ?_ _)); exact BK262.out⟩, ⟨by (with_reducible repeat (first | refine b1 ?_ _ | refine b2 ?_ | refine b3 ?_ _)); refine blk_far ?_ NB264_262.out _; (with_reducible repeat (first | refine b1 ?_ _ | refine b2 ?_ | refine b3 ?_ _)); refine blk_far ?_ NB264_262.out _; (with_reducible repeat (first | refine b1 ?_ _ | refine b2 ?_ | refine b3 ?_ _)); refine blk_far ?_ NB264_262.out _; (with_reducible repeat (first | refine b1 ?_ _ | refine b2 ?_ | refine b3 ?_ _)); refine blk_far ?_ NB264_262.out _; (with_reducible repeat (first | refine b1 ?_ _ | refine b2 ?_ | refine b3 ?_ _)); exact BK264.out⟩, ⟨by repeat (first | (with_reducible first | exact HB.out | apply below_alloc | apply pw_below_drewN | apply below_drew1 | refine below_set ?_ GE262.out | refine below_set ?_ GE264.out) | exact HB.out)⟩⟩
            ·
             replace c109 := Bool.eq_false_iff.mpr c109
             subst c109
             have H1 : (postilionlaw09_BreakerOne.j2 k2 a0 l1 (wrap64 (x6_2 + (wrap64 ((rd_T47 l1 x8_2).f1)))) false x8_2 0 t275 t276 t277 t278) = some r := by rw [if_neg (show ¬ (false = true) by decide)] at H; exact H
             clear H
             have H := H1
             clear H1
             as_aux_lemma =>
              have H' := Aside0.mk H
              clear H
              have hnb115 := NB262_264.out
              have hnc115 := NB264_262.out
              have hcz116_0 : w14.cell? ⟨gb262, 0, none⟩ = some (.bool x263000_2) := (blk_cell BK262.out 0).trans rfl
              have hcz116_1 : w14.cell? ⟨gb262, 1, none⟩ = some (.int .i64 x263001_2) := (blk_cell BK262.out 1).trans rfl
              have hcz116_2 : w14.cell? ⟨gb262, 2, none⟩ = some (.int .i64 x263002_2) := (blk_cell BK262.out 2).trans rfl
              have hcz116_3 : w14.cell? ⟨gb262, 3, none⟩ = some (.bool x263003_2) := (blk_cell BK262.out 3).trans rfl
              have hfz116_0 := blk_frozen BK262.out 0
              have hfz116_1 := blk_frozen BK262.out 1
              have hfz116_2 := blk_frozen BK262.out 2
              have hfz116_3 := blk_frozen BK262.out 3
              go_wp2_with (first | ((with_reducible refine gate_callee (f := 17) rfl ?_); refine goesL_ (some 104) rfl rfl Try.func17 (by kernel_rfl) rfl #[.agg #[.bool x263000_2, .int .i64 x263001_2, .int .i64 x263002_2, .bool x263003_2], .bool true] rfl (by (try simp only [List.map_toArray, List.map_cons, List.map_nil]); first | done | rfl | (simp only [List.length_drop, List.length_take]; rfl)) ?_; (with_reducible refine (breaker_Breaker_Good.calls x263000_2 x263001_2 x263002_2 x263003_2 true t275 t276 t277 t278 _ A108.out).mono ?_); rintro e w117 ⟨rfl, hb⟩; refine ⟨_, rfl, ?_⟩; have n0_ := Aside0.mk (blk_below (g := gb262) (o := .cells #[.bool x263000_2, .int .i64 x263001_2, .int .i64 x263002_2, .bool x263003_2] 23 (0, 0)) (by (with_reducible repeat (first | refine b1 ?_ _ | refine b2 ?_ | refine b3 ?_ _)); refine blk_far ?_ NB262_264.out _; (with_reducible repeat (first | refine b1 ?_ _ | refine b2 ?_ | refine b3 ?_ _)); refine blk_far ?_ NB262_264.out _; (with_reducible repeat (first | refine b1 ?_ _ | refine b2 ?_ | refine b3 ?_ _)); refine blk_far ?_ NB262_264.out _; (with_reducible repeat (first | refine b1 ?_ _ | refine b2 ?_ | refine b3 ?_ _)); exact BK262.out) hb); have n1_ := Aside0.mk (blk_below (g := gb264) (o := .cells #[.int .u8 ((rd_T47 l1 x8_2).f0), .int .u16 ((rd_T47 l1 x8_2).f1), .bool ((rd_T47 l1 x8_2).f2)] 47 (0, 0)) (by (with_reducible repeat (first | refine b1 ?_ _ | refine b2 ?_ | refine b3 ?_ _)); refine blk_put (cs := #[.int .u8 ((rd_T47 l1 x8_2).f0), .int .u16 ((rd_T47 l1 x8_2).f1), .bool false]) ?_ 2 _ rfl; (with_reducible repeat (first | refine b1 ?_ _ | refine b2 ?_ | refine b3 ?_ _)); refine blk_put (cs := #[.int .u8 ((rd_T47 l1 x8_2).f0), .int .u16 0, .bool false]) ?_ 1 _ rfl; (with_reducible repeat (first | refine b1 ?_ _ | refine b2 ?_ | refine b3 ?_ _)); refine blk_put (cs := #[.int .u8 0, .int .u16 0, .bool false]) ?_ 0 _ rfl; (with_reducible repeat (first | refine b1 ?_ _ | refine b2 ?_ | refine b3 ?_ _)); exact BK264.out) hb); have n2_ := Aside0.mk (below_step (by repeat (first | (with_reducible first | exact HB.out | apply below_alloc | apply pw_below_drewN | apply below_drew1 | refine below_set ?_ GE262.out | refine below_set ?_ GE264.out) | exact HB.out)) hb); clear BK262; clear BK264; clear HB; have BK262 := n0_; have BK264 := n1_; have HB := n2_; clear n0_ n1_ n2_; (try clear hb); (try clear hb2); (try clear hk); (try clear hi); have hcz118_0 : w117.cell? ⟨gb262, 0, none⟩ = some (.bool x263000_2) := (blk_cell BK262.out 0).trans rfl; have hcz118_1 : w117.cell? ⟨gb262, 1, none⟩ = some (.int .i64 x263001_2) := (blk_cell BK262.out 1).trans rfl; have hcz118_2 : w117.cell? ⟨gb262, 2, none⟩ = some (.int .i64 x263002_2) := (blk_cell BK262.out 2).trans rfl; have hcz118_3 : w117.cell? ⟨gb262, 3, none⟩ = some (.bool x263003_2) := (blk_cell BK262.out 3).trans rfl; have hfz118_0 := blk_frozen BK262.out 0; have hfz118_1 := blk_frozen BK262.out 1; have hfz118_2 := blk_frozen BK262.out 2; have hfz118_3 := blk_frozen BK262.out 3))
              go_meet
              case rel => exact ⟨_, (false), (0), (t275), (t276), (t277), (t278), (by first | rfl | (simp; done) | (simp [*]; done)), (by first | rfl | (simp; done) | (simp [*]; done)), H', ⟨by have := HJ4.out; have := HK2.out; first | omega | exact Nat.le_refl _⟩, ⟨by (with_reducible repeat (first | refine b1 ?_ _ | refine b2 ?_ | refine b3 ?_ _)); refine blk_put (cs := #[.bool t275, .int .i64 t276, .int .i64 t277, .bool x263003_2]) ?_ 3 _ rfl; (with_reducible repeat (first | refine b1 ?_ _ | refine b2 ?_ | refine b3 ?_ _)); refine blk_put (cs := #[.bool t275, .int .i64 t276, .int .i64 x263002_2, .bool x263003_2]) ?_ 2 _ rfl; (with_reducible repeat (first | refine b1 ?_ _ | refine b2 ?_ | refine b3 ?_ _)); refine blk_put (cs := #[.bool t275, .int .i64 x263001_2, .int .i64 x263002_2, .bool x263003_2]) ?_ 1 _ rfl; (with_reducible repeat (first | refine b1 ?_ _ | refine b2 ?_ | refine b3 ?_ _)); refine blk_put (cs := #[.bool x263000_2, .int .i64 x263001_2, .int .i64 x263002_2, .bool x263003_2]) ?_ 0 _ rfl; (with_reducible repeat (first | refine b1 ?_ _ | refine b2 ?_ | refine b3 ?_ _)); exact BK262.out⟩, ⟨by (with_reducible repeat (first | refine b1 ?_ _ | refine b2 ?_ | refine b3 ?_ _)); refine blk_far ?_ NB264_262.out _; (with_reducible repeat (first | refine b1 ?_ _ | refine b2 ?_ | refine b3 ?_ _)); refine blk_far ?_ NB264_262.out _; (with_reducible repeat (first | refine b1 ?_ _ | refine b2 ?_ | refine b3 ?_ _)); refine blk_far ?_ NB264_262.out _; (with_reducible repeat (first | refine b1 ?_ _ | refine b2 ?_ | refine b3 ?_ _)); refine blk_far ?_ NB264_262.out _; (with_reducible repeat (first | refine b1 ?_ _ | refine b2 ?_ | refine b3 ?_ _)); exact BK264.out⟩, ⟨by repeat (first | (with_reducible first | exact HB.out | apply below_alloc | apply pw_below_drewN | apply below_drew1 | refine below_set ?_ GE262.out | refine below_set ?_ GE264.out) | exact HB.out)⟩⟩
           ·
            rw [if_neg c107] at H
            have c107b0 : ((Int.tmod ((rd_T47 l1 x8_2).f0) 6) == 1) = false := beq_eq_false_iff_ne.mpr c107
            have c107b1 : ((Int.tmod ((rd_T47 l1 x8_2).f0) 6) != 1) = true := bne_iff_ne.mpr c107
            by_cases c119 : (Int.tmod ((rd_T47 l1 x8_2).f0) 6) = 2
            ·
             rw [if_pos c119] at H
             have c119b0 : ((Int.tmod ((rd_T47 l1 x8_2).f0) 6) == 2) = true := beq_iff_eq.mpr c119
             have c119b1 : ((Int.tmod ((rd_T47 l1 x8_2).f0) 6) != 2) = false := bne_eq_false_iff_eq.mpr c119
             clear c119
             replace H := Option.bind_eq_some_iff.mp H
             obtain ⟨⟨t279, t280, t281, t282, t283⟩, A1200, H⟩ := H
             replace H : (if x7_2 = true then ((breaker_Breaker_State.f t279 t280 t281 t282 (wrap64 (x6_2 + (wrap64 ((rd_T47 l1 x8_2).f1))))).bind fun t284 => (if t284 = 1 then ((breaker_Breaker_Lets.f t279 t280 t281 t282 (wrap64 (x6_2 + (wrap64 ((rd_T47 l1 x8_2).f1))))).bind fun t285 => (if t285 = true then (some false) else (postilionlaw09_BreakerOne.j2 k2 a0 l1 (wrap64 (x6_2 + (wrap64 ((rd_T47 l1 x8_2).f1)))) false x8_2 t283 t279 t280 t281 t282))) else (some false))) else (postilionlaw09_BreakerOne.j2 k2 a0 l1 (wrap64 (x6_2 + (wrap64 ((rd_T47 l1 x8_2).f1)))) false x8_2 t283 t279 t280 t281 t282)) = some r := H
             have A120 := Aside0.mk A1200
             clear A1200
             by_cases c121 : x7_2 = true
             ·
              subst c121
              have H1 : ((breaker_Breaker_State.f t279 t280 t281 t282 (wrap64 (x6_2 + (wrap64 ((rd_T47 l1 x8_2).f1))))).bind fun t284 => (if t284 = 1 then ((breaker_Breaker_Lets.f t279 t280 t281 t282 (wrap64 (x6_2 + (wrap64 ((rd_T47 l1 x8_2).f1))))).bind fun t285 => (if t285 = true then (some false) else (postilionlaw09_BreakerOne.j2 k2 a0 l1 (wrap64 (x6_2 + (wrap64 ((rd_T47 l1 x8_2).f1)))) false x8_2 t283 t279 t280 t281 t282))) else (some false))) = some r := by rw [if_pos rfl] at H; exact H
              clear H
              have H := H1
              clear H1
              replace H := Option.bind_eq_some_iff.mp H
              obtain ⟨t284, A1220, H⟩ := H
              replace H : (if t284 = 1 then ((breaker_Breaker_Lets.f t279 t280 t281 t282 (wrap64 (x6_2 + (wrap64 ((rd_T47 l1 x8_2).f1))))).bind fun t285 => (if t285 = true then (some false) else (postilionlaw09_BreakerOne.j2 k2 a0 l1 (wrap64 (x6_2 + (wrap64 ((rd_T47 l1 x8_2).f1)))) false x8_2 t283 t279 t280 t281 t282))) else (some false)) = some r := H
              have A122 := Aside0.mk A1220
              clear A1220
              by_cases c123 : t284 = 1
              ·
               rw [if_pos c123] at H
               have c123b0 : (t284 == 1) = true := beq_iff_eq.mpr c123
               have c123b1 : (t284 != 1) = false := bne_eq_false_iff_eq.mpr c123
               clear c123
               replace H := Option.bind_eq_some_iff.mp H
               obtain ⟨t285, A1240, H⟩ := H
               replace H : (if t285 = true then (some false) else (postilionlaw09_BreakerOne.j2 k2 a0 l1 (wrap64 (x6_2 + (wrap64 ((rd_T47 l1 x8_2).f1)))) false x8_2 t283 t279 t280 t281 t282)) = some r := H
               have A124 := Aside0.mk A1240
               clear A1240
               by_cases c125 : t285 = true
               ·
                subst c125
                have H1 : (some false) = some r := by rw [if_pos rfl] at H; exact H
                clear H
                have H := H1
                clear H1
                as_aux_lemma =>
                 exact absurd ((Option.some.inj H).trans hT.out) (by decide)
               ·
                replace c125 := Bool.eq_false_iff.mpr c125
                subst c125
                have H1 : (postilionlaw09_BreakerOne.j2 k2 a0 l1 (wrap64 (x6_2 + (wrap64 ((rd_T47 l1 x8_2).f1)))) false x8_2 t283 t279 t280 t281 t282) = some r := by rw [if_neg (show ¬ (false = true) by decide)] at H; exact H
                clear H
                have H := H1
                clear H1
                as_aux_lemma =>
                 have H' := Aside0.mk H
                 clear H
                 have hnb126 := NB262_264.out
                 have hnc126 := NB264_262.out
                 have hcz127_0 : w14.cell? ⟨gb262, 0, none⟩ = some (.bool x263000_2) := (blk_cell BK262.out 0).trans rfl
                 have hcz127_1 : w14.cell? ⟨gb262, 1, none⟩ = some (.int .i64 x263001_2) := (blk_cell BK262.out 1).trans rfl
                 have hcz127_2 : w14.cell? ⟨gb262, 2, none⟩ = some (.int .i64 x263002_2) := (blk_cell BK262.out 2).trans rfl
                 have hcz127_3 : w14.cell? ⟨gb262, 3, none⟩ = some (.bool x263003_2) := (blk_cell BK262.out 3).trans rfl
                 have hfz127_0 := blk_frozen BK262.out 0
                 have hfz127_1 := blk_frozen BK262.out 1
                 have hfz127_2 := blk_frozen BK262.out 2
                 have hfz127_3 := blk_frozen BK262.out 3
                 have hcz128_0 : w14.cell? ⟨gb264, 0, none⟩ = some (.int .u8 0) := (blk_cell BK264.out 0).trans rfl
                 have hcz128_1 : w14.cell? ⟨gb264, 1, none⟩ = some (.int .u16 0) := (blk_cell BK264.out 1).trans rfl
                 have hcz128_2 : w14.cell? ⟨gb264, 2, none⟩ = some (.bool false) := (blk_cell BK264.out 2).trans rfl
                 have hfz128_0 := blk_frozen BK264.out 0
                 have hfz128_1 := blk_frozen BK264.out 1
                 have hfz128_2 := blk_frozen BK264.out 2
                 go_wp2_with (first | ((with_reducible refine gate_callee (f := 15) rfl ?_); refine goesL_ (some 119) rfl rfl Try.func15 (by kernel_rfl) rfl #[.agg #[.bool x263000_2, .int .i64 x263001_2, .int .i64 x263002_2, .bool x263003_2], .int .i64 (wrap64 (x6_2 + (wrap64 ((rd_T47 l1 x8_2).f1)))), .int .i64 a0, .bool true, .bool ((rd_T47 l1 x8_2).f2)] rfl (by (try simp only [List.map_toArray, List.map_cons, List.map_nil]); first | done | rfl | (simp only [List.length_drop, List.length_take]; rfl)) ?_; (with_reducible refine (breaker_Breaker_Bad.calls k2 x263000_2 x263001_2 x263002_2 x263003_2 (wrap64 (x6_2 + (wrap64 ((rd_T47 l1 x8_2).f1)))) a0 true ((rd_T47 l1 x8_2).f2) t279 t280 t281 t282 t283 _ A120.out).mono ?_); rintro e w129 ⟨rfl, hb⟩; refine ⟨_, rfl, ?_⟩; have n0_ := Aside0.mk (blk_below (g := gb262) (o := .cells #[.bool x263000_2, .int .i64 x263001_2, .int .i64 x263002_2, .bool x263003_2] 23 (0, 0)) (by (with_reducible repeat (first | refine b1 ?_ _ | refine b2 ?_ | refine b3 ?_ _)); refine blk_far ?_ NB262_264.out _; (with_reducible repeat (first | refine b1 ?_ _ | refine b2 ?_ | refine b3 ?_ _)); refine blk_far ?_ NB262_264.out _; (with_reducible repeat (first | refine b1 ?_ _ | refine b2 ?_ | refine b3 ?_ _)); refine blk_far ?_ NB262_264.out _; (with_reducible repeat (first | refine b1 ?_ _ | refine b2 ?_ | refine b3 ?_ _)); exact BK262.out) hb); have n1_ := Aside0.mk (blk_below (g := gb264) (o := .cells #[.int .u8 ((rd_T47 l1 x8_2).f0), .int .u16 ((rd_T47 l1 x8_2).f1), .bool ((rd_T47 l1 x8_2).f2)] 47 (0, 0)) (by (with_reducible repeat (first | refine b1 ?_ _ | refine b2 ?_ | refine b3 ?_ _)); refine blk_put (cs := #[.int .u8 ((rd_T47 l1 x8_2).f0), .int .u16 ((rd_T47 l1 x8_2).f1), .bool false]) ?_ 2 _ rfl; (with_reducible repeat (first | refine b1 ?_ _ | refine b2 ?_ | refine b3 ?_ _)); refine blk_put (cs := #[.int .u8 ((rd_T47 l1 x8_2).f0), .int .u16 0, .bool false]) ?_ 1 _ rfl; (with_reducible repeat (first | refine b1 ?_ _ | refine b2 ?_ | refine b3 ?_ _)); refine blk_put (cs := #[.int .u8 0, .int .u16 0, .bool false]) ?_ 0 _ rfl; (with_reducible repeat (first | refine b1 ?_ _ | refine b2 ?_ | refine b3 ?_ _)); exact BK264.out) hb); have n2_ := Aside0.mk (below_step (by repeat (first | (with_reducible first | exact HB.out | apply below_alloc | apply pw_below_drewN | apply below_drew1 | refine below_set ?_ GE262.out | refine below_set ?_ GE264.out) | exact HB.out)) hb); clear BK262; clear BK264; clear HB; have BK262 := n0_; have BK264 := n1_; have HB := n2_; clear n0_ n1_ n2_; (try clear hb); (try clear hb2); (try clear hk); (try clear hi); have hcz130_0 : w129.cell? ⟨gb262, 0, none⟩ = some (.bool x263000_2) := (blk_cell BK262.out 0).trans rfl; have hcz130_1 : w129.cell? ⟨gb262, 1, none⟩ = some (.int .i64 x263001_2) := (blk_cell BK262.out 1).trans rfl; have hcz130_2 : w129.cell? ⟨gb262, 2, none⟩ = some (.int .i64 x263002_2) := (blk_cell BK262.out 2).trans rfl; have hcz130_3 : w129.cell? ⟨gb262, 3, none⟩ = some (.bool x263003_2) := (blk_cell BK262.out 3).trans rfl; have hfz130_0 := blk_frozen BK262.out 0; have hfz130_1 := blk_frozen BK262.out 1; have hfz130_2 := blk_frozen BK262.out 2; have hfz130_3 := blk_frozen BK262.out 3) | (go_at_call 11; (with_reducible refine (breaker_Breaker_State.calls t279 t280 t281 t282 (wrap64 (x6_2 + (wrap64 ((rd_T47 l1 x8_2).f1)))) t284 _ A122.out).mono ?_); rintro e w131 ⟨rfl, hb⟩; have n0_ := Aside0.mk (blk_below (g := gb262) (o := .cells #[.bool t279, .int .i64 t280, .int .i64 t281, .bool t282] 23 (0, 0)) (by (with_reducible repeat (first | refine b1 ?_ _ | refine b2 ?_ | refine b3 ?_ _)); refine blk_put (cs := #[.bool t279, .int .i64 t280, .int .i64 t281, .bool x263003_2]) ?_ 3 _ rfl; (with_reducible repeat (first | refine b1 ?_ _ | refine b2 ?_ | refine b3 ?_ _)); refine blk_put (cs := #[.bool t279, .int .i64 t280, .int .i64 x263002_2, .bool x263003_2]) ?_ 2 _ rfl; (with_reducible repeat (first | refine b1 ?_ _ | refine b2 ?_ | refine b3 ?_ _)); refine blk_put (cs := #[.bool t279, .int .i64 x263001_2, .int .i64 x263002_2, .bool x263003_2]) ?_ 1 _ rfl; (with_reducible repeat (first | refine b1 ?_ _ | refine b2 ?_ | refine b3 ?_ _)); refine blk_put (cs := #[.bool x263000_2, .int .i64 x263001_2, .int .i64 x263002_2, .bool x263003_2]) ?_ 0 _ rfl; (with_reducible repeat (first | refine b1 ?_ _ | refine b2 ?_ | refine b3 ?_ _)); exact BK262.out) hb); have n1_ := Aside0.mk (blk_below (g := gb264) (o := .cells #[.int .u8 ((rd_T47 l1 x8_2).f0), .int .u16 ((rd_T47 l1 x8_2).f1), .bool ((rd_T47 l1 x8_2).f2)] 47 (0, 0)) (by (with_reducible repeat (first | refine b1 ?_ _ | refine b2 ?_ | refine b3 ?_ _)); refine blk_far ?_ NB264_262.out _; (with_reducible repeat (first | refine b1 ?_ _ | refine b2 ?_ | refine b3 ?_ _)); refine blk_far ?_ NB264_262.out _; (with_reducible repeat (first | refine b1 ?_ _ | refine b2 ?_ | refine b3 ?_ _)); refine blk_far ?_ NB264_262.out _; (with_reducible repeat (first | refine b1 ?_ _ | refine b2 ?_ | refine b3 ?_ _)); refine blk_far ?_ NB264_262.out _; (with_reducible repeat (first | refine b1 ?_ _ | refine b2 ?_ | refine b3 ?_ _)); exact BK264.out) hb); have n2_ := Aside0.mk (below_step (by repeat (first | (with_reducible first | exact HB.out | apply below_alloc | apply pw_below_drewN | apply below_drew1 | refine below_set ?_ GE262.out | refine below_set ?_ GE264.out) | exact HB.out)) hb); clear BK262; clear BK264; clear HB; have BK262 := n0_; have BK264 := n1_; have HB := n2_; clear n0_ n1_ n2_; (try clear hb); (try clear hb2); (try clear hk); (try clear hi); have hcz132_0 : w131.cell? ⟨gb262, 0, none⟩ = some (.bool t279) := (blk_cell BK262.out 0).trans rfl; have hcz132_1 : w131.cell? ⟨gb262, 1, none⟩ = some (.int .i64 t280) := (blk_cell BK262.out 1).trans rfl; have hcz132_2 : w131.cell? ⟨gb262, 2, none⟩ = some (.int .i64 t281) := (blk_cell BK262.out 2).trans rfl; have hcz132_3 : w131.cell? ⟨gb262, 3, none⟩ = some (.bool t282) := (blk_cell BK262.out 3).trans rfl; have hfz132_0 := blk_frozen BK262.out 0; have hfz132_1 := blk_frozen BK262.out 1; have hfz132_2 := blk_frozen BK262.out 2; have hfz132_3 := blk_frozen BK262.out 3) | (go_at_call 13; (with_reducible refine (breaker_Breaker_Lets.calls t279 t280 t281 t282 (wrap64 (x6_2 + (wrap64 ((rd_T47 l1 x8_2).f1)))) false _ A124.out).mono ?_); rintro e w133 ⟨rfl, hb⟩; have n0_ := Aside0.mk (blk_below (g := gb262) (o := .cells #[.bool t279, .int .i64 t280, .int .i64 t281, .bool t282] 23 (0, 0)) (by (with_reducible repeat (first | refine b1 ?_ _ | refine b2 ?_ | refine b3 ?_ _)); exact BK262.out) hb); have n1_ := Aside0.mk (blk_below (g := gb264) (o := .cells #[.int .u8 ((rd_T47 l1 x8_2).f0), .int .u16 ((rd_T47 l1 x8_2).f1), .bool ((rd_T47 l1 x8_2).f2)] 47 (0, 0)) (by (with_reducible repeat (first | refine b1 ?_ _ | refine b2 ?_ | refine b3 ?_ _)); exact BK264.out) hb); have n2_ := Aside0.mk (below_step (by repeat (first | (with_reducible first | exact HB.out | apply below_alloc | apply pw_below_drewN | apply below_drew1 | refine below_set ?_ GE262.out | refine below_set ?_ GE264.out) | exact HB.out)) hb); clear BK262; clear BK264; clear HB; have BK262 := n0_; have BK264 := n1_; have HB := n2_; clear n0_ n1_ n2_; (try clear hb); (try clear hb2); (try clear hk); (try clear hi)))
                 go_meet
                 case rel => exact ⟨_, (false), (t283), (t279), (t280), (t281), (t282), (by first | rfl | (simp; done) | (simp [*]; done)), (by first | rfl | (simp; done) | (simp [*]; done)), H', ⟨by have := HJ4.out; have := HK2.out; first | omega | exact Nat.le_refl _⟩, ⟨by (with_reducible repeat (first | refine b1 ?_ _ | refine b2 ?_ | refine b3 ?_ _)); exact BK262.out⟩, ⟨by (with_reducible repeat (first | refine b1 ?_ _ | refine b2 ?_ | refine b3 ?_ _)); exact BK264.out⟩, ⟨by repeat (first | (with_reducible first | exact HB.out | apply below_alloc | apply pw_below_drewN | apply below_drew1 | refine below_set ?_ GE262.out | refine below_set ?_ GE264.out) | exact HB.out)⟩⟩
              ·
               rw [if_neg c123] at H
               have c123b0 : (t284 == 1) = false := beq_eq_false_iff_ne.mpr c123
               have c123b1 : (t284 != 1) = true := bne_iff_ne.mpr c123
               as_aux_lemma =>
                exact absurd ((Option.some.inj H).trans hT.out) (by decide)
             ·
              replace c121 := Bool.eq_false_iff.mpr c121
              subst c121
              have H1 : (postilionlaw09_BreakerOne.j2 k2 a0 l1 (wrap64 (x6_2 + (wrap64 ((rd_T47 l1 x8_2).f1)))) false x8_2 t283 t279 t280 t281 t282) = some r := by rw [if_neg (show ¬ (false = true) by decide)] at H; exact H
              clear H
              have H := H1
              clear H1
              as_aux_lemma =>
               have H' := Aside0.mk H
               clear H
               have hnb134 := NB262_264.out
               have hnc134 := NB264_262.out
               have hcz135_0 : w14.cell? ⟨gb262, 0, none⟩ = some (.bool x263000_2) := (blk_cell BK262.out 0).trans rfl
               have hcz135_1 : w14.cell? ⟨gb262, 1, none⟩ = some (.int .i64 x263001_2) := (blk_cell BK262.out 1).trans rfl
               have hcz135_2 : w14.cell? ⟨gb262, 2, none⟩ = some (.int .i64 x263002_2) := (blk_cell BK262.out 2).trans rfl
               have hcz135_3 : w14.cell? ⟨gb262, 3, none⟩ = some (.bool x263003_2) := (blk_cell BK262.out 3).trans rfl
               have hfz135_0 := blk_frozen BK262.out 0
               have hfz135_1 := blk_frozen BK262.out 1
               have hfz135_2 := blk_frozen BK262.out 2
               have hfz135_3 := blk_frozen BK262.out 3
               have hcz136_0 : w14.cell? ⟨gb264, 0, none⟩ = some (.int .u8 0) := (blk_cell BK264.out 0).trans rfl
               have hcz136_1 : w14.cell? ⟨gb264, 1, none⟩ = some (.int .u16 0) := (blk_cell BK264.out 1).trans rfl
               have hcz136_2 : w14.cell? ⟨gb264, 2, none⟩ = some (.bool false) := (blk_cell BK264.out 2).trans rfl
               have hfz136_0 := blk_frozen BK264.out 0
               have hfz136_1 := blk_frozen BK264.out 1
               have hfz136_2 := blk_frozen BK264.out 2
               go_wp2_with (first | ((with_reducible refine gate_callee (f := 15) rfl ?_); refine goesL_ (some 119) rfl rfl Try.func15 (by kernel_rfl) rfl #[.agg #[.bool x263000_2, .int .i64 x263001_2, .int .i64 x263002_2, .bool x263003_2], .int .i64 (wrap64 (x6_2 + (wrap64 ((rd_T47 l1 x8_2).f1)))), .int .i64 a0, .bool true, .bool ((rd_T47 l1 x8_2).f2)] rfl (by (try simp only [List.map_toArray, List.map_cons, List.map_nil]); first | done | rfl | (simp only [List.length_drop, List.length_take]; rfl)) ?_; (with_reducible refine (breaker_Breaker_Bad.calls k2 x263000_2 x263001_2 x263002_2 x263003_2 (wrap64 (x6_2 + (wrap64 ((rd_T47 l1 x8_2).f1)))) a0 true ((rd_T47 l1 x8_2).f2) t279 t280 t281 t282 t283 _ A120.out).mono ?_); rintro e w137 ⟨rfl, hb⟩; refine ⟨_, rfl, ?_⟩; have n0_ := Aside0.mk (blk_below (g := gb262) (o := .cells #[.bool x263000_2, .int .i64 x263001_2, .int .i64 x263002_2, .bool x263003_2] 23 (0, 0)) (by (with_reducible repeat (first | refine b1 ?_ _ | refine b2 ?_ | refine b3 ?_ _)); refine blk_far ?_ NB262_264.out _; (with_reducible repeat (first | refine b1 ?_ _ | refine b2 ?_ | refine b3 ?_ _)); refine blk_far ?_ NB262_264.out _; (with_reducible repeat (first | refine b1 ?_ _ | refine b2 ?_ | refine b3 ?_ _)); refine blk_far ?_ NB262_264.out _; (with_reducible repeat (first | refine b1 ?_ _ | refine b2 ?_ | refine b3 ?_ _)); exact BK262.out) hb); have n1_ := Aside0.mk (blk_below (g := gb264) (o := .cells #[.int .u8 ((rd_T47 l1 x8_2).f0), .int .u16 ((rd_T47 l1 x8_2).f1), .bool ((rd_T47 l1 x8_2).f2)] 47 (0, 0)) (by (with_reducible repeat (first | refine b1 ?_ _ | refine b2 ?_ | refine b3 ?_ _)); refine blk_put (cs := #[.int .u8 ((rd_T47 l1 x8_2).f0), .int .u16 ((rd_T47 l1 x8_2).f1), .bool false]) ?_ 2 _ rfl; (with_reducible repeat (first | refine b1 ?_ _ | refine b2 ?_ | refine b3 ?_ _)); refine blk_put (cs := #[.int .u8 ((rd_T47 l1 x8_2).f0), .int .u16 0, .bool false]) ?_ 1 _ rfl; (with_reducible repeat (first | refine b1 ?_ _ | refine b2 ?_ | refine b3 ?_ _)); refine blk_put (cs := #[.int .u8 0, .int .u16 0, .bool false]) ?_ 0 _ rfl; (with_reducible repeat (first | refine b1 ?_ _ | refine b2 ?_ | refine b3 ?_ _)); exact BK264.out) hb); have n2_ := Aside0.mk (below_step (by repeat (first | (with_reducible first | exact HB.out | apply below_alloc | apply pw_below_drewN | apply below_drew1 | refine below_set ?_ GE262.out | refine below_set ?_ GE264.out) | exact HB.out)) hb); clear BK262; clear BK264; clear HB; have BK262 := n0_; have BK264 := n1_; have HB := n2_; clear n0_ n1_ n2_; (try clear hb); (try clear hb2); (try clear hk); (try clear hi); have hcz138_0 : w137.cell? ⟨gb262, 0, none⟩ = some (.bool x263000_2) := (blk_cell BK262.out 0).trans rfl; have hcz138_1 : w137.cell? ⟨gb262, 1, none⟩ = some (.int .i64 x263001_2) := (blk_cell BK262.out 1).trans rfl; have hcz138_2 : w137.cell? ⟨gb262, 2, none⟩ = some (.int .i64 x263002_2) := (blk_cell BK262.out 2).trans rfl; have hcz138_3 : w137.cell? ⟨gb262, 3, none⟩ = some (.bool x263003_2) := (blk_cell BK262.out 3).trans rfl; have hfz138_0 := blk_frozen BK262.out 0; have hfz138_1 := blk_frozen BK262.out 1; have hfz138_2 := blk_frozen BK262.out 2; have hfz138_3 := blk_frozen BK262.out 3))
               go_meet
               case rel => exact ⟨_, (false), (t283), (t279), (t280), (t281), (t282), (by first | rfl | (simp; done) | (simp [*]; done)), (by first | rfl | (simp; done) | (simp [*]; done)), H', ⟨by have := HJ4.out; have := HK2.out; first | omega | exact Nat.le_refl _⟩, ⟨by (with_reducible repeat (first | refine b1 ?_ _ | refine b2 ?_ | refine b3 ?_ _)); refine blk_put (cs := #[.bool t279, .int .i64 t280, .int .i64 t281, .bool x263003_2]) ?_ 3 _ rfl; (with_reducible repeat (first | refine b1 ?_ _ | refine b2 ?_ | refine b3 ?_ _)); refine blk_put (cs := #[.bool t279, .int .i64 t280, .int .i64 x263002_2, .bool x263003_2]) ?_ 2 _ rfl; (with_reducible repeat (first | refine b1 ?_ _ | refine b2 ?_ | refine b3 ?_ _)); refine blk_put (cs := #[.bool t279, .int .i64 x263001_2, .int .i64 x263002_2, .bool x263003_2]) ?_ 1 _ rfl; (with_reducible repeat (first | refine b1 ?_ _ | refine b2 ?_ | refine b3 ?_ _)); refine blk_put (cs := #[.bool x263000_2, .int .i64 x263001_2, .int .i64 x263002_2, .bool x263003_2]) ?_ 0 _ rfl; (with_reducible repeat (first | refine b1 ?_ _ | refine b2 ?_ | refine b3 ?_ _)); exact BK262.out⟩, ⟨by (with_reducible repeat (first | refine b1 ?_ _ | refine b2 ?_ | refine b3 ?_ _)); refine blk_far ?_ NB264_262.out _; (with_reducible repeat (first | refine b1 ?_ _ | refine b2 ?_ | refine b3 ?_ _)); refine blk_far ?_ NB264_262.out _; (with_reducible repeat (first | refine b1 ?_ _ | refine b2 ?_ | refine b3 ?_ _)); refine blk_far ?_ NB264_262.out _; (with_reducible repeat (first | refine b1 ?_ _ | refine b2 ?_ | refine b3 ?_ _)); refine blk_far ?_ NB264_262.out _; (with_reducible repeat (first | refine b1 ?_ _ | refine b2 ?_ | refine b3 ?_ _)); exact BK264.out⟩, ⟨by repeat (first | (with_reducible first | exact HB.out | apply below_alloc | apply pw_below_drewN | apply below_drew1 | refine below_set ?_ GE262.out | refine below_set ?_ GE264.out) | exact HB.out)⟩⟩
            ·
             rw [if_neg c119] at H
             have c119b0 : ((Int.tmod ((rd_T47 l1 x8_2).f0) 6) == 2) = false := beq_eq_false_iff_ne.mpr c119
             have c119b1 : ((Int.tmod ((rd_T47 l1 x8_2).f0) 6) != 2) = true := bne_iff_ne.mpr c119
             by_cases c139 : (Int.tmod ((rd_T47 l1 x8_2).f0) 6) = 3
             ·
              rw [if_pos c139] at H
              have c139b0 : ((Int.tmod ((rd_T47 l1 x8_2).f0) 6) == 3) = true := beq_iff_eq.mpr c139
              have c139b1 : ((Int.tmod ((rd_T47 l1 x8_2).f0) 6) != 3) = false := bne_eq_false_iff_eq.mpr c139
              clear c139
              replace H := Option.bind_eq_some_iff.mp H
              obtain ⟨⟨t286, t287, t288, t289⟩, A1400, H⟩ := H
              replace H : (postilionlaw09_BreakerOne.j2 k2 a0 l1 (wrap64 (x6_2 + (wrap64 ((rd_T47 l1 x8_2).f1)))) false x8_2 0 t286 t287 t288 t289) = some r := H
              have A140 := Aside0.mk A1400
              clear A1400
              as_aux_lemma =>
               have H' := Aside0.mk H
               clear H
               have hnb141 := NB262_264.out
               have hnc141 := NB264_262.out
               have hcz142_0 : w14.cell? ⟨gb262, 0, none⟩ = some (.bool x263000_2) := (blk_cell BK262.out 0).trans rfl
               have hcz142_1 : w14.cell? ⟨gb262, 1, none⟩ = some (.int .i64 x263001_2) := (blk_cell BK262.out 1).trans rfl
               have hcz142_2 : w14.cell? ⟨gb262, 2, none⟩ = some (.int .i64 x263002_2) := (blk_cell BK262.out 2).trans rfl
               have hcz142_3 : w14.cell? ⟨gb262, 3, none⟩ = some (.bool x263003_2) := (blk_cell BK262.out 3).trans rfl
               have hfz142_0 := blk_frozen BK262.out 0
               have hfz142_1 := blk_frozen BK262.out 1
               have hfz142_2 := blk_frozen BK262.out 2
               have hfz142_3 := blk_frozen BK262.out 3
               go_wp2_with (first | ((with_reducible refine gate_callee (f := 19) rfl ?_); refine goesL_ (some 137) rfl rfl Try.func19 (by kernel_rfl) rfl #[.agg #[.bool x263000_2, .int .i64 x263001_2, .int .i64 x263002_2, .bool x263003_2], .bool true] rfl (by (try simp only [List.map_toArray, List.map_cons, List.map_nil]); first | done | rfl | (simp only [List.length_drop, List.length_take]; rfl)) ?_; (with_reducible refine (breaker_Breaker_Back.calls x263000_2 x263001_2 x263002_2 x263003_2 true t286 t287 t288 t289 _ A140.out).mono ?_); rintro e w143 ⟨rfl, hb⟩; refine ⟨_, rfl, ?_⟩; have n0_ := Aside0.mk (blk_below (g := gb262) (o := .cells #[.bool x263000_2, .int .i64 x263001_2, .int .i64 x263002_2, .bool x263003_2] 23 (0, 0)) (by (with_reducible repeat (first | refine b1 ?_ _ | refine b2 ?_ | refine b3 ?_ _)); refine blk_far ?_ NB262_264.out _; (with_reducible repeat (first | refine b1 ?_ _ | refine b2 ?_ | refine b3 ?_ _)); refine blk_far ?_ NB262_264.out _; (with_reducible repeat (first | refine b1 ?_ _ | refine b2 ?_ | refine b3 ?_ _)); refine blk_far ?_ NB262_264.out _; (with_reducible repeat (first | refine b1 ?_ _ | refine b2 ?_ | refine b3 ?_ _)); exact BK262.out) hb); have n1_ := Aside0.mk (blk_below (g := gb264) (o := .cells #[.int .u8 ((rd_T47 l1 x8_2).f0), .int .u16 ((rd_T47 l1 x8_2).f1), .bool ((rd_T47 l1 x8_2).f2)] 47 (0, 0)) (by (with_reducible repeat (first | refine b1 ?_ _ | refine b2 ?_ | refine b3 ?_ _)); refine blk_put (cs := #[.int .u8 ((rd_T47 l1 x8_2).f0), .int .u16 ((rd_T47 l1 x8_2).f1), .bool false]) ?_ 2 _ rfl; (with_reducible repeat (first | refine b1 ?_ _ | refine b2 ?_ | refine b3 ?_ _)); refine blk_put (cs := #[.int .u8 ((rd_T47 l1 x8_2).f0), .int .u16 0, .bool false]) ?_ 1 _ rfl; (with_reducible repeat (first | refine b1 ?_ _ | refine b2 ?_ | refine b3 ?_ _)); refine blk_put (cs := #[.int .u8 0, .int .u16 0, .bool false]) ?_ 0 _ rfl; (with_reducible repeat (first | refine b1 ?_ _ | refine b2 ?_ | refine b3 ?_ _)); exact BK264.out) hb); have n2_ := Aside0.mk (below_step (by repeat (first | (with_reducible first | exact HB.out | apply below_alloc | apply pw_below_drewN | apply below_drew1 | refine below_set ?_ GE262.out | refine below_set ?_ GE264.out) | exact HB.out)) hb); clear BK262; clear BK264; clear HB; have BK262 := n0_; have BK264 := n1_; have HB := n2_; clear n0_ n1_ n2_; (try clear hb); (try clear hb2); (try clear hk); (try clear hi); have hcz144_0 : w143.cell? ⟨gb262, 0, none⟩ = some (.bool x263000_2) := (blk_cell BK262.out 0).trans rfl; have hcz144_1 : w143.cell? ⟨gb262, 1, none⟩ = some (.int .i64 x263001_2) := (blk_cell BK262.out 1).trans rfl; have hcz144_2 : w143.cell? ⟨gb262, 2, none⟩ = some (.int .i64 x263002_2) := (blk_cell BK262.out 2).trans rfl; have hcz144_3 : w143.cell? ⟨gb262, 3, none⟩ = some (.bool x263003_2) := (blk_cell BK262.out 3).trans rfl; have hfz144_0 := blk_frozen BK262.out 0; have hfz144_1 := blk_frozen BK262.out 1; have hfz144_2 := blk_frozen BK262.out 2; have hfz144_3 := blk_frozen BK262.out 3))
               go_meet
               case rel => exact ⟨_, (false), (0), (t286), (t287), (t288), (t289), (by first | rfl | (simp; done) | (simp [*]; done)), (by first | rfl | (simp; done) | (simp [*]; done)), H', ⟨by have := HJ4.out; have := HK2.out; first | omega | exact Nat.le_refl _⟩, ⟨by (with_reducible repeat (first | refine b1 ?_ _ | refine b2 ?_ | refine b3 ?_ _)); refine blk_put (cs := #[.bool t286, .int .i64 t287, .int .i64 t288, .bool x263003_2]) ?_ 3 _ rfl; (with_reducible repeat (first | refine b1 ?_ _ | refine b2 ?_ | refine b3 ?_ _)); refine blk_put (cs := #[.bool t286, .int .i64 t287, .int .i64 x263002_2, .bool x263003_2]) ?_ 2 _ rfl; (with_reducible repeat (first | refine b1 ?_ _ | refine b2 ?_ | refine b3 ?_ _)); refine blk_put (cs := #[.bool t286, .int .i64 x263001_2, .int .i64 x263002_2, .bool x263003_2]) ?_ 1 _ rfl; (with_reducible repeat (first | refine b1 ?_ _ | refine b2 ?_ | refine b3 ?_ _)); refine blk_put (cs := #[.bool x263000_2, .int .i64 x263001_2, .int .i64 x263002_2, .bool x263003_2]) ?_ 0 _ rfl; (with_reducible repeat (first | refine b1 ?_ _ | refine b2 ?_ | refine b3 ?_ _)); exact BK262.out⟩, ⟨by (with_reducible repeat (first | refine b1 ?_ _ | refine b2 ?_ | refine b3 ?_ _)); refine blk_far ?_ NB264_262.out _; (with_reducible repeat (first | refine b1 ?_ _ | refine b2 ?_ | refine b3 ?_ _)); refine blk_far ?_ NB264_262.out _; (with_reducible repeat (first | refine b1 ?_ _ | refine b2 ?_ | refine b3 ?_ _)); refine blk_far ?_ NB264_262.out _; (with_reducible repeat (first | refine b1 ?_ _ | refine b2 ?_ | refine b3 ?_ _)); refine blk_far ?_ NB264_262.out _; (with_reducible repeat (first | refine b1 ?_ _ | refine b2 ?_ | refine b3 ?_ _)); exact BK264.out⟩, ⟨by repeat (first | (with_reducible first | exact HB.out | apply below_alloc | apply pw_below_drewN | apply below_drew1 | refine below_set ?_ GE262.out | refine below_set ?_ GE264.out) | exact HB.out)⟩⟩
             ·
              rw [if_neg c139] at H
              have c139b0 : ((Int.tmod ((rd_T47 l1 x8_2).f0) 6) == 3) = false := beq_eq_false_iff_ne.mpr c139
              have c139b1 : ((Int.tmod ((rd_T47 l1 x8_2).f0) 6) != 3) = true := bne_iff_ne.mpr c139
              by_cases c145 : (Int.tmod ((rd_T47 l1 x8_2).f0) 6) = 4
              ·
               rw [if_pos c145] at H
               have c145b0 : ((Int.tmod ((rd_T47 l1 x8_2).f0) 6) == 4) = true := beq_iff_eq.mpr c145
               have c145b1 : ((Int.tmod ((rd_T47 l1 x8_2).f0) 6) != 4) = false := bne_eq_false_iff_eq.mpr c145
               clear c145
               replace H := Option.bind_eq_some_iff.mp H
               obtain ⟨t290, A1460, H⟩ := H
               replace H : ((breaker_Breaker_Bad.f k2 x263000_2 x263001_2 x263002_2 x263003_2 (wrap64 (x6_2 + (wrap64 ((rd_T47 l1 x8_2).f1)))) a0 false ((rd_T47 l1 x8_2).f2)).bind fun bt291 => (if t290 = 0 then ((breaker_Breaker_State.f bt291.1 bt291.2.1 bt291.2.2.1 bt291.2.2.2.1 (wrap64 (x6_2 + (wrap64 ((rd_T47 l1 x8_2).f1))))).bind fun t296 => (if ((t296 == 1) != ((rd_T47 l1 x8_2).f2)) = true then (some false) else (postilionlaw09_BreakerOne.j2 k2 a0 l1 (wrap64 (x6_2 + (wrap64 ((rd_T47 l1 x8_2).f1)))) x7_2 x8_2 bt291.2.2.2.2 bt291.1 bt291.2.1 bt291.2.2.1 bt291.2.2.2.1))) else (postilionlaw09_BreakerOne.j2 k2 a0 l1 (wrap64 (x6_2 + (wrap64 ((rd_T47 l1 x8_2).f1)))) x7_2 x8_2 bt291.2.2.2.2 bt291.1 bt291.2.1 bt291.2.2.1 bt291.2.2.2.1))) = some r := H
               have A146 := Aside0.mk A1460
               clear A1460
               replace H := Option.bind_eq_some_iff.mp H
               obtain ⟨⟨t291, t292, t293, t294, t295⟩, A1470, H⟩ := H
               replace H : (if t290 = 0 then ((breaker_Breaker_State.f t291 t292 t293 t294 (wrap64 (x6_2 + (wrap64 ((rd_T47 l1 x8_2).f1))))).bind fun t296 => (if ((t296 == 1) != ((rd_T47 l1 x8_2).f2)) = true then (some false) else (postilionlaw09_BreakerOne.j2 k2 a0 l1 (wrap64 (x6_2 + (wrap64 ((rd_T47 l1 x8_2).f1)))) x7_2 x8_2 t295 t291 t292 t293 t294))) else (postilionlaw09_BreakerOne.j2 k2 a0 l1 (wrap64 (x6_2 + (wrap64 ((rd_T47 l1 x8_2).f1)))) x7_2 x8_2 t295 t291 t292 t293 t294)) = some r := H
               have A147 := Aside0.mk A1470
               clear A1470
               by_cases c148 : t290 = 0
               ·
                rw [if_pos c148] at H
                have c148b0 : (t290 == 0) = true := beq_iff_eq.mpr c148
                have c148b1 : (t290 != 0) = false := bne_eq_false_iff_eq.mpr c148
                clear c148
                replace H := Option.bind_eq_some_iff.mp H
                obtain ⟨t296, A1490, H⟩ := H
                replace H : (if ((t296 == 1) != ((rd_T47 l1 x8_2).f2)) = true then (some false) else (postilionlaw09_BreakerOne.j2 k2 a0 l1 (wrap64 (x6_2 + (wrap64 ((rd_T47 l1 x8_2).f1)))) x7_2 x8_2 t295 t291 t292 t293 t294)) = some r := H
                have A149 := Aside0.mk A1490
                clear A1490
                by_cases c150 : ((t296 == 1) != ((rd_T47 l1 x8_2).f2)) = true
                ·
                 rw [if_pos c150] at H
                 have c150b0 : ((t296 == 1) != ((rd_T47 l1 x8_2).f2)) = true := c150
                 (try (have c150b1 : decide ((t296 == 1) = ((rd_T47 l1 x8_2).f2)) = false := by simpa using c150))
                 (try (have c150b2 : ((t296 == 1) == ((rd_T47 l1 x8_2).f2)) = false := by simpa using c150))
                 (try (have c150b3 : ¬ ((t296 == 1) = ((rd_T47 l1 x8_2).f2)) := by simpa using c150))
                 clear c150
                 as_aux_lemma =>
                  exact absurd ((Option.some.inj H).trans hT.out) (by decide)
                ·
                 rw [if_neg c150] at H
                 have c150b0 : ((t296 == 1) != ((rd_T47 l1 x8_2).f2)) = false := by simpa using c150
                 (try (have c150b1 : decide ((t296 == 1) = ((rd_T47 l1 x8_2).f2)) = true := by simpa using c150))
                 (try (have c150b2 : ((t296 == 1) == ((rd_T47 l1 x8_2).f2)) = true := by simpa using c150))
                 clear c150
                 as_aux_lemma =>
                  have H' := Aside0.mk H
                  clear H
                  have hnb151 := NB262_264.out
                  have hnc151 := NB264_262.out
                  have hcz152_0 : w14.cell? ⟨gb262, 0, none⟩ = some (.bool x263000_2) := (blk_cell BK262.out 0).trans rfl
                  have hcz152_1 : w14.cell? ⟨gb262, 1, none⟩ = some (.int .i64 x263001_2) := (blk_cell BK262.out 1).trans rfl
                  have hcz152_2 : w14.cell? ⟨gb262, 2, none⟩ = some (.int .i64 x263002_2) := (blk_cell BK262.out 2).trans rfl
                  have hcz152_3 : w14.cell? ⟨gb262, 3, none⟩ = some (.bool x263003_2) := (blk_cell BK262.out 3).trans rfl
                  have hfz152_0 := blk_frozen BK262.out 0
                  have hfz152_1 := blk_frozen BK262.out 1
                  have hfz152_2 := blk_frozen BK262.out 2
                  have hfz152_3 := blk_frozen BK262.out 3
                  try go_wp2_with (first | ((with_reducible refine gate_callee (f := 11) rfl ?_); refine goesL_ (some 142) rfl rfl Try.func11 (by kernel_rfl) rfl #[.agg #[.bool x263000_2, .int .i64 x263001_2, .int .i64 x263002_2, .bool x263003_2], .int .i64 (wrap64 (x6_2 + (wrap64 ((rd_T47 l1 x8_2).f1))))] rfl (by (try simp only [List.map_toArray, List.map_cons, List.map_nil]); first | done | rfl | (simp only [List.length_drop, List.length_take]; rfl)) ?_; (with_reducible refine (breaker_Breaker_State.calls x263000_2 x263001_2 x263002_2 x263003_2 (wrap64 (x6_2 + (wrap64 ((rd_T47 l1 x8_2).f1)))) t290 _ A146.out).mono ?_); rintro e w153 ⟨rfl, hb⟩; refine ⟨_, rfl, ?_⟩; have n0_ := Aside0.mk (blk_below (g := gb262) (o := .cells #[.bool x263000_2, .int .i64 x263001_2, .int .i64 x263002_2, .bool x263003_2] 23 (0, 0)) (by (with_reducible repeat (first | refine b1 ?_ _ | refine b2 ?_ | refine b3 ?_ _)); refine blk_far ?_ NB262_264.out _; (with_reducible repeat (first | refine b1 ?_ _ | refine b2 ?_ | refine b3 ?_ _)); refine blk_far ?_ NB262_264.out _; (with_reducible repeat (first | refine b1 ?_ _ | refine b2 ?_ | refine b3 ?_ _)); refine blk_far ?_ NB262_264.out _; (with_reducible repeat (first | refine b1 ?_ _ | refine b2 ?_ | refine b3 ?_ _)); exact BK262.out) hb); have n1_ := Aside0.mk (blk_below (g := gb264) (o := .cells #[.int .u8 ((rd_T47 l1 x8_2).f0), .int .u16 ((rd_T47 l1 x8_2).f1), .bool ((rd_T47 l1 x8_2).f2)] 47 (0, 0)) (by (with_reducible repeat (first | refine b1 ?_ _ | refine b2 ?_ | refine b3 ?_ _)); refine blk_put (cs := #[.int .u8 ((rd_T47 l1 x8_2).f0), .int .u16 ((rd_T47 l1 x8_2).f1), .bool false]) ?_ 2 _ rfl; (with_reducible repeat (first | refine b1 ?_ _ | refine b2 ?_ | refine b3 ?_ _)); refine blk_put (cs := #[.int .u8 ((rd_T47 l1 x8_2).f0), .int .u16 0, .bool false]) ?_ 1 _ rfl; (with_reducible repeat (first | refine b1 ?_ _ | refine b2 ?_ | refine b3 ?_ _)); refine blk_put (cs := #[.int .u8 0, .int .u16 0, .bool false]) ?_ 0 _ rfl; (with_reducible repeat (first | refine b1 ?_ _ | refine b2 ?_ | refine b3 ?_ _)); exact BK264.out) hb); have n2_ := Aside0.mk (below_step (by repeat (first | (with_reducible first | exact HB.out | apply below_alloc | apply pw_below_drewN | apply below_drew1 | refine below_set ?_ GE262.out | refine below_set ?_ GE264.out) | exact HB.out)) hb); clear BK262; clear BK264; clear HB; have BK262 := n0_; have BK264 := n1_; have HB := n2_; clear n0_ n1_ n2_; (try clear hb); (try clear hb2); (try clear hk); (try clear hi); have hcz154_0 : w153.cell? ⟨gb262, 0, none⟩ = some (.bool x263000_2) := (blk_cell BK262.out 0).trans rfl; have hcz154_1 : w153.cell? ⟨gb262, 1, none⟩ = some (.int .i64 x263001_2) := (blk_cell BK262.out 1).trans rfl; have hcz154_2 : w153.cell? ⟨gb262, 2, none⟩ = some (.int .i64 x263002_2) := (blk_cell BK262.out 2).trans rfl; have hcz154_3 : w153.cell? ⟨gb262, 3, none⟩ = some (.bool x263003_2) := (blk_cell BK262.out 3).trans rfl; have hfz154_0 := blk_frozen BK262.out 0; have hfz154_1 := blk_frozen BK262.out 1; have hfz154_2 := blk_frozen BK262.out 2; have hfz154_3 := blk_frozen BK262.out 3; have hcz155_0 : w153.cell? ⟨gb264, 0, none⟩ = some (.int .u8 ((rd_T47 l1 x8_2).f0)) := (blk_cell BK264.out 0).trans rfl; have hcz155_1 : w153.cell? ⟨gb264, 1, none⟩ = some (.int .u16 ((rd_T47 l1 x8_2).f1)) := (blk_cell BK264.out 1).trans rfl; have hcz155_2 : w153.cell? ⟨gb264, 2, none⟩ = some (.bool ((rd_T47 l1 x8_2).f2)) := (blk_cell BK264.out 2).trans rfl; have hfz155_0 := blk_frozen BK264.out 0; have hfz155_1 := blk_frozen BK264.out 1; have hfz155_2 := blk_frozen BK264.out 2) | ((with_reducible refine gate_callee (f := 15) rfl ?_); refine goesL_ (some 149) rfl rfl Try.func15 (by kernel_rfl) rfl #[.agg #[.bool x263000_2, .int .i64 x263001_2, .int .i64 x263002_2, .bool x263003_2], .int .i64 (wrap64 (x6_2 + (wrap64 ((rd_T47 l1 x8_2).f1)))), .int .i64 a0, .bool false, .bool ((rd_T47 l1 x8_2).f2)] rfl (by (try simp only [List.map_toArray, List.map_cons, List.map_nil]); first | done | rfl | (simp only [List.length_drop, List.length_take]; rfl)) ?_; (with_reducible refine (breaker_Breaker_Bad.calls k2 x263000_2 x263001_2 x263002_2 x263003_2 (wrap64 (x6_2 + (wrap64 ((rd_T47 l1 x8_2).f1)))) a0 false ((rd_T47 l1 x8_2).f2) t291 t292 t293 t294 t295 _ A147.out).mono ?_); rintro e w156 ⟨rfl, hb⟩; refine ⟨_, rfl, ?_⟩; have n0_ := Aside0.mk (blk_below (g := gb262) (o := .cells #[.bool x263000_2, .int .i64 x263001_2, .int .i64 x263002_2, .bool x263003_2] 23 (0, 0)) (by (with_reducible repeat (first | refine b1 ?_ _ | refine b2 ?_ | refine b3 ?_ _)); exact BK262.out) hb); have n1_ := Aside0.mk (blk_below (g := gb264) (o := .cells #[.int .u8 ((rd_T47 l1 x8_2).f0), .int .u16 ((rd_T47 l1 x8_2).f1), .bool ((rd_T47 l1 x8_2).f2)] 47 (0, 0)) (by (with_reducible repeat (first | refine b1 ?_ _ | refine b2 ?_ | refine b3 ?_ _)); exact BK264.out) hb); have n2_ := Aside0.mk (below_step (by repeat (first | (with_reducible first | exact HB.out | apply below_alloc | apply pw_below_drewN | apply below_drew1 | refine below_set ?_ GE262.out | refine below_set ?_ GE264.out) | exact HB.out)) hb); clear BK262; clear BK264; clear HB; have BK262 := n0_; have BK264 := n1_; have HB := n2_; clear n0_ n1_ n2_; (try clear hb); (try clear hb2); (try clear hk); (try clear hi); have hcz157_0 : w156.cell? ⟨gb262, 0, none⟩ = some (.bool x263000_2) := (blk_cell BK262.out 0).trans rfl; have hcz157_1 : w156.cell? ⟨gb262, 1, none⟩ = some (.int .i64 x263001_2) := (blk_cell BK262.out 1).trans rfl; have hcz157_2 : w156.cell? ⟨gb262, 2, none⟩ = some (.int .i64 x263002_2) := (blk_cell BK262.out 2).trans rfl; have hcz157_3 : w156.cell? ⟨gb262, 3, none⟩ = some (.bool x263003_2) := (blk_cell BK262.out 3).trans rfl; have hfz157_0 := blk_frozen BK262.out 0; have hfz157_1 := blk_frozen BK262.out 1; have hfz157_2 := blk_frozen BK262.out 2; have hfz157_3 := blk_frozen BK262.out 3))
                  have n0_ : Aside0 (((((w156.setCell ⟨gb262, 0, none⟩ (.bool t291)).setCell ⟨gb262, 1, none⟩ (.int .i64 t292)).setCell ⟨gb262, 2, none⟩ (.int .i64 t293)).setCell ⟨gb262, 3, none⟩ (.bool t294)).heap[gb262]? = some (.cells #[.bool t291, .int .i64 t292, .int .i64 t293, .bool t294] 23 (0, 0))) := ⟨by (with_reducible repeat (first | refine b1 ?_ _ | refine b2 ?_ | refine b3 ?_ _)); refine blk_put (cs := #[.bool t291, .int .i64 t292, .int .i64 t293, .bool x263003_2]) ?_ 3 _ rfl; (with_reducible repeat (first | refine b1 ?_ _ | refine b2 ?_ | refine b3 ?_ _)); refine blk_put (cs := #[.bool t291, .int .i64 t292, .int .i64 x263002_2, .bool x263003_2]) ?_ 2 _ rfl; (with_reducible repeat (first | refine b1 ?_ _ | refine b2 ?_ | refine b3 ?_ _)); refine blk_put (cs := #[.bool t291, .int .i64 x263001_2, .int .i64 x263002_2, .bool x263003_2]) ?_ 1 _ rfl; (with_reducible repeat (first | refine b1 ?_ _ | refine b2 ?_ | refine b3 ?_ _)); refine blk_put (cs := #[.bool x263000_2, .int .i64 x263001_2, .int .i64 x263002_2, .bool x263003_2]) ?_ 0 _ rfl; (with_reducible repeat (first | refine b1 ?_ _ | refine b2 ?_ | refine b3 ?_ _)); exact BK262.out⟩
                  have n1_ : Aside0 (((((w156.setCell ⟨gb262, 0, none⟩ (.bool t291)).setCell ⟨gb262, 1, none⟩ (.int .i64 t292)).setCell ⟨gb262, 2, none⟩ (.int .i64 t293)).setCell ⟨gb262, 3, none⟩ (.bool t294)).heap[gb264]? = some (.cells #[.int .u8 ((rd_T47 l1 x8_2).f0), .int .u16 ((rd_T47 l1 x8_2).f1), .bool ((rd_T47 l1 x8_2).f2)] 47 (0, 0))) := ⟨by (with_reducible repeat (first | refine b1 ?_ _ | refine b2 ?_ | refine b3 ?_ _)); refine blk_far ?_ NB264_262.out _; (with_reducible repeat (first | refine b1 ?_ _ | refine b2 ?_ | refine b3 ?_ _)); refine blk_far ?_ NB264_262.out _; (with_reducible repeat (first | refine b1 ?_ _ | refine b2 ?_ | refine b3 ?_ _)); refine blk_far ?_ NB264_262.out _; (with_reducible repeat (first | refine b1 ?_ _ | refine b2 ?_ | refine b3 ?_ _)); refine blk_far ?_ NB264_262.out _; (with_reducible repeat (first | refine b1 ?_ _ | refine b2 ?_ | refine b3 ?_ _)); exact BK264.out⟩
                  have n2_ : Aside0 (Below w.heap.size w ((((w156.setCell ⟨gb262, 0, none⟩ (.bool t291)).setCell ⟨gb262, 1, none⟩ (.int .i64 t292)).setCell ⟨gb262, 2, none⟩ (.int .i64 t293)).setCell ⟨gb262, 3, none⟩ (.bool t294))) := ⟨by repeat (first | (with_reducible first | exact HB.out | apply below_alloc | apply pw_below_drewN | apply below_drew1 | refine below_set ?_ GE262.out | refine below_set ?_ GE264.out) | exact HB.out)⟩
                  (try clear BK262)
                  (try clear BK264)
                  (try clear HB)
                  generalize ((((w156.setCell ⟨gb262, 0, none⟩ (.bool t291)).setCell ⟨gb262, 1, none⟩ (.int .i64 t292)).setCell ⟨gb262, 2, none⟩ (.int .i64 t293)).setCell ⟨gb262, 3, none⟩ (.bool t294)) = w158 at n0_ n1_ n2_ ⊢
                  have BK262 := n0_
                  have BK264 := n1_
                  have HB := n2_
                  clear n0_ n1_ n2_
                  have n0_ := Aside0.mk (blk_drew BK262.out)
                  have n1_ := Aside0.mk (blk_drew BK264.out)
                  have n2_ := Aside0.mk (below_drew1 HB.out)
                  clear BK262
                  clear BK264
                  clear HB
                  have BK262 := n0_
                  have BK264 := n1_
                  have HB := n2_
                  clear n0_ n1_ n2_
                  refine start_ (n := 11) (S := fun w' => w'.cell? ⟨gb262, 0, none⟩ = some (.bool t291) ∧ w'.cell? ⟨gb262, 1, none⟩ = some (.int .i64 t292) ∧ w'.cell? ⟨gb262, 2, none⟩ = some (.int .i64 t293) ∧ w'.cell? ⟨gb262, 3, none⟩ = some (.bool t294) ∧ w'.cell? ⟨gb264, 0, none⟩ = some (.int .u8 ((rd_T47 l1 x8_2).f0)) ∧ w'.cell? ⟨gb264, 1, none⟩ = some (.int .u16 ((rd_T47 l1 x8_2).f1)) ∧ w'.cell? ⟨gb264, 2, none⟩ = some (.bool ((rd_T47 l1 x8_2).f2))) (ds := []) #[false, false, false, false, false, false, false, false, false, false, false] (by kernel_rfl) rfl rfl ⟨(blk_cell BK262.out 0).trans rfl, (blk_cell BK262.out 1).trans rfl, (blk_cell BK262.out 2).trans rfl, (blk_cell BK262.out 3).trans rfl, (blk_cell BK264.out 0).trans rfl, (blk_cell BK264.out 1).trans rfl, (blk_cell BK264.out 2).trans rfl⟩ (fun hHeld => ?_); refine with_tabW postilionlaw09_BreakerOne.tab40 postilionlaw09_BreakerOne.bits40 (fun HT_ HW_ => ?_)
                  generalize w158.drew = w159 at BK262 BK264 HB hHeld ⊢
                  refine pure_ (i := 0) (N := some 152) (v := ?_) (a' := ?_) #[true, false, false, false, false, false, false, false, false, false, false] rfl rfl (any_of HT_.out (by kernel_rfl)) (fun _ _ _ h => h) (Or.inl ⟨by rfl, ?_⟩) ?_ ?_
                  rotate_left
                  ·
                   intro w'
                   go_simp
                   with_reducible rfl
                  rotate_left
                  ·
                   simp only [Act.put, List.setIfInBounds_toArray, List.set_cons_zero, List.set_cons_succ, i64_w, i32_w]
                   rfl
                  refine pure_ (i := 1) (N := some 153) (v := ?_) (a' := ?_) #[true, true, false, false, false, false, false, false, false, false, false] rfl rfl (any_of HT_.out (by kernel_rfl)) (fun _ _ _ h => h) (Or.inl ⟨by rfl, ?_⟩) ?_ ?_
                  rotate_left
                  ·
                   intro w'
                   go_simp
                   with_reducible rfl
                  rotate_left
                  ·
                   simp only [Act.put, List.setIfInBounds_toArray, List.set_cons_zero, List.set_cons_succ, i64_w, i32_w]
                   rfl
                  refine pure_ (i := 2) (N := some 154) (v := ?_) (a' := ?_) #[true, true, true, false, false, false, false, false, false, false, false] rfl rfl (any_of HT_.out (by kernel_rfl)) (fun _ _ _ h => h) (Or.inl ⟨by rfl, ?_⟩) ?_ ?_
                  rotate_left
                  ·
                   intro w'
                   go_simp
                   with_reducible rfl
                  rotate_left
                  ·
                   simp only [Act.put, List.setIfInBounds_toArray, List.set_cons_zero, List.set_cons_succ, i64_w, i32_w]
                   rfl
                  refine pure_ (i := 4) (N := some 156) (v := ?_) (a' := ?_) #[true, true, true, false, true, false, false, false, false, false, false] rfl rfl (any_of HT_.out (by kernel_rfl)) (fun _ _ _ h => h) (Or.inl ⟨by rfl, ?_⟩) ?_ ?_
                  rotate_left
                  ·
                   intro w'
                   go_simp
                   with_reducible rfl
                  rotate_left
                  ·
                   simp only [Act.put, List.setIfInBounds_toArray, List.set_cons_zero, List.set_cons_succ, i64_w, i32_w]
                   rfl
                  refine pure_ (i := 7) (N := some 159) (v := ?_) (a' := ?_) #[true, true, true, false, true, false, false, true, false, false, false] rfl rfl (any_of HT_.out (by kernel_rfl)) (fun _ _ _ h => h) (Or.inl ⟨by rfl, ?_⟩) ?_ ?_
                  rotate_left
                  ·
                   intro w'
                   go_simp
                   with_reducible rfl
                  rotate_left
                  ·
                   simp only [Act.put, List.setIfInBounds_toArray, List.set_cons_zero, List.set_cons_succ, i64_w, i32_w]
                   rfl
                  refine take_ (i := 3) (N := some 155) (v := ?_) (a' := ?_) #[true, true, true, true, true, false, false, true, false, false, false] rfl rfl (take_ofW HT_.out HW_.out (by kernel_rfl)) (fun _ _ _ h => h) (Or.inl ⟨by rfl, ?_⟩) hHeld ?_ ?_
                  rotate_left
                  ·
                   rintro w' ⟨s0, s1, s2, s3, s4, s5, s6⟩
                   go_simp
                   with_reducible rfl
                  rotate_left
                  ·
                   simp only [Act.put, List.setIfInBounds_toArray, List.set_cons_zero, List.set_cons_succ, i64_w, i32_w]
                   rfl
                  refine take_ (i := 8) (N := some 160) (v := ?_) (a' := ?_) #[true, true, true, true, true, false, false, true, true, false, false] rfl rfl (take_ofW HT_.out HW_.out (by kernel_rfl)) (fun _ _ _ h => h) (Or.inl ⟨by rfl, ?_⟩) hHeld ?_ ?_
                  rotate_left
                  ·
                   rintro w' ⟨s0, s1, s2, s3, s4, s5, s6⟩
                   go_simp
                   with_reducible rfl
                  rotate_left
                  ·
                   simp only [Act.put, List.setIfInBounds_toArray, List.set_cons_zero, List.set_cons_succ, i64_w, i32_w]
                   rfl
                  refine one_ (i := 5) (N := some 157) #[true, true, true, true, true, true, false, true, true, false, false] rfl rfl (one_of HT_.out (by kernel_rfl)) (by decide) (fun K hK => ?_)
                  refine goes_ Try.func11 (by kernel_rfl) rfl #[.agg #[.bool t291, .int .i64 t292, .int .i64 t293, .bool t294], .int .i64 (wrap64 (x6_2 + (wrap64 ((rd_T47 l1 x8_2).f1))))] (by rfl) rfl rfl (by (try simp only [List.map_toArray, List.map_cons, List.map_nil]); first | done | rfl | (simp only [List.length_drop, List.length_take]; rfl)) ?_
                  with_reducible refine (breaker_Breaker_State.calls t291 t292 t293 t294 (wrap64 (x6_2 + (wrap64 ((rd_T47 l1 x8_2).f1)))) t296 _ A149.out).mono ?_
                  rintro e w160 ⟨rfl, hb⟩
                  refine ⟨_, rfl, ?_⟩
                  have n0_ := Aside0.mk (blk_below (g := gb262) (o := .cells #[.bool t291, .int .i64 t292, .int .i64 t293, .bool t294] 23 (0, 0)) (by (with_reducible repeat (first | refine b1 ?_ _ | refine b2 ?_ | refine b3 ?_ _)); exact BK262.out) hb)
                  have n1_ := Aside0.mk (blk_below (g := gb264) (o := .cells #[.int .u8 ((rd_T47 l1 x8_2).f0), .int .u16 ((rd_T47 l1 x8_2).f1), .bool ((rd_T47 l1 x8_2).f2)] 47 (0, 0)) (by (with_reducible repeat (first | refine b1 ?_ _ | refine b2 ?_ | refine b3 ?_ _)); exact BK264.out) hb)
                  have n2_ := Aside0.mk (below_step (by repeat (first | (with_reducible first | exact HB.out | apply below_alloc | apply pw_below_drewN | apply below_drew1 | refine below_set ?_ GE262.out | refine below_set ?_ GE264.out) | exact HB.out)) hb)
                  clear BK262
                  clear BK264
                  clear HB
                  have BK262 := n0_
                  have BK264 := n1_
                  have HB := n2_
                  clear n0_ n1_ n2_
                  (try clear hb)
                  (try clear hb2)
                  (try clear hk)
                  (try clear hi)
                  refine hK.out _ _ ⟨(blk_cell BK262.out 0).trans rfl, (blk_cell BK262.out 1).trans rfl, (blk_cell BK262.out 2).trans rfl, (blk_cell BK262.out 3).trans rfl, (blk_cell BK264.out 0).trans rfl, (blk_cell BK264.out 1).trans rfl, (blk_cell BK264.out 2).trans rfl⟩ (fun hHeld => ?_)
                  clear hK K
                  refine norm_ (a' := ?_) ?_ ?_
                  rotate_left
                  ·
                   show Act.put _ (some 157) _ = _
                   simp only [Act.put, List.setIfInBounds_toArray, List.set_cons_zero, List.set_cons_succ, i64_w, i32_w]
                   rfl
                  refine pure_ (i := 6) (N := some 158) (v := ?_) (a' := ?_) #[true, true, true, true, true, true, true, true, true, false, false] rfl rfl (any_of HT_.out (by kernel_rfl)) (fun _ _ _ h => h) (Or.inl ⟨by rfl, ?_⟩) ?_ ?_
                  rotate_left
                  ·
                   intro w'
                   go_simp
                   with_reducible rfl
                  rotate_left
                  ·
                   simp only [Act.put, List.setIfInBounds_toArray, List.set_cons_zero, List.set_cons_succ, i64_w, i32_w]
                   rfl
                  refine pure_ (i := 9) (N := some 161) (v := ?_) (a' := ?_) #[true, true, true, true, true, true, true, true, true, true, false] rfl rfl (any_of HT_.out (by kernel_rfl)) (fun _ _ _ h => h) (Or.inl ⟨by rfl, ?_⟩) ?_ ?_
                  rotate_left
                  ·
                   intro w'
                   go_simp
                   with_reducible rfl
                  rotate_left
                  ·
                   simp only [Act.put, List.setIfInBounds_toArray, List.set_cons_zero, List.set_cons_succ, i64_w, i32_w]
                   rfl
                  refine pure_ (i := 10) (N := some 162) (v := ?_) (a' := ?_) #[true, true, true, true, true, true, true, true, true, true, true] rfl rfl (any_of HT_.out (by kernel_rfl)) (fun _ _ _ h => h) (Or.inl ⟨by rfl, ?_⟩) ?_ ?_
                  rotate_left
                  ·
                   intro w'
                   go_simp
                   with_reducible rfl
                  rotate_left
                  ·
                   simp only [Act.put, List.setIfInBounds_toArray, List.set_cons_zero, List.set_cons_succ, i64_w, i32_w]
                   rfl
                  refine done_ (done_of HT_.out (by kernel_rfl)) ?_
                  try go_wp2
                  go_meet
                  case rel => exact ⟨_, (x7_2), (t295), (t291), (t292), (t293), (t294), (by first | rfl | (simp; done) | (simp [*]; done)), (by first | rfl | (simp; done) | (simp [*]; done)), H', ⟨by have := HJ4.out; have := HK2.out; first | omega | exact Nat.le_refl _⟩, ⟨by (with_reducible repeat (first | refine b1 ?_ _ | refine b2 ?_ | refine b3 ?_ _)); exact BK262.out⟩, ⟨by (with_reducible repeat (first | refine b1 ?_ _ | refine b2 ?_ | refine b3 ?_ _)); exact BK264.out⟩, ⟨by repeat (first | (with_reducible first | exact HB.out | apply below_alloc | apply pw_below_drewN | apply below_drew1 | refine below_set ?_ GE262.out | refine below_set ?_ GE264.out) | exact HB.out)⟩⟩
               ·
                rw [if_neg c148] at H
                have c148b0 : (t290 == 0) = false := beq_eq_false_iff_ne.mpr c148
                have c148b1 : (t290 != 0) = true := bne_iff_ne.mpr c148
                as_aux_lemma =>
                 have H' := Aside0.mk H
                 clear H
                 have hnb161 := NB262_264.out
                 have hnc161 := NB264_262.out
                 have hcz162_0 : w14.cell? ⟨gb262, 0, none⟩ = some (.bool x263000_2) := (blk_cell BK262.out 0).trans rfl
                 have hcz162_1 : w14.cell? ⟨gb262, 1, none⟩ = some (.int .i64 x263001_2) := (blk_cell BK262.out 1).trans rfl
                 have hcz162_2 : w14.cell? ⟨gb262, 2, none⟩ = some (.int .i64 x263002_2) := (blk_cell BK262.out 2).trans rfl
                 have hcz162_3 : w14.cell? ⟨gb262, 3, none⟩ = some (.bool x263003_2) := (blk_cell BK262.out 3).trans rfl
                 have hfz162_0 := blk_frozen BK262.out 0
                 have hfz162_1 := blk_frozen BK262.out 1
                 have hfz162_2 := blk_frozen BK262.out 2
                 have hfz162_3 := blk_frozen BK262.out 3
                 try go_wp2_with (first | ((with_reducible refine gate_callee (f := 11) rfl ?_); refine goesL_ (some 142) rfl rfl Try.func11 (by kernel_rfl) rfl #[.agg #[.bool x263000_2, .int .i64 x263001_2, .int .i64 x263002_2, .bool x263003_2], .int .i64 (wrap64 (x6_2 + (wrap64 ((rd_T47 l1 x8_2).f1))))] rfl (by (try simp only [List.map_toArray, List.map_cons, List.map_nil]); first | done | rfl | (simp only [List.length_drop, List.length_take]; rfl)) ?_; (with_reducible refine (breaker_Breaker_State.calls x263000_2 x263001_2 x263002_2 x263003_2 (wrap64 (x6_2 + (wrap64 ((rd_T47 l1 x8_2).f1)))) t290 _ A146.out).mono ?_); rintro e w163 ⟨rfl, hb⟩; refine ⟨_, rfl, ?_⟩; have n0_ := Aside0.mk (blk_below (g := gb262) (o := .cells #[.bool x263000_2, .int .i64 x263001_2, .int .i64 x263002_2, .bool x263003_2] 23 (0, 0)) (by (with_reducible repeat (first | refine b1 ?_ _ | refine b2 ?_ | refine b3 ?_ _)); refine blk_far ?_ NB262_264.out _; (with_reducible repeat (first | refine b1 ?_ _ | refine b2 ?_ | refine b3 ?_ _)); refine blk_far ?_ NB262_264.out _; (with_reducible repeat (first | refine b1 ?_ _ | refine b2 ?_ | refine b3 ?_ _)); refine blk_far ?_ NB262_264.out _; (with_reducible repeat (first | refine b1 ?_ _ | refine b2 ?_ | refine b3 ?_ _)); exact BK262.out) hb); have n1_ := Aside0.mk (blk_below (g := gb264) (o := .cells #[.int .u8 ((rd_T47 l1 x8_2).f0), .int .u16 ((rd_T47 l1 x8_2).f1), .bool ((rd_T47 l1 x8_2).f2)] 47 (0, 0)) (by (with_reducible repeat (first | refine b1 ?_ _ | refine b2 ?_ | refine b3 ?_ _)); refine blk_put (cs := #[.int .u8 ((rd_T47 l1 x8_2).f0), .int .u16 ((rd_T47 l1 x8_2).f1), .bool false]) ?_ 2 _ rfl; (with_reducible repeat (first | refine b1 ?_ _ | refine b2 ?_ | refine b3 ?_ _)); refine blk_put (cs := #[.int .u8 ((rd_T47 l1 x8_2).f0), .int .u16 0, .bool false]) ?_ 1 _ rfl; (with_reducible repeat (first | refine b1 ?_ _ | refine b2 ?_ | refine b3 ?_ _)); refine blk_put (cs := #[.int .u8 0, .int .u16 0, .bool false]) ?_ 0 _ rfl; (with_reducible repeat (first | refine b1 ?_ _ | refine b2 ?_ | refine b3 ?_ _)); exact BK264.out) hb); have n2_ := Aside0.mk (below_step (by repeat (first | (with_reducible first | exact HB.out | apply below_alloc | apply pw_below_drewN | apply below_drew1 | refine below_set ?_ GE262.out | refine below_set ?_ GE264.out) | exact HB.out)) hb); clear BK262; clear BK264; clear HB; have BK262 := n0_; have BK264 := n1_; have HB := n2_; clear n0_ n1_ n2_; (try clear hb); (try clear hb2); (try clear hk); (try clear hi); have hcz164_0 : w163.cell? ⟨gb262, 0, none⟩ = some (.bool x263000_2) := (blk_cell BK262.out 0).trans rfl; have hcz164_1 : w163.cell? ⟨gb262, 1, none⟩ = some (.int .i64 x263001_2) := (blk_cell BK262.out 1).trans rfl; have hcz164_2 : w163.cell? ⟨gb262, 2, none⟩ = some (.int .i64 x263002_2) := (blk_cell BK262.out 2).trans rfl; have hcz164_3 : w163.cell? ⟨gb262, 3, none⟩ = some (.bool x263003_2) := (blk_cell BK262.out 3).trans rfl; have hfz164_0 := blk_frozen BK262.out 0; have hfz164_1 := blk_frozen BK262.out 1; have hfz164_2 := blk_frozen BK262.out 2; have hfz164_3 := blk_frozen BK262.out 3; have hcz165_0 : w163.cell? ⟨gb264, 0, none⟩ = some (.int .u8 ((rd_T47 l1 x8_2).f0)) := (blk_cell BK264.out 0).trans rfl; have hcz165_1 : w163.cell? ⟨gb264, 1, none⟩ = some (.int .u16 ((rd_T47 l1 x8_2).f1)) := (blk_cell BK264.out 1).trans rfl; have hcz165_2 : w163.cell? ⟨gb264, 2, none⟩ = some (.bool ((rd_T47 l1 x8_2).f2)) := (blk_cell BK264.out 2).trans rfl; have hfz165_0 := blk_frozen BK264.out 0; have hfz165_1 := blk_frozen BK264.out 1; have hfz165_2 := blk_frozen BK264.out 2) | ((with_reducible refine gate_callee (f := 15) rfl ?_); refine goesL_ (some 149) rfl rfl Try.func15 (by kernel_rfl) rfl #[.agg #[.bool x263000_2, .int .i64 x263001_2, .int .i64 x263002_2, .bool x263003_2], .int .i64 (wrap64 (x6_2 + (wrap64 ((rd_T47 l1 x8_2).f1)))), .int .i64 a0, .bool false, .bool ((rd_T47 l1 x8_2).f2)] rfl (by (try simp only [List.map_toArray, List.map_cons, List.map_nil]); first | done | rfl | (simp only [List.length_drop, List.length_take]; rfl)) ?_; (with_reducible refine (breaker_Breaker_Bad.calls k2 x263000_2 x263001_2 x263002_2 x263003_2 (wrap64 (x6_2 + (wrap64 ((rd_T47 l1 x8_2).f1)))) a0 false ((rd_T47 l1 x8_2).f2) t291 t292 t293 t294 t295 _ A147.out).mono ?_); rintro e w166 ⟨rfl, hb⟩; refine ⟨_, rfl, ?_⟩; have n0_ := Aside0.mk (blk_below (g := gb262) (o := .cells #[.bool x263000_2, .int .i64 x263001_2, .int .i64 x263002_2, .bool x263003_2] 23 (0, 0)) (by (with_reducible repeat (first | refine b1 ?_ _ | refine b2 ?_ | refine b3 ?_ _)); exact BK262.out) hb); have n1_ := Aside0.mk (blk_below (g := gb264) (o := .cells #[.int .u8 ((rd_T47 l1 x8_2).f0), .int .u16 ((rd_T47 l1 x8_2).f1), .bool ((rd_T47 l1 x8_2).f2)] 47 (0, 0)) (by (with_reducible repeat (first | refine b1 ?_ _ | refine b2 ?_ | refine b3 ?_ _)); exact BK264.out) hb); have n2_ := Aside0.mk (below_step (by repeat (first | (with_reducible first | exact HB.out | apply below_alloc | apply pw_below_drewN | apply below_drew1 | refine below_set ?_ GE262.out | refine below_set ?_ GE264.out) | exact HB.out)) hb); clear BK262; clear BK264; clear HB; have BK262 := n0_; have BK264 := n1_; have HB := n2_; clear n0_ n1_ n2_; (try clear hb); (try clear hb2); (try clear hk); (try clear hi); have hcz167_0 : w166.cell? ⟨gb262, 0, none⟩ = some (.bool x263000_2) := (blk_cell BK262.out 0).trans rfl; have hcz167_1 : w166.cell? ⟨gb262, 1, none⟩ = some (.int .i64 x263001_2) := (blk_cell BK262.out 1).trans rfl; have hcz167_2 : w166.cell? ⟨gb262, 2, none⟩ = some (.int .i64 x263002_2) := (blk_cell BK262.out 2).trans rfl; have hcz167_3 : w166.cell? ⟨gb262, 3, none⟩ = some (.bool x263003_2) := (blk_cell BK262.out 3).trans rfl; have hfz167_0 := blk_frozen BK262.out 0; have hfz167_1 := blk_frozen BK262.out 1; have hfz167_2 := blk_frozen BK262.out 2; have hfz167_3 := blk_frozen BK262.out 3))
                 have n0_ : Aside0 (((((w166.setCell ⟨gb262, 0, none⟩ (.bool t291)).setCell ⟨gb262, 1, none⟩ (.int .i64 t292)).setCell ⟨gb262, 2, none⟩ (.int .i64 t293)).setCell ⟨gb262, 3, none⟩ (.bool t294)).heap[gb262]? = some (.cells #[.bool t291, .int .i64 t292, .int .i64 t293, .bool t294] 23 (0, 0))) := ⟨by (with_reducible repeat (first | refine b1 ?_ _ | refine b2 ?_ | refine b3 ?_ _)); refine blk_put (cs := #[.bool t291, .int .i64 t292, .int .i64 t293, .bool x263003_2]) ?_ 3 _ rfl; (with_reducible repeat (first | refine b1 ?_ _ | refine b2 ?_ | refine b3 ?_ _)); refine blk_put (cs := #[.bool t291, .int .i64 t292, .int .i64 x263002_2, .bool x263003_2]) ?_ 2 _ rfl; (with_reducible repeat (first | refine b1 ?_ _ | refine b2 ?_ | refine b3 ?_ _)); refine blk_put (cs := #[.bool t291, .int .i64 x263001_2, .int .i64 x263002_2, .bool x263003_2]) ?_ 1 _ rfl; (with_reducible repeat (first | refine b1 ?_ _ | refine b2 ?_ | refine b3 ?_ _)); refine blk_put (cs := #[.bool x263000_2, .int .i64 x263001_2, .int .i64 x263002_2, .bool x263003_2]) ?_ 0 _ rfl; (with_reducible repeat (first | refine b1 ?_ _ | refine b2 ?_ | refine b3 ?_ _)); exact BK262.out⟩
                 have n1_ : Aside0 (((((w166.setCell ⟨gb262, 0, none⟩ (.bool t291)).setCell ⟨gb262, 1, none⟩ (.int .i64 t292)).setCell ⟨gb262, 2, none⟩ (.int .i64 t293)).setCell ⟨gb262, 3, none⟩ (.bool t294)).heap[gb264]? = some (.cells #[.int .u8 ((rd_T47 l1 x8_2).f0), .int .u16 ((rd_T47 l1 x8_2).f1), .bool ((rd_T47 l1 x8_2).f2)] 47 (0, 0))) := ⟨by (with_reducible repeat (first | refine b1 ?_ _ | refine b2 ?_ | refine b3 ?_ _)); refine blk_far ?_ NB264_262.out _; (with_reducible repeat (first | refine b1 ?_ _ | refine b2 ?_ | refine b3 ?_ _)); refine blk_far ?_ NB264_262.out _; (with_reducible repeat (first | refine b1 ?_ _ | refine b2 ?_ | refine b3 ?_ _)); refine blk_far ?_ NB264_262.out _; (with_reducible repeat (first | refine b1 ?_ _ | refine b2 ?_ | refine b3 ?_ _)); refine blk_far ?_ NB264_262.out _; (with_reducible repeat (first | refine b1 ?_ _ | refine b2 ?_ | refine b3 ?_ _)); exact BK264.out⟩
                 have n2_ : Aside0 (Below w.heap.size w ((((w166.setCell ⟨gb262, 0, none⟩ (.bool t291)).setCell ⟨gb262, 1, none⟩ (.int .i64 t292)).setCell ⟨gb262, 2, none⟩ (.int .i64 t293)).setCell ⟨gb262, 3, none⟩ (.bool t294))) := ⟨by repeat (first | (with_reducible first | exact HB.out | apply below_alloc | apply pw_below_drewN | apply below_drew1 | refine below_set ?_ GE262.out | refine below_set ?_ GE264.out) | exact HB.out)⟩
                 (try clear BK262)
                 (try clear BK264)
                 (try clear HB)
                 generalize ((((w166.setCell ⟨gb262, 0, none⟩ (.bool t291)).setCell ⟨gb262, 1, none⟩ (.int .i64 t292)).setCell ⟨gb262, 2, none⟩ (.int .i64 t293)).setCell ⟨gb262, 3, none⟩ (.bool t294)) = w168 at n0_ n1_ n2_ ⊢
                 have BK262 := n0_
                 have BK264 := n1_
                 have HB := n2_
                 clear n0_ n1_ n2_
                 have n0_ := Aside0.mk (blk_drew BK262.out)
                 have n1_ := Aside0.mk (blk_drew BK264.out)
                 have n2_ := Aside0.mk (below_drew1 HB.out)
                 clear BK262
                 clear BK264
                 clear HB
                 have BK262 := n0_
                 have BK264 := n1_
                 have HB := n2_
                 clear n0_ n1_ n2_
                 refine start_ (n := 11) (S := fun w' => True) (ds := []) #[false, false, false, false, false, false, false, false, false, false, false] (by kernel_rfl) rfl rfl trivial (fun hHeld => ?_); refine with_tabW postilionlaw09_BreakerOne.tab40 postilionlaw09_BreakerOne.bits40 (fun HT_ HW_ => ?_)
                 generalize w168.drew = w169 at BK262 BK264 HB hHeld ⊢
                 refine pure_ (i := 0) (N := some 152) (v := ?_) (a' := ?_) #[true, false, false, false, false, false, false, false, false, false, false] rfl rfl (any_of HT_.out (by kernel_rfl)) (fun _ _ _ h => h) (Or.inl ⟨by rfl, ?_⟩) ?_ ?_
                 rotate_left
                 ·
                  intro w'
                  go_simp
                  with_reducible rfl
                 rotate_left
                 ·
                  simp only [Act.put, List.setIfInBounds_toArray, List.set_cons_zero, List.set_cons_succ, i64_w, i32_w]
                  rfl
                 refine pure_ (i := 1) (N := some 153) (v := ?_) (a' := ?_) #[true, true, false, false, false, false, false, false, false, false, false] rfl rfl (any_of HT_.out (by kernel_rfl)) (fun _ _ _ h => h) (Or.inl ⟨by rfl, ?_⟩) ?_ ?_
                 rotate_left
                 ·
                  intro w'
                  go_simp
                  with_reducible rfl
                 rotate_left
                 ·
                  simp only [Act.put, List.setIfInBounds_toArray, List.set_cons_zero, List.set_cons_succ, i64_w, i32_w]
                  rfl
                 refine pure_ (i := 2) (N := some 154) (v := ?_) (a' := ?_) #[true, true, true, false, false, false, false, false, false, false, false] rfl rfl (any_of HT_.out (by kernel_rfl)) (fun _ _ _ h => h) (Or.inl ⟨by rfl, ?_⟩) ?_ ?_
                 rotate_left
                 ·
                  intro w'
                  go_simp
                  with_reducible rfl
                 rotate_left
                 ·
                  simp only [Act.put, List.setIfInBounds_toArray, List.set_cons_zero, List.set_cons_succ, i64_w, i32_w]
                  rfl
                 refine pure_ (i := 3) (N := some 155) (v := undef) (a' := ?_) #[true, true, true, true, false, false, false, false, false, false, false] rfl rfl (any_of HT_.out (by kernel_rfl)) (fun _ _ _ h => h) (Or.inr ⟨by rfl, rfl⟩) ?_ ?_
                 rotate_left
                 ·
                  simp only [Act.put, List.setIfInBounds_toArray, List.set_cons_zero, List.set_cons_succ, i64_w, i32_w]
                  rfl
                 refine pure_ (i := 4) (N := some 156) (v := undef) (a' := ?_) #[true, true, true, true, true, false, false, false, false, false, false] rfl rfl (any_of HT_.out (by kernel_rfl)) (fun _ _ _ h => h) (Or.inr ⟨by rfl, rfl⟩) ?_ ?_
                 rotate_left
                 ·
                  simp only [Act.put, List.setIfInBounds_toArray, List.set_cons_zero, List.set_cons_succ, i64_w, i32_w]
                  rfl
                 refine pure_ (i := 5) (N := some 157) (v := undef) (a' := ?_) #[true, true, true, true, true, true, false, false, false, false, false] rfl rfl (any_of HT_.out (by kernel_rfl)) (fun _ _ _ h => h) (Or.inr ⟨by rfl, rfl⟩) ?_ ?_
                 rotate_left
                 ·
                  simp only [Act.put, List.setIfInBounds_toArray, List.set_cons_zero, List.set_cons_succ, i64_w, i32_w]
                  rfl
                 refine pure_ (i := 6) (N := some 158) (v := undef) (a' := ?_) #[true, true, true, true, true, true, true, false, false, false, false] rfl rfl (any_of HT_.out (by kernel_rfl)) (fun _ _ _ h => h) (Or.inr ⟨by rfl, rfl⟩) ?_ ?_
                 rotate_left
                 ·
                  simp only [Act.put, List.setIfInBounds_toArray, List.set_cons_zero, List.set_cons_succ, i64_w, i32_w]
                  rfl
                 refine pure_ (i := 7) (N := some 159) (v := undef) (a' := ?_) #[true, true, true, true, true, true, true, true, false, false, false] rfl rfl (any_of HT_.out (by kernel_rfl)) (fun _ _ _ h => h) (Or.inr ⟨by rfl, rfl⟩) ?_ ?_
                 rotate_left
                 ·
                  simp only [Act.put, List.setIfInBounds_toArray, List.set_cons_zero, List.set_cons_succ, i64_w, i32_w]
                  rfl
                 refine pure_ (i := 8) (N := some 160) (v := undef) (a' := ?_) #[true, true, true, true, true, true, true, true, true, false, false] rfl rfl (any_of HT_.out (by kernel_rfl)) (fun _ _ _ h => h) (Or.inr ⟨by rfl, rfl⟩) ?_ ?_
                 rotate_left
                 ·
                  simp only [Act.put, List.setIfInBounds_toArray, List.set_cons_zero, List.set_cons_succ, i64_w, i32_w]
                  rfl
                 refine pure_ (i := 9) (N := some 161) (v := undef) (a' := ?_) #[true, true, true, true, true, true, true, true, true, true, false] rfl rfl (any_of HT_.out (by kernel_rfl)) (fun _ _ _ h => h) (Or.inr ⟨by rfl, rfl⟩) ?_ ?_
                 rotate_left
                 ·
                  simp only [Act.put, List.setIfInBounds_toArray, List.set_cons_zero, List.set_cons_succ, i64_w, i32_w]
                  rfl
                 refine pure_ (i := 10) (N := some 162) (v := ?_) (a' := ?_) #[true, true, true, true, true, true, true, true, true, true, true] rfl rfl (any_of HT_.out (by kernel_rfl)) (fun _ _ _ h => h) (Or.inl ⟨by rfl, ?_⟩) ?_ ?_
                 rotate_left
                 ·
                  intro w'
                  go_simp
                  with_reducible rfl
                 rotate_left
                 ·
                  simp only [Act.put, List.setIfInBounds_toArray, List.set_cons_zero, List.set_cons_succ, i64_w, i32_w]
                  rfl
                 refine done_ (done_of HT_.out (by kernel_rfl)) ?_
                 try go_wp2
                 go_meet
                 case rel => exact ⟨_, (x7_2), (t295), (t291), (t292), (t293), (t294), (by first | rfl | (simp; done) | (simp [*]; done)), (by first | rfl | (simp; done) | (simp [*]; done)), H', ⟨by have := HJ4.out; have := HK2.out; first | omega | exact Nat.le_refl _⟩, ⟨by (with_reducible repeat (first | refine b1 ?_ _ | refine b2 ?_ | refine b3 ?_ _)); exact BK262.out⟩, ⟨by (with_reducible repeat (first | refine b1 ?_ _ | refine b2 ?_ | refine b3 ?_ _)); exact BK264.out⟩, ⟨by repeat (first | (with_reducible first | exact HB.out | apply below_alloc | apply pw_below_drewN | apply below_drew1 | refine below_set ?_ GE262.out | refine below_set ?_ GE264.out) | exact HB.out)⟩⟩
              ·
               rw [if_neg c145] at H
               have c145b0 : ((Int.tmod ((rd_T47 l1 x8_2).f0) 6) == 4) = false := beq_eq_false_iff_ne.mpr c145
               have c145b1 : ((Int.tmod ((rd_T47 l1 x8_2).f0) 6) != 4) = true := bne_iff_ne.mpr c145
               replace H := Option.bind_eq_some_iff.mp H
               obtain ⟨⟨t298, t299, t300, t301⟩, A1700, H⟩ := H
               replace H : (if (!(t298 == x263000_2) || (!(t299 == x263001_2) || (!(t300 == x263002_2) || (!(t301 == x263003_2))))) = true then (some false) else (postilionlaw09_BreakerOne.j2 k2 a0 l1 (wrap64 (x6_2 + (wrap64 ((rd_T47 l1 x8_2).f1)))) x7_2 x8_2 0 t298 t299 t300 t301)) = some r := H
               have A170 := Aside0.mk A1700
               clear A1700
               by_cases c171 : (!(t298 == x263000_2) || (!(t299 == x263001_2) || (!(t300 == x263002_2) || (!(t301 == x263003_2))))) = true
               ·
                rw [if_pos c171] at H
                have c171b0 : (!(t298 == x263000_2) || (!(t299 == x263001_2) || (!(t300 == x263002_2) || (!(t301 == x263003_2))))) = true := c171
                clear c171
                as_aux_lemma =>
                 exact absurd ((Option.some.inj H).trans hT.out) (by decide)
               ·
                rw [if_neg c171] at H
                have c171b0 : (!(t298 == x263000_2) || (!(t299 == x263001_2) || (!(t300 == x263002_2) || (!(t301 == x263003_2))))) = false := by simpa using c171
                clear c171
                as_aux_lemma =>
                 have H' := Aside0.mk H
                 clear H
                 have hnb172 := NB262_264.out
                 have hnc172 := NB264_262.out
                 have hcz173_0 : w14.cell? ⟨gb262, 0, none⟩ = some (.bool x263000_2) := (blk_cell BK262.out 0).trans rfl
                 have hcz173_1 : w14.cell? ⟨gb262, 1, none⟩ = some (.int .i64 x263001_2) := (blk_cell BK262.out 1).trans rfl
                 have hcz173_2 : w14.cell? ⟨gb262, 2, none⟩ = some (.int .i64 x263002_2) := (blk_cell BK262.out 2).trans rfl
                 have hcz173_3 : w14.cell? ⟨gb262, 3, none⟩ = some (.bool x263003_2) := (blk_cell BK262.out 3).trans rfl
                 have hfz173_0 := blk_frozen BK262.out 0
                 have hfz173_1 := blk_frozen BK262.out 1
                 have hfz173_2 := blk_frozen BK262.out 2
                 have hfz173_3 := blk_frozen BK262.out 3
                 go_wp2_with (first | ((with_reducible refine gate_dst (N := 15) rfl ?_); (try (refine gate_guard (by rfl) ?_; dsimp only)); refine box_event ?hg (N := 15) ?hd (cs := #[.bool false, .int .i64 0, .int .i64 0, .bool false]) (t := 23) ?hr ?_; (case hd => rfl); (case hg => rfl); (case hr => first | (go_simp; done) | (go_simp; rfl)); intro gb297 hg w174 hbox hb; have n0_ := Aside0.mk (blk_below (g := gb262) (o := .cells #[.bool x263000_2, .int .i64 x263001_2, .int .i64 x263002_2, .bool x263003_2] 23 (0, 0)) (by (with_reducible repeat (first | refine b1 ?_ _ | refine b2 ?_ | refine b3 ?_ _)); refine blk_far ?_ NB262_264.out _; (with_reducible repeat (first | refine b1 ?_ _ | refine b2 ?_ | refine b3 ?_ _)); refine blk_far ?_ NB262_264.out _; (with_reducible repeat (first | refine b1 ?_ _ | refine b2 ?_ | refine b3 ?_ _)); refine blk_far ?_ NB262_264.out _; (with_reducible repeat (first | refine b1 ?_ _ | refine b2 ?_ | refine b3 ?_ _)); exact BK262.out) hb); have n1_ := Aside0.mk (blk_below (g := gb264) (o := .cells #[.int .u8 ((rd_T47 l1 x8_2).f0), .int .u16 ((rd_T47 l1 x8_2).f1), .bool ((rd_T47 l1 x8_2).f2)] 47 (0, 0)) (by (with_reducible repeat (first | refine b1 ?_ _ | refine b2 ?_ | refine b3 ?_ _)); refine blk_put (cs := #[.int .u8 ((rd_T47 l1 x8_2).f0), .int .u16 ((rd_T47 l1 x8_2).f1), .bool false]) ?_ 2 _ rfl; (with_reducible repeat (first | refine b1 ?_ _ | refine b2 ?_ | refine b3 ?_ _)); refine blk_put (cs := #[.int .u8 ((rd_T47 l1 x8_2).f0), .int .u16 0, .bool false]) ?_ 1 _ rfl; (with_reducible repeat (first | refine b1 ?_ _ | refine b2 ?_ | refine b3 ?_ _)); refine blk_put (cs := #[.int .u8 0, .int .u16 0, .bool false]) ?_ 0 _ rfl; (with_reducible repeat (first | refine b1 ?_ _ | refine b2 ?_ | refine b3 ?_ _)); exact BK264.out) hb); have n2_ := Aside0.mk (below_step (by repeat (first | (with_reducible first | exact HB.out | apply below_alloc | apply pw_below_drewN | apply below_drew1 | refine below_set ?_ GE262.out | refine below_set ?_ GE264.out) | exact HB.out)) hb); have n3_ := Aside0.mk (hbox); have n4_ := Aside0.mk ((by rw [hg]; exact (below_size (by repeat (first | (with_reducible first | exact HB.out | apply below_alloc | apply pw_below_drewN | apply below_drew1 | refine below_set ?_ GE262.out | refine below_set ?_ GE264.out) | exact HB.out))) : w.heap.size ≤ gb297)); have n5_ := Aside0.mk ((by rw [hg]; exact (below_size (by repeat (first | (with_reducible first | exact HB.out | apply below_alloc | apply pw_below_drewN | apply below_drew1 | refine below_set ?_ GE262.out | refine below_set ?_ GE264.out) | exact HB.out))) : w.heap.size ≤ gb297)); have n6_ := Aside0.mk ((by rw [hg]; exact Nat.ne_of_lt (blk_lt (g := gb262) (o := .cells #[.bool x263000_2, .int .i64 x263001_2, .int .i64 x263002_2, .bool x263003_2] 23 (0, 0)) (by (with_reducible repeat (first | refine b1 ?_ _ | refine b2 ?_ | refine b3 ?_ _)); refine blk_far ?_ NB262_264.out _; (with_reducible repeat (first | refine b1 ?_ _ | refine b2 ?_ | refine b3 ?_ _)); refine blk_far ?_ NB262_264.out _; (with_reducible repeat (first | refine b1 ?_ _ | refine b2 ?_ | refine b3 ?_ _)); refine blk_far ?_ NB262_264.out _; (with_reducible repeat (first | refine b1 ?_ _ | refine b2 ?_ | refine b3 ?_ _)); exact BK262.out)) : gb262 ≠ gb297)); have n7_ := Aside0.mk ((by rw [hg]; exact Nat.ne_of_gt (blk_lt (g := gb262) (o := .cells #[.bool x263000_2, .int .i64 x263001_2, .int .i64 x263002_2, .bool x263003_2] 23 (0, 0)) (by (with_reducible repeat (first | refine b1 ?_ _ | refine b2 ?_ | refine b3 ?_ _)); refine blk_far ?_ NB262_264.out _; (with_reducible repeat (first | refine b1 ?_ _ | refine b2 ?_ | refine b3 ?_ _)); refine blk_far ?_ NB262_264.out _; (with_reducible repeat (first | refine b1 ?_ _ | refine b2 ?_ | refine b3 ?_ _)); refine blk_far ?_ NB262_264.out _; (with_reducible repeat (first | refine b1 ?_ _ | refine b2 ?_ | refine b3 ?_ _)); exact BK262.out)) : gb297 ≠ gb262)); have n8_ := Aside0.mk ((by rw [hg]; exact Nat.ne_of_lt (blk_lt (g := gb264) (o := .cells #[.int .u8 ((rd_T47 l1 x8_2).f0), .int .u16 ((rd_T47 l1 x8_2).f1), .bool ((rd_T47 l1 x8_2).f2)] 47 (0, 0)) (by (with_reducible repeat (first | refine b1 ?_ _ | refine b2 ?_ | refine b3 ?_ _)); refine blk_put (cs := #[.int .u8 ((rd_T47 l1 x8_2).f0), .int .u16 ((rd_T47 l1 x8_2).f1), .bool false]) ?_ 2 _ rfl; (with_reducible repeat (first | refine b1 ?_ _ | refine b2 ?_ | refine b3 ?_ _)); refine blk_put (cs := #[.int .u8 ((rd_T47 l1 x8_2).f0), .int .u16 0, .bool false]) ?_ 1 _ rfl; (with_reducible repeat (first | refine b1 ?_ _ | refine b2 ?_ | refine b3 ?_ _)); refine blk_put (cs := #[.int .u8 0, .int .u16 0, .bool false]) ?_ 0 _ rfl; (with_reducible repeat (first | refine b1 ?_ _ | refine b2 ?_ | refine b3 ?_ _)); exact BK264.out)) : gb264 ≠ gb297)); have n9_ := Aside0.mk ((by rw [hg]; exact Nat.ne_of_gt (blk_lt (g := gb264) (o := .cells #[.int .u8 ((rd_T47 l1 x8_2).f0), .int .u16 ((rd_T47 l1 x8_2).f1), .bool ((rd_T47 l1 x8_2).f2)] 47 (0, 0)) (by (with_reducible repeat (first | refine b1 ?_ _ | refine b2 ?_ | refine b3 ?_ _)); refine blk_put (cs := #[.int .u8 ((rd_T47 l1 x8_2).f0), .int .u16 ((rd_T47 l1 x8_2).f1), .bool false]) ?_ 2 _ rfl; (with_reducible repeat (first | refine b1 ?_ _ | refine b2 ?_ | refine b3 ?_ _)); refine blk_put (cs := #[.int .u8 ((rd_T47 l1 x8_2).f0), .int .u16 0, .bool false]) ?_ 1 _ rfl; (with_reducible repeat (first | refine b1 ?_ _ | refine b2 ?_ | refine b3 ?_ _)); refine blk_put (cs := #[.int .u8 0, .int .u16 0, .bool false]) ?_ 0 _ rfl; (with_reducible repeat (first | refine b1 ?_ _ | refine b2 ?_ | refine b3 ?_ _)); exact BK264.out)) : gb297 ≠ gb264)); clear BK262; clear BK264; clear HB; have BK262 := n0_; have BK264 := n1_; have HB := n2_; have BK297 := n3_; have GW297 := n4_; have GE297 := n5_; have NB262_297 := n6_; have NB297_262 := n7_; have NB264_297 := n8_; have NB297_264 := n9_; clear n0_ n1_ n2_ n3_ n4_ n5_ n6_ n7_ n8_ n9_; clear hb hbox hg; have hnb175 := NB297_262.out; have hnc175 := NB262_297.out; have hnb176 := NB297_264.out; have hnc176 := NB264_297.out; have hcz177_0 : w174.cell? ⟨gb297, 0, none⟩ = some (.bool false) := (blk_cell BK297.out 0).trans rfl; have hcz177_1 : w174.cell? ⟨gb297, 1, none⟩ = some (.int .i64 0) := (blk_cell BK297.out 1).trans rfl; have hcz177_2 : w174.cell? ⟨gb297, 2, none⟩ = some (.int .i64 0) := (blk_cell BK297.out 2).trans rfl; have hcz177_3 : w174.cell? ⟨gb297, 3, none⟩ = some (.bool false) := (blk_cell BK297.out 3).trans rfl; have hfz177_0 := blk_frozen BK297.out 0; have hfz177_1 := blk_frozen BK297.out 1; have hfz177_2 := blk_frozen BK297.out 2; have hfz177_3 := blk_frozen BK297.out 3; have hcz178_0 : w174.cell? ⟨gb262, 0, none⟩ = some (.bool x263000_2) := (blk_cell BK262.out 0).trans rfl; have hcz178_1 : w174.cell? ⟨gb262, 1, none⟩ = some (.int .i64 x263001_2) := (blk_cell BK262.out 1).trans rfl; have hcz178_2 : w174.cell? ⟨gb262, 2, none⟩ = some (.int .i64 x263002_2) := (blk_cell BK262.out 2).trans rfl; have hcz178_3 : w174.cell? ⟨gb262, 3, none⟩ = some (.bool x263003_2) := (blk_cell BK262.out 3).trans rfl; have hfz178_0 := blk_frozen BK262.out 0; have hfz178_1 := blk_frozen BK262.out 1; have hfz178_2 := blk_frozen BK262.out 2; have hfz178_3 := blk_frozen BK262.out 3) | ((with_reducible refine gate_callee (f := 17) rfl ?_); refine goesL_ (some 50) rfl rfl Try.func17 (by kernel_rfl) rfl #[.agg #[.bool x263000_2, .int .i64 x263001_2, .int .i64 x263002_2, .bool x263003_2], .bool false] rfl (by (try simp only [List.map_toArray, List.map_cons, List.map_nil]); first | done | rfl | (simp only [List.length_drop, List.length_take]; rfl)) ?_; (with_reducible refine (breaker_Breaker_Good.calls x263000_2 x263001_2 x263002_2 x263003_2 false t298 t299 t300 t301 _ A170.out).mono ?_); rintro e w179 ⟨rfl, hb⟩; refine ⟨_, rfl, ?_⟩; have n0_ := Aside0.mk (blk_below (g := gb262) (o := .cells #[.bool x263000_2, .int .i64 x263001_2, .int .i64 x263002_2, .bool x263003_2] 23 (0, 0)) (by (with_reducible repeat (first | refine b1 ?_ _ | refine b2 ?_ | refine b3 ?_ _)); refine blk_far ?_ NB262_297.out _; (with_reducible repeat (first | refine b1 ?_ _ | refine b2 ?_ | refine b3 ?_ _)); refine blk_far ?_ NB262_297.out _; (with_reducible repeat (first | refine b1 ?_ _ | refine b2 ?_ | refine b3 ?_ _)); refine blk_far ?_ NB262_297.out _; (with_reducible repeat (first | refine b1 ?_ _ | refine b2 ?_ | refine b3 ?_ _)); refine blk_far ?_ NB262_297.out _; (with_reducible repeat (first | refine b1 ?_ _ | refine b2 ?_ | refine b3 ?_ _)); exact BK262.out) hb); have n1_ := Aside0.mk (blk_below (g := gb264) (o := .cells #[.int .u8 ((rd_T47 l1 x8_2).f0), .int .u16 ((rd_T47 l1 x8_2).f1), .bool ((rd_T47 l1 x8_2).f2)] 47 (0, 0)) (by (with_reducible repeat (first | refine b1 ?_ _ | refine b2 ?_ | refine b3 ?_ _)); refine blk_far ?_ NB264_297.out _; (with_reducible repeat (first | refine b1 ?_ _ | refine b2 ?_ | refine b3 ?_ _)); refine blk_far ?_ NB264_297.out _; (with_reducible repeat (first | refine b1 ?_ _ | refine b2 ?_ | refine b3 ?_ _)); refine blk_far ?_ NB264_297.out _; (with_reducible repeat (first | refine b1 ?_ _ | refine b2 ?_ | refine b3 ?_ _)); refine blk_far ?_ NB264_297.out _; (with_reducible repeat (first | refine b1 ?_ _ | refine b2 ?_ | refine b3 ?_ _)); exact BK264.out) hb); have n2_ := Aside0.mk (blk_below (g := gb297) (o := .cells #[.bool x263000_2, .int .i64 x263001_2, .int .i64 x263002_2, .bool x263003_2] 23 (0, 0)) (by (with_reducible repeat (first | refine b1 ?_ _ | refine b2 ?_ | refine b3 ?_ _)); refine blk_put (cs := #[.bool x263000_2, .int .i64 x263001_2, .int .i64 x263002_2, .bool false]) ?_ 3 _ rfl; (with_reducible repeat (first | refine b1 ?_ _ | refine b2 ?_ | refine b3 ?_ _)); refine blk_put (cs := #[.bool x263000_2, .int .i64 x263001_2, .int .i64 0, .bool false]) ?_ 2 _ rfl; (with_reducible repeat (first | refine b1 ?_ _ | refine b2 ?_ | refine b3 ?_ _)); refine blk_put (cs := #[.bool x263000_2, .int .i64 0, .int .i64 0, .bool false]) ?_ 1 _ rfl; (with_reducible repeat (first | refine b1 ?_ _ | refine b2 ?_ | refine b3 ?_ _)); refine blk_put (cs := #[.bool false, .int .i64 0, .int .i64 0, .bool false]) ?_ 0 _ rfl; (with_reducible repeat (first | refine b1 ?_ _ | refine b2 ?_ | refine b3 ?_ _)); exact BK297.out) hb); have n3_ := Aside0.mk (below_step (by repeat (first | (with_reducible first | exact HB.out | apply below_alloc | apply pw_below_drewN | apply below_drew1 | refine below_set ?_ GE262.out | refine below_set ?_ GE264.out | refine below_set ?_ GE297.out) | exact HB.out)) hb); clear BK262; clear BK264; clear BK297; clear HB; have BK262 := n0_; have BK264 := n1_; have BK297 := n2_; have HB := n3_; clear n0_ n1_ n2_ n3_; (try clear hb); (try clear hb2); (try clear hk); (try clear hi); have hcz180_0 : w179.cell? ⟨gb262, 0, none⟩ = some (.bool x263000_2) := (blk_cell BK262.out 0).trans rfl; have hcz180_1 : w179.cell? ⟨gb262, 1, none⟩ = some (.int .i64 x263001_2) := (blk_cell BK262.out 1).trans rfl; have hcz180_2 : w179.cell? ⟨gb262, 2, none⟩ = some (.int .i64 x263002_2) := (blk_cell BK262.out 2).trans rfl; have hcz180_3 : w179.cell? ⟨gb262, 3, none⟩ = some (.bool x263003_2) := (blk_cell BK262.out 3).trans rfl; have hfz180_0 := blk_frozen BK262.out 0; have hfz180_1 := blk_frozen BK262.out 1; have hfz180_2 := blk_frozen BK262.out 2; have hfz180_3 := blk_frozen BK262.out 3; have hcz181_0 : w179.cell? ⟨gb297, 0, none⟩ = some (.bool x263000_2) := (blk_cell BK297.out 0).trans rfl; have hcz181_1 : w179.cell? ⟨gb297, 1, none⟩ = some (.int .i64 x263001_2) := (blk_cell BK297.out 1).trans rfl; have hcz181_2 : w179.cell? ⟨gb297, 2, none⟩ = some (.int .i64 x263002_2) := (blk_cell BK297.out 2).trans rfl; have hcz181_3 : w179.cell? ⟨gb297, 3, none⟩ = some (.bool x263003_2) := (blk_cell BK297.out 3).trans rfl; have hfz181_0 := blk_frozen BK297.out 0; have hfz181_1 := blk_frozen BK297.out 1; have hfz181_2 := blk_frozen BK297.out 2; have hfz181_3 := blk_frozen BK297.out 3))
                 go_meet
                 case rel => exact ⟨_, (x7_2), (0), (t298), (t299), (t300), (t301), (by first | rfl | (simp; done) | (simp [*]; done)), (by first | rfl | (simp; done) | (simp [*]; done)), H', ⟨by have := HJ4.out; have := HK2.out; first | omega | exact Nat.le_refl _⟩, ⟨by (with_reducible repeat (first | refine b1 ?_ _ | refine b2 ?_ | refine b3 ?_ _)); refine blk_put (cs := #[.bool t298, .int .i64 t299, .int .i64 t300, .bool x263003_2]) ?_ 3 _ rfl; (with_reducible repeat (first | refine b1 ?_ _ | refine b2 ?_ | refine b3 ?_ _)); refine blk_put (cs := #[.bool t298, .int .i64 t299, .int .i64 x263002_2, .bool x263003_2]) ?_ 2 _ rfl; (with_reducible repeat (first | refine b1 ?_ _ | refine b2 ?_ | refine b3 ?_ _)); refine blk_put (cs := #[.bool t298, .int .i64 x263001_2, .int .i64 x263002_2, .bool x263003_2]) ?_ 1 _ rfl; (with_reducible repeat (first | refine b1 ?_ _ | refine b2 ?_ | refine b3 ?_ _)); refine blk_put (cs := #[.bool x263000_2, .int .i64 x263001_2, .int .i64 x263002_2, .bool x263003_2]) ?_ 0 _ rfl; (with_reducible repeat (first | refine b1 ?_ _ | refine b2 ?_ | refine b3 ?_ _)); exact BK262.out⟩, ⟨by (with_reducible repeat (first | refine b1 ?_ _ | refine b2 ?_ | refine b3 ?_ _)); refine blk_far ?_ NB264_262.out _; (with_reducible repeat (first | refine b1 ?_ _ | refine b2 ?_ | refine b3 ?_ _)); refine blk_far ?_ NB264_262.out _; (with_reducible repeat (first | refine b1 ?_ _ | refine b2 ?_ | refine b3 ?_ _)); refine blk_far ?_ NB264_262.out _; (with_reducible repeat (first | refine b1 ?_ _ | refine b2 ?_ | refine b3 ?_ _)); refine blk_far ?_ NB264_262.out _; (with_reducible repeat (first | refine b1 ?_ _ | refine b2 ?_ | refine b3 ?_ _)); exact BK264.out⟩, ⟨by repeat (first | (with_reducible first | exact HB.out | apply below_alloc | apply pw_below_drewN | apply below_drew1 | refine below_set ?_ GE262.out | refine below_set ?_ GE264.out | refine below_set ?_ GE297.out) | exact HB.out)⟩⟩
         case rest =>
          clear HC13
          try clear c1
          try clear c2
          try clear p2
          try clear c5
          try clear p6
          try clear c7
          try clear c8
          try clear c9
          try clear c10
          try clear c11
          try clear c12
          try clear c13
          try clear c14
          try clear c15
          try clear c16
          try clear c17
          try clear c17b0
          try clear c17b1
          try clear c19
          try clear c20
          try clear c20b0
          try clear c52
          try clear c52b0
          try clear c52b1
          try clear p64
          try clear c82
          try clear c82b0
          try clear c83
          try clear c83b0
          try clear c83b1
          try clear c83b2
          try clear c84
          try clear c85
          try clear c89
          try clear c90
          try clear c96
          try clear c100
          try clear c101
          try clear c107
          try clear c107b0
          try clear c107b1
          try clear c109
          try clear c110
          try clear c110b0
          try clear c111
          try clear c115
          try clear c119
          try clear c119b0
          try clear c119b1
          try clear c121
          try clear c123
          try clear c123b0
          try clear c123b1
          try clear c125
          try clear c126
          try clear c134
          try clear c139
          try clear c139b0
          try clear c139b1
          try clear c141
          try clear c145
          try clear c145b0
          try clear c145b1
          try clear c148
          try clear c148b0
          try clear c148b1
          try clear c150
          try clear c150b0
          try clear c150b1
          try clear c150b2
          try clear c151
          try clear c161
          try clear c171
          try clear c171b0
          try clear c172
          try clear c175
          try clear c176
          try clear hcz102_0
          try clear hcz102_1
          try clear hcz102_2
          try clear hcz102_3
          try clear hcz103_0
          try clear hcz103_1
          try clear hcz103_2
          try clear hcz103_3
          try clear hcz105_0
          try clear hcz105_1
          try clear hcz105_2
          try clear hcz105_3
          try clear hcz106_0
          try clear hcz106_1
          try clear hcz106_2
          try clear hcz106_3
          try clear hcz112_0
          try clear hcz112_1
          try clear hcz112_2
          try clear hcz112_3
          try clear hcz114_0
          try clear hcz114_1
          try clear hcz114_2
          try clear hcz114_3
          try clear hcz116_0
          try clear hcz116_1
          try clear hcz116_2
          try clear hcz116_3
          try clear hcz118_0
          try clear hcz118_1
          try clear hcz118_2
          try clear hcz118_3
          try clear hcz127_0
          try clear hcz127_1
          try clear hcz127_2
          try clear hcz127_3
          try clear hcz128_0
          try clear hcz128_1
          try clear hcz128_2
          try clear hcz130_0
          try clear hcz130_1
          try clear hcz130_2
          try clear hcz130_3
          try clear hcz132_0
          try clear hcz132_1
          try clear hcz132_2
          try clear hcz132_3
          try clear hcz135_0
          try clear hcz135_1
          try clear hcz135_2
          try clear hcz135_3
          try clear hcz136_0
          try clear hcz136_1
          try clear hcz136_2
          try clear hcz138_0
          try clear hcz138_1
          try clear hcz138_2
          try clear hcz138_3
          try clear hcz142_0
          try clear hcz142_1
          try clear hcz142_2
          try clear hcz142_3
          try clear hcz144_0
          try clear hcz144_1
          try clear hcz144_2
          try clear hcz144_3
          try clear hcz152_0
          try clear hcz152_1
          try clear hcz152_2
          try clear hcz152_3
          try clear hcz154_0
          try clear hcz154_1
          try clear hcz154_2
          try clear hcz154_3
          try clear hcz155_0
          try clear hcz155_1
          try clear hcz155_2
          try clear hcz157_0
          try clear hcz157_1
          try clear hcz157_2
          try clear hcz157_3
          try clear hcz162_0
          try clear hcz162_1
          try clear hcz162_2
          try clear hcz162_3
          try clear hcz164_0
          try clear hcz164_1
          try clear hcz164_2
          try clear hcz164_3
          try clear hcz165_0
          try clear hcz165_1
          try clear hcz165_2
          try clear hcz167_0
          try clear hcz167_1
          try clear hcz167_2
          try clear hcz167_3
          try clear hcz173_0
          try clear hcz173_1
          try clear hcz173_2
          try clear hcz173_3
          try clear hcz177_0
          try clear hcz177_1
          try clear hcz177_2
          try clear hcz177_3
          try clear hcz178_0
          try clear hcz178_1
          try clear hcz178_2
          try clear hcz178_3
          try clear hcz180_0
          try clear hcz180_1
          try clear hcz180_2
          try clear hcz180_3
          try clear hcz181_0
          try clear hcz181_1
          try clear hcz181_2
          try clear hcz181_3
          try clear hcz86_0
          try clear hcz86_1
          try clear hcz86_2
          try clear hcz86_3
          try clear hcz91_0
          try clear hcz91_1
          try clear hcz91_2
          try clear hcz91_3
          try clear hcz92_0
          try clear hcz92_1
          try clear hcz92_2
          try clear hcz92_3
          try clear hcz94_0
          try clear hcz94_1
          try clear hcz94_2
          try clear hcz94_3
          try clear hcz95_0
          try clear hcz95_1
          try clear hcz95_2
          try clear hcz95_3
          try clear hcz97_0
          try clear hcz97_1
          try clear hcz97_2
          try clear hcz97_3
          try clear hfz102_0
          try clear hfz102_1
          try clear hfz102_2
          try clear hfz102_3
          try clear hfz103_0
          try clear hfz103_1
          try clear hfz103_2
          try clear hfz103_3
          try clear hfz105_0
          try clear hfz105_1
          try clear hfz105_2
          try clear hfz105_3
          try clear hfz106_0
          try clear hfz106_1
          try clear hfz106_2
          try clear hfz106_3
          try clear hfz112_0
          try clear hfz112_1
          try clear hfz112_2
          try clear hfz112_3
          try clear hfz114_0
          try clear hfz114_1
          try clear hfz114_2
          try clear hfz114_3
          try clear hfz116_0
          try clear hfz116_1
          try clear hfz116_2
          try clear hfz116_3
          try clear hfz118_0
          try clear hfz118_1
          try clear hfz118_2
          try clear hfz118_3
          try clear hfz127_0
          try clear hfz127_1
          try clear hfz127_2
          try clear hfz127_3
          try clear hfz128_0
          try clear hfz128_1
          try clear hfz128_2
          try clear hfz130_0
          try clear hfz130_1
          try clear hfz130_2
          try clear hfz130_3
          try clear hfz132_0
          try clear hfz132_1
          try clear hfz132_2
          try clear hfz132_3
          try clear hfz135_0
          try clear hfz135_1
          try clear hfz135_2
          try clear hfz135_3
          try clear hfz136_0
          try clear hfz136_1
          try clear hfz136_2
          try clear hfz138_0
          try clear hfz138_1
          try clear hfz138_2
          try clear hfz138_3
          try clear hfz142_0
          try clear hfz142_1
          try clear hfz142_2
          try clear hfz142_3
          try clear hfz144_0
          try clear hfz144_1
          try clear hfz144_2
          try clear hfz144_3
          try clear hfz152_0
          try clear hfz152_1
          try clear hfz152_2
          try clear hfz152_3
          try clear hfz154_0
          try clear hfz154_1
          try clear hfz154_2
          try clear hfz154_3
          try clear hfz155_0
          try clear hfz155_1
          try clear hfz155_2
          try clear hfz157_0
          try clear hfz157_1
          try clear hfz157_2
          try clear hfz157_3
          try clear hfz162_0
          try clear hfz162_1
          try clear hfz162_2
          try clear hfz162_3
          try clear hfz164_0
          try clear hfz164_1
          try clear hfz164_2
          try clear hfz164_3
          try clear hfz165_0
          try clear hfz165_1
          try clear hfz165_2
          try clear hfz167_0
          try clear hfz167_1
          try clear hfz167_2
          try clear hfz167_3
          try clear hfz173_0
          try clear hfz173_1
          try clear hfz173_2
          try clear hfz173_3
          try clear hfz177_0
          try clear hfz177_1
          try clear hfz177_2
          try clear hfz177_3
          try clear hfz178_0
          try clear hfz178_1
          try clear hfz178_2
          try clear hfz178_3
          try clear hfz180_0
          try clear hfz180_1
          try clear hfz180_2
          try clear hfz180_3
          try clear hfz181_0
          try clear hfz181_1
          try clear hfz181_2
          try clear hfz181_3
          try clear hfz86_0
          try clear hfz86_1
          try clear hfz86_2
          try clear hfz86_3
          try clear hfz91_0
          try clear hfz91_1
          try clear hfz91_2
          try clear hfz91_3
          try clear hfz92_0
          try clear hfz92_1
          try clear hfz92_2
          try clear hfz92_3
          try clear hfz94_0
          try clear hfz94_1
          try clear hfz94_2
          try clear hfz94_3
          try clear hfz95_0
          try clear hfz95_1
          try clear hfz95_2
          try clear hfz95_3
          try clear hfz97_0
          try clear hfz97_1
          try clear hfz97_2
          try clear hfz97_3
          obtain ⟨kq, x7_12, x10_12, x263000_12, x263001_12, x263002_12, x263003_12, rfl, rfl, HA, HJ12, BK262, BK264, HB⟩ := hcut
          cases kq with
          | zero => exact absurd HA.out (by simp [postilionlaw09_BreakerOne.j2])
          | succ kj12 =>
           have H := HA.out
           clear HA
           simp only [postilionlaw09_BreakerOne.j2] at H
           replace H := Option.bind_eq_some_iff.mp H
           obtain ⟨t302, A1820, H⟩ := H
           replace H : (if x10_12 = 0 then ((breaker_May.f x263000_12 x263001_12 x263002_12 x263003_12).bind fun t303 => (if t303 = true then (if t302 = 1 then ((breaker_Breaker_Lets.f x263000_12 x263001_12 x263002_12 x263003_12 (wrap64 (x6_2 + (wrap64 ((rd_T47 l1 x8_2).f1))))).bind fun t304 => (if t304 = true then (some false) else (if (x7_12 != x263003_12) = true then (some false) else (postilionlaw09_BreakerOne.l0 kj12 a0 l1 (wrap64 (x6_2 + (wrap64 ((rd_T47 l1 x8_2).f1)))) x7_12 (wrap64 (x8_2 + 1)) x263000_12 x263001_12 x263002_12 x263003_12)))) else (if t302 = 0 then ((breaker_Breaker_Lets.f x263000_12 x263001_12 x263002_12 x263003_12 (wrap64 (x6_2 + (wrap64 ((rd_T47 l1 x8_2).f1))))).bind fun t305 => (if t305 = true then (if (x7_12 != x263003_12) = true then (some false) else (postilionlaw09_BreakerOne.l0 kj12 a0 l1 (wrap64 (x6_2 + (wrap64 ((rd_T47 l1 x8_2).f1)))) x7_12 (wrap64 (x8_2 + 1)) x263000_12 x263001_12 x263002_12 x263003_12)) else (some false))) else (if t302 = 2 then ((breaker_Breaker_Lets.f x263000_12 x263001_12 x263002_12 x263003_12 (wrap64 (x6_2 + (wrap64 ((rd_T47 l1 x8_2).f1))))).bind fun t306 => (if (t306 == x7_12) = true then (some false) else (if (x7_12 != x263003_12) = true then (some false) else (postilionlaw09_BreakerOne.l0 kj12 a0 l1 (wrap64 (x6_2 + (wrap64 ((rd_T47 l1 x8_2).f1)))) x7_12 (wrap64 (x8_2 + 1)) x263000_12 x263001_12 x263002_12 x263003_12)))) else (if (x7_12 != x263003_12) = true then (some false) else (postilionlaw09_BreakerOne.l0 kj12 a0 l1 (wrap64 (x6_2 + (wrap64 ((rd_T47 l1 x8_2).f1)))) x7_12 (wrap64 (x8_2 + 1)) x263000_12 x263001_12 x263002_12 x263003_12))))) else (some false))) else (some false)) = some r := H
           have A182 := Aside0.mk A1820
           clear A1820
           by_cases c183 : x10_12 = 0
           ·
            rw [if_pos c183] at H
            have c183b0 : (x10_12 == 0) = true := beq_iff_eq.mpr c183
            have c183b1 : (x10_12 != 0) = false := bne_eq_false_iff_eq.mpr c183
            clear c183
            replace H := Option.bind_eq_some_iff.mp H
            obtain ⟨t303, A1840, H⟩ := H
            replace H : (if t303 = true then (if t302 = 1 then ((breaker_Breaker_Lets.f x263000_12 x263001_12 x263002_12 x263003_12 (wrap64 (x6_2 + (wrap64 ((rd_T47 l1 x8_2).f1))))).bind fun t304 => (if t304 = true then (some false) else (if (x7_12 != x263003_12) = true then (some false) else (postilionlaw09_BreakerOne.l0 kj12 a0 l1 (wrap64 (x6_2 + (wrap64 ((rd_T47 l1 x8_2).f1)))) x7_12 (wrap64 (x8_2 + 1)) x263000_12 x263001_12 x263002_12 x263003_12)))) else (if t302 = 0 then ((breaker_Breaker_Lets.f x263000_12 x263001_12 x263002_12 x263003_12 (wrap64 (x6_2 + (wrap64 ((rd_T47 l1 x8_2).f1))))).bind fun t305 => (if t305 = true then (if (x7_12 != x263003_12) = true then (some false) else (postilionlaw09_BreakerOne.l0 kj12 a0 l1 (wrap64 (x6_2 + (wrap64 ((rd_T47 l1 x8_2).f1)))) x7_12 (wrap64 (x8_2 + 1)) x263000_12 x263001_12 x263002_12 x263003_12)) else (some false))) else (if t302 = 2 then ((breaker_Breaker_Lets.f x263000_12 x263001_12 x263002_12 x263003_12 (wrap64 (x6_2 + (wrap64 ((rd_T47 l1 x8_2).f1))))).bind fun t306 => (if (t306 == x7_12) = true then (some false) else (if (x7_12 != x263003_12) = true then (some false) else (postilionlaw09_BreakerOne.l0 kj12 a0 l1 (wrap64 (x6_2 + (wrap64 ((rd_T47 l1 x8_2).f1)))) x7_12 (wrap64 (x8_2 + 1)) x263000_12 x263001_12 x263002_12 x263003_12)))) else (if (x7_12 != x263003_12) = true then (some false) else (postilionlaw09_BreakerOne.l0 kj12 a0 l1 (wrap64 (x6_2 + (wrap64 ((rd_T47 l1 x8_2).f1)))) x7_12 (wrap64 (x8_2 + 1)) x263000_12 x263001_12 x263002_12 x263003_12))))) else (some false)) = some r := H
            have A184 := Aside0.mk A1840
            clear A1840
            by_cases c185 : t303 = true
            ·
             subst c185
             have H1 : (if t302 = 1 then ((breaker_Breaker_Lets.f x263000_12 x263001_12 x263002_12 x263003_12 (wrap64 (x6_2 + (wrap64 ((rd_T47 l1 x8_2).f1))))).bind fun t304 => (if t304 = true then (some false) else (if (x7_12 != x263003_12) = true then (some false) else (postilionlaw09_BreakerOne.l0 kj12 a0 l1 (wrap64 (x6_2 + (wrap64 ((rd_T47 l1 x8_2).f1)))) x7_12 (wrap64 (x8_2 + 1)) x263000_12 x263001_12 x263002_12 x263003_12)))) else (if t302 = 0 then ((breaker_Breaker_Lets.f x263000_12 x263001_12 x263002_12 x263003_12 (wrap64 (x6_2 + (wrap64 ((rd_T47 l1 x8_2).f1))))).bind fun t305 => (if t305 = true then (if (x7_12 != x263003_12) = true then (some false) else (postilionlaw09_BreakerOne.l0 kj12 a0 l1 (wrap64 (x6_2 + (wrap64 ((rd_T47 l1 x8_2).f1)))) x7_12 (wrap64 (x8_2 + 1)) x263000_12 x263001_12 x263002_12 x263003_12)) else (some false))) else (if t302 = 2 then ((breaker_Breaker_Lets.f x263000_12 x263001_12 x263002_12 x263003_12 (wrap64 (x6_2 + (wrap64 ((rd_T47 l1 x8_2).f1))))).bind fun t306 => (if (t306 == x7_12) = true then (some false) else (if (x7_12 != x263003_12) = true then (some false) else (postilionlaw09_BreakerOne.l0 kj12 a0 l1 (wrap64 (x6_2 + (wrap64 ((rd_T47 l1 x8_2).f1)))) x7_12 (wrap64 (x8_2 + 1)) x263000_12 x263001_12 x263002_12 x263003_12)))) else (if (x7_12 != x263003_12) = true then (some false) else (postilionlaw09_BreakerOne.l0 kj12 a0 l1 (wrap64 (x6_2 + (wrap64 ((rd_T47 l1 x8_2).f1)))) x7_12 (wrap64 (x8_2 + 1)) x263000_12 x263001_12 x263002_12 x263003_12))))) = some r := by rw [if_pos rfl] at H; exact H
             clear H
             have H := H1
             clear H1
             by_cases c186 : t302 = 1
             ·
              rw [if_pos c186] at H
              have c186b0 : (t302 == 1) = true := beq_iff_eq.mpr c186
              have c186b1 : (t302 != 1) = false := bne_eq_false_iff_eq.mpr c186
              clear c186
              replace H := Option.bind_eq_some_iff.mp H
              obtain ⟨t304, A1870, H⟩ := H
              replace H : (if t304 = true then (some false) else (if (x7_12 != x263003_12) = true then (some false) else (postilionlaw09_BreakerOne.l0 kj12 a0 l1 (wrap64 (x6_2 + (wrap64 ((rd_T47 l1 x8_2).f1)))) x7_12 (wrap64 (x8_2 + 1)) x263000_12 x263001_12 x263002_12 x263003_12))) = some r := H
              have A187 := Aside0.mk A1870
              clear A1870
              by_cases c188 : t304 = true
              ·
               subst c188
               have H1 : (some false) = some r := by rw [if_pos rfl] at H; exact H
               clear H
               have H := H1
               clear H1
               as_aux_lemma =>
                exact absurd ((Option.some.inj H).trans hT.out) (by decide)
              ·
               replace c188 := Bool.eq_false_iff.mpr c188
               subst c188
               have H1 : (if (x7_12 != x263003_12) = true then (some false) else (postilionlaw09_BreakerOne.l0 kj12 a0 l1 (wrap64 (x6_2 + (wrap64 ((rd_T47 l1 x8_2).f1)))) x7_12 (wrap64 (x8_2 + 1)) x263000_12 x263001_12 x263002_12 x263003_12)) = some r := by rw [if_neg (show ¬ (false = true) by decide)] at H; exact H
               clear H
               have H := H1
               clear H1
               have c189 : ¬ (t302 = 0) := fun h_ => absurd ((beq_iff_eq.mp (show (t302 == 1) = true by assumption)).symm.trans h_) (by decide)
               (try (have c189b0 : (t302 == 0) = false := beq_eq_false_iff_ne.mpr c189))
               (try (have c189b1 : (t302 != 0) = true := bne_iff_ne.mpr c189))
               clear c189
               have c190 : ¬ (t302 = 2) := fun h_ => absurd ((beq_iff_eq.mp (show (t302 == 1) = true by assumption)).symm.trans h_) (by decide)
               (try (have c190b0 : (t302 == 2) = false := beq_eq_false_iff_ne.mpr c190))
               (try (have c190b1 : (t302 != 2) = true := bne_iff_ne.mpr c190))
               clear c190
               by_cases c191 : (x7_12 != x263003_12) = true
               ·
                rw [if_pos c191] at H
                have c191b0 : (x7_12 != x263003_12) = true := c191
                (try (have c191b1 : decide (x7_12 = x263003_12) = false := by simpa using c191))
                (try (have c191b2 : (x7_12 == x263003_12) = false := by simpa using c191))
                (try (have c191b3 : ¬ (x7_12 = x263003_12) := by simpa using c191))
                clear c191
                as_aux_lemma =>
                 exact absurd ((Option.some.inj H).trans hT.out) (by decide)
               ·
                rw [if_neg c191] at H
                have c191b0 : (x7_12 != x263003_12) = false := by simpa using c191
                (try (have c191b1 : decide (x7_12 = x263003_12) = true := by simpa using c191))
                (try (have c191b2 : (x7_12 == x263003_12) = true := by simpa using c191))
                clear c191
                as_aux_lemma =>
                 have H' := Aside0.mk H
                 clear H
                 have hnb192 := NB262_264.out
                 have hnc192 := NB264_262.out
                 have hcz193_0 : wc.cell? ⟨gb262, 0, none⟩ = some (.bool x263000_12) := (blk_cell BK262.out 0).trans rfl
                 have hcz193_1 : wc.cell? ⟨gb262, 1, none⟩ = some (.int .i64 x263001_12) := (blk_cell BK262.out 1).trans rfl
                 have hcz193_2 : wc.cell? ⟨gb262, 2, none⟩ = some (.int .i64 x263002_12) := (blk_cell BK262.out 2).trans rfl
                 have hcz193_3 : wc.cell? ⟨gb262, 3, none⟩ = some (.bool x263003_12) := (blk_cell BK262.out 3).trans rfl
                 have hfz193_0 := blk_frozen BK262.out 0
                 have hfz193_1 := blk_frozen BK262.out 1
                 have hfz193_2 := blk_frozen BK262.out 2
                 have hfz193_3 := blk_frozen BK262.out 3
                 go_wp2_with (first | ((with_reducible refine gate_callee (f := 11) rfl ?_); refine goesL_ (some 165) rfl rfl Try.func11 (by kernel_rfl) rfl #[.agg #[.bool x263000_12, .int .i64 x263001_12, .int .i64 x263002_12, .bool x263003_12], .int .i64 (wrap64 (x6_2 + (wrap64 ((rd_T47 l1 x8_2).f1))))] rfl (by (try simp only [List.map_toArray, List.map_cons, List.map_nil]); first | done | rfl | (simp only [List.length_drop, List.length_take]; rfl)) ?_; (with_reducible refine (breaker_Breaker_State.calls x263000_12 x263001_12 x263002_12 x263003_12 (wrap64 (x6_2 + (wrap64 ((rd_T47 l1 x8_2).f1)))) t302 _ A182.out).mono ?_); rintro e w194 ⟨rfl, hb⟩; refine ⟨_, rfl, ?_⟩; have n0_ := Aside0.mk (blk_below (g := gb262) (o := .cells #[.bool x263000_12, .int .i64 x263001_12, .int .i64 x263002_12, .bool x263003_12] 23 (0, 0)) (by (with_reducible repeat (first | refine b1 ?_ _ | refine b2 ?_ | refine b3 ?_ _)); exact BK262.out) hb); have n1_ := Aside0.mk (blk_below (g := gb264) (o := .cells #[.int .u8 ((rd_T47 l1 x8_2).f0), .int .u16 ((rd_T47 l1 x8_2).f1), .bool ((rd_T47 l1 x8_2).f2)] 47 (0, 0)) (by (with_reducible repeat (first | refine b1 ?_ _ | refine b2 ?_ | refine b3 ?_ _)); exact BK264.out) hb); have n2_ := Aside0.mk (below_step (by repeat (first | (with_reducible first | exact HB.out | apply below_alloc | apply pw_below_drewN | apply below_drew1 | refine below_set ?_ GE262.out | refine below_set ?_ GE264.out) | exact HB.out)) hb); clear BK262; clear BK264; clear HB; have BK262 := n0_; have BK264 := n1_; have HB := n2_; clear n0_ n1_ n2_; (try clear hb); (try clear hb2); (try clear hk); (try clear hi); have hcz195_0 : w194.cell? ⟨gb262, 0, none⟩ = some (.bool x263000_12) := (blk_cell BK262.out 0).trans rfl; have hcz195_1 : w194.cell? ⟨gb262, 1, none⟩ = some (.int .i64 x263001_12) := (blk_cell BK262.out 1).trans rfl; have hcz195_2 : w194.cell? ⟨gb262, 2, none⟩ = some (.int .i64 x263002_12) := (blk_cell BK262.out 2).trans rfl; have hcz195_3 : w194.cell? ⟨gb262, 3, none⟩ = some (.bool x263003_12) := (blk_cell BK262.out 3).trans rfl; have hfz195_0 := blk_frozen BK262.out 0; have hfz195_1 := blk_frozen BK262.out 1; have hfz195_2 := blk_frozen BK262.out 2; have hfz195_3 := blk_frozen BK262.out 3) | (go_at_call 9; (with_reducible refine (breaker_May.calls x263000_12 x263001_12 x263002_12 x263003_12 true _ A184.out).mono ?_); rintro e w196 ⟨rfl, hb⟩; have n0_ := Aside0.mk (blk_below (g := gb262) (o := .cells #[.bool x263000_12, .int .i64 x263001_12, .int .i64 x263002_12, .bool x263003_12] 23 (0, 0)) (by (with_reducible repeat (first | refine b1 ?_ _ | refine b2 ?_ | refine b3 ?_ _)); exact BK262.out) hb); have n1_ := Aside0.mk (blk_below (g := gb264) (o := .cells #[.int .u8 ((rd_T47 l1 x8_2).f0), .int .u16 ((rd_T47 l1 x8_2).f1), .bool ((rd_T47 l1 x8_2).f2)] 47 (0, 0)) (by (with_reducible repeat (first | refine b1 ?_ _ | refine b2 ?_ | refine b3 ?_ _)); exact BK264.out) hb); have n2_ := Aside0.mk (below_step (by repeat (first | (with_reducible first | exact HB.out | apply below_alloc | apply pw_below_drewN | apply below_drew1 | refine below_set ?_ GE262.out | refine below_set ?_ GE264.out) | exact HB.out)) hb); clear BK262; clear BK264; clear HB; have BK262 := n0_; have BK264 := n1_; have HB := n2_; clear n0_ n1_ n2_; (try clear hb); (try clear hb2); (try clear hk); (try clear hi); have hcz197_0 : w196.cell? ⟨gb262, 0, none⟩ = some (.bool x263000_12) := (blk_cell BK262.out 0).trans rfl; have hcz197_1 : w196.cell? ⟨gb262, 1, none⟩ = some (.int .i64 x263001_12) := (blk_cell BK262.out 1).trans rfl; have hcz197_2 : w196.cell? ⟨gb262, 2, none⟩ = some (.int .i64 x263002_12) := (blk_cell BK262.out 2).trans rfl; have hcz197_3 : w196.cell? ⟨gb262, 3, none⟩ = some (.bool x263003_12) := (blk_cell BK262.out 3).trans rfl; have hfz197_0 := blk_frozen BK262.out 0; have hfz197_1 := blk_frozen BK262.out 1; have hfz197_2 := blk_frozen BK262.out 2; have hfz197_3 := blk_frozen BK262.out 3) | (go_at_call 13; (with_reducible refine (breaker_Breaker_Lets.calls x263000_12 x263001_12 x263002_12 x263003_12 (wrap64 (x6_2 + (wrap64 ((rd_T47 l1 x8_2).f1)))) false _ A187.out).mono ?_); rintro e w198 ⟨rfl, hb⟩; have n0_ := Aside0.mk (blk_below (g := gb262) (o := .cells #[.bool x263000_12, .int .i64 x263001_12, .int .i64 x263002_12, .bool x263003_12] 23 (0, 0)) (by (with_reducible repeat (first | refine b1 ?_ _ | refine b2 ?_ | refine b3 ?_ _)); exact BK262.out) hb); have n1_ := Aside0.mk (blk_below (g := gb264) (o := .cells #[.int .u8 ((rd_T47 l1 x8_2).f0), .int .u16 ((rd_T47 l1 x8_2).f1), .bool ((rd_T47 l1 x8_2).f2)] 47 (0, 0)) (by (with_reducible repeat (first | refine b1 ?_ _ | refine b2 ?_ | refine b3 ?_ _)); exact BK264.out) hb); have n2_ := Aside0.mk (below_step (by repeat (first | (with_reducible first | exact HB.out | apply below_alloc | apply pw_below_drewN | apply below_drew1 | refine below_set ?_ GE262.out | refine below_set ?_ GE264.out) | exact HB.out)) hb); clear BK262; clear BK264; clear HB; have BK262 := n0_; have BK264 := n1_; have HB := n2_; clear n0_ n1_ n2_; (try clear hb); (try clear hb2); (try clear hk); (try clear hi); have hcz199_0 : w198.cell? ⟨gb262, 0, none⟩ = some (.bool x263000_12) := (blk_cell BK262.out 0).trans rfl; have hcz199_1 : w198.cell? ⟨gb262, 1, none⟩ = some (.int .i64 x263001_12) := (blk_cell BK262.out 1).trans rfl; have hcz199_2 : w198.cell? ⟨gb262, 2, none⟩ = some (.int .i64 x263002_12) := (blk_cell BK262.out 2).trans rfl; have hcz199_3 : w198.cell? ⟨gb262, 3, none⟩ = some (.bool x263003_12) := (blk_cell BK262.out 3).trans rfl; have hfz199_0 := blk_frozen BK262.out 0; have hfz199_1 := blk_frozen BK262.out 1; have hfz199_2 := blk_frozen BK262.out 2; have hfz199_3 := blk_frozen BK262.out 3))
                 go_roundg kj12
                 case measure => have := HJ4.out; have := HK2.out; have := HJ12.out; omega
                 case rel => exact ⟨((wrap64 (x6_2 + (wrap64 ((rd_T47 l1 x8_2).f1))))), (x7_12), (wrap64 (x8_2 + 1)), (x263000_12), (x263001_12), (x263002_12), (x263003_12), (by first | rfl | (simp; done) | (simp [*]; done)), (by first | rfl | (simp; done) | (simp [*]; done)), (by first | rfl | (simp; done) | (simp [*]; done)), H', ⟨by have := HJ4.out; have := HK2.out; have := HJ12.out; omega⟩, ⟨by (with_reducible repeat (first | refine b1 ?_ _ | refine b2 ?_ | refine b3 ?_ _)); exact BK262.out⟩, ⟨by repeat (first | (with_reducible first | exact HB.out | apply below_alloc | apply pw_below_drewN | apply below_drew1 | refine below_set ?_ GE262.out | refine below_set ?_ GE264.out) | exact HB.out)⟩⟩
             ·
              rw [if_neg c186] at H
              have c186b0 : (t302 == 1) = false := beq_eq_false_iff_ne.mpr c186
              have c186b1 : (t302 != 1) = true := bne_iff_ne.mpr c186
              by_cases c200 : t302 = 0
              ·
               rw [if_pos c200] at H
               have c200b0 : (t302 == 0) = true := beq_iff_eq.mpr c200
               have c200b1 : (t302 != 0) = false := bne_eq_false_iff_eq.mpr c200
               clear c200
               replace H := Option.bind_eq_some_iff.mp H
               obtain ⟨t305, A2010, H⟩ := H
               replace H : (if t305 = true then (if (x7_12 != x263003_12) = true then (some false) else (postilionlaw09_BreakerOne.l0 kj12 a0 l1 (wrap64 (x6_2 + (wrap64 ((rd_T47 l1 x8_2).f1)))) x7_12 (wrap64 (x8_2 + 1)) x263000_12 x263001_12 x263002_12 x263003_12)) else (some false)) = some r := H
               have A201 := Aside0.mk A2010
               clear A2010
               by_cases c202 : t305 = true
               ·
                subst c202
                have H1 : (if (x7_12 != x263003_12) = true then (some false) else (postilionlaw09_BreakerOne.l0 kj12 a0 l1 (wrap64 (x6_2 + (wrap64 ((rd_T47 l1 x8_2).f1)))) x7_12 (wrap64 (x8_2 + 1)) x263000_12 x263001_12 x263002_12 x263003_12)) = some r := by rw [if_pos rfl] at H; exact H
                clear H
                have H := H1
                clear H1
                have c203 : ¬ (t302 = 2) := fun h_ => absurd ((beq_iff_eq.mp (show (t302 == 0) = true by assumption)).symm.trans h_) (by decide)
                (try (have c203b0 : (t302 == 2) = false := beq_eq_false_iff_ne.mpr c203))
                (try (have c203b1 : (t302 != 2) = true := bne_iff_ne.mpr c203))
                clear c203
                by_cases c204 : (x7_12 != x263003_12) = true
                ·
                 rw [if_pos c204] at H
                 have c204b0 : (x7_12 != x263003_12) = true := c204
                 (try (have c204b1 : decide (x7_12 = x263003_12) = false := by simpa using c204))
                 (try (have c204b2 : (x7_12 == x263003_12) = false := by simpa using c204))
                 (try (have c204b3 : ¬ (x7_12 = x263003_12) := by simpa using c204))
                 clear c204
                 as_aux_lemma =>
                  exact absurd ((Option.some.inj H).trans hT.out) (by decide)
                ·
                 rw [if_neg c204] at H
                 have c204b0 : (x7_12 != x263003_12) = false := by simpa using c204
                 (try (have c204b1 : decide (x7_12 = x263003_12) = true := by simpa using c204))
                 (try (have c204b2 : (x7_12 == x263003_12) = true := by simpa using c204))
                 clear c204
                 as_aux_lemma =>
                  have H' := Aside0.mk H
                  clear H
                  have hnb205 := NB262_264.out
                  have hnc205 := NB264_262.out
                  have hcz206_0 : wc.cell? ⟨gb262, 0, none⟩ = some (.bool x263000_12) := (blk_cell BK262.out 0).trans rfl
                  have hcz206_1 : wc.cell? ⟨gb262, 1, none⟩ = some (.int .i64 x263001_12) := (blk_cell BK262.out 1).trans rfl
                  have hcz206_2 : wc.cell? ⟨gb262, 2, none⟩ = some (.int .i64 x263002_12) := (blk_cell BK262.out 2).trans rfl
                  have hcz206_3 : wc.cell? ⟨gb262, 3, none⟩ = some (.bool x263003_12) := (blk_cell BK262.out 3).trans rfl
                  have hfz206_0 := blk_frozen BK262.out 0
                  have hfz206_1 := blk_frozen BK262.out 1
                  have hfz206_2 := blk_frozen BK262.out 2
                  have hfz206_3 := blk_frozen BK262.out 3
                  go_wp2_with (first | ((with_reducible refine gate_callee (f := 11) rfl ?_); refine goesL_ (some 165) rfl rfl Try.func11 (by kernel_rfl) rfl #[.agg #[.bool x263000_12, .int .i64 x263001_12, .int .i64 x263002_12, .bool x263003_12], .int .i64 (wrap64 (x6_2 + (wrap64 ((rd_T47 l1 x8_2).f1))))] rfl (by (try simp only [List.map_toArray, List.map_cons, List.map_nil]); first | done | rfl | (simp only [List.length_drop, List.length_take]; rfl)) ?_; (with_reducible refine (breaker_Breaker_State.calls x263000_12 x263001_12 x263002_12 x263003_12 (wrap64 (x6_2 + (wrap64 ((rd_T47 l1 x8_2).f1)))) t302 _ A182.out).mono ?_); rintro e w207 ⟨rfl, hb⟩; refine ⟨_, rfl, ?_⟩; have n0_ := Aside0.mk (blk_below (g := gb262) (o := .cells #[.bool x263000_12, .int .i64 x263001_12, .int .i64 x263002_12, .bool x263003_12] 23 (0, 0)) (by (with_reducible repeat (first | refine b1 ?_ _ | refine b2 ?_ | refine b3 ?_ _)); exact BK262.out) hb); have n1_ := Aside0.mk (blk_below (g := gb264) (o := .cells #[.int .u8 ((rd_T47 l1 x8_2).f0), .int .u16 ((rd_T47 l1 x8_2).f1), .bool ((rd_T47 l1 x8_2).f2)] 47 (0, 0)) (by (with_reducible repeat (first | refine b1 ?_ _ | refine b2 ?_ | refine b3 ?_ _)); exact BK264.out) hb); have n2_ := Aside0.mk (below_step (by repeat (first | (with_reducible first | exact HB.out | apply below_alloc | apply pw_below_drewN | apply below_drew1 | refine below_set ?_ GE262.out | refine below_set ?_ GE264.out) | exact HB.out)) hb); clear BK262; clear BK264; clear HB; have BK262 := n0_; have BK264 := n1_; have HB := n2_; clear n0_ n1_ n2_; (try clear hb); (try clear hb2); (try clear hk); (try clear hi); have hcz208_0 : w207.cell? ⟨gb262, 0, none⟩ = some (.bool x263000_12) := (blk_cell BK262.out 0).trans rfl; have hcz208_1 : w207.cell? ⟨gb262, 1, none⟩ = some (.int .i64 x263001_12) := (blk_cell BK262.out 1).trans rfl; have hcz208_2 : w207.cell? ⟨gb262, 2, none⟩ = some (.int .i64 x263002_12) := (blk_cell BK262.out 2).trans rfl; have hcz208_3 : w207.cell? ⟨gb262, 3, none⟩ = some (.bool x263003_12) := (blk_cell BK262.out 3).trans rfl; have hfz208_0 := blk_frozen BK262.out 0; have hfz208_1 := blk_frozen BK262.out 1; have hfz208_2 := blk_frozen BK262.out 2; have hfz208_3 := blk_frozen BK262.out 3) | (go_at_call 9; (with_reducible refine (breaker_May.calls x263000_12 x263001_12 x263002_12 x263003_12 true _ A184.out).mono ?_); rintro e w209 ⟨rfl, hb⟩; have n0_ := Aside0.mk (blk_below (g := gb262) (o := .cells #[.bool x263000_12, .int .i64 x263001_12, .int .i64 x263002_12, .bool x263003_12] 23 (0, 0)) (by (with_reducible repeat (first | refine b1 ?_ _ | refine b2 ?_ | refine b3 ?_ _)); exact BK262.out) hb); have n1_ := Aside0.mk (blk_below (g := gb264) (o := .cells #[.int .u8 ((rd_T47 l1 x8_2).f0), .int .u16 ((rd_T47 l1 x8_2).f1), .bool ((rd_T47 l1 x8_2).f2)] 47 (0, 0)) (by (with_reducible repeat (first | refine b1 ?_ _ | refine b2 ?_ | refine b3 ?_ _)); exact BK264.out) hb); have n2_ := Aside0.mk (below_step (by repeat (first | (with_reducible first | exact HB.out | apply below_alloc | apply pw_below_drewN | apply below_drew1 | refine below_set ?_ GE262.out | refine below_set ?_ GE264.out) | exact HB.out)) hb); clear BK262; clear BK264; clear HB; have BK262 := n0_; have BK264 := n1_; have HB := n2_; clear n0_ n1_ n2_; (try clear hb); (try clear hb2); (try clear hk); (try clear hi); have hcz210_0 : w209.cell? ⟨gb262, 0, none⟩ = some (.bool x263000_12) := (blk_cell BK262.out 0).trans rfl; have hcz210_1 : w209.cell? ⟨gb262, 1, none⟩ = some (.int .i64 x263001_12) := (blk_cell BK262.out 1).trans rfl; have hcz210_2 : w209.cell? ⟨gb262, 2, none⟩ = some (.int .i64 x263002_12) := (blk_cell BK262.out 2).trans rfl; have hcz210_3 : w209.cell? ⟨gb262, 3, none⟩ = some (.bool x263003_12) := (blk_cell BK262.out 3).trans rfl; have hfz210_0 := blk_frozen BK262.out 0; have hfz210_1 := blk_frozen BK262.out 1; have hfz210_2 := blk_frozen BK262.out 2; have hfz210_3 := blk_frozen BK262.out 3) | (go_at_call 13; (with_reducible refine (breaker_Breaker_Lets.calls x263000_12 x263001_12 x263002_12 x263003_12 (wrap64 (x6_2 + (wrap64 ((rd_T47 l1 x8_2).f1)))) true _ A201.out).mono ?_); rintro e w211 ⟨rfl, hb⟩; have n0_ := Aside0.mk (blk_below (g := gb262) (o := .cells #[.bool x263000_12, .int .i64 x263001_12, .int .i64 x263002_12, .bool x263003_12] 23 (0, 0)) (by (with_reducible repeat (first | refine b1 ?_ _ | refine b2 ?_ | refine b3 ?_ _)); exact BK262.out) hb); have n1_ := Aside0.mk (blk_below (g := gb264) (o := .cells #[.int .u8 ((rd_T47 l1 x8_2).f0), .int .u16 ((rd_T47 l1 x8_2).f1), .bool ((rd_T47 l1 x8_2).f2)] 47 (0, 0)) (by (with_reducible repeat (first | refine b1 ?_ _ | refine b2 ?_ | refine b3 ?_ _)); exact BK264.out) hb); have n2_ := Aside0.mk (below_step (by repeat (first | (with_reducible first | exact HB.out | apply below_alloc | apply pw_below_drewN | apply below_drew1 | refine below_set ?_ GE262.out | refine below_set ?_ GE264.out) | exact HB.out)) hb); clear BK262; clear BK264; clear HB; have BK262 := n0_; have BK264 := n1_; have HB := n2_; clear n0_ n1_ n2_; (try clear hb); (try clear hb2); (try clear hk); (try clear hi); have hcz212_0 : w211.cell? ⟨gb262, 0, none⟩ = some (.bool x263000_12) := (blk_cell BK262.out 0).trans rfl; have hcz212_1 : w211.cell? ⟨gb262, 1, none⟩ = some (.int .i64 x263001_12) := (blk_cell BK262.out 1).trans rfl; have hcz212_2 : w211.cell? ⟨gb262, 2, none⟩ = some (.int .i64 x263002_12) := (blk_cell BK262.out 2).trans rfl; have hcz212_3 : w211.cell? ⟨gb262, 3, none⟩ = some (.bool x263003_12) := (blk_cell BK262.out 3).trans rfl; have hfz212_0 := blk_frozen BK262.out 0; have hfz212_1 := blk_frozen BK262.out 1; have hfz212_2 := blk_frozen BK262.out 2; have hfz212_3 := blk_frozen BK262.out 3))
                  go_roundg kj12
                  case measure => have := HJ4.out; have := HK2.out; have := HJ12.out; omega
                  case rel => exact ⟨((wrap64 (x6_2 + (wrap64 ((rd_T47 l1 x8_2).f1))))), (x7_12), (wrap64 (x8_2 + 1)), (x263000_12), (x263001_12), (x263002_12), (x263003_12), (by first | rfl | (simp; done) | (simp [*]; done)), (by first | rfl | (simp; done) | (simp [*]; done)), (by first | rfl | (simp; done) | (simp [*]; done)), H', ⟨by have := HJ4.out; have := HK2.out; have := HJ12.out; omega⟩, ⟨by (with_reducible repeat (first | refine b1 ?_ _ | refine b2 ?_ | refine b3 ?_ _)); exact BK262.out⟩, ⟨by repeat (first | (with_reducible first | exact HB.out | apply below_alloc | apply pw_below_drewN | apply below_drew1 | refine below_set ?_ GE262.out | refine below_set ?_ GE264.out) | exact HB.out)⟩⟩
               ·
                replace c202 := Bool.eq_false_iff.mpr c202
                subst c202
                have H1 : (some false) = some r := by rw [if_neg (show ¬ (false = true) by decide)] at H; exact H
                clear H
                have H := H1
                clear H1
                as_aux_lemma =>
                 exact absurd ((Option.some.inj H).trans hT.out) (by decide)
              ·
               rw [if_neg c200] at H
               have c200b0 : (t302 == 0) = false := beq_eq_false_iff_ne.mpr c200
               have c200b1 : (t302 != 0) = true := bne_iff_ne.mpr c200
               by_cases c213 : t302 = 2
               ·
                rw [if_pos c213] at H
                have c213b0 : (t302 == 2) = true := beq_iff_eq.mpr c213
                have c213b1 : (t302 != 2) = false := bne_eq_false_iff_eq.mpr c213
                clear c213
                replace H := Option.bind_eq_some_iff.mp H
                obtain ⟨t306, A2140, H⟩ := H
                replace H : (if (t306 == x7_12) = true then (some false) else (if (x7_12 != x263003_12) = true then (some false) else (postilionlaw09_BreakerOne.l0 kj12 a0 l1 (wrap64 (x6_2 + (wrap64 ((rd_T47 l1 x8_2).f1)))) x7_12 (wrap64 (x8_2 + 1)) x263000_12 x263001_12 x263002_12 x263003_12))) = some r := H
                have A214 := Aside0.mk A2140
                clear A2140
                by_cases c215 : (t306 == x7_12) = true
                ·
                 rw [if_pos c215] at H
                 have c215b0 : (t306 == x7_12) = true := c215
                 (try (have c215b1 : decide (t306 = x7_12) = true := by simpa using c215))
                 (try (have c215b2 : (t306 == x7_12) = true := by simpa using c215))
                 clear c215
                 as_aux_lemma =>
                  exact absurd ((Option.some.inj H).trans hT.out) (by decide)
                ·
                 rw [if_neg c215] at H
                 have c215b0 : (t306 == x7_12) = false := by simpa using c215
                 (try (have c215b1 : decide (t306 = x7_12) = false := by simpa using c215))
                 (try (have c215b2 : (t306 == x7_12) = false := by simpa using c215))
                 (try (have c215b3 : ¬ (t306 = x7_12) := by simpa using c215))
                 clear c215
                 by_cases c216 : (x7_12 != x263003_12) = true
                 ·
                  rw [if_pos c216] at H
                  have c216b0 : (x7_12 != x263003_12) = true := c216
                  (try (have c216b1 : decide (x7_12 = x263003_12) = false := by simpa using c216))
                  (try (have c216b2 : (x7_12 == x263003_12) = false := by simpa using c216))
                  (try (have c216b3 : ¬ (x7_12 = x263003_12) := by simpa using c216))
                  clear c216
                  as_aux_lemma =>
                   exact absurd ((Option.some.inj H).trans hT.out) (by decide)
                 ·
                  rw [if_neg c216] at H
                  have c216b0 : (x7_12 != x263003_12) = false := by simpa using c216
                  (try (have c216b1 : decide (x7_12 = x263003_12) = true := by simpa using c216))
                  (try (have c216b2 : (x7_12 == x263003_12) = true := by simpa using c216))
                  clear c216
                  as_aux_lemma =>
                   have H' := Aside0.mk H
                   clear H
                   have hnb217 := NB262_264.out
                   have hnc217 := NB264_262.out
                   have hcz218_0 : wc.cell? ⟨gb262, 0, none⟩ = some (.bool x263000_12) := (blk_cell BK262.out 0).trans rfl
                   have hcz218_1 : wc.cell? ⟨gb262, 1, none⟩ = some (.int .i64 x263001_12) := (blk_cell BK262.out 1).trans rfl
                   have hcz218_2 : wc.cell? ⟨gb262, 2, none⟩ = some (.int .i64 x263002_12) := (blk_cell BK262.out 2).trans rfl
                   have hcz218_3 : wc.cell? ⟨gb262, 3, none⟩ = some (.bool x263003_12) := (blk_cell BK262.out 3).trans rfl
                   have hfz218_0 := blk_frozen BK262.out 0
                   have hfz218_1 := blk_frozen BK262.out 1
                   have hfz218_2 := blk_frozen BK262.out 2
                   have hfz218_3 := blk_frozen BK262.out 3
                   go_wp2_with (first | ((with_reducible refine gate_callee (f := 11) rfl ?_); refine goesL_ (some 165) rfl rfl Try.func11 (by kernel_rfl) rfl #[.agg #[.bool x263000_12, .int .i64 x263001_12, .int .i64 x263002_12, .bool x263003_12], .int .i64 (wrap64 (x6_2 + (wrap64 ((rd_T47 l1 x8_2).f1))))] rfl (by (try simp only [List.map_toArray, List.map_cons, List.map_nil]); first | done | rfl | (simp only [List.length_drop, List.length_take]; rfl)) ?_; (with_reducible refine (breaker_Breaker_State.calls x263000_12 x263001_12 x263002_12 x263003_12 (wrap64 (x6_2 + (wrap64 ((rd_T47 l1 x8_2).f1)))) t302 _ A182.out).mono ?_); rintro e w219 ⟨rfl, hb⟩; refine ⟨_, rfl, ?_⟩; have n0_ := Aside0.mk (blk_below (g := gb262) (o := .cells #[.bool x263000_12, .int .i64 x263001_12, .int .i64 x263002_12, .bool x263003_12] 23 (0, 0)) (by (with_reducible repeat (first | refine b1 ?_ _ | refine b2 ?_ | refine b3 ?_ _)); exact BK262.out) hb); have n1_ := Aside0.mk (blk_below (g := gb264) (o := .cells #[.int .u8 ((rd_T47 l1 x8_2).f0), .int .u16 ((rd_T47 l1 x8_2).f1), .bool ((rd_T47 l1 x8_2).f2)] 47 (0, 0)) (by (with_reducible repeat (first | refine b1 ?_ _ | refine b2 ?_ | refine b3 ?_ _)); exact BK264.out) hb); have n2_ := Aside0.mk (below_step (by repeat (first | (with_reducible first | exact HB.out | apply below_alloc | apply pw_below_drewN | apply below_drew1 | refine below_set ?_ GE262.out | refine below_set ?_ GE264.out) | exact HB.out)) hb); clear BK262; clear BK264; clear HB; have BK262 := n0_; have BK264 := n1_; have HB := n2_; clear n0_ n1_ n2_; (try clear hb); (try clear hb2); (try clear hk); (try clear hi); have hcz220_0 : w219.cell? ⟨gb262, 0, none⟩ = some (.bool x263000_12) := (blk_cell BK262.out 0).trans rfl; have hcz220_1 : w219.cell? ⟨gb262, 1, none⟩ = some (.int .i64 x263001_12) := (blk_cell BK262.out 1).trans rfl; have hcz220_2 : w219.cell? ⟨gb262, 2, none⟩ = some (.int .i64 x263002_12) := (blk_cell BK262.out 2).trans rfl; have hcz220_3 : w219.cell? ⟨gb262, 3, none⟩ = some (.bool x263003_12) := (blk_cell BK262.out 3).trans rfl; have hfz220_0 := blk_frozen BK262.out 0; have hfz220_1 := blk_frozen BK262.out 1; have hfz220_2 := blk_frozen BK262.out 2; have hfz220_3 := blk_frozen BK262.out 3) | (go_at_call 9; (with_reducible refine (breaker_May.calls x263000_12 x263001_12 x263002_12 x263003_12 true _ A184.out).mono ?_); rintro e w221 ⟨rfl, hb⟩; have n0_ := Aside0.mk (blk_below (g := gb262) (o := .cells #[.bool x263000_12, .int .i64 x263001_12, .int .i64 x263002_12, .bool x263003_12] 23 (0, 0)) (by (with_reducible repeat (first | refine b1 ?_ _ | refine b2 ?_ | refine b3 ?_ _)); exact BK262.out) hb); have n1_ := Aside0.mk (blk_below (g := gb264) (o := .cells #[.int .u8 ((rd_T47 l1 x8_2).f0), .int .u16 ((rd_T47 l1 x8_2).f1), .bool ((rd_T47 l1 x8_2).f2)] 47 (0, 0)) (by (with_reducible repeat (first | refine b1 ?_ _ | refine b2 ?_ | refine b3 ?_ _)); exact BK264.out) hb); have n2_ := Aside0.mk (below_step (by repeat (first | (with_reducible first | exact HB.out | apply below_alloc | apply pw_below_drewN | apply below_drew1 | refine below_set ?_ GE262.out | refine below_set ?_ GE264.out) | exact HB.out)) hb); clear BK262; clear BK264; clear HB; have BK262 := n0_; have BK264 := n1_; have HB := n2_; clear n0_ n1_ n2_; (try clear hb); (try clear hb2); (try clear hk); (try clear hi); have hcz222_0 : w221.cell? ⟨gb262, 0, none⟩ = some (.bool x263000_12) := (blk_cell BK262.out 0).trans rfl; have hcz222_1 : w221.cell? ⟨gb262, 1, none⟩ = some (.int .i64 x263001_12) := (blk_cell BK262.out 1).trans rfl; have hcz222_2 : w221.cell? ⟨gb262, 2, none⟩ = some (.int .i64 x263002_12) := (blk_cell BK262.out 2).trans rfl; have hcz222_3 : w221.cell? ⟨gb262, 3, none⟩ = some (.bool x263003_12) := (blk_cell BK262.out 3).trans rfl; have hfz222_0 := blk_frozen BK262.out 0; have hfz222_1 := blk_frozen BK262.out 1; have hfz222_2 := blk_frozen BK262.out 2; have hfz222_3 := blk_frozen BK262.out 3) | (go_at_call 13; (with_reducible refine (breaker_Breaker_Lets.calls x263000_12 x263001_12 x263002_12 x263003_12 (wrap64 (x6_2 + (wrap64 ((rd_T47 l1 x8_2).f1)))) t306 _ A214.out).mono ?_); rintro e w223 ⟨rfl, hb⟩; have n0_ := Aside0.mk (blk_below (g := gb262) (o := .cells #[.bool x263000_12, .int .i64 x263001_12, .int .i64 x263002_12, .bool x263003_12] 23 (0, 0)) (by (with_reducible repeat (first | refine b1 ?_ _ | refine b2 ?_ | refine b3 ?_ _)); exact BK262.out) hb); have n1_ := Aside0.mk (blk_below (g := gb264) (o := .cells #[.int .u8 ((rd_T47 l1 x8_2).f0), .int .u16 ((rd_T47 l1 x8_2).f1), .bool ((rd_T47 l1 x8_2).f2)] 47 (0, 0)) (by (with_reducible repeat (first | refine b1 ?_ _ | refine b2 ?_ | refine b3 ?_ _)); exact BK264.out) hb); have n2_ := Aside0.mk (below_step (by repeat (first | (with_reducible first | exact HB.out | apply below_alloc | apply pw_below_drewN | apply below_drew1 | refine below_set ?_ GE262.out | refine below_set ?_ GE264.out) | exact HB.out)) hb); clear BK262; clear BK264; clear HB; have BK262 := n0_; have BK264 := n1_; have HB := n2_; clear n0_ n1_ n2_; (try clear hb); (try clear hb2); (try clear hk); (try clear hi); have hcz224_0 : w223.cell? ⟨gb262, 0, none⟩ = some (.bool x263000_12) := (blk_cell BK262.out 0).trans rfl; have hcz224_1 : w223.cell? ⟨gb262, 1, none⟩ = some (.int .i64 x263001_12) := (blk_cell BK262.out 1).trans rfl; have hcz224_2 : w223.cell? ⟨gb262, 2, none⟩ = some (.int .i64 x263002_12) := (blk_cell BK262.out 2).trans rfl; have hcz224_3 : w223.cell? ⟨gb262, 3, none⟩ = some (.bool x263003_12) := (blk_cell BK262.out 3).trans rfl; have hfz224_0 := blk_frozen BK262.out 0; have hfz224_1 := blk_frozen BK262.out 1; have hfz224_2 := blk_frozen BK262.out 2; have hfz224_3 := blk_frozen BK262.out 3))
                   go_roundg kj12
                   case measure => have := HJ4.out; have := HK2.out; have := HJ12.out; omega
                   case rel => exact ⟨((wrap64 (x6_2 + (wrap64 ((rd_T47 l1 x8_2).f1))))), (x7_12), (wrap64 (x8_2 + 1)), (x263000_12), (x263001_12), (x263002_12), (x263003_12), (by first | rfl | (simp; done) | (simp [*]; done)), (by first | rfl | (simp; done) | (simp [*]; done)), (by first | rfl | (simp; done) | (simp [*]; done)), H', ⟨by have := HJ4.out; have := HK2.out; have := HJ12.out; omega⟩, ⟨by (with_reducible repeat (first | refine b1 ?_ _ | refine b2 ?_ | refine b3 ?_ _)); exact BK262.out⟩, ⟨by repeat (first | (with_reducible first | exact HB.out | apply below_alloc | apply pw_below_drewN | apply below_drew1 | refine below_set ?_ GE262.out | refine below_set ?_ GE264.out) | exact HB.out)⟩⟩
               ·
                rw [if_neg c213] at H
                have c213b0 : (t302 == 2) = false := beq_eq_false_iff_ne.mpr c213
                have c213b1 : (t302 != 2) = true := bne_iff_ne.mpr c213
                by_cases c225 : (x7_12 != x263003_12) = true
                ·
                 rw [if_pos c225] at H
                 have c225b0 : (x7_12 != x263003_12) = true := c225
                 (try (have c225b1 : decide (x7_12 = x263003_12) = false := by simpa using c225))
                 (try (have c225b2 : (x7_12 == x263003_12) = false := by simpa using c225))
                 (try (have c225b3 : ¬ (x7_12 = x263003_12) := by simpa using c225))
                 clear c225
                 as_aux_lemma =>
                  exact absurd ((Option.some.inj H).trans hT.out) (by decide)
                ·
                 rw [if_neg c225] at H
                 have c225b0 : (x7_12 != x263003_12) = false := by simpa using c225
                 (try (have c225b1 : decide (x7_12 = x263003_12) = true := by simpa using c225))
                 (try (have c225b2 : (x7_12 == x263003_12) = true := by simpa using c225))
                 clear c225
                 as_aux_lemma =>
                  have H' := Aside0.mk H
                  clear H
                  have hnb226 := NB262_264.out
                  have hnc226 := NB264_262.out
                  have hcz227_0 : wc.cell? ⟨gb262, 0, none⟩ = some (.bool x263000_12) := (blk_cell BK262.out 0).trans rfl
                  have hcz227_1 : wc.cell? ⟨gb262, 1, none⟩ = some (.int .i64 x263001_12) := (blk_cell BK262.out 1).trans rfl
                  have hcz227_2 : wc.cell? ⟨gb262, 2, none⟩ = some (.int .i64 x263002_12) := (blk_cell BK262.out 2).trans rfl
                  have hcz227_3 : wc.cell? ⟨gb262, 3, none⟩ = some (.bool x263003_12) := (blk_cell BK262.out 3).trans rfl
                  have hfz227_0 := blk_frozen BK262.out 0
                  have hfz227_1 := blk_frozen BK262.out 1
                  have hfz227_2 := blk_frozen BK262.out 2
                  have hfz227_3 := blk_frozen BK262.out 3
                  go_wp2_with (first | ((with_reducible refine gate_callee (f := 11) rfl ?_); refine goesL_ (some 165) rfl rfl Try.func11 (by kernel_rfl) rfl #[.agg #[.bool x263000_12, .int .i64 x263001_12, .int .i64 x263002_12, .bool x263003_12], .int .i64 (wrap64 (x6_2 + (wrap64 ((rd_T47 l1 x8_2).f1))))] rfl (by (try simp only [List.map_toArray, List.map_cons, List.map_nil]); first | done | rfl | (simp only [List.length_drop, List.length_take]; rfl)) ?_; (with_reducible refine (breaker_Breaker_State.calls x263000_12 x263001_12 x263002_12 x263003_12 (wrap64 (x6_2 + (wrap64 ((rd_T47 l1 x8_2).f1)))) t302 _ A182.out).mono ?_); rintro e w228 ⟨rfl, hb⟩; refine ⟨_, rfl, ?_⟩; have n0_ := Aside0.mk (blk_below (g := gb262) (o := .cells #[.bool x263000_12, .int .i64 x263001_12, .int .i64 x263002_12, .bool x263003_12] 23 (0, 0)) (by (with_reducible repeat (first | refine b1 ?_ _ | refine b2 ?_ | refine b3 ?_ _)); exact BK262.out) hb); have n1_ := Aside0.mk (blk_below (g := gb264) (o := .cells #[.int .u8 ((rd_T47 l1 x8_2).f0), .int .u16 ((rd_T47 l1 x8_2).f1), .bool ((rd_T47 l1 x8_2).f2)] 47 (0, 0)) (by (with_reducible repeat (first | refine b1 ?_ _ | refine b2 ?_ | refine b3 ?_ _)); exact BK264.out) hb); have n2_ := Aside0.mk (below_step (by repeat (first | (with_reducible first | exact HB.out | apply below_alloc | apply pw_below_drewN | apply below_drew1 | refine below_set ?_ GE262.out | refine below_set ?_ GE264.out) | exact HB.out)) hb); clear BK262; clear BK264; clear HB; have BK262 := n0_; have BK264 := n1_; have HB := n2_; clear n0_ n1_ n2_; (try clear hb); (try clear hb2); (try clear hk); (try clear hi); have hcz229_0 : w228.cell? ⟨gb262, 0, none⟩ = some (.bool x263000_12) := (blk_cell BK262.out 0).trans rfl; have hcz229_1 : w228.cell? ⟨gb262, 1, none⟩ = some (.int .i64 x263001_12) := (blk_cell BK262.out 1).trans rfl; have hcz229_2 : w228.cell? ⟨gb262, 2, none⟩ = some (.int .i64 x263002_12) := (blk_cell BK262.out 2).trans rfl; have hcz229_3 : w228.cell? ⟨gb262, 3, none⟩ = some (.bool x263003_12) := (blk_cell BK262.out 3).trans rfl; have hfz229_0 := blk_frozen BK262.out 0; have hfz229_1 := blk_frozen BK262.out 1; have hfz229_2 := blk_frozen BK262.out 2; have hfz229_3 := blk_frozen BK262.out 3) | (go_at_call 9; (with_reducible refine (breaker_May.calls x263000_12 x263001_12 x263002_12 x263003_12 true _ A184.out).mono ?_); rintro e w230 ⟨rfl, hb⟩; have n0_ := Aside0.mk (blk_below (g := gb262) (o := .cells #[.bool x263000_12, .int .i64 x263001_12, .int .i64 x263002_12, .bool x263003_12] 23 (0, 0)) (by (with_reducible repeat (first | refine b1 ?_ _ | refine b2 ?_ | refine b3 ?_ _)); exact BK262.out) hb); have n1_ := Aside0.mk (blk_below (g := gb264) (o := .cells #[.int .u8 ((rd_T47 l1 x8_2).f0), .int .u16 ((rd_T47 l1 x8_2).f1), .bool ((rd_T47 l1 x8_2).f2)] 47 (0, 0)) (by (with_reducible repeat (first | refine b1 ?_ _ | refine b2 ?_ | refine b3 ?_ _)); exact BK264.out) hb); have n2_ := Aside0.mk (below_step (by repeat (first | (with_reducible first | exact HB.out | apply below_alloc | apply pw_below_drewN | apply below_drew1 | refine below_set ?_ GE262.out | refine below_set ?_ GE264.out) | exact HB.out)) hb); clear BK262; clear BK264; clear HB; have BK262 := n0_; have BK264 := n1_; have HB := n2_; clear n0_ n1_ n2_; (try clear hb); (try clear hb2); (try clear hk); (try clear hi); have hcz231_0 : w230.cell? ⟨gb262, 0, none⟩ = some (.bool x263000_12) := (blk_cell BK262.out 0).trans rfl; have hcz231_1 : w230.cell? ⟨gb262, 1, none⟩ = some (.int .i64 x263001_12) := (blk_cell BK262.out 1).trans rfl; have hcz231_2 : w230.cell? ⟨gb262, 2, none⟩ = some (.int .i64 x263002_12) := (blk_cell BK262.out 2).trans rfl; have hcz231_3 : w230.cell? ⟨gb262, 3, none⟩ = some (.bool x263003_12) := (blk_cell BK262.out 3).trans rfl; have hfz231_0 := blk_frozen BK262.out 0; have hfz231_1 := blk_frozen BK262.out 1; have hfz231_2 := blk_frozen BK262.out 2; have hfz231_3 := blk_frozen BK262.out 3))
                  go_roundg kj12
                  case measure => have := HJ4.out; have := HK2.out; have := HJ12.out; omega
                  case rel => exact ⟨((wrap64 (x6_2 + (wrap64 ((rd_T47 l1 x8_2).f1))))), (x7_12), (wrap64 (x8_2 + 1)), (x263000_12), (x263001_12), (x263002_12), (x263003_12), (by first | rfl | (simp; done) | (simp [*]; done)), (by first | rfl | (simp; done) | (simp [*]; done)), (by first | rfl | (simp; done) | (simp [*]; done)), H', ⟨by have := HJ4.out; have := HK2.out; have := HJ12.out; omega⟩, ⟨by (with_reducible repeat (first | refine b1 ?_ _ | refine b2 ?_ | refine b3 ?_ _)); exact BK262.out⟩, ⟨by repeat (first | (with_reducible first | exact HB.out | apply below_alloc | apply pw_below_drewN | apply below_drew1 | refine below_set ?_ GE262.out | refine below_set ?_ GE264.out) | exact HB.out)⟩⟩
            ·
             replace c185 := Bool.eq_false_iff.mpr c185
             subst c185
             have H1 : (some false) = some r := by rw [if_neg (show ¬ (false = true) by decide)] at H; exact H
             clear H
             have H := H1
             clear H1
             as_aux_lemma =>
              exact absurd ((Option.some.inj H).trans hT.out) (by decide)
           ·
            rw [if_neg c183] at H
            have c183b0 : (x10_12 == 0) = false := beq_eq_false_iff_ne.mpr c183
            have c183b1 : (x10_12 != 0) = true := bne_iff_ne.mpr c183
            as_aux_lemma =>
             exact absurd ((Option.some.inj H).trans hT.out) (by decide)
        ·
         rw [if_neg c12] at H
         exact absurd H (by simp)
       ·
        rw [if_neg c11] at H
        have c11b0 : decide (x8_2 < (l1.length : Int)) = false := decide_eq_false c11
        clear c11
        as_aux_lemma =>
         obtain rfl := Option.some.inj H
         go_wp2
         go_ret
         exact ⟨by first | rfl | (simp [errW_none, errW_some] <;> rfl) | (simp [*, errW_none, errW_some] <;> rfl), by repeat (first | (with_reducible first | exact HB.out | apply below_alloc | apply pw_below_drewN | apply below_drew1 | refine below_set ?_ GE262.out) | exact HB.out)⟩
 ·
  replace c4 := Bool.eq_false_iff.mpr c4
  subst c4
  have H1 : (some false) = some r := by rw [if_neg (show ¬ (false = true) by decide)] at H; exact H
  clear H
  have H := H1
  clear H1
  as_aux_lemma =>
   exact absurd ((Option.some.inj H).trans hT.out) (by decide)

/-- THE ONE PURE STATEMENT of postilionlaw09_BreakerOne: yours. -/
def postilionlaw09_BreakerOne.Pure : Prop := ∀ (a0 : Int) (l1 : List (S47)), (Lit.int .i64 a0).wf = true → l1.length ≤ maxLen → (∀ y_ ∈ l1, ((Lit.int .u8 y_.f0).wf = true) ∧ ((Lit.int .u16 y_.f1).wf = true)) → ∃ k, postilionlaw09_BreakerOne.f k a0 l1 = some true

end Go.Proofs.Ytihjjafblfpbbaa.P
