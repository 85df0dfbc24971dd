-- Laid by sp.py, a program of this session's, out of the translation and the session's own stand-ins.
import Derived.Test.YtmcbpoejdgobnaaPx0
import Derived.Test.YtmcbpoejdgobnaaPx1
import Derived.Test.YtmcbpoejdgobnaaPx3
import Derived.Test.YtmcbpoejdgobnaaPx4
import Derived.Test.YtmcbpoejdgobnaaPx5
import Derived.Test.YtmcbpoejdgobnaaPx6
import Derived.Test.YtmcbpoejdgobnaaStwindowList
import Derived.Test.YtmcbpoejdgobnaaPx7
import Derived.Test.YtmcbpoejdgobnaaPx9
namespace Go.Proofs.Ytmcbpoejdgobnaa.P
open Go.RowKit Go.Proofs.YtmcbpoejdgobnaaW.PrintWords Go.Proofs.YtmcbpoejdgobnaaW.PrintLast Go.Proofs.YtmcbpoejdgobnaaW.PrintMore
attribute [local go_sem] max2_int min2_int max_two min_two max_three min_three max_four min_four   -- for this text's walks alone
set_option linter.unusedVariables false
set_option linter.unusedSimpArgs false
set_option linter.unnecessarySimpa false

/-! ### postilionlaw08_WindowTells: function 3 -/
def postilionlaw08_WindowTells.f (k : Nat) (a0 : Int) (a1 : Bool) : Option (Bool) := (postilionref08_List.f k a0).bind fun bt137 => ((window_Window_May.f a0).bind fun t141 => (if (t141 == bt137.2) = true then ((window_Window_Len.f a0).bind fun t142 => (if t142 = (bt137.1.length : Int) then ((window_Window_Bad.f a0).bind fun t143 => ((postilionref08_Bad.f k a0).bind fun t144 => (if t143 = t144 then ((window_Window_List.f a0).bind fun t145 => ((postilionref08_Same.f k t145 bt137.1).bind fun t148 => (if t148 = true then ((window_Window_Add.f a0 a1).bind fun t149 => ((postilionref08_Add.f k a0 a1).bind fun t150 => (some (t149 == t150)))) else (some false)))) else (some false)))) else (some false))) else (some false)))
theorem postilionlaw08_WindowTells.mono : ∀ a0 a1 k, LeO (postilionlaw08_WindowTells.f k a0 a1) (postilionlaw08_WindowTells.f (k + 1) a0 a1) := by
  intro a0 a1 k
  unfold postilionlaw08_WindowTells.f
  repeat' first
      | (with_reducible exact postilionref08_Add.mono _ _ _)
      | (with_reducible exact postilionref08_Bad.mono _ _)
      | (with_reducible exact postilionref08_List.mono _ _)
      | (with_reducible exact postilionref08_Same.mono _ _ _)
      | (with_reducible exact LeO.refl _)
      | (with_reducible exact LeO.none _)
      | (with_reducible refine LeO.ite ?_ ?_)
      | (with_reducible refine LeO.bind ?_ (fun _ => ?_))
      | exact postilionref08_Add.mono _ _ _
      | exact postilionref08_Bad.mono _ _
      | exact postilionref08_List.mono _ _
      | exact postilionref08_Same.mono _ _ _
      | exact LeO.none _
      | refine LeO.ite ?_ ?_
      | refine LeO.bind ?_ (fun _ => ?_)
set_option maxHeartbeats 8000000 in
set_option maxRecDepth 100000 in
theorem postilionlaw08_WindowTells.calls (k : Nat) (a0 : Int) (a1 : Bool) (r : Bool) (w : World) (h : postilionlaw08_WindowTells.f k a0 a1 = some r) (hT : Aside0 (r = true)) :
    Calls Try.prog 3 #[.int .u16 a0, .bool a1] w fun e w' => e = .returned (.bool r) ∧ Below w.heap.size w w' := by
  have HB := Aside0.mk (Below.refl w.heap.size w)
  have H : ((postilionref08_List.f k a0).bind fun bt137 => ((window_Window_May.f a0).bind fun t141 => (if (t141 == bt137.2) = true then ((window_Window_Len.f a0).bind fun t142 => (if t142 = (bt137.1.length : Int) then ((window_Window_Bad.f a0).bind fun t143 => ((postilionref08_Bad.f k a0).bind fun t144 => (if t143 = t144 then ((window_Window_List.f a0).bind fun t145 => ((postilionref08_Same.f k t145 bt137.1).bind fun t148 => (if t148 = true then ((window_Window_Add.f a0 a1).bind fun t149 => ((postilionref08_Add.f k a0 a1).bind fun t150 => (some (t149 == t150)))) else (some false)))) else (some false)))) else (some false))) else (some false)))) = some r := h
  clear h
  replace H := Option.bind_eq_some_iff.mp H
  obtain ⟨⟨t137, t138⟩, A30, H⟩ := H
  replace H : ((window_Window_May.f a0).bind fun t141 => (if (t141 == t138) = true then ((window_Window_Len.f a0).bind fun t142 => (if t142 = (t137.length : Int) then ((window_Window_Bad.f a0).bind fun t143 => ((postilionref08_Bad.f k a0).bind fun t144 => (if t143 = t144 then ((window_Window_List.f a0).bind fun t145 => ((postilionref08_Same.f k t145 t137).bind fun t148 => (if t148 = true then ((window_Window_Add.f a0 a1).bind fun t149 => ((postilionref08_Add.f k a0 a1).bind fun t150 => (some (t149 == t150)))) else (some false)))) else (some false)))) else (some false))) else (some false))) = some r := H
  have A3 := Aside0.mk A30
  clear A30
  replace H := Option.bind_eq_some_iff.mp H
  obtain ⟨t141, A40, H⟩ := H
  replace H : (if (t141 == t138) = true then ((window_Window_Len.f a0).bind fun t142 => (if t142 = (t137.length : Int) then ((window_Window_Bad.f a0).bind fun t143 => ((postilionref08_Bad.f k a0).bind fun t144 => (if t143 = t144 then ((window_Window_List.f a0).bind fun t145 => ((postilionref08_Same.f k t145 t137).bind fun t148 => (if t148 = true then ((window_Window_Add.f a0 a1).bind fun t149 => ((postilionref08_Add.f k a0 a1).bind fun t150 => (some (t149 == t150)))) else (some false)))) else (some false)))) else (some false))) else (some false)) = some r := H
  have A4 := Aside0.mk A40
  clear A40
  by_cases c5 : (t141 == t138) = true
  · rw [if_pos c5] at H
    have c5b0 : (t141 == t138) = true := c5
    (try (have c5b1 : decide (t141 = t138) = true := by simpa using c5))
    (try (have c5b2 : (t141 == t138) = true := by simpa using c5))
    clear c5
    replace H := Option.bind_eq_some_iff.mp H
    obtain ⟨t142, A60, H⟩ := H
    replace H : (if t142 = (t137.length : Int) then ((window_Window_Bad.f a0).bind fun t143 => ((postilionref08_Bad.f k a0).bind fun t144 => (if t143 = t144 then ((window_Window_List.f a0).bind fun t145 => ((postilionref08_Same.f k t145 t137).bind fun t148 => (if t148 = true then ((window_Window_Add.f a0 a1).bind fun t149 => ((postilionref08_Add.f k a0 a1).bind fun t150 => (some (t149 == t150)))) else (some false)))) else (some false)))) else (some false)) = some r := H
    have A6 := Aside0.mk A60
    clear A60
    by_cases c7 : t142 = (t137.length : Int)
    · rw [if_pos c7] at H
      have c7b0 : (t142 == (t137.length : Int)) = true := beq_iff_eq.mpr c7
      have c7b1 : (t142 != (t137.length : Int)) = false := bne_eq_false_iff_eq.mpr c7
      clear c7
      replace H := Option.bind_eq_some_iff.mp H
      obtain ⟨t143, A80, H⟩ := H
      replace H : ((postilionref08_Bad.f k a0).bind fun t144 => (if t143 = t144 then ((window_Window_List.f a0).bind fun t145 => ((postilionref08_Same.f k t145 t137).bind fun t148 => (if t148 = true then ((window_Window_Add.f a0 a1).bind fun t149 => ((postilionref08_Add.f k a0 a1).bind fun t150 => (some (t149 == t150)))) else (some false)))) else (some false))) = some r := H
      have A8 := Aside0.mk A80
      clear A80
      replace H := Option.bind_eq_some_iff.mp H
      obtain ⟨t144, A90, H⟩ := H
      replace H : (if t143 = t144 then ((window_Window_List.f a0).bind fun t145 => ((postilionref08_Same.f k t145 t137).bind fun t148 => (if t148 = true then ((window_Window_Add.f a0 a1).bind fun t149 => ((postilionref08_Add.f k a0 a1).bind fun t150 => (some (t149 == t150)))) else (some false)))) else (some false)) = some r := H
      have A9 := Aside0.mk A90
      clear A90
      by_cases c10 : t143 = t144
      · rw [if_pos c10] at H
        have c10b0 : (t143 == t144) = true := beq_iff_eq.mpr c10
        have c10b1 : (t143 != t144) = false := bne_eq_false_iff_eq.mpr c10
        clear c10
        replace H := Option.bind_eq_some_iff.mp H
        obtain ⟨t145, A110, H⟩ := H
        replace H : ((postilionref08_Same.f k t145 t137).bind fun t148 => (if t148 = true then ((window_Window_Add.f a0 a1).bind fun t149 => ((postilionref08_Add.f k a0 a1).bind fun t150 => (some (t149 == t150)))) else (some false))) = some r := H
        have A11 := Aside0.mk A110
        clear A110
        replace H := Option.bind_eq_some_iff.mp H
        obtain ⟨t148, A120, H⟩ := H
        replace H : (if t148 = true then ((window_Window_Add.f a0 a1).bind fun t149 => ((postilionref08_Add.f k a0 a1).bind fun t150 => (some (t149 == t150)))) else (some false)) = some r := H
        have A12 := Aside0.mk A120
        clear A120
        by_cases c13 : t148 = true
        · subst c13
          have H1 : ((window_Window_Add.f a0 a1).bind fun t149 => ((postilionref08_Add.f k a0 a1).bind fun t150 => (some (t149 == t150)))) = some r := by rw [if_pos rfl] at H; exact H
          clear H
          have H := H1
          clear H1
          replace H := Option.bind_eq_some_iff.mp H
          obtain ⟨t149, A140, H⟩ := H
          replace H : ((postilionref08_Add.f k a0 a1).bind fun t150 => (some (t149 == t150))) = some r := H
          have A14 := Aside0.mk A140
          clear A140
          replace H := Option.bind_eq_some_iff.mp H
          obtain ⟨t150, A150, H⟩ := H
          replace H : (some (t149 == t150)) = some r := H
          have A15 := Aside0.mk A150
          clear A150
          obtain rfl := Option.some.inj H
          go_enter Try.func3, Try.ntmps3
          go_wp2_with (first | ((with_reducible refine gate_callee (f := 6) rfl ?_); refine goesL_ (some 11) rfl rfl Try.func6 (by kernel_rfl) rfl #[.int .u16 a0] rfl (by (try simp only [List.map_toArray, List.map_cons, List.map_nil]); first | done | rfl | (simp only [List.length_drop, List.length_take]; rfl)) ?_; (with_reducible refine (postilionref08_List.calls k a0 t137 t138 _ A3.out).mono ?_); rintro e w16 ⟨v139, rfl, ho0, hb⟩; refine ⟨_, rfl, ?_⟩; have n0_ := Aside0.mk (Kd.R_lower ho0 (below_size (by repeat (first | (with_reducible first | exact HB.out | apply below_alloc | apply pw_below_drewN | apply below_drew1) | exact HB.out)))); have n1_ := Aside0.mk (below_step (by repeat (first | (with_reducible first | exact HB.out | apply below_alloc | apply pw_below_drewN | apply below_drew1) | exact HB.out)) hb); clear HB; have HO140 := n0_; have HB := n1_; clear n0_ n1_; (try clear hb); (try clear hb2); (try clear hk); (try clear hi); (try clear ho0)) | ((with_reducible refine gate_callee (f := 7) rfl ?_); refine goesL_ (some 15) rfl rfl Try.func7 (by kernel_rfl) rfl #[.int .u16 a0] rfl (by (try simp only [List.map_toArray, List.map_cons, List.map_nil]); first | done | rfl | (simp only [List.length_drop, List.length_take]; rfl)) ?_; (with_reducible refine (window_Window_May.calls a0 t141 _ A4.out).mono ?_); rintro e w' ⟨rfl, ⟨nd, rfl⟩⟩; refine ⟨_, rfl, ?_⟩) | (go_at_call 8; (with_reducible refine (window_Window_Len.calls a0 t142 _ A6.out).mono ?_); rintro e w' ⟨rfl, ⟨nd, rfl⟩⟩; obtain ⟨Ao17, co17, eo17⟩ := Kd.R_slice HO140.out; subst eo17) | (go_at_call 9; (with_reducible refine (window_Window_Bad.calls a0 t143 _ A8.out).mono ?_); rintro e w' ⟨rfl, ⟨nd, rfl⟩⟩) | (go_at_call 10; (with_reducible refine (postilionref08_Bad.calls k a0 t144 _ A9.out).mono ?_); rintro e w18 ⟨rfl, hb⟩; have n0_ := Aside0.mk (Kd.R_below (by (with_reducible repeat (first | apply Kd.R_alloc | apply Kd.R_drewN | apply Kd.R_drew)); exact HO140.out) hb); have n1_ := Aside0.mk (below_step (by repeat (first | (with_reducible first | exact HB.out | apply below_alloc | apply pw_below_drewN | apply below_drew1) | exact HB.out)) hb); clear HO140; clear HB; have HO140 := n0_; have HB := n1_; clear n0_ n1_; (try clear hb); (try clear hb2); (try clear hk); (try clear hi)) | (go_at_call 12; (with_reducible refine (window_Window_List.calls a0 t145 _ A11.out).mono ?_); rintro e w19 ⟨v146, rfl, ho0, hb⟩; have n0_ := Aside0.mk (Kd.R_elder' (by (with_reducible repeat (first | apply Kd.R_alloc | apply Kd.R_drewN | apply Kd.R_drew)); exact HO140.out) (Kd.R_base ho0) hb); have n1_ := Aside0.mk (Kd.R_lower (Kd.R_new' ho0 (Kd.R_lt (by (with_reducible repeat (first | apply Kd.R_alloc | apply Kd.R_drewN | apply Kd.R_drew)); exact HO140.out))) (below_size (by repeat (first | (with_reducible first | exact HB.out | apply below_alloc | apply pw_below_drewN | apply below_drew1) | exact HB.out)))); have n2_ := Aside0.mk (below_step (by repeat (first | (with_reducible first | exact HB.out | apply below_alloc | apply pw_below_drewN | apply below_drew1) | exact HB.out)) hb); clear HO140; clear HB; have HO140 := n0_; have HO147 := n1_; have HB := n2_; clear n0_ n1_ n2_; (try clear hb); (try clear hb2); (try clear hk); (try clear hi); (try clear ho0); obtain ⟨Ao20, co20, eo20⟩ := Kd.R_slice HO147.out; subst eo20) | (go_at_call 11; (with_reducible refine (postilionref08_Same.calls k _ _ t145 _ _ t137 true _ ?side1 ?side2 ?side3 ?side4 A12.out).mono ?_); (case side1 => repeat (first | exact (Kd.R_reads' HO147.out).2.2 | (with_reducible refine Kd.C_alloc ?_ _) | (with_reducible refine Kd.C_drewN ?_ _) | (with_reducible refine Kd.C_drew ?_))); (case side2 => exact (Kd.R_reads' HO147.out).2.1); (case side3 => repeat (first | exact (Kd.R_reads' HO140.out).2.2 | (with_reducible refine Kd.C_alloc ?_ _) | (with_reducible refine Kd.C_drewN ?_ _) | (with_reducible refine Kd.C_drew ?_))); (case side4 => exact (Kd.R_reads' HO140.out).2.1); rintro e w' ⟨rfl, ⟨nd, rfl⟩⟩) | (go_at_call 13; (with_reducible refine (window_Window_Add.calls a0 a1 t149 _ A14.out).mono ?_); rintro e w21 ⟨rfl, hb⟩; have n0_ := Aside0.mk (Kd.R_below (by (with_reducible repeat (first | apply Kd.R_alloc | apply Kd.R_drewN | apply Kd.R_drew)); exact HO140.out) hb); have n1_ := Aside0.mk (Kd.R_below (by (with_reducible repeat (first | apply Kd.R_alloc | apply Kd.R_drewN | apply Kd.R_drew)); exact HO147.out) hb); have n2_ := Aside0.mk (below_step (by repeat (first | (with_reducible first | exact HB.out | apply below_alloc | apply pw_below_drewN | apply below_drew1) | exact HB.out)) hb); clear HO140; clear HO147; clear HB; have HO140 := n0_; have HO147 := n1_; have HB := n2_; clear n0_ n1_ n2_; (try clear hb); (try clear hb2); (try clear hk); (try clear hi)) | (go_at_call 14; (with_reducible refine (postilionref08_Add.calls k a0 a1 t150 _ A15.out).mono ?_); rintro e w22 ⟨rfl, hb⟩; have n0_ := Aside0.mk (Kd.R_below (by (with_reducible repeat (first | apply Kd.R_alloc | apply Kd.R_drewN | apply Kd.R_drew)); exact HO140.out) hb); have n1_ := Aside0.mk (Kd.R_below (by (with_reducible repeat (first | apply Kd.R_alloc | apply Kd.R_drewN | apply Kd.R_drew)); exact HO147.out) hb); have n2_ := Aside0.mk (below_step (by repeat (first | (with_reducible first | exact HB.out | apply below_alloc | apply pw_below_drewN | apply below_drew1) | exact HB.out)) hb); clear HO140; clear HO147; clear HB; have HO140 := n0_; have HO147 := n1_; have HB := n2_; clear n0_ n1_ n2_; (try clear hb); (try clear hb2); (try clear hk); (try clear hi)))
          go_ret
          exact ⟨by first | rfl | (simp [errW_none, errW_some] <;> rfl) | (simp [*, errW_none, errW_some] <;> rfl), by repeat (first | (with_reducible first | exact HB.out | apply below_alloc | apply pw_below_drewN | apply below_drew1) | exact HB.out)⟩
        · replace c13 := Bool.eq_false_iff.mpr c13
          subst c13
          have H1 : (some false) = some r := by rw [if_neg (show ¬ (false = true) by decide)] at H; exact H
          clear H
          have H := H1
          clear H1
          exact absurd ((Option.some.inj H).trans hT.out) (by decide)
      · rw [if_neg c10] at H
        have c10b0 : (t143 == t144) = false := beq_eq_false_iff_ne.mpr c10
        have c10b1 : (t143 != t144) = true := bne_iff_ne.mpr c10
        exact absurd ((Option.some.inj H).trans hT.out) (by decide)
    · rw [if_neg c7] at H
      have c7b0 : (t142 == (t137.length : Int)) = false := beq_eq_false_iff_ne.mpr c7
      have c7b1 : (t142 != (t137.length : Int)) = true := bne_iff_ne.mpr c7
      exact absurd ((Option.some.inj H).trans hT.out) (by decide)
  · rw [if_neg c5] at H
    have c5b0 : (t141 == t138) = false := by simpa using c5
    (try (have c5b1 : decide (t141 = t138) = false := by simpa using c5))
    (try (have c5b2 : (t141 == t138) = false := by simpa using c5))
    (try (have c5b3 : ¬ (t141 = t138) := by simpa using c5))
    clear c5
    exact absurd ((Option.some.inj H).trans hT.out) (by decide)

/-- THE ONE PURE STATEMENT of postilionlaw08_WindowTells: yours. -/
def postilionlaw08_WindowTells.Pure : Prop := ∀ (a0 : Int) (a1 : Bool), (Lit.int .u16 a0).wf = true → ∃ k, postilionlaw08_WindowTells.f k a0 a1 = some true
theorem postilionlaw08_WindowTells.walk (P : postilionlaw08_WindowTells.Pure) (a0 : Int) (a1 : Bool) (w : World) (w0 : (Lit.int .u16 a0).wf = true) :
    Calls Try.prog 3 #[.int .u16 a0, .bool a1] w fun e w' => e = .returned (.bool true) ∧ Below w.heap.size w w' := by
  obtain ⟨k, h⟩ := P a0 a1 w0
  refine (postilionlaw08_WindowTells.calls k a0 a1 true w h ⟨rfl⟩).mono ?_
  rintro e w' ⟨rfl, hd⟩
  exact ⟨rfl, hd⟩

end Go.Proofs.Ytmcbpoejdgobnaa.P
