-- Laid by sp.py, a program of this session's, out of the translation and the session's own stand-ins.
import Derived.Test.YtpllckhmnjgohaaPx0
import Derived.Test.YtpllckhmnjgohaaPx1
import Derived.Test.YtpllckhmnjgohaaPx2
import Derived.Test.YtpllckhmnjgohaaPx5
import Derived.Test.YtpllckhmnjgohaaStlinesPrint
import Derived.Test.YtpllckhmnjgohaaPx6
import Derived.Test.YtpllckhmnjgohaaPx7
import Derived.Test.YtpllckhmnjgohaaPx8
namespace Go.Proofs.Ytpllckhmnjgohaa.P
open Go.RowKit Go.Proofs.YtpllckhmnjgohaaW.PrintWords Go.Proofs.YtpllckhmnjgohaaW.PrintLast Go.Proofs.YtpllckhmnjgohaaW.PrintMore
attribute [local go_sem] max2_int min2_int max_two min_two max_three min_three max_four min_four   -- for this text's walks alone
set_option linter.unusedVariables false
set_option linter.unusedSimpArgs false
set_option linter.unnecessarySimpa false

/-! ### postilionlaw18_LinesPrint: function 3 -/
def postilionlaw18_LinesPrint.f (k : Nat) (l0 : List (List ByteArray)) : Option (Bool) := (postilionlaw18_great.f k l0).bind fun t135 => (if t135 = true then (some true) else ((postilionref18_Copy.f k l0).bind fun t136 => ((lines_Print.f k t136).bind fun bt139 => ((postilionref18_Print.f k l0).bind fun bt141 => (if bt139.1.toList = bt141.1.toList then (if bt139.2 = bt141.2 then ((lines_May.f k t136).bind fun t143 => ((postilionref18_May.f k l0).bind fun t144 => (if (t143 == t144) = true then ((postilionref18_Same.f k t136 l0).bind fun t145 => (some t145)) else (some false)))) else (some false)) else (some false))))))
theorem postilionlaw18_LinesPrint.mono : ∀ a0 k, LeO (postilionlaw18_LinesPrint.f k a0) (postilionlaw18_LinesPrint.f (k + 1) a0) := by
  intro a0 k
  unfold postilionlaw18_LinesPrint.f
  repeat' first
      | (with_reducible exact lines_May.mono _ _)
      | (with_reducible exact lines_Print.mono _ _)
      | (with_reducible exact postilionlaw18_great.mono _ _)
      | (with_reducible exact postilionref18_Copy.mono _ _)
      | (with_reducible exact postilionref18_May.mono _ _)
      | (with_reducible exact postilionref18_Print.mono _ _)
      | (with_reducible exact postilionref18_Same.mono _ _ _)
      | (with_reducible exact LeO.refl _)
      | (with_reducible exact LeO.none _)
      | (with_reducible refine LeO.ite ?_ ?_)
      | (with_reducible refine LeO.bind ?_ (fun _ => ?_))
      | exact lines_May.mono _ _
      | exact lines_Print.mono _ _
      | exact postilionlaw18_great.mono _ _
      | exact postilionref18_Copy.mono _ _
      | exact postilionref18_May.mono _ _
      | exact postilionref18_Print.mono _ _
      | exact postilionref18_Same.mono _ _ _
      | exact LeO.none _
      | refine LeO.ite ?_ ?_
      | refine LeO.bind ?_ (fun _ => ?_)
set_option maxHeartbeats 8000000 in
set_option maxRecDepth 100000 in
theorem postilionlaw18_LinesPrint.calls (k : Nat) (A0 : Option Addr) (c0 : Nat) (l0 : List (List ByteArray)) (r : Bool) (w : World) (hr0 : Kd.C (Kd.slice 9 Kd.string) w A0 l0.length l0) (hc0 : l0.length ≤ c0) (h : postilionlaw18_LinesPrint.f k l0 = some r) (hT : Aside0 (r = true)) :
    Calls Try.prog 3 #[.slice A0 l0.length c0] w fun e w' => e = .returned (.bool r) ∧ Below w.heap.size w w' := by
  have HR0 := Aside0.mk hr0
  have HC0 := Aside0.mk hc0
  clear hr0 hc0
  have HB := Aside0.mk (Below.refl w.heap.size w)
  have H : ((postilionlaw18_great.f k l0).bind fun t135 => (if t135 = true then (some true) else ((postilionref18_Copy.f k l0).bind fun t136 => ((lines_Print.f k t136).bind fun bt139 => ((postilionref18_Print.f k l0).bind fun bt141 => (if bt139.1.toList = bt141.1.toList then (if bt139.2 = bt141.2 then ((lines_May.f k t136).bind fun t143 => ((postilionref18_May.f k l0).bind fun t144 => (if (t143 == t144) = true then ((postilionref18_Same.f k t136 l0).bind fun t145 => (some t145)) else (some false)))) else (some false)) else (some false))))))) = some r := h
  clear h
  replace H := Option.bind_eq_some_iff.mp H
  obtain ⟨t135, A20, H⟩ := H
  replace H : (if t135 = true then (some true) else ((postilionref18_Copy.f k l0).bind fun t136 => ((lines_Print.f k t136).bind fun bt139 => ((postilionref18_Print.f k l0).bind fun bt141 => (if bt139.1.toList = bt141.1.toList then (if bt139.2 = bt141.2 then ((lines_May.f k t136).bind fun t143 => ((postilionref18_May.f k l0).bind fun t144 => (if (t143 == t144) = true then ((postilionref18_Same.f k t136 l0).bind fun t145 => (some t145)) else (some false)))) else (some false)) else (some false)))))) = some r := H
  have A2 := Aside0.mk A20
  clear A20
  by_cases c3 : t135 = true
  · subst c3
    have H1 : (some true) = some r := by rw [if_pos rfl] at H; exact H
    clear H
    have H := H1
    clear H1
    obtain rfl := Option.some.inj H
    go_enter Try.func3, Try.ntmps3
    go_wp2_with (first | ((with_reducible refine gate_callee (f := 4) rfl ?_); refine goesL_ (some 9) rfl rfl Try.func4 (by kernel_rfl) rfl #[.slice A0 l0.length c0] rfl (by (try simp only [List.map_toArray, List.map_cons, List.map_nil]); first | done | rfl | (simp only [List.length_drop, List.length_take]; rfl)) ?_; (with_reducible refine (postilionlaw18_great.calls k _ _ l0 true _ ?side1 ?side2 A2.out).mono ?_); (case side1 => repeat (first | exact HR0.out | (with_reducible refine Kd.C_alloc ?_ _) | (with_reducible refine Kd.C_drewN ?_ _) | (with_reducible refine Kd.C_drew ?_))); (case side2 => exact HC0.out); rintro e w' ⟨rfl, ⟨nd, rfl⟩⟩; refine ⟨_, rfl, ?_⟩))
    go_ret
    exact ⟨by first | rfl | (simp [errW_none, errW_some] <;> rfl) | (simp [*, errW_none, errW_some] <;> rfl), by repeat (first | (with_reducible first | exact HB.out | apply below_alloc | apply pw_below_drewN | apply below_drew1) | exact HB.out)⟩
  · replace c3 := Bool.eq_false_iff.mpr c3
    subst c3
    have H1 : ((postilionref18_Copy.f k l0).bind fun t136 => ((lines_Print.f k t136).bind fun bt139 => ((postilionref18_Print.f k l0).bind fun bt141 => (if bt139.1.toList = bt141.1.toList then (if bt139.2 = bt141.2 then ((lines_May.f k t136).bind fun t143 => ((postilionref18_May.f k l0).bind fun t144 => (if (t143 == t144) = true then ((postilionref18_Same.f k t136 l0).bind fun t145 => (some t145)) else (some false)))) else (some false)) else (some false))))) = some r := by rw [if_neg (show ¬ (false = true) by decide)] at H; exact H
    clear H
    have H := H1
    clear H1
    replace H := Option.bind_eq_some_iff.mp H
    obtain ⟨t136, A40, H⟩ := H
    replace H : ((lines_Print.f k t136).bind fun bt139 => ((postilionref18_Print.f k l0).bind fun bt141 => (if bt139.1.toList = bt141.1.toList then (if bt139.2 = bt141.2 then ((lines_May.f k t136).bind fun t143 => ((postilionref18_May.f k l0).bind fun t144 => (if (t143 == t144) = true then ((postilionref18_Same.f k t136 l0).bind fun t145 => (some t145)) else (some false)))) else (some false)) else (some false)))) = some r := H
    have A4 := Aside0.mk A40
    clear A40
    replace H := Option.bind_eq_some_iff.mp H
    obtain ⟨⟨t139, t140⟩, A50, H⟩ := H
    replace H : ((postilionref18_Print.f k l0).bind fun bt141 => (if t139.toList = bt141.1.toList then (if t140 = bt141.2 then ((lines_May.f k t136).bind fun t143 => ((postilionref18_May.f k l0).bind fun t144 => (if (t143 == t144) = true then ((postilionref18_Same.f k t136 l0).bind fun t145 => (some t145)) else (some false)))) else (some false)) else (some false))) = some r := H
    have A5 := Aside0.mk A50
    clear A50
    replace H := Option.bind_eq_some_iff.mp H
    obtain ⟨⟨t141, t142⟩, A60, H⟩ := H
    replace H : (if t139.toList = t141.toList then (if t140 = t142 then ((lines_May.f k t136).bind fun t143 => ((postilionref18_May.f k l0).bind fun t144 => (if (t143 == t144) = true then ((postilionref18_Same.f k t136 l0).bind fun t145 => (some t145)) else (some false)))) else (some false)) else (some false)) = some r := H
    have A6 := Aside0.mk A60
    clear A60
    by_cases c7 : t139.toList = t141.toList
    · rw [if_pos c7] at H
      have c7b0 : (t139.toList == t141.toList) = true := beq_iff_eq.mpr c7
      have c7b1 : (t139.toList != t141.toList) = false := bne_eq_false_iff_eq.mpr c7
      clear c7
      by_cases c8 : t140 = t142
      · rw [if_pos c8] at H
        have c8b0 : (t140 == t142) = true := beq_iff_eq.mpr c8
        have c8b1 : (t140 != t142) = false := bne_eq_false_iff_eq.mpr c8
        clear c8
        replace H := Option.bind_eq_some_iff.mp H
        obtain ⟨t143, A90, H⟩ := H
        replace H : ((postilionref18_May.f k l0).bind fun t144 => (if (t143 == t144) = true then ((postilionref18_Same.f k t136 l0).bind fun t145 => (some t145)) else (some false))) = some r := H
        have A9 := Aside0.mk A90
        clear A90
        replace H := Option.bind_eq_some_iff.mp H
        obtain ⟨t144, A100, H⟩ := H
        replace H : (if (t143 == t144) = true then ((postilionref18_Same.f k t136 l0).bind fun t145 => (some t145)) else (some false)) = some r := H
        have A10 := Aside0.mk A100
        clear A100
        by_cases c11 : (t143 == t144) = true
        · rw [if_pos c11] at H
          have c11b0 : (t143 == t144) = true := c11
          (try (have c11b1 : decide (t143 = t144) = true := by simpa using c11))
          (try (have c11b2 : (t143 == t144) = true := by simpa using c11))
          clear c11
          replace H := Option.bind_eq_some_iff.mp H
          obtain ⟨t145, A120, H⟩ := H
          replace H : (some t145) = some r := H
          have A12 := Aside0.mk A120
          clear A120
          obtain rfl := Option.some.inj H
          go_enter Try.func3, Try.ntmps3
          go_wp2_with (first | ((with_reducible refine gate_callee (f := 4) rfl ?_); refine goesL_ (some 9) rfl rfl Try.func4 (by kernel_rfl) rfl #[.slice A0 l0.length c0] rfl (by (try simp only [List.map_toArray, List.map_cons, List.map_nil]); first | done | rfl | (simp only [List.length_drop, List.length_take]; rfl)) ?_; (with_reducible refine (postilionlaw18_great.calls k _ _ l0 false _ ?side1 ?side2 A2.out).mono ?_); (case side1 => repeat (first | exact HR0.out | (with_reducible refine Kd.C_alloc ?_ _) | (with_reducible refine Kd.C_drewN ?_ _) | (with_reducible refine Kd.C_drew ?_))); (case side2 => exact HC0.out); rintro e w' ⟨rfl, ⟨nd, rfl⟩⟩; refine ⟨_, rfl, ?_⟩) | ((with_reducible refine gate_callee (f := 5) rfl ?_); refine goesL_ (some 11) rfl rfl Try.func5 (by kernel_rfl) rfl #[.slice A0 l0.length c0] rfl (by (try simp only [List.map_toArray, List.map_cons, List.map_nil]); first | done | rfl | (simp only [List.length_drop, List.length_take]; rfl)) ?_; (with_reducible refine (postilionref18_Copy.calls k _ _ l0 t136 _ ?side1 ?side2 A4.out).mono ?_); (case side1 => repeat (first | exact HR0.out | (with_reducible refine Kd.C_alloc ?_ _) | (with_reducible refine Kd.C_drewN ?_ _) | (with_reducible refine Kd.C_drew ?_))); (case side2 => exact HC0.out); rintro e w13 ⟨v137, rfl, ho0, hb⟩; refine ⟨_, rfl, ?_⟩; have n0_ := Aside0.mk (Kd.S_lower ho0 (below_size (by repeat (first | (with_reducible first | exact HB.out | apply below_alloc | apply pw_below_drewN | apply below_drew1) | exact HB.out)))); have n1_ := Aside0.mk (below_step (by repeat (first | (with_reducible first | exact HB.out | apply below_alloc | apply pw_below_drewN | apply below_drew1) | exact HB.out)) hb); clear HB; have HO138 := n0_; have HB := n1_; clear n0_ n1_; (try clear hb); (try clear hb2); (try clear hk); (try clear hi); (try clear ho0); obtain ⟨Ao14, co14, eo14⟩ := Kd.S_slice HO138.out; subst eo14) | ((with_reducible refine gate_callee (f := 6) rfl ?_); refine goesL_ (some 14) rfl rfl Try.func6 (by kernel_rfl) rfl #[.slice Ao14 t136.length co14] rfl (by (try simp only [List.map_toArray, List.map_cons, List.map_nil]); first | done | rfl | (simp only [List.length_drop, List.length_take]; rfl)) ?_; (with_reducible refine (lines_Print.calls k _ _ t136 t139 t140 _ ?side1 ?side2 A5.out).mono ?_); (case side1 => repeat (first | exact (Kd.S_reads' HO138.out).2.2 | (with_reducible refine Kd.C_alloc ?_ _) | (with_reducible refine Kd.C_drewN ?_ _) | (with_reducible refine Kd.C_drew ?_))); (case side2 => exact (Kd.S_reads' HO138.out).2.1); rintro e w15 ⟨rfl, hb⟩; refine ⟨_, rfl, ?_⟩; have n0_ := Aside0.mk (Kd.S_below (by (with_reducible repeat (first | apply Kd.S_alloc | apply Kd.S_drewN | apply Kd.S_drew)); exact HO138.out) hb); have n1_ := Aside0.mk (below_step (by repeat (first | (with_reducible first | exact HB.out | apply below_alloc | apply pw_below_drewN | apply below_drew1) | exact HB.out)) hb); clear HO138; clear HB; have HO138 := n0_; have HB := n1_; clear n0_ n1_; (try clear hb); (try clear hb2); (try clear hk); (try clear hi)) | ((with_reducible refine gate_callee (f := 7) rfl ?_); refine goesL_ (some 19) rfl rfl Try.func7 (by kernel_rfl) rfl #[.slice A0 l0.length c0] rfl (by (try simp only [List.map_toArray, List.map_cons, List.map_nil]); first | done | rfl | (simp only [List.length_drop, List.length_take]; rfl)) ?_; (with_reducible refine (postilionref18_Print.calls k _ _ l0 t141 t142 _ ?side1 ?side2 A6.out).mono ?_); (case side1 => repeat (first | exact (Kd.C_below HR0.out HB.out) | (with_reducible refine Kd.C_alloc ?_ _) | (with_reducible refine Kd.C_drewN ?_ _) | (with_reducible refine Kd.C_drew ?_))); (case side2 => exact HC0.out); rintro e w' ⟨rfl, ⟨nd, rfl⟩⟩; refine ⟨_, rfl, ?_⟩) | (go_at_call 8; (with_reducible refine (lines_May.calls k _ _ t136 t143 _ ?side1 ?side2 A9.out).mono ?_); (case side1 => repeat (first | exact (Kd.S_reads' HO138.out).2.2 | (with_reducible refine Kd.C_alloc ?_ _) | (with_reducible refine Kd.C_drewN ?_ _) | (with_reducible refine Kd.C_drew ?_))); (case side2 => exact (Kd.S_reads' HO138.out).2.1); rintro e w' ⟨rfl, ⟨nd, rfl⟩⟩) | (go_at_call 9; (with_reducible refine (postilionref18_May.calls k _ _ l0 t144 _ ?side1 ?side2 A10.out).mono ?_); (case side1 => repeat (first | exact (Kd.C_below HR0.out (by repeat (first | (with_reducible first | exact HB.out | apply below_alloc | apply pw_below_drewN | apply below_drew1) | exact HB.out))) | (with_reducible refine Kd.C_alloc ?_ _) | (with_reducible refine Kd.C_drewN ?_ _) | (with_reducible refine Kd.C_drew ?_))); (case side2 => exact HC0.out); rintro e w' ⟨rfl, ⟨nd, rfl⟩⟩) | (go_at_call 10; (with_reducible refine (postilionref18_Same.calls k _ _ t136 _ _ l0 t145 _ ?side1 ?side2 ?side3 ?side4 A12.out).mono ?_); (case side1 => repeat (first | exact (Kd.S_reads' HO138.out).2.2 | (with_reducible refine Kd.C_alloc ?_ _) | (with_reducible refine Kd.C_drewN ?_ _) | (with_reducible refine Kd.C_drew ?_))); (case side2 => exact (Kd.S_reads' HO138.out).2.1); (case side3 => repeat (first | exact (Kd.C_below HR0.out (by repeat (first | (with_reducible first | exact HB.out | apply below_alloc | apply pw_below_drewN | apply below_drew1) | exact HB.out))) | (with_reducible refine Kd.C_alloc ?_ _) | (with_reducible refine Kd.C_drewN ?_ _) | (with_reducible refine Kd.C_drew ?_))); (case side4 => exact HC0.out); rintro e w' ⟨rfl, ⟨nd, rfl⟩⟩))
          go_ret
          exact ⟨by first | rfl | (simp [errW_none, errW_some] <;> rfl) | (simp [*, errW_none, errW_some] <;> rfl), by repeat (first | (with_reducible first | exact HB.out | apply below_alloc | apply pw_below_drewN | apply below_drew1) | exact HB.out)⟩
        · rw [if_neg c11] at H
          have c11b0 : (t143 == t144) = false := by simpa using c11
          (try (have c11b1 : decide (t143 = t144) = false := by simpa using c11))
          (try (have c11b2 : (t143 == t144) = false := by simpa using c11))
          (try (have c11b3 : ¬ (t143 = t144) := by simpa using c11))
          clear c11
          exact absurd ((Option.some.inj H).trans hT.out) (by decide)
      · rw [if_neg c8] at H
        have c8b0 : (t140 == t142) = false := beq_eq_false_iff_ne.mpr c8
        have c8b1 : (t140 != t142) = true := bne_iff_ne.mpr c8
        exact absurd ((Option.some.inj H).trans hT.out) (by decide)
    · rw [if_neg c7] at H
      have c7b0 : (t139.toList == t141.toList) = false := beq_eq_false_iff_ne.mpr c7
      have c7b1 : (t139.toList != t141.toList) = true := bne_iff_ne.mpr c7
      exact absurd ((Option.some.inj H).trans hT.out) (by decide)

/-- THE ONE PURE STATEMENT of postilionlaw18_LinesPrint: yours. -/
def postilionlaw18_LinesPrint.Pure : Prop := ∀ (l0 : List (List ByteArray)), l0.length ≤ maxLen → (∀ y_ ∈ l0, (y_.length ≤ maxLen) ∧ (∀ z_ ∈ y_, (z_.size ≤ 9223372036854775807))) → ∃ k, postilionlaw18_LinesPrint.f k l0 = some true

end Go.Proofs.Ytpllckhmnjgohaa.P
