-- Laid by sp.py, a program of this session's, out of the translation and the session's own stand-ins.
import Derived.Test.YtlhjninbkngamaaPx0
import Derived.Test.YtlhjninbkngamaaStuserpassTake
import Derived.Test.YtlhjninbkngamaaStrefTake13
import Derived.Test.YtlhjninbkngamaaPx5
import Derived.Test.YtlhjninbkngamaaPx6
namespace Go.Proofs.Ytlhjninbkngamaa.P
open Go.RowKit Go.Proofs.YtlhjninbkngamaaW.PrintWords Go.Proofs.YtlhjninbkngamaaW.PrintLast Go.Proofs.YtlhjninbkngamaaW.PrintMore
attribute [local go_sem] max2_int min2_int max_two min_two max_three min_three max_four min_four   -- for this text's walks alone
set_option linter.unusedVariables false
set_option linter.unusedSimpArgs false
set_option linter.unnecessarySimpa false

/-! ### postilionlaw13_UserpassTakes: function 4 -/
def postilionlaw13_UserpassTakes.f (k : Nat) (l0 : List Int) : Option (Bool) := if (l0.length : Int) > 1500 then (some true) else ((some (([] : List Int) : List Int)).bind fun y147 => (if y147.length + l0.length < 140737488355328 then ((some (y147 ++ l0 : List Int)).bind fun y150 => ((userpass_Take.f y150).bind fun bt153 => ((postilionref13_Take.f l0).bind fun bt157 => ((userpass_TakeAnswer.f k y150).bind fun bt161 => ((postilionref13_TakeAnswer.f k l0).bind fun bt164 => (if bt153.1.toList = bt157.1.toList then (if bt153.2.1.toList = bt157.2.1.toList then (if bt153.2.2.1 = bt157.2.2.1 then (if bt153.2.2.2 = bt157.2.2.2 then (if (bt161.1 == bt164.1) = true then (if bt161.2.1 = bt164.2.1 then (if bt161.2.2 = bt164.2.2 then (some ((strOfNums y150).toList == (strOfNums l0).toList)) else (some false)) else (some false)) else (some false)) else (some false)) else (some false)) else (some false)) else (some false))))))) else (none)))
theorem postilionlaw13_UserpassTakes.mono : ∀ a0 k, LeO (postilionlaw13_UserpassTakes.f k a0) (postilionlaw13_UserpassTakes.f (k + 1) a0) := by
  intro a0 k
  unfold postilionlaw13_UserpassTakes.f
  repeat' first
      | (with_reducible exact postilionref13_TakeAnswer.mono _ _)
      | (with_reducible exact userpass_TakeAnswer.mono _ _)
      | (with_reducible exact LeO.refl _)
      | (with_reducible exact LeO.none _)
      | (with_reducible refine LeO.ite ?_ ?_)
      | (with_reducible refine LeO.bind ?_ (fun _ => ?_))
      | exact postilionref13_TakeAnswer.mono _ _
      | exact userpass_TakeAnswer.mono _ _
      | exact LeO.none _
      | refine LeO.ite ?_ ?_
      | refine LeO.bind ?_ (fun _ => ?_)
set_option maxHeartbeats 8000000 in
set_option maxRecDepth 100000 in
theorem postilionlaw13_UserpassTakes.calls (k : Nat) (A0 : Option Addr) (c0 : Nat) (l0 : List Int) (r : Bool) (w : World) (hr0 : Kd.C (Kd.int .u8) w A0 l0.length l0) (hc0 : l0.length ≤ c0) (h : postilionlaw13_UserpassTakes.f k l0 = some r) (hT : Aside0 (r = true)) :
    Calls Try.prog 4 #[.slice A0 l0.length c0] w fun e w' => e = .returned (.bool r) ∧ Below w.heap.size w w' := by
  have HR0 := Aside0.mk hr0
  have HC0 := Aside0.mk hc0
  clear hr0 hc0
  have HB := Aside0.mk (Below.refl w.heap.size w)
  have H : (if (l0.length : Int) > 1500 then (some true) else ((some (([] : List Int) : List Int)).bind fun y147 => (if y147.length + l0.length < 140737488355328 then ((some (y147 ++ l0 : List Int)).bind fun y150 => ((userpass_Take.f y150).bind fun bt153 => ((postilionref13_Take.f l0).bind fun bt157 => ((userpass_TakeAnswer.f k y150).bind fun bt161 => ((postilionref13_TakeAnswer.f k l0).bind fun bt164 => (if bt153.1.toList = bt157.1.toList then (if bt153.2.1.toList = bt157.2.1.toList then (if bt153.2.2.1 = bt157.2.2.1 then (if bt153.2.2.2 = bt157.2.2.2 then (if (bt161.1 == bt164.1) = true then (if bt161.2.1 = bt164.2.1 then (if bt161.2.2 = bt164.2.2 then (some ((strOfNums y150).toList == (strOfNums l0).toList)) else (some false)) else (some false)) else (some false)) else (some false)) else (some false)) else (some false)) else (some false))))))) else (none)))) = some r := h
  clear h
  by_cases c2 : (l0.length : Int) > 1500
  · rw [if_pos c2] at H
    have c2b0 : decide (1500 < (l0.length : Int)) = true := decide_eq_true c2
    have c2b1 : decide (1500 < l0.length) = true := decide_eq_true (by omega)
    clear c2
    obtain rfl := Option.some.inj H
    go_enter Try.func4, Try.ntmps4
    go_wp2
    go_ret
    exact ⟨by first | rfl | (simp [errW_none, errW_some] <;> rfl) | (simp [*, errW_none, errW_some] <;> rfl), by repeat (first | (with_reducible first | exact HB.out | apply below_alloc | apply pw_below_drewN | apply below_drew1) | exact HB.out)⟩
  · rw [if_neg c2] at H
    have c2b0 : decide (1500 < (l0.length : Int)) = false := decide_eq_false c2
    have c2b1 : decide (1500 < l0.length) = false := decide_eq_false (by omega)
    clear c2
    obtain ⟨y147, hy147⟩ : ∃ y_ : List Int, y_ = (([] : List Int)) := ⟨_, rfl⟩
    replace H : (if y147.length + l0.length < 140737488355328 then ((some (y147 ++ l0 : List Int)).bind fun y150 => ((userpass_Take.f y150).bind fun bt153 => ((postilionref13_Take.f l0).bind fun bt157 => ((userpass_TakeAnswer.f k y150).bind fun bt161 => ((postilionref13_TakeAnswer.f k l0).bind fun bt164 => (if bt153.1.toList = bt157.1.toList then (if bt153.2.1.toList = bt157.2.1.toList then (if bt153.2.2.1 = bt157.2.2.1 then (if bt153.2.2.2 = bt157.2.2.2 then (if (bt161.1 == bt164.1) = true then (if bt161.2.1 = bt164.2.1 then (if bt161.2.2 = bt164.2.2 then (some ((strOfNums y150).toList == (strOfNums l0).toList)) else (some false)) else (some false)) else (some false)) else (some false)) else (some false)) else (some false)) else (some false))))))) else (none)) = some r := by first | (rw [hy147]; with_reducible exact H) | (have H2_ := (Option.bind_some _ _).symm.trans H; rw [hy147]; with_reducible exact H2_) | (have H2_ := (Option.bind_some _ _).symm.trans H; with_reducible exact H2_) | with_reducible exact H | (rw [hy147]; exact H) | exact H
    have Ny147 := Aside0.mk hy147
    clear hy147
    by_cases c3 : y147.length + l0.length < 140737488355328
    · rw [if_pos c3] at H
      have LMc3 := Aside0.mk c3
      clear c3
      obtain ⟨y150, hy150⟩ : ∃ y_ : List Int, y_ = (y147 ++ l0) := ⟨_, rfl⟩
      replace H : ((userpass_Take.f y150).bind fun bt153 => ((postilionref13_Take.f l0).bind fun bt157 => ((userpass_TakeAnswer.f k y150).bind fun bt161 => ((postilionref13_TakeAnswer.f k l0).bind fun bt164 => (if bt153.1.toList = bt157.1.toList then (if bt153.2.1.toList = bt157.2.1.toList then (if bt153.2.2.1 = bt157.2.2.1 then (if bt153.2.2.2 = bt157.2.2.2 then (if (bt161.1 == bt164.1) = true then (if bt161.2.1 = bt164.2.1 then (if bt161.2.2 = bt164.2.2 then (some ((strOfNums y150).toList == (strOfNums l0).toList)) else (some false)) else (some false)) else (some false)) else (some false)) else (some false)) else (some false)) else (some false)))))) = some r := by first | (rw [hy150]; with_reducible exact H) | (have H2_ := (Option.bind_some _ _).symm.trans H; rw [hy150]; with_reducible exact H2_) | (have H2_ := (Option.bind_some _ _).symm.trans H; with_reducible exact H2_) | with_reducible exact H | (rw [hy150]; exact H) | exact H
      have Ny150 := Aside0.mk hy150
      clear hy150
      replace H := Option.bind_eq_some_iff.mp H
      obtain ⟨⟨t153, t154, t155, t156⟩, A40, H⟩ := H
      replace H : ((postilionref13_Take.f l0).bind fun bt157 => ((userpass_TakeAnswer.f k y150).bind fun bt161 => ((postilionref13_TakeAnswer.f k l0).bind fun bt164 => (if t153.toList = bt157.1.toList then (if t154.toList = bt157.2.1.toList then (if t155 = bt157.2.2.1 then (if t156 = bt157.2.2.2 then (if (bt161.1 == bt164.1) = true then (if bt161.2.1 = bt164.2.1 then (if bt161.2.2 = bt164.2.2 then (some ((strOfNums y150).toList == (strOfNums l0).toList)) else (some false)) else (some false)) else (some false)) else (some false)) else (some false)) else (some false)) else (some false))))) = some r := H
      have A4 := Aside0.mk A40
      clear A40
      replace H := Option.bind_eq_some_iff.mp H
      obtain ⟨⟨t157, t158, t159, t160⟩, A50, H⟩ := H
      replace H : ((userpass_TakeAnswer.f k y150).bind fun bt161 => ((postilionref13_TakeAnswer.f k l0).bind fun bt164 => (if t153.toList = t157.toList then (if t154.toList = t158.toList then (if t155 = t159 then (if t156 = t160 then (if (bt161.1 == bt164.1) = true then (if bt161.2.1 = bt164.2.1 then (if bt161.2.2 = bt164.2.2 then (some ((strOfNums y150).toList == (strOfNums l0).toList)) else (some false)) else (some false)) else (some false)) else (some false)) else (some false)) else (some false)) else (some false)))) = some r := H
      have A5 := Aside0.mk A50
      clear A50
      replace H := Option.bind_eq_some_iff.mp H
      obtain ⟨⟨t161, t162, t163⟩, A60, H⟩ := H
      replace H : ((postilionref13_TakeAnswer.f k l0).bind fun bt164 => (if t153.toList = t157.toList then (if t154.toList = t158.toList then (if t155 = t159 then (if t156 = t160 then (if (t161 == bt164.1) = true then (if t162 = bt164.2.1 then (if t163 = bt164.2.2 then (some ((strOfNums y150).toList == (strOfNums l0).toList)) else (some false)) else (some false)) else (some false)) else (some false)) else (some false)) else (some false)) else (some false))) = some r := H
      have A6 := Aside0.mk A60
      clear A60
      replace H := Option.bind_eq_some_iff.mp H
      obtain ⟨⟨t164, t165, t166⟩, A70, H⟩ := H
      replace H : (if t153.toList = t157.toList then (if t154.toList = t158.toList then (if t155 = t159 then (if t156 = t160 then (if (t161 == t164) = true then (if t162 = t165 then (if t163 = t166 then (some ((strOfNums y150).toList == (strOfNums l0).toList)) else (some false)) else (some false)) else (some false)) else (some false)) else (some false)) else (some false)) else (some false)) = some r := H
      have A7 := Aside0.mk A70
      clear A70
      by_cases c8 : t153.toList = t157.toList
      · rw [if_pos c8] at H
        have c8b0 : (t153.toList == t157.toList) = true := beq_iff_eq.mpr c8
        have c8b1 : (t153.toList != t157.toList) = false := bne_eq_false_iff_eq.mpr c8
        clear c8
        by_cases c9 : t154.toList = t158.toList
        · rw [if_pos c9] at H
          have c9b0 : (t154.toList == t158.toList) = true := beq_iff_eq.mpr c9
          have c9b1 : (t154.toList != t158.toList) = false := bne_eq_false_iff_eq.mpr c9
          clear c9
          by_cases c10 : t155 = t159
          · rw [if_pos c10] at H
            have c10b0 : (t155 == t159) = true := beq_iff_eq.mpr c10
            have c10b1 : (t155 != t159) = false := bne_eq_false_iff_eq.mpr c10
            clear c10
            by_cases c11 : t156 = t160
            · rw [if_pos c11] at H
              have c11b0 : (t156 == t160) = true := beq_iff_eq.mpr c11
              have c11b1 : (t156 != t160) = false := bne_eq_false_iff_eq.mpr c11
              clear c11
              by_cases c12 : (t161 == t164) = true
              · rw [if_pos c12] at H
                have c12b0 : (t161 == t164) = true := c12
                (try (have c12b1 : decide (t161 = t164) = true := by simpa using c12))
                (try (have c12b2 : (t161 == t164) = true := by simpa using c12))
                clear c12
                by_cases c13 : t162 = t165
                · rw [if_pos c13] at H
                  have c13b0 : (t162 == t165) = true := beq_iff_eq.mpr c13
                  have c13b1 : (t162 != t165) = false := bne_eq_false_iff_eq.mpr c13
                  clear c13
                  by_cases c14 : t163 = t166
                  · rw [if_pos c14] at H
                    have c14b0 : (t163 == t166) = true := beq_iff_eq.mpr c14
                    have c14b1 : (t163 != t166) = false := bne_eq_false_iff_eq.mpr c14
                    clear c14
                    obtain rfl := Option.some.inj H
                    go_enter Try.func4, Try.ntmps4
                    go_wp2_with (first | ((with_reducible refine gate_dst (N := 21) rfl ?_); refine Kd.R_lit (Kd.int .u8) _ 5 ?hg (N := 21) ?hd (xs := ([] : List Int)) (inner := []) (ok := fun _ => True) (okp := fun _ => True) ?hr ?hp (fun _ hk => hk) trivial (Below.refl _ _) (Nat.le_refl _) (by simp) ?_; (case hd => rfl); (case hg => rfl); (case hr => first | (go_simp; done) | (go_simp; rfl)); (case hp => exact (Reps.none _ _)); intro v148 w15 ho16 hb hg_ hnew_; clear hg_ hnew_; (first | rw [← Ny147.out] at ho16 | (simp only [Int.reduceToNat] at ho16; rw [← Ny147.out] at ho16)); have n0_ := Aside0.mk (Kd.R_lower ho16 (below_size (by repeat (first | (with_reducible first | exact HB.out | apply below_alloc | apply pw_below_drewN | apply below_drew1) | exact HB.out)))); have n1_ := Aside0.mk (below_step (by repeat (first | (with_reducible first | exact HB.out | apply below_alloc | apply pw_below_drewN | apply below_drew1) | exact HB.out)) hb); clear HB; have HO149 := n0_; have HB := n1_; clear n0_ n1_; clear hb ho16) | ((with_reducible refine gate_builtin (b := .append) (xs := #[.tmp 21, .tmp 22]) rfl ?_); at_builtin; refine Kd.R_append_rows (Kd.int .u8) (w0 := w) w.heap.size rfl (.tmp 21) (.tmp 22) 22 5 (.int .u8 0) 1 rfl Try.underlying22 info5 rfl (by decide) (by omega) v148 y147 l0 _ _ _ (fun _ => True) (fun _ => False) rfl rfl ?aO ?aR (fun _ _ h => h) (fun _ h => h.elim) ?aF ?aB ?aS ?aL ?_; (case aR => repeat (first | exact (Kd.C_below HR0.out HB.out) | (with_reducible refine Kd.C_alloc ?_ _) | (with_reducible refine Kd.C_drewN ?_ _) | (with_reducible refine Kd.C_drew ?_))); (case aB => exact (by repeat (first | (with_reducible first | exact HB.out | apply below_alloc | apply pw_below_drewN | apply below_drew1) | exact HB.out))); (case aF => exact (fun _ _ => trivial)); (case aO => exact (by (with_reducible repeat (first | apply Kd.R_alloc | apply Kd.R_drewN | apply Kd.R_drew)); exact HO149.out)); (case aS => exact (below_size (by repeat (first | (with_reducible first | exact HB.out | apply below_alloc | apply pw_below_drewN | apply below_drew1) | exact HB.out)))); (case aL => have := LMc3.out; omega); intro v151 w17 ho hb hg hat; rw [← Ny150.out] at ho; have n0_ := Aside0.mk (hb); have n1_ := Aside0.mk (ho); clear HB; clear HO149; have HB := n0_; have HO152 := n1_; clear n0_ n1_; clear ho hb hg hat; obtain ⟨Ao18, co18, eo18⟩ := Kd.R_slice HO152.out; subst eo18) | ((with_reducible refine gate_callee (f := 11) rfl ?_); refine goesL_ (some 26) rfl rfl Try.func11 (by kernel_rfl) rfl #[.slice Ao18 y150.length co18] rfl (by (try simp only [List.map_toArray, List.map_cons, List.map_nil]); first | done | rfl | (simp only [List.length_drop, List.length_take]; rfl)) ?_; (with_reducible refine (userpass_Take.calls _ _ y150 t153 t154 t155 t156 _ ?side1 ?side2 A4.out).mono ?_); (case side1 => repeat (first | exact (Kd.R_reads' HO152.out).2.2 | (with_reducible refine Kd.C_alloc ?_ _) | (with_reducible refine Kd.C_drewN ?_ _) | (with_reducible refine Kd.C_drew ?_))); (case side2 => exact (Kd.R_reads' HO152.out).2.1); rintro e w19 ⟨rfl, hb⟩; refine ⟨_, rfl, ?_⟩; have n0_ := Aside0.mk (Kd.R_below (by (with_reducible repeat (first | apply Kd.R_alloc | apply Kd.R_drewN | apply Kd.R_drew)); exact HO152.out) hb); have n1_ := Aside0.mk (below_step (by repeat (first | (with_reducible first | exact HB.out | apply below_alloc | apply pw_below_drewN | apply below_drew1) | exact HB.out)) hb); clear HO152; clear HB; have HO152 := n0_; have HB := n1_; clear n0_ n1_; (try clear hb); (try clear hb2); (try clear hk); (try clear hi)) | ((with_reducible refine gate_callee (f := 12) rfl ?_); refine goesL_ (some 33) rfl rfl Try.func12 (by kernel_rfl) rfl #[.slice A0 l0.length c0] rfl (by (try simp only [List.map_toArray, List.map_cons, List.map_nil]); first | done | rfl | (simp only [List.length_drop, List.length_take]; rfl)) ?_; (with_reducible refine (postilionref13_Take.calls _ _ l0 t157 t158 t159 t160 _ ?side1 ?side2 A5.out).mono ?_); (case side1 => repeat (first | exact (Kd.C_below HR0.out HB.out) | (with_reducible refine Kd.C_alloc ?_ _) | (with_reducible refine Kd.C_drewN ?_ _) | (with_reducible refine Kd.C_drew ?_))); (case side2 => exact HC0.out); rintro e w20 ⟨rfl, hb⟩; refine ⟨_, rfl, ?_⟩; have n0_ := Aside0.mk (Kd.R_below (by (with_reducible repeat (first | apply Kd.R_alloc | apply Kd.R_drewN | apply Kd.R_drew)); exact HO152.out) hb); have n1_ := Aside0.mk (below_step (by repeat (first | (with_reducible first | exact HB.out | apply below_alloc | apply pw_below_drewN | apply below_drew1) | exact HB.out)) hb); clear HO152; clear HB; have HO152 := n0_; have HB := n1_; clear n0_ n1_; (try clear hb); (try clear hb2); (try clear hk); (try clear hi)) | ((with_reducible refine gate_callee (f := 13) rfl ?_); refine goesL_ (some 40) rfl rfl Try.func13 (by kernel_rfl) rfl #[.slice Ao18 y150.length co18] rfl (by (try simp only [List.map_toArray, List.map_cons, List.map_nil]); first | done | rfl | (simp only [List.length_drop, List.length_take]; rfl)) ?_; (with_reducible refine (userpass_TakeAnswer.calls k _ _ y150 t161 t162 t163 _ ?side1 ?side2 A6.out).mono ?_); (case side1 => repeat (first | exact (Kd.R_reads' HO152.out).2.2 | (with_reducible refine Kd.C_alloc ?_ _) | (with_reducible refine Kd.C_drewN ?_ _) | (with_reducible refine Kd.C_drew ?_))); (case side2 => exact (Kd.R_reads' HO152.out).2.1); rintro e w' ⟨rfl, ⟨nd, rfl⟩⟩; refine ⟨_, rfl, ?_⟩) | ((with_reducible refine gate_callee (f := 14) rfl ?_); refine goesL_ (some 46) rfl rfl Try.func14 (by kernel_rfl) rfl #[.slice A0 l0.length c0] rfl (by (try simp only [List.map_toArray, List.map_cons, List.map_nil]); first | done | rfl | (simp only [List.length_drop, List.length_take]; rfl)) ?_; (with_reducible refine (postilionref13_TakeAnswer.calls k _ _ l0 t164 t165 t166 _ ?side1 ?side2 A7.out).mono ?_); (case side1 => repeat (first | exact (Kd.C_below HR0.out (by repeat (first | (with_reducible first | exact HB.out | apply below_alloc | apply pw_below_drewN | apply below_drew1) | exact HB.out))) | (with_reducible refine Kd.C_alloc ?_ _) | (with_reducible refine Kd.C_drewN ?_ _) | (with_reducible refine Kd.C_drew ?_))); (case side2 => exact HC0.out); rintro e w' ⟨rfl, ⟨nd, rfl⟩⟩; refine ⟨_, rfl, ?_⟩; have hcv21 := own_string (P := Try.prog) Try.underlying22 Try.underlying5 Try.underlying9 (Kd.own_of_R HO152.out); have hcvd21 := fun nd_ => own_string (P := Try.prog) Try.underlying22 Try.underlying5 Try.underlying9 (Kd.own_of_R (Kd.R_drewN HO152.out nd_)); have hcv22 := Kd.C_string (P := Try.prog) (A := A0) (c := c0) Try.underlying22 Try.underlying5 Try.underlying9 (Kd.C_below HR0.out HB.out); have hcvd22 := fun nd_ => Kd.C_string (P := Try.prog) (A := A0) (c := c0) Try.underlying22 Try.underlying5 Try.underlying9 (Kd.C_drewN ((Kd.C_below HR0.out HB.out)) nd_)))
                    go_ret
                    exact ⟨by first | rfl | (simp [errW_none, errW_some] <;> rfl) | (simp [*, errW_none, errW_some] <;> rfl), by repeat (first | (with_reducible first | exact HB.out | apply below_alloc | apply pw_below_drewN | apply below_drew1) | exact HB.out)⟩
                  · rw [if_neg c14] at H
                    have c14b0 : (t163 == t166) = false := beq_eq_false_iff_ne.mpr c14
                    have c14b1 : (t163 != t166) = true := bne_iff_ne.mpr c14
                    exact absurd ((Option.some.inj H).trans hT.out) (by decide)
                · rw [if_neg c13] at H
                  have c13b0 : (t162 == t165) = false := beq_eq_false_iff_ne.mpr c13
                  have c13b1 : (t162 != t165) = true := bne_iff_ne.mpr c13
                  exact absurd ((Option.some.inj H).trans hT.out) (by decide)
              · rw [if_neg c12] at H
                have c12b0 : (t161 == t164) = false := by simpa using c12
                (try (have c12b1 : decide (t161 = t164) = false := by simpa using c12))
                (try (have c12b2 : (t161 == t164) = false := by simpa using c12))
                (try (have c12b3 : ¬ (t161 = t164) := by simpa using c12))
                clear c12
                exact absurd ((Option.some.inj H).trans hT.out) (by decide)
            · rw [if_neg c11] at H
              have c11b0 : (t156 == t160) = false := beq_eq_false_iff_ne.mpr c11
              have c11b1 : (t156 != t160) = true := bne_iff_ne.mpr c11
              exact absurd ((Option.some.inj H).trans hT.out) (by decide)
          · rw [if_neg c10] at H
            have c10b0 : (t155 == t159) = false := beq_eq_false_iff_ne.mpr c10
            have c10b1 : (t155 != t159) = true := bne_iff_ne.mpr c10
            exact absurd ((Option.some.inj H).trans hT.out) (by decide)
        · rw [if_neg c9] at H
          have c9b0 : (t154.toList == t158.toList) = false := beq_eq_false_iff_ne.mpr c9
          have c9b1 : (t154.toList != t158.toList) = true := bne_iff_ne.mpr c9
          exact absurd ((Option.some.inj H).trans hT.out) (by decide)
      · rw [if_neg c8] at H
        have c8b0 : (t153.toList == t157.toList) = false := beq_eq_false_iff_ne.mpr c8
        have c8b1 : (t153.toList != t157.toList) = true := bne_iff_ne.mpr c8
        exact absurd ((Option.some.inj H).trans hT.out) (by decide)
    · rw [if_neg c3] at H
      exact absurd H (by simp)

/-- THE ONE PURE STATEMENT of postilionlaw13_UserpassTakes: yours. -/
def postilionlaw13_UserpassTakes.Pure : Prop := ∀ (l0 : List Int), l0.length ≤ maxLen → l0.length * 1 ≤ 140737488351232 → (∀ x ∈ l0, (Lit.int .u8 x).wf = true) → ∃ k, postilionlaw13_UserpassTakes.f k l0 = some true
theorem postilionlaw13_UserpassTakes.walk (P : postilionlaw13_UserpassTakes.Pure) (a0 : Option Addr) (len0 cap0 : Nat) (z0 : List Int) (w : World) (w0 : (a0 = none ∧ len0 = 0 ∧ cap0 = 0 ∧ z0 = []) ∨ ∃ x, a0 = some x ∧ len0 ≤ cap0 ∧ cap0 ≤ maxLen ∧ z0.length = cap0 ∧ (∀ i, i < z0.length → w.cell? (x.add i) = some (.int .u8 (z0.getD i 0))) ∧ ∀ n ∈ z0, (Lit.int .u8 n).wf = true) (y0 : len0 * 1 ≤ 140737488351232) :
    Calls Try.prog 4 #[.slice a0 len0 cap0] w fun e w' => e = .returned (.bool true) ∧ Below w.heap.size w w' := by
  obtain ⟨l0, rfl, hr0, hm0, hw0, hc0⟩ := ReadsInt.ofRowC w0
  obtain ⟨k, h⟩ := P l0 hm0 y0 hw0
  refine (postilionlaw13_UserpassTakes.calls k _ _ l0 true w (Kd.C_of_reads (d := (0 : Int)) (h1 := fun _ => rfl) hr0) hc0 h ⟨rfl⟩).mono ?_
  rintro e w' ⟨rfl, hd⟩
  exact ⟨rfl, hd⟩

end Go.Proofs.Ytlhjninbkngamaa.P
