-- Laid by sp.py, a program of this session's, out of the translation and the session's own stand-ins.
import Derived.Test.YtmcbpoejdgobnaaPx0
import Derived.Test.YtmcbpoejdgobnaaPx2
import Derived.Test.YtmcbpoejdgobnaaPx3
namespace Go.Proofs.Ytmcbpoejdgobnaa.P
open Go.RowKit Go.Proofs.YtmcbpoejdgobnaaW.PrintWords Go.Proofs.YtmcbpoejdgobnaaW.PrintLast Go.Proofs.YtmcbpoejdgobnaaW.PrintMore
attribute [local go_sem] max2_int min2_int max_two min_two max_three min_three max_four min_four   -- for this text's walks alone
set_option linter.unusedVariables false
set_option linter.unusedSimpArgs false
set_option linter.unnecessarySimpa false

/-! ### window_Window_Add: function 13 -/
def window_Window_Add.f (a0 : Int) (a1 : Bool) : Option (Int) := (window_Window_own.f a0).bind fun t120 => (if a1 = true then ((window_Window_held.f t120).bind fun t121 => (some (Go.bits .or .u16 (IntKind.u16.wrap ((IntKind.u16.wrap (mn (wrap64 (t121 + 1)) 8)) * 256)) (Go.bits .and .u16 (IntKind.u16.wrap (t120 * 2)) 255)))) else ((window_Window_held.f t120).bind fun t122 => (some (Go.bits .or .u16 (IntKind.u16.wrap ((IntKind.u16.wrap (mn (wrap64 (t122 + 1)) 8)) * 256)) (Go.bits .or .u16 (Go.bits .and .u16 (IntKind.u16.wrap (t120 * 2)) 255) 1)))))
set_option maxHeartbeats 8000000 in
set_option maxRecDepth 100000 in
theorem window_Window_Add.calls (a0 : Int) (a1 : Bool) (r : Int) (w : World) (h : window_Window_Add.f a0 a1 = some r) :
    Calls Try.prog 13 #[.int .u16 a0, .bool a1] w fun e w' => e = .returned (.int .u16 r) ∧ Below w.heap.size w w' := by
  have HB := Aside0.mk (Below.refl w.heap.size w)
  have H : ((window_Window_own.f a0).bind fun t120 => (if a1 = true then ((window_Window_held.f t120).bind fun t121 => (some (Go.bits .or .u16 (IntKind.u16.wrap ((IntKind.u16.wrap (mn (wrap64 (t121 + 1)) 8)) * 256)) (Go.bits .and .u16 (IntKind.u16.wrap (t120 * 2)) 255)))) else ((window_Window_held.f t120).bind fun t122 => (some (Go.bits .or .u16 (IntKind.u16.wrap ((IntKind.u16.wrap (mn (wrap64 (t122 + 1)) 8)) * 256)) (Go.bits .or .u16 (Go.bits .and .u16 (IntKind.u16.wrap (t120 * 2)) 255) 1)))))) = some r := h
  clear h
  replace H := Option.bind_eq_some_iff.mp H
  obtain ⟨t120, A30, H⟩ := H
  replace H : (if a1 = true then ((window_Window_held.f t120).bind fun t121 => (some (Go.bits .or .u16 (IntKind.u16.wrap ((IntKind.u16.wrap (mn (wrap64 (t121 + 1)) 8)) * 256)) (Go.bits .and .u16 (IntKind.u16.wrap (t120 * 2)) 255)))) else ((window_Window_held.f t120).bind fun t122 => (some (Go.bits .or .u16 (IntKind.u16.wrap ((IntKind.u16.wrap (mn (wrap64 (t122 + 1)) 8)) * 256)) (Go.bits .or .u16 (Go.bits .and .u16 (IntKind.u16.wrap (t120 * 2)) 255) 1))))) = some r := H
  have A3 := Aside0.mk A30
  clear A30
  by_cases c4 : a1 = true
  · subst c4
    have H1 : ((window_Window_held.f t120).bind fun t121 => (some (Go.bits .or .u16 (IntKind.u16.wrap ((IntKind.u16.wrap (mn (wrap64 (t121 + 1)) 8)) * 256)) (Go.bits .and .u16 (IntKind.u16.wrap (t120 * 2)) 255)))) = some r := by rw [if_pos rfl] at H; exact H
    clear H
    have H := H1
    clear H1
    replace H := Option.bind_eq_some_iff.mp H
    obtain ⟨t121, A50, H⟩ := H
    replace H : (some (Go.bits .or .u16 (IntKind.u16.wrap ((IntKind.u16.wrap (mn (wrap64 (t121 + 1)) 8)) * 256)) (Go.bits .and .u16 (IntKind.u16.wrap (t120 * 2)) 255))) = some r := H
    have A5 := Aside0.mk A50
    clear A50
    obtain ⟨ji6, hji6⟩ : ∃ j_ : Int, (mn (wrap64 (t121 + 1)) 8) = j_ := ⟨_, rfl⟩
    replace H : (some (Go.bits .or .u16 (IntKind.u16.wrap ((IntKind.u16.wrap (ji6)) * 256)) (Go.bits .and .u16 (IntKind.u16.wrap (t120 * 2)) 255))) = some r := by first | (rw [hji6] at H; exact H) | (simp only [hji6] at H ⊢; exact H)
    (try rw [hji6] at A3)
    (try rw [hji6] at A5)
    (try (have hji6h : ji6 ≤ 8 := by (rw [← hji6]; unfold mn; (repeat' split) <;> omega)))
    (try (have hji6g : ji6 ≤ 64 := by omega))
    have hji6_ : (if 8 < (wrap64 (t121 + 1)) then 8 else (wrap64 (t121 + 1))) = ji6 := hji6
    obtain rfl := Option.some.inj H
    go_enter Try.func13, Try.ntmps13
    go_wp2_with (first | ((with_reducible refine gate_callee (f := 19) rfl ?_); refine goesL_ (some 7) rfl rfl Try.func19 (by kernel_rfl) rfl #[.int .u16 a0] rfl (by (try simp only [List.map_toArray, List.map_cons, List.map_nil]); first | done | rfl | (simp only [List.length_drop, List.length_take]; rfl)) ?_; (with_reducible refine (window_Window_own.calls a0 t120 _ A3.out).mono ?_); rintro e w' ⟨rfl, ⟨nd, rfl⟩⟩; refine ⟨_, rfl, ?_⟩) | ((with_reducible refine gate_callee (f := 17) rfl ?_); refine goesL_ (some 16) rfl rfl Try.func17 (by kernel_rfl) rfl #[.int .u16 t120] rfl (by (try simp only [List.map_toArray, List.map_cons, List.map_nil]); first | done | rfl | (simp only [List.length_drop, List.length_take]; rfl)) ?_; (with_reducible refine (window_Window_held.calls t120 t121 _ A5.out).mono ?_); rintro e w' ⟨rfl, ⟨nd, rfl⟩⟩; refine ⟨_, rfl, ?_⟩))
    go_ret
    exact ⟨by first | rfl | (simp [errW_none, errW_some] <;> rfl) | (simp only [← hji6]; first | rfl | (simp [errW_none, errW_some] <;> rfl)) | (simp [*, errW_none, errW_some] <;> rfl), by repeat (first | (with_reducible first | exact HB.out | apply below_alloc | apply pw_below_drewN | apply below_drew1) | exact HB.out)⟩
  · replace c4 := Bool.eq_false_iff.mpr c4
    subst c4
    have H1 : ((window_Window_held.f t120).bind fun t122 => (some (Go.bits .or .u16 (IntKind.u16.wrap ((IntKind.u16.wrap (mn (wrap64 (t122 + 1)) 8)) * 256)) (Go.bits .or .u16 (Go.bits .and .u16 (IntKind.u16.wrap (t120 * 2)) 255) 1)))) = some r := by rw [if_neg (show ¬ (false = true) by decide)] at H; exact H
    clear H
    have H := H1
    clear H1
    replace H := Option.bind_eq_some_iff.mp H
    obtain ⟨t122, A70, H⟩ := H
    replace H : (some (Go.bits .or .u16 (IntKind.u16.wrap ((IntKind.u16.wrap (mn (wrap64 (t122 + 1)) 8)) * 256)) (Go.bits .or .u16 (Go.bits .and .u16 (IntKind.u16.wrap (t120 * 2)) 255) 1))) = some r := H
    have A7 := Aside0.mk A70
    clear A70
    obtain ⟨ji8, hji8⟩ : ∃ j_ : Int, (mn (wrap64 (t122 + 1)) 8) = j_ := ⟨_, rfl⟩
    replace H : (some (Go.bits .or .u16 (IntKind.u16.wrap ((IntKind.u16.wrap (ji8)) * 256)) (Go.bits .or .u16 (Go.bits .and .u16 (IntKind.u16.wrap (t120 * 2)) 255) 1))) = some r := by first | (rw [hji8] at H; exact H) | (simp only [hji8] at H ⊢; exact H)
    (try rw [hji8] at A3)
    (try rw [hji8] at A7)
    (try (have hji8h : ji8 ≤ 8 := by (rw [← hji8]; unfold mn; (repeat' split) <;> omega)))
    (try (have hji8g : ji8 ≤ 64 := by omega))
    have hji8_ : (if 8 < (wrap64 (t122 + 1)) then 8 else (wrap64 (t122 + 1))) = ji8 := hji8
    obtain rfl := Option.some.inj H
    go_enter Try.func13, Try.ntmps13
    go_wp2_with (first | ((with_reducible refine gate_callee (f := 19) rfl ?_); refine goesL_ (some 7) rfl rfl Try.func19 (by kernel_rfl) rfl #[.int .u16 a0] rfl (by (try simp only [List.map_toArray, List.map_cons, List.map_nil]); first | done | rfl | (simp only [List.length_drop, List.length_take]; rfl)) ?_; (with_reducible refine (window_Window_own.calls a0 t120 _ A3.out).mono ?_); rintro e w' ⟨rfl, ⟨nd, rfl⟩⟩; refine ⟨_, rfl, ?_⟩) | ((with_reducible refine gate_callee (f := 17) rfl ?_); refine goesL_ (some 16) rfl rfl Try.func17 (by kernel_rfl) rfl #[.int .u16 t120] rfl (by (try simp only [List.map_toArray, List.map_cons, List.map_nil]); first | done | rfl | (simp only [List.length_drop, List.length_take]; rfl)) ?_; (with_reducible refine (window_Window_held.calls t120 t122 _ A7.out).mono ?_); rintro e w' ⟨rfl, ⟨nd, rfl⟩⟩; refine ⟨_, rfl, ?_⟩))
    go_ret
    exact ⟨by first | rfl | (simp [errW_none, errW_some] <;> rfl) | (simp only [← hji8]; first | rfl | (simp [errW_none, errW_some] <;> rfl)) | (simp [*, errW_none, errW_some] <;> rfl), by repeat (first | (with_reducible first | exact HB.out | apply below_alloc | apply pw_below_drewN | apply below_drew1) | exact HB.out)⟩

end Go.Proofs.Ytmcbpoejdgobnaa.P
