-- Laid by sp.py, a program of this session's, out of the translation and the session's own stand-ins.
import Derived.Test.YtgmhbelgeopbdaaPx0
import Derived.Test.YtgmhbelgeopbdaaStbytesClone
import Derived.Test.YtgmhbelgeopbdaaSLcore
namespace Go.Proofs.Ytgmhbelgeopbdaa.P
open Go.RowKit Go.Proofs.YtgmhbelgeopbdaaW.PrintWords Go.Proofs.YtgmhbelgeopbdaaW.PrintLast Go.Proofs.YtgmhbelgeopbdaaW.PrintMore
attribute [local go_sem] max2_int min2_int max_two min_two max_three min_three max_four min_four   -- for this text's walks alone
set_option linter.unusedVariables false
set_option linter.unusedSimpArgs false

/-! ### greet.Take: a stand-in -/
def greet_Take.f (l0 : List Int) : Option (List Int × Int × Int) :=
  if l0.length = 0 then some ([], 0, 5) else if rd l0 0 = 5 then
    (if l0.length = 1 then some ([], 0, 5) else if rd l0 1 = 0 then some ([], 0, 6)
     else if 0 ≤ rd l0 1 then (if rd l0 1 ≤ 255 then (if (l0.length : Int) < 2 + rd l0 1 then some ([], 0, 5)
     else (bytes_Clone.f ((l0.take (2 + rd l0 1).toNat).drop 2)).bind fun r => some (r, 2 + rd l0 1, 0)) else none) else none)
  else some ([], 0, 6)
set_option maxHeartbeats 2000000 in
theorem greet_Take.calls (A0 : Option Addr) (c0 : Nat) (l0 : List Int) (r1 : List Int) (r2 r3 : Int) (w : World) (hr0 : Kd.C (Kd.int .u8) w A0 l0.length l0) (hc0 : l0.length ≤ c0) (h : greet_Take.f l0 = some (r1, r2, r3)) :
    Calls Try.prog 13 #[.slice A0 l0.length c0] w fun e w' => ∃ v0_ : Value, e = .returned (.tuple #[v0_, .int .i64 r2, .int .i64 r3]) ∧ Kd.R (Kd.int .u8) 5 w' w.heap.size (fun _ => True) v0_ r1 ∧ Below w.heap.size w w' := by
  have HR0 := Aside0.mk hr0
  have HC0 := Aside0.mk hc0
  clear hr0 hc0
  unfold greet_Take.f at h
  by_cases c1 : l0.length = 0
  · rw [if_pos c1] at h
    simp only [Option.some.injEq, Prod.mk.injEq] at h
    obtain ⟨rfl, rfl, rfl⟩ := h
    have c1b : ((l0.length : Int) == 0) = true := by simp [c1]
    clear c1
    go_enter Try.func13, Try.ntmps13
    go_wp2
    go_step3
    go_wp2
    rw [Exit.noGoto_ret]
    go_ret3
    exact ⟨_, rfl, Kd.R_nil _ _ _ _ _, Below.refl _ _⟩
  rw [if_neg c1] at h
  have c1b : ((l0.length : Int) == 0) = false := by simp only [beq_eq_false_iff_ne]; omega
  obtain ⟨ad, rfl, hx0⟩ := Kd.at_int HR0.out 0 (by omega) (by omega)
  rw [show ((0 : Int)).toNat = 0 from rfl, Addr.add_zero'] at hx0
  have q0 : (0 < l0.length) = True := eq_true (by omega)
  by_cases c2 : rd l0 0 = 5
  · rw [if_pos c2] at h
    have c2b : (rd l0 0 != 5) = false := bne_eq_false_iff_eq.mpr c2
    clear c2
    by_cases c3 : l0.length = 1
    · rw [if_pos c3] at h
      simp only [Option.some.injEq, Prod.mk.injEq] at h
      obtain ⟨rfl, rfl, rfl⟩ := h
      have c3b : ((l0.length : Int) == 1) = true := by simp [c3]
      clear c1 c3
      go_enter Try.func13, Try.ntmps13
      go_wp2
      go_step3
      go_wp2
      rw [Exit.noGoto_ret]
      go_ret3
      exact ⟨_, rfl, Kd.R_nil _ _ _ _ _, Below.refl _ _⟩
    rw [if_neg c3] at h
    have c3b : ((l0.length : Int) == 1) = false := by simp only [beq_eq_false_iff_ne]; omega
    obtain ⟨ad', hA, hx1⟩ := Kd.at_int HR0.out 1 (by omega) (by omega)
    cases hA
    simp only [show (1 : Int).toNat = 1 from rfl, Nat.reduceEqDiff, Go.Addr.add, ↓reduceIte] at hx1
    have q1 : (1 < l0.length) = True := eq_true (by omega)
    have q1i : (1 < (l0.length : Int)) = True := eq_true (by omega)
    by_cases c4 : rd l0 1 = 0
    · rw [if_pos c4] at h
      simp only [Option.some.injEq, Prod.mk.injEq] at h
      obtain ⟨rfl, rfl, rfl⟩ := h
      have c4b : (rd l0 1 == 0) = true := beq_iff_eq.mpr c4
      clear c1 c3 c4
      go_enter Try.func13, Try.ntmps13
      go_wp2
      refine SL.wp_scope_forward 0 rfl ?_
      go_wp2
      go_step3
      refine ⟨rfl, ?_⟩
      go_wp2
      rw [Exit.noGoto_ret]
      go_ret3
      exact ⟨_, rfl, Kd.R_nil _ _ _ _ _, Below.refl _ _⟩
    rw [if_neg c4] at h
    have c4b : (rd l0 1 == 0) = false := beq_eq_false_iff_ne.mpr c4
    clear c4
    by_cases c5 : 0 ≤ rd l0 1
    · rw [if_pos c5] at h
      by_cases c6 : rd l0 1 ≤ 255
      · rw [if_pos c6] at h
        by_cases c7 : (l0.length : Int) < 2 + rd l0 1
        · rw [if_pos c7] at h
          simp only [Option.some.injEq, Prod.mk.injEq] at h
          obtain ⟨rfl, rfl, rfl⟩ := h
          have c7b : decide ((l0.length : Int) < 2 + rd l0 1) = true := decide_eq_true c7
          clear c1 c3 c7
          go_enter Try.func13, Try.ntmps13
          go_wp2
          go_step3
          go_wp2
          rw [Exit.noGoto_ret]
          go_ret3
          exact ⟨_, rfl, Kd.R_nil _ _ _ _ _, Below.refl _ _⟩
        · rw [if_neg c7] at h
          obtain ⟨r, hr, h⟩ := Option.bind_eq_some_iff.mp h
          simp only [Option.some.injEq, Prod.mk.injEq] at h
          obtain ⟨rfl, rfl, rfl⟩ := h
          obtain ⟨i0, hi0, _, hsz, _⟩ := info_parts info5
          obtain ⟨A', hcut, hA, hC⟩ := print_mid_of (P := Try.prog) (Value.int .u8) 0 22 5 .i64 .i64 Try.underlying22 hi0 hsz (some ad) c0 l0 2 (2 + rd l0 1) (by omega) (by omega) (by omega) HC0.out
          simp only [show (2 : Int).toNat = 2 from rfl] at hcut hA hC
          generalize (l0.take (2 + rd l0 1).toNat).drop 2 = L at hcut hA hC hr
          have HR := Aside0.mk (Kd.C_of_reads (h1 := fun _ => rfl) (hA _ (Kd.reads_of_C HR0.out)))
          have HC := Aside0.mk hC
          have HX := Aside0.mk hr
          have HB := Aside0.mk c5
          have HB' := Aside0.mk c6
          have c7b : decide ((l0.length : Int) < 2 + rd l0 1) = false := decide_eq_false c7
          clear hA hC hi0 hsz hr c1 c3
          go_enter Try.func13, Try.ntmps13
          go_wp2_with fail
          go_step3
          go_wp2_with (go_at_call 19; refine (bytes_Clone.calls A' _ _ r _ HR.out HC.out HX.out).mono ?_; rintro e w' ⟨v, rfl, HV, HW⟩)
          rw [Exit.noGoto_ret]
          go_ret3
          exact ⟨_, rfl, HV, HW⟩
      · rw [if_neg c6] at h; exact absurd h (by simp)
    · rw [if_neg c5] at h; exact absurd h (by simp)
  · rw [if_neg c2] at h
    have c2b : (rd l0 0 != 5) = true := bne_iff_ne.mpr c2
    simp only [Option.some.injEq, Prod.mk.injEq] at h
    obtain ⟨rfl, rfl, rfl⟩ := h
    clear c1 c2
    go_enter Try.func13, Try.ntmps13
    go_wp2
    refine SL.wp_scope_forward 0 rfl ?_
    go_wp2
    go_step3
    refine ⟨rfl, ?_⟩
    go_wp2
    rw [Exit.noGoto_ret]
    go_ret3
    exact ⟨_, rfl, Kd.R_nil _ _ _ _ _, Below.refl _ _⟩

end Go.Proofs.Ytgmhbelgeopbdaa.P
