-- Laid by sp.py, a program of this session's, out of the translation and the session's own stand-ins.
import Derived.Test.YtlpibchjcmndjabPx0
import Derived.Test.YtlpibchjcmndjabShelf
namespace Go.Proofs.Ytlpibchjcmndjab.P
open Go.RowKit Go.Proofs.YtlpibchjcmndjabW.PrintWords Go.Proofs.YtlpibchjcmndjabW.PrintLast Go.Proofs.YtlpibchjcmndjabW.PrintMore
attribute [local go_sem] max2_int min2_int max_two min_two max_three min_three max_four min_four   -- for this text's walks alone
set_option linter.unusedVariables false
set_option linter.unusedSimpArgs false
set_option linter.unnecessarySimpa false

/-! ### bytes.Clone: a stand-in -/
def bytes_Clone.f (l0 : List Int) : Option (List Int) := if l0.length ≤ 140737488355328 then some l0 else none
theorem bytes_Clone.calls (A0 : Option Addr) (c0 : Nat) (l0 : List Int) (r : List Int) (w : World) (hr0 : Kd.C (Kd.int .u8) w A0 l0.length l0) (hc0 : l0.length ≤ c0) (h : bytes_Clone.f l0 = some r) :
    Calls Try.prog 13 #[.slice A0 l0.length c0] w fun e w' => ∃ v0_ : Value, e = .returned (v0_) ∧ Kd.R (Kd.int .u8) 5 w' w.heap.size (fun _ => True) v0_ r ∧ Below w.heap.size w w' := by
  unfold bytes_Clone.f at h
  split at h
  · rename_i hb
    obtain rfl := Option.some.inj h
    cases A0 with
    | none =>
      refine (Try.bytes_Clone_nil l0.length c0 w).mono ?_
      rintro e w' ⟨rfl, rfl⟩
      have hz : l0 = [] := by
        cases l0 with
        | nil => rfl
        | cons x xs =>
          obtain ⟨ad, hA, _⟩ := Kd.at_int hr0 0 (by omega) (by simp only [List.length_cons]; omega)
          exact absurd hA (by simp)
      subst hz
      exact ⟨_, rfl, Kd.R_nil _ _ _ _ _, Below.refl _ _⟩
    | some a =>
      refine (Try.bytes_Clone_at a l0.length c0 l0 w rfl hb (fun i hi => ?_)).mono ?_
      · obtain ⟨ad, hA, hx⟩ := Kd.at_int hr0 (i : Int) (by omega) (by omega)
        obtain rfl := Option.some.inj hA
        simpa [rd] using hx
      · rintro e w' ⟨v', rfl, ho, _, hB⟩
        exact ⟨_, rfl, Kd.R_of_own ho (fun _ _ => trivial), hB⟩
  · exact absurd h (by simp)

end Go.Proofs.Ytlpibchjcmndjab.P
