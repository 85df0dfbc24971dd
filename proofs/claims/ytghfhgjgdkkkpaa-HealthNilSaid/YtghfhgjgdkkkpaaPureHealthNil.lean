/- The plain law of HealthNil (postilionlaw11): of health that nobody made nothing is told; no condition beyond the bounds of the types. -/
import Derived.Test.YtghfhgjgdkkkpaaSthealthNil
namespace Go.Proofs.Ytghfhgjgdkkkpaa.Pure
open Go.RowKit Go.Proofs.Ytghfhgjgdkkkpaa.P Go.Proofs.YtghfhgjgdkkkpaaW.PrintWords Go.Proofs.YtghfhgjgdkkkpaaW.PrintLast

theorem long_ends (x0 : ByteArray) (x1 x2 x3 x4 x5 x6 x7 x8 x9 x10 x11 : Int) (l12 : List S171) (l13 : List S66) (l14 : List S173) (l15 : List S177) (hl : l13.length ≤ 30) :
    ∀ (d i k : Nat), l13.length - i ≤ d → d < k → ∃ b, postilionlaw11_long.l0 k (i : Int) x0 x1 x2 x3 x4 x5 x6 x7 x8 x9 x10 x11 l12 l13 l14 l15 = some b := by
  intro d
  induction d with
  | zero =>
    intro i k h1 h2
    obtain ⟨k, rfl⟩ : ∃ m, k = m + 1 := ⟨k - 1, by omega⟩
    rw [postilionlaw11_long.l0, if_neg (by omega)]
    exact ⟨_, rfl⟩
  | succ d ih =>
    intro i k h1 h2
    obtain ⟨k, rfl⟩ : ∃ m, k = m + 1 := ⟨k - 1, by omega⟩
    rw [postilionlaw11_long.l0]
    by_cases c : (i : Int) < (l13.length : Int)
    · rw [if_pos c, if_pos (by omega)]
      have e : wrap64 ((i : Int) + 1) = ((i + 1 : Nat) : Int) := by unfold wrap64; omega
      rw [e]
      split
      · exact ⟨_, rfl⟩
      · split
        · exact ⟨_, rfl⟩
        · exact ih (i + 1) k (by omega) (by omega)
    · rw [if_neg c]
      exact ⟨_, rfl⟩
theorem HealthNil : postilionlaw11_HealthNil.Pure := by
  intro a0 a1 x0 x1 x2 x3 x4 x5 x6 x7 x8 x9 x10 x11 l12 l13 l14 l15
  intros
  refine ⟨1000, ?_⟩
  have key : ∃ b, postilionlaw11_long.f 1000 x0 x1 x2 x3 x4 x5 x6 x7 x8 x9 x10 x11 l12 l13 l14 l15 = some b := by
    unfold postilionlaw11_long.f
    by_cases c : (l13.length : Int) > 30
    · rw [if_pos c]
      exact ⟨_, rfl⟩
    · rw [if_neg c]
      exact long_ends x0 x1 x2 x3 x4 x5 x6 x7 x8 x9 x10 x11 l12 l13 l14 l15 (by omega) 30 0 1000 (by omega) (by omega)
  obtain ⟨b, hb⟩ := key
  unfold postilionlaw11_HealthNil.f
  rw [hb]
  rfl
end Go.Proofs.Ytghfhgjgdkkkpaa.Pure
