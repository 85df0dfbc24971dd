/- The statement GreetChoice (postilionlaw12): a choice, with anything behind it, is taken as it; for every input, no condition. -/
import Derived.Test.YtgmhbelgeopbdaaPx12
import Derived.Test.YtgmhbelgeopbdaaGreetLem2
namespace Go.Proofs.Ytgmhbelgeopbdaa.Pure
open Go.RowKit Go.Proofs.Ytgmhbelgeopbdaa.P Go.Proofs.YtgmhbelgeopbdaaW.PrintWords Go.Proofs.YtgmhbelgeopbdaaW.PrintLast

theorem answer_of (a : Int) (rest : List Int) (k : Nat) : greet_TakeAnswer.f (k + 1) ([5, a] ++ rest) = some (a, 2, 0) := by
  unfold greet_TakeAnswer.f
  have el : (([5, a] ++ rest).length : Int) = 2 + rest.length := by simp only [List.length_append, List.length_cons, List.length_nil]; omega
  have e0 : rd ([5, a] ++ rest) 0 = 5 := by simp [rd]
  have e1 : rd ([5, a] ++ rest) 1 = a := by simp [rd]
  rw [el, e0]
  simp only [greet_TakeAnswer.j0]
  rw [el, e1, if_pos (by omega), if_pos (by omega), if_neg (by decide), if_neg (by omega), if_pos (by omega)]

theorem GreetChoice : postilionlaw12_GreetChoice.Pure := by
  intro ok a m ha h2 h3 hv
  refine ⟨1, ?_⟩
  unfold postilionlaw12_GreetChoice.f
  rw [awake_true]
  simp only [Option.bind_some, if_true]
  by_cases c2 : (m.length : Int) > 400
  · rw [if_pos c2]
  · rw [if_neg c2]
    unfold greet_Answer.f
    cases ok with
    | true =>
      rw [if_pos rfl]
      simp only [Option.bind_some]
      rw [if_pos (by simp; omega), answer_of 2 m 0]
      simp only [Option.bind_some]
      rw [if_pos (by simp; omega), answer_of a m 0]
      simp
    | false =>
      rw [if_neg (by decide)]
      simp only [Option.bind_some]
      rw [if_pos (by simp; omega), answer_of 255 m 0]
      simp only [Option.bind_some]
      rw [if_pos (by simp; omega), answer_of a m 0]
      simp
end Go.Proofs.Ytgmhbelgeopbdaa.Pure
