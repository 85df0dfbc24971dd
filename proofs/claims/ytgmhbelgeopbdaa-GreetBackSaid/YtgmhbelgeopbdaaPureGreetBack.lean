/- The statement GreetBack (postilionlaw12): a greeting of any 1 to 255 methods, with anything behind it, is taken as it; for every input, no condition. -/
import Derived.Test.YtgmhbelgeopbdaaPx11
import Derived.Test.YtgmhbelgeopbdaaGreetLem2
namespace Go.Proofs.Ytgmhbelgeopbdaa.Pure
open Go.RowKit Go.Proofs.Ytgmhbelgeopbdaa.P Go.Proofs.YtgmhbelgeopbdaaW.PrintWords Go.Proofs.YtgmhbelgeopbdaaW.PrintLast

theorem take_of (m rest : List Int) (hm : Bytes m) (hr : Bytes rest) (h1 : 1 ≤ m.length) (h2 : m.length ≤ 255) (h3 : rest.length ≤ 400) :
    greet_Take.f ([5, (m.length : Int)] ++ m ++ rest) = some (m, 2 + (m.length : Int), 0) := by
  have hb : Bytes ([5, (m.length : Int)] ++ m ++ rest) := Bytes.append (Bytes.append (fun x hx => by
    simp only [List.mem_cons, List.not_mem_nil, or_false] at hx
    omega) hm) hr
  have e0 : rd ([5, (m.length : Int)] ++ m ++ rest) 0 = 5 := by simp [rd]
  have e1 : rd ([5, (m.length : Int)] ++ m ++ rest) 1 = m.length := by simp [rd]
  have el : ([5, (m.length : Int)] ++ m ++ rest).length = 2 + m.length + rest.length := by simp only [List.length_append, List.length_cons, List.length_nil]
  rcases take_cases _ (by omega) hb with h | h | h | h | h | h
  · omega
  · exact absurd e0 h.2.1
  · omega
  · omega
  · omega
  · rw [h.2.2.2.2, e1]
    simp

theorem GreetBack : postilionlaw12_GreetBack.Pure := by
  intro l m h0 h1 hw h2 h3 hv
  have hl := bytes_of_wf hw
  have hm := bytes_of_wf hv
  refine ⟨1, ?_⟩
  unfold postilionlaw12_GreetBack.f
  rw [awake_true]
  simp only [Option.bind_some, if_true, postilionlaw12_GreetBack.j0]
  by_cases c0 : (l.length : Int) = 0
  · rw [if_pos c0]
  · by_cases c1 : (l.length : Int) > 255
    · rw [if_neg c0, if_pos c1]
    · by_cases c2 : (m.length : Int) > 400
      · rw [if_neg c0, if_neg c1, if_pos (by simpa using c2)]
      · have hg : greet_Take.f [5, 1, 2] = some ([2], 3, 0) := by decide
        have hh : greet_Has.f [2] = some true := by decide
        have e : ((l.length : Int)) % 256 = l.length := by omega
        have ht := take_of l m hl hm (by omega) (by omega) (by omega)
        have el : ([5, (l.length : Int)] ++ l).length = 2 + l.length := by simp only [List.length_append, List.length_cons, List.length_nil]
        rw [if_neg c0, if_neg c1, if_neg (by simpa using c2), e, if_pos (by simp; omega)]
        simp only [List.nil_append, List.length_nil]
        rw [if_pos (by simp; omega), if_pos (by simp; omega), ht]
        simp only [Option.bind_some, greet_Greeting.f, hg, if_true, hh, el]
        simp
end Go.Proofs.Ytgmhbelgeopbdaa.Pure
