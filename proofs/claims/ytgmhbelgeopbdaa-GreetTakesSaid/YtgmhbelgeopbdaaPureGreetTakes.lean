/- The statement GreetTakes (postilionlaw12): the program's takers of a greeting and of a choice answer what the reference answers, for every slice of bytes; no condition. -/
import Derived.Test.YtgmhbelgeopbdaaPx7
import Derived.Test.YtgmhbelgeopbdaaGreetLem
namespace Go.Proofs.Ytgmhbelgeopbdaa.Pure
open Go.RowKit Go.Proofs.Ytgmhbelgeopbdaa.P Go.Proofs.YtgmhbelgeopbdaaW.PrintWords Go.Proofs.YtgmhbelgeopbdaaW.PrintLast

theorem takes_end (l : List Int) (d : Nat) : ∀ (k : Nat) (i : Nat) (m : List Int), (m.length : Int) - i = d → m.length ≤ 1000000 → d + 2 < k → postilionlaw12_GreetTakes.l0 k l l m i = some true := by
  induction d with
  | zero =>
    intro k i m hd hm hk
    obtain ⟨k, rfl⟩ : ∃ q, k = q + 1 := ⟨k - 1, by omega⟩
    simp only [postilionlaw12_GreetTakes.l0]
    obtain ⟨r, hr⟩ := answer_some l k (by omega)
    rw [if_neg (by omega), answers_same l k (by omega), hr]
    simp
  | succ d ih =>
    intro k i m hd hm hk
    obtain ⟨k, rfl⟩ : ∃ q, k = q + 1 := ⟨k - 1, by omega⟩
    simp only [postilionlaw12_GreetTakes.l0]
    rw [if_pos (by omega), if_pos (by omega), wrap_in (by omega) (by omega)]
    exact ih k (i + 1) _ (by rw [List.length_set]; omega) (by rw [List.length_set]; exact hm) (by omega)

theorem take_len (l : List Int) (hl : l.length ≤ 1000) (r : List Int × Int × Int) (h : greet_Take.f l = some r) : r.1.length ≤ 1000 := by
  unfold greet_Take.f bytes_Clone.f at h
  have e : ((l.take (2 + rd l 1).toNat).drop 2).length ≤ 1000 := by rw [List.length_drop, List.length_take]; omega
  rw [if_pos (show ((l.take (2 + rd l 1).toNat).drop 2).length ≤ 140737488355328 by omega)] at h
  simp only [Option.bind_some] at h
  repeat' split at h
  all_goals first | (obtain rfl := Option.some.inj h; simp; done) | (obtain rfl := Option.some.inj h; exact e) | exact absurd h (by simp)

theorem GreetTakes : postilionlaw12_GreetTakes.Pure := by
  intro l h0 h1 hw
  have hb := bytes_of_wf hw
  unfold postilionlaw12_GreetTakes.f
  by_cases c : (l.length : Int) > 1000
  · exact ⟨0, by rw [if_pos c]⟩
  · obtain ⟨r, hr⟩ := take_some l (by omega) hb
    refine ⟨3000, ?_⟩
    have hl := take_len l (by omega) r hr
    rw [if_neg c]
    simp only [Option.bind_some, List.length_nil, List.nil_append]
    rw [if_pos (by omega), takes_same l (by omega) hb 3000 (by omega), hr]
    simp only [Option.bind_some, if_true, postilionlaw12_GreetTakes.j0]
    rw [if_neg (by simp)]
    have := takes_end l r.1.length 2999 0 r.1 (by omega) (by omega) (by omega)
    simpa using this
end Go.Proofs.Ytgmhbelgeopbdaa.Pure
