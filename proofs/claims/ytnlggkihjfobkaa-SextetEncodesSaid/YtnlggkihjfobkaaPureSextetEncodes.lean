import Derived.Test.YtnlggkihjfobkaaPx4
import Derived.Test.YtnlggkihjfobkaaSextetLem2
namespace Go.Proofs.Ytnlggkihjfobkaa.Pure
open Go.RowKit Go.Proofs.Ytnlggkihjfobkaa.P Go.Proofs.YtnlggkihjfobkaaW.PrintWords Go.Proofs.YtnlggkihjfobkaaW.PrintLast

theorem SextetEncodes : postilionlaw05_SextetEncodes.Pure := by
  intro l0 a1 hl _ hw ha
  obtain ⟨ns, rfl, hs⟩ := of_wf hw
  by_cases c1 : ((up ns).length : Int) > 3000
  · refine ⟨1, ?_⟩
    unfold postilionlaw05_SextetEncodes.f
    rw [if_pos c1]
    rfl
  · by_cases c2 : a1 > 10000
    · refine ⟨1, ?_⟩
      unfold postilionlaw05_SextetEncodes.f
      rw [if_neg c1, decide_eq_true c2]
      rfl
    · have hn : ns.length ≤ 3000 := by rw [up_length] at c1; omega
      obtain ⟨K1, h1⟩ := refEnc hs (Nat.le_trans hn (by decide))
      obtain ⟨K2, h2⟩ := ref_size a1 (by omega) 4000 0 0 (by omega) (by decide) (by decide)
      refine ⟨K1 + K2 + 1, ?_⟩
      have h1 := h1 (K1 + K2) (by omega)
      have h2 := h2 (K1 + K2) (by omega)
      simp only at h1 h2
      rw [Int.natCast_zero] at h2
      have hsz := sizeF a1 (by omega)
      have g : ([] : List Int).length + (up ns).length < 140737488355328 := by rw [up_length]; simp only [List.length_nil]; omega
      unfold postilionlaw05_SextetEncodes.f
      rw [if_neg c1, decide_eq_false c2]
      simp only [postilionlaw05_SextetEncodes.j0]
      rw [if_neg (by decide), Option.bind_some, if_pos g, Option.bind_some, List.nil_append, encF hs (Nat.le_trans hn (by decide)), Option.bind_some, h1, Option.bind_some, if_pos rfl, if_pos rfl, hsz, Option.bind_some]
      unfold postilionref05_Size.f
      rw [h2, Option.bind_some]
      simp
end Go.Proofs.Ytnlggkihjfobkaa.Pure
