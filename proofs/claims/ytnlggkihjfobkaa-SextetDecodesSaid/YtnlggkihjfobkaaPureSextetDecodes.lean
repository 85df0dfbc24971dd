import Derived.Test.YtnlggkihjfobkaaPx7
import Derived.Test.YtnlggkihjfobkaaSextetLem3
namespace Go.Proofs.Ytnlggkihjfobkaa.Pure
open Go.RowKit Go.Proofs.Ytnlggkihjfobkaa.P Go.Proofs.YtnlggkihjfobkaaW.PrintWords Go.Proofs.YtnlggkihjfobkaaW.PrintLast

theorem SextetDecodes : postilionlaw05_SextetDecodes.Pure := by
  intro a0 _
  by_cases c1 : (a0.size : Int) > 3000
  · refine ⟨1, ?_⟩
    unfold postilionlaw05_SextetDecodes.f
    rw [if_pos c1]
  · obtain ⟨p1, p2⟩ := decF (s := a0) (by omega)
    obtain ⟨r1, r2⟩ := refDec (s := a0) (by omega)
    by_cases h : ∃ ns, Small ns ∧ a0.data.toList = encS ns
    · obtain ⟨ns, hs, he⟩ := h
      obtain ⟨K, hK⟩ := r1 ns hs he
      refine ⟨K, ?_⟩
      have h1 := hK K (Nat.le_refl _)
      simp only at h1
      unfold postilionlaw05_SextetDecodes.f
      rw [if_neg c1, p1 ns hs he, Option.bind_some, h1, Option.bind_some, if_pos rfl]
      rfl
    · have hn : ∀ ns, Small ns → a0.data.toList ≠ encS ns := fun ns hs he => h ⟨ns, hs, he⟩
      obtain ⟨K, hK⟩ := r2 hn
      refine ⟨K, ?_⟩
      have h1 := hK K (Nat.le_refl _)
      simp only at h1
      unfold postilionlaw05_SextetDecodes.f
      rw [if_neg c1, p2 hn, Option.bind_some, h1, Option.bind_some, if_pos rfl]
      rfl
end Go.Proofs.Ytnlggkihjfobkaa.Pure
