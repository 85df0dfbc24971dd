import Derived.Test.YtlpibchjcmndjaaDoorStasciiNumbers
import Derived.Test.YtlpibchjcmndjaaDoorNumbersLem2
namespace Go.Proofs.YtlpibchjcmndjaaDoor.Pure
open Go.RowKit Go.Proofs.YtlpibchjcmndjaaDoor.P Go.Proofs.YtlpibchjcmndjaaDoorW.PrintWords Go.Proofs.YtlpibchjcmndjaaDoorW.PrintLast

theorem AsciiNumbers : postilionlaw02_AsciiNumbers.Pure := by
  intro a0 a1 a2 a3 h0 _ _ h3
  simp only [Lit.wf, Bool.and_eq_true, decide_eq_true_eq] at h0 h3
  have g0 : a0 ≤ 9223372036854775807 := h0.2
  have g3 : a3 ≤ 9223372036854775807 := h3.2
  by_cases hs : 100 < a1.size
  · refine ⟨0, ?_⟩
    unfold postilionlaw02_AsciiNumbers.f
    rw [if_pos hs]
  · obtain ⟨K1, h1⟩ := refNum a0 g0
    obtain ⟨K2, h2⟩ := refParse (s := a1) (a := a2) (g := a3) (by omega) g3
    refine ⟨K1 + K2, ?_⟩
    have h1 := h1 (K1 + K2) (by omega)
    have h2 := h2 (K1 + K2) (by omega)
    simp only at h1 h2
    unfold postilionlaw02_AsciiNumbers.f
    rw [if_neg hs, prsF (by omega) g3, Option.bind_some, h1, Option.bind_some, h2, Option.bind_some]
    unfold numS numE
    by_cases c : a0 < 0
    · rw [if_pos c, if_pos c, if_pos c]
      simp
    · rw [if_neg c, if_neg c, if_neg c]
      have e : Lib.itoa a0 = Lib.decDigits a0.toNat := by unfold Lib.itoa; rw [if_neg c]
      rw [e]
      simp
end Go.Proofs.YtlpibchjcmndjaaDoor.Pure
