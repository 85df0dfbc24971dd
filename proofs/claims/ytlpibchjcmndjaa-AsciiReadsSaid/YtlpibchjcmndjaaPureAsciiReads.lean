/- The plain law of AsciiReads (postilionlaw02): whatever is read from any bytes is what the chapter says; they stay, and what is told is the caller's own; no condition beyond the bounds of the types. -/
import Derived.Test.YtlpibchjcmndjaaStasciiReads
namespace Go.Proofs.Ytlpibchjcmndjaa.Pure
open Go.RowKit Go.Proofs.Ytlpibchjcmndjaa.P Go.Proofs.YtlpibchjcmndjaaW.PrintWords Go.Proofs.YtlpibchjcmndjaaW.PrintLast

theorem AsciiReads : postilionlaw02_AsciiReads.Pure := by
  intro b acts _ _ hb _ ha
  have h0 : ∀ x : Int, (Lit.int .u8 x).wf = true → 0 ≤ x ∧ x < 256 := fun x h => by
    simp only [Lit.wf, Bool.and_eq_true, decide_eq_true_eq] at h
    have h1 : (0 : Int) ≤ x := h.1
    have h2 : x ≤ 255 := h.2
    omega
  unfold postilionlaw02_AsciiReads.f
  rw [if_pos ⟨List.all_eq_true.2 fun x hx => decide_eq_true (h0 x (hb x hx)), List.all_eq_true.2 fun x hx => decide_eq_true (h0 _ (ha x hx).1)⟩]
end Go.Proofs.Ytlpibchjcmndjaa.Pure
