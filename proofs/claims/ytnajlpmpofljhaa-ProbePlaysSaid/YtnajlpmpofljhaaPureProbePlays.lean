/- Whatever is done to a plan: what it answers, what is due, is what the document's plan answers: the walk's own answer is yes where each kind is a byte. -/
import Derived.Test.YtnajlpmpofljhaaStprobePlays
namespace Go.Proofs.Ytnajlpmpofljhaa.Pure
open Go.RowKit Go.Proofs.Ytnajlpmpofljhaa.P Go.Proofs.YtnajlpmpofljhaaW.PrintWords Go.Proofs.YtnajlpmpofljhaaW.PrintLast

theorem ProbePlays : postilionlaw10_ProbePlays.Pure := by
  intro a0 l1 _ _ h
  show (if l1.all (fun a => decide (0 ≤ a.f0 ∧ a.f0 < 256)) = true then some true else none) = some true
  rw [if_pos]
  rw [List.all_eq_true]
  intro x hx
  have := (h x hx).1
  simp only [decide_eq_true_eq]
  have h2 : IntKind.u8.min ≤ x.f0 ∧ x.f0 ≤ IntKind.u8.max := by simpa [Lit.wf] using this
  have e1 : IntKind.u8.min = 0 := by decide
  have e2 : IntKind.u8.max = 255 := by decide
  rw [e1, e2] at h2
  omega
end Go.Proofs.Ytnajlpmpofljhaa.Pure
