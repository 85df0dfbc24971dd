/- Whatever is done to a rack: what it answers, and holds, is what the document's rack answers and holds: the walk's own answer is yes where each kind is a byte. -/
import Derived.Test.YtnlckandbgpncaaStrackPlays
namespace Go.Proofs.Ytnlckandbgpncaa.Pure
open Go.RowKit Go.Proofs.Ytnlckandbgpncaa.P Go.Proofs.YtnlckandbgpncaaW.PrintWords Go.Proofs.YtnlckandbgpncaaW.PrintLast

theorem RackPlays : postilionlaw03_RackPlays.Pure := by
  intro a0 a1 a2 l3 _ _ _ _ h
  show (if l3.all (fun a => decide (0 ≤ a.f0 ∧ a.f0 < 256)) = true then some true else none) = some true
  rw [if_pos]
  rw [List.all_eq_true]
  intro x hx
  have := (h x hx).1
  simp only [decide_eq_true_eq]
  have h2 : IntKind.u8.min ≤ x.f0 ∧ x.f0 ≤ IntKind.u8.max := by simpa [Lit.wf] using this
  have e1 : IntKind.u8.min = 0 := by decide
  have e2 : IntKind.u8.max = 255 := by decide
  rw [e1, e2] at h2
  omega
end Go.Proofs.Ytnlckandbgpncaa.Pure
