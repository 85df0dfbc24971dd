/- Ids, tokens, texts, whether a request goes round: what the chapter says: the walk's own answer is yes where the separator is a byte. -/
import Derived.Test.YtnndmbhfolgohaaDoorSttokenTells
namespace Go.Proofs.YtnndmbhfolgohaaDoor.Pure
open Go.RowKit Go.Proofs.YtnndmbhfolgohaaDoor.P Go.Proofs.YtnndmbhfolgohaaDoorW.PrintWords Go.Proofs.YtnndmbhfolgohaaDoorW.PrintLast

theorem TokenTells : postilionlaw17_TokenTells.Pure := by
  intro a0 l1 a2 a3 a4 _ _ _ _ h _
  show (if 0 ≤ a3 ∧ a3 < 256 then some true else none) = some true
  have h2 : IntKind.u8.min ≤ a3 ∧ a3 ≤ IntKind.u8.max := by simpa [Lit.wf] using h
  have e1 : IntKind.u8.min = 0 := by decide
  have e2 : IntKind.u8.max = 255 := by decide
  rw [e1, e2] at h2
  rw [if_pos ⟨h2.1, by omega⟩]
end Go.Proofs.YtnndmbhfolgohaaDoor.Pure
