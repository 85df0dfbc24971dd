/- Tokens' text is theirs; a text that is some tokens' is their text: the walk's own answer is yes where the separator is a byte. -/
import Derived.Test.YtnndmbhfolgohaaDoorSttokenBack
namespace Go.Proofs.YtnndmbhfolgohaaDoor.Pure
open Go.RowKit Go.Proofs.YtnndmbhfolgohaaDoor.P Go.Proofs.YtnndmbhfolgohaaDoorW.PrintWords Go.Proofs.YtnndmbhfolgohaaDoorW.PrintLast

theorem TokenBack : postilionlaw17_TokenBack.Pure := by
  intro l0 a1 a2 _ _ _ h
  show (if 0 ≤ a2 ∧ a2 < 256 then some true else none) = some true
  have h2 : IntKind.u8.min ≤ a2 ∧ a2 ≤ IntKind.u8.max := by simpa [Lit.wf] using h
  have e1 : IntKind.u8.min = 0 := by decide
  have e2 : IntKind.u8.max = 255 := by decide
  rw [e1, e2] at h2
  rw [if_pos ⟨h2.1, by omega⟩]
end Go.Proofs.YtnndmbhfolgohaaDoor.Pure
