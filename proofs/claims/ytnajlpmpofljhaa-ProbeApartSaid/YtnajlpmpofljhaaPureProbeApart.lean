/- What is wanted of one row changes nothing for the others; no condition beyond the bounds of the types. -/
import Derived.Test.YtnajlpmpofljhaaStprobeApart
namespace Go.Proofs.Ytnajlpmpofljhaa.Pure
open Go.RowKit Go.Proofs.Ytnajlpmpofljhaa.P Go.Proofs.YtnajlpmpofljhaaW.PrintWords Go.Proofs.YtnajlpmpofljhaaW.PrintLast

theorem ProbeApart : postilionlaw10_ProbeApart.Pure := by
  unfold postilionlaw10_ProbeApart.Pure
  intros
  rfl
end Go.Proofs.Ytnajlpmpofljhaa.Pure
