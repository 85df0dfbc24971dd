/- A row that is wanted at each tick is due at the first one, and each so many ticks behind; one that is wanted anew is due at once; no condition beyond the bounds of the types. -/
import Derived.Test.YtnajlpmpofljhaaStprobeOften
namespace Go.Proofs.Ytnajlpmpofljhaa.Pure
open Go.RowKit Go.Proofs.Ytnajlpmpofljhaa.P Go.Proofs.YtnajlpmpofljhaaW.PrintWords Go.Proofs.YtnajlpmpofljhaaW.PrintLast

theorem ProbeOften : postilionlaw10_ProbeOften.Pure := by
  unfold postilionlaw10_ProbeOften.Pure
  intros
  rfl
end Go.Proofs.Ytnajlpmpofljhaa.Pure
