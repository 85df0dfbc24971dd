/- Check and Next go on as long as ids are new, and there are fewer than most; no condition beyond the bounds of the types. -/
import Derived.Test.YtnndmbhfolgohaaDoorSttokenOn
namespace Go.Proofs.YtnndmbhfolgohaaDoor.Pure
open Go.RowKit Go.Proofs.YtnndmbhfolgohaaDoor.P Go.Proofs.YtnndmbhfolgohaaDoorW.PrintWords Go.Proofs.YtnndmbhfolgohaaDoorW.PrintLast

theorem TokenOn : postilionlaw17_TokenOn.Pure := fun _ _ _ _ _ => rfl
end Go.Proofs.YtnndmbhfolgohaaDoor.Pure
