/- HeadOnce (postilionlaw15): the plain law stands with the walk. -/
import Derived.Test.YtbdodjedigegdaaDoorStheadOnceLaw
namespace Go.Proofs.YtbdodjedigegdaaDoor.Pure
open Go.RowKit Go.Proofs.YtbdodjedigegdaaDoor.P Go.Proofs.YtbdodjedigegdaaDoorW.PrintWords Go.Proofs.YtbdodjedigegdaaDoorW.PrintLast

theorem HeadOnce : postilionlaw15_HeadOnce.Pure := trivial
end Go.Proofs.YtbdodjedigegdaaDoor.Pure
