/- HeadMore (postilionlaw15): the plain law stands with the walk. -/
import Derived.Test.YtbdodjedigegdaaDoorStheadMoreLaw
namespace Go.Proofs.YtbdodjedigegdaaDoor.Pure
open Go.RowKit Go.Proofs.YtbdodjedigegdaaDoor.P Go.Proofs.YtbdodjedigegdaaDoorW.PrintWords Go.Proofs.YtbdodjedigegdaaDoorW.PrintLast

theorem HeadMore : postilionlaw15_HeadMore.Pure := trivial
end Go.Proofs.YtbdodjedigegdaaDoor.Pure
