/- HeadFields (postilionlaw15): the plain law stands with the walk. -/
import Derived.Test.YtbdodjedigegdaaDoorStheadFieldsLaw
namespace Go.Proofs.YtbdodjedigegdaaDoor.Pure
open Go.RowKit Go.Proofs.YtbdodjedigegdaaDoor.P Go.Proofs.YtbdodjedigegdaaDoorW.PrintWords Go.Proofs.YtbdodjedigegdaaDoorW.PrintLast

theorem HeadFields : postilionlaw15_HeadFields.Pure := trivial
end Go.Proofs.YtbdodjedigegdaaDoor.Pure
