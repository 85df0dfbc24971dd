import Derived.Test.YtiocpkaplpilpaaDoorStfrontNil
namespace Go.Proofs.YtiocpkaplpilpaaDoor.Pure
open Go.RowKit Go.Proofs.YtiocpkaplpilpaaDoor.P Go.Proofs.YtiocpkaplpilpaaDoorW.PrintWords Go.Proofs.YtiocpkaplpilpaaDoorW.PrintLast

theorem FrontNil : postilionlaw25_FrontNil.Pure := fun _ _ _ _ => trivial
end Go.Proofs.YtiocpkaplpilpaaDoor.Pure
