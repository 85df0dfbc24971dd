import Derived.Test.YtnlckandbgpncaaStrackNil
namespace Go.Proofs.Ytnlckandbgpncaa.Pure
open Go.RowKit Go.Proofs.Ytnlckandbgpncaa.P Go.Proofs.YtnlckandbgpncaaW.PrintWords Go.Proofs.YtnlckandbgpncaaW.PrintLast

theorem RackNil : postilionlaw03_RackNil.Pure := fun _ _ _ _ => trivial
end Go.Proofs.Ytnlckandbgpncaa.Pure
