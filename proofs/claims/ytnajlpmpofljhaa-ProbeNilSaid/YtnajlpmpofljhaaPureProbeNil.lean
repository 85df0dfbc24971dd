import Derived.Test.YtnajlpmpofljhaaStprobeNil
namespace Go.Proofs.Ytnajlpmpofljhaa.Pure
open Go.RowKit Go.Proofs.Ytnajlpmpofljhaa.P Go.Proofs.YtnajlpmpofljhaaW.PrintWords Go.Proofs.YtnajlpmpofljhaaW.PrintLast

theorem ProbeNil : postilionlaw10_ProbeNil.Pure := fun _ _ _ _ => trivial
end Go.Proofs.Ytnajlpmpofljhaa.Pure
