import Derived.Test.YtmcbpoejdgobnaaPx10
import Derived.Test.YtmcbpoejdgobnaaPx11
namespace Go.Proofs.Ytmcbpoejdgobnaa.Pure
open Go.RowKit Go.Proofs.Ytmcbpoejdgobnaa.P Go.Proofs.YtmcbpoejdgobnaaW.PrintWords Go.Proofs.YtmcbpoejdgobnaaW.PrintLast

theorem wrap_in {x : Int} (h1 : -9223372036854775808 ≤ x) (h2 : x ≤ 9223372036854775807) : wrap64 x = x := by unfold wrap64; omega
theorem u16_in {x : Int} (h1 : 0 ≤ x) (h2 : x ≤ 65535) : IntKind.u16.wrap x = x := by
  simp [IntKind.wrap, IntKind.bits, IntKind.signed]
  omega
set_option maxRecDepth 100000 in
theorem tells_small : ∀ (n : Fin 2304) (b : Bool), postilionlaw08_WindowTells.f 40 (n.val : Int) b = some true := by decide +kernel
end Go.Proofs.Ytmcbpoejdgobnaa.Pure
