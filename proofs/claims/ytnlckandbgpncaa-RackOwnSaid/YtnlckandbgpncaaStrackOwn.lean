-- Laid by sp.py, a program of this session's, out of the translation and the session's own stand-ins.
import Derived.Test.YtnlckandbgpncaaPx0
import Derived.Test.YtnlckandbgpncaaShelf
import Derived.Test.YtnlckandbgpncaaSLrackOwn1
import Derived.Test.YtnlckandbgpncaaSLrackOwn2
namespace Go.Proofs.Ytnlckandbgpncaa.P
open Go.RowKit Go.Proofs.YtnlckandbgpncaaW.PrintWords Go.Proofs.YtnlckandbgpncaaW.PrintLast Go.Proofs.YtnlckandbgpncaaW.PrintMore
attribute [local go_sem] max2_int min2_int max_two min_two max_three min_three max_four min_four   -- for this text's walks alone
set_option linter.unusedVariables false
set_option linter.unusedSimpArgs false
set_option linter.unnecessarySimpa false

/-! ### RackOwn: a law by hand -/
theorem postilionlaw03_RackOwn.calls (size : Int) (two : Bool) (A2 : Option Addr) (c2 : Nat) (l : List S31) (r : Bool) (w : World) (hC : Kd.C k31 w A2 l.length l) (hc : l.length ≤ c2) (h : postilionlaw03_RackOwn.f size two l = some r) (hT : Aside0 (r = true)) :
    Calls Try.prog 6 #[.int .i64 size, .bool two, .slice A2 l.length c2] w fun e w' => e = .returned (.bool r) ∧ Below w.heap.size w w' := by
  cases two
  · exact own_by1 size A2 c2 l r w hC hc h hT
  · exact own_by2 size A2 c2 l r w hC hc h hT

/-- THE ONE PURE STATEMENT of postilionlaw03_RackOwn: yours. -/
def postilionlaw03_RackOwn.Pure : Prop := ∀ (a0 : Int) (a1 : Bool) (l2 : List (S31)), (Lit.int .i64 a0).wf = true → l2.length ≤ maxLen → (∀ y_ ∈ l2, ((Lit.int .u8 y_.f0).wf = true) ∧ ((Lit.int .i64 y_.f1).wf = true) ∧ ((Lit.int .i64 y_.f2).wf = true)) → postilionlaw03_RackOwn.f a0 a1 l2 = some true

end Go.Proofs.Ytnlckandbgpncaa.P
