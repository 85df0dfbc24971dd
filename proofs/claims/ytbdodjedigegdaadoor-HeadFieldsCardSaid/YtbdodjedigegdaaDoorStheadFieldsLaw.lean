-- Laid by sp.py, a program of this session's, out of the translation and the session's own stand-ins.
import Derived.Test.YtbdodjedigegdaaDoorPx0
import Derived.Test.YtbdodjedigegdaaDoorSLheadFields
namespace Go.Proofs.YtbdodjedigegdaaDoor.P
open Go.RowKit Go.Proofs.YtbdodjedigegdaaDoorW.PrintWords Go.Proofs.YtbdodjedigegdaaDoorW.PrintLast Go.Proofs.YtbdodjedigegdaaDoorW.PrintMore
attribute [local go_sem] max2_int min2_int max_two min_two max_three min_three max_four min_four   -- for this text's walks alone
set_option linter.unusedVariables false
set_option linter.unusedSimpArgs false
set_option linter.unnecessarySimpa false

/-! ### HeadFields: a law by hand -/
def postilionlaw15_HeadFields.Pure : Prop := True
theorem postilionlaw15_HeadFields.walk (P : postilionlaw15_HeadFields.Pure) (a0 : Int) (a1 : Bool) (w : World) (w0 : (Lit.int .u8 a0).wf = true) :
    Calls Tryd.prog 6 #[.int .u8 a0, .bool a1] w fun e w' => e = .returned (.bool true) ∧ Below w.heap.size w w' := by
  have h := u8_wf (l := [a0]) (fun n hn => by rw [List.mem_singleton.1 hn]; exact w0) a0 (List.mem_singleton.2 rfl)
  exact hm_fields a0 a1 w h

end Go.Proofs.YtbdodjedigegdaaDoor.P
