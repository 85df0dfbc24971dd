-- Laid by sp.py, a program of this session's, out of the translation and the session's own stand-ins.
import Derived.Test.YtbdodjedigegdaaDoorPx0
import Derived.Test.YtbdodjedigegdaaDoorSLheadMore
namespace Go.Proofs.YtbdodjedigegdaaDoor.P
open Go.RowKit Go.Proofs.YtbdodjedigegdaaDoorW.PrintWords Go.Proofs.YtbdodjedigegdaaDoorW.PrintLast Go.Proofs.YtbdodjedigegdaaDoorW.PrintMore
attribute [local go_sem] max2_int min2_int max_two min_two max_three min_three max_four min_four   -- for this text's walks alone
set_option linter.unusedVariables false
set_option linter.unusedSimpArgs false
set_option linter.unnecessarySimpa false

/-! ### HeadMore: a law by hand -/
def postilionlaw15_HeadMore.Pure : Prop := True
theorem postilionlaw15_HeadMore.walk (P : postilionlaw15_HeadMore.Pure) (a0 : Option Addr) (len0 cap0 : Nat) (z0 : List Int) (w : World) (w0 : ((a0 = none ∧ len0 = 0 ∧ cap0 = 0 ∧ z0 = []) ∨ ∃ x, a0 = some x ∧ len0 ≤ cap0 ∧ cap0 ≤ maxLen ∧ z0.length = cap0 ∧ (∀ i, i < z0.length → w.cell? (x.add i) = some (.int .u8 (z0.getD i 0))) ∧ ∀ n ∈ z0, (Lit.int .u8 n).wf = true)) (_y0 : len0 * 1 ≤ 140737488351232) :
    Calls Tryd.prog 5 #[.slice a0 len0 cap0] w fun e w' => e = .returned (.bool true) ∧ Below w.heap.size w w' := by
  obtain ⟨l0, rfl, hr0, hm0, hw0, hc0⟩ := ReadsInt.ofRowC w0
  have h0 := toU_map (u8_wf hw0)
  have e0 := toU_len l0
  rw [← e0]
  refine hm_more (toU l0) a0 cap0 w (by omega) ?_
  rw [h0, e0]
  exact hr0

end Go.Proofs.YtbdodjedigegdaaDoor.P
