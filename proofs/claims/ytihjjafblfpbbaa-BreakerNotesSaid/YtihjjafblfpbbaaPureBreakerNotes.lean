/- The statement BreakerNotes (postilionlaw09): what any outcome makes of any breaker is the reference's, for all numbers; no condition. -/
import Derived.Test.YtihjjafblfpbbaaPx14
import Derived.Test.YtihjjafblfpbbaaBreakerLem
namespace Go.Proofs.Ytihjjafblfpbbaa.Pure
open Go.RowKit Go.Proofs.Ytihjjafblfpbbaa.P Go.Proofs.YtihjjafblfpbbaaW.PrintWords Go.Proofs.YtihjjafblfpbbaaW.PrintLast
theorem BreakerNotes : postilionlaw09_BreakerNotes.Pure := by
  intro a b c d now cool tr trip _ _ _ _
  refine ⟨1, ?_⟩
  unfold postilionlaw09_BreakerNotes.f
  rw [bad_p a b c d now cool tr trip 0, bad_r a b c d now cool tr trip 0, good_p, good_r, back_p, back_r]
  simp
end Go.Proofs.Ytihjjafblfpbbaa.Pure
