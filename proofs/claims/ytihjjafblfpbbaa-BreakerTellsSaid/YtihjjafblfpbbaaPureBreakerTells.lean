/- The statement BreakerTells (postilionlaw09): whether a breaker may be, what it is at a tick, whether it may be tried, and what a trial makes of it, are the reference's, for every breaker and tick; no condition. -/
import Derived.Test.YtihjjafblfpbbaaPx8
import Derived.Test.YtihjjafblfpbbaaBreakerLem
namespace Go.Proofs.Ytihjjafblfpbbaa.Pure
open Go.RowKit Go.Proofs.Ytihjjafblfpbbaa.P Go.Proofs.YtihjjafblfpbbaaW.PrintWords Go.Proofs.YtihjjafblfpbbaaW.PrintLast
theorem st_range (a : Bool) (b c : Int) (d : Bool) (now : Int) : wrap64 (stB a b c d now) = stB a b c d now := by
  apply wrap_in <;> (unfold stB; grind)
theorem BreakerTells : postilionlaw09_BreakerTells.Pure := by
  intro a b c d now _ _ _
  refine ⟨1, ?_⟩
  unfold postilionlaw09_BreakerTells.f
  rw [try_p, try_r a b c d now 0, may_p, may_r, st_p, st_r, lets_p, lets_r]
  simp only [Option.bind_some]
  rw [st_range]
  simp
end Go.Proofs.Ytihjjafblfpbbaa.Pure
