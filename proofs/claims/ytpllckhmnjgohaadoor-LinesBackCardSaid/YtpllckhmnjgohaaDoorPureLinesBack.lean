/- What is printed is split as it was; what is split may be printed: the walk's own answer is yes where the rows' sizes are those that memory holds. -/
import Derived.Test.YtpllckhmnjgohaaDoorStlinesBack
namespace Go.Proofs.YtpllckhmnjgohaaDoor.Pure
open Go.RowKit Go.Proofs.YtpllckhmnjgohaaDoor.P Go.Proofs.YtpllckhmnjgohaaDoorW.PrintWords Go.Proofs.YtpllckhmnjgohaaDoorW.PrintLast

theorem LinesBack : postilionlaw18_LinesBack.Pure := by
  intro l0 a1 _ h _
  show (if l0.all (fun r => decide (r.length ≤ 9223372036854775807)) = true then some true else none) = some true
  rw [if_pos]
  rw [List.all_eq_true]
  intro r hr
  have h2 := (h r hr).1
  unfold maxLen at h2
  exact decide_eq_true (by omega)
end Go.Proofs.YtpllckhmnjgohaaDoor.Pure
