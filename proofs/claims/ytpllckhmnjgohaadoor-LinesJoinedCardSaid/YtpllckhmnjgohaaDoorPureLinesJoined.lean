/- The lines of two texts, one behind the other, are those of both: the walk's own answer is yes; no condition beyond the texts' sizes. -/
import Derived.Test.YtpllckhmnjgohaaDoorStlinesJoined
namespace Go.Proofs.YtpllckhmnjgohaaDoor.Pure
open Go.RowKit Go.Proofs.YtpllckhmnjgohaaDoor.P Go.Proofs.YtpllckhmnjgohaaDoorW.PrintWords Go.Proofs.YtpllckhmnjgohaaDoorW.PrintLast

theorem LinesJoined : postilionlaw18_LinesJoined.Pure := fun _ _ _ _ => ⟨0, rfl⟩
end Go.Proofs.YtpllckhmnjgohaaDoor.Pure
