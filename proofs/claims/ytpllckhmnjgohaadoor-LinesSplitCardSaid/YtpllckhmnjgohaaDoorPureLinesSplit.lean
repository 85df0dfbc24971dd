/- Any text is split as the chapter says, or refused: the walk's own answer is yes; no condition beyond the text's size. -/
import Derived.Test.YtpllckhmnjgohaaDoorStlinesSplitLaw
namespace Go.Proofs.YtpllckhmnjgohaaDoor.Pure
open Go.RowKit Go.Proofs.YtpllckhmnjgohaaDoor.P Go.Proofs.YtpllckhmnjgohaaDoorW.PrintWords Go.Proofs.YtpllckhmnjgohaaDoorW.PrintLast

theorem LinesSplit : postilionlaw18_LinesSplit.Pure := fun _ _ => ⟨0, rfl⟩
end Go.Proofs.YtpllckhmnjgohaaDoor.Pure
