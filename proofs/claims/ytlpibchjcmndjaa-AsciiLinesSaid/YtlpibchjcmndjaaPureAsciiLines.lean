/- The plain law of AsciiLines (postilionlaw02): lines, each with its end, are read one behind the other, as they were; one that is too long is told, and the reader stays; no condition beyond the bounds of the types. -/
import Derived.Test.YtlpibchjcmndjaaStasciiLines
namespace Go.Proofs.Ytlpibchjcmndjaa.Pure
open Go.RowKit Go.Proofs.Ytlpibchjcmndjaa.P Go.Proofs.YtlpibchjcmndjaaW.PrintWords Go.Proofs.YtlpibchjcmndjaaW.PrintLast

theorem AsciiLines : postilionlaw02_AsciiLines.Pure := fun _ _ _ _ _ => rfl
end Go.Proofs.Ytlpibchjcmndjaa.Pure
