import Derived.Test.YtlpibchjcmndjaaStasciiNil
namespace Go.Proofs.Ytlpibchjcmndjaa.Pure
open Go.RowKit Go.Proofs.Ytlpibchjcmndjaa.P Go.Proofs.YtlpibchjcmndjaaW.PrintWords Go.Proofs.YtlpibchjcmndjaaW.PrintLast

theorem AsciiNil : postilionlaw02_AsciiNil.Pure := fun _ _ => trivial
end Go.Proofs.Ytlpibchjcmndjaa.Pure
