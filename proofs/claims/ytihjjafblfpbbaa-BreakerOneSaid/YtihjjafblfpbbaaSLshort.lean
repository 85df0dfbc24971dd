import Derived.Test.YtihjjafblfpbbaaWWords
import Derived.Test.YtihjjafblfpbbaaWLast
import Derived.Test.YtihjjafblfpbbaaWMore
/- Short names for laws of the print's words. -/
namespace Go.Proofs.Ytihjjafblfpbbaa.SL
open Go Go.RowKit Go.Proofs.YtihjjafblfpbbaaW.PrintWords Go.Proofs.YtihjjafblfpbbaaW.PrintLast Go.Proofs.YtihjjafblfpbbaaW.PrintMore
theorem b1 {w : World} {g : Nat} {o : Obj} (h : w.heap[g]? = some o) (n : Nat) : (w.drewN n).heap[g]? = some o := blk_drewN h n
theorem b2 {w : World} {g : Nat} {o : Obj} (h : w.heap[g]? = some o) : w.drew.heap[g]? = some o := blk_drew h
theorem b3 {w : World} {g : Nat} {o : Obj} (h : w.heap[g]? = some o) (o' : Obj) : (w.alloc o').heap[g]? = some o := blk_alloc h o'
end Go.Proofs.Ytihjjafblfpbbaa.SL
