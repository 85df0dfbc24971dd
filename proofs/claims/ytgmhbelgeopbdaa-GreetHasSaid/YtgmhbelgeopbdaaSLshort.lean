import Derived.Test.YtgmhbelgeopbdaaWWords
import Derived.Test.YtgmhbelgeopbdaaWLast
import Derived.Test.YtgmhbelgeopbdaaWMore
/- Short names for laws of the print's words. -/
namespace Go.Proofs.Ytgmhbelgeopbdaa.SL
open Go Go.RowKit Go.Proofs.YtgmhbelgeopbdaaW.PrintWords Go.Proofs.YtgmhbelgeopbdaaW.PrintLast Go.Proofs.YtgmhbelgeopbdaaW.PrintMore
theorem b1 {w : World} {g : Nat} {o : Obj} (h : w.heap[g]? = some o) (n : Nat) : (w.drewN n).heap[g]? = some o := blk_drewN h n
theorem b2 {w : World} {g : Nat} {o : Obj} (h : w.heap[g]? = some o) : w.drew.heap[g]? = some o := blk_drew h
theorem b3 {w : World} {g : Nat} {o : Obj} (h : w.heap[g]? = some o) (o' : Obj) : (w.alloc o').heap[g]? = some o := blk_alloc h o'
end Go.Proofs.Ytgmhbelgeopbdaa.SL
