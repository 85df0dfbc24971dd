-- Laid by sp.py, a program of this session's, out of the translation and the session's own stand-ins.
import Derived.Test.YtlpibchjcmndjaaDoorProg
import Derived.Below
import Derived.Deep.Draws
import Derived.Deep.AppendLies
import Derived.Maps.AppendAt
import Derived.OwnWalk
import Derived.Laws.BytesArg
import Derived.Laws.MakeOwn
import Derived.Laws.OwnMore
import Derived.Deep.OwnRows
import Derived.Tactics
import Derived.Lib.ConvBytes
import Derived.Laws.Slices
import Derived.WalkKit
import Derived.KernelRfl
import Derived.RowKit3
import Derived.Deep.LoopGhost
import Derived.Deep.QuietTactic
import Derived.BigQuiet
import Derived.WideLaws
import Derived.Deep.DeepCutAuto
import Derived.Deep.CutBlock
import Derived.Deep.RegionHeld3
import Derived.Laws.Rows
import Derived.Lib.AppendStr
import Derived.ArgAppend
import Derived.Laws.IdiomCopy
import Derived.OrdersHeld
import Derived.Laws.BitsLemmas
import Derived.RowKit
import Derived.Test.YtlpibchjcmndjaaDoorWWords
import Derived.Test.YtlpibchjcmndjaaDoorWLast
import Derived.Test.YtlpibchjcmndjaaDoorWTab
import Derived.Test.YtlpibchjcmndjaaDoorWFour
import Derived.Test.YtlpibchjcmndjaaDoorWQPut
import Derived.Test.YtlpibchjcmndjaaDoorWApart
import Derived.Test.YtlpibchjcmndjaaDoorWArr
import Derived.Test.YtlpibchjcmndjaaDoorWZeros
import Derived.Test.YtlpibchjcmndjaaDoorWFoot
import Derived.Test.YtlpibchjcmndjaaDoorWKept
import Derived.Test.YtlpibchjcmndjaaDoorWShare
import Derived.Test.YtlpibchjcmndjaaDoorWN
import Derived.Test.YtlpibchjcmndjaaDoorWFootNe
import Derived.Test.YtlpibchjcmndjaaDoorWAt
import Derived.Test.YtlpibchjcmndjaaDoorWEqStruct
import Derived.Test.YtlpibchjcmndjaaDoorWRepsOne
import Derived.Test.YtlpibchjcmndjaaDoorWInv
import Derived.Test.YtlpibchjcmndjaaDoorWInvWords
import Derived.Test.YtlpibchjcmndjaaDoorWGuard
import Derived.Test.YtlpibchjcmndjaaDoorWNEv
import Derived.Test.YtlpibchjcmndjaaDoorWMore
namespace Go.Proofs.YtlpibchjcmndjaaDoor.P
open Go.RowKit Go.Proofs.YtlpibchjcmndjaaDoorW.PrintWords Go.Proofs.YtlpibchjcmndjaaDoorW.PrintLast Go.Proofs.YtlpibchjcmndjaaDoorW.PrintMore
attribute [local go_sem] max2_int min2_int max_two min_two max_three min_three max_four min_four   -- for this text's walks alone
set_option linter.unusedVariables false
set_option linter.unusedSimpArgs false
set_option linter.unnecessarySimpa false



def errW : Option Int → Value
  | none => .nilIface
  | some c => .iface 0 (.int .i64 c)
theorem errW_none : errW none = .nilIface := rfl
theorem errW_some (c : Int) : errW (some c) = .iface 0 (.int .i64 c) := rfl

-- the values' own types

end Go.Proofs.YtlpibchjcmndjaaDoor.P
