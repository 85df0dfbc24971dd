/-
  No cell of these rows narrows 'for every input' (looked for: loops, veiled, ifaces, maps, wideKeys, modest, calm, conditions, laid).
  DERIVED. THE GIVEN ROWS OF THIS SEAT. 4 by the template 'for every input the law returns true; each argument reads behind the call as it read before'; 0 by the template 'total and deterministic' (their statements: YtnlckandbgpncaaTotals.lean).
  GIVEN WITH THE SEED: the statements are not yours to turn. If you find one false, say at which input.
  Laid BY PROGRAM, IN A SANDBOX (cutbox-rows.mjs): the forced cells as the released guide's own fill.sh prints them over the translation bb06bd06a90ad0f2… (all of the seat's roots in one cut). By AI agents, Wed Nov 11 2026. No macro, syntax, notation, axiom, sorry.
-/
import Derived.Test.YtnlckandbgpncaaChecked
import GoSem.Claim
import GoSem.ClaimJoined
import GoSem.ClaimMapViews
import Derived.JoinedTies
import Derived.KernelRfl
namespace Go.Proofs.Ytnlckandbgpncaa
/- THE CELL 'sum', in the pinned program and in every row, IS THE sha256 OF THE DUMP (.gsa) THAT YtnlckandbgpncaaProg.lean LOADS. Nothing in Lean hashes anything: it is a label: what it is worth is what the hold of that sum in a sandbox is worth. -/
noncomputable def Try.pinned : Pinned := { name := "ytnlckandbgpncaa", sum := "bb06bd06a90ad0f200f1cb170df1531ae083b0c900a365bd2203d5c4201f46a7", checked := Try.checked }
namespace Rows
def none {H : Type} : Left H := { results := [], args := [] }

/-- 'postilionlaw03.RackTwice': WHATEVER THE INPUT: true; the input reads as it did. -/
def rackTwiceSpec : ChangeSpec := { name := "rackTwice", fn := fun _ => fun
  | [d1, d2, d3, d4] => { results := [.lit (.bool true)], args := [d1, d2, d3, d4] }
  | _ => none }
def rackTwiceRow : OpenClaim := { program := "ytnlckandbgpncaa", sum := "bb06bd06a90ad0f200f1cb170df1531ae083b0c900a365bd2203d5c4201f46a7", func := "postilion/postilionlaw03.RackTwice", spec := "rackTwice", inPlace := ["slices.overlaps[int]"], unfollowed := true, recurses := true, apart := false }
def RackTwiceSaid : Prop := rackTwiceRow.holds Try.pinned (OpenSpec.ofChange rackTwiceSpec)

/-- ITS FALSE NEIGHBOUR: 'it returns false'. Refute it at one input. -/
def rackTwiceWrong : ChangeSpec := { name := "rackTwice", fn := fun _ => fun
  | [d1, d2, d3, d4] => { results := [.lit (.bool false)], args := [d1, d2, d3, d4] }
  | _ => none }
def RackTwiceWrongFalsely : Prop := rackTwiceRow.holds Try.pinned (OpenSpec.ofChange rackTwiceWrong)

/-- 'postilionlaw03.RackNil': WHATEVER THE INPUT: true; the input reads as it did. -/
def rackNilSpec : ChangeSpec := { name := "rackNil", fn := fun _ => fun
  | [d1, d2] => { results := [.lit (.bool true)], args := [d1, d2] }
  | _ => none }
def rackNilRow : OpenClaim := { program := "ytnlckandbgpncaa", sum := "bb06bd06a90ad0f200f1cb170df1531ae083b0c900a365bd2203d5c4201f46a7", func := "postilion/postilionlaw03.RackNil", spec := "rackNil", inPlace := ["slices.overlaps[int]"], unfollowed := true, recurses := true, apart := false }
def RackNilSaid : Prop := rackNilRow.holds Try.pinned (OpenSpec.ofChange rackNilSpec)

/-- ITS FALSE NEIGHBOUR: 'it returns false'. Refute it at one input. -/
def rackNilWrong : ChangeSpec := { name := "rackNil", fn := fun _ => fun
  | [d1, d2] => { results := [.lit (.bool false)], args := [d1, d2] }
  | _ => none }
def RackNilWrongFalsely : Prop := rackNilRow.holds Try.pinned (OpenSpec.ofChange rackNilWrong)

/-- 'postilionlaw03.RackPlays': WHATEVER THE INPUT: true; the input reads as it did. -/
def rackPlaysSpec : ChangeSpec := { name := "rackPlays", fn := fun _ => fun
  | [d1, d2, d3, d4] => { results := [.lit (.bool true)], args := [d1, d2, d3, d4] }
  | _ => none }
def rackPlaysRow : OpenClaim := { program := "ytnlckandbgpncaa", sum := "bb06bd06a90ad0f200f1cb170df1531ae083b0c900a365bd2203d5c4201f46a7", func := "postilion/postilionlaw03.RackPlays", spec := "rackPlays", inPlace := ["slices.overlaps[int]"], unfollowed := true, recurses := true, apart := false }
def RackPlaysSaid : Prop := rackPlaysRow.holds Try.pinned (OpenSpec.ofChange rackPlaysSpec)

/-- ITS FALSE NEIGHBOUR: 'it returns false'. Refute it at one input. -/
def rackPlaysWrong : ChangeSpec := { name := "rackPlays", fn := fun _ => fun
  | [d1, d2, d3, d4] => { results := [.lit (.bool false)], args := [d1, d2, d3, d4] }
  | _ => none }
def RackPlaysWrongFalsely : Prop := rackPlaysRow.holds Try.pinned (OpenSpec.ofChange rackPlaysWrong)

/-- 'postilionlaw03.RackOwn': WHATEVER THE INPUT: true; the input reads as it did. -/
def rackOwnSpec : ChangeSpec := { name := "rackOwn", fn := fun _ => fun
  | [d1, d2, d3] => { results := [.lit (.bool true)], args := [d1, d2, d3] }
  | _ => none }
def rackOwnRow : OpenClaim := { program := "ytnlckandbgpncaa", sum := "bb06bd06a90ad0f200f1cb170df1531ae083b0c900a365bd2203d5c4201f46a7", func := "postilion/postilionlaw03.RackOwn", spec := "rackOwn", inPlace := ["slices.overlaps[int]"], unfollowed := true, recurses := true, apart := false }
def RackOwnSaid : Prop := rackOwnRow.holds Try.pinned (OpenSpec.ofChange rackOwnSpec)

/-- ITS FALSE NEIGHBOUR: 'it returns false'. Refute it at one input. -/
def rackOwnWrong : ChangeSpec := { name := "rackOwn", fn := fun _ => fun
  | [d1, d2, d3] => { results := [.lit (.bool false)], args := [d1, d2, d3] }
  | _ => none }
def RackOwnWrongFalsely : Prop := rackOwnRow.holds Try.pinned (OpenSpec.ofChange rackOwnWrong)

/- THE SECOND FORM. 'bulk': how many values and letters a reading holds, each counted each time it is reached (what is shared counts as often as it is met; a slice's spare places count too). A statement '..UptoSaid' is the law's where the arguments, and the package variables that the reading takes, are together of bulk at most 1048576: NARROWER than '..Said'. Prove '..Said' where nothing that the law and all that it calls make is longer than what came in: it says more and counts as full. Else prove '..UptoSaid'. A law counts once. -/
mutual
def uptoBulk {H : Type} : DataW H → Nat
  | .lit (.string bytes) => bytes.length + 1
  | .lit _ => 1
  | .nil => 1
  | .ptr d => uptoBulk d + 1
  | .slice elems spare => uptoBulkAll elems + uptoBulkAll spare + 1
  | .agg parts => uptoBulkAll parts + 1
  | .iface _ d => uptoBulk d + 1
  | .map entries => uptoBulkEntries entries + 1
  | .held _ => 1
def uptoBulkAll {H : Type} : List (DataW H) → Nat
  | [] => 0
  | d :: r => uptoBulk d + uptoBulkAll r
def uptoBulkEntries {H : Type} : List (Lit × DataW H) → Nat
  | [] => 0
  | x :: r => uptoBulkEntry x + uptoBulkEntries r
def uptoBulkEntry {H : Type} : Lit × DataW H → Nat
  | (.string bytes, d) => bytes.length + uptoBulk d + 1
  | (_, d) => uptoBulk d + 1
 end
def uptoSmall : (H : Type) → List (DataW H) → Bool := fun _ ds => decide (uptoBulkAll ds ≤ 1048576)
def OpenSpec.upto (s : _root_.Go.ChangeSpec) : _root_.Go.OpenSpec := { _root_.Go.OpenSpec.ofChange s with cond := some uptoSmall }

/-- 'postilionlaw03.RackTwice', WHERE WHAT IT READS IS OF BULK AT MOST 1048576: true; the input reads as it did. -/
def rackTwiceUptoRow : OpenClaim := { program := "ytnlckandbgpncaa", sum := "bb06bd06a90ad0f200f1cb170df1531ae083b0c900a365bd2203d5c4201f46a7", func := "postilion/postilionlaw03.RackTwice", spec := "rackTwice", inPlace := ["slices.overlaps[int]"], unfollowed := true, recurses := true, apart := false, narrowed := true }
def RackTwiceUptoSaid : Prop := rackTwiceUptoRow.holds Try.pinned (OpenSpec.upto rackTwiceSpec)

/-- 'postilionlaw03.RackNil', WHERE WHAT IT READS IS OF BULK AT MOST 1048576: true; the input reads as it did. -/
def rackNilUptoRow : OpenClaim := { program := "ytnlckandbgpncaa", sum := "bb06bd06a90ad0f200f1cb170df1531ae083b0c900a365bd2203d5c4201f46a7", func := "postilion/postilionlaw03.RackNil", spec := "rackNil", inPlace := ["slices.overlaps[int]"], unfollowed := true, recurses := true, apart := false, narrowed := true }
def RackNilUptoSaid : Prop := rackNilUptoRow.holds Try.pinned (OpenSpec.upto rackNilSpec)

/-- 'postilionlaw03.RackPlays', WHERE WHAT IT READS IS OF BULK AT MOST 1048576: true; the input reads as it did. -/
def rackPlaysUptoRow : OpenClaim := { program := "ytnlckandbgpncaa", sum := "bb06bd06a90ad0f200f1cb170df1531ae083b0c900a365bd2203d5c4201f46a7", func := "postilion/postilionlaw03.RackPlays", spec := "rackPlays", inPlace := ["slices.overlaps[int]"], unfollowed := true, recurses := true, apart := false, narrowed := true }
def RackPlaysUptoSaid : Prop := rackPlaysUptoRow.holds Try.pinned (OpenSpec.upto rackPlaysSpec)

/-- 'postilionlaw03.RackOwn', WHERE WHAT IT READS IS OF BULK AT MOST 1048576: true; the input reads as it did. -/
def rackOwnUptoRow : OpenClaim := { program := "ytnlckandbgpncaa", sum := "bb06bd06a90ad0f200f1cb170df1531ae083b0c900a365bd2203d5c4201f46a7", func := "postilion/postilionlaw03.RackOwn", spec := "rackOwn", inPlace := ["slices.overlaps[int]"], unfollowed := true, recurses := true, apart := false, narrowed := true }
def RackOwnUptoSaid : Prop := rackOwnUptoRow.holds Try.pinned (OpenSpec.upto rackOwnSpec)

end Rows
end Go.Proofs.Ytnlckandbgpncaa
