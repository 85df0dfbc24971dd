/-
  No cell of these rows narrows 'for every input' (looked for: loops, veiled, ifaces, maps, wideKeys, modest, calm, conditions, laid).
  DERIVED. THE GIVEN ROWS OF THIS SEAT. 4 by the template 'for every input the law returns true; each argument reads behind the call as it read before'; 0 by the template 'total and deterministic' (their statements: YtlhjninbkngamaaTotals.lean).
  GIVEN WITH THE SEED: the statements are not yours to turn. If you find one false, say at which input.
  Laid BY PROGRAM, IN A SANDBOX (cutbox-rows.mjs): the forced cells as the released guide's own fill.sh prints them over the translation 8b122a6c95c29863… (all of the seat's roots in one cut). By AI agents, Wed Nov 11 2026. No macro, syntax, notation, axiom, sorry.
-/
import Derived.Test.YtlhjninbkngamaaChecked
import GoSem.Claim
import GoSem.ClaimJoined
import GoSem.ClaimMapViews
import Derived.JoinedTies
import Derived.KernelRfl
namespace Go.Proofs.Ytlhjninbkngamaa
/- THE CELL 'sum', in the pinned program and in every row, IS THE sha256 OF THE DUMP (.gsa) THAT YtlhjninbkngamaaProg.lean LOADS. Nothing in Lean hashes anything: it is a label: what it is worth is what the hold of that sum in a sandbox is worth. -/
noncomputable def Try.pinned : Pinned := { name := "ytlhjninbkngamaa", sum := "8b122a6c95c298639f58077c741bcf03797c87a386f62ae72b558c462ee80bfe", checked := Try.checked }
namespace Rows
def none {H : Type} : Left H := { results := [], args := [] }

/-- 'postilionlaw13.UserpassPrints': WHATEVER THE INPUT: true; the input reads as it did. -/
def userpassPrintsSpec : ChangeSpec := { name := "userpassPrints", fn := fun _ => fun
  | [d1, d2, d3] => { results := [.lit (.bool true)], args := [d1, d2, d3] }
  | _ => none }
def userpassPrintsRow : OpenClaim := { program := "ytlhjninbkngamaa", sum := "8b122a6c95c298639f58077c741bcf03797c87a386f62ae72b558c462ee80bfe", func := "postilion/postilionlaw13.UserpassPrints", spec := "userpassPrints", apart := false }
def UserpassPrintsSaid : Prop := userpassPrintsRow.holds Try.pinned (OpenSpec.ofChange userpassPrintsSpec)

/-- ITS FALSE NEIGHBOUR: 'it returns false'. Refute it at one input. -/
def userpassPrintsWrong : ChangeSpec := { name := "userpassPrints", fn := fun _ => fun
  | [d1, d2, d3] => { results := [.lit (.bool false)], args := [d1, d2, d3] }
  | _ => none }
def UserpassPrintsWrongFalsely : Prop := userpassPrintsRow.holds Try.pinned (OpenSpec.ofChange userpassPrintsWrong)

/-- 'postilionlaw13.UserpassTakes': WHATEVER THE INPUT: true; the input reads as it did. -/
def userpassTakesSpec : ChangeSpec := { name := "userpassTakes", fn := fun _ => fun
  | [d] => { results := [.lit (.bool true)], args := [d] }
  | _ => none }
def userpassTakesRow : OpenClaim := { program := "ytlhjninbkngamaa", sum := "8b122a6c95c298639f58077c741bcf03797c87a386f62ae72b558c462ee80bfe", func := "postilion/postilionlaw13.UserpassTakes", spec := "userpassTakes", unfollowed := true, recurses := true, apart := false }
def UserpassTakesSaid : Prop := userpassTakesRow.holds Try.pinned (OpenSpec.ofChange userpassTakesSpec)

/-- ITS FALSE NEIGHBOUR: 'it returns false'. Refute it at one input. -/
def userpassTakesWrong : ChangeSpec := { name := "userpassTakes", fn := fun _ => fun
  | [d] => { results := [.lit (.bool false)], args := [d] }
  | _ => none }
def UserpassTakesWrongFalsely : Prop := userpassTakesRow.holds Try.pinned (OpenSpec.ofChange userpassTakesWrong)

/-- 'postilionlaw13.UserpassBack': WHATEVER THE INPUT: true; the input reads as it did. -/
def userpassBackSpec : ChangeSpec := { name := "userpassBack", fn := fun _ => fun
  | [d1, d2, d3] => { results := [.lit (.bool true)], args := [d1, d2, d3] }
  | _ => none }
def userpassBackRow : OpenClaim := { program := "ytlhjninbkngamaa", sum := "8b122a6c95c298639f58077c741bcf03797c87a386f62ae72b558c462ee80bfe", func := "postilion/postilionlaw13.UserpassBack", spec := "userpassBack", unfollowed := true, recurses := true, apart := false }
def UserpassBackSaid : Prop := userpassBackRow.holds Try.pinned (OpenSpec.ofChange userpassBackSpec)

/-- ITS FALSE NEIGHBOUR: 'it returns false'. Refute it at one input. -/
def userpassBackWrong : ChangeSpec := { name := "userpassBack", fn := fun _ => fun
  | [d1, d2, d3] => { results := [.lit (.bool false)], args := [d1, d2, d3] }
  | _ => none }
def UserpassBackWrongFalsely : Prop := userpassBackRow.holds Try.pinned (OpenSpec.ofChange userpassBackWrong)

/-- 'postilionlaw13.UserpassOnce': WHATEVER THE INPUT: true; the input reads as it did. -/
def userpassOnceSpec : ChangeSpec := { name := "userpassOnce", fn := fun _ => fun
  | [d1, d2] => { results := [.lit (.bool true)], args := [d1, d2] }
  | _ => none }
def userpassOnceRow : OpenClaim := { program := "ytlhjninbkngamaa", sum := "8b122a6c95c298639f58077c741bcf03797c87a386f62ae72b558c462ee80bfe", func := "postilion/postilionlaw13.UserpassOnce", spec := "userpassOnce", unfollowed := true, recurses := true, apart := false }
def UserpassOnceSaid : Prop := userpassOnceRow.holds Try.pinned (OpenSpec.ofChange userpassOnceSpec)

/-- ITS FALSE NEIGHBOUR: 'it returns false'. Refute it at one input. -/
def userpassOnceWrong : ChangeSpec := { name := "userpassOnce", fn := fun _ => fun
  | [d1, d2] => { results := [.lit (.bool false)], args := [d1, d2] }
  | _ => none }
def UserpassOnceWrongFalsely : Prop := userpassOnceRow.holds Try.pinned (OpenSpec.ofChange userpassOnceWrong)

/- THE SECOND FORM. 'bulk': how many values and letters a reading holds, each counted each time it is reached (what is shared counts as often as it is met; a slice's spare places count too). A statement '..UptoSaid' is the law's where the arguments, and the package variables that the reading takes, are together of bulk at most 1048576: NARROWER than '..Said'. Prove '..Said' where nothing that the law and all that it calls make is longer than what came in: it says more and counts as full. Else prove '..UptoSaid'. A law counts once. -/
mutual
def uptoBulk {H : Type} : DataW H → Nat
  | .lit (.string bytes) => bytes.length + 1
  | .lit _ => 1
  | .nil => 1
  | .ptr d => uptoBulk d + 1
  | .slice elems spare => uptoBulkAll elems + uptoBulkAll spare + 1
  | .agg parts => uptoBulkAll parts + 1
  | .iface _ d => uptoBulk d + 1
  | .map entries => uptoBulkEntries entries + 1
  | .held _ => 1
def uptoBulkAll {H : Type} : List (DataW H) → Nat
  | [] => 0
  | d :: r => uptoBulk d + uptoBulkAll r
def uptoBulkEntries {H : Type} : List (Lit × DataW H) → Nat
  | [] => 0
  | x :: r => uptoBulkEntry x + uptoBulkEntries r
def uptoBulkEntry {H : Type} : Lit × DataW H → Nat
  | (.string bytes, d) => bytes.length + uptoBulk d + 1
  | (_, d) => uptoBulk d + 1
 end
def uptoSmall : (H : Type) → List (DataW H) → Bool := fun _ ds => decide (uptoBulkAll ds ≤ 1048576)
def OpenSpec.upto (s : _root_.Go.ChangeSpec) : _root_.Go.OpenSpec := { _root_.Go.OpenSpec.ofChange s with cond := some uptoSmall }

/-- 'postilionlaw13.UserpassPrints', WHERE WHAT IT READS IS OF BULK AT MOST 1048576: true; the input reads as it did. -/
def userpassPrintsUptoRow : OpenClaim := { program := "ytlhjninbkngamaa", sum := "8b122a6c95c298639f58077c741bcf03797c87a386f62ae72b558c462ee80bfe", func := "postilion/postilionlaw13.UserpassPrints", spec := "userpassPrints", apart := false, narrowed := true }
def UserpassPrintsUptoSaid : Prop := userpassPrintsUptoRow.holds Try.pinned (OpenSpec.upto userpassPrintsSpec)

/-- 'postilionlaw13.UserpassTakes', WHERE WHAT IT READS IS OF BULK AT MOST 1048576: true; the input reads as it did. -/
def userpassTakesUptoRow : OpenClaim := { program := "ytlhjninbkngamaa", sum := "8b122a6c95c298639f58077c741bcf03797c87a386f62ae72b558c462ee80bfe", func := "postilion/postilionlaw13.UserpassTakes", spec := "userpassTakes", unfollowed := true, recurses := true, apart := false, narrowed := true }
def UserpassTakesUptoSaid : Prop := userpassTakesUptoRow.holds Try.pinned (OpenSpec.upto userpassTakesSpec)

/-- 'postilionlaw13.UserpassBack', WHERE WHAT IT READS IS OF BULK AT MOST 1048576: true; the input reads as it did. -/
def userpassBackUptoRow : OpenClaim := { program := "ytlhjninbkngamaa", sum := "8b122a6c95c298639f58077c741bcf03797c87a386f62ae72b558c462ee80bfe", func := "postilion/postilionlaw13.UserpassBack", spec := "userpassBack", unfollowed := true, recurses := true, apart := false, narrowed := true }
def UserpassBackUptoSaid : Prop := userpassBackUptoRow.holds Try.pinned (OpenSpec.upto userpassBackSpec)

/-- 'postilionlaw13.UserpassOnce', WHERE WHAT IT READS IS OF BULK AT MOST 1048576: true; the input reads as it did. -/
def userpassOnceUptoRow : OpenClaim := { program := "ytlhjninbkngamaa", sum := "8b122a6c95c298639f58077c741bcf03797c87a386f62ae72b558c462ee80bfe", func := "postilion/postilionlaw13.UserpassOnce", spec := "userpassOnce", unfollowed := true, recurses := true, apart := false, narrowed := true }
def UserpassOnceUptoSaid : Prop := userpassOnceUptoRow.holds Try.pinned (OpenSpec.upto userpassOnceSpec)

end Rows
end Go.Proofs.Ytlhjninbkngamaa
