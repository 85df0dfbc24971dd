/-
  No cell of these rows narrows 'for every input' (looked for: loops, veiled, ifaces, maps, wideKeys, modest, calm, conditions, laid).
  DERIVED. THE GIVEN ROWS OF THIS SEAT. 4 by the template 'for every input the law returns true; each argument reads behind the call as it read before'; 0 by the template 'total and deterministic' (their statements: YtihjjafblfpbbaaTotals.lean).
  GIVEN WITH THE SEED: the statements are not yours to turn. If you find one false, say at which input.
  Laid BY PROGRAM, IN A SANDBOX (cutbox-rows.mjs): the forced cells as the released guide's own fill.sh prints them over the translation a8b7aa9b9ceadd72… (all of the seat's roots in one cut). By AI agents, Wed Nov 11 2026. No macro, syntax, notation, axiom, sorry.
-/
import Derived.Test.YtihjjafblfpbbaaChecked
import GoSem.Claim
import GoSem.ClaimJoined
import GoSem.ClaimMapViews
import Derived.JoinedTies
import Derived.KernelRfl
namespace Go.Proofs.Ytihjjafblfpbbaa
/- THE CELL 'sum', in the pinned program and in every row, IS THE sha256 OF THE DUMP (.gsa) THAT YtihjjafblfpbbaaProg.lean LOADS. Nothing in Lean hashes anything: it is a label: what it is worth is what the hold of that sum in a sandbox is worth. -/
noncomputable def Try.pinned : Pinned := { name := "ytihjjafblfpbbaa", sum := "a8b7aa9b9ceadd7299e7677c611f9a42f695251ee2e11a2c7776d052ccc53db9", checked := Try.checked }
namespace Rows
def none {H : Type} : Left H := { results := [], args := [] }

/-- 'postilionlaw09.BreakerTells': WHATEVER THE INPUT: true; the input reads as it did. -/
def breakerTellsSpec : ChangeSpec := { name := "breakerTells", fn := fun _ => fun
  | [d1, d2] => { results := [.lit (.bool true)], args := [d1, d2] }
  | _ => none }
def breakerTellsRow : OpenClaim := { program := "ytihjjafblfpbbaa", sum := "a8b7aa9b9ceadd7299e7677c611f9a42f695251ee2e11a2c7776d052ccc53db9", func := "postilion/postilionlaw09.BreakerTells", spec := "breakerTells", apart := false }
def BreakerTellsSaid : Prop := breakerTellsRow.holds Try.pinned (OpenSpec.ofChange breakerTellsSpec)

/-- ITS FALSE NEIGHBOUR: 'it returns false'. Refute it at one input. -/
def breakerTellsWrong : ChangeSpec := { name := "breakerTells", fn := fun _ => fun
  | [d1, d2] => { results := [.lit (.bool false)], args := [d1, d2] }
  | _ => none }
def BreakerTellsWrongFalsely : Prop := breakerTellsRow.holds Try.pinned (OpenSpec.ofChange breakerTellsWrong)

/-- 'postilionlaw09.BreakerNotes': WHATEVER THE INPUT: true; the input reads as it did. -/
def breakerNotesSpec : ChangeSpec := { name := "breakerNotes", fn := fun _ => fun
  | [d1, d2, d3, d4, d5] => { results := [.lit (.bool true)], args := [d1, d2, d3, d4, d5] }
  | _ => none }
def breakerNotesRow : OpenClaim := { program := "ytihjjafblfpbbaa", sum := "a8b7aa9b9ceadd7299e7677c611f9a42f695251ee2e11a2c7776d052ccc53db9", func := "postilion/postilionlaw09.BreakerNotes", spec := "breakerNotes", apart := false }
def BreakerNotesSaid : Prop := breakerNotesRow.holds Try.pinned (OpenSpec.ofChange breakerNotesSpec)

/-- ITS FALSE NEIGHBOUR: 'it returns false'. Refute it at one input. -/
def breakerNotesWrong : ChangeSpec := { name := "breakerNotes", fn := fun _ => fun
  | [d1, d2, d3, d4, d5] => { results := [.lit (.bool false)], args := [d1, d2, d3, d4, d5] }
  | _ => none }
def BreakerNotesWrongFalsely : Prop := breakerNotesRow.holds Try.pinned (OpenSpec.ofChange breakerNotesWrong)

/-- 'postilionlaw09.BreakerLonger': WHATEVER THE INPUT: true; the input reads as it did. -/
def breakerLongerSpec : ChangeSpec := { name := "breakerLonger", fn := fun _ => fun
  | [d1, d2] => { results := [.lit (.bool true)], args := [d1, d2] }
  | _ => none }
def breakerLongerRow : OpenClaim := { program := "ytihjjafblfpbbaa", sum := "a8b7aa9b9ceadd7299e7677c611f9a42f695251ee2e11a2c7776d052ccc53db9", func := "postilion/postilionlaw09.BreakerLonger", spec := "breakerLonger", apart := false }
def BreakerLongerSaid : Prop := breakerLongerRow.holds Try.pinned (OpenSpec.ofChange breakerLongerSpec)

/-- ITS FALSE NEIGHBOUR: 'it returns false'. Refute it at one input. -/
def breakerLongerWrong : ChangeSpec := { name := "breakerLonger", fn := fun _ => fun
  | [d1, d2] => { results := [.lit (.bool false)], args := [d1, d2] }
  | _ => none }
def BreakerLongerWrongFalsely : Prop := breakerLongerRow.holds Try.pinned (OpenSpec.ofChange breakerLongerWrong)

/-- 'postilionlaw09.BreakerOne': WHATEVER THE INPUT: true; the input reads as it did. -/
def breakerOneSpec : ChangeSpec := { name := "breakerOne", fn := fun _ => fun
  | [d1, d2] => { results := [.lit (.bool true)], args := [d1, d2] }
  | _ => none }
def breakerOneRow : OpenClaim := { program := "ytihjjafblfpbbaa", sum := "a8b7aa9b9ceadd7299e7677c611f9a42f695251ee2e11a2c7776d052ccc53db9", func := "postilion/postilionlaw09.BreakerOne", spec := "breakerOne", apart := false }
def BreakerOneSaid : Prop := breakerOneRow.holds Try.pinned (OpenSpec.ofChange breakerOneSpec)

/-- ITS FALSE NEIGHBOUR: 'it returns false'. Refute it at one input. -/
def breakerOneWrong : ChangeSpec := { name := "breakerOne", fn := fun _ => fun
  | [d1, d2] => { results := [.lit (.bool false)], args := [d1, d2] }
  | _ => none }
def BreakerOneWrongFalsely : Prop := breakerOneRow.holds Try.pinned (OpenSpec.ofChange breakerOneWrong)

/- THE SECOND FORM. 'bulk': how many values and letters a reading holds, each counted each time it is reached (what is shared counts as often as it is met; a slice's spare places count too). A statement '..UptoSaid' is the law's where the arguments, and the package variables that the reading takes, are together of bulk at most 1048576: NARROWER than '..Said'. Prove '..Said' where nothing that the law and all that it calls make is longer than what came in: it says more and counts as full. Else prove '..UptoSaid'. A law counts once. -/
mutual
def uptoBulk {H : Type} : DataW H → Nat
  | .lit (.string bytes) => bytes.length + 1
  | .lit _ => 1
  | .nil => 1
  | .ptr d => uptoBulk d + 1
  | .slice elems spare => uptoBulkAll elems + uptoBulkAll spare + 1
  | .agg parts => uptoBulkAll parts + 1
  | .iface _ d => uptoBulk d + 1
  | .map entries => uptoBulkEntries entries + 1
  | .held _ => 1
def uptoBulkAll {H : Type} : List (DataW H) → Nat
  | [] => 0
  | d :: r => uptoBulk d + uptoBulkAll r
def uptoBulkEntries {H : Type} : List (Lit × DataW H) → Nat
  | [] => 0
  | x :: r => uptoBulkEntry x + uptoBulkEntries r
def uptoBulkEntry {H : Type} : Lit × DataW H → Nat
  | (.string bytes, d) => bytes.length + uptoBulk d + 1
  | (_, d) => uptoBulk d + 1
 end
def uptoSmall : (H : Type) → List (DataW H) → Bool := fun _ ds => decide (uptoBulkAll ds ≤ 1048576)
def OpenSpec.upto (s : _root_.Go.ChangeSpec) : _root_.Go.OpenSpec := { _root_.Go.OpenSpec.ofChange s with cond := some uptoSmall }

/-- 'postilionlaw09.BreakerTells', WHERE WHAT IT READS IS OF BULK AT MOST 1048576: true; the input reads as it did. -/
def breakerTellsUptoRow : OpenClaim := { program := "ytihjjafblfpbbaa", sum := "a8b7aa9b9ceadd7299e7677c611f9a42f695251ee2e11a2c7776d052ccc53db9", func := "postilion/postilionlaw09.BreakerTells", spec := "breakerTells", apart := false, narrowed := true }
def BreakerTellsUptoSaid : Prop := breakerTellsUptoRow.holds Try.pinned (OpenSpec.upto breakerTellsSpec)

/-- 'postilionlaw09.BreakerNotes', WHERE WHAT IT READS IS OF BULK AT MOST 1048576: true; the input reads as it did. -/
def breakerNotesUptoRow : OpenClaim := { program := "ytihjjafblfpbbaa", sum := "a8b7aa9b9ceadd7299e7677c611f9a42f695251ee2e11a2c7776d052ccc53db9", func := "postilion/postilionlaw09.BreakerNotes", spec := "breakerNotes", apart := false, narrowed := true }
def BreakerNotesUptoSaid : Prop := breakerNotesUptoRow.holds Try.pinned (OpenSpec.upto breakerNotesSpec)

/-- 'postilionlaw09.BreakerLonger', WHERE WHAT IT READS IS OF BULK AT MOST 1048576: true; the input reads as it did. -/
def breakerLongerUptoRow : OpenClaim := { program := "ytihjjafblfpbbaa", sum := "a8b7aa9b9ceadd7299e7677c611f9a42f695251ee2e11a2c7776d052ccc53db9", func := "postilion/postilionlaw09.BreakerLonger", spec := "breakerLonger", apart := false, narrowed := true }
def BreakerLongerUptoSaid : Prop := breakerLongerUptoRow.holds Try.pinned (OpenSpec.upto breakerLongerSpec)

/-- 'postilionlaw09.BreakerOne', WHERE WHAT IT READS IS OF BULK AT MOST 1048576: true; the input reads as it did. -/
def breakerOneUptoRow : OpenClaim := { program := "ytihjjafblfpbbaa", sum := "a8b7aa9b9ceadd7299e7677c611f9a42f695251ee2e11a2c7776d052ccc53db9", func := "postilion/postilionlaw09.BreakerOne", spec := "breakerOne", apart := false, narrowed := true }
def BreakerOneUptoSaid : Prop := breakerOneUptoRow.holds Try.pinned (OpenSpec.upto breakerOneSpec)

end Rows
end Go.Proofs.Ytihjjafblfpbbaa
