/-
  No cell of these rows narrows 'for every input' (looked for: loops, veiled, ifaces, maps, wideKeys, modest, calm, conditions, laid).
  DERIVED. THE GIVEN ROWS OF THIS SEAT. 5 by the template 'for every input the law returns true; each argument reads behind the call as it read before'; 0 by the template 'total and deterministic' (their statements: YtnlggkihjfobkaaTotals.lean).
  GIVEN WITH THE SEED: the statements are not yours to turn. If you find one false, say at which input.
  Laid BY PROGRAM, IN A SANDBOX (cutbox-rows.mjs): the forced cells as the released guide's own fill.sh prints them over the translation 66afe3b6579fdf70… (all of the seat's roots in one cut). By AI agents, Wed Nov 11 2026. No macro, syntax, notation, axiom, sorry.
-/
import Derived.Test.YtnlggkihjfobkaaChecked
import GoSem.Claim
import GoSem.ClaimJoined
import GoSem.ClaimMapViews
import Derived.JoinedTies
import Derived.KernelRfl
namespace Go.Proofs.Ytnlggkihjfobkaa
/- THE CELL 'sum', in the pinned program and in every row, IS THE sha256 OF THE DUMP (.gsa) THAT YtnlggkihjfobkaaProg.lean LOADS. Nothing in Lean hashes anything: it is a label: what it is worth is what the hold of that sum in a sandbox is worth. -/
noncomputable def Try.pinned : Pinned := { name := "ytnlggkihjfobkaa", sum := "66afe3b6579fdf70c1db23f74a713ef702b3ec89f70dac4f4065981f2adcbc63", checked := Try.checked }
namespace Rows
def none {H : Type} : Left H := { results := [], args := [] }

/-- 'postilionlaw05.SextetEncodes': WHATEVER THE INPUT: true; the input reads as it did. -/
def sextetEncodesSpec : ChangeSpec := { name := "sextetEncodes", fn := fun _ => fun
  | [d1, d2] => { results := [.lit (.bool true)], args := [d1, d2] }
  | _ => none }
def sextetEncodesRow : OpenClaim := { program := "ytnlggkihjfobkaa", sum := "66afe3b6579fdf70c1db23f74a713ef702b3ec89f70dac4f4065981f2adcbc63", func := "postilion/postilionlaw05.SextetEncodes", spec := "sextetEncodes", inPlace := ["internal/abi.NoEscape", "internal/bytealg.MakeNoZero"], unfollowed := true, recurses := true, apart := false }
def SextetEncodesSaid : Prop := sextetEncodesRow.holds Try.pinned (OpenSpec.ofChange sextetEncodesSpec)

/-- ITS FALSE NEIGHBOUR: 'it returns false'. Refute it at one input. -/
def sextetEncodesWrong : ChangeSpec := { name := "sextetEncodes", fn := fun _ => fun
  | [d1, d2] => { results := [.lit (.bool false)], args := [d1, d2] }
  | _ => none }
def SextetEncodesWrongFalsely : Prop := sextetEncodesRow.holds Try.pinned (OpenSpec.ofChange sextetEncodesWrong)

/-- 'postilionlaw05.SextetDecodes': WHATEVER THE INPUT: true; the input reads as it did. -/
def sextetDecodesSpec : ChangeSpec := { name := "sextetDecodes", fn := fun _ => fun
  | [d] => { results := [.lit (.bool true)], args := [d] }
  | _ => none }
def sextetDecodesRow : OpenClaim := { program := "ytnlggkihjfobkaa", sum := "66afe3b6579fdf70c1db23f74a713ef702b3ec89f70dac4f4065981f2adcbc63", func := "postilion/postilionlaw05.SextetDecodes", spec := "sextetDecodes", inPlace := ["internal/bytealg.IndexByteString", "internal/abi.NoEscape", "internal/bytealg.MakeNoZero"], unfollowed := true, recurses := true, apart := false }
def SextetDecodesSaid : Prop := sextetDecodesRow.holds Try.pinned (OpenSpec.ofChange sextetDecodesSpec)

/-- ITS FALSE NEIGHBOUR: 'it returns false'. Refute it at one input. -/
def sextetDecodesWrong : ChangeSpec := { name := "sextetDecodes", fn := fun _ => fun
  | [d] => { results := [.lit (.bool false)], args := [d] }
  | _ => none }
def SextetDecodesWrongFalsely : Prop := sextetDecodesRow.holds Try.pinned (OpenSpec.ofChange sextetDecodesWrong)

/-- 'postilionlaw05.SextetBack': WHATEVER THE INPUT: true; the input reads as it did. -/
def sextetBackSpec : ChangeSpec := { name := "sextetBack", fn := fun _ => fun
  | [d1, d2] => { results := [.lit (.bool true)], args := [d1, d2] }
  | _ => none }
def sextetBackRow : OpenClaim := { program := "ytnlggkihjfobkaa", sum := "66afe3b6579fdf70c1db23f74a713ef702b3ec89f70dac4f4065981f2adcbc63", func := "postilion/postilionlaw05.SextetBack", spec := "sextetBack", inPlace := ["internal/abi.NoEscape", "internal/bytealg.MakeNoZero", "internal/bytealg.IndexByteString"], unfollowed := true, recurses := true, apart := false }
def SextetBackSaid : Prop := sextetBackRow.holds Try.pinned (OpenSpec.ofChange sextetBackSpec)

/-- ITS FALSE NEIGHBOUR: 'it returns false'. Refute it at one input. -/
def sextetBackWrong : ChangeSpec := { name := "sextetBack", fn := fun _ => fun
  | [d1, d2] => { results := [.lit (.bool false)], args := [d1, d2] }
  | _ => none }
def SextetBackWrongFalsely : Prop := sextetBackRow.holds Try.pinned (OpenSpec.ofChange sextetBackWrong)

/-- 'postilionlaw05.SextetJoined': WHATEVER THE INPUT: true; the input reads as it did. -/
def sextetJoinedSpec : ChangeSpec := { name := "sextetJoined", fn := fun _ => fun
  | [d1, d2] => { results := [.lit (.bool true)], args := [d1, d2] }
  | _ => none }
def sextetJoinedRow : OpenClaim := { program := "ytnlggkihjfobkaa", sum := "66afe3b6579fdf70c1db23f74a713ef702b3ec89f70dac4f4065981f2adcbc63", func := "postilion/postilionlaw05.SextetJoined", spec := "sextetJoined", inPlace := ["internal/abi.NoEscape", "internal/bytealg.MakeNoZero", "internal/bytealg.IndexByteString"], unfollowed := true, recurses := true, apart := false }
def SextetJoinedSaid : Prop := sextetJoinedRow.holds Try.pinned (OpenSpec.ofChange sextetJoinedSpec)

/-- ITS FALSE NEIGHBOUR: 'it returns false'. Refute it at one input. -/
def sextetJoinedWrong : ChangeSpec := { name := "sextetJoined", fn := fun _ => fun
  | [d1, d2] => { results := [.lit (.bool false)], args := [d1, d2] }
  | _ => none }
def SextetJoinedWrongFalsely : Prop := sextetJoinedRow.holds Try.pinned (OpenSpec.ofChange sextetJoinedWrong)

/-- 'postilionlaw05.SextetOne': WHATEVER THE INPUT: true; the input reads as it did. -/
def sextetOneSpec : ChangeSpec := { name := "sextetOne", fn := fun _ => fun
  | [d1, d2, d3] => { results := [.lit (.bool true)], args := [d1, d2, d3] }
  | _ => none }
def sextetOneRow : OpenClaim := { program := "ytnlggkihjfobkaa", sum := "66afe3b6579fdf70c1db23f74a713ef702b3ec89f70dac4f4065981f2adcbc63", func := "postilion/postilionlaw05.SextetOne", spec := "sextetOne", inPlace := ["internal/abi.NoEscape", "internal/bytealg.MakeNoZero", "internal/bytealg.IndexByteString"], unfollowed := true, recurses := true, apart := false }
def SextetOneSaid : Prop := sextetOneRow.holds Try.pinned (OpenSpec.ofChange sextetOneSpec)

/-- ITS FALSE NEIGHBOUR: 'it returns false'. Refute it at one input. -/
def sextetOneWrong : ChangeSpec := { name := "sextetOne", fn := fun _ => fun
  | [d1, d2, d3] => { results := [.lit (.bool false)], args := [d1, d2, d3] }
  | _ => none }
def SextetOneWrongFalsely : Prop := sextetOneRow.holds Try.pinned (OpenSpec.ofChange sextetOneWrong)

/- THE SECOND FORM. 'bulk': how many values and letters a reading holds, each counted each time it is reached (what is shared counts as often as it is met; a slice's spare places count too). A statement '..UptoSaid' is the law's where the arguments, and the package variables that the reading takes, are together of bulk at most 1048576: NARROWER than '..Said'. Prove '..Said' where nothing that the law and all that it calls make is longer than what came in: it says more and counts as full. Else prove '..UptoSaid'. A law counts once. -/
mutual
def uptoBulk {H : Type} : DataW H → Nat
  | .lit (.string bytes) => bytes.length + 1
  | .lit _ => 1
  | .nil => 1
  | .ptr d => uptoBulk d + 1
  | .slice elems spare => uptoBulkAll elems + uptoBulkAll spare + 1
  | .agg parts => uptoBulkAll parts + 1
  | .iface _ d => uptoBulk d + 1
  | .map entries => uptoBulkEntries entries + 1
  | .held _ => 1
def uptoBulkAll {H : Type} : List (DataW H) → Nat
  | [] => 0
  | d :: r => uptoBulk d + uptoBulkAll r
def uptoBulkEntries {H : Type} : List (Lit × DataW H) → Nat
  | [] => 0
  | x :: r => uptoBulkEntry x + uptoBulkEntries r
def uptoBulkEntry {H : Type} : Lit × DataW H → Nat
  | (.string bytes, d) => bytes.length + uptoBulk d + 1
  | (_, d) => uptoBulk d + 1
 end
def uptoSmall : (H : Type) → List (DataW H) → Bool := fun _ ds => decide (uptoBulkAll ds ≤ 1048576)
def OpenSpec.upto (s : _root_.Go.ChangeSpec) : _root_.Go.OpenSpec := { _root_.Go.OpenSpec.ofChange s with cond := some uptoSmall }

/-- 'postilionlaw05.SextetEncodes', WHERE WHAT IT READS IS OF BULK AT MOST 1048576: true; the input reads as it did. -/
def sextetEncodesUptoRow : OpenClaim := { program := "ytnlggkihjfobkaa", sum := "66afe3b6579fdf70c1db23f74a713ef702b3ec89f70dac4f4065981f2adcbc63", func := "postilion/postilionlaw05.SextetEncodes", spec := "sextetEncodes", inPlace := ["internal/abi.NoEscape", "internal/bytealg.MakeNoZero"], unfollowed := true, recurses := true, apart := false, narrowed := true }
def SextetEncodesUptoSaid : Prop := sextetEncodesUptoRow.holds Try.pinned (OpenSpec.upto sextetEncodesSpec)

/-- 'postilionlaw05.SextetDecodes', WHERE WHAT IT READS IS OF BULK AT MOST 1048576: true; the input reads as it did. -/
def sextetDecodesUptoRow : OpenClaim := { program := "ytnlggkihjfobkaa", sum := "66afe3b6579fdf70c1db23f74a713ef702b3ec89f70dac4f4065981f2adcbc63", func := "postilion/postilionlaw05.SextetDecodes", spec := "sextetDecodes", inPlace := ["internal/bytealg.IndexByteString", "internal/abi.NoEscape", "internal/bytealg.MakeNoZero"], unfollowed := true, recurses := true, apart := false, narrowed := true }
def SextetDecodesUptoSaid : Prop := sextetDecodesUptoRow.holds Try.pinned (OpenSpec.upto sextetDecodesSpec)

/-- 'postilionlaw05.SextetBack', WHERE WHAT IT READS IS OF BULK AT MOST 1048576: true; the input reads as it did. -/
def sextetBackUptoRow : OpenClaim := { program := "ytnlggkihjfobkaa", sum := "66afe3b6579fdf70c1db23f74a713ef702b3ec89f70dac4f4065981f2adcbc63", func := "postilion/postilionlaw05.SextetBack", spec := "sextetBack", inPlace := ["internal/abi.NoEscape", "internal/bytealg.MakeNoZero", "internal/bytealg.IndexByteString"], unfollowed := true, recurses := true, apart := false, narrowed := true }
def SextetBackUptoSaid : Prop := sextetBackUptoRow.holds Try.pinned (OpenSpec.upto sextetBackSpec)

/-- 'postilionlaw05.SextetJoined', WHERE WHAT IT READS IS OF BULK AT MOST 1048576: true; the input reads as it did. -/
def sextetJoinedUptoRow : OpenClaim := { program := "ytnlggkihjfobkaa", sum := "66afe3b6579fdf70c1db23f74a713ef702b3ec89f70dac4f4065981f2adcbc63", func := "postilion/postilionlaw05.SextetJoined", spec := "sextetJoined", inPlace := ["internal/abi.NoEscape", "internal/bytealg.MakeNoZero", "internal/bytealg.IndexByteString"], unfollowed := true, recurses := true, apart := false, narrowed := true }
def SextetJoinedUptoSaid : Prop := sextetJoinedUptoRow.holds Try.pinned (OpenSpec.upto sextetJoinedSpec)

/-- 'postilionlaw05.SextetOne', WHERE WHAT IT READS IS OF BULK AT MOST 1048576: true; the input reads as it did. -/
def sextetOneUptoRow : OpenClaim := { program := "ytnlggkihjfobkaa", sum := "66afe3b6579fdf70c1db23f74a713ef702b3ec89f70dac4f4065981f2adcbc63", func := "postilion/postilionlaw05.SextetOne", spec := "sextetOne", inPlace := ["internal/abi.NoEscape", "internal/bytealg.MakeNoZero", "internal/bytealg.IndexByteString"], unfollowed := true, recurses := true, apart := false, narrowed := true }
def SextetOneUptoSaid : Prop := sextetOneUptoRow.holds Try.pinned (OpenSpec.upto sextetOneSpec)

end Rows
end Go.Proofs.Ytnlggkihjfobkaa
