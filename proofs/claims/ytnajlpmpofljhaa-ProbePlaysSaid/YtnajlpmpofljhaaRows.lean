/-
  No cell of these rows narrows 'for every input' (looked for: loops, veiled, ifaces, maps, wideKeys, modest, calm, conditions, laid).
  DERIVED. THE GIVEN ROWS OF THIS SEAT. 4 by the template 'for every input the law returns true; each argument reads behind the call as it read before'; 0 by the template 'total and deterministic' (their statements: YtnajlpmpofljhaaTotals.lean).
  GIVEN WITH THE SEED: the statements are not yours to turn. If you find one false, say at which input.
  Laid BY PROGRAM, IN A SANDBOX (cutbox-rows.mjs): the forced cells as the released guide's own fill.sh prints them over the translation 0217b3ef13216f64… (all of the seat's roots in one cut). By AI agents, Wed Nov 11 2026. No macro, syntax, notation, axiom, sorry.
-/
import Derived.Test.YtnajlpmpofljhaaChecked
import GoSem.Claim
import GoSem.ClaimJoined
import GoSem.ClaimMapViews
import Derived.JoinedTies
import Derived.KernelRfl
namespace Go.Proofs.Ytnajlpmpofljhaa
/- THE CELL 'sum', in the pinned program and in every row, IS THE sha256 OF THE DUMP (.gsa) THAT YtnajlpmpofljhaaProg.lean LOADS. Nothing in Lean hashes anything: it is a label: what it is worth is what the hold of that sum in a sandbox is worth. -/
noncomputable def Try.pinned : Pinned := { name := "ytnajlpmpofljhaa", sum := "0217b3ef13216f647fbcb94326cc293346be16f69e263c3b16fac2cf54cc1f49", checked := Try.checked }
namespace Rows
def none {H : Type} : Left H := { results := [], args := [] }

/-- 'postilionlaw10.ProbeOften': WHATEVER THE INPUT: true; the input reads as it did. -/
def probeOftenSpec : ChangeSpec := { name := "probeOften", fn := fun _ => fun
  | [d1, d2, d3, d4] => { results := [.lit (.bool true)], args := [d1, d2, d3, d4] }
  | _ => none }
def probeOftenRow : OpenClaim := { program := "ytnajlpmpofljhaa", sum := "0217b3ef13216f647fbcb94326cc293346be16f69e263c3b16fac2cf54cc1f49", func := "postilion/postilionlaw10.ProbeOften", spec := "probeOften", inPlace := ["slices.overlaps[postilion/probe.row]"], unfollowed := true, recurses := true, apart := false }
def ProbeOftenSaid : Prop := probeOftenRow.holds Try.pinned (OpenSpec.ofChange probeOftenSpec)

/-- ITS FALSE NEIGHBOUR: 'it returns false'. Refute it at one input. -/
def probeOftenWrong : ChangeSpec := { name := "probeOften", fn := fun _ => fun
  | [d1, d2, d3, d4] => { results := [.lit (.bool false)], args := [d1, d2, d3, d4] }
  | _ => none }
def ProbeOftenWrongFalsely : Prop := probeOftenRow.holds Try.pinned (OpenSpec.ofChange probeOftenWrong)

/-- 'postilionlaw10.ProbeApart': WHATEVER THE INPUT: true; the input reads as it did. -/
def probeApartSpec : ChangeSpec := { name := "probeApart", fn := fun _ => fun
  | [d1, d2, d3, d4, d5] => { results := [.lit (.bool true)], args := [d1, d2, d3, d4, d5] }
  | _ => none }
def probeApartRow : OpenClaim := { program := "ytnajlpmpofljhaa", sum := "0217b3ef13216f647fbcb94326cc293346be16f69e263c3b16fac2cf54cc1f49", func := "postilion/postilionlaw10.ProbeApart", spec := "probeApart", inPlace := ["slices.overlaps[postilion/probe.row]"], unfollowed := true, recurses := true, apart := false }
def ProbeApartSaid : Prop := probeApartRow.holds Try.pinned (OpenSpec.ofChange probeApartSpec)

/-- ITS FALSE NEIGHBOUR: 'it returns false'. Refute it at one input. -/
def probeApartWrong : ChangeSpec := { name := "probeApart", fn := fun _ => fun
  | [d1, d2, d3, d4, d5] => { results := [.lit (.bool false)], args := [d1, d2, d3, d4, d5] }
  | _ => none }
def ProbeApartWrongFalsely : Prop := probeApartRow.holds Try.pinned (OpenSpec.ofChange probeApartWrong)

/-- 'postilionlaw10.ProbeNil': WHATEVER THE INPUT: true; the input reads as it did. -/
def probeNilSpec : ChangeSpec := { name := "probeNil", fn := fun _ => fun
  | [d1, d2] => { results := [.lit (.bool true)], args := [d1, d2] }
  | _ => none }
def probeNilRow : OpenClaim := { program := "ytnajlpmpofljhaa", sum := "0217b3ef13216f647fbcb94326cc293346be16f69e263c3b16fac2cf54cc1f49", func := "postilion/postilionlaw10.ProbeNil", spec := "probeNil", inPlace := ["slices.overlaps[postilion/probe.row]"], unfollowed := true, recurses := true, apart := false }
def ProbeNilSaid : Prop := probeNilRow.holds Try.pinned (OpenSpec.ofChange probeNilSpec)

/-- ITS FALSE NEIGHBOUR: 'it returns false'. Refute it at one input. -/
def probeNilWrong : ChangeSpec := { name := "probeNil", fn := fun _ => fun
  | [d1, d2] => { results := [.lit (.bool false)], args := [d1, d2] }
  | _ => none }
def ProbeNilWrongFalsely : Prop := probeNilRow.holds Try.pinned (OpenSpec.ofChange probeNilWrong)

/-- 'postilionlaw10.ProbePlays': WHATEVER THE INPUT: true; the input reads as it did. -/
def probePlaysSpec : ChangeSpec := { name := "probePlays", fn := fun _ => fun
  | [d1, d2] => { results := [.lit (.bool true)], args := [d1, d2] }
  | _ => none }
def probePlaysRow : OpenClaim := { program := "ytnajlpmpofljhaa", sum := "0217b3ef13216f647fbcb94326cc293346be16f69e263c3b16fac2cf54cc1f49", func := "postilion/postilionlaw10.ProbePlays", spec := "probePlays", inPlace := ["slices.overlaps[postilion/probe.row]"], unfollowed := true, recurses := true, apart := false }
def ProbePlaysSaid : Prop := probePlaysRow.holds Try.pinned (OpenSpec.ofChange probePlaysSpec)

/-- ITS FALSE NEIGHBOUR: 'it returns false'. Refute it at one input. -/
def probePlaysWrong : ChangeSpec := { name := "probePlays", fn := fun _ => fun
  | [d1, d2] => { results := [.lit (.bool false)], args := [d1, d2] }
  | _ => none }
def ProbePlaysWrongFalsely : Prop := probePlaysRow.holds Try.pinned (OpenSpec.ofChange probePlaysWrong)

/- THE SECOND FORM. 'bulk': how many values and letters a reading holds, each counted each time it is reached (what is shared counts as often as it is met; a slice's spare places count too). A statement '..UptoSaid' is the law's where the arguments, and the package variables that the reading takes, are together of bulk at most 1048576: NARROWER than '..Said'. Prove '..Said' where nothing that the law and all that it calls make is longer than what came in: it says more and counts as full. Else prove '..UptoSaid'. A law counts once. -/
mutual
def uptoBulk {H : Type} : DataW H → Nat
  | .lit (.string bytes) => bytes.length + 1
  | .lit _ => 1
  | .nil => 1
  | .ptr d => uptoBulk d + 1
  | .slice elems spare => uptoBulkAll elems + uptoBulkAll spare + 1
  | .agg parts => uptoBulkAll parts + 1
  | .iface _ d => uptoBulk d + 1
  | .map entries => uptoBulkEntries entries + 1
  | .held _ => 1
def uptoBulkAll {H : Type} : List (DataW H) → Nat
  | [] => 0
  | d :: r => uptoBulk d + uptoBulkAll r
def uptoBulkEntries {H : Type} : List (Lit × DataW H) → Nat
  | [] => 0
  | x :: r => uptoBulkEntry x + uptoBulkEntries r
def uptoBulkEntry {H : Type} : Lit × DataW H → Nat
  | (.string bytes, d) => bytes.length + uptoBulk d + 1
  | (_, d) => uptoBulk d + 1
 end
def uptoSmall : (H : Type) → List (DataW H) → Bool := fun _ ds => decide (uptoBulkAll ds ≤ 1048576)
def OpenSpec.upto (s : _root_.Go.ChangeSpec) : _root_.Go.OpenSpec := { _root_.Go.OpenSpec.ofChange s with cond := some uptoSmall }

/-- 'postilionlaw10.ProbeOften', WHERE WHAT IT READS IS OF BULK AT MOST 1048576: true; the input reads as it did. -/
def probeOftenUptoRow : OpenClaim := { program := "ytnajlpmpofljhaa", sum := "0217b3ef13216f647fbcb94326cc293346be16f69e263c3b16fac2cf54cc1f49", func := "postilion/postilionlaw10.ProbeOften", spec := "probeOften", inPlace := ["slices.overlaps[postilion/probe.row]"], unfollowed := true, recurses := true, apart := false, narrowed := true }
def ProbeOftenUptoSaid : Prop := probeOftenUptoRow.holds Try.pinned (OpenSpec.upto probeOftenSpec)

/-- 'postilionlaw10.ProbeApart', WHERE WHAT IT READS IS OF BULK AT MOST 1048576: true; the input reads as it did. -/
def probeApartUptoRow : OpenClaim := { program := "ytnajlpmpofljhaa", sum := "0217b3ef13216f647fbcb94326cc293346be16f69e263c3b16fac2cf54cc1f49", func := "postilion/postilionlaw10.ProbeApart", spec := "probeApart", inPlace := ["slices.overlaps[postilion/probe.row]"], unfollowed := true, recurses := true, apart := false, narrowed := true }
def ProbeApartUptoSaid : Prop := probeApartUptoRow.holds Try.pinned (OpenSpec.upto probeApartSpec)

/-- 'postilionlaw10.ProbeNil', WHERE WHAT IT READS IS OF BULK AT MOST 1048576: true; the input reads as it did. -/
def probeNilUptoRow : OpenClaim := { program := "ytnajlpmpofljhaa", sum := "0217b3ef13216f647fbcb94326cc293346be16f69e263c3b16fac2cf54cc1f49", func := "postilion/postilionlaw10.ProbeNil", spec := "probeNil", inPlace := ["slices.overlaps[postilion/probe.row]"], unfollowed := true, recurses := true, apart := false, narrowed := true }
def ProbeNilUptoSaid : Prop := probeNilUptoRow.holds Try.pinned (OpenSpec.upto probeNilSpec)

/-- 'postilionlaw10.ProbePlays', WHERE WHAT IT READS IS OF BULK AT MOST 1048576: true; the input reads as it did. -/
def probePlaysUptoRow : OpenClaim := { program := "ytnajlpmpofljhaa", sum := "0217b3ef13216f647fbcb94326cc293346be16f69e263c3b16fac2cf54cc1f49", func := "postilion/postilionlaw10.ProbePlays", spec := "probePlays", inPlace := ["slices.overlaps[postilion/probe.row]"], unfollowed := true, recurses := true, apart := false, narrowed := true }
def ProbePlaysUptoSaid : Prop := probePlaysUptoRow.holds Try.pinned (OpenSpec.upto probePlaysSpec)

end Rows
end Go.Proofs.Ytnajlpmpofljhaa
