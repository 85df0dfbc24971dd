/-
  No cell of these rows narrows 'for every input' (looked for: loops, veiled, ifaces, maps, wideKeys, modest, calm, conditions, laid).
  DERIVED. THE GIVEN ROWS OF THIS SEAT. 5 by the template 'for every input the law returns true; each argument reads behind the call as it read before'; 0 by the template 'total and deterministic' (their statements: YtghfhgjgdkkkpaaTotals.lean).
  GIVEN WITH THE SEED: the statements are not yours to turn. If you find one false, say at which input.
  Laid BY PROGRAM, IN A SANDBOX (cutbox-rows.mjs): the forced cells as the released guide's own fill.sh prints them over the translation 3f4d09e740ceae4f… (all of the seat's roots in one cut). By AI agents, Wed Nov 11 2026. No macro, syntax, notation, axiom, sorry.
-/
import Derived.Test.YtghfhgjgdkkkpaaChecked
import GoSem.Claim
import GoSem.ClaimJoined
import GoSem.ClaimMapViews
import Derived.JoinedTies
import Derived.KernelRfl
namespace Go.Proofs.Ytghfhgjgdkkkpaa
/- THE CELL 'sum', in the pinned program and in every row, IS THE sha256 OF THE DUMP (.gsa) THAT YtghfhgjgdkkkpaaProg.lean LOADS. Nothing in Lean hashes anything: it is a label: what it is worth is what the hold of that sum in a sandbox is worth. -/
noncomputable def Try.pinned : Pinned := { name := "ytghfhgjgdkkkpaa", sum := "3f4d09e740ceae4f77d716646593543c879b22f548bd7bad19a515a2b4dbe9c0", checked := Try.checked }
namespace Rows
def none {H : Type} : Left H := { results := [], args := [] }

/-- 'postilionlaw11.HealthNil': WHATEVER THE INPUT: true; the input reads as it did. -/
def healthNilSpec : ChangeSpec := { name := "healthNil", fn := fun _ => fun
  | [d1, d2, d3] => { results := [.lit (.bool true)], args := [d1, d2, d3] }
  | _ => none }
def healthNilRow : OpenClaim := { program := "ytghfhgjgdkkkpaa", sum := "3f4d09e740ceae4f77d716646593543c879b22f548bd7bad19a515a2b4dbe9c0", func := "postilion/postilionlaw11.HealthNil", spec := "healthNil", inPlace := ["slices.overlaps[postilion/probe.row]"], unfollowed := true, recurses := true, apart := false }
def HealthNilSaid : Prop := healthNilRow.holds Try.pinned (OpenSpec.ofChange healthNilSpec)

/-- ITS FALSE NEIGHBOUR: 'it returns false'. Refute it at one input. -/
def healthNilWrong : ChangeSpec := { name := "healthNil", fn := fun _ => fun
  | [d1, d2, d3] => { results := [.lit (.bool false)], args := [d1, d2, d3] }
  | _ => none }
def HealthNilWrongFalsely : Prop := healthNilRow.holds Try.pinned (OpenSpec.ofChange healthNilWrong)

/-- 'postilionlaw11.HealthKept': WHATEVER THE INPUT: true; the input reads as it did. -/
def healthKeptSpec : ChangeSpec := { name := "healthKept", fn := fun _ => fun
  | [d1, d2, d3, d4] => { results := [.lit (.bool true)], args := [d1, d2, d3, d4] }
  | _ => none }
def healthKeptRow : OpenClaim := { program := "ytghfhgjgdkkkpaa", sum := "3f4d09e740ceae4f77d716646593543c879b22f548bd7bad19a515a2b4dbe9c0", func := "postilion/postilionlaw11.HealthKept", spec := "healthKept", inPlace := ["slices.overlaps[postilion/probe.row]"], unfollowed := true, recurses := true, apart := false }
def HealthKeptSaid : Prop := healthKeptRow.holds Try.pinned (OpenSpec.ofChange healthKeptSpec)

/-- ITS FALSE NEIGHBOUR: 'it returns false'. Refute it at one input. -/
def healthKeptWrong : ChangeSpec := { name := "healthKept", fn := fun _ => fun
  | [d1, d2, d3, d4] => { results := [.lit (.bool false)], args := [d1, d2, d3, d4] }
  | _ => none }
def HealthKeptWrongFalsely : Prop := healthKeptRow.holds Try.pinned (OpenSpec.ofChange healthKeptWrong)

/-- 'postilionlaw11.HealthPlays': WHATEVER THE INPUT: true; the input reads as it did. -/
def healthPlaysSpec : ChangeSpec := { name := "healthPlays", fn := fun _ => fun
  | [d1, d2] => { results := [.lit (.bool true)], args := [d1, d2] }
  | _ => none }
def healthPlaysRow : OpenClaim := { program := "ytghfhgjgdkkkpaa", sum := "3f4d09e740ceae4f77d716646593543c879b22f548bd7bad19a515a2b4dbe9c0", func := "postilion/postilionlaw11.HealthPlays", spec := "healthPlays", inPlace := ["slices.overlaps[postilion/probe.row]"], unfollowed := true, recurses := true, apart := false }
def HealthPlaysSaid : Prop := healthPlaysRow.holds Try.pinned (OpenSpec.ofChange healthPlaysSpec)

/-- ITS FALSE NEIGHBOUR: 'it returns false'. Refute it at one input. -/
def healthPlaysWrong : ChangeSpec := { name := "healthPlays", fn := fun _ => fun
  | [d1, d2] => { results := [.lit (.bool false)], args := [d1, d2] }
  | _ => none }
def HealthPlaysWrongFalsely : Prop := healthPlaysRow.holds Try.pinned (OpenSpec.ofChange healthPlaysWrong)

/-- 'postilionlaw11.HealthShut': WHATEVER THE INPUT: true; the input reads as it did. -/
def healthShutSpec : ChangeSpec := { name := "healthShut", fn := fun _ => fun
  | [d1, d2, d3, d4] => { results := [.lit (.bool true)], args := [d1, d2, d3, d4] }
  | _ => none }
def healthShutRow : OpenClaim := { program := "ytghfhgjgdkkkpaa", sum := "3f4d09e740ceae4f77d716646593543c879b22f548bd7bad19a515a2b4dbe9c0", func := "postilion/postilionlaw11.HealthShut", spec := "healthShut", inPlace := ["slices.overlaps[postilion/probe.row]"], unfollowed := true, recurses := true, apart := false }
def HealthShutSaid : Prop := healthShutRow.holds Try.pinned (OpenSpec.ofChange healthShutSpec)

/-- ITS FALSE NEIGHBOUR: 'it returns false'. Refute it at one input. -/
def healthShutWrong : ChangeSpec := { name := "healthShut", fn := fun _ => fun
  | [d1, d2, d3, d4] => { results := [.lit (.bool false)], args := [d1, d2, d3, d4] }
  | _ => none }
def HealthShutWrongFalsely : Prop := healthShutRow.holds Try.pinned (OpenSpec.ofChange healthShutWrong)

/-- 'postilionlaw11.HealthOwn': WHATEVER THE INPUT: true; the input reads as it did. -/
def healthOwnSpec : ChangeSpec := { name := "healthOwn", fn := fun _ => fun
  | [d1, d2, d3] => { results := [.lit (.bool true)], args := [d1, d2, d3] }
  | _ => none }
def healthOwnRow : OpenClaim := { program := "ytghfhgjgdkkkpaa", sum := "3f4d09e740ceae4f77d716646593543c879b22f548bd7bad19a515a2b4dbe9c0", func := "postilion/postilionlaw11.HealthOwn", spec := "healthOwn", inPlace := ["slices.overlaps[postilion/probe.row]"], unfollowed := true, recurses := true, apart := false }
def HealthOwnSaid : Prop := healthOwnRow.holds Try.pinned (OpenSpec.ofChange healthOwnSpec)

/-- ITS FALSE NEIGHBOUR: 'it returns false'. Refute it at one input. -/
def healthOwnWrong : ChangeSpec := { name := "healthOwn", fn := fun _ => fun
  | [d1, d2, d3] => { results := [.lit (.bool false)], args := [d1, d2, d3] }
  | _ => none }
def HealthOwnWrongFalsely : Prop := healthOwnRow.holds Try.pinned (OpenSpec.ofChange healthOwnWrong)

/- THE SECOND FORM. 'bulk': how many values and letters a reading holds, each counted each time it is reached (what is shared counts as often as it is met; a slice's spare places count too). A statement '..UptoSaid' is the law's where the arguments, and the package variables that the reading takes, are together of bulk at most 1048576: NARROWER than '..Said'. Prove '..Said' where nothing that the law and all that it calls make is longer than what came in: it says more and counts as full. Else prove '..UptoSaid'. A law counts once. -/
mutual
def uptoBulk {H : Type} : DataW H → Nat
  | .lit (.string bytes) => bytes.length + 1
  | .lit _ => 1
  | .nil => 1
  | .ptr d => uptoBulk d + 1
  | .slice elems spare => uptoBulkAll elems + uptoBulkAll spare + 1
  | .agg parts => uptoBulkAll parts + 1
  | .iface _ d => uptoBulk d + 1
  | .map entries => uptoBulkEntries entries + 1
  | .held _ => 1
def uptoBulkAll {H : Type} : List (DataW H) → Nat
  | [] => 0
  | d :: r => uptoBulk d + uptoBulkAll r
def uptoBulkEntries {H : Type} : List (Lit × DataW H) → Nat
  | [] => 0
  | x :: r => uptoBulkEntry x + uptoBulkEntries r
def uptoBulkEntry {H : Type} : Lit × DataW H → Nat
  | (.string bytes, d) => bytes.length + uptoBulk d + 1
  | (_, d) => uptoBulk d + 1
 end
def uptoSmall : (H : Type) → List (DataW H) → Bool := fun _ ds => decide (uptoBulkAll ds ≤ 1048576)
def OpenSpec.upto (s : _root_.Go.ChangeSpec) : _root_.Go.OpenSpec := { _root_.Go.OpenSpec.ofChange s with cond := some uptoSmall }

/-- 'postilionlaw11.HealthNil', WHERE WHAT IT READS IS OF BULK AT MOST 1048576: true; the input reads as it did. -/
def healthNilUptoRow : OpenClaim := { program := "ytghfhgjgdkkkpaa", sum := "3f4d09e740ceae4f77d716646593543c879b22f548bd7bad19a515a2b4dbe9c0", func := "postilion/postilionlaw11.HealthNil", spec := "healthNil", inPlace := ["slices.overlaps[postilion/probe.row]"], unfollowed := true, recurses := true, apart := false, narrowed := true }
def HealthNilUptoSaid : Prop := healthNilUptoRow.holds Try.pinned (OpenSpec.upto healthNilSpec)

/-- 'postilionlaw11.HealthKept', WHERE WHAT IT READS IS OF BULK AT MOST 1048576: true; the input reads as it did. -/
def healthKeptUptoRow : OpenClaim := { program := "ytghfhgjgdkkkpaa", sum := "3f4d09e740ceae4f77d716646593543c879b22f548bd7bad19a515a2b4dbe9c0", func := "postilion/postilionlaw11.HealthKept", spec := "healthKept", inPlace := ["slices.overlaps[postilion/probe.row]"], unfollowed := true, recurses := true, apart := false, narrowed := true }
def HealthKeptUptoSaid : Prop := healthKeptUptoRow.holds Try.pinned (OpenSpec.upto healthKeptSpec)

/-- 'postilionlaw11.HealthPlays', WHERE WHAT IT READS IS OF BULK AT MOST 1048576: true; the input reads as it did. -/
def healthPlaysUptoRow : OpenClaim := { program := "ytghfhgjgdkkkpaa", sum := "3f4d09e740ceae4f77d716646593543c879b22f548bd7bad19a515a2b4dbe9c0", func := "postilion/postilionlaw11.HealthPlays", spec := "healthPlays", inPlace := ["slices.overlaps[postilion/probe.row]"], unfollowed := true, recurses := true, apart := false, narrowed := true }
def HealthPlaysUptoSaid : Prop := healthPlaysUptoRow.holds Try.pinned (OpenSpec.upto healthPlaysSpec)

/-- 'postilionlaw11.HealthShut', WHERE WHAT IT READS IS OF BULK AT MOST 1048576: true; the input reads as it did. -/
def healthShutUptoRow : OpenClaim := { program := "ytghfhgjgdkkkpaa", sum := "3f4d09e740ceae4f77d716646593543c879b22f548bd7bad19a515a2b4dbe9c0", func := "postilion/postilionlaw11.HealthShut", spec := "healthShut", inPlace := ["slices.overlaps[postilion/probe.row]"], unfollowed := true, recurses := true, apart := false, narrowed := true }
def HealthShutUptoSaid : Prop := healthShutUptoRow.holds Try.pinned (OpenSpec.upto healthShutSpec)

/-- 'postilionlaw11.HealthOwn', WHERE WHAT IT READS IS OF BULK AT MOST 1048576: true; the input reads as it did. -/
def healthOwnUptoRow : OpenClaim := { program := "ytghfhgjgdkkkpaa", sum := "3f4d09e740ceae4f77d716646593543c879b22f548bd7bad19a515a2b4dbe9c0", func := "postilion/postilionlaw11.HealthOwn", spec := "healthOwn", inPlace := ["slices.overlaps[postilion/probe.row]"], unfollowed := true, recurses := true, apart := false, narrowed := true }
def HealthOwnUptoSaid : Prop := healthOwnUptoRow.holds Try.pinned (OpenSpec.upto healthOwnSpec)

end Rows
end Go.Proofs.Ytghfhgjgdkkkpaa
