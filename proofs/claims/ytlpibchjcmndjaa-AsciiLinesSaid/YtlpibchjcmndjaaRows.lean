/-
  No cell of these rows narrows 'for every input' (looked for: loops, veiled, ifaces, maps, wideKeys, modest, calm, conditions, laid).
  DERIVED. THE GIVEN ROWS OF THIS SEAT. 5 by the template 'for every input the law returns true; each argument reads behind the call as it read before'; 0 by the template 'total and deterministic' (their statements: YtlpibchjcmndjaaTotals.lean).
  GIVEN WITH THE SEED: the statements are not yours to turn. If you find one false, say at which input.
  Laid BY PROGRAM, IN A SANDBOX (cutbox-rows.mjs): the forced cells as the released guide's own fill.sh prints them over the translation 6601b1461fe7951c… (all of the seat's roots in one cut). By AI agents, Wed Nov 11 2026. No macro, syntax, notation, axiom, sorry.
-/
import Derived.Test.YtlpibchjcmndjaaChecked
import GoSem.Claim
import GoSem.ClaimJoined
import GoSem.ClaimMapViews
import Derived.JoinedTies
import Derived.KernelRfl
namespace Go.Proofs.Ytlpibchjcmndjaa
/- THE CELL 'sum', in the pinned program and in every row, IS THE sha256 OF THE DUMP (.gsa) THAT YtlpibchjcmndjaaProg.lean LOADS. Nothing in Lean hashes anything: it is a label: what it is worth is what the hold of that sum in a sandbox is worth. -/
noncomputable def Try.pinned : Pinned := { name := "ytlpibchjcmndjaa", sum := "6601b1461fe7951c5f9af56fde6e67d2cd0409db4327320bb61a078223b9036f", checked := Try.checked }
namespace Rows
def none {H : Type} : Left H := { results := [], args := [] }

/-- 'postilionlaw02.AsciiWords': WHATEVER THE INPUT: true; the input reads as it did. -/
def asciiWordsSpec : ChangeSpec := { name := "asciiWords", fn := fun _ => fun
  | [d1, d2] => { results := [.lit (.bool true)], args := [d1, d2] }
  | _ => none }
def asciiWordsRow : OpenClaim := { program := "ytlpibchjcmndjaa", sum := "6601b1461fe7951c5f9af56fde6e67d2cd0409db4327320bb61a078223b9036f", func := "postilion/postilionlaw02.AsciiWords", spec := "asciiWords", unfollowed := true, recurses := true, apart := false }
def AsciiWordsSaid : Prop := asciiWordsRow.holds Try.pinned (OpenSpec.ofChange asciiWordsSpec)

/-- ITS FALSE NEIGHBOUR: 'it returns false'. Refute it at one input. -/
def asciiWordsWrong : ChangeSpec := { name := "asciiWords", fn := fun _ => fun
  | [d1, d2] => { results := [.lit (.bool false)], args := [d1, d2] }
  | _ => none }
def AsciiWordsWrongFalsely : Prop := asciiWordsRow.holds Try.pinned (OpenSpec.ofChange asciiWordsWrong)

/-- 'postilionlaw02.AsciiNil': WHATEVER THE INPUT: true; the input reads as it did. -/
def asciiNilSpec : ChangeSpec := { name := "asciiNil", fn := fun _ => fun
  | [d] => { results := [.lit (.bool true)], args := [d] }
  | _ => none }
def asciiNilRow : OpenClaim := { program := "ytlpibchjcmndjaa", sum := "6601b1461fe7951c5f9af56fde6e67d2cd0409db4327320bb61a078223b9036f", func := "postilion/postilionlaw02.AsciiNil", spec := "asciiNil", inPlace := ["internal/bytealg.IndexByte", "internal/bytealg.Index"], unfollowed := true, recurses := true, named := ["internal/bytealg.MaxLen"], apart := false }
def AsciiNilSaid : Prop := asciiNilRow.holds Try.pinned (OpenSpec.ofChange asciiNilSpec)

/-- ITS FALSE NEIGHBOUR: 'it returns false'. Refute it at one input. -/
def asciiNilWrong : ChangeSpec := { name := "asciiNil", fn := fun _ => fun
  | [d] => { results := [.lit (.bool false)], args := [d] }
  | _ => none }
def AsciiNilWrongFalsely : Prop := asciiNilRow.holds Try.pinned (OpenSpec.ofChange asciiNilWrong)

/-- 'postilionlaw02.AsciiReads': WHATEVER THE INPUT: true; the input reads as it did. -/
def asciiReadsSpec : ChangeSpec := { name := "asciiReads", fn := fun _ => fun
  | [d1, d2] => { results := [.lit (.bool true)], args := [d1, d2] }
  | _ => none }
def asciiReadsRow : OpenClaim := { program := "ytlpibchjcmndjaa", sum := "6601b1461fe7951c5f9af56fde6e67d2cd0409db4327320bb61a078223b9036f", func := "postilion/postilionlaw02.AsciiReads", spec := "asciiReads", inPlace := ["internal/bytealg.IndexByte", "internal/bytealg.Index"], unfollowed := true, recurses := true, named := ["internal/bytealg.MaxLen"], apart := false }
def AsciiReadsSaid : Prop := asciiReadsRow.holds Try.pinned (OpenSpec.ofChange asciiReadsSpec)

/-- ITS FALSE NEIGHBOUR: 'it returns false'. Refute it at one input. -/
def asciiReadsWrong : ChangeSpec := { name := "asciiReads", fn := fun _ => fun
  | [d1, d2] => { results := [.lit (.bool false)], args := [d1, d2] }
  | _ => none }
def AsciiReadsWrongFalsely : Prop := asciiReadsRow.holds Try.pinned (OpenSpec.ofChange asciiReadsWrong)

/-- 'postilionlaw02.AsciiLines': WHATEVER THE INPUT: true; the input reads as it did. -/
def asciiLinesSpec : ChangeSpec := { name := "asciiLines", fn := fun _ => fun
  | [d1, d2] => { results := [.lit (.bool true)], args := [d1, d2] }
  | _ => none }
def asciiLinesRow : OpenClaim := { program := "ytlpibchjcmndjaa", sum := "6601b1461fe7951c5f9af56fde6e67d2cd0409db4327320bb61a078223b9036f", func := "postilion/postilionlaw02.AsciiLines", spec := "asciiLines", inPlace := ["internal/bytealg.IndexByte", "internal/bytealg.Index"], unfollowed := true, recurses := true, named := ["internal/bytealg.MaxLen"], apart := false }
def AsciiLinesSaid : Prop := asciiLinesRow.holds Try.pinned (OpenSpec.ofChange asciiLinesSpec)

/-- ITS FALSE NEIGHBOUR: 'it returns false'. Refute it at one input. -/
def asciiLinesWrong : ChangeSpec := { name := "asciiLines", fn := fun _ => fun
  | [d1, d2] => { results := [.lit (.bool false)], args := [d1, d2] }
  | _ => none }
def AsciiLinesWrongFalsely : Prop := asciiLinesRow.holds Try.pinned (OpenSpec.ofChange asciiLinesWrong)

/-- 'postilionlaw02.AsciiCases': WHATEVER THE INPUT: true; the input reads as it did. -/
def asciiCasesSpec : ChangeSpec := { name := "asciiCases", fn := fun _ => fun
  | [d] => { results := [.lit (.bool true)], args := [d] }
  | _ => none }
def asciiCasesRow : OpenClaim := { program := "ytlpibchjcmndjaa", sum := "6601b1461fe7951c5f9af56fde6e67d2cd0409db4327320bb61a078223b9036f", func := "postilion/postilionlaw02.AsciiCases", spec := "asciiCases", inPlace := ["internal/bytealg.IndexByte", "internal/bytealg.Index"], unfollowed := true, recurses := true, named := ["internal/bytealg.MaxLen"], apart := false }
def AsciiCasesSaid : Prop := asciiCasesRow.holds Try.pinned (OpenSpec.ofChange asciiCasesSpec)

/-- ITS FALSE NEIGHBOUR: 'it returns false'. Refute it at one input. -/
def asciiCasesWrong : ChangeSpec := { name := "asciiCases", fn := fun _ => fun
  | [d] => { results := [.lit (.bool false)], args := [d] }
  | _ => none }
def AsciiCasesWrongFalsely : Prop := asciiCasesRow.holds Try.pinned (OpenSpec.ofChange asciiCasesWrong)

/- THE SECOND FORM. 'bulk': how many values and letters a reading holds, each counted each time it is reached (what is shared counts as often as it is met; a slice's spare places count too). A statement '..UptoSaid' is the law's where the arguments, and the package variables that the reading takes, are together of bulk at most 1048576: NARROWER than '..Said'. Prove '..Said' where nothing that the law and all that it calls make is longer than what came in: it says more and counts as full. Else prove '..UptoSaid'. A law counts once. -/
mutual
def uptoBulk {H : Type} : DataW H → Nat
  | .lit (.string bytes) => bytes.length + 1
  | .lit _ => 1
  | .nil => 1
  | .ptr d => uptoBulk d + 1
  | .slice elems spare => uptoBulkAll elems + uptoBulkAll spare + 1
  | .agg parts => uptoBulkAll parts + 1
  | .iface _ d => uptoBulk d + 1
  | .map entries => uptoBulkEntries entries + 1
  | .held _ => 1
def uptoBulkAll {H : Type} : List (DataW H) → Nat
  | [] => 0
  | d :: r => uptoBulk d + uptoBulkAll r
def uptoBulkEntries {H : Type} : List (Lit × DataW H) → Nat
  | [] => 0
  | x :: r => uptoBulkEntry x + uptoBulkEntries r
def uptoBulkEntry {H : Type} : Lit × DataW H → Nat
  | (.string bytes, d) => bytes.length + uptoBulk d + 1
  | (_, d) => uptoBulk d + 1
 end
def uptoSmall : (H : Type) → List (DataW H) → Bool := fun _ ds => decide (uptoBulkAll ds ≤ 1048576)
def OpenSpec.upto (s : _root_.Go.ChangeSpec) : _root_.Go.OpenSpec := { _root_.Go.OpenSpec.ofChange s with cond := some uptoSmall }

/-- 'postilionlaw02.AsciiWords', WHERE WHAT IT READS IS OF BULK AT MOST 1048576: true; the input reads as it did. -/
def asciiWordsUptoRow : OpenClaim := { program := "ytlpibchjcmndjaa", sum := "6601b1461fe7951c5f9af56fde6e67d2cd0409db4327320bb61a078223b9036f", func := "postilion/postilionlaw02.AsciiWords", spec := "asciiWords", unfollowed := true, recurses := true, apart := false, narrowed := true }
def AsciiWordsUptoSaid : Prop := asciiWordsUptoRow.holds Try.pinned (OpenSpec.upto asciiWordsSpec)

/-- 'postilionlaw02.AsciiNil', WHERE WHAT IT READS IS OF BULK AT MOST 1048576: true; the input reads as it did. -/
def asciiNilUptoRow : OpenClaim := { program := "ytlpibchjcmndjaa", sum := "6601b1461fe7951c5f9af56fde6e67d2cd0409db4327320bb61a078223b9036f", func := "postilion/postilionlaw02.AsciiNil", spec := "asciiNil", inPlace := ["internal/bytealg.IndexByte", "internal/bytealg.Index"], unfollowed := true, recurses := true, named := ["internal/bytealg.MaxLen"], apart := false, narrowed := true }
def AsciiNilUptoSaid : Prop := asciiNilUptoRow.holds Try.pinned (OpenSpec.upto asciiNilSpec)

/-- 'postilionlaw02.AsciiReads', WHERE WHAT IT READS IS OF BULK AT MOST 1048576: true; the input reads as it did. -/
def asciiReadsUptoRow : OpenClaim := { program := "ytlpibchjcmndjaa", sum := "6601b1461fe7951c5f9af56fde6e67d2cd0409db4327320bb61a078223b9036f", func := "postilion/postilionlaw02.AsciiReads", spec := "asciiReads", inPlace := ["internal/bytealg.IndexByte", "internal/bytealg.Index"], unfollowed := true, recurses := true, named := ["internal/bytealg.MaxLen"], apart := false, narrowed := true }
def AsciiReadsUptoSaid : Prop := asciiReadsUptoRow.holds Try.pinned (OpenSpec.upto asciiReadsSpec)

/-- 'postilionlaw02.AsciiLines', WHERE WHAT IT READS IS OF BULK AT MOST 1048576: true; the input reads as it did. -/
def asciiLinesUptoRow : OpenClaim := { program := "ytlpibchjcmndjaa", sum := "6601b1461fe7951c5f9af56fde6e67d2cd0409db4327320bb61a078223b9036f", func := "postilion/postilionlaw02.AsciiLines", spec := "asciiLines", inPlace := ["internal/bytealg.IndexByte", "internal/bytealg.Index"], unfollowed := true, recurses := true, named := ["internal/bytealg.MaxLen"], apart := false, narrowed := true }
def AsciiLinesUptoSaid : Prop := asciiLinesUptoRow.holds Try.pinned (OpenSpec.upto asciiLinesSpec)

/-- 'postilionlaw02.AsciiCases', WHERE WHAT IT READS IS OF BULK AT MOST 1048576: true; the input reads as it did. -/
def asciiCasesUptoRow : OpenClaim := { program := "ytlpibchjcmndjaa", sum := "6601b1461fe7951c5f9af56fde6e67d2cd0409db4327320bb61a078223b9036f", func := "postilion/postilionlaw02.AsciiCases", spec := "asciiCases", inPlace := ["internal/bytealg.IndexByte", "internal/bytealg.Index"], unfollowed := true, recurses := true, named := ["internal/bytealg.MaxLen"], apart := false, narrowed := true }
def AsciiCasesUptoSaid : Prop := asciiCasesUptoRow.holds Try.pinned (OpenSpec.upto asciiCasesSpec)

end Rows
end Go.Proofs.Ytlpibchjcmndjaa
