/-
  No cell of these rows narrows 'for every input' (looked for: loops, veiled, ifaces, maps, wideKeys, modest, calm, conditions, laid).
  DERIVED. THE GIVEN ROWS OF THIS SEAT. 5 by the template 'for every input the law returns true; each argument reads behind the call as it read before'; 0 by the template 'total and deterministic' (their statements: YtgmhbelgeopbdaaTotals.lean).
  GIVEN WITH THE SEED: the statements are not yours to turn. If you find one false, say at which input.
  Laid BY PROGRAM, IN A SANDBOX (cutbox-rows.mjs): the forced cells as the released guide's own fill.sh prints them over the translation 47b01cacd2c4fcdc… (all of the seat's roots in one cut). By AI agents, Wed Nov 11 2026. No macro, syntax, notation, axiom, sorry.
-/
import Derived.Test.YtgmhbelgeopbdaaChecked
import GoSem.Claim
import GoSem.ClaimJoined
import GoSem.ClaimMapViews
import Derived.JoinedTies
import Derived.KernelRfl
namespace Go.Proofs.Ytgmhbelgeopbdaa
/- THE CELL 'sum', in the pinned program and in every row, IS THE sha256 OF THE DUMP (.gsa) THAT YtgmhbelgeopbdaaProg.lean LOADS. Nothing in Lean hashes anything: it is a label: what it is worth is what the hold of that sum in a sandbox is worth. -/
noncomputable def Try.pinned : Pinned := { name := "ytgmhbelgeopbdaa", sum := "47b01cacd2c4fcdc42c9847f30a6b1c3a9db065a7c882941486a2b203a6b5448", checked := Try.checked }
namespace Rows
def none {H : Type} : Left H := { results := [], args := [] }

/-- 'postilionlaw12.GreetHas': WHATEVER THE INPUT: true; the input reads as it did. -/
def greetHasSpec : ChangeSpec := { name := "greetHas", fn := fun _ => fun
  | [d1, d2] => { results := [.lit (.bool true)], args := [d1, d2] }
  | _ => none }
def greetHasRow : OpenClaim := { program := "ytgmhbelgeopbdaa", sum := "47b01cacd2c4fcdc42c9847f30a6b1c3a9db065a7c882941486a2b203a6b5448", func := "postilion/postilionlaw12.GreetHas", spec := "greetHas", inPlace := ["internal/bytealg.IndexByte"], apart := false }
def GreetHasSaid : Prop := greetHasRow.holds Try.pinned (OpenSpec.ofChange greetHasSpec)

/-- ITS FALSE NEIGHBOUR: 'it returns false'. Refute it at one input. -/
def greetHasWrong : ChangeSpec := { name := "greetHas", fn := fun _ => fun
  | [d1, d2] => { results := [.lit (.bool false)], args := [d1, d2] }
  | _ => none }
def GreetHasWrongFalsely : Prop := greetHasRow.holds Try.pinned (OpenSpec.ofChange greetHasWrong)

/-- 'postilionlaw12.GreetTakes': WHATEVER THE INPUT: true; the input reads as it did. -/
def greetTakesSpec : ChangeSpec := { name := "greetTakes", fn := fun _ => fun
  | [d] => { results := [.lit (.bool true)], args := [d] }
  | _ => none }
def greetTakesRow : OpenClaim := { program := "ytgmhbelgeopbdaa", sum := "47b01cacd2c4fcdc42c9847f30a6b1c3a9db065a7c882941486a2b203a6b5448", func := "postilion/postilionlaw12.GreetTakes", spec := "greetTakes", apart := false }
def GreetTakesSaid : Prop := greetTakesRow.holds Try.pinned (OpenSpec.ofChange greetTakesSpec)

/-- ITS FALSE NEIGHBOUR: 'it returns false'. Refute it at one input. -/
def greetTakesWrong : ChangeSpec := { name := "greetTakes", fn := fun _ => fun
  | [d] => { results := [.lit (.bool false)], args := [d] }
  | _ => none }
def GreetTakesWrongFalsely : Prop := greetTakesRow.holds Try.pinned (OpenSpec.ofChange greetTakesWrong)

/-- 'postilionlaw12.GreetOnce': WHATEVER THE INPUT: true; the input reads as it did. -/
def greetOnceSpec : ChangeSpec := { name := "greetOnce", fn := fun _ => fun
  | [d1, d2] => { results := [.lit (.bool true)], args := [d1, d2] }
  | _ => none }
def greetOnceRow : OpenClaim := { program := "ytgmhbelgeopbdaa", sum := "47b01cacd2c4fcdc42c9847f30a6b1c3a9db065a7c882941486a2b203a6b5448", func := "postilion/postilionlaw12.GreetOnce", spec := "greetOnce", inPlace := ["internal/bytealg.IndexByte"], apart := false }
def GreetOnceSaid : Prop := greetOnceRow.holds Try.pinned (OpenSpec.ofChange greetOnceSpec)

/-- ITS FALSE NEIGHBOUR: 'it returns false'. Refute it at one input. -/
def greetOnceWrong : ChangeSpec := { name := "greetOnce", fn := fun _ => fun
  | [d1, d2] => { results := [.lit (.bool false)], args := [d1, d2] }
  | _ => none }
def GreetOnceWrongFalsely : Prop := greetOnceRow.holds Try.pinned (OpenSpec.ofChange greetOnceWrong)

/-- 'postilionlaw12.GreetBack': WHATEVER THE INPUT: true; the input reads as it did. -/
def greetBackSpec : ChangeSpec := { name := "greetBack", fn := fun _ => fun
  | [d1, d2] => { results := [.lit (.bool true)], args := [d1, d2] }
  | _ => none }
def greetBackRow : OpenClaim := { program := "ytgmhbelgeopbdaa", sum := "47b01cacd2c4fcdc42c9847f30a6b1c3a9db065a7c882941486a2b203a6b5448", func := "postilion/postilionlaw12.GreetBack", spec := "greetBack", inPlace := ["internal/bytealg.IndexByte"], apart := false }
def GreetBackSaid : Prop := greetBackRow.holds Try.pinned (OpenSpec.ofChange greetBackSpec)

/-- ITS FALSE NEIGHBOUR: 'it returns false'. Refute it at one input. -/
def greetBackWrong : ChangeSpec := { name := "greetBack", fn := fun _ => fun
  | [d1, d2] => { results := [.lit (.bool false)], args := [d1, d2] }
  | _ => none }
def GreetBackWrongFalsely : Prop := greetBackRow.holds Try.pinned (OpenSpec.ofChange greetBackWrong)

/-- 'postilionlaw12.GreetChoice': WHATEVER THE INPUT: true; the input reads as it did. -/
def greetChoiceSpec : ChangeSpec := { name := "greetChoice", fn := fun _ => fun
  | [d1, d2, d3] => { results := [.lit (.bool true)], args := [d1, d2, d3] }
  | _ => none }
def greetChoiceRow : OpenClaim := { program := "ytgmhbelgeopbdaa", sum := "47b01cacd2c4fcdc42c9847f30a6b1c3a9db065a7c882941486a2b203a6b5448", func := "postilion/postilionlaw12.GreetChoice", spec := "greetChoice", inPlace := ["internal/bytealg.IndexByte"], apart := false }
def GreetChoiceSaid : Prop := greetChoiceRow.holds Try.pinned (OpenSpec.ofChange greetChoiceSpec)

/-- ITS FALSE NEIGHBOUR: 'it returns false'. Refute it at one input. -/
def greetChoiceWrong : ChangeSpec := { name := "greetChoice", fn := fun _ => fun
  | [d1, d2, d3] => { results := [.lit (.bool false)], args := [d1, d2, d3] }
  | _ => none }
def GreetChoiceWrongFalsely : Prop := greetChoiceRow.holds Try.pinned (OpenSpec.ofChange greetChoiceWrong)

/- THE SECOND FORM. 'bulk': how many values and letters a reading holds, each counted each time it is reached (what is shared counts as often as it is met; a slice's spare places count too). A statement '..UptoSaid' is the law's where the arguments, and the package variables that the reading takes, are together of bulk at most 1048576: NARROWER than '..Said'. Prove '..Said' where nothing that the law and all that it calls make is longer than what came in: it says more and counts as full. Else prove '..UptoSaid'. A law counts once. -/
mutual
def uptoBulk {H : Type} : DataW H → Nat
  | .lit (.string bytes) => bytes.length + 1
  | .lit _ => 1
  | .nil => 1
  | .ptr d => uptoBulk d + 1
  | .slice elems spare => uptoBulkAll elems + uptoBulkAll spare + 1
  | .agg parts => uptoBulkAll parts + 1
  | .iface _ d => uptoBulk d + 1
  | .map entries => uptoBulkEntries entries + 1
  | .held _ => 1
def uptoBulkAll {H : Type} : List (DataW H) → Nat
  | [] => 0
  | d :: r => uptoBulk d + uptoBulkAll r
def uptoBulkEntries {H : Type} : List (Lit × DataW H) → Nat
  | [] => 0
  | x :: r => uptoBulkEntry x + uptoBulkEntries r
def uptoBulkEntry {H : Type} : Lit × DataW H → Nat
  | (.string bytes, d) => bytes.length + uptoBulk d + 1
  | (_, d) => uptoBulk d + 1
 end
def uptoSmall : (H : Type) → List (DataW H) → Bool := fun _ ds => decide (uptoBulkAll ds ≤ 1048576)
def OpenSpec.upto (s : _root_.Go.ChangeSpec) : _root_.Go.OpenSpec := { _root_.Go.OpenSpec.ofChange s with cond := some uptoSmall }

/-- 'postilionlaw12.GreetHas', WHERE WHAT IT READS IS OF BULK AT MOST 1048576: true; the input reads as it did. -/
def greetHasUptoRow : OpenClaim := { program := "ytgmhbelgeopbdaa", sum := "47b01cacd2c4fcdc42c9847f30a6b1c3a9db065a7c882941486a2b203a6b5448", func := "postilion/postilionlaw12.GreetHas", spec := "greetHas", inPlace := ["internal/bytealg.IndexByte"], apart := false, narrowed := true }
def GreetHasUptoSaid : Prop := greetHasUptoRow.holds Try.pinned (OpenSpec.upto greetHasSpec)

/-- 'postilionlaw12.GreetTakes', WHERE WHAT IT READS IS OF BULK AT MOST 1048576: true; the input reads as it did. -/
def greetTakesUptoRow : OpenClaim := { program := "ytgmhbelgeopbdaa", sum := "47b01cacd2c4fcdc42c9847f30a6b1c3a9db065a7c882941486a2b203a6b5448", func := "postilion/postilionlaw12.GreetTakes", spec := "greetTakes", apart := false, narrowed := true }
def GreetTakesUptoSaid : Prop := greetTakesUptoRow.holds Try.pinned (OpenSpec.upto greetTakesSpec)

/-- 'postilionlaw12.GreetOnce', WHERE WHAT IT READS IS OF BULK AT MOST 1048576: true; the input reads as it did. -/
def greetOnceUptoRow : OpenClaim := { program := "ytgmhbelgeopbdaa", sum := "47b01cacd2c4fcdc42c9847f30a6b1c3a9db065a7c882941486a2b203a6b5448", func := "postilion/postilionlaw12.GreetOnce", spec := "greetOnce", inPlace := ["internal/bytealg.IndexByte"], apart := false, narrowed := true }
def GreetOnceUptoSaid : Prop := greetOnceUptoRow.holds Try.pinned (OpenSpec.upto greetOnceSpec)

/-- 'postilionlaw12.GreetBack', WHERE WHAT IT READS IS OF BULK AT MOST 1048576: true; the input reads as it did. -/
def greetBackUptoRow : OpenClaim := { program := "ytgmhbelgeopbdaa", sum := "47b01cacd2c4fcdc42c9847f30a6b1c3a9db065a7c882941486a2b203a6b5448", func := "postilion/postilionlaw12.GreetBack", spec := "greetBack", inPlace := ["internal/bytealg.IndexByte"], apart := false, narrowed := true }
def GreetBackUptoSaid : Prop := greetBackUptoRow.holds Try.pinned (OpenSpec.upto greetBackSpec)

/-- 'postilionlaw12.GreetChoice', WHERE WHAT IT READS IS OF BULK AT MOST 1048576: true; the input reads as it did. -/
def greetChoiceUptoRow : OpenClaim := { program := "ytgmhbelgeopbdaa", sum := "47b01cacd2c4fcdc42c9847f30a6b1c3a9db065a7c882941486a2b203a6b5448", func := "postilion/postilionlaw12.GreetChoice", spec := "greetChoice", inPlace := ["internal/bytealg.IndexByte"], apart := false, narrowed := true }
def GreetChoiceUptoSaid : Prop := greetChoiceUptoRow.holds Try.pinned (OpenSpec.upto greetChoiceSpec)

end Rows
end Go.Proofs.Ytgmhbelgeopbdaa
