/-
  DERIVED. GIVEN WITH THE SEED: THE CARDS: each row of YtlpibchjcmndjabDoorRows.lean that lists a variable, with what it lists TIED to the program's text (the seventh form; the later family's looks); each row that meets fmt, with fmt's text TOLD by the authors' own Lean function (tested against real Go, not proved from fmt's source: count such statements apart). THE CARD IS WHAT COUNTS. Prove the row's statement (the work); the ties are given (YtlpibchjcmndjabDoorTie.lean); close each card by the builder's one call (the guide's Derived/Test/ToyasCard.lean, 'card_holds'). Laid BY PROGRAM, IN A SANDBOX (cutbox-door.mjs). By AI agents, Wed Nov 11 2026. No macro, syntax, notation, axiom, sorry.
-/
import Derived.Test.YtlpibchjcmndjabDoorRows
import GoSem.ClaimSeven
namespace Go.Proofs.YtlpibchjcmndjabDoor
namespace Rows

/-- THE TIED CARD OF 'postilionlaw02.AsciiBack'. -/
def asciiBackCard : Claim7 := { stood := { row := asciiBackRow, standIns := [], harness := (true, "e30d5f5ed83c7a6f85b0fc87bc7e90b65a130e721b54c7ed973336a5e6562a00"), looks := false }, kinds := [], alts := [], laidByText := true, laidKinds := [.data, .data, .data], laidTests := true, laidLooks := .later }
def AsciiBackCardSaid : Prop := Claim7.holds Tryd.pinned (.plain (OpenSpec.ofChange asciiBackSpec)) asciiBackCard

/-- THE SECOND FORM's CARD OF 'postilionlaw02.AsciiBack'. -/
def asciiBackUptoCard : Claim7 := { stood := { row := asciiBackUptoRow, standIns := [], harness := (true, "e30d5f5ed83c7a6f85b0fc87bc7e90b65a130e721b54c7ed973336a5e6562a00"), looks := false }, kinds := [], alts := [], laidByText := true, laidKinds := [.data, .data, .data], laidTests := true, laidLooks := .later }
def AsciiBackUptoCardSaid : Prop := Claim7.holds Tryd.pinned (.plain (OpenSpec.upto asciiBackSpec)) asciiBackUptoCard
end Rows
end Go.Proofs.YtlpibchjcmndjabDoor
