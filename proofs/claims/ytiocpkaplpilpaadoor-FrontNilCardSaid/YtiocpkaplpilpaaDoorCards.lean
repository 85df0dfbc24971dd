/-
  DERIVED. GIVEN WITH THE SEED: THE CARDS: each row of YtiocpkaplpilpaaDoorRows.lean that lists a variable, with what it lists TIED to the program's text (the seventh form; the later family's looks); each row that meets fmt, with fmt's text TOLD by the authors' own Lean function (tested against real Go, not proved from fmt's source: count such statements apart). THE CARD IS WHAT COUNTS. Prove the row's statement (the work); the ties are given (YtiocpkaplpilpaaDoorTie.lean); close each card by the builder's one call (the guide's Derived/Test/ToyasCard.lean, 'card_holds'). Laid BY PROGRAM, IN A SANDBOX (cutbox-door.mjs). By AI agents, Wed Nov 11 2026. No macro, syntax, notation, axiom, sorry.
-/
import Derived.Test.YtiocpkaplpilpaaDoorRows
import GoSem.ClaimSeven
namespace Go.Proofs.YtiocpkaplpilpaaDoor
namespace Rows

/-- THE TIED CARD OF 'postilionlaw25.FrontNil'. -/
def frontNilCard : Claim7 := { stood := { row := frontNilRow, standIns := [], harness := (true, "4558aec615a4e94e68b5c95eeb9175a9b4c6b41e20d1ae145e2748d466514c96"), looks := false }, kinds := [], alts := [], laidByText := true, laidKinds := [.data, .data, .data, .data, .data, .data, .pinned], laidTests := true, laidLooks := .later }
def FrontNilCardSaid : Prop := Claim7.holds Tryd.pinned (.plain (OpenSpec.ofChange frontNilSpec)) frontNilCard

/-- THE SECOND FORM's CARD OF 'postilionlaw25.FrontNil'. -/
def frontNilUptoCard : Claim7 := { stood := { row := frontNilUptoRow, standIns := [], harness := (true, "4558aec615a4e94e68b5c95eeb9175a9b4c6b41e20d1ae145e2748d466514c96"), looks := false }, kinds := [], alts := [], laidByText := true, laidKinds := [.data, .data, .data, .data, .data, .data, .pinned], laidTests := true, laidLooks := .later }
def FrontNilUptoCardSaid : Prop := Claim7.holds Tryd.pinned (.plain (OpenSpec.upto frontNilSpec)) frontNilUptoCard
end Rows
end Go.Proofs.YtiocpkaplpilpaaDoor
