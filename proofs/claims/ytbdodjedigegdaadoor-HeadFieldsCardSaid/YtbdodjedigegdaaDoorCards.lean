/-
  DERIVED. GIVEN WITH THE SEED: THE CARDS: each row of YtbdodjedigegdaaDoorRows.lean that lists a variable, with what it lists TIED to the program's text (the seventh form; the later family's looks); each row that meets fmt, with fmt's text TOLD by the authors' own Lean function (tested against real Go, not proved from fmt's source: count such statements apart). THE CARD IS WHAT COUNTS. Prove the row's statement (the work); the ties are given (YtbdodjedigegdaaDoorTie.lean); close each card by the builder's one call (the guide's Derived/Test/ToyasCard.lean, 'card_holds'). Laid BY PROGRAM, IN A SANDBOX (cutbox-door.mjs). By AI agents, Wed Nov 11 2026. No macro, syntax, notation, axiom, sorry.
-/
import Derived.Test.YtbdodjedigegdaaDoorRows
import GoSem.ClaimSeven
namespace Go.Proofs.YtbdodjedigegdaaDoor
namespace Rows

/-- THE TIED CARD OF 'postilionlaw15.HeadPrints'. -/
def headPrintsCard : Claim7 := { stood := { row := headPrintsRow, standIns := [], harness := (true, "0d1faebc3e8c39f758382964df28e13335ad4a8dfaceccc2a949bebb07779ce0"), looks := false }, kinds := [], alts := [], laidByText := true, laidKinds := [.data, .pinned], laidTests := true, laidLooks := .later }
def HeadPrintsCardSaid : Prop := Claim7.holds Tryd.pinned (.plain (OpenSpec.ofChange headPrintsSpec)) headPrintsCard

/-- THE TIED CARD OF 'postilionlaw15.HeadTakes'. -/
def headTakesCard : Claim7 := { stood := { row := headTakesRow, standIns := [], harness := (true, "0d1faebc3e8c39f758382964df28e13335ad4a8dfaceccc2a949bebb07779ce0"), looks := false }, kinds := [], alts := [], laidByText := true, laidKinds := [.data, .pinned], laidTests := true, laidLooks := .later }
def HeadTakesCardSaid : Prop := Claim7.holds Tryd.pinned (.plain (OpenSpec.ofChange headTakesSpec)) headTakesCard

/-- THE TIED CARD OF 'postilionlaw15.HeadMore'. -/
def headMoreCard : Claim7 := { stood := { row := headMoreRow, standIns := [], harness := (true, "0d1faebc3e8c39f758382964df28e13335ad4a8dfaceccc2a949bebb07779ce0"), looks := false }, kinds := [], alts := [], laidByText := true, laidKinds := [.data, .pinned], laidTests := true, laidLooks := .later }
def HeadMoreCardSaid : Prop := Claim7.holds Tryd.pinned (.plain (OpenSpec.ofChange headMoreSpec)) headMoreCard

/-- THE TIED CARD OF 'postilionlaw15.HeadFields'. -/
def headFieldsCard : Claim7 := { stood := { row := headFieldsRow, standIns := [], harness := (true, "0d1faebc3e8c39f758382964df28e13335ad4a8dfaceccc2a949bebb07779ce0"), looks := false }, kinds := [], alts := [], laidByText := true, laidKinds := [.data, .pinned], laidTests := true, laidLooks := .later }
def HeadFieldsCardSaid : Prop := Claim7.holds Tryd.pinned (.plain (OpenSpec.ofChange headFieldsSpec)) headFieldsCard

/-- THE TIED CARD OF 'postilionlaw15.HeadOnce'. -/
def headOnceCard : Claim7 := { stood := { row := headOnceRow, standIns := [], harness := (true, "0d1faebc3e8c39f758382964df28e13335ad4a8dfaceccc2a949bebb07779ce0"), looks := false }, kinds := [], alts := [], laidByText := true, laidKinds := [.data, .pinned], laidTests := true, laidLooks := .later }
def HeadOnceCardSaid : Prop := Claim7.holds Tryd.pinned (.plain (OpenSpec.ofChange headOnceSpec)) headOnceCard

/-- THE TIED CARD OF 'postilionlaw15.HeadBack'. -/
def headBackCard : Claim7 := { stood := { row := headBackRow, standIns := [], harness := (true, "0d1faebc3e8c39f758382964df28e13335ad4a8dfaceccc2a949bebb07779ce0"), looks := false }, kinds := [], alts := [], laidByText := true, laidKinds := [.data, .pinned], laidTests := true, laidLooks := .later }
def HeadBackCardSaid : Prop := Claim7.holds Tryd.pinned (.plain (OpenSpec.ofChange headBackSpec)) headBackCard

/-- THE SECOND FORM's CARD OF 'postilionlaw15.HeadPrints'. -/
def headPrintsUptoCard : Claim7 := { stood := { row := headPrintsUptoRow, standIns := [], harness := (true, "0d1faebc3e8c39f758382964df28e13335ad4a8dfaceccc2a949bebb07779ce0"), looks := false }, kinds := [], alts := [], laidByText := true, laidKinds := [.data, .pinned], laidTests := true, laidLooks := .later }
def HeadPrintsUptoCardSaid : Prop := Claim7.holds Tryd.pinned (.plain (OpenSpec.upto headPrintsSpec)) headPrintsUptoCard

/-- THE SECOND FORM's CARD OF 'postilionlaw15.HeadTakes'. -/
def headTakesUptoCard : Claim7 := { stood := { row := headTakesUptoRow, standIns := [], harness := (true, "0d1faebc3e8c39f758382964df28e13335ad4a8dfaceccc2a949bebb07779ce0"), looks := false }, kinds := [], alts := [], laidByText := true, laidKinds := [.data, .pinned], laidTests := true, laidLooks := .later }
def HeadTakesUptoCardSaid : Prop := Claim7.holds Tryd.pinned (.plain (OpenSpec.upto headTakesSpec)) headTakesUptoCard

/-- THE SECOND FORM's CARD OF 'postilionlaw15.HeadMore'. -/
def headMoreUptoCard : Claim7 := { stood := { row := headMoreUptoRow, standIns := [], harness := (true, "0d1faebc3e8c39f758382964df28e13335ad4a8dfaceccc2a949bebb07779ce0"), looks := false }, kinds := [], alts := [], laidByText := true, laidKinds := [.data, .pinned], laidTests := true, laidLooks := .later }
def HeadMoreUptoCardSaid : Prop := Claim7.holds Tryd.pinned (.plain (OpenSpec.upto headMoreSpec)) headMoreUptoCard

/-- THE SECOND FORM's CARD OF 'postilionlaw15.HeadFields'. -/
def headFieldsUptoCard : Claim7 := { stood := { row := headFieldsUptoRow, standIns := [], harness := (true, "0d1faebc3e8c39f758382964df28e13335ad4a8dfaceccc2a949bebb07779ce0"), looks := false }, kinds := [], alts := [], laidByText := true, laidKinds := [.data, .pinned], laidTests := true, laidLooks := .later }
def HeadFieldsUptoCardSaid : Prop := Claim7.holds Tryd.pinned (.plain (OpenSpec.upto headFieldsSpec)) headFieldsUptoCard

/-- THE SECOND FORM's CARD OF 'postilionlaw15.HeadOnce'. -/
def headOnceUptoCard : Claim7 := { stood := { row := headOnceUptoRow, standIns := [], harness := (true, "0d1faebc3e8c39f758382964df28e13335ad4a8dfaceccc2a949bebb07779ce0"), looks := false }, kinds := [], alts := [], laidByText := true, laidKinds := [.data, .pinned], laidTests := true, laidLooks := .later }
def HeadOnceUptoCardSaid : Prop := Claim7.holds Tryd.pinned (.plain (OpenSpec.upto headOnceSpec)) headOnceUptoCard

/-- THE SECOND FORM's CARD OF 'postilionlaw15.HeadBack'. -/
def headBackUptoCard : Claim7 := { stood := { row := headBackUptoRow, standIns := [], harness := (true, "0d1faebc3e8c39f758382964df28e13335ad4a8dfaceccc2a949bebb07779ce0"), looks := false }, kinds := [], alts := [], laidByText := true, laidKinds := [.data, .pinned], laidTests := true, laidLooks := .later }
def HeadBackUptoCardSaid : Prop := Claim7.holds Tryd.pinned (.plain (OpenSpec.upto headBackSpec)) headBackUptoCard
end Rows
end Go.Proofs.YtbdodjedigegdaaDoor
