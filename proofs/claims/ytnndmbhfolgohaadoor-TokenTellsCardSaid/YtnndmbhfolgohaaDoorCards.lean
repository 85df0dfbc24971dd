/-
  DERIVED. GIVEN WITH THE SEED: THE CARDS: each row of YtnndmbhfolgohaaDoorRows.lean that lists a variable, with what it lists TIED to the program's text (the seventh form; the later family's looks); each row that meets fmt, with fmt's text TOLD by the authors' own Lean function (tested against real Go, not proved from fmt's source: count such statements apart). THE CARD IS WHAT COUNTS. Prove the row's statement (the work); the ties are given (YtnndmbhfolgohaaDoorTie.lean); close each card by the builder's one call (the guide's Derived/Test/ToyasCard.lean, 'card_holds'). Laid BY PROGRAM, IN A SANDBOX (cutbox-door.mjs). By AI agents, Wed Nov 11 2026. No macro, syntax, notation, axiom, sorry.
-/
import Derived.Test.YtnndmbhfolgohaaDoorRows
import GoSem.ClaimSeven
namespace Go.Proofs.YtnndmbhfolgohaaDoor
namespace Rows

/-- THE TIED CARD OF 'postilionlaw17.TokenOn'. -/
def tokenOnCard : Claim7 := { stood := { row := tokenOnRow, standIns := [], harness := (true, "eef48681f8324adaf5ebe7c8d67d45b2f89fe727b73e5e0e738eb2e62ec66297"), looks := false }, kinds := [], alts := [], laidByText := true, laidKinds := [.data, .pinned], laidTests := true, laidLooks := .later }
def TokenOnCardSaid : Prop := Claim7.holds Tryd.pinned (.plain (OpenSpec.ofChange tokenOnSpec)) tokenOnCard

/-- THE TIED CARD OF 'postilionlaw17.TokenBack'. -/
def tokenBackCard : Claim7 := { stood := { row := tokenBackRow, standIns := [], harness := (true, "eef48681f8324adaf5ebe7c8d67d45b2f89fe727b73e5e0e738eb2e62ec66297"), looks := false }, kinds := [], alts := [], laidByText := true, laidKinds := [.data, .pinned], laidTests := true, laidLooks := .later }
def TokenBackCardSaid : Prop := Claim7.holds Tryd.pinned (.plain (OpenSpec.ofChange tokenBackSpec)) tokenBackCard

/-- THE TIED CARD OF 'postilionlaw17.TokenTells'. -/
def tokenTellsCard : Claim7 := { stood := { row := tokenTellsRow, standIns := [], harness := (true, "eef48681f8324adaf5ebe7c8d67d45b2f89fe727b73e5e0e738eb2e62ec66297"), looks := false }, kinds := [], alts := [], laidByText := true, laidKinds := [.data, .pinned], laidTests := true, laidLooks := .later }
def TokenTellsCardSaid : Prop := Claim7.holds Tryd.pinned (.plain (OpenSpec.ofChange tokenTellsSpec)) tokenTellsCard

/-- THE SECOND FORM's CARD OF 'postilionlaw17.TokenOn'. -/
def tokenOnUptoCard : Claim7 := { stood := { row := tokenOnUptoRow, standIns := [], harness := (true, "eef48681f8324adaf5ebe7c8d67d45b2f89fe727b73e5e0e738eb2e62ec66297"), looks := false }, kinds := [], alts := [], laidByText := true, laidKinds := [.data, .pinned], laidTests := true, laidLooks := .later }
def TokenOnUptoCardSaid : Prop := Claim7.holds Tryd.pinned (.plain (OpenSpec.upto tokenOnSpec)) tokenOnUptoCard

/-- THE SECOND FORM's CARD OF 'postilionlaw17.TokenBack'. -/
def tokenBackUptoCard : Claim7 := { stood := { row := tokenBackUptoRow, standIns := [], harness := (true, "eef48681f8324adaf5ebe7c8d67d45b2f89fe727b73e5e0e738eb2e62ec66297"), looks := false }, kinds := [], alts := [], laidByText := true, laidKinds := [.data, .pinned], laidTests := true, laidLooks := .later }
def TokenBackUptoCardSaid : Prop := Claim7.holds Tryd.pinned (.plain (OpenSpec.upto tokenBackSpec)) tokenBackUptoCard

/-- THE SECOND FORM's CARD OF 'postilionlaw17.TokenTells'. -/
def tokenTellsUptoCard : Claim7 := { stood := { row := tokenTellsUptoRow, standIns := [], harness := (true, "eef48681f8324adaf5ebe7c8d67d45b2f89fe727b73e5e0e738eb2e62ec66297"), looks := false }, kinds := [], alts := [], laidByText := true, laidKinds := [.data, .pinned], laidTests := true, laidLooks := .later }
def TokenTellsUptoCardSaid : Prop := Claim7.holds Tryd.pinned (.plain (OpenSpec.upto tokenTellsSpec)) tokenTellsUptoCard
end Rows
end Go.Proofs.YtnndmbhfolgohaaDoor
