/-
  DERIVED. GIVEN WITH THE SEED: THE CARDS: each row of YtpllckhmnjgohaaDoorRows.lean that lists a variable, with what it lists TIED to the program's text (the seventh form; the later family's looks); each row that meets fmt, with fmt's text TOLD by the authors' own Lean function (tested against real Go, not proved from fmt's source: count such statements apart). THE CARD IS WHAT COUNTS. Prove the row's statement (the work); the ties are given (YtpllckhmnjgohaaDoorTie.lean); close each card by the builder's one call (the guide's Derived/Test/ToyasCard.lean, 'card_holds'). Laid BY PROGRAM, IN A SANDBOX (cutbox-door.mjs). By AI agents, Wed Nov 11 2026. No macro, syntax, notation, axiom, sorry.
-/
import Derived.Test.YtpllckhmnjgohaaDoorRows
import GoSem.ClaimSeven
namespace Go.Proofs.YtpllckhmnjgohaaDoor
namespace Rows

/-- THE TIED CARD OF 'postilionlaw18.LinesSplit'. -/
def linesSplitCard : Claim7 := { stood := { row := linesSplitRow, standIns := [], harness := (true, "96b21895bb8985dab70b29c540717d0eb50721926acfd0d5f59c1b27e3b6fcb5"), looks := false }, kinds := [], alts := [], laidByText := true, laidKinds := [.data, .listed, .data, .pinned], laidTests := true, laidLooks := .later }
def LinesSplitCardSaid : Prop := Claim7.holds Tryd.pinned (.plain (OpenSpec.ofChange linesSplitSpec)) linesSplitCard

/-- THE TIED CARD OF 'postilionlaw18.LinesJoined'. -/
def linesJoinedCard : Claim7 := { stood := { row := linesJoinedRow, standIns := [], harness := (true, "96b21895bb8985dab70b29c540717d0eb50721926acfd0d5f59c1b27e3b6fcb5"), looks := false }, kinds := [], alts := [], laidByText := true, laidKinds := [.data, .listed, .data, .pinned], laidTests := true, laidLooks := .later }
def LinesJoinedCardSaid : Prop := Claim7.holds Tryd.pinned (.plain (OpenSpec.ofChange linesJoinedSpec)) linesJoinedCard

/-- THE TIED CARD OF 'postilionlaw18.LinesBack'. -/
def linesBackCard : Claim7 := { stood := { row := linesBackRow, standIns := [], harness := (true, "96b21895bb8985dab70b29c540717d0eb50721926acfd0d5f59c1b27e3b6fcb5"), looks := false }, kinds := [], alts := [], laidByText := true, laidKinds := [.data, .listed, .data, .pinned], laidTests := true, laidLooks := .later }
def LinesBackCardSaid : Prop := Claim7.holds Tryd.pinned (.plain (OpenSpec.ofChange linesBackSpec)) linesBackCard

/-- THE SECOND FORM's CARD OF 'postilionlaw18.LinesSplit'. -/
def linesSplitUptoCard : Claim7 := { stood := { row := linesSplitUptoRow, standIns := [], harness := (true, "96b21895bb8985dab70b29c540717d0eb50721926acfd0d5f59c1b27e3b6fcb5"), looks := false }, kinds := [], alts := [], laidByText := true, laidKinds := [.data, .listed, .data, .pinned], laidTests := true, laidLooks := .later }
def LinesSplitUptoCardSaid : Prop := Claim7.holds Tryd.pinned (.plain (OpenSpec.upto linesSplitSpec)) linesSplitUptoCard

/-- THE SECOND FORM's CARD OF 'postilionlaw18.LinesJoined'. -/
def linesJoinedUptoCard : Claim7 := { stood := { row := linesJoinedUptoRow, standIns := [], harness := (true, "96b21895bb8985dab70b29c540717d0eb50721926acfd0d5f59c1b27e3b6fcb5"), looks := false }, kinds := [], alts := [], laidByText := true, laidKinds := [.data, .listed, .data, .pinned], laidTests := true, laidLooks := .later }
def LinesJoinedUptoCardSaid : Prop := Claim7.holds Tryd.pinned (.plain (OpenSpec.upto linesJoinedSpec)) linesJoinedUptoCard

/-- THE SECOND FORM's CARD OF 'postilionlaw18.LinesBack'. -/
def linesBackUptoCard : Claim7 := { stood := { row := linesBackUptoRow, standIns := [], harness := (true, "96b21895bb8985dab70b29c540717d0eb50721926acfd0d5f59c1b27e3b6fcb5"), looks := false }, kinds := [], alts := [], laidByText := true, laidKinds := [.data, .listed, .data, .pinned], laidTests := true, laidLooks := .later }
def LinesBackUptoCardSaid : Prop := Claim7.holds Tryd.pinned (.plain (OpenSpec.upto linesBackSpec)) linesBackUptoCard
end Rows
end Go.Proofs.YtpllckhmnjgohaaDoor
