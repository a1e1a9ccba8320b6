/-
  DERIVED. GIVEN WITH THE SEED: THE CARDS: each row of YtfbkopepkklkjaaGreatDoorRows.lean that lists a variable, with what it lists TIED to the program's text (the seventh form; the later family's looks); each row that meets fmt, with fmt's text TOLD by the authors' own Lean function (tested against real Go, not proved from fmt's source: count such statements apart). THE CARD IS WHAT COUNTS. Prove the row's statement (the work); the ties are given (YtfbkopepkklkjaaGreatDoorTie.lean); close each card by the builder's one call (the guide's Derived/Test/ToyasCard.lean, 'card_holds'). Laid BY PROGRAM, IN A SANDBOX (cutbox-door.mjs). By AI agents, Wed Nov 11 2026. No macro, syntax, notation, axiom, sorry.
-/
import Derived.Test.YtfbkopepkklkjaaGreatDoorRows
import GoSem.ClaimSeven
namespace Go.Proofs.YtfbkopepkklkjaaGreatDoor
namespace Rows

/-- THE TIED CARD OF 'filigreelaw24.ViewSquares'. -/
def viewSquaresCard : Claim7 := { stood := { row := viewSquaresRow, standIns := [], harness := (true, "d250f5e77eb858f1aa654dc8fa48fcdb8ac37b473689c7497473bec58781f317"), looks := false }, kinds := [], alts := [], laidByText := true, laidKinds := [.data], laidTests := true, laidLooks := .later }
def ViewSquaresCardSaid : Prop := Claim7.holds Tryz.pinned (.plain (OpenSpec.ofChange viewSquaresSpec)) viewSquaresCard

/-- THE TIED CARD OF 'filigreelaw24.ViewCovers'. -/
def viewCoversCard : Claim7 := { stood := { row := viewCoversRow, standIns := [], harness := (true, "d250f5e77eb858f1aa654dc8fa48fcdb8ac37b473689c7497473bec58781f317"), looks := false }, kinds := [], alts := [], laidByText := true, laidKinds := [.data], laidTests := true, laidLooks := .later }
def ViewCoversCardSaid : Prop := Claim7.holds Tryz.pinned (.plain (OpenSpec.ofChange viewCoversSpec)) viewCoversCard

/-- THE SECOND FORM's CARD OF 'filigreelaw24.ViewSquares'. -/
def viewSquaresUptoCard : Claim7 := { stood := { row := viewSquaresUptoRow, standIns := [], harness := (true, "d250f5e77eb858f1aa654dc8fa48fcdb8ac37b473689c7497473bec58781f317"), looks := false }, kinds := [], alts := [], laidByText := true, laidKinds := [.data], laidTests := true, laidLooks := .later }
def ViewSquaresUptoCardSaid : Prop := Claim7.holds Tryz.pinned (.plain (OpenSpec.upto viewSquaresSpec)) viewSquaresUptoCard

/-- THE SECOND FORM's CARD OF 'filigreelaw24.ViewCovers'. -/
def viewCoversUptoCard : Claim7 := { stood := { row := viewCoversUptoRow, standIns := [], harness := (true, "d250f5e77eb858f1aa654dc8fa48fcdb8ac37b473689c7497473bec58781f317"), looks := false }, kinds := [], alts := [], laidByText := true, laidKinds := [.data], laidTests := true, laidLooks := .later }
def ViewCoversUptoCardSaid : Prop := Claim7.holds Tryz.pinned (.plain (OpenSpec.upto viewCoversSpec)) viewCoversUptoCard
end Rows
end Go.Proofs.YtfbkopepkklkjaaGreatDoor
