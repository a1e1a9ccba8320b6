/-
  DERIVED. GIVEN WITH THE SEED: THE CARDS: each row of YtppebjnmollojaaDoorRows.lean that lists a variable, with what it lists TIED to the program's text (the seventh form; the later family's looks); each row that meets fmt, with fmt's text TOLD by the authors' own Lean function (tested against real Go, not proved from fmt's source: count such statements apart). THE CARD IS WHAT COUNTS. Prove the row's statement (the work); the ties are given (YtppebjnmollojaaDoorTie.lean); close each card by the builder's one call (the guide's Derived/Test/ToyasCard.lean, 'card_holds'). Laid BY PROGRAM, IN A SANDBOX (cutbox-door.mjs). By AI agents, Wed Nov 11 2026. No macro, syntax, notation, axiom, sorry.
-/
import Derived.Test.YtppebjnmollojaaDoorRows
import GoSem.ClaimSeven
namespace Go.Proofs.YtppebjnmollojaaDoor
namespace Rows

/-- THE TIED CARD OF 'filigreelaw24.ViewNames'. -/
def viewNamesCard : Claim7 := { stood := { row := viewNamesRow, standIns := [], harness := (true, "9c9c7a5a699975198112c53264ba8123275e35594a84aa094dd38650a62cb732"), looks := false }, kinds := [], alts := [], laidByText := true, laidKinds := [.data], laidTests := true, laidLooks := .later }
def ViewNamesCardSaid : Prop := Claim7.holds Tryd.pinned (.plain (OpenSpec.ofChange viewNamesSpec)) viewNamesCard

/-- THE TIED CARD OF 'filigreelaw24.ViewEdges'. -/
def viewEdgesCard : Claim7 := { stood := { row := viewEdgesRow, standIns := [], harness := (true, "9c9c7a5a699975198112c53264ba8123275e35594a84aa094dd38650a62cb732"), looks := false }, kinds := [], alts := [], laidByText := true, laidKinds := [.data], laidTests := true, laidLooks := .later }
def ViewEdgesCardSaid : Prop := Claim7.holds Tryd.pinned (.plain (OpenSpec.ofChange viewEdgesSpec)) viewEdgesCard

/-- THE TIED CARD OF 'filigreelaw24.ViewParts'. -/
def viewPartsCard : Claim7 := { stood := { row := viewPartsRow, standIns := [], harness := (true, "9c9c7a5a699975198112c53264ba8123275e35594a84aa094dd38650a62cb732"), looks := false }, kinds := [], alts := [], laidByText := true, laidKinds := [.data], laidTests := true, laidLooks := .later }
def ViewPartsCardSaid : Prop := Claim7.holds Tryd.pinned (.plain (OpenSpec.ofChange viewPartsSpec)) viewPartsCard

/-- THE TIED CARD OF 'filigreelaw24.ViewZooms'. -/
def viewZoomsCard : Claim7 := { stood := { row := viewZoomsRow, standIns := [], harness := (true, "9c9c7a5a699975198112c53264ba8123275e35594a84aa094dd38650a62cb732"), looks := false }, kinds := [], alts := [], laidByText := true, laidKinds := [.data], laidTests := true, laidLooks := .later }
def ViewZoomsCardSaid : Prop := Claim7.holds Tryd.pinned (.plain (OpenSpec.ofChange viewZoomsSpec)) viewZoomsCard

/-- THE TIED CARD OF 'filigreelaw24.ViewAround'. -/
def viewAroundCard : Claim7 := { stood := { row := viewAroundRow, standIns := [], harness := (true, "9c9c7a5a699975198112c53264ba8123275e35594a84aa094dd38650a62cb732"), looks := false }, kinds := [], alts := [], laidByText := true, laidKinds := [.data], laidTests := true, laidLooks := .later }
def ViewAroundCardSaid : Prop := Claim7.holds Tryd.pinned (.plain (OpenSpec.ofChange viewAroundSpec)) viewAroundCard

/-- THE SECOND FORM's CARD OF 'filigreelaw24.ViewNames'. -/
def viewNamesUptoCard : Claim7 := { stood := { row := viewNamesUptoRow, standIns := [], harness := (true, "9c9c7a5a699975198112c53264ba8123275e35594a84aa094dd38650a62cb732"), looks := false }, kinds := [], alts := [], laidByText := true, laidKinds := [.data], laidTests := true, laidLooks := .later }
def ViewNamesUptoCardSaid : Prop := Claim7.holds Tryd.pinned (.plain (OpenSpec.upto viewNamesSpec)) viewNamesUptoCard

/-- THE SECOND FORM's CARD OF 'filigreelaw24.ViewEdges'. -/
def viewEdgesUptoCard : Claim7 := { stood := { row := viewEdgesUptoRow, standIns := [], harness := (true, "9c9c7a5a699975198112c53264ba8123275e35594a84aa094dd38650a62cb732"), looks := false }, kinds := [], alts := [], laidByText := true, laidKinds := [.data], laidTests := true, laidLooks := .later }
def ViewEdgesUptoCardSaid : Prop := Claim7.holds Tryd.pinned (.plain (OpenSpec.upto viewEdgesSpec)) viewEdgesUptoCard

/-- THE SECOND FORM's CARD OF 'filigreelaw24.ViewParts'. -/
def viewPartsUptoCard : Claim7 := { stood := { row := viewPartsUptoRow, standIns := [], harness := (true, "9c9c7a5a699975198112c53264ba8123275e35594a84aa094dd38650a62cb732"), looks := false }, kinds := [], alts := [], laidByText := true, laidKinds := [.data], laidTests := true, laidLooks := .later }
def ViewPartsUptoCardSaid : Prop := Claim7.holds Tryd.pinned (.plain (OpenSpec.upto viewPartsSpec)) viewPartsUptoCard

/-- THE SECOND FORM's CARD OF 'filigreelaw24.ViewZooms'. -/
def viewZoomsUptoCard : Claim7 := { stood := { row := viewZoomsUptoRow, standIns := [], harness := (true, "9c9c7a5a699975198112c53264ba8123275e35594a84aa094dd38650a62cb732"), looks := false }, kinds := [], alts := [], laidByText := true, laidKinds := [.data], laidTests := true, laidLooks := .later }
def ViewZoomsUptoCardSaid : Prop := Claim7.holds Tryd.pinned (.plain (OpenSpec.upto viewZoomsSpec)) viewZoomsUptoCard

/-- THE SECOND FORM's CARD OF 'filigreelaw24.ViewAround'. -/
def viewAroundUptoCard : Claim7 := { stood := { row := viewAroundUptoRow, standIns := [], harness := (true, "9c9c7a5a699975198112c53264ba8123275e35594a84aa094dd38650a62cb732"), looks := false }, kinds := [], alts := [], laidByText := true, laidKinds := [.data], laidTests := true, laidLooks := .later }
def ViewAroundUptoCardSaid : Prop := Claim7.holds Tryd.pinned (.plain (OpenSpec.upto viewAroundSpec)) viewAroundUptoCard
end Rows
end Go.Proofs.YtppebjnmollojaaDoor
