/-
  DERIVED. GIVEN WITH THE SEED: THE CARDS: each row of YtfdnbogbankjjaaGreatDoorRows.lean that lists a variable, with what it lists TIED to the program's text (the seventh form; the later family's looks); each row that meets fmt, with fmt's text TOLD by the authors' own Lean function (tested against real Go, not proved from fmt's source: count such statements apart). THE CARD IS WHAT COUNTS. Prove the row's statement (the work); the ties are given (YtfdnbogbankjjaaGreatDoorTie.lean); close each card by the builder's one call (the guide's Derived/Test/ToyasCard.lean, 'card_holds'). Laid BY PROGRAM, IN A SANDBOX (cutbox-door.mjs). By AI agents, Wed Nov 11 2026. No macro, syntax, notation, axiom, sorry.
-/
import Derived.Test.YtfdnbogbankjjaaGreatDoorRows
import GoSem.ClaimSeven
namespace Go.Proofs.YtfdnbogbankjjaaGreatDoor
namespace Rows

/-- THE TIED CARD OF 'filigreetop.TopRoots'. -/
def topRootsCard : Claim7 := { stood := { row := topRootsRow, standIns := [], harness := (true, "e1055c6ef14348be2f5edaf099af8ef6d8d0c1be206dd2811f6cc5647749ca52"), looks := false }, kinds := [], alts := [], laidByText := true, laidKinds := [.data], laidTests := true, laidLooks := .later }
def TopRootsCardSaid : Prop := Claim7.holds Tryz.pinned (.plain (OpenSpec.ofChange topRootsSpec)) topRootsCard

/-- THE SECOND FORM's CARD OF 'filigreetop.TopRoots'. -/
def topRootsUptoCard : Claim7 := { stood := { row := topRootsUptoRow, standIns := [], harness := (true, "e1055c6ef14348be2f5edaf099af8ef6d8d0c1be206dd2811f6cc5647749ca52"), looks := false }, kinds := [], alts := [], laidByText := true, laidKinds := [.data], laidTests := true, laidLooks := .later }
def TopRootsUptoCardSaid : Prop := Claim7.holds Tryz.pinned (.plain (OpenSpec.upto topRootsSpec)) topRootsUptoCard
end Rows
end Go.Proofs.YtfdnbogbankjjaaGreatDoor
