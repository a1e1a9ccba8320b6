/-
  DERIVED. GIVEN WITH THE SEED: THE CARDS: each row of YtbhfnigblhfikaaGreatDoorRows.lean that lists a variable, with what it lists TIED to the program's text (the seventh form; the later family's looks); each row that meets fmt, with fmt's text TOLD by the authors' own Lean function (tested against real Go, not proved from fmt's source: count such statements apart). THE CARD IS WHAT COUNTS. Prove the row's statement (the work); the ties are given (YtbhfnigblhfikaaGreatDoorTie.lean); close each card by the builder's one call (the guide's Derived/Test/ToyasCard.lean, 'card_holds'). Laid BY PROGRAM, IN A SANDBOX (cutbox-door.mjs). By AI agents, Wed Nov 11 2026. No macro, syntax, notation, axiom, sorry.
-/
import Derived.Test.YtbhfnigblhfikaaGreatDoorRows
import GoSem.ClaimSeven
namespace Go.Proofs.YtbhfnigblhfikaaGreatDoor
namespace Rows

/-- THE TIED CARD OF 'filigreelaw04.RatioNear'. -/
def ratioNearCard : Claim7 := { stood := { row := ratioNearRow, standIns := [], harness := (true, "43ff74f8849fe8235e0badf46c1bc1dd16ea814afc216474ec9938c989cb2cc7"), looks := false }, kinds := [], alts := [], laidByText := true, laidKinds := [.data], laidTests := true, laidLooks := .later }
def RatioNearCardSaid : Prop := Claim7.holds Tryz.pinned (.plain (OpenSpec.ofChange ratioNearSpec)) ratioNearCard

/-- THE SECOND FORM's CARD OF 'filigreelaw04.RatioNear'. -/
def ratioNearUptoCard : Claim7 := { stood := { row := ratioNearUptoRow, standIns := [], harness := (true, "43ff74f8849fe8235e0badf46c1bc1dd16ea814afc216474ec9938c989cb2cc7"), looks := false }, kinds := [], alts := [], laidByText := true, laidKinds := [.data], laidTests := true, laidLooks := .later }
def RatioNearUptoCardSaid : Prop := Claim7.holds Tryz.pinned (.plain (OpenSpec.upto ratioNearSpec)) ratioNearUptoCard
end Rows
end Go.Proofs.YtbhfnigblhfikaaGreatDoor
