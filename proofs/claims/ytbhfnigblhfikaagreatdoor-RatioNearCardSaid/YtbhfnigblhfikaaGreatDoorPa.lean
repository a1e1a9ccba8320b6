/- From a row's hypotheses to what the walks ask: a Dyad among the arguments; the listed table. -/
import Derived.Test.YtbhfnigblhfikaaGreatDoorRows
import Derived.Test.YtbhfnigblhfikaaGreatDoorBJ
import Derived.ProofKit
import Derived.Lib.SmallJoins
import Derived.Lib.LaidTab
import Derived.ChangeMaps5
import Derived.Lay
import Derived.LaidOnce
import Derived.LaidMore
import Derived.ChangeArms
import Derived.OpenShut
import Derived.Laws.Cover2
namespace Go.Proofs.YtbhfnigblhfikaaGreatDoor
open Go Go.RowKit Go.PlainAid Fil Go.Joins Go.ChangeShapes Go.WideShapes Go.ChangeAt

theorem own : ownKnob Tryz.prog.godebug = none := by kernel_rfl
/-- the listed variables -/
def laidL : List (String × DataW Unit) := [("math/bits.deBruijn32tab", Rows.laid_math_bits_deBruijn32tab)]
theorem door_met (os : Os) (args : Array Value) : laidMetH Tryz.prog laidL ((World.doorLaid Tryz.prog 200 os).forCall (fun _ _ => 0) ⟨#[], args, []⟩).memory :=
  laidMetH_of_parts3 (fuel := 8) (laidMet_of_run' 8 (by kernel_rfl) (by kernel_rfl)) (by kernel_rfl) (by kernel_rfl)
/-- the table's numbers -/
def tabZ : List Int := [0, 1, 28, 2, 29, 14, 24, 3, 30, 22, 20, 15, 25, 17, 4, 8, 31, 27, 13, 23, 21, 19, 16, 7, 26, 12, 18, 6, 11, 5, 10, 9]
theorem tab_of_laid {W : World} (hL : laidMetH Tryz.prog laidL W) : Tab W := by
  rw [MakeChecks.laidMetH_plain _ _ _ (by kernel_rfl)] at hL
  have h : Lib.TabIs Tryz.prog W "math/bits.deBruijn32tab" .u8 tabZ := Lib.tabIs_of_head (g := 1) (t := 131) (e := 5) (n := 32) (rest := []) (by kernel_rfl) (by kernel_rfl) (by kernel_rfl) (by kernel_rfl) (by kernel_rfl) (by kernel_rfl) hL
  intro j hj
  have hc := World.var?_cell (P := Tryz.prog) (n := "math/bits.deBruijn32tab") (by kernel_rfl : Tryz.prog.globalNamed "math/bits.deBruijn32tab" = some 1) h j
  rw [hc]
  have ht : ∀ j, j < 32 → tabZ[j]? = some ((Lib.deBruijn32tab.getD j 0 : Nat) : Int) := by decide
  rw [List.getElem?_toArray, List.getElem?_map, ht j hj]
  rfl

section
variable {H : Type} {enc : TypeId × Value → H} {w w' : World} {base : Nat} {sp : Nat → Bool} {held : Bool}

end
end Go.Proofs.YtbhfnigblhfikaaGreatDoor
