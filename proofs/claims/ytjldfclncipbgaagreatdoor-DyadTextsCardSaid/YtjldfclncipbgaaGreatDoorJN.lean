/- Merged: JF JI JM JN -/
import Derived.Test.YtjldfclncipbgaaGreatDoorJE
import Derived.Test.YtjldfclncipbgaaGreatDoorJP
import Derived.Laws.RangeAny

/- ratio.Add, Sub, Mul, Quo, Compare, New. -/
namespace Go.Proofs.YtjldfclncipbgaaGreatDoor
open Go Go.RowKit Go.PlainAid Fil

end Go.Proofs.YtjldfclncipbgaaGreatDoor

/- ratio.New, ratio.Text. -/
namespace Go.Proofs.YtjldfclncipbgaaGreatDoor
open Go Go.RowKit Go.PlainAid Fil

/-- a ratio's text -/
def ktx (x : Rat) : List UInt8 := (if sg x.num then [45] else []) ++ dtx x.num.natAbs ++ (if x.den = 1 then [] else 47 :: dtx x.den)
end Go.Proofs.YtjldfclncipbgaaGreatDoor

/- ratio.Text. -/
namespace Go.Proofs.YtjldfclncipbgaaGreatDoor
open Go Go.RowKit Go.PlainAid Fil

theorem dtx_len {x K : Nat} (h : Fil.dn 32 x ≤ K) : (dtx x).length ≤ 10 * K + 1 := by
  unfold dtx
  split
  · simp
  · rw [List.length_reverse]; have := decs_len h; omega
end Go.Proofs.YtjldfclncipbgaaGreatDoor

/- ratio.digits. -/
namespace Go.Proofs.YtjldfclncipbgaaGreatDoor
open Go Go.RowKit Go.PlainAid Fil

end Go.Proofs.YtjldfclncipbgaaGreatDoor
