/- Merged: Kb Kc Kg -/
import Derived.Test.YtjldfclncipbgaaGreatDoorJU
import Derived.Test.YtjldfclncipbgaaGreatDoorKf

/- ratio.Decimal. -/
namespace Go.Proofs.YtjldfclncipbgaaGreatDoor
open Go Go.RowKit Go.PlainAid Fil

end Go.Proofs.YtjldfclncipbgaaGreatDoor

/- ratio.Decimal. -/
namespace Go.Proofs.YtjldfclncipbgaaGreatDoor
open Go Go.RowKit Go.PlainAid Fil

end Go.Proofs.YtjldfclncipbgaaGreatDoor

/- ratio.Text of what may not be; ratio.Read, its ways. -/
namespace Go.Proofs.YtjldfclncipbgaaGreatDoor
open Go Go.RowKit Go.PlainAid Fil

end Go.Proofs.YtjldfclncipbgaaGreatDoor
