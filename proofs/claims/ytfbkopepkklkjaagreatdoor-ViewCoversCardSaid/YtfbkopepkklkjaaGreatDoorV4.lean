/- Bits alike or not, Nextafter towards plus infinity, Signbit; filigreelaw03.all of two and of four. -/
import Derived.Test.YtfbkopepkklkjaaGreatDoorQ4
import Derived.Test.YtfbkopepkklkjaaGreatDoorBN
namespace Go.Proofs.YtfbkopepkklkjaaGreatDoor
open Go Go.RowKit Go.PlainAid Fil

theorem ord_of {a b : Nat} (ha : fr a ≤ 9218868437227405312) (hb : fr b ≤ 9218868437227405312) : FloatKind.f64.format.order a b = some (compare (fk a) (fk b)) := order_some ha hb
end Go.Proofs.YtfbkopepkklkjaaGreatDoor
