/- filigreelaw04.RatioBack: the walk. -/
import Derived.Test.YtfbggddmmkmadaaKl
namespace Go.Proofs.Ytfbggddmmkmadaa
open Go Go.RowKit Go.PlainAid Fil

/-- are the first signs neither points nor e? -/
def wh (s : ByteArray) : Nat → Bool | 0 => true | k + 1 => wh s k && !(byt s k == 46) && !(byt s k == 101)
theorem tmod50 (z : Int) : -50 < z.tmod 50 ∧ z.tmod 50 < 50 := ⟨Int.lt_tmod_of_pos z (by decide), Int.tmod_lt_of_pos z (by decide)⟩
/-- is there a point among the first signs? -/
def pt (s : ByteArray) : Nat → Bool | 0 => false | k + 1 => pt s k || byt s k == 46
end Go.Proofs.Ytfbggddmmkmadaa
