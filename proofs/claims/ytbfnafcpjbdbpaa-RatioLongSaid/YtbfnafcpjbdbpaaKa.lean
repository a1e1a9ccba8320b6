/- From a row's hypotheses to what the walks ask: a Ratio among the arguments. -/
import Derived.Test.YtbfnafcpjbdbpaaRows
import Derived.Test.YtbfnafcpjbdbpaaB4
import Derived.ProofKit
import Derived.Lib.SmallJoins
import Derived.ChangeMaps5
import Derived.ChangeArms
import Derived.OpenShut
import Derived.Laws.Cover2
namespace Go.Proofs.Ytbfnafcpjbdbpaa
open Go Go.RowKit Go.PlainAid Fil Go.Joins Go.ChangeShapes Go.WideShapes Go.ChangeAt

theorem own : ownKnob Try.prog.godebug = none := by kernel_rfl
section
variable {H : Type} {enc : TypeId × Value → H} {w w' : World} {base : Nat} {sp : Nat → Bool} {held : Bool}

end
end Go.Proofs.Ytbfnafcpjbdbpaa
