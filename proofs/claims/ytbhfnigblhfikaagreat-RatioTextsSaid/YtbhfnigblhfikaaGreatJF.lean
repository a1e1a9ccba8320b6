/- ratio.Add, Sub, Mul, Quo, Compare, New. -/
import Derived.Test.YtbhfnigblhfikaaGreatJE
namespace Go.Proofs.YtbhfnigblhfikaaGreat
open Go Go.RowKit Go.PlainAid Fil

end Go.Proofs.YtbhfnigblhfikaaGreat
