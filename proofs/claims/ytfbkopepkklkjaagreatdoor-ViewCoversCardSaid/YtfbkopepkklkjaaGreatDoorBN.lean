/- The contracts of dyad's functions over Dyads that may be; filigreelaw03.all. -/
import Derived.Test.YtfbkopepkklkjaaGreatDoorBH
import Derived.Test.YtfbkopepkklkjaaGreatDoorB7
namespace Go.Proofs.YtfbkopepkklkjaaGreatDoor
open Go Go.RowKit Go.PlainAid Fil

theorem cadd (a b : DY) (w : World) (ha : a.ok) (hb : b.ok) (hT : Tab w) :
  Calls Tryz.prog 94 #[.agg #[.bool a.n, .string (bstr a.x), .int .i64 a.e], .agg #[.bool b.n, .string (bstr b.x), .int .i64 b.e]] w fun r w' => r = .returned (.tuple #[.agg #[.bool (yAdd a b).1.n, .string (bstr (yAdd a b).1.x), .int .i64 (yAdd a b).1.e], .int .i64 (yAdd a b).2]) ∧ Below w.heap.size w w' := dadd_ok a.n a.x a.e b.n b.x b.e w ha hb hT
theorem csub (a b : DY) (w : World) (ha : a.ok) (hb : b.ok) (hT : Tab w) :
  Calls Tryz.prog 79 #[.agg #[.bool a.n, .string (bstr a.x), .int .i64 a.e], .agg #[.bool b.n, .string (bstr b.x), .int .i64 b.e]] w fun r w' => r = .returned (.tuple #[.agg #[.bool (ySub a b).1.n, .string (bstr (ySub a b).1.x), .int .i64 (ySub a b).1.e], .int .i64 (ySub a b).2]) ∧ Below w.heap.size w w' := by
 have h := dsub_ok a.n a.x a.e b.n b.x b.e w ha hb hT
 have e : -sz b.n b.x = (yNeg b).z := (yNeg_z b).symm
 rw [e] at h
 exact h
theorem cmul (a b : DY) (w : World) (ha : a.ok) (hb : b.ok) (hT : Tab w) :
  Calls Tryz.prog 83 #[.agg #[.bool a.n, .string (bstr a.x), .int .i64 a.e], .agg #[.bool b.n, .string (bstr b.x), .int .i64 b.e]] w fun r w' => r = .returned (.tuple #[.agg #[.bool (yMul a b).1.n, .string (bstr (yMul a b).1.x), .int .i64 (yMul a b).1.e], .int .i64 (yMul a b).2]) ∧ Below w.heap.size w w' := dmul_ok a.n a.x a.e b.n b.x b.e w ha hb hT
theorem ccmp (a b : DY) (w : World) (ha : a.ok) (hb : b.ok) :
  Calls Tryz.prog 24 #[.agg #[.bool a.n, .string (bstr a.x), .int .i64 a.e], .agg #[.bool b.n, .string (bstr b.x), .int .i64 b.e]] w fun r w' => r = .returned (.tuple #[.int .i64 (yCmp a b), .int .i64 0]) ∧ Below w.heap.size w w' := dcmp_ok a.n a.x a.e b.n b.x b.e w ha hb
theorem cof (z f : Int) (w : World) (hT : Tab w) (h0 : -9223372036854775808 ≤ z) (h1 : z ≤ 9223372036854775807) (he1 : -9223372036854775808 ≤ f) (he2 : f ≤ 9223372036854775807) :
  Calls Tryz.prog 25 #[.int .i64 z, .int .i64 f] w fun r w' => r = .returned (.tuple #[.agg #[.bool (mkD z f, mkR z f).1.n, .string (bstr (mkD z f, mkR z f).1.x), .int .i64 (mkD z f, mkR z f).1.e], .int .i64 (mkD z f, mkR z f).2]) ∧ Below w.heap.size w w' := dof_any z f w hT h0 h1 he1 he2
end Go.Proofs.YtfbkopepkklkjaaGreatDoor
