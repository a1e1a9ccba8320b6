/- The contracts of dyad's functions over Dyads that may be; filigreelaw03.all. -/
import Derived.Test.YtjldfclncipbgaaGreatDoorBH
import Derived.Test.YtjldfclncipbgaaGreatDoorB5
import Derived.Laws.FloatArith
import Derived.Laws.BitsAllLaws
import Derived.Test.YtjldfclncipbgaaGreatDoorB1
namespace Go.Proofs.YtjldfclncipbgaaGreatDoor
open Go Go.RowKit Go.PlainAid Fil

theorem cadd (a b : DY) (w : World) (ha : a.ok) (hb : b.ok) (hT : Tab w) :
    Calls Tryz.prog 34 #[.agg #[.bool a.n, .string (bstr a.x), .int .i64 a.e], .agg #[.bool b.n, .string (bstr b.x), .int .i64 b.e]] w fun r w' => r = .returned (.tuple #[.agg #[.bool (yAdd a b).1.n, .string (bstr (yAdd a b).1.x), .int .i64 (yAdd a b).1.e], .int .i64 (yAdd a b).2]) ∧ Below w.heap.size w w' := dadd_ok a.n a.x a.e b.n b.x b.e w ha hb hT
theorem csub (a b : DY) (w : World) (ha : a.ok) (hb : b.ok) (hT : Tab w) :
    Calls Tryz.prog 67 #[.agg #[.bool a.n, .string (bstr a.x), .int .i64 a.e], .agg #[.bool b.n, .string (bstr b.x), .int .i64 b.e]] w fun r w' => r = .returned (.tuple #[.agg #[.bool (ySub a b).1.n, .string (bstr (ySub a b).1.x), .int .i64 (ySub a b).1.e], .int .i64 (ySub a b).2]) ∧ Below w.heap.size w w' := by
  have h := dsub_ok a.n a.x a.e b.n b.x b.e w ha hb hT
  have e : -sz b.n b.x = (yNeg b).z := (yNeg_z b).symm
  rw [e] at h
  exact h
theorem cmul (a b : DY) (w : World) (ha : a.ok) (hb : b.ok) (hT : Tab w) :
    Calls Tryz.prog 68 #[.agg #[.bool a.n, .string (bstr a.x), .int .i64 a.e], .agg #[.bool b.n, .string (bstr b.x), .int .i64 b.e]] w fun r w' => r = .returned (.tuple #[.agg #[.bool (yMul a b).1.n, .string (bstr (yMul a b).1.x), .int .i64 (yMul a b).1.e], .int .i64 (yMul a b).2]) ∧ Below w.heap.size w w' := dmul_ok a.n a.x a.e b.n b.x b.e w ha hb hT
theorem ccmp (a b : DY) (w : World) (ha : a.ok) (hb : b.ok) :
    Calls Tryz.prog 104 #[.agg #[.bool a.n, .string (bstr a.x), .int .i64 a.e], .agg #[.bool b.n, .string (bstr b.x), .int .i64 b.e]] w fun r w' => r = .returned (.tuple #[.int .i64 (yCmp a b), .int .i64 0]) ∧ Below w.heap.size w w' := dcmp_ok a.n a.x a.e b.n b.x b.e w ha hb
/-- did all go well? -/
def oks (l : List Int) : Bool := l.all (· == 0)
theorem new_ints (W : World) (xs : List Int) (i : Nat) (hi : i < xs.length) : (W.alloc (.cells (xs.map (Value.int .i64)).toArray 25)).cell? ⟨W.heap.size, i, none⟩ = some (.int .i64 (xs.getD i 0)) := by
  rw [cell_of_row _ W.heap.size _ _ 25 (0, 0) (heap_alloc_new W _)]
  simp [hi, List.getD]
end Go.Proofs.YtjldfclncipbgaaGreatDoor
