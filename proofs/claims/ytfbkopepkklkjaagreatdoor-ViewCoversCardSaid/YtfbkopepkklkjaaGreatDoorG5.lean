/- package gauss over Gausses that may be: Scale, Dot, Cross, Norm, Cmp, Side, the discs. -/
import Derived.Test.YtfbkopepkklkjaaGreatDoorG4
namespace Go.Proofs.YtfbkopepkklkjaaGreatDoor
open Go Go.RowKit Go.PlainAid Fil

/-! the keeper's rows are the reference's answers -/
theorem yAdd_e (a b : DY) : (yAdd a b).2 = 0 ∨ yAdd a b = (DY.zero, 4) := by
 unfold yAdd
 cases h : mkOk (addZ a.z a.e b.z b.e) (min a.e b.e)
 ·right; rw [mkD_bad h, mkR_eq, h]; rfl
 ·left; exact mkR_ok h
theorem ySub_e (a b : DY) : (ySub a b).2 = 0 ∨ ySub a b = (DY.zero, 4) := yAdd_e _ _
theorem yMul_e (a b : DY) : (yMul a b).2 = 0 ∨ yMul a b = (DY.zero, 4) := by
 unfold yMul
 cases h : mkOk (a.z * b.z) (a.e + b.e)
 ·right; rw [mkD_bad h, mkR_eq, h]; rfl
 ·left; exact mkR_ok h
theorem kr_at {e : Int} (h : e = 0) (p : DY × Int) : kr e p = p := if_pos h
theorem kr_4 (p : DY × Int) : kr 4 p = (DY.zero, 4) := if_neg (by decide)
theorem kn_4 (x y : DY) : kn 4 x y = (GY.zero, 4) := if_neg (by decide)
theorem kp_4 (x : DY) : kp 4 x = (DY.zero, 4) := if_neg (by decide)
theorem kn_at {e : Int} (h : e = 0) (x y : DY) : kn e x y = (⟨x, y⟩, 0) := if_pos h
theorem kp_at {e : Int} (h : e = 0) (x : DY) : kp e x = (x, 0) := if_pos h
theorem two_row (f g : DY × Int) (hf : f.2 = 0 ∨ f = (DY.zero, 4)) (hg : g.2 = 0 ∨ g = (DY.zero, 4)) : kn (kr (kr 0 f).2 g).2 (kr 0 f).1 (kr (kr 0 f).2 g).1 = gB f g := by
 rw [kr_go]
 rcases hf with hf | rfl
 ·rw [kr_at hf]
  rcases hg with hg | rfl
  ·rw [kn_at hg, gB_yes hf hg]
  ·rw [kn_4, gB_no (by rintro ⟨_, h⟩; cases h)]
 ·rw [kr_4, kn_4, gB_no (by rintro ⟨h, _⟩; cases h)]
/-- mul, mul, then add or sub, behind no error -/
theorem yTwo_at {a b c d : DY} {l : Bool} (h : (yMul a b).2 = 0 ∧ (yMul c d).2 = 0) : yTwo a b c d l = if l then ySub (yMul a b).1 (yMul c d).1 else yAdd (yMul a b).1 (yMul c d).1 := if_pos h
theorem yTwo_no {a b c d : DY} {l : Bool} (h : ¬ ((yMul a b).2 = 0 ∧ (yMul c d).2 = 0)) : yTwo a b c d l = (DY.zero, 4) := if_neg h
theorem yTwo_e (a b c d : DY) (l : Bool) : (yTwo a b c d l).2 = 0 ∨ yTwo a b c d l = (DY.zero, 4) := by
 by_cases h : (yMul a b).2 = 0 ∧ (yMul c d).2 = 0
 ·rw [yTwo_at h]; cases l
  ·exact yAdd_e _ _
  ·exact ySub_e _ _
 ·rw [yTwo_no h]; exact .inr rfl
def yOp (l : Bool) (x y : DY) : DY × Int := if l then ySub x y else yAdd x y
theorem kr_two (e : Int) (he : e = 0 ∨ e = 4) (a b c d : DY) (l : Bool) :
  kr (kr (kr e (yMul a b)).2 (yMul c d)).2 (yOp l (kr e (yMul a b)).1 (kr (kr e (yMul a b)).2 (yMul c d)).1) = kr e (yTwo a b c d l) := by
 rcases he with rfl | rfl
 ·rw [kr_go, kr_go]
  rcases yMul_e a b with h1 | h1
  ·rw [kr_at h1]
   rcases yMul_e c d with h2 | h2
   ·rw [kr_at h2, yTwo_at ⟨h1, h2⟩]; rfl
   ·rw [h2, kr_4, yTwo_no (by rw [h2]; rintro ⟨_, h⟩; cases h)]
  ·rw [h1, kr_4, kr_4, yTwo_no (by rw [h1]; rintro ⟨h, _⟩; cases h)]
 ·rw [kr_4, kr_4, kr_4, kr_4]
theorem kp_row (f : DY × Int) (hf : f.2 = 0 ∨ f = (DY.zero, 4)) : kp f.2 f.1 = f := by
 rcases hf with hf | rfl
 ·rw [kp_at hf, ← hf]
 ·exact kp_4 _
theorem gSub_row (a b : GY) : kn (kr (kr 0 (ySub a.re b.re)).2 (ySub a.im b.im)).2 (kr 0 (ySub a.re b.re)).1 (kr (kr 0 (ySub a.re b.re)).2 (ySub a.im b.im)).1 = gSub a b := two_row _ _ (ySub_e _ _) (ySub_e _ _)
theorem gsub (a : GY) (b : GY) (w : World) (ha : a.ok) (hb : b.ok) (hT : Tab w) :
  Calls Tryz.prog 39 #[.agg #[.bool a.re.n, .string (bstr a.re.x), .int .i64 a.re.e, .bool a.im.n, .string (bstr a.im.x), .int .i64 a.im.e], .agg #[.bool b.re.n, .string (bstr b.re.x), .int .i64 b.re.e, .bool b.im.n, .string (bstr b.im.x), .int .i64 b.im.e]] w fun r w' => r = .returned (.tuple #[.agg #[.bool (gSub a b).1.re.n, .string (bstr (gSub a b).1.re.x), .int .i64 (gSub a b).1.re.e, .bool (gSub a b).1.im.n, .string (bstr (gSub a b).1.im.x), .int .i64 (gSub a b).1.im.e], .int .i64 (gSub a b).2]) ∧ Below w.heap.size w w' := gsub_w a b _ _ _ rfl rfl (gSub_row a b) w ha hb hT

end Go.Proofs.YtfbkopepkklkjaaGreatDoor
