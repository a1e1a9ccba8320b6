/- The reference of layer 6: its functions over Gausses that may be. -/
import Derived.Test.YtfbkopepkklkjaaGreatDoorG2
import Derived.Test.YtfbkopepkklkjaaGreatDoorBI
namespace Go.Proofs.YtfbkopepkklkjaaGreatDoor
open Go Go.RowKit Go.PlainAid Fil

section
variable {w w' : World} {b K : Nat} {v0 v1 v2 v3 v4 v5 : Value} {t : TypeId}
theorem Blk.ce1 (h : Blk w b #[v0] t) : w.cell? ⟨b, 0, none⟩ = some v0 := Blk.at h 0 (by simp)
theorem Blk.ce3 (h : Blk w b #[v0, v1, v2] t) : w.cell? ⟨b, 0, none⟩ = some v0 ∧ w.cell? ⟨b, 1, none⟩ = some v1 ∧ w.cell? ⟨b, 2, none⟩ = some v2 := ⟨Blk.at h 0 (by simp), Blk.at h 1 (by simp), Blk.at h 2 (by simp)⟩
theorem Blk.fr3 (h : Blk w b #[v0, v1, v2] t) : w.frozen? ⟨b, 0, none⟩ = false ∧ w.frozen? ⟨b, 1, none⟩ = false ∧ w.frozen? ⟨b, 2, none⟩ = false := ⟨Blk.free h 0, Blk.free h 1, Blk.free h 2⟩
theorem Blk.ce6 (h : Blk w b #[v0, v1, v2, v3, v4, v5] t) : w.cell? ⟨b, 0, none⟩ = some v0 ∧ w.cell? ⟨b, 1, none⟩ = some v1 ∧ w.cell? ⟨b, 2, none⟩ = some v2 ∧ w.cell? ⟨b, 3, none⟩ = some v3 ∧ w.cell? ⟨b, 4, none⟩ = some v4 ∧ w.cell? ⟨b, 5, none⟩ = some v5 :=
 ⟨Blk.at h 0 (by simp), Blk.at h 1 (by simp), Blk.at h 2 (by simp), Blk.at h 3 (by simp), Blk.at h 4 (by simp), Blk.at h 5 (by simp)⟩
theorem Blk.fr6 (h : Blk w b #[v0, v1, v2, v3, v4, v5] t) : w.frozen? ⟨b, 0, none⟩ = false ∧ w.frozen? ⟨b, 1, none⟩ = false ∧ w.frozen? ⟨b, 2, none⟩ = false ∧ w.frozen? ⟨b, 3, none⟩ = false ∧ w.frozen? ⟨b, 4, none⟩ = false ∧ w.frozen? ⟨b, 5, none⟩ = false :=
 ⟨Blk.free h 0, Blk.free h 1, Blk.free h 2, Blk.free h 3, Blk.free h 4, Blk.free h 5⟩
end
/-- a Gauss that may be, by its parts -/
structure GY where
 re : DY
 im : DY
def GY.zero : GY := ⟨DY.zero, DY.zero⟩
def GY.ok (g : GY) : Prop := g.re.ok ∧ g.im.ok
theorem GY.zero_ok : GY.zero.ok := ⟨DY.zero_ok, DY.zero_ok⟩
/-- two parts, if both went well -/
def gB (p q : DY × Int) : GY × Int := if p.2 = 0 ∧ q.2 = 0 then (⟨p.1, q.1⟩, 0) else (GY.zero, 4)
theorem gB_yes {p q : DY × Int} (hp : p.2 = 0) (hq : q.2 = 0) : gB p q = (⟨p.1, q.1⟩, 0) := if_pos ⟨hp, hq⟩
theorem gB_no {p q : DY × Int} (h : ¬ (p.2 = 0 ∧ q.2 = 0)) : gB p q = (GY.zero, 4) := if_neg h

theorem rcadd (a b : DY) (w : World) (ha : a.ok) (hb : b.ok) :
  Calls Tryz.prog 67 #[.agg #[.bool a.n, .string (bstr a.x), .int .i64 a.e], .agg #[.bool b.n, .string (bstr b.x), .int .i64 b.e]] w fun r w' => r = .returned (.tuple #[.agg #[.bool (yAdd a b).1.n, .string (bstr (yAdd a b).1.x), .int .i64 (yAdd a b).1.e], .int .i64 (yAdd a b).2]) ∧ Below w.heap.size w w' := radd_any a.n a.x a.e b.n b.x b.e w ha hb
theorem rcmul (a b : DY) (w : World) (ha : a.ok) (hb : b.ok) :
  Calls Tryz.prog 90 #[.agg #[.bool a.n, .string (bstr a.x), .int .i64 a.e], .agg #[.bool b.n, .string (bstr b.x), .int .i64 b.e]] w fun r w' => r = .returned (.tuple #[.agg #[.bool (yMul a b).1.n, .string (bstr (yMul a b).1.x), .int .i64 (yMul a b).1.e], .int .i64 (yMul a b).2]) ∧ Below w.heap.size w w' := rmul_any a.n a.x a.e b.n b.x b.e w ha hb
theorem rcneg (a : DY) (w : World) (ha : a.ok) :
  Calls Tryz.prog 124 #[.agg #[.bool a.n, .string (bstr a.x), .int .i64 a.e]] w fun r w' => r = .returned (.agg #[.bool (yNeg a).n, .string (bstr (yNeg a).x), .int .i64 (yNeg a).e]) ∧ Below w.heap.size w w' := rneg_ok a.n a.x a.e w ha
theorem rccmp (a b : DY) (w : World) (ha : a.ok) (hb : b.ok) :
  Calls Tryz.prog 36 #[.agg #[.bool a.n, .string (bstr a.x), .int .i64 a.e], .agg #[.bool b.n, .string (bstr b.x), .int .i64 b.e]] w fun r w' => r = .returned (.int .i64 (yCmp a b)) ∧ Below w.heap.size w w' := rcmpd_ok a.n a.x a.e b.n b.x b.e w ha hb

/-- two products together -/
def yTwo (a b c d : DY) (less : Bool) : DY × Int :=
 if (yMul a b).2 = 0 ∧ (yMul c d).2 = 0 then (if less then yAdd (yMul a b).1 (yNeg (yMul c d).1) else yAdd (yMul a b).1 (yMul c d).1) else (DY.zero, 4)

set_option maxHeartbeats 2000000 in
theorem qboth_ok (xn : Bool) (xs : ByteArray) (xe : Int) (yn : Bool) (ys : ByteArray) (ye : Int) (w : World) :
  Calls Tryz.prog 123 #[.agg #[.bool xn, .string xs, .int .i64 xe], .int .i64 0, .agg #[.bool yn, .string ys, .int .i64 ye], .int .i64 0] w fun r w' => r = .returned (.tuple #[.agg #[.bool xn, .string xs, .int .i64 xe, .bool yn, .string ys, .int .i64 ye], .int .i64 0]) ∧ Below w.heap.size w w' := by
 have D0 := DyAt.put (w) (xn) (xs) (xe)
 replace D0 := D0.allocd (.cells #[.bool yn, .string ys, .int .i64 ye] 24)
 have D1 := DyAt.put ((w).alloc (.cells #[.bool xn, .string xs, .int .i64 xe] 24)) (yn) (ys) (ye)
 rw [show ((w).alloc (.cells #[.bool xn, .string xs, .int .i64 xe] 24)).heap.size = w.heap.size + 1 by simp] at D1
 replace D0 := D0.allocd (.cells #[.bool false, .string { data := #[] }, .int .i64 0, .bool false, .string { data := #[] }, .int .i64 0] 28)
 replace D1 := D1.allocd (.cells #[.bool false, .string { data := #[] }, .int .i64 0, .bool false, .string { data := #[] }, .int .i64 0] 28)
 have G2 := GsAt.put (((w).alloc (.cells #[.bool xn, .string xs, .int .i64 xe] 24)).alloc (.cells #[.bool yn, .string ys, .int .i64 ye] 24)) (false) ({ data := #[] }) (0) (false) ({ data := #[] }) (0)
 rw [show (((w).alloc (.cells #[.bool xn, .string xs, .int .i64 xe] 24)).alloc (.cells #[.bool yn, .string ys, .int .i64 ye] 24)).heap.size = w.heap.size + 1 + 1 by simp] at G2
 have B0 := (((Below.refl w.heap.size w).alloc (by first | exact Nat.le_refl _ | (simp; done) | (simp; omega)) (.cells #[.bool xn, .string xs, .int .i64 xe] 24)).alloc (by first | exact Nat.le_refl _ | (simp; done) | (simp; omega)) (.cells #[.bool yn, .string ys, .int .i64 ye] 24)).alloc (by first | exact Nat.le_refl _ | (simp; done) | (simp; omega)) (.cells #[.bool false, .string { data := #[] }, .int .i64 0, .bool false, .string { data := #[] }, .int .i64 0] 28)
 have GZ := GsAt.put ((w.alloc (.cells #[.bool xn, .string xs, .int .i64 xe] 24)).alloc (.cells #[.bool yn, .string ys, .int .i64 ye] 24)) xn xs xe yn ys ye
 rw [show ((w.alloc (.cells #[.bool xn, .string xs, .int .i64 xe] 24)).alloc (.cells #[.bool yn, .string ys, .int .i64 ye] 24)).heap.size = w.heap.size + 1 + 1 by simp] at GZ
 have BZ := (((Below.refl w.heap.size w).alloc (Nat.le_refl _) (.cells #[.bool xn, .string xs, .int .i64 xe] 24)).alloc (by simp) (.cells #[.bool yn, .string ys, .int .i64 ye] 24)).alloc (by simp; omega) (.cells #[.bool xn, .string xs, .int .i64 xe, .bool yn, .string ys, .int .i64 ye] 28)
 obtain ⟨z0, z1, z2, z3, z4, z5⟩ := GZ.cells
 obtain ⟨xD00, xD01, xD02, -, -, -⟩ := id D0
 obtain ⟨xD10, xD11, xD12, -, -, -⟩ := id D1
 clear D0 D1 G2 B0 GZ
 go_enter Tryz.func123, Tryz.ntmps123
 go_wp2
 exact bodyPost_ret (v := .tuple #[.agg #[.bool xn, .string xs, .int .i64 xe, .bool yn, .string ys, .int .i64 ye], .int .i64 0]) (by simp [results, Tryz.results123, go_sem, z0, z1, z2, z3, z4, z5]) rfl ⟨rfl, BZ⟩

set_option maxHeartbeats 2000000 in
theorem qboth_bad (xn : Bool) (xs : ByteArray) (xe : Int) (yn : Bool) (ys : ByteArray) (ye : Int) (u v : Int) (w : World) (h : ¬ (u = 0 ∧ v = 0)) :
  Calls Tryz.prog 123 #[.agg #[.bool xn, .string xs, .int .i64 xe], .int .i64 u, .agg #[.bool yn, .string ys, .int .i64 ye], .int .i64 v] w fun r w' => r = .returned (.tuple #[.agg #[.bool false, .string { data := #[] }, .int .i64 0, .bool false, .string { data := #[] }, .int .i64 0], .int .i64 4]) ∧ Below w.heap.size w w' := by
 have D0 := DyAt.put (w) (xn) (xs) (xe)
 replace D0 := D0.allocd (.cells #[.bool yn, .string ys, .int .i64 ye] 24)
 have D1 := DyAt.put ((w).alloc (.cells #[.bool xn, .string xs, .int .i64 xe] 24)) (yn) (ys) (ye)
 rw [show ((w).alloc (.cells #[.bool xn, .string xs, .int .i64 xe] 24)).heap.size = w.heap.size + 1 by simp] at D1
 replace D0 := D0.allocd (.cells #[.bool false, .string { data := #[] }, .int .i64 0, .bool false, .string { data := #[] }, .int .i64 0] 28)
 replace D1 := D1.allocd (.cells #[.bool false, .string { data := #[] }, .int .i64 0, .bool false, .string { data := #[] }, .int .i64 0] 28)
 have G2 := GsAt.put (((w).alloc (.cells #[.bool xn, .string xs, .int .i64 xe] 24)).alloc (.cells #[.bool yn, .string ys, .int .i64 ye] 24)) (false) ({ data := #[] }) (0) (false) ({ data := #[] }) (0)
 rw [show (((w).alloc (.cells #[.bool xn, .string xs, .int .i64 xe] 24)).alloc (.cells #[.bool yn, .string ys, .int .i64 ye] 24)).heap.size = w.heap.size + 1 + 1 by simp] at G2
 have B0 := (((Below.refl w.heap.size w).alloc (by first | exact Nat.le_refl _ | (simp; done) | (simp; omega)) (.cells #[.bool xn, .string xs, .int .i64 xe] 24)).alloc (by first | exact Nat.le_refl _ | (simp; done) | (simp; omega)) (.cells #[.bool yn, .string ys, .int .i64 ye] 24)).alloc (by first | exact Nat.le_refl _ | (simp; done) | (simp; omega)) (.cells #[.bool false, .string { data := #[] }, .int .i64 0, .bool false, .string { data := #[] }, .int .i64 0] 28)
 obtain ⟨z0, z1, z2, z3, z4, z5⟩ := G2.cells
 clear D0 D1 G2
 by_cases hu : u = 0
 ·subst hu
  have hv : (v != 0) = true := by simpa using h
  clear h
  go_enter Tryz.func123, Tryz.ntmps123
  go_wp2
  exact bodyPost_ret (v := .tuple #[.agg #[.bool false, .string { data := #[] }, .int .i64 0, .bool false, .string { data := #[] }, .int .i64 0], .int .i64 4]) (by simp [results, Tryz.results123, go_sem, z0, z1, z2, z3, z4, z5]) rfl ⟨rfl, B0⟩
 ·have hu2 : (u != 0) = true := by simpa using hu
  clear h
  go_enter Tryz.func123, Tryz.ntmps123
  go_wp2
  exact bodyPost_ret (v := .tuple #[.agg #[.bool false, .string { data := #[] }, .int .i64 0, .bool false, .string { data := #[] }, .int .i64 0], .int .i64 4]) (by simp [results, Tryz.results123, go_sem, z0, z1, z2, z3, z4, z5]) rfl ⟨rfl, B0⟩

theorem qboth_any (p q : DY × Int) (w : World) :
  Calls Tryz.prog 123 #[.agg #[.bool p.1.n, .string (bstr p.1.x), .int .i64 p.1.e], .int .i64 p.2, .agg #[.bool q.1.n, .string (bstr q.1.x), .int .i64 q.1.e], .int .i64 q.2] w fun r w' => r = .returned (.tuple #[.agg #[.bool (gB p q).1.re.n, .string (bstr (gB p q).1.re.x), .int .i64 (gB p q).1.re.e, .bool (gB p q).1.im.n, .string (bstr (gB p q).1.im.x), .int .i64 (gB p q).1.im.e], .int .i64 (gB p q).2]) ∧ Below w.heap.size w w' := by
 by_cases h : p.2 = 0 ∧ q.2 = 0
 ·rw [gB_yes h.1 h.2, h.1, h.2]
  exact qboth_ok _ _ _ _ _ _ w
 ·rw [gB_no h]
  rw [show bstr GY.zero.re.x = { data := #[] } from bstr_zero, show bstr GY.zero.im.x = { data := #[] } from bstr_zero]
  exact qboth_bad _ _ _ _ _ _ _ _ w h



/-- sum, difference, product -/
def gNeg (a : GY) : GY := ⟨yNeg a.re, yNeg a.im⟩
def gAdd (a b : GY) : GY × Int := gB (yAdd a.re b.re) (yAdd a.im b.im)
def gSub (a b : GY) : GY × Int := gAdd a (gNeg b)
def gNorm (a : GY) : DY × Int := yTwo a.re a.re a.im a.im false
def gDot (a b : GY) : DY × Int := yTwo a.re b.re a.im b.im false
theorem gNeg_ok {a : GY} (h : a.ok) : (gNeg a).ok := ⟨yNeg_ok h.1, yNeg_ok h.2⟩
theorem gB_ok {p q : DY × Int} (hp : p.1.ok) (hq : q.1.ok) : (gB p q).1.ok := by
 unfold gB
 split
 ·exact ⟨hp, hq⟩
 ·exact GY.zero_ok
theorem gAdd_ok (a b : GY) : (gAdd a b).1.ok := gB_ok (yAdd_ok _ _) (yAdd_ok _ _)
theorem gSub_ok (a b : GY) : (gSub a b).1.ok := gAdd_ok _ _
theorem yTwo_ok (a b c d : DY) (l : Bool) : (yTwo a b c d l).1.ok := by
 unfold yTwo
 split
 ·split
  ·exact yAdd_ok _ _
  ·exact yAdd_ok _ _
 ·exact DY.zero_ok
theorem gNorm_ok (a : GY) : (gNorm a).1.ok := yTwo_ok _ _ _ _ _
end Go.Proofs.YtfbkopepkklkjaaGreatDoor
