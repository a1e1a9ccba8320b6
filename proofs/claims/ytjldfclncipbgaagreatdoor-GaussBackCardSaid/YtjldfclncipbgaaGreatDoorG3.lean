/- The reference of layer 6: its functions over Gausses that may be. -/
import Derived.Test.YtjldfclncipbgaaGreatDoorJG
import Derived.Test.YtjldfclncipbgaaGreatDoorG2
import Derived.Test.YtjldfclncipbgaaGreatDoorBH
namespace Go.Proofs.YtjldfclncipbgaaGreatDoor
open Go Go.RowKit Go.PlainAid Fil

section
variable {w w' : World} {b K : Nat} {v0 v1 v2 v3 v4 v5 : Value} {t : TypeId}
theorem Blk.ce6 (h : Blk w b #[v0, v1, v2, v3, v4, v5] t) : w.cell? ⟨b, 0, none⟩ = some v0 ∧ w.cell? ⟨b, 1, none⟩ = some v1 ∧ w.cell? ⟨b, 2, none⟩ = some v2 ∧ w.cell? ⟨b, 3, none⟩ = some v3 ∧ w.cell? ⟨b, 4, none⟩ = some v4 ∧ w.cell? ⟨b, 5, none⟩ = some v5 :=
  ⟨Blk.at h 0 (by simp), Blk.at h 1 (by simp), Blk.at h 2 (by simp), Blk.at h 3 (by simp), Blk.at h 4 (by simp), Blk.at h 5 (by simp)⟩
theorem Blk.fr6 (h : Blk w b #[v0, v1, v2, v3, v4, v5] t) : w.frozen? ⟨b, 0, none⟩ = false ∧ w.frozen? ⟨b, 1, none⟩ = false ∧ w.frozen? ⟨b, 2, none⟩ = false ∧ w.frozen? ⟨b, 3, none⟩ = false ∧ w.frozen? ⟨b, 4, none⟩ = false ∧ w.frozen? ⟨b, 5, none⟩ = false :=
  ⟨Blk.free h 0, Blk.free h 1, Blk.free h 2, Blk.free h 3, Blk.free h 4, Blk.free h 5⟩
theorem KOp.far {N c : Nat} (h : KOp w N K c) {b' : Nat} (o : Nat) (v : Value) (h1 : c ≠ b') (h2 : c + 1 ≠ b') : KOp (w.setCell ⟨b', o, none⟩ v) N K c := ⟨h.1.far o v h1, h.2.far o v h2⟩
end
theorem Below.kb {K : Nat} {w w1 w2 : World} (h : Below w.heap.size w w1) (k : KB K w1 w2) (hB : w.heap.size ≤ K) : Below w.heap.size w w2 := h.trans (k.below hB h.size)

/-- a Gauss that may be, by its parts -/
structure GY where
  re : DY
  im : DY
def GY.zero : GY := ⟨DY.zero, DY.zero⟩
def GY.ok (g : GY) : Prop := g.re.ok ∧ g.im.ok
theorem GY.zero_ok : GY.zero.ok := ⟨DY.zero_ok, DY.zero_ok⟩
/-- two parts, if both went well -/
def gB (p q : DY × Int) : GY × Int := if p.2 = 0 ∧ q.2 = 0 then (⟨p.1, q.1⟩, 0) else (GY.zero, 4)
theorem gB_yes {p q : DY × Int} (hp : p.2 = 0) (hq : q.2 = 0) : gB p q = (⟨p.1, q.1⟩, 0) := if_pos ⟨hp, hq⟩
theorem gB_no {p q : DY × Int} (h : ¬ (p.2 = 0 ∧ q.2 = 0)) : gB p q = (GY.zero, 4) := if_neg h

/-- two products together -/
def yTwo (a b c d : DY) (less : Bool) : DY × Int :=
  if (yMul a b).2 = 0 ∧ (yMul c d).2 = 0 then (if less then yAdd (yMul a b).1 (yNeg (yMul c d).1) else yAdd (yMul a b).1 (yMul c d).1) else (DY.zero, 4)

/-- sum, difference, product -/
def gNeg (a : GY) : GY := ⟨yNeg a.re, yNeg a.im⟩
def gAdd (a b : GY) : GY × Int := gB (yAdd a.re b.re) (yAdd a.im b.im)
def gSub (a b : GY) : GY × Int := gAdd a (gNeg b)
def gMul (a b : GY) : GY × Int := gB (yTwo a.re b.re a.im b.im true) (yTwo a.re b.im a.im b.re false)
def gNorm (a : GY) : DY × Int := yTwo a.re a.re a.im a.im false
def gDot (a b : GY) : DY × Int := yTwo a.re b.re a.im b.im false
theorem gB_ok {p q : DY × Int} (hp : p.1.ok) (hq : q.1.ok) : (gB p q).1.ok := by
  unfold gB
  split
  · exact ⟨hp, hq⟩
  · exact GY.zero_ok
theorem gAdd_ok (a b : GY) : (gAdd a b).1.ok := gB_ok (yAdd_ok _ _) (yAdd_ok _ _)
theorem gSub_ok (a b : GY) : (gSub a b).1.ok := gAdd_ok _ _
theorem yTwo_ok (a b c d : DY) (l : Bool) : (yTwo a b c d l).1.ok := by
  unfold yTwo
  split
  · split
    · exact yAdd_ok _ _
    · exact yAdd_ok _ _
  · exact DY.zero_ok
theorem gNorm_ok (a : GY) : (gNorm a).1.ok := yTwo_ok _ _ _ _ _
end Go.Proofs.YtjldfclncipbgaaGreatDoor
