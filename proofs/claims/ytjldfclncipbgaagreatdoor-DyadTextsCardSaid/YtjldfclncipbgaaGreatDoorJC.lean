/- Merged: JA JC -/
import Derived.Test.YtjldfclncipbgaaGreatDoorB5
import Derived.Test.YtjldfclncipbgaaGreatDoorJ8
import Derived.OneCell

/- Blocks by their cells (as in the texts of package gauss); ratio.whole, laid; wide.Rat's Num, Denom. -/
namespace Go.Proofs.YtjldfclncipbgaaGreatDoor
open Go Go.RowKit Go.PlainAid Fil

/-- a block of cells -/
def Blk (w : World) (b : Nat) (cs : Array Value) (t : TypeId) : Prop := w.heap[b]? = some (.cells cs t (0, 0))
section
variable {w w' : World} {b : Nat} {cs : Array Value} {t : TypeId} {v0 v1 v2 v3 : Value}
theorem Blk.lt (h : Blk w b cs t) : b < w.heap.size := lt_of_block h
theorem Blk.put (w : World) (cs : Array Value) (t : TypeId) : Blk (w.alloc (.cells cs t)) w.heap.size cs t := heap_alloc_new w _
theorem Blk.below (h : Blk w b cs t) {B : Nat} (hb : Below B w w') (hB : b < B) : Blk w' b cs t := (hb.block b hB).trans h
theorem Blk.keep (h : Blk w b cs t) (hb : Below w.heap.size w w') : Blk w' b cs t := h.below hb h.lt
theorem Blk.allocd (h : Blk w b cs t) (o : Obj) : Blk (w.alloc o) b cs t := h.keep ((Below.refl _ _).alloc (Nat.le_refl _) _)
theorem Blk.drew (h : Blk w b cs t) : Blk w.drew b cs t := h
theorem Blk.far (h : Blk w b cs t) {b' : Nat} (o : Nat) (v : Value) (hne : b ≠ b') : Blk (w.setCell ⟨b', o, none⟩ v) b cs t := (Below.heap_setCell _ _ _ _ hne).trans h
theorem Blk.at (h : Blk w b cs t) (i : Nat) (hi : i < cs.size) : w.cell? ⟨b, i, none⟩ = some cs[i] := by
  have h' : w.heap[b]? = some (.cells cs t (0, 0)) := h
  simp [World.cell?, h', hi]
theorem Blk.free (h : Blk w b cs t) (i : Nat) : w.frozen? ⟨b, i, none⟩ = false := by
  have h' : w.heap[b]? = some (.cells cs t (0, 0)) := h
  simp [World.frozen?, h']
theorem Blk.setAt (h : Blk w b cs t) (i : Nat) (u : Value) : Blk (w.setCell ⟨b, i, none⟩ u) b (cs.setIfInBounds i u) t := by
  have hlt := Blk.lt h
  have h' : w.heap[b] = .cells cs t (0, 0) := by
    have h0 : w.heap[b]? = some (.cells cs t (0, 0)) := h
    simpa [Array.getElem?_eq_getElem hlt] using h0
  show (w.heap.modify b _)[b]? = _
  rw [Array.getElem?_eq_getElem (by simpa using hlt), Array.getElem_modify_self, h']
  rfl
theorem Blk.ce3 (h : Blk w b #[v0, v1, v2] t) : w.cell? ⟨b, 0, none⟩ = some v0 ∧ w.cell? ⟨b, 1, none⟩ = some v1 ∧ w.cell? ⟨b, 2, none⟩ = some v2 := ⟨Blk.at h 0 (by simp), Blk.at h 1 (by simp), Blk.at h 2 (by simp)⟩
theorem Blk.fr3 (h : Blk w b #[v0, v1, v2] t) : w.frozen? ⟨b, 0, none⟩ = false ∧ w.frozen? ⟨b, 1, none⟩ = false ∧ w.frozen? ⟨b, 2, none⟩ = false := ⟨Blk.free h 0, Blk.free h 1, Blk.free h 2⟩
end

end Go.Proofs.YtjldfclncipbgaaGreatDoor

/- ratio.rat; ratio.do at each of the four operations. -/
namespace Go.Proofs.YtjldfclncipbgaaGreatDoor
open Go Go.RowKit Go.PlainAid Fil

theorem Szd.mono {K L : Nat} {x : Rat} (h : Szd K x) (hL : K ≤ L) : Szd L x := ⟨Nat.le_trans h.1 hL, Nat.le_trans h.2 hL⟩
end Go.Proofs.YtjldfclncipbgaaGreatDoor
