/- A slice's element, as a walk carries it. -/
import Derived.Test.YtgcifpjhhoalmaaDoorW1
namespace Go.Proofs.YtgcifpjhhoalmaaDoor
open Go Go.RowKit Go.PlainAid Fil

/-- six cells of a block that is not the call's own -/
def El (w : World) (b k : Nat) (v0 v1 v2 v3 v4 v5 : Value) : Prop :=
  b < w.heap.size ∧ w.cell? ⟨b, k, none⟩ = some v0 ∧ w.cell? ⟨b, k + 1, none⟩ = some v1 ∧ w.cell? ⟨b, k + 2, none⟩ = some v2 ∧ w.cell? ⟨b, k + 3, none⟩ = some v3 ∧ w.cell? ⟨b, k + 4, none⟩ = some v4 ∧ w.cell? ⟨b, k + 5, none⟩ = some v5
section
variable {w w' : World} {b k : Nat} {v0 v1 v2 v3 v4 v5 : Value}
theorem El.lt (h : El w b k v0 v1 v2 v3 v4 v5) : b < w.heap.size := h.1
theorem El.ce6 (h : El w b k v0 v1 v2 v3 v4 v5) : w.cell? ⟨b, k, none⟩ = some v0 ∧ w.cell? ⟨b, k + 1, none⟩ = some v1 ∧ w.cell? ⟨b, k + 2, none⟩ = some v2 ∧ w.cell? ⟨b, k + 3, none⟩ = some v3 ∧ w.cell? ⟨b, k + 4, none⟩ = some v4 ∧ w.cell? ⟨b, k + 5, none⟩ = some v5 := h.2
theorem El.keep (h : El w b k v0 v1 v2 v3 v4 v5) (hb : Below w.heap.size w w') : El w' b k v0 v1 v2 v3 v4 v5 := by
  obtain ⟨hl, h0, h1, h2, h3, h4, h5⟩ := h
  exact ⟨Nat.lt_of_lt_of_le hl hb.size, (hb.cell (p := ⟨b, _, none⟩) hl).trans h0, (hb.cell (p := ⟨b, _, none⟩) hl).trans h1, (hb.cell (p := ⟨b, _, none⟩) hl).trans h2, (hb.cell (p := ⟨b, _, none⟩) hl).trans h3, (hb.cell (p := ⟨b, _, none⟩) hl).trans h4, (hb.cell (p := ⟨b, _, none⟩) hl).trans h5⟩
theorem El.allocd (h : El w b k v0 v1 v2 v3 v4 v5) (o : Obj) : El (w.alloc o) b k v0 v1 v2 v3 v4 v5 := h.keep ((Below.refl _ _).alloc (Nat.le_refl _) _)
theorem El.far (h : El w b k v0 v1 v2 v3 v4 v5) {b' : Nat} (o : Nat) (v : Value) (hne : b ≠ b') : El (w.setCell ⟨b', o, none⟩ v) b k v0 v1 v2 v3 v4 v5 := by
  obtain ⟨hl, h0, h1, h2, h3, h4, h5⟩ := h
  have f : ∀ i, (w.setCell ⟨b', o, none⟩ v).cell? ⟨b, i, none⟩ = w.cell? ⟨b, i, none⟩ := fun i => World.cell?_setCell_other _ _ _ _ (fun e => hne (by first | exact congrArg Addr.block e | exact (congrArg Addr.block e).symm))
  exact ⟨by simpa using hl, (f _).trans h0, (f _).trans h1, (f _).trans h2, (f _).trans h3, (f _).trans h4, (f _).trans h5⟩
theorem El.drew (h : El w b k v0 v1 v2 v3 v4 v5) : El w.drew b k v0 v1 v2 v3 v4 v5 := h
end
end Go.Proofs.YtgcifpjhhoalmaaDoor
