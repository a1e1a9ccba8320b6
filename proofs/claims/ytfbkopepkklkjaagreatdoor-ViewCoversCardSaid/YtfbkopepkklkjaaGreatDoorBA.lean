/- Shift and Floor, both. -/
import Derived.Test.YtfbkopepkklkjaaGreatDoorB9

/- The walks over dyad.Shift and the reference's. -/
namespace Go.Proofs.YtfbkopepkklkjaaGreatDoor
open Go Go.RowKit Go.PlainAid Fil

theorem okD.odd {neg : Bool} {x : Nat} {e : Int} (h : okD neg x e) (hx : x ≠ 0) : x % 2 = 1 := by
 rcases h with ⟨h, _⟩ | h
 ·exact absurd h hx
 ·exact h.1
theorem okD.nil {neg : Bool} {e : Int} (h : okD neg 0 e) : neg = false ∧ e = 0 := by
 rcases h with ⟨_, h1, h2⟩ | h
 ·exact ⟨h1, h2⟩
 ·omega
end Go.Proofs.YtfbkopepkklkjaaGreatDoor

/- The walks over dyad.Floor and the reference's. -/
namespace Go.Proofs.YtfbkopepkklkjaaGreatDoor
open Go Go.RowKit Go.PlainAid Fil

end Go.Proofs.YtfbkopepkklkjaaGreatDoor

/- The walk over the reference's Floor. -/
namespace Go.Proofs.YtfbkopepkklkjaaGreatDoor
open Go Go.RowKit Go.PlainAid Fil

theorem dn8_one : Fil.dn 8 1 = 1 := by rw [dn8_bl]; decide
theorem slc_one (w : World) : Slc (w.alloc (.cells #[.int .i64 1] 3)) 3 (some ⟨w.heap.size, 0, none⟩) 1 (i8 1) := fun _ =>
 ⟨w.heap.size, 0, _, _, rfl, heap_alloc_new w _, fun j hj => by
  have : j = 0 := by omega
  subst this
  rfl⟩

theorem DyAt.put (w : World) (neg : Bool) (s : ByteArray) (e : Int) : DyAt (w.alloc (.cells #[.bool neg, .string s, .int .i64 e] 24)) w.heap.size neg s e := DyAt.new w _ neg s e rfl (Below.refl _ _)
theorem DyAt.lt {w : World} {b : Nat} {neg : Bool} {s : ByteArray} {e : Int} (h : DyAt w b neg s e) : b < w.heap.size := World.block_lt_of_cell? _ _ h.c0
theorem DyAt.keep {w w' : World} {b : Nat} {neg : Bool} {s : ByteArray} {e : Int} (h : DyAt w b neg s e) (hb : Below w.heap.size w w') : DyAt w' b neg s e := h.below hb h.lt
theorem DyAt.allocd {w : World} {b : Nat} {neg : Bool} {s : ByteArray} {e : Int} (h : DyAt w b neg s e) (o : Obj) : DyAt (w.alloc o) b neg s e := h.keep ((Below.refl _ _).alloc (Nat.le_refl _) _)
end Go.Proofs.YtfbkopepkklkjaaGreatDoor
