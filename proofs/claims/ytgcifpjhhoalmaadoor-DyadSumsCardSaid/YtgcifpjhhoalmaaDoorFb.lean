/- Words on cells of slices, for all texts of this seat. -/
import Derived.WalkKit
import Derived.Handy
import Derived.Deep.LoopGhost
import Derived.Deep.OwnRows
import Derived.Deep.Draws
import Derived.Lib.Hide
import Derived.WalkLawsBesides
import Derived.WalkSpells
import Derived.BigQuiet
import Derived.Deep.QuietTactic
import Derived.PlainAid
namespace Fil
open Go Go.RowKit

/-- cells of a slice by place, in a block of type t -/
def Slc (w : World) (t : TypeId) (A : Option Addr) (n : Nat) (f : Nat → Value) : Prop :=
  0 < n → ∃ (b o : Nat) (cs : Array Value) (fz : Nat × Nat), A = some ⟨b, o, none⟩ ∧ w.heap[b]? = some (.cells cs t fz) ∧ ∀ j, j < n → cs[o + j]? = some (f j)

theorem ret_int {k : IntKind} {a b : Int} (h : a = b) : Ending.returned (.int k a) = .returned (.int k b) := by rw [h]
theorem ret_bool {a b : Bool} (h : a = b) : Ending.returned (.bool a) = .returned (.bool b) := by rw [h]

theorem lt_of_heap {w : World} {b : Nat} {o : Obj} (h : w.heap[b]? = some o) : b < w.heap.size := by
  obtain ⟨h, _⟩ := Array.getElem?_eq_some_iff.1 h; exact h

section
variable {w w' : World} {t : TypeId} {A : Option Addr} {n m : Nat} {f g : Nat → Value}
theorem Slc.nil (w : World) (t : TypeId) (A : Option Addr) (f : Nat → Value) : Slc w t A 0 f := fun h => absurd h (by omega)
theorem Slc.keep (h : Slc w t A n f) (hk : ∀ (b : Nat) (cs : Array Value) (fz : Nat × Nat), w.heap[b]? = some (Obj.cells cs t fz) → w'.heap[b]? = w.heap[b]?) : Slc w' t A n f := fun hn => by
  obtain ⟨b, o, cs, fz, hA, hb, hc⟩ := h hn
  exact ⟨b, o, cs, fz, hA, (hk b cs fz hb).trans hb, hc⟩
theorem Slc.below (h : Slc w t A n f) (hb : Below w.heap.size w w') : Slc w' t A n f := h.keep fun b _ _ hc => hb.block b (lt_of_heap hc)
theorem Slc.alloc (h : Slc w t A n f) (o : Obj) : Slc (w.alloc o) t A n f := h.keep fun _ _ _ hc => Below.heap_alloc w o _ (lt_of_heap hc)
theorem Slc.drew (h : Slc w t A n f) : Slc w.drew t A n f := h
theorem Slc.drewN (h : Slc w t A n f) (k : Nat) : Slc (w.drewN k) t A n f := h
theorem Slc.setCell (h : Slc w t A n f) {p : Addr} {cs : Array Value} {t' : TypeId} {fz : Nat × Nat} (hp : w.heap[p.block]? = some (.cells cs t' fz)) (ht : t ≠ t') (u : Value) : Slc (w.setCell p u) t A n f :=
  h.keep fun b cs' fz' hc => Below.heap_setCell _ _ _ _ (by rintro rfl; rw [hc] at hp; injection hp with hp; injection hp with _ hp; exact ht hp)
theorem Slc.le (h : Slc w t A n f) (hm : m ≤ n) : Slc w t A m f := fun hn => by
  obtain ⟨b, o, cs, fz, hA, hb, hc⟩ := h (by omega)
  exact ⟨b, o, cs, fz, hA, hb, fun j hj => hc j (by omega)⟩
theorem Slc.congr (h : Slc w t A n f) (e : ∀ j, j < n → f j = g j) : Slc w t A n g := fun hn => by
  obtain ⟨b, o, cs, fz, hA, hb, hc⟩ := h hn
  exact ⟨b, o, cs, fz, hA, hb, fun j hj => by rw [hc j hj, e j hj]⟩
/-- the cells as a walk wants them -/
theorem Slc.cell (h : Slc w t A n f) (hn : 0 < n) : ∃ b o, A = some ⟨b, o, none⟩ ∧ b < w.heap.size ∧ ∀ j, j < n → w.cell? ⟨b, o + j, none⟩ = some (f j) := by
  obtain ⟨b, o, cs, fz, hA, hb, hc⟩ := h hn
  exact ⟨b, o, hA, lt_of_heap hb, fun j hj => by simp [World.cell?, hb, hc j hj]⟩
theorem Slc.of_row {b : Nat} (h : w.rowIs b t n f) (hm : m ≤ n) : Slc w t (some ⟨b, 0, none⟩) m f := fun _ => by
  obtain ⟨c, hb, _, hc⟩ := h
  exact ⟨b, 0, c, (0, 0), rfl, hb, fun j hj => by rw [Nat.zero_add]; exact hc j (by omega)⟩
end
end Fil
