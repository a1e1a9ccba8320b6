/- A fraction in its block; wide.Rat's norm. -/
import Derived.Test.YtjldfclncipbgaaGreatDoorJ5
import Derived.Test.YtjldfclncipbgaaGreatDoorJ3
import Derived.Laws.CopyOwn
import Derived.Deep.CutBlock
namespace Go.Proofs.YtjldfclncipbgaaGreatDoor
open Go Go.RowKit Fil

/-- the fraction in a block -/
def RatAt (w : World) (b : Nat) (r : Rat) : Prop := IntAt w b 0 r.num ∧ IntAt w b 2 (r.den : Int)
/-- room for a fraction -/
def RRoom (w : World) (b : Nat) : Prop := Room w b 0 ∧ Room w b 2
/-- all that was there is as it was, but for one block that is no row of digits -/
structure Far (w w' : World) (b : Nat) : Prop where
  os : w'.os = w.os
  tape : w'.tape = w.tape
  output : w'.output = w.output
  size : w.heap.size ≤ w'.heap.size
  far : ∀ k, k < w.heap.size → k ≠ b → w'.heap[k]? = w.heap[k]?
  near : ∃ (cs : Array Value) (t : TypeId), w.heap[b]? = some (.cells cs t (0, 0)) ∧ t ≠ 89
section
variable {w w' w'' : World} {b o b1 o1 : Nat} {z : Int} {r : Rat}
theorem But.toFar (h : But w w' b o) : Far w w' b :=
  ⟨h.os, h.tape, h.output, h.size, h.far, by obtain ⟨cs, _, t, h1, _, h3, _⟩ := h.near; exact ⟨cs, t, h1, h3⟩⟩
theorem Far.trans (h : Far w w' b) (k : Far w' w'' b) : Far w w'' b :=
  ⟨k.os.trans h.os, k.tape.trans h.tape, k.output.trans h.output, Nat.le_trans h.size k.size, fun i hi hb => (k.far i (Nat.lt_of_lt_of_le hi h.size) hb).trans (h.far i hi hb), h.near⟩
theorem Far.after (h : Below w.heap.size w w') (k : Far w' w'' b) (hb : RRoom w b) : Far w w'' b := by
  obtain ⟨cs, t, h1, h2, _⟩ := hb.1
  exact ⟨k.os.trans h.os, k.tape.trans h.tape, k.output.trans h.output, Nat.le_trans h.size k.size, fun i hi hne => (k.far i (Nat.lt_of_lt_of_le hi h.size) hne).trans (h.block i hi), ⟨cs, t, h1, h2⟩⟩
theorem Far.below (h : Far w w' b) {B : Nat} (hb : B ≤ b) (hB : B ≤ w.heap.size) : Below B w w' :=
  ⟨h.os, h.tape, h.output, h.size, fun k hk => h.far k (by omega) (by omega)⟩
theorem Dig.far {A : Option Addr} {n c x : Nat} (h : Dig w A n c x) (hw : Far w w' b) : Dig w' A n c x := ⟨h.1, h.2.1, h.2.2.keep fun k cs fz hc => by
  obtain ⟨cs', t, h1, h2⟩ := hw.near
  refine hw.far k (lt_of_heap hc) fun e => ?_
  subst e
  rw [hc] at h1
  injection h1 with h1; injection h1 with _ h1; exact h2 h1.symm⟩
theorem IntAt.far (h : IntAt w b1 o1 z) (hw : Far w w' b) (hne : b1 ≠ b) : IntAt w' b1 o1 z := by
  obtain ⟨cs, t, A, n, c, h1, h2, h3, h4, h5⟩ := h
  exact ⟨cs, t, A, n, c, (hw.far b1 (lt_of_heap h1) hne).trans h1, h2, h3, h4, h5.far hw⟩
theorem Room.far (h : Room w b1 o1) (hw : Far w w' b) (hne : b1 ≠ b) : Room w' b1 o1 := by
  obtain ⟨cs, t, h1, h2, h3⟩ := h
  exact ⟨cs, t, (hw.far b1 (lt_of_heap h1) hne).trans h1, h2, h3⟩
theorem RatAt.lt (h : RatAt w b r) : b < w.heap.size := h.1.lt
theorem RatAt.below (h : RatAt w b r) (hb : Below w.heap.size w w') : RatAt w' b r := ⟨h.1.below hb, h.2.below hb⟩
theorem RatAt.alloc (h : RatAt w b r) (ob : Obj) : RatAt (w.alloc ob) b r := ⟨h.1.alloc ob, h.2.alloc ob⟩
theorem RatAt.far (h : RatAt w b1 r) (hw : Far w w' b) (hne : b1 ≠ b) : RatAt w' b1 r := ⟨h.1.far hw hne, h.2.far hw hne⟩
theorem RatAt.drewN (h : RatAt w b r) (k : Nat) : RatAt (w.drewN k) b r := h
theorem RatAt.but (h : RatAt w b1 r) (hw : But w w' b o) (hne : b1 ≠ b) : RatAt w' b1 r := h.far hw.toFar hne
theorem RRoom.lt (h : RRoom w b) : b < w.heap.size := h.1.lt
theorem RRoom.below (h : RRoom w b) (hb : Below w.heap.size w w') : RRoom w' b := ⟨h.1.below hb, h.2.below hb⟩
theorem RRoom.alloc (h : RRoom w b) (ob : Obj) : RRoom (w.alloc ob) b := ⟨h.1.alloc ob, h.2.alloc ob⟩
theorem RRoom.far (h : RRoom w b1) (hw : Far w w' b) (hne : b1 ≠ b) : RRoom w' b1 := ⟨h.1.far hw hne, h.2.far hw hne⟩
theorem RRoom.but (h : RRoom w b1) (hw : But w w' b o) (hne : b1 ≠ b) : RRoom w' b1 := h.far hw.toFar hne
theorem IntAt.zero (w : World) : IntAt (w.alloc (.cells #[.bool false, .slice none 0 0] 85)) w.heap.size 0 0 :=
  ⟨_, 85, none, 0, 0, heap_alloc_new w _, by decide, rfl, rfl, Dig.nil _ _⟩
theorem Below.cellAt {B : Nat} (h : Below B w w') (hb : b < B) (i : Nat) : w'.cell? ⟨b, i, none⟩ = w.cell? ⟨b, i, none⟩ := by
  simp only [World.cell?, h.block b hb]
theorem Far.cellAt (h : Far w w' b) (hb : b1 < w.heap.size) (hne : b1 ≠ b) (i : Nat) : w'.cell? ⟨b1, i, none⟩ = w.cell? ⟨b1, i, none⟩ := by
  simp only [World.cell?, h.far b1 hb hne]
end

end Go.Proofs.YtjldfclncipbgaaGreatDoor
