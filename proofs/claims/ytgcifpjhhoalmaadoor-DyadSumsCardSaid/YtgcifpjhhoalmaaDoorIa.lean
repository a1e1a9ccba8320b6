/- Words on wide's Int: a whole number behind a pointer; what a method writes. -/
import Derived.Test.YtgcifpjhhoalmaaDoorWf
import Derived.Laws.Rows
namespace Go.Proofs.YtgcifpjhhoalmaaDoor
open Go Go.RowKit Fil

/-- the sign's bit -/
def sg (z : Int) : Bool := decide (z < 0)
/-- a slice of digits holds the number x -/
def Dig (w : World) (A : Option Addr) (n c x : Nat) : Prop := n = dn 32 x ∧ n ≤ c ∧ Slc w 169 A n (d32 x)
/-- a place for an Int: two cells in a block that is no row of digits -/
def Room (w : World) (b o : Nat) : Prop := ∃ (cs : Array Value) (t : TypeId), w.heap[b]? = some (.cells cs t (0, 0)) ∧ t ≠ 169 ∧ o + 1 < cs.size
/-- the Int at a place -/
def IntAt (w : World) (b o : Nat) (z : Int) : Prop :=
  ∃ (cs : Array Value) (t : TypeId) (A : Option Addr) (n c : Nat), w.heap[b]? = some (.cells cs t (0, 0)) ∧ t ≠ 169 ∧ cs[o]? = some (.bool (sg z)) ∧ cs[o + 1]? = some (.slice A n c) ∧ Dig w A n c z.natAbs
/-- all that was there is as it was, but for the two cells of a place -/
structure But (w w' : World) (b o : Nat) : Prop where
  os : w'.os = w.os
  tape : w'.tape = w.tape
  output : w'.output = w.output
  size : w.heap.size ≤ w'.heap.size
  far : ∀ k, k < w.heap.size → k ≠ b → w'.heap[k]? = w.heap[k]?
  near : ∃ (cs cs' : Array Value) (t : TypeId), w.heap[b]? = some (.cells cs t (0, 0)) ∧ w'.heap[b]? = some (.cells cs' t (0, 0)) ∧ t ≠ 169 ∧ cs'.size = cs.size ∧ ∀ j, j ≠ o → j ≠ o + 1 → cs'[j]? = cs[j]?

section
variable {w w' w'' : World} {b o b' o' : Nat} {z : Int} {A : Option Addr} {n c x : Nat}
theorem Dig.below (h : Dig w A n c x) (hb : Below w.heap.size w w') : Dig w' A n c x := ⟨h.1, h.2.1, h.2.2.below hb⟩
theorem Dig.alloc (h : Dig w A n c x) (ob : Obj) : Dig (w.alloc ob) A n c x := ⟨h.1, h.2.1, h.2.2.alloc ob⟩
theorem Dig.drewN (h : Dig w A n c x) (k : Nat) : Dig (w.drewN k) A n c x := h
theorem Dig.but (h : Dig w A n c x) (hw : But w w' b o) : Dig w' A n c x := ⟨h.1, h.2.1, h.2.2.keep fun k cs fz hc => by
  obtain ⟨cs0, cs1, t, h0, _, ht, _, _⟩ := hw.near
  refine hw.far k (lt_of_heap hc) ?_
  rintro rfl
  rw [hc] at h0; injection h0 with h0; injection h0 with _ h0; exact ht h0.symm⟩
theorem Dig.le (h : Dig w A n c x) {k : Nat} (hx : x < 2 ^ (32 * k)) : n ≤ k := by rw [h.1]; exact dn_le (by omega) hx
theorem Dig.nil (w : World) (c : Nat) : Dig w none 0 c 0 := ⟨(dn_zero 32).symm, Nat.zero_le _, Slc.nil _ _ _ _⟩

theorem Room.lt (h : Room w b o) : b < w.heap.size := by obtain ⟨_, _, h, _⟩ := h; exact lt_of_heap h
theorem Room.below (h : Room w b o) (hb : Below w.heap.size w w') : Room w' b o := by
  obtain ⟨cs, t, h1, h2⟩ := h; exact ⟨cs, t, (hb.block b (lt_of_heap h1)).trans h1, h2⟩
theorem Room.alloc (h : Room w b o) (ob : Obj) : Room (w.alloc ob) b o := h.below ((Below.refl _ _).alloc (Nat.le_refl _) _)
theorem Room.drewN (h : Room w b o) (k : Nat) : Room (w.drewN k) b o := h
theorem Room.but (h : Room w b o) (hw : But w w' b' o') : Room w' b o := by
  obtain ⟨cs, t, h1, h2, h3⟩ := h
  by_cases e : b = b'
  · subst e
    obtain ⟨cs0, cs1, t', h0, h0', ht, hs, _⟩ := hw.near
    rw [h1] at h0; injection h0 with h0; injection h0 with e1 e2; subst e1; subst e2
    exact ⟨cs1, t, h0', h2, by omega⟩
  · exact ⟨cs, t, (hw.far b (lt_of_heap h1) e).trans h1, h2, h3⟩
theorem Room.new (w : World) (t : TypeId) (cs : Array Value) (ht : t ≠ 169) (hs : o + 1 < cs.size) : Room (w.alloc (.cells cs t)) w.heap.size o := ⟨cs, t, heap_alloc_new w _, ht, hs⟩
theorem Room.cells (h : Room w b o) : ∃ u v, w.cell? ⟨b, o, none⟩ = some u ∧ w.cell? ⟨b, o + 1, none⟩ = some v ∧ w.frozen? ⟨b, o, none⟩ = false ∧ w.frozen? ⟨b, o + 1, none⟩ = false := by
  obtain ⟨cs, t, h1, _, h3⟩ := h
  exact ⟨cs[o], cs[o + 1], by simp [World.cell?, h1, show o < cs.size by omega], by simp [World.cell?, h1, h3], by simp [World.frozen?, h1], by simp [World.frozen?, h1]⟩

theorem IntAt.room (h : IntAt w b o z) : Room w b o := by
  obtain ⟨cs, t, _, _, _, h1, h2, _, h4, _⟩ := h
  exact ⟨cs, t, h1, h2, (Array.getElem?_eq_some_iff.1 h4).1⟩
theorem IntAt.lt (h : IntAt w b o z) : b < w.heap.size := h.room.lt
theorem IntAt.below (h : IntAt w b o z) (hb : Below w.heap.size w w') : IntAt w' b o z := by
  obtain ⟨cs, t, A, n, c, h1, h2, h3, h4, h5⟩ := h
  exact ⟨cs, t, A, n, c, (hb.block b (lt_of_heap h1)).trans h1, h2, h3, h4, h5.below hb⟩
theorem IntAt.alloc (h : IntAt w b o z) (ob : Obj) : IntAt (w.alloc ob) b o z := h.below ((Below.refl _ _).alloc (Nat.le_refl _) _)
theorem IntAt.drewN (h : IntAt w b o z) (k : Nat) : IntAt (w.drewN k) b o z := h
theorem IntAt.but (h : IntAt w b o z) (hw : But w w' b' o') (hne : b ≠ b' ∨ (o ≠ o' ∧ o + 1 ≠ o' ∧ o ≠ o' + 1)) : IntAt w' b o z := by
  obtain ⟨cs, t, A, n, c, h1, h2, h3, h4, h5⟩ := h
  by_cases e : b = b'
  · subst e
    obtain ⟨cs0, cs1, t', h0, h0', ht, hs, hj⟩ := hw.near
    rw [h1] at h0; injection h0 with h0; injection h0 with e1 e2; subst e1; subst e2
    rcases hne with hne | hne
    · exact absurd rfl hne
    · exact ⟨cs1, t, A, n, c, h0', h2, by rw [hj o (by omega) (by omega)]; exact h3, by rw [hj (o + 1) (by omega) (by omega)]; exact h4, h5.but hw⟩
  · exact ⟨cs, t, A, n, c, (hw.far b (lt_of_heap h1) e).trans h1, h2, h3, h4, h5.but hw⟩
/-- as a walk wants it -/
theorem IntAt.cells (h : IntAt w b o z) : ∃ A n c, w.cell? ⟨b, o, none⟩ = some (.bool (sg z)) ∧ w.cell? ⟨b, o + 1, none⟩ = some (.slice A n c) ∧ Dig w A n c z.natAbs := by
  obtain ⟨cs, t, A, n, c, h1, h2, h3, h4, h5⟩ := h
  exact ⟨A, n, c, by simp [World.cell?, h1, h3], by simp [World.cell?, h1, h4], h5⟩
theorem But.below (hw : But w w' b o) {B : Nat} (hb : B ≤ b) (hB : B ≤ w.heap.size) : Below B w w' := ⟨hw.os, hw.tape, hw.output, hw.size, fun k hk => hw.far k (by omega) (by omega)⟩
theorem But.refl (h : Room w b o) : But w w b o := by
  obtain ⟨cs, t, h1, h2, _⟩ := h
  exact ⟨rfl, rfl, rfl, Nat.le_refl _, fun _ _ _ => rfl, cs, cs, t, h1, h1, h2, rfl, fun _ _ _ => rfl⟩
theorem But.trans (h : But w w' b o) (k : But w' w'' b o) : But w w'' b o := by
  refine ⟨k.os.trans h.os, k.tape.trans h.tape, k.output.trans h.output, Nat.le_trans h.size k.size, fun i hi hne => (k.far i (Nat.lt_of_lt_of_le hi h.size) hne).trans (h.far i hi hne), ?_⟩
  obtain ⟨c0, c1, t, a1, a2, a3, a4, a5⟩ := h.near
  obtain ⟨d0, d1, t', b1, b2, b3, b4, b5⟩ := k.near
  rw [a2] at b1; injection b1 with b1; injection b1 with e1 e2; subst e1; subst e2
  exact ⟨c0, d1, t, a1, b2, a3, by omega, fun j h1 h2 => (b5 j h1 h2).trans (a5 j h1 h2)⟩
theorem But.after (h : Below w.heap.size w w') (k : But w' w'' b o) (hb : Room w b o) : But w w'' b o := by
  refine ⟨k.os.trans h.os, k.tape.trans h.tape, k.output.trans h.output, Nat.le_trans h.size k.size, fun i hi hne => (k.far i (Nat.lt_of_lt_of_le hi h.size) hne).trans (h.block i hi), ?_⟩
  obtain ⟨cs, t, h1, _, _⟩ := hb
  obtain ⟨d0, d1, t', b1, b2, b3, b4, b5⟩ := k.near
  rw [h.block b (lt_of_heap h1), h1] at b1; injection b1 with b1; injection b1 with e1 e2; subst e1; subst e2
  exact ⟨cs, d1, t, h1, b2, b3, b4, b5⟩
theorem But.then (h : But w w' b o) (k : Below w'.heap.size w' w'') : But w w'' b o := by
  refine ⟨k.os.trans h.os, k.tape.trans h.tape, k.output.trans h.output, Nat.le_trans h.size k.size, fun i hi hne => (k.block i (Nat.lt_of_lt_of_le hi h.size)).trans (h.far i hi hne), ?_⟩
  obtain ⟨c0, c1, t, a1, a2, a3, a4, a5⟩ := h.near
  exact ⟨c0, c1, t, a1, (k.block b (lt_of_heap a2)).trans a2, a3, a4, a5⟩
theorem But.drewN (h : But w w' b o) (k : Nat) : But w (w'.drewN k) b o := ⟨h.os, h.tape, h.output, h.size, h.far, h.near⟩
theorem But.drewN_left {k : Nat} (h : But (w.drewN k) w' b o) : But w w' b o := ⟨h.os, h.tape, h.output, h.size, h.far, h.near⟩
theorem Below.undrew {B : Nat} (h : Below B w.drew w') : Below B w w' := ⟨h.os, h.tape, h.output, h.size, h.block⟩
theorem But.undrew (h : But w.drew w' b o) : But w w' b o := ⟨h.os, h.tape, h.output, h.size, h.far, h.near⟩
theorem Below.drewN_left {B k : Nat} (h : Below B (w.drewN k) w') : Below B w w' := ⟨h.os, h.tape, h.output, h.size, h.block⟩
theorem Below.drewN' {B : Nat} (h : Below B w w') (k : Nat) : Below B w (w'.drewN k) := ⟨h.os, h.tape, h.output, h.size, h.block⟩
/-- what laid does -/
theorem But.lay (h : Room w b o) (u v : Value) : But w ((w.setCell ⟨b, o, none⟩ u).setCell ⟨b, o + 1, none⟩ v) b o := by
  obtain ⟨cs, t, h1, h2, h3⟩ := h
  refine ⟨rfl, rfl, rfl, by simp, fun k hk hne => ?_, cs, (cs.setIfInBounds o u).setIfInBounds (o + 1) v, t, h1, by simp [World.setCell, Array.getElem?_modify, h1], h2, by simp, fun j hj hj1 => ?_⟩
  · rw [Below.heap_setCell _ _ _ _ hne, Below.heap_setCell _ _ _ _ hne]
  · rw [Array.getElem?_setIfInBounds_ne (by omega), Array.getElem?_setIfInBounds_ne (by omega)]
theorem IntAt.lay (h : Room w b o) (hd : Dig w A n c z.natAbs) : IntAt ((w.setCell ⟨b, o, none⟩ (.bool (sg z))).setCell ⟨b, o + 1, none⟩ (.slice A n c)) b o z := by
  have hw := But.lay h (.bool (sg z)) (.slice A n c)
  obtain ⟨cs, t, h1, h2, h3⟩ := h
  refine ⟨(cs.setIfInBounds o (.bool (sg z))).setIfInBounds (o + 1) (.slice A n c), t, A, n, c, by simp [World.setCell, Array.getElem?_modify, h1], h2, ?_, ?_, hd.but hw⟩
  · rw [Array.getElem?_setIfInBounds_ne (by omega), Array.getElem?_setIfInBounds]; simp; omega
  · rw [Array.getElem?_setIfInBounds]; simp; omega
theorem Tab.but (h : Tab w) (hw : But w w' b o) (hb : b ≠ 1) : Tab w' := fun j hj => by
  rw [← h j hj]; exact World.cell?_of_block (w := w) (hw.far 1 h.lt (fun e => hb e.symm))
end
end Go.Proofs.YtgcifpjhhoalmaaDoor
