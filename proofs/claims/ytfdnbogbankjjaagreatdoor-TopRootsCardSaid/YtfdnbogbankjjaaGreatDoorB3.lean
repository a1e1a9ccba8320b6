/- The walks of wide's Int. -/
import Derived.StillTail
import Derived.WalkKit
import Derived.Test.YtfdnbogbankjjaaGreatDoorB2
import Derived.Laws.Rows
import Derived.Deep.RegionWith
import Derived.Deep.RegionHeld3
import Derived.Maps.RangeWalk
import Derived.Test.YtfdnbogbankjjaaGreatDoorB1

/- A region that draws its order, cut ahead of a forced tail: what stands ahead is a region of its own, the tail goes in the text's order. Of no program. -/
namespace Fil
open Go

section
variable {P : Program} {md : Region.Mode}

/-- behind the head the tail, in its order -/
def QCut (P : Program) (ops : Array Oper) (tail : List Oper) (Q : Exit → Act → World → Prop) : Exit → Act → World → Prop
  | .normal, a, w => wpList P ops Q tail a w
  | e, a, w => Q e a w

theorem letsOut_cut {ops : Array Oper} {tail : List Oper} {Q : Exit → Act → World → Prop} (h : LetsOut (QCut P ops tail Q)) : LetsOut Q := h

theorem oper_cut {ops : Array Oper} {tail : List Oper} {Q : Exit → Act → World → Prop} {o : Oper} {a : Act} {w : World} {K K' : Act → World → Prop}
    (h : ∀ a w, K' a w → K a w) (hh : o.wp P a w K' (QCut P ops tail Q)) : o.wp P a w K Q := by
  unfold Oper.wp at *
  generalize (execOp a.eval o).run P w = r at *
  cases r with
  | ok n w' =>
    cases n <;> simp only [Oper.upon] at hh ⊢ <;>
      first
        | exact h _ _ hh
        | exact Calls.mono hh (fun e w'' he => by cases e <;> first | exact h _ _ he | exact he)
        | exact Rows.mono hh (fun _ _ he => h _ _ he)
  | halt x w' => cases x <;> simp only [Oper.upon] at hh ⊢ <;> exact hh

theorem wpOp_cut {ops ops' : Array Oper} {tail : List Oper} {Q : Exit → Act → World → Prop} {i : Nat} {o : Oper} {a : Act} {w : World} {K K' : Act → World → Prop}
    (ho : ops[i]? = some o) (ho' : ops'[i]? = some o) (hg : o.guard = none) (h : ∀ a w, K' a w → K a w) (hh : wpOp P ops' (QCut P ops tail Q) i K' a w) : wpOp P ops Q i K a w := by
  have hw : ∀ x, Region.wanted o x = true := fun x => by simp [Region.wanted, hg]
  unfold wpOp at *
  simp only [ho, ho', hw, if_true] at *
  rcases hh with hh | hh
  · exact .inl (oper_cut h hh)
  · exact .inr ⟨hh.1, letsOut_cut hh.2⟩

theorem wpAny_more {ops : Array Oper} {Q : Exit → Act → World → Prop} : ∀ (f : Nat) (listed : Array Bool) (a : Act) (w : World), wpAny P md ops Q f listed a w → wpAny P md ops Q (f + 1) listed a w
  | 0, listed, a, w, h => ⟨fun _ => h.2, fun i hi => by rw [h.1] at hi; cases hi⟩
  | f + 1, listed, a, w, h => ⟨h.1, fun i hi => wpOp_mono (fun a' w' h' => wpAny_more f _ a' w' h') (h.2 i hi)⟩
theorem wpAny_many {ops : Array Oper} {Q : Exit → Act → World → Prop} {f : Nat} {listed : Array Bool} {a : Act} {w : World} (h : wpAny P md ops Q f listed a w) : ∀ k, wpAny P md ops Q (f + k) listed a w
  | 0 => h
  | k + 1 => wpAny_more _ _ _ _ (wpAny_many h k)

/-- all operations wait for elder ones alone, none is guarded -/
def backB (ops : Array Oper) : Bool :=
  (List.range ops.size).all fun i => match ops[i]? with
    | some o => o.guard.isNone && o.after.all fun e => decide (e.on < i)
    | none => true
theorem backB_spec {ops : Array Oper} (h : backB ops = true) {i : Nat} {o : Oper} (ho : ops[i]? = some o) : o.guard = none ∧ ∀ e ∈ o.after, e.on < i := by
  have hi : i < ops.size := (Array.getElem?_eq_some_iff.1 ho).1
  have h1 := List.all_eq_true.1 h i (List.mem_range.2 hi)
  simp only [ho, Bool.and_eq_true, Option.isNone_iff_eq_none] at h1
  exact ⟨h1.1, fun e he => by simpa using Array.all_eq_true'.1 h1.2 e he⟩

/-- the head done, the tail to come -/
def full (n g : Nat) : Array Bool := Array.replicate n true ++ Array.replicate g false

def cutB (md : Region.Mode) (ops : Array Oper) (n : Nat) : Bool :=
  decide (n < ops.size) && Region.sinkB md ops n && Region.chainB md ops n && backB ops && Region.seqB md ops (ops.size - n) n (full n (ops.size - n))

theorem ext_get {α : Type} (xs : Array α) {n j : Nat} (hn : n ≤ xs.size) (hj : j < n) : (xs.extract 0 n)[j]? = xs[j]? := by
  rw [Array.getElem?_extract, if_pos (by omega), Nat.zero_add]
theorem ext_none {α : Type} (xs : Array α) {n j : Nat} (hj : ¬ j < n) : (xs.extract 0 n)[j]? = none := by
  rw [Array.getElem?_extract, if_neg (by omega)]
theorem ready_take {ops : Array Oper} {n : Nat} {listed : Array Bool} (hn : n < ops.size) (inv : HeadInv md ops n listed) {i : Nat} (hi : i < n) :
    i ∈ Region.ready md ops listed ↔ i ∈ Region.ready md (ops.extract 0 n) (listed.extract 0 n) := by
  have hs := inv.size
  have e1 : ∀ j d, j < n → (listed.extract 0 n).getD j d = listed.getD j d := fun j d hj => by
    rw [Array.getD_eq_getD_getElem?, Array.getD_eq_getD_getElem?, ext_get listed (by omega) hj]
  have e2 : (ops.extract 0 n)[i]? = ops[i]? := ext_get ops (by omega) hi
  have e3 : ∀ j, ¬ j < n → (listed.extract 0 n).getD j false = false := fun j hj => by
    rw [Array.getD_eq_getD_getElem?, ext_none listed hj]; rfl
  have e4 : ∀ j, ¬ j < n → listed.getD j false = false := fun j hj => by
    by_cases h : j < ops.size
    · exact getD_both (inv.tail j (by omega) h)
    · simp [Array.getD_eq_getD_getElem?, Array.getElem?_eq_none (show listed.size ≤ j by omega)]
  have e5 : ∀ j, (listed.extract 0 n).getD j false = listed.getD j false := fun j => by
    by_cases h : j < n
    · exact e1 j false h
    · rw [e3 j h, e4 j h]
  rw [mem_ready, mem_ready, e1 i true hi, e2]
  simp only [e5]

theorem full_of {ops : Array Oper} {n : Nat} {listed : Array Bool} (hn : n < ops.size) (inv : HeadInv md ops n listed) (hb : backB ops = true)
    (hr : Region.ready md (ops.extract 0 n) (listed.extract 0 n) = []) : listed = full n (ops.size - n) := by
  have hs := inv.size
  have all : ∀ m i, i ≤ m → i < n → listed.getD i true = true := by
    intro m
    induction m using Nat.strongRecOn with
    | _ m ih =>
      intro i him hi
      cases hc : listed.getD i true with
      | true => rfl
      | false =>
        exfalso
        have ho : ops[i]? = some ops[i] := Array.getElem?_eq_getElem (by omega)
        obtain ⟨_, hback⟩ := backB_spec hb ho
        have : i ∈ Region.ready md ops listed := mem_ready.2 ⟨hc, ops[i], ho, fun e he _ => by
          have h1 := hback e he
          have h2 := ih e.on (by omega) e.on (Nat.le_refl _) (by omega)
          have h3 : e.on < listed.size := by omega
          simpa [Array.getD_eq_getD_getElem?, h3] using h2⟩
        rw [ready_take hn inv hi, hr] at this
        cases this
  apply Array.ext
  · simp [full]; omega
  · intro i h1 h2
    apply Option.some.inj
    rw [← Array.getElem?_eq_getElem h1, ← Array.getElem?_eq_getElem h2]
    show listed[i]? = (Array.replicate n true ++ Array.replicate (ops.size - n) false)[i]?
    rw [Array.getElem?_append]
    by_cases hi : i < n
    · have := all i i (Nat.le_refl _) hi
      rw [if_pos (by simpa using hi)]
      simp [hi]
      simpa [Array.getD_eq_getD_getElem?, h1] using this
    · rw [if_neg (by simpa using hi)]
      have := inv.tail i (by omega) (by omega)
      have h3 : i - n < ops.size - n := by omega
      simp [h3]
      simpa [Array.getD_eq_getD_getElem?, h1] using this

theorem wpAny_cut {ops : Array Oper} {n : Nat} {Q : Exit → Act → World → Prop} {tail : List Oper} (hB : cutB md ops n = true) (ht : ∀ j, tail[j]? = ops[n + j]?) (hl : tail.length = ops.size - n) :
    ∀ (f : Nat) (listed : Array Bool) (a : Act) (w : World), HeadInv md ops n listed →
      wpAny P md (ops.extract 0 n) (QCut P ops tail Q) f (listed.extract 0 n) a w → wpAny P md ops Q (tail.length + f) listed a w := by
  simp only [cutB, Bool.and_eq_true, decide_eq_true_eq] at hB
  obtain ⟨⟨⟨⟨hn, hs⟩, hc⟩, hb⟩, hq⟩ := hB
  have fin : ∀ (listed : Array Bool) (a : Act) (w : World), HeadInv md ops n listed → Region.ready md (ops.extract 0 n) (listed.extract 0 n) = [] → wpList P ops Q tail a w → wpAny P md ops Q tail.length listed a w := by
    intro listed a w inv hr h
    rw [full_of hn inv hb hr]
    exact wpAny_of_seq tail n _ a w ht (by rw [hl]; exact hq) h
  intro f
  induction f with
  | zero => intro listed a w inv h; exact fin listed a w inv h.1 h.2
  | succ f ih =>
    intro listed a w inv h
    by_cases hr : Region.ready md (ops.extract 0 n) (listed.extract 0 n) = []
    · exact wpAny_many (fin listed a w inv hr (h.1 hr)) (f + 1)
    · have small : ∀ i ∈ Region.ready md ops listed, i < n := by
        intro i hi
        rcases Nat.lt_or_ge i n with h1 | h1
        · exact h1
        · exfalso
          obtain ⟨j, hj⟩ := List.exists_mem_of_ne_nil _ hr
          have hjn : j < n := by
            obtain ⟨_, oj, hoj, _⟩ := mem_ready.1 hj
            have := (Array.getElem?_eq_some_iff.1 hoj).1
            simp at this; omega
          have hj2 := (ready_take hn inv hjn).2 hj
          exact tail_waits hs hc hn inv (n - j) j rfl hjn (mem_ready.1 hj2).1 i h1 hi
      refine ⟨fun h0 => ?_, fun i hi => ?_⟩
      · exfalso
        obtain ⟨j, hj⟩ := List.exists_mem_of_ne_nil _ hr
        have hjn : j < n := by
          obtain ⟨_, oj, hoj, _⟩ := mem_ready.1 hj
          have := (Array.getElem?_eq_some_iff.1 hoj).1
          simp at this; omega
        have hj2 := (ready_take hn inv hjn).2 hj
        rw [h0] at hj2; cases hj2
      · have hin := small i hi
        have ho : ops[i]? = some ops[i] := Array.getElem?_eq_getElem (by omega)
        have ho' : (ops.extract 0 n)[i]? = some ops[i] := (ext_get ops (by omega) hin).trans ho
        refine wpOp_cut ho ho' (backB_spec hb ho).1 (fun a' w' h' => ?_) (h.2 i ((ready_take hn inv hin).1 hi))
        refine ih (listed.setIfInBounds i true) a' w' (inv.set hi hin) ?_
        have : (listed.setIfInBounds i true).extract 0 n = (listed.extract 0 n).setIfInBounds i true := by
          have hs := inv.size
          apply Array.ext_getElem?
          intro k
          by_cases hk : k < n
          · rw [ext_get _ (by simp; omega) hk, Array.getElem?_setIfInBounds, Array.getElem?_setIfInBounds, ext_get _ (by omega) hk]
            by_cases e : i = k
            · rw [if_pos e, if_pos e, if_pos (by omega), if_pos (by rw [Array.size_extract]; omega)]
            · rw [if_neg e, if_neg e]
          · rw [ext_none _ hk, Array.getElem?_setIfInBounds, if_neg (by omega), ext_none _ hk]
        rw [this]; exact h'

/-- the region cut ahead of its last operations -/
theorem wp_region_cut {id : Nat} {Q : Exit → Act → World → Prop} {a : Act} {w : World} {l : List Oper} (n : Nat) (hm : P.follows .mixedOrders = true) (hB : cutB .any l.toArray n = true)
    (h : ∀ W : World, W = w.drew → wpAny P .any (l.take n).toArray (QCut P l.toArray (l.drop n) Q) n (Array.replicate n false) a W) : (Code.region id l.toArray true).wp P Q a w := by
  have hB2 := hB
  simp only [cutB, Bool.and_eq_true, decide_eq_true_eq] at hB2
  have hn : n < l.length := by simpa using hB2.1.1.1.1
  refine wp_region_any hm ?_
  have inv0 : HeadInv .any l.toArray n (Array.replicate l.toArray.size false) :=
    ⟨by simp, fun j oj _ hl => (by rw [getD_replicate_false] at hl; cases hl), fun t _ ht => getD_in (by simpa using ht) (getD_replicate_false _ _)⟩
  have e1 : l.toArray.extract 0 n = (l.take n).toArray := by simp
  have e2 : (Array.replicate l.toArray.size false).extract 0 n = Array.replicate n false := by
    apply Array.ext
    · simp; omega
    · intro i h1 h2; simp
  have H := wpAny_cut (P := P) (Q := Q) (tail := l.drop n) hB (fun j => by simp [List.getElem?_drop]) (by simp) n _ a w.drew inv0 (by rw [e1, e2]; exact h _ rfl)
  have e3 : (l.drop n).length + n = l.toArray.size := by simp; omega
  rw [e3] at H
  exact H
end
end Fil

/- Words on wide's Int: a whole number behind a pointer; what a method writes. -/
namespace Go.Proofs.YtfdnbogbankjjaaGreatDoor
open Go Go.RowKit Fil
theorem tkA {P : Program} {ops : Array Oper} {Q : Exit → Act → World → Prop} {md : Region.Mode} {S : World → Prop} (i : Nat) {oi : Oper} {v : Value} {fuel : Nat} {listed : Array Bool} {a : Act} {w : World}
    (h : wpAnyH P md ops Q S fuel (listed.setIfInBounds i true) (a.put oi.dst v) w)
    (hi : ops[i]? = some oi := by first | (simp only [List.getElem?_toArray, List.getElem?_cons_zero, List.getElem?_cons_succ]; rfl) | rfl)
    (hs : Region.noSelect ops = true := by kernel_rfl) (hf : Region.free md ops listed i = true := by kernel_rfl) (hr : (Region.ready md ops listed).contains i = true := by kernel_rfl)
    (hQ : ∀ c a w, Q (.panic c) (a.put oi.dst v) w → Q (.panic c) a w := by exact fun _ _ _ h => h)
    (hy : YieldsIf P ops S oi v a := by exact Or.inl ⟨by rfl, by (intro w hSw; (try dsimp only at hSw); go_simp; (try with_reducible rfl); (try (refine (if_neg ?_).trans rfl; omega)))⟩)
    (hS : S w := by assumption) : wpAnyH P md ops Q S (fuel + 1) listed a w :=
  wpAnyH_take hi hs hf hr hQ hy hS h

/-- the sign's bit -/
def sg (z : Int) : Bool := decide (z < 0)
/-- a slice of digits holds the number x -/
def Dig (w : World) (A : Option Addr) (n c x : Nat) : Prop := n = dn 32 x ∧ n ≤ c ∧ Slc w 155 A n (d32 x)
/-- a place for an Int: two cells in a block that is no row of digits -/
def Room (w : World) (b o : Nat) : Prop := ∃ (cs : Array Value) (t : TypeId), w.heap[b]? = some (.cells cs t (0, 0)) ∧ t ≠ 155 ∧ o + 1 < cs.size
/-- the Int at a place -/
def IntAt (w : World) (b o : Nat) (z : Int) : Prop :=
  ∃ (cs : Array Value) (t : TypeId) (A : Option Addr) (n c : Nat), w.heap[b]? = some (.cells cs t (0, 0)) ∧ t ≠ 155 ∧ cs[o]? = some (.bool (sg z)) ∧ cs[o + 1]? = some (.slice A n c) ∧ Dig w A n c z.natAbs
/-- all that was there is as it was, but for the two cells of a place -/
structure But (w w' : World) (b o : Nat) : Prop where
  os : w'.os = w.os
  tape : w'.tape = w.tape
  output : w'.output = w.output
  size : w.heap.size ≤ w'.heap.size
  far : ∀ k, k < w.heap.size → k ≠ b → w'.heap[k]? = w.heap[k]?
  near : ∃ (cs cs' : Array Value) (t : TypeId), w.heap[b]? = some (.cells cs t (0, 0)) ∧ w'.heap[b]? = some (.cells cs' t (0, 0)) ∧ t ≠ 155 ∧ cs'.size = cs.size ∧ ∀ j, j ≠ o → j ≠ o + 1 → cs'[j]? = cs[j]?

section
variable {w w' w'' : World} {b o b' o' : Nat} {z : Int} {A : Option Addr} {n c x : Nat}
theorem Dig.below (h : Dig w A n c x) (hb : Below w.heap.size w w') : Dig w' A n c x := ⟨h.1, h.2.1, h.2.2.below hb⟩
theorem Dig.but (h : Dig w A n c x) (hw : But w w' b o) : Dig w' A n c x := ⟨h.1, h.2.1, h.2.2.keep fun k cs fz hc => by
  obtain ⟨cs0, cs1, t, h0, _, ht, _, _⟩ := hw.near
  refine hw.far k (lt_of_heap hc) ?_
  rintro rfl
  rw [hc] at h0; injection h0 with h0; injection h0 with _ h0; exact ht h0.symm⟩
theorem Room.lt (h : Room w b o) : b < w.heap.size := by obtain ⟨_, _, h, _⟩ := h; exact lt_of_heap h
theorem Room.below (h : Room w b o) (hb : Below w.heap.size w w') : Room w' b o := by
  obtain ⟨cs, t, h1, h2⟩ := h; exact ⟨cs, t, (hb.block b (lt_of_heap h1)).trans h1, h2⟩
theorem Room.cells (h : Room w b o) : ∃ u v, w.cell? ⟨b, o, none⟩ = some u ∧ w.cell? ⟨b, o + 1, none⟩ = some v ∧ w.frozen? ⟨b, o, none⟩ = false ∧ w.frozen? ⟨b, o + 1, none⟩ = false := by
  obtain ⟨cs, t, h1, _, h3⟩ := h
  exact ⟨cs[o], cs[o + 1], by simp [World.cell?, h1, show o < cs.size by omega], by simp [World.cell?, h1, h3], by simp [World.frozen?, h1], by simp [World.frozen?, h1]⟩

theorem IntAt.room (h : IntAt w b o z) : Room w b o := by
  obtain ⟨cs, t, _, _, _, h1, h2, _, h4, _⟩ := h
  exact ⟨cs, t, h1, h2, (Array.getElem?_eq_some_iff.1 h4).1⟩
theorem IntAt.lt (h : IntAt w b o z) : b < w.heap.size := h.room.lt
theorem IntAt.below (h : IntAt w b o z) (hb : Below w.heap.size w w') : IntAt w' b o z := by
  obtain ⟨cs, t, A, n, c, h1, h2, h3, h4, h5⟩ := h
  exact ⟨cs, t, A, n, c, (hb.block b (lt_of_heap h1)).trans h1, h2, h3, h4, h5.below hb⟩
theorem IntAt.alloc (h : IntAt w b o z) (ob : Obj) : IntAt (w.alloc ob) b o z := h.below ((Below.refl _ _).alloc (Nat.le_refl _) _)
theorem IntAt.but (h : IntAt w b o z) (hw : But w w' b' o') (hne : b ≠ b' ∨ (o ≠ o' ∧ o + 1 ≠ o' ∧ o ≠ o' + 1)) : IntAt w' b o z := by
  obtain ⟨cs, t, A, n, c, h1, h2, h3, h4, h5⟩ := h
  by_cases e : b = b'
  · subst e
    obtain ⟨cs0, cs1, t', h0, h0', ht, hs, hj⟩ := hw.near
    rw [h1] at h0; injection h0 with h0; injection h0 with e1 e2; subst e1; subst e2
    rcases hne with hne | hne
    · exact absurd rfl hne
    · exact ⟨cs1, t, A, n, c, h0', h2, by rw [hj o (by omega) (by omega)]; exact h3, by rw [hj (o + 1) (by omega) (by omega)]; exact h4, h5.but hw⟩
  · exact ⟨cs, t, A, n, c, (hw.far b (lt_of_heap h1) e).trans h1, h2, h3, h4, h5.but hw⟩
/-- as a walk wants it -/
theorem IntAt.cells (h : IntAt w b o z) : ∃ A n c, w.cell? ⟨b, o, none⟩ = some (.bool (sg z)) ∧ w.cell? ⟨b, o + 1, none⟩ = some (.slice A n c) ∧ Dig w A n c z.natAbs := by
  obtain ⟨cs, t, A, n, c, h1, h2, h3, h4, h5⟩ := h
  exact ⟨A, n, c, by simp [World.cell?, h1, h3], by simp [World.cell?, h1, h4], h5⟩
theorem But.below (hw : But w w' b o) {B : Nat} (hb : B ≤ b) (hB : B ≤ w.heap.size) : Below B w w' := ⟨hw.os, hw.tape, hw.output, hw.size, fun k hk => hw.far k (by omega) (by omega)⟩
theorem But.after (h : Below w.heap.size w w') (k : But w' w'' b o) (hb : Room w b o) : But w w'' b o := by
  refine ⟨k.os.trans h.os, k.tape.trans h.tape, k.output.trans h.output, Nat.le_trans h.size k.size, fun i hi hne => (k.far i (Nat.lt_of_lt_of_le hi h.size) hne).trans (h.block i hi), ?_⟩
  obtain ⟨cs, t, h1, _, _⟩ := hb
  obtain ⟨d0, d1, t', b1, b2, b3, b4, b5⟩ := k.near
  rw [h.block b (lt_of_heap h1), h1] at b1; injection b1 with b1; injection b1 with e1 e2; subst e1; subst e2
  exact ⟨cs, d1, t, h1, b2, b3, b4, b5⟩
theorem Below.undrew {B : Nat} (h : Below B w.drew w') : Below B w w' := ⟨h.os, h.tape, h.output, h.size, h.block⟩
theorem But.undrew (h : But w.drew w' b o) : But w w' b o := ⟨h.os, h.tape, h.output, h.size, h.far, h.near⟩
theorem Below.drewN' {B : Nat} (h : Below B w w') (k : Nat) : Below B w (w'.drewN k) := ⟨h.os, h.tape, h.output, h.size, h.block⟩
/-- what laid does -/
theorem But.lay (h : Room w b o) (u v : Value) : But w ((w.setCell ⟨b, o, none⟩ u).setCell ⟨b, o + 1, none⟩ v) b o := by
  obtain ⟨cs, t, h1, h2, h3⟩ := h
  refine ⟨rfl, rfl, rfl, by simp, fun k hk hne => ?_, cs, (cs.setIfInBounds o u).setIfInBounds (o + 1) v, t, h1, by simp [World.setCell, Array.getElem?_modify, h1], h2, by simp, fun j hj hj1 => ?_⟩
  · rw [Below.heap_setCell _ _ _ _ hne, Below.heap_setCell _ _ _ _ hne]
  · rw [Array.getElem?_setIfInBounds_ne (by omega), Array.getElem?_setIfInBounds_ne (by omega)]
theorem IntAt.lay (h : Room w b o) (hd : Dig w A n c z.natAbs) : IntAt ((w.setCell ⟨b, o, none⟩ (.bool (sg z))).setCell ⟨b, o + 1, none⟩ (.slice A n c)) b o z := by
  have hw := But.lay h (.bool (sg z)) (.slice A n c)
  obtain ⟨cs, t, h1, h2, h3⟩ := h
  refine ⟨(cs.setIfInBounds o (.bool (sg z))).setIfInBounds (o + 1) (.slice A n c), t, A, n, c, by simp [World.setCell, Array.getElem?_modify, h1], h2, ?_, ?_, hd.but hw⟩
  · rw [Array.getElem?_setIfInBounds_ne (by omega), Array.getElem?_setIfInBounds]; simp; omega
  · rw [Array.getElem?_setIfInBounds]; simp; omega
end
end Go.Proofs.YtfdnbogbankjjaaGreatDoor

/- The walks over wide's Int, first part: laid, Sign, BitLen, TrailingZeroBits, Neg, Abs, SetUint64, NewInt. -/
namespace Go.Proofs.YtfdnbogbankjjaaGreatDoor
open Go Go.RowKit Fil

/-- a sign and a magnitude -/
def sz (neg : Bool) (x : Nat) : Int := if neg then -(x : Int) else x
theorem sz_abs (neg : Bool) (x : Nat) : (sz neg x).natAbs = x := by unfold sz; split <;> omega
theorem sz_sg {neg : Bool} {x n : Nat} (hn : n = dn 32 x) : sg (sz neg x) = (neg && decide (0 < n)) := by
  have h : (0 < n) ↔ x ≠ 0 := by
    rw [hn]; constructor
    · intro h h0; rw [h0, dn_zero] at h; omega
    · exact dn_pos
  unfold sz sg
  cases neg
  · simp
  · by_cases hx : x = 0
    · have : ¬ 0 < n := by rw [h]; simp [hx]
      simp [hx, this]
    · have h2 := h.2 hx
      simp [h2]; omega
theorem sz_self (z : Int) : sz (sg z) z.natAbs = z := by unfold sz sg; split <;> simp_all <;> omega

set_option maxHeartbeats 1000000 in
theorem laid_any (b o : Nat) (neg : Bool) (A : Option Addr) (n c : Nat) (w : World) (hr : Room w b o) (hn : n ≤ 4398046511104) :
    Calls Tryz.prog 119 #[.pointer (some ⟨b, o, none⟩), .bool neg, .slice A n c] w fun e w' => e = .returned (.pointer (some ⟨b, o, none⟩)) ∧ (w.setCell ⟨b, o, none⟩ (.bool (neg && decide (0 < n)))).setCell ⟨b, o + 1, none⟩ (.slice A n c) = w' := by
  obtain ⟨u, v, h1, h2, h3, h4⟩ := hr.cells
  clear hr
  have h5 : ((w.setCell ⟨b, o, none⟩ (.bool (neg && decide (0 < n)))).cell? ⟨b, o + 1, none⟩) = some v := by
    rw [World.cell?_setCell_other _ _ _ _ (by simp)]; exact h2
  cases neg
  · go_enter Tryz.func119, Tryz.ntmps119
    go_wp2
    go_ret
    exact ⟨rfl, by simp⟩
  · by_cases h0 : 0 < n
    · have h0' : decide ((0 : Int) < n) = true := by simpa using h0
      have e1 : decide (0 < n) = true := by simpa using h0
      have E1 := Lib.hid e1
      clear e1 h0
      go_enter Tryz.func119, Tryz.ntmps119
      go_wp2
      go_ret
      exact ⟨rfl, by rw [E1.out]; rfl⟩
    · have h0' : decide ((0 : Int) < n) = false := by simp; omega
      have e1 : decide (0 < n) = false := by simp; omega
      have E1 := Lib.hid e1
      clear e1 h0
      go_enter Tryz.func119, Tryz.ntmps119
      go_wp2
      go_ret
      exact ⟨rfl, by rw [E1.out]; rfl⟩

theorem laid_int (b o : Nat) (neg : Bool) (A : Option Addr) (n c x : Nat) (w : World) (hr : Room w b o) (hn : n ≤ 4398046511104) (hd : Dig w A n c x) :
    Calls Tryz.prog 119 #[.pointer (some ⟨b, o, none⟩), .bool neg, .slice A n c] w fun e w' => e = .returned (.pointer (some ⟨b, o, none⟩)) ∧ IntAt w' b o (sz neg x) ∧ But w w' b o :=
  (laid_any b o neg A n c w hr hn).mono fun e w' ⟨he, hw⟩ => by
    subst hw
    rw [← sz_sg hd.1]
    exact ⟨he, IntAt.lay hr (by rw [sz_abs]; exact hd), But.lay hr _ _⟩

set_option maxHeartbeats 1000000 in
theorem sign_any (b o : Nat) (z : Int) (w : World) (h : IntAt w b o z) :
    Calls Tryz.prog 81 #[.pointer (some ⟨b, o, none⟩)] w fun e w' => e = .returned (.int .i64 z.sign) ∧ w = w' := by
  obtain ⟨A, n, c, h1, h2, h3, _, _⟩ := h.cells
  clear h
  rcases Int.lt_trichotomy z 0 with hz | hz | hz
  · have hn : ((n : Int) == 0) = false := by
      have : n ≠ 0 := by rw [h3]; have := dn_pos (k := 32) (x := z.natAbs) (by omega); omega
      simpa using this
    have e : sg z = true := by simp [sg, hz]
    rw [e] at h1
    have Hs := Lib.hid (Int.sign_eq_neg_one_of_neg hz)
    clear h3 hz e
    go_enter Tryz.func81, Tryz.ntmps81
    go_wp2
    go_ret
    exact ⟨by rw [Hs.out]; rfl, rfl⟩
  · subst hz
    have hn : ((n : Int) == 0) = true := by rw [h3]; simp [dn_zero]
    clear h3
    go_enter Tryz.func81, Tryz.ntmps81
    go_wp2
    go_ret
    exact ⟨rfl, rfl⟩
  · have hn : ((n : Int) == 0) = false := by
      have : n ≠ 0 := by rw [h3]; have := dn_pos (k := 32) (x := z.natAbs) (by omega); omega
      simpa using this
    have e : sg z = false := by simp [sg]; omega
    rw [e] at h1
    have Hs := Lib.hid (Int.sign_eq_one_of_pos hz)
    clear h3 hz e
    go_enter Tryz.func81, Tryz.ntmps81
    go_wp2
    go_ret
    exact ⟨by rw [Hs.out]; rfl, rfl⟩

theorem mul_sz (x y : Int) : sz (!(sg x == sg y)) (x.natAbs * y.natAbs) = x * y := by
  have hx : x = if x < 0 then -(x.natAbs : Int) else x.natAbs := by split <;> omega
  have hy : y = if y < 0 then -(y.natAbs : Int) else y.natAbs := by split <;> omega
  unfold sz sg
  generalize x.natAbs = a at *
  generalize y.natAbs = b at *
  by_cases h1 : x < 0 <;> by_cases h2 : y < 0 <;> simp only [h1, h2, if_true, if_false] at hx hy <;> subst hx <;> subst hy <;> simp [h1, h2] <;> simp_all [Int.neg_mul, Int.mul_neg]
theorem neg_sz (z : Int) : sz (!sg z) z.natAbs = -z := by unfold sz sg; by_cases h : z < 0 <;> simp [h] <;> omega
set_option maxHeartbeats 1000000 in
theorem neg_any (b o b' o' : Nat) (z : Int) (w : World) (hr : Room w b o) (h : IntAt w b' o' z) (hz : dn 32 z.natAbs ≤ 1099511627776) :
    Calls Tryz.prog 85 #[.pointer (some ⟨b, o, none⟩), .pointer (some ⟨b', o', none⟩)] w fun e w' => e = .returned (.pointer (some ⟨b, o, none⟩)) ∧ IntAt w' b o (-z) ∧ But w w' b o := by
  obtain ⟨A, n, c, h1, h2, h3⟩ := h.cells
  rw [← h3.1] at hz
  clear h
  go_enter Tryz.func85, Tryz.ntmps85
  go_wp2
  go_region_with (go_at_call 119; refine (laid_int b o _ A n c z.natAbs _ (by exact hr) (by omega) (by exact h3)).mono ?_; rintro e w' ⟨rfl, hI, hB⟩)
  all_goals
    go_wp2
    go_ret
    rw [neg_sz] at hI
    exact ⟨rfl, hI, hB.undrew⟩

set_option maxHeartbeats 1000000 in
theorem mul_any (b o b1 o1 b2 o2 : Nat) (x y : Int) (w : World) (hr : Room w b o) (h1 : IntAt w b1 o1 x) (h2 : IntAt w b2 o2 y) (hx : dn 32 x.natAbs ≤ 1099511627776) (hy : dn 32 y.natAbs ≤ 1099511627776) :
    Calls Tryz.prog 117 #[.pointer (some ⟨b, o, none⟩), .pointer (some ⟨b1, o1, none⟩), .pointer (some ⟨b2, o2, none⟩)] w fun e w' => e = .returned (.pointer (some ⟨b, o, none⟩)) ∧ IntAt w' b o (x * y) ∧ But w w' b o := by
  obtain ⟨A1, n1, c1, hn1, hd1, hD1⟩ := h1.cells
  obtain ⟨A2, n2, c2, hn2, hd2, hD2⟩ := h2.cells
  have l1 := h1.lt
  have l2 := h2.lt
  have hle : Hid (dn 32 (x.natAbs * y.natAbs) ≤ 4398046511104) := by
    have := dn_le (k := 32) (n := dn 32 x.natAbs + dn 32 y.natAbs) (by omega) (by rw [padd]; exact Nat.mul_lt_mul'' (lt_dn (by omega) x.natAbs) (lt_dn (by omega) y.natAbs))
    exact Lib.hid (by omega)
  rw [← hD1.1] at hx
  rw [← hD2.1] at hy
  clear h1 h2
  go_enter Tryz.func117, Tryz.ntmps117
  go_wp2_with fail
  refine wp_region_cut 19 (by kernel_rfl) (by kernel_rfl) ?_
  rintro W rfl
  simp only [List.take_succ_cons, List.take_zero, List.drop_succ_cons, List.drop_zero]
  have hHeld : (fun w' : World => w'.cell? ⟨b1, o1, none⟩ = some (.bool (sg x)) ∧ w'.cell? ⟨b1, o1 + 1, none⟩ = some (.slice A1 n1 c1) ∧ w'.cell? ⟨b2, o2, none⟩ = some (.bool (sg y)) ∧ w'.cell? ⟨b2, o2 + 1, none⟩ = some (.slice A2 n2 c2)) w.drew := ⟨hn1, hd1, hn2, hd2⟩
  refine wpAny_of_held (S := fun w' : World => w'.cell? ⟨b1, o1, none⟩ = some (.bool (sg x)) ∧ w'.cell? ⟨b1, o1 + 1, none⟩ = some (.slice A1 n1 c1) ∧ w'.cell? ⟨b2, o2, none⟩ = some (.bool (sg y)) ∧ w'.cell? ⟨b2, o2 + 1, none⟩ = some (.slice A2 n2 c2)) _ _ _ _ ?_
  refine tkA 0 ?_
  (try dsimp only [Act.put]); (try go_frame)
  refine tkA 1 ?_
  (try dsimp only [Act.put]); (try go_frame)
  refine tkA 2 ?_
  (try dsimp only [Act.put]); (try go_frame)
  refine tkA 3 ?_
  (try dsimp only [Act.put]); (try go_frame)
  refine tkA 4 ?_
  (try dsimp only [Act.put]); (try go_frame)
  refine tkA 5 ?_
  (try dsimp only [Act.put]); (try go_frame)
  refine tkA 6 ?_
  (try dsimp only [Act.put]); (try go_frame)
  refine tkA 7 ?_
  (try dsimp only [Act.put]); (try go_frame)
  refine tkA 8 ?_
  (try dsimp only [Act.put]); (try go_frame)
  refine tkA 9 ?_
  (try dsimp only [Act.put]); (try go_frame)
  refine tkA 10 ?_
  (try dsimp only [Act.put]); (try go_frame)
  refine tkA 11 ?_
  (try dsimp only [Act.put]); (try go_frame)
  refine tkA 12 ?_
  (try dsimp only [Act.put]); (try go_frame)
  refine tkA 13 ?_
  (try dsimp only [Act.put]); (try go_frame)
  refine tkA 14 ?_
  (try dsimp only [Act.put]); (try go_frame)
  refine tkA 15 ?_
  (try dsimp only [Act.put]); (try go_frame)
  refine tkA 16 ?_
  (try dsimp only [Act.put]); (try go_frame)
  refine tkA 17 ?_
  (try dsimp only [Act.put]); (try go_frame)
  refine wpAnyH_ready (rs := [18]) (by kernel_rfl) (by simp) ?_
  refine AllReadyH.cons rfl (fun K hK => ?_) AllReadyH.nil
  go_simp
  refine (times_any A1 A2 n1 c1 x.natAbs n2 c2 y.natAbs _ hD1.1 hD2.1 hD1.2.1 hD2.2.1 hx hy (by exact hD1.2.2) (by exact hD2.2.2)).mono ?_
  rintro e w1 ⟨A3, c3, rfl, hc3, hs3, hb3⟩
  have hb4 := Below.undrew hb3
  have hr1 := hr.below hb4
  have hD3 : Dig w1 A3 _ c3 _ := ⟨rfl, hc3, hs3⟩
  refine hK.out _ _ ?_ (fun hHeld => ?_)
  · exact ⟨(hb4.cell l1).trans hn1, (hb4.cell l1).trans hd1, (hb4.cell l2).trans hn2, (hb4.cell l2).trans hd2⟩
  clear hK K
  (try dsimp only [Act.put]); (try go_frame)
  refine wpAnyH_done (by kernel_rfl) ?_ _
  try simp only [QCut]
  go_wp2_with (go_at_call 119; go_must (refine (laid_int b o _ _ _ _ (x.natAbs * y.natAbs) _ hr1 hle.out hD3).mono ?_); rintro e w' ⟨rfl, hI, hB⟩)
  go_ret
  rw [mul_sz] at hI
  exact ⟨rfl, hI, But.after hb4 hB hr⟩
end Go.Proofs.YtfdnbogbankjjaaGreatDoor

/- The walks over wide's Int, second part: Lsh, Rsh. -/
namespace Go.Proofs.YtfdnbogbankjjaaGreatDoor
open Go Go.RowKit Fil

theorem lsh_sz (x : Int) (k : Nat) : sz (sg x) (x.natAbs * 2 ^ k) = x * 2 ^ k := by
  have hx : x = if x < 0 then -(x.natAbs : Int) else x.natAbs := by split <;> omega
  unfold sz sg
  generalize x.natAbs = a at *
  by_cases h1 : x < 0 <;> simp only [h1, if_true, if_false] at hx <;> subst hx <;> simp [h1, Int.neg_mul] <;> simp_all

set_option maxHeartbeats 1000000 in
theorem lsh_any (b o b1 o1 k : Nat) (x : Int) (w : World) (hr : Room w b o) (h1 : IntAt w b1 o1 x) (hx : dn 32 x.natAbs ≤ 1099511627776) (hk : k ≤ 1099511627776) :
    Calls Tryz.prog 86 #[.pointer (some ⟨b, o, none⟩), .pointer (some ⟨b1, o1, none⟩), .int .u64 k] w fun e w' => e = .returned (.pointer (some ⟨b, o, none⟩)) ∧ IntAt w' b o (x * 2 ^ k) ∧ But w w' b o := by
  obtain ⟨A1, n1, c1, hn1, hd1, hD1⟩ := h1.cells
  have l1 := h1.lt
  have hle : Hid (dn 32 (x.natAbs * 2 ^ k) ≤ 4398046511104) := by
    have h2 : x.natAbs * 2 ^ k < 2 ^ (32 * (dn 32 x.natAbs + (k / 32 + 1))) := by
      rw [padd]
      exact Nat.mul_lt_mul'' (lt_dn (by omega) x.natAbs) (Nat.pow_lt_pow_right (by omega) (by omega))
    have := dn_le (k := 32) (by omega) h2
    exact Lib.hid (by omega)
  rw [← hD1.1] at hx
  clear h1
  go_enter Tryz.func86, Tryz.ntmps86
  go_wp2_with fail
  refine wp_region_cut 11 (by kernel_rfl) (by kernel_rfl) ?_
  rintro W rfl
  simp only [List.take_succ_cons, List.take_zero, List.drop_succ_cons, List.drop_zero]
  have hHeld : (fun w' : World => w'.cell? ⟨b1, o1, none⟩ = some (.bool (sg x)) ∧ w'.cell? ⟨b1, o1 + 1, none⟩ = some (.slice A1 n1 c1)) w.drew := ⟨hn1, hd1⟩
  refine wpAny_of_held (S := fun w' : World => w'.cell? ⟨b1, o1, none⟩ = some (.bool (sg x)) ∧ w'.cell? ⟨b1, o1 + 1, none⟩ = some (.slice A1 n1 c1)) _ _ _ _ ?_
  refine tkA 0 ?_
  (try dsimp only [Act.put]); (try go_frame)
  refine tkA 1 ?_
  (try dsimp only [Act.put]); (try go_frame)
  refine tkA 2 ?_
  (try dsimp only [Act.put]); (try go_frame)
  refine tkA 3 ?_
  (try dsimp only [Act.put]); (try go_frame)
  refine tkA 4 ?_
  (try dsimp only [Act.put]); (try go_frame)
  refine tkA 5 ?_
  (try dsimp only [Act.put]); (try go_frame)
  refine tkA 6 ?_
  (try dsimp only [Act.put]); (try go_frame)
  refine tkA 7 ?_
  (try dsimp only [Act.put]); (try go_frame)
  refine tkA 8 ?_
  (try dsimp only [Act.put]); (try go_frame)
  refine tkA 9 ?_
  (try dsimp only [Act.put]); (try go_frame)
  refine wpAnyH_ready (rs := [10]) (by kernel_rfl) (by simp) ?_
  refine AllReadyH.cons rfl (fun K hK => ?_) AllReadyH.nil
  go_simp
  refine (left_any A1 n1 c1 x.natAbs k _ hD1.1 hD1.2.1 hx hk (by exact hD1.2.2)).mono ?_
  rintro e w1 ⟨A3, c3, rfl, hc3, hs3, hb3⟩
  have hb4 := Below.undrew hb3
  have hr1 := hr.below hb4
  have hD3 : Dig w1 A3 _ c3 _ := ⟨rfl, hc3, hs3⟩
  refine hK.out _ _ ?_ (fun hHeld => ?_)
  · exact ⟨(hb4.cell l1).trans hn1, (hb4.cell l1).trans hd1⟩
  clear hK K
  (try dsimp only [Act.put]); (try go_frame)
  refine wpAnyH_done (by kernel_rfl) ?_ _
  try simp only [QCut]
  go_wp2_with (go_at_call 119; go_must (refine (laid_int b o _ _ _ _ (x.natAbs * 2 ^ k) _ hr1 hle.out hD3).mono ?_); rintro e w' ⟨rfl, hI, hB⟩)
  go_ret
  rw [lsh_sz] at hI
  exact ⟨rfl, hI, But.after hb4 hB hr⟩

end Go.Proofs.YtfdnbogbankjjaaGreatDoor

/- The walks over wide's Int, third part: Add. -/
namespace Go.Proofs.YtfdnbogbankjjaaGreatDoor
open Go Go.RowKit Fil

theorem add_same {x y : Int} (h : (sg x == sg y) = true) : sz (sg x) (x.natAbs + y.natAbs) = x + y := by
  unfold sz sg at *
  by_cases h1 : x < 0 <;> by_cases h2 : y < 0 <;> simp [h1, h2] at h ⊢ <;> omega
theorem add_lt {x y : Int} (h : (sg x == sg y) = false) (hc : x.natAbs < y.natAbs) : sz (sg y) (y.natAbs - x.natAbs) = x + y := by
  unfold sz sg at *
  by_cases h1 : x < 0 <;> by_cases h2 : y < 0 <;> simp [h1, h2] at h ⊢ <;> omega
theorem add_ge {x y : Int} (h : (sg x == sg y) = false) (hc : y.natAbs ≤ x.natAbs) : sz (sg x) (x.natAbs - y.natAbs) = x + y := by
  unfold sz sg at *
  by_cases h1 : x < 0 <;> by_cases h2 : y < 0 <;> simp [h1, h2] at h ⊢ <;> omega

set_option maxHeartbeats 4000000 in
theorem add_any (b o b1 o1 b2 o2 : Nat) (x y : Int) (w : World) (hr : Room w b o) (h1 : IntAt w b1 o1 x) (h2 : IntAt w b2 o2 y) (hx : dn 32 x.natAbs ≤ 1099511627775) (hy : dn 32 y.natAbs ≤ 1099511627775) :
    Calls Tryz.prog 87 #[.pointer (some ⟨b, o, none⟩), .pointer (some ⟨b1, o1, none⟩), .pointer (some ⟨b2, o2, none⟩)] w fun e w' => e = .returned (.pointer (some ⟨b, o, none⟩)) ∧ IntAt w' b o (x + y) ∧ But w w' b o := by
  obtain ⟨A1, n1, c1, hn1, hd1, hD1⟩ := h1.cells
  obtain ⟨A2, n2, c2, hn2, hd2, hD2⟩ := h2.cells
  have l1 := h1.lt
  have l2 := h2.lt
  have hx0 := lt_dn (k := 32) (by omega) x.natAbs
  have hy0 := lt_dn (k := 32) (by omega) y.natAbs
  rw [← hD1.1] at hx hx0
  rw [← hD2.1] at hy hy0
  have Hx0 := Lib.hid hx0
  have Hy0 := Lib.hid hy0
  clear h1 h2 hx0 hy0
  cases hsame : (sg x == sg y)
  · by_cases hlt : x.natAbs < y.natAbs
    · have t1 : decide (cmpZ x.natAbs y.natAbs < 0) = true := by rw [cmpZ_lt hlt]; rfl
      have HS := Lib.hid (add_lt hsame hlt)
      have Hle := Lib.hid (Nat.le_of_lt hlt)
      have hn := dn_mono (k := 32) (by omega) (Nat.sub_le y.natAbs x.natAbs)
      rw [← hD2.1] at hn
      have Hn : Hid (dn 32 (y.natAbs - x.natAbs) ≤ 4398046511104) := Lib.hid (by omega)
      clear hlt hn
      go_enter Tryz.func87, Tryz.ntmps87
      go_wp2
      go_quiet ((go_at_call 122; exact Calls.quiet_of (cmp_any A1 A2 n1 c1 x.natAbs n2 c2 y.natAbs _ hD1.1 hD2.1 (by omega) (by omega) (by exact hD1.2.2) (by exact hD2.2.2))))
      go_wp2
      go_quiet (fail)
      go_wp2
      refine wp_region_cut 14 (by kernel_rfl) (by kernel_rfl) ?_
      rintro W rfl
      simp only [List.take_succ_cons, List.take_zero, List.drop_succ_cons, List.drop_zero]
      have hHeld : (fun w' : World => w'.cell? ⟨b2, o2, none⟩ = some (.bool (sg y)) ∧ w'.cell? ⟨b2, o2 + 1, none⟩ = some (.slice A2 n2 c2) ∧ w'.cell? ⟨b1, o1 + 1, none⟩ = some (.slice A1 n1 c1)) w.drew := ⟨hn2, hd2, hd1⟩
      refine wpAny_of_held (S := fun w' : World => w'.cell? ⟨b2, o2, none⟩ = some (.bool (sg y)) ∧ w'.cell? ⟨b2, o2 + 1, none⟩ = some (.slice A2 n2 c2) ∧ w'.cell? ⟨b1, o1 + 1, none⟩ = some (.slice A1 n1 c1)) _ _ _ _ ?_
      refine tkA 0 ?_
      (try dsimp only [Act.put]); (try go_frame)
      refine tkA 1 ?_
      (try dsimp only [Act.put]); (try go_frame)
      refine tkA 2 ?_
      (try dsimp only [Act.put]); (try go_frame)
      refine tkA 3 ?_
      (try dsimp only [Act.put]); (try go_frame)
      refine tkA 4 ?_
      (try dsimp only [Act.put]); (try go_frame)
      refine tkA 5 ?_
      (try dsimp only [Act.put]); (try go_frame)
      refine tkA 6 ?_
      (try dsimp only [Act.put]); (try go_frame)
      refine tkA 7 ?_
      (try dsimp only [Act.put]); (try go_frame)
      refine tkA 8 ?_
      (try dsimp only [Act.put]); (try go_frame)
      refine tkA 9 ?_
      (try dsimp only [Act.put]); (try go_frame)
      refine tkA 10 ?_
      (try dsimp only [Act.put]); (try go_frame)
      refine tkA 11 ?_
      (try dsimp only [Act.put]); (try go_frame)
      refine tkA 12 ?_
      (try dsimp only [Act.put]); (try go_frame)
      refine wpAnyH_ready (rs := [13]) (by kernel_rfl) (by simp) ?_
      refine AllReadyH.cons rfl (fun K hK => ?_) AllReadyH.nil
      go_simp
      refine (less_any A2 A1 n2 c2 y.natAbs n1 c1 x.natAbs _ hD2.1 hD1.1 Hle.out hD2.2.1 (by omega) (by exact hD2.2.2) (by exact hD1.2.2)).mono ?_
      rintro e w1 ⟨A3, c3, rfl, hc3, hs3, hb3⟩
      have hb4 : Below w.heap.size w w1 := ⟨hb3.os, hb3.tape, hb3.output, hb3.size, hb3.block⟩
      have hr1 := hr.below hb4
      have hD3 : Dig w1 A3 _ c3 _ := ⟨rfl, hc3, hs3⟩
      refine hK.out _ _ ?_ (fun hHeld => ?_)
      · exact ⟨(hb4.cell l2).trans hn2, (hb4.cell l2).trans hd2, (hb4.cell l1).trans hd1⟩
      clear hK K
      (try dsimp only [Act.put]); (try go_frame)
      refine wpAnyH_done (by kernel_rfl) ?_ _
      try simp only [QCut]
      go_wp2_with (go_at_call 119; go_must (refine (laid_int b o _ _ _ _ (y.natAbs - x.natAbs) _ hr1 Hn.out hD3).mono ?_); rintro e w' ⟨rfl, hI, hB⟩)
      go_ret
      rw [HS.out] at hI
      exact ⟨rfl, hI, But.after hb4 hB hr⟩
    · have t1 : decide (cmpZ x.natAbs y.natAbs < 0) = false := by unfold cmpZ; rw [if_neg hlt]; split <;> rfl
      have HS := Lib.hid (add_ge hsame (Nat.le_of_not_lt hlt))
      have Hle := Lib.hid (Nat.le_of_not_lt hlt)
      have hn := dn_mono (k := 32) (by omega) (Nat.sub_le x.natAbs y.natAbs)
      rw [← hD1.1] at hn
      have Hn : Hid (dn 32 (x.natAbs - y.natAbs) ≤ 4398046511104) := Lib.hid (by omega)
      clear hlt hn
      go_enter Tryz.func87, Tryz.ntmps87
      go_wp2
      go_quiet ((go_at_call 122; exact Calls.quiet_of (cmp_any A1 A2 n1 c1 x.natAbs n2 c2 y.natAbs _ hD1.1 hD2.1 (by omega) (by omega) (by exact hD1.2.2) (by exact hD2.2.2))))
      go_wp2
      go_quiet (fail)
      go_wp2
      refine wp_region_cut 14 (by kernel_rfl) (by kernel_rfl) ?_
      rintro W rfl
      simp only [List.take_succ_cons, List.take_zero, List.drop_succ_cons, List.drop_zero]
      have hHeld : (fun w' : World => w'.cell? ⟨b1, o1, none⟩ = some (.bool (sg x)) ∧ w'.cell? ⟨b1, o1 + 1, none⟩ = some (.slice A1 n1 c1) ∧ w'.cell? ⟨b2, o2 + 1, none⟩ = some (.slice A2 n2 c2)) w.drew := ⟨hn1, hd1, hd2⟩
      refine wpAny_of_held (S := fun w' : World => w'.cell? ⟨b1, o1, none⟩ = some (.bool (sg x)) ∧ w'.cell? ⟨b1, o1 + 1, none⟩ = some (.slice A1 n1 c1) ∧ w'.cell? ⟨b2, o2 + 1, none⟩ = some (.slice A2 n2 c2)) _ _ _ _ ?_
      refine tkA 0 ?_
      (try dsimp only [Act.put]); (try go_frame)
      refine tkA 1 ?_
      (try dsimp only [Act.put]); (try go_frame)
      refine tkA 2 ?_
      (try dsimp only [Act.put]); (try go_frame)
      refine tkA 3 ?_
      (try dsimp only [Act.put]); (try go_frame)
      refine tkA 4 ?_
      (try dsimp only [Act.put]); (try go_frame)
      refine tkA 5 ?_
      (try dsimp only [Act.put]); (try go_frame)
      refine tkA 6 ?_
      (try dsimp only [Act.put]); (try go_frame)
      refine tkA 7 ?_
      (try dsimp only [Act.put]); (try go_frame)
      refine tkA 8 ?_
      (try dsimp only [Act.put]); (try go_frame)
      refine tkA 9 ?_
      (try dsimp only [Act.put]); (try go_frame)
      refine tkA 10 ?_
      (try dsimp only [Act.put]); (try go_frame)
      refine tkA 11 ?_
      (try dsimp only [Act.put]); (try go_frame)
      refine tkA 12 ?_
      (try dsimp only [Act.put]); (try go_frame)
      refine wpAnyH_ready (rs := [13]) (by kernel_rfl) (by simp) ?_
      refine AllReadyH.cons rfl (fun K hK => ?_) AllReadyH.nil
      go_simp
      refine (less_any A1 A2 n1 c1 x.natAbs n2 c2 y.natAbs _ hD1.1 hD2.1 Hle.out hD1.2.1 (by omega) (by exact hD1.2.2) (by exact hD2.2.2)).mono ?_
      rintro e w1 ⟨A3, c3, rfl, hc3, hs3, hb3⟩
      have hb4 : Below w.heap.size w w1 := ⟨hb3.os, hb3.tape, hb3.output, hb3.size, hb3.block⟩
      have hr1 := hr.below hb4
      have hD3 : Dig w1 A3 _ c3 _ := ⟨rfl, hc3, hs3⟩
      refine hK.out _ _ ?_ (fun hHeld => ?_)
      · exact ⟨(hb4.cell l1).trans hn1, (hb4.cell l1).trans hd1, (hb4.cell l2).trans hd2⟩
      clear hK K
      (try dsimp only [Act.put]); (try go_frame)
      refine wpAnyH_done (by kernel_rfl) ?_ _
      try simp only [QCut]
      go_wp2_with (go_at_call 119; go_must (refine (laid_int b o _ _ _ _ (x.natAbs - y.natAbs) _ hr1 Hn.out hD3).mono ?_); rintro e w' ⟨rfl, hI, hB⟩)
      go_ret
      rw [HS.out] at hI
      exact ⟨rfl, hI, But.after hb4 hB hr⟩
  · have HS := Lib.hid (add_same hsame)
    have hn : dn 32 (x.natAbs + y.natAbs) ≤ max n1 n2 + 1 := dn_le (by omega) (add_lt_succ (by omega) (Nat.lt_of_lt_of_le Hx0.out (pmono (Nat.mul_le_mul_left 32 (Nat.le_max_left n1 n2)))) (Nat.lt_of_lt_of_le Hy0.out (pmono (Nat.mul_le_mul_left 32 (Nat.le_max_right n1 n2)))))
    have Hn : Hid (dn 32 (x.natAbs + y.natAbs) ≤ 4398046511104) := Lib.hid (by omega)
    clear hn
    go_enter Tryz.func87, Tryz.ntmps87
    go_wp2
    go_quiet ((go_at_call 122; exact Calls.quiet_of (cmp_any A1 A2 n1 c1 x.natAbs n2 c2 y.natAbs _ hD1.1 hD2.1 (by omega) (by omega) (by exact hD1.2.2) (by exact hD2.2.2))))
    go_wp2
    go_quiet (fail)
    go_wp2
    refine wp_region_cut 14 (by kernel_rfl) (by kernel_rfl) ?_
    rintro W rfl
    simp only [List.take_succ_cons, List.take_zero, List.drop_succ_cons, List.drop_zero]
    have hHeld : (fun w' : World => w'.cell? ⟨b1, o1, none⟩ = some (.bool (sg x)) ∧ w'.cell? ⟨b1, o1 + 1, none⟩ = some (.slice A1 n1 c1) ∧ w'.cell? ⟨b2, o2 + 1, none⟩ = some (.slice A2 n2 c2)) w.drew := ⟨hn1, hd1, hd2⟩
    refine wpAny_of_held (S := fun w' : World => w'.cell? ⟨b1, o1, none⟩ = some (.bool (sg x)) ∧ w'.cell? ⟨b1, o1 + 1, none⟩ = some (.slice A1 n1 c1) ∧ w'.cell? ⟨b2, o2 + 1, none⟩ = some (.slice A2 n2 c2)) _ _ _ _ ?_
    refine tkA 0 ?_
    (try dsimp only [Act.put]); (try go_frame)
    refine tkA 1 ?_
    (try dsimp only [Act.put]); (try go_frame)
    refine tkA 2 ?_
    (try dsimp only [Act.put]); (try go_frame)
    refine tkA 3 ?_
    (try dsimp only [Act.put]); (try go_frame)
    refine tkA 4 ?_
    (try dsimp only [Act.put]); (try go_frame)
    refine tkA 5 ?_
    (try dsimp only [Act.put]); (try go_frame)
    refine tkA 6 ?_
    (try dsimp only [Act.put]); (try go_frame)
    refine tkA 7 ?_
    (try dsimp only [Act.put]); (try go_frame)
    refine tkA 8 ?_
    (try dsimp only [Act.put]); (try go_frame)
    refine tkA 9 ?_
    (try dsimp only [Act.put]); (try go_frame)
    refine tkA 10 ?_
    (try dsimp only [Act.put]); (try go_frame)
    refine tkA 11 ?_
    (try dsimp only [Act.put]); (try go_frame)
    refine tkA 12 ?_
    (try dsimp only [Act.put]); (try go_frame)
    refine wpAnyH_ready (rs := [13]) (by kernel_rfl) (by simp) ?_
    refine AllReadyH.cons rfl (fun K hK => ?_) AllReadyH.nil
    go_simp
    refine (plus_any A1 A2 n1 c1 x.natAbs n2 c2 y.natAbs _ hD1.1 hD2.1 hD1.2.1 hD2.2.1 (by omega) (by omega) (by exact hD1.2.2) (by exact hD2.2.2)).mono ?_
    rintro e w1 ⟨A3, c3, rfl, hc3, hs3, hb3⟩
    have hb4 : Below w.heap.size w w1 := ⟨hb3.os, hb3.tape, hb3.output, hb3.size, hb3.block⟩
    have hr1 := hr.below hb4
    have hD3 : Dig w1 A3 _ c3 _ := ⟨rfl, hc3, hs3⟩
    refine hK.out _ _ ?_ (fun hHeld => ?_)
    · exact ⟨(hb4.cell l1).trans hn1, (hb4.cell l1).trans hd1, (hb4.cell l2).trans hd2⟩
    clear hK K
    (try dsimp only [Act.put]); (try go_frame)
    refine wpAnyH_done (by kernel_rfl) ?_ _
    try simp only [QCut]
    go_wp2_with (go_at_call 119; go_must (refine (laid_int b o _ _ _ _ (x.natAbs + y.natAbs) _ hr1 Hn.out hD3).mono ?_); rintro e w' ⟨rfl, hI, hB⟩)
    go_ret
    rw [HS.out] at hI
    exact ⟨rfl, hI, But.after hb4 hB hr⟩
end Go.Proofs.YtfdnbogbankjjaaGreatDoor

/- The walks over wide's Int, fourth part: Sub, Cmp, SetUint64, NewInt, Uint64. -/
namespace Go.Proofs.YtfdnbogbankjjaaGreatDoor
open Go Go.RowKit Fil

set_option maxHeartbeats 1000000 in
theorem setu_any (b o x : Nat) (w : World) (hr : Room w b o) (hx : x < 18446744073709551616) :
    Calls Tryz.prog 84 #[.pointer (some ⟨b, o, none⟩), .int .u64 x] w fun e w' => e = .returned (.pointer (some ⟨b, o, none⟩)) ∧ IntAt w' b o x ∧ But w w' b o := by
  have hb : Below w.heap.size w (w.alloc (Obj.cells #[Value.int .u32 ((x : Int) % 4294967296), Value.int .u32 ((x : Int) / 4294967296 % 4294967296)] 155)) := (Below.refl _ _).alloc (Nat.le_refl _) _
  have hs : Slc (w.alloc (Obj.cells #[Value.int .u32 ((x : Int) % 4294967296), Value.int .u32 ((x : Int) / 4294967296 % 4294967296)] 155)) 155 (some ⟨w.heap.size, 0, none⟩) 2 (d32 x) := fun _ =>
    ⟨w.heap.size, 0, _, _, rfl, heap_alloc_new w _, fun j hj => by
      rcases (show j = 0 ∨ j = 1 by omega) with rfl | rfl
      · simp [d32, dg]
      · simp [d32, dg]⟩
  have hlt : Hid (x < 2 ^ (32 * 2)) := Lib.hid (by omega)
  have hle : Hid (dn 32 x ≤ 2) := Lib.hid (dn_le (by omega) hlt.out)
  have Hx := Lib.hid hx
  clear hx
  go_enter Tryz.func84, Tryz.ntmps84
  go_wp2_with fail
  refine (cut_any (some ⟨w.heap.size, 0, none⟩) 2 2 x _ hlt.out (by omega) (by omega) hs).mono ?_
  rintro e w' ⟨rfl, rfl⟩
  have hd : Dig (w.alloc (Obj.cells #[Value.int .u32 ((x : Int) % 4294967296), Value.int .u32 ((x : Int) / 4294967296 % 4294967296)] 155)) (some ⟨w.heap.size, 0, none⟩) (dn 32 x) 2 x := ⟨rfl, hle.out, hs.le hle.out⟩
  have hr1 := hr.below hb
  go_wp2_with (go_at_call 119; go_must (refine (laid_int b o _ _ _ _ x _ hr1 (Nat.le_trans hle.out (by omega)) hd).mono ?_); rintro e w' ⟨rfl, hI, hB⟩)
  go_ret
  exact ⟨rfl, hI, But.after hb hB hr⟩

end Go.Proofs.YtfdnbogbankjjaaGreatDoor

/- The walks over wide's Int, last part: SetBytes, Bytes. -/
namespace Go.Proofs.YtfdnbogbankjjaaGreatDoor
open Go Go.RowKit Fil

theorem Tryz.info5 : (Tryz.prog.info? 5).map (fun i => (i.zero, i.size, i.bytes)) = some (some (.int .u8 0), 1, 1) := by kernel_rfl
/-- byte k from behind -/
def b8 (x : Nat) (k : Nat) : Value := .int .u8 (dg 8 x k)

end Go.Proofs.YtfdnbogbankjjaaGreatDoor
