/- A region that draws its order, cut ahead of a forced tail: what stands ahead is a region of its own, the tail goes in the text's order. Of no program. -/
import Derived.StillTail
import Derived.WalkKit
namespace Fil
open Go

section
variable {P : Program} {md : Region.Mode}

/-- behind the head the tail, in its order -/
def QCut (P : Program) (ops : Array Oper) (tail : List Oper) (Q : Exit → Act → World → Prop) : Exit → Act → World → Prop
  | .normal, a, w => wpList P ops Q tail a w
  | e, a, w => Q e a w

theorem letsOut_cut {ops : Array Oper} {tail : List Oper} {Q : Exit → Act → World → Prop} (h : LetsOut (QCut P ops tail Q)) : LetsOut Q := h

theorem oper_cut {ops : Array Oper} {tail : List Oper} {Q : Exit → Act → World → Prop} {o : Oper} {a : Act} {w : World} {K K' : Act → World → Prop}
    (h : ∀ a w, K' a w → K a w) (hh : o.wp P a w K' (QCut P ops tail Q)) : o.wp P a w K Q := by
  unfold Oper.wp at *
  generalize (execOp a.eval o).run P w = r at *
  cases r with
  | ok n w' =>
    cases n <;> simp only [Oper.upon] at hh ⊢ <;>
      first
        | exact h _ _ hh
        | exact Calls.mono hh (fun e w'' he => by cases e <;> first | exact h _ _ he | exact he)
        | exact Rows.mono hh (fun _ _ he => h _ _ he)
  | halt x w' => cases x <;> simp only [Oper.upon] at hh ⊢ <;> exact hh

theorem wpOp_cut {ops ops' : Array Oper} {tail : List Oper} {Q : Exit → Act → World → Prop} {i : Nat} {o : Oper} {a : Act} {w : World} {K K' : Act → World → Prop}
    (ho : ops[i]? = some o) (ho' : ops'[i]? = some o) (hg : o.guard = none) (h : ∀ a w, K' a w → K a w) (hh : wpOp P ops' (QCut P ops tail Q) i K' a w) : wpOp P ops Q i K a w := by
  have hw : ∀ x, Region.wanted o x = true := fun x => by simp [Region.wanted, hg]
  unfold wpOp at *
  simp only [ho, ho', hw, if_true] at *
  rcases hh with hh | hh
  · exact .inl (oper_cut h hh)
  · exact .inr ⟨hh.1, letsOut_cut hh.2⟩

theorem wpAny_more {ops : Array Oper} {Q : Exit → Act → World → Prop} : ∀ (f : Nat) (listed : Array Bool) (a : Act) (w : World), wpAny P md ops Q f listed a w → wpAny P md ops Q (f + 1) listed a w
  | 0, listed, a, w, h => ⟨fun _ => h.2, fun i hi => by rw [h.1] at hi; cases hi⟩
  | f + 1, listed, a, w, h => ⟨h.1, fun i hi => wpOp_mono (fun a' w' h' => wpAny_more f _ a' w' h') (h.2 i hi)⟩
theorem wpAny_many {ops : Array Oper} {Q : Exit → Act → World → Prop} {f : Nat} {listed : Array Bool} {a : Act} {w : World} (h : wpAny P md ops Q f listed a w) : ∀ k, wpAny P md ops Q (f + k) listed a w
  | 0 => h
  | k + 1 => wpAny_more _ _ _ _ (wpAny_many h k)

/-- all operations wait for elder ones alone, none is guarded -/
def backB (ops : Array Oper) : Bool :=
  (List.range ops.size).all fun i => match ops[i]? with
    | some o => o.guard.isNone && o.after.all fun e => decide (e.on < i)
    | none => true
theorem backB_spec {ops : Array Oper} (h : backB ops = true) {i : Nat} {o : Oper} (ho : ops[i]? = some o) : o.guard = none ∧ ∀ e ∈ o.after, e.on < i := by
  have hi : i < ops.size := (Array.getElem?_eq_some_iff.1 ho).1
  have h1 := List.all_eq_true.1 h i (List.mem_range.2 hi)
  simp only [ho, Bool.and_eq_true, Option.isNone_iff_eq_none] at h1
  exact ⟨h1.1, fun e he => by simpa using Array.all_eq_true'.1 h1.2 e he⟩

/-- the head done, the tail to come -/
def full (n g : Nat) : Array Bool := Array.replicate n true ++ Array.replicate g false

def cutB (md : Region.Mode) (ops : Array Oper) (n : Nat) : Bool :=
  decide (n < ops.size) && Region.sinkB md ops n && Region.chainB md ops n && backB ops && Region.seqB md ops (ops.size - n) n (full n (ops.size - n))

theorem ext_get {α : Type} (xs : Array α) {n j : Nat} (hn : n ≤ xs.size) (hj : j < n) : (xs.extract 0 n)[j]? = xs[j]? := by
  rw [Array.getElem?_extract, if_pos (by omega), Nat.zero_add]
theorem ext_none {α : Type} (xs : Array α) {n j : Nat} (hj : ¬ j < n) : (xs.extract 0 n)[j]? = none := by
  rw [Array.getElem?_extract, if_neg (by omega)]
theorem ready_take {ops : Array Oper} {n : Nat} {listed : Array Bool} (hn : n < ops.size) (inv : HeadInv md ops n listed) {i : Nat} (hi : i < n) :
    i ∈ Region.ready md ops listed ↔ i ∈ Region.ready md (ops.extract 0 n) (listed.extract 0 n) := by
  have hs := inv.size
  have e1 : ∀ j d, j < n → (listed.extract 0 n).getD j d = listed.getD j d := fun j d hj => by
    rw [Array.getD_eq_getD_getElem?, Array.getD_eq_getD_getElem?, ext_get listed (by omega) hj]
  have e2 : (ops.extract 0 n)[i]? = ops[i]? := ext_get ops (by omega) hi
  have e3 : ∀ j, ¬ j < n → (listed.extract 0 n).getD j false = false := fun j hj => by
    rw [Array.getD_eq_getD_getElem?, ext_none listed hj]; rfl
  have e4 : ∀ j, ¬ j < n → listed.getD j false = false := fun j hj => by
    by_cases h : j < ops.size
    · exact getD_both (inv.tail j (by omega) h)
    · simp [Array.getD_eq_getD_getElem?, Array.getElem?_eq_none (show listed.size ≤ j by omega)]
  have e5 : ∀ j, (listed.extract 0 n).getD j false = listed.getD j false := fun j => by
    by_cases h : j < n
    · exact e1 j false h
    · rw [e3 j h, e4 j h]
  rw [mem_ready, mem_ready, e1 i true hi, e2]
  simp only [e5]

theorem full_of {ops : Array Oper} {n : Nat} {listed : Array Bool} (hn : n < ops.size) (inv : HeadInv md ops n listed) (hb : backB ops = true)
    (hr : Region.ready md (ops.extract 0 n) (listed.extract 0 n) = []) : listed = full n (ops.size - n) := by
  have hs := inv.size
  have all : ∀ m i, i ≤ m → i < n → listed.getD i true = true := by
    intro m
    induction m using Nat.strongRecOn with
    | _ m ih =>
      intro i him hi
      cases hc : listed.getD i true with
      | true => rfl
      | false =>
        exfalso
        have ho : ops[i]? = some ops[i] := Array.getElem?_eq_getElem (by omega)
        obtain ⟨_, hback⟩ := backB_spec hb ho
        have : i ∈ Region.ready md ops listed := mem_ready.2 ⟨hc, ops[i], ho, fun e he _ => by
          have h1 := hback e he
          have h2 := ih e.on (by omega) e.on (Nat.le_refl _) (by omega)
          have h3 : e.on < listed.size := by omega
          simpa [Array.getD_eq_getD_getElem?, h3] using h2⟩
        rw [ready_take hn inv hi, hr] at this
        cases this
  apply Array.ext
  · simp [full]; omega
  · intro i h1 h2
    apply Option.some.inj
    rw [← Array.getElem?_eq_getElem h1, ← Array.getElem?_eq_getElem h2]
    show listed[i]? = (Array.replicate n true ++ Array.replicate (ops.size - n) false)[i]?
    rw [Array.getElem?_append]
    by_cases hi : i < n
    · have := all i i (Nat.le_refl _) hi
      rw [if_pos (by simpa using hi)]
      simp [hi]
      simpa [Array.getD_eq_getD_getElem?, h1] using this
    · rw [if_neg (by simpa using hi)]
      have := inv.tail i (by omega) (by omega)
      have h3 : i - n < ops.size - n := by omega
      simp [h3]
      simpa [Array.getD_eq_getD_getElem?, h1] using this

theorem wpAny_cut {ops : Array Oper} {n : Nat} {Q : Exit → Act → World → Prop} {tail : List Oper} (hB : cutB md ops n = true) (ht : ∀ j, tail[j]? = ops[n + j]?) (hl : tail.length = ops.size - n) :
    ∀ (f : Nat) (listed : Array Bool) (a : Act) (w : World), HeadInv md ops n listed →
      wpAny P md (ops.extract 0 n) (QCut P ops tail Q) f (listed.extract 0 n) a w → wpAny P md ops Q (tail.length + f) listed a w := by
  simp only [cutB, Bool.and_eq_true, decide_eq_true_eq] at hB
  obtain ⟨⟨⟨⟨hn, hs⟩, hc⟩, hb⟩, hq⟩ := hB
  have fin : ∀ (listed : Array Bool) (a : Act) (w : World), HeadInv md ops n listed → Region.ready md (ops.extract 0 n) (listed.extract 0 n) = [] → wpList P ops Q tail a w → wpAny P md ops Q tail.length listed a w := by
    intro listed a w inv hr h
    rw [full_of hn inv hb hr]
    exact wpAny_of_seq tail n _ a w ht (by rw [hl]; exact hq) h
  intro f
  induction f with
  | zero => intro listed a w inv h; exact fin listed a w inv h.1 h.2
  | succ f ih =>
    intro listed a w inv h
    by_cases hr : Region.ready md (ops.extract 0 n) (listed.extract 0 n) = []
    · exact wpAny_many (fin listed a w inv hr (h.1 hr)) (f + 1)
    · have small : ∀ i ∈ Region.ready md ops listed, i < n := by
        intro i hi
        rcases Nat.lt_or_ge i n with h1 | h1
        · exact h1
        · exfalso
          obtain ⟨j, hj⟩ := List.exists_mem_of_ne_nil _ hr
          have hjn : j < n := by
            obtain ⟨_, oj, hoj, _⟩ := mem_ready.1 hj
            have := (Array.getElem?_eq_some_iff.1 hoj).1
            simp at this; omega
          have hj2 := (ready_take hn inv hjn).2 hj
          exact tail_waits hs hc hn inv (n - j) j rfl hjn (mem_ready.1 hj2).1 i h1 hi
      refine ⟨fun h0 => ?_, fun i hi => ?_⟩
      · exfalso
        obtain ⟨j, hj⟩ := List.exists_mem_of_ne_nil _ hr
        have hjn : j < n := by
          obtain ⟨_, oj, hoj, _⟩ := mem_ready.1 hj
          have := (Array.getElem?_eq_some_iff.1 hoj).1
          simp at this; omega
        have hj2 := (ready_take hn inv hjn).2 hj
        rw [h0] at hj2; cases hj2
      · have hin := small i hi
        have ho : ops[i]? = some ops[i] := Array.getElem?_eq_getElem (by omega)
        have ho' : (ops.extract 0 n)[i]? = some ops[i] := (ext_get ops (by omega) hin).trans ho
        refine wpOp_cut ho ho' (backB_spec hb ho).1 (fun a' w' h' => ?_) (h.2 i ((ready_take hn inv hin).1 hi))
        refine ih (listed.setIfInBounds i true) a' w' (inv.set hi hin) ?_
        have : (listed.setIfInBounds i true).extract 0 n = (listed.extract 0 n).setIfInBounds i true := by
          have hs := inv.size
          apply Array.ext_getElem?
          intro k
          by_cases hk : k < n
          · rw [ext_get _ (by simp; omega) hk, Array.getElem?_setIfInBounds, Array.getElem?_setIfInBounds, ext_get _ (by omega) hk]
            by_cases e : i = k
            · rw [if_pos e, if_pos e, if_pos (by omega), if_pos (by rw [Array.size_extract]; omega)]
            · rw [if_neg e, if_neg e]
          · rw [ext_none _ hk, Array.getElem?_setIfInBounds, if_neg (by omega), ext_none _ hk]
        rw [this]; exact h'

/-- the region cut ahead of its last operations -/
theorem wp_region_cut {id : Nat} {Q : Exit → Act → World → Prop} {a : Act} {w : World} {l : List Oper} (n : Nat) (hm : P.follows .mixedOrders = true) (hB : cutB .any l.toArray n = true)
    (h : ∀ W : World, W = w.drew → wpAny P .any (l.take n).toArray (QCut P l.toArray (l.drop n) Q) n (Array.replicate n false) a W) : (Code.region id l.toArray true).wp P Q a w := by
  have hB2 := hB
  simp only [cutB, Bool.and_eq_true, decide_eq_true_eq] at hB2
  have hn : n < l.length := by simpa using hB2.1.1.1.1
  refine wp_region_any hm ?_
  have inv0 : HeadInv .any l.toArray n (Array.replicate l.toArray.size false) :=
    ⟨by simp, fun j oj _ hl => (by rw [getD_replicate_false] at hl; cases hl), fun t _ ht => getD_in (by simpa using ht) (getD_replicate_false _ _)⟩
  have e1 : l.toArray.extract 0 n = (l.take n).toArray := by simp
  have e2 : (Array.replicate l.toArray.size false).extract 0 n = Array.replicate n false := by
    apply Array.ext
    · simp; omega
    · intro i h1 h2; simp
  have H := wpAny_cut (P := P) (Q := Q) (tail := l.drop n) hB (fun j => by simp [List.getElem?_drop]) (by simp) n _ a w.drew inv0 (by rw [e1, e2]; exact h _ rfl)
  have e3 : (l.drop n).length + n = l.toArray.size := by simp; omega
  rw [e3] at H
  exact H
end
end Fil
