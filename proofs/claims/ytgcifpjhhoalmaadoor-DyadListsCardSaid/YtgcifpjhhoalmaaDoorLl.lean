/- The walk over filigreelaw03.DyadLists. -/
import Derived.Test.YtgcifpjhhoalmaaDoorBF
namespace Go.Proofs.YtgcifpjhhoalmaaDoor
open Go Go.RowKit Go.PlainAid Fil

/-- a block of Dyads of the call's own -/
def Row3 (w : World) (g n : Nat) (N : Nat → Bool) (S : Nat → ByteArray) (E : Nat → Int) : Prop :=
  ∃ cs : Array Value, w.heap[g]? = some (.cells cs 24 (0, 0)) ∧ cs.size = n * 3 ∧ ∀ i, i < n → cs[i * 3]? = some (.bool (N i)) ∧ cs[i * 3 + 1]? = some (.string (S i)) ∧ cs[i * 3 + 2]? = some (.int .i64 (E i))
section
variable {w w' : World} {g n : Nat} {N N' : Nat → Bool} {S S' : Nat → ByteArray} {E E' : Nat → Int}
theorem Row3.lt (h : Row3 w g n N S E) : g < w.heap.size := by obtain ⟨_, h, _⟩ := h; exact lt_of_heap h
theorem Row3.keep (h : Row3 w g n N S E) (hb : Below w.heap.size w w') : Row3 w' g n N S E := by
  obtain ⟨cs, h1, h2⟩ := h; exact ⟨cs, (hb.block g (lt_of_heap h1)).trans h1, h2⟩
theorem Row3.allocd (h : Row3 w g n N S E) (o : Obj) : Row3 (w.alloc o) g n N S E := h.keep ((Below.refl _ _).alloc (Nat.le_refl _) _)
theorem Row3.drewN (h : Row3 w g n N S E) (k : Nat) : Row3 (w.drewN k) g n N S E := h
theorem Row3.congr (h : Row3 w g n N S E) (e : ∀ i, i < n → N i = N' i ∧ S i = S' i ∧ E i = E' i) : Row3 w g n N' S' E' := by
  obtain ⟨cs, h1, h2, h3⟩ := h
  refine ⟨cs, h1, h2, fun i hi => ?_⟩
  obtain ⟨a, b, c⟩ := e i hi
  rw [← a, ← b, ← c]; exact h3 i hi
theorem Row3.made (w : World) (n : Nat) : Row3 (w.alloc (.cells (madeCells #[.bool false, .string { data := #[] }, .int .i64 0] (n * 3)) 24)) w.heap.size n (fun _ => false) (fun _ => { data := #[] }) (fun _ => 0) := by
  refine ⟨_, heap_alloc_new w _, size_madeCells _ _, fun i hi => ?_⟩
  unfold madeCells
  have f : ∀ j, j < n * 3 → (Array.map (fun x => (#[Value.bool false, .string { data := #[] }, .int .i64 0] : Array Value)[x % 3]!) (Array.range (n * 3)))[j]? = some ((#[Value.bool false, .string { data := #[] }, .int .i64 0] : Array Value)[j % 3]!) := fun j hj => by simp [hj]
  refine ⟨(f _ (by omega)).trans ?_, (f _ (by omega)).trans ?_, (f _ (by omega)).trans ?_⟩
  · rw [show i * 3 % 3 = 0 by omega]; rfl
  · rw [show (i * 3 + 1) % 3 = 1 by omega]; rfl
  · rw [show (i * 3 + 2) % 3 = 2 by omega]; rfl
theorem Row3.cells (h : Row3 w g n N S E) {i : Nat} (hi : i < n) : w.cell? ⟨g, i * 3, none⟩ = some (.bool (N i)) ∧ w.cell? ⟨g, i * 3 + 1, none⟩ = some (.string (S i)) ∧ w.cell? ⟨g, i * 3 + 2, none⟩ = some (.int .i64 (E i)) ∧
    w.frozen? ⟨g, i * 3, none⟩ = false ∧ w.frozen? ⟨g, i * 3 + 1, none⟩ = false ∧ w.frozen? ⟨g, i * 3 + 2, none⟩ = false := by
  obtain ⟨cs, h1, h2, h3⟩ := h
  obtain ⟨a, b, c⟩ := h3 i hi
  exact ⟨by simp [World.cell?, h1, a], by simp [World.cell?, h1, b], by simp [World.cell?, h1, c], by simp [World.frozen?, h1], by simp [World.frozen?, h1], by simp [World.frozen?, h1]⟩
theorem Row3.dys (h : Row3 w g n N S E) {m : Nat} (hm : m ≤ n) : Dys w (some ⟨g, 0, none⟩) m N S E := fun _ => by
  refine ⟨g, 0, rfl, h.lt, fun i hi => ?_⟩
  obtain ⟨a, b, c, _⟩ := h.cells (show i < n by omega)
  rw [Nat.zero_add]; exact ⟨a, b, c⟩
theorem Row3.set (h : Row3 w g n N S E) {i : Nat} (hi : i < n) (u : Bool) (s : ByteArray) (e : Int) :
    Row3 (((w.setCell ⟨g, i * 3, none⟩ (.bool u)).setCell ⟨g, i * 3 + 1, none⟩ (.string s)).setCell ⟨g, i * 3 + 2, none⟩ (.int .i64 e)) g n (fun j => if j = i then u else N j) (fun j => if j = i then s else S j) (fun j => if j = i then e else E j) := by
  obtain ⟨cs, h1, h2, h3⟩ := h
  refine ⟨((cs.setIfInBounds (i * 3) (.bool u)).setIfInBounds (i * 3 + 1) (.string s)).setIfInBounds (i * 3 + 2) (.int .i64 e), by simp [World.setCell, Array.getElem?_modify, h1], by simp [h2], fun j hj => ?_⟩
  obtain ⟨a, b, c⟩ := h3 j hj
  by_cases hji : j = i
  · subst hji
    dsimp only
    rw [if_pos rfl, if_pos rfl, if_pos rfl]
    refine ⟨?_, ?_, ?_⟩
    · rw [Array.getElem?_setIfInBounds_ne (by omega), Array.getElem?_setIfInBounds_ne (by omega), Array.getElem?_setIfInBounds]; simp; omega
    · rw [Array.getElem?_setIfInBounds_ne (by omega), Array.getElem?_setIfInBounds]; simp; omega
    · rw [Array.getElem?_setIfInBounds]; simp; omega
  · dsimp only
    rw [if_neg hji, if_neg hji, if_neg hji]
    refine ⟨?_, ?_, ?_⟩
    · rw [Array.getElem?_setIfInBounds_ne (by omega), Array.getElem?_setIfInBounds_ne (by omega), Array.getElem?_setIfInBounds_ne (by omega)]; exact a
    · rw [Array.getElem?_setIfInBounds_ne (by omega), Array.getElem?_setIfInBounds_ne (by omega), Array.getElem?_setIfInBounds_ne (by omega)]; exact b
    · rw [Array.getElem?_setIfInBounds_ne (by omega), Array.getElem?_setIfInBounds_ne (by omega), Array.getElem?_setIfInBounds_ne (by omega)]; exact c
end
theorem Tryd.infoDyad : (Tryd.prog.info? 24).map (fun i => (i.zero, i.size, i.bytes)) = some (some (.agg #[.bool false, .string { data := #[] }, .int .i64 0]), 3, 32) := by kernel_rfl
/-- l's Dyads for the first k places, noughts behind -/
def cpN (N : Nat → Bool) (k j : Nat) : Bool := if j < k then N j else false
def cpS (S : Nat → ByteArray) (k j : Nat) : ByteArray := if j < k then S j else { data := #[] }
def cpE (E : Nat → Int) (k j : Nat) : Int := if j < k then E j else 0
theorem Row3.copy {w : World} {g n k : Nat} {N : Nat → Bool} {S : Nat → ByteArray} {E : Nat → Int} (h : Row3 w g n (cpN N k) (cpS S k) (cpE E k)) (hk : k < n) :
    Row3 (((w.setCell ⟨g, k * 3, none⟩ (.bool (N k))).setCell ⟨g, k * 3 + 1, none⟩ (.string (S k))).setCell ⟨g, k * 3 + 2, none⟩ (.int .i64 (E k))) g n (cpN N (k + 1)) (cpS S (k + 1)) (cpE E (k + 1)) := by
  refine (h.set hk (N k) (S k) (E k)).congr fun i _ => ?_
  unfold cpN cpS cpE
  by_cases e : i = k
  · subst e; rw [if_pos rfl, if_pos rfl, if_pos rfl, if_pos (by omega), if_pos (by omega), if_pos (by omega)]; exact ⟨rfl, rfl, rfl⟩
  · rw [if_neg e, if_neg e, if_neg e]
    by_cases e2 : i < k
    · rw [if_pos e2, if_pos e2, if_pos e2, if_pos (by omega), if_pos (by omega), if_pos (by omega)]; exact ⟨rfl, rfl, rfl⟩
    · rw [if_neg e2, if_neg e2, if_neg e2, if_neg (by omega), if_neg (by omega), if_neg (by omega)]; exact ⟨rfl, rfl, rfl⟩
/-- the copy, and the mark behind it -/
theorem Row3.mark {w : World} {g n : Nat} {N : Nat → Bool} {S : Nat → ByteArray} {E : Nat → Int} (h : Row3 w g (n + 1) (cpN N n) (cpS S n) (cpE E n)) :
    Row3 (((w.setCell ⟨g, n * 3, none⟩ (.bool false)).setCell ⟨g, n * 3 + 1, none⟩ (.string { data := #[] })).setCell ⟨g, n * 3 + 2, none⟩ (.int .i64 77)) g (n + 1) (cpN N n) (cpS S n) (fun j => if j < n then E j else 77) := by
  refine (h.set (Nat.lt_succ_self n) false { data := #[] } 77).congr fun i hi => ?_
  unfold cpN cpS cpE
  by_cases e : i = n
  · subst e; rw [if_pos rfl, if_pos rfl, if_pos rfl, if_neg (by omega), if_neg (by omega), if_neg (by omega)]; exact ⟨rfl, rfl, rfl⟩
  · have hin : i < n := by omega
    simp [e, hin]
end Go.Proofs.YtgcifpjhhoalmaaDoor
