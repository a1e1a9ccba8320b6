/- Rows of Gausses of a call's own; powers and sums: plain words. -/
import Derived.Test.YtgcifpjhhoalmaaDoorHF
namespace Go.Proofs.YtgcifpjhhoalmaaDoor
open Go Go.RowKit Go.PlainAid Fil

/-- a block of Gausses of the call's own -/
def Row6 (w : World) (g n : Nat) (G : Nat → GR) : Prop :=
  ∃ cs : Array Value, w.heap[g]? = some (.cells cs 49 (0, 0)) ∧ cs.size = n * 6 ∧ ∀ i, i < n → ∀ k, k < 6 → cs[i * 6 + k]? = (grow (G i))[k]?
section
variable {w w' : World} {g n : Nat} {G G' : Nat → GR}
theorem Row6.lt (h : Row6 w g n G) : g < w.heap.size := by obtain ⟨_, h, _⟩ := h; exact lt_of_heap h
theorem Row6.keep (h : Row6 w g n G) (hb : Below w.heap.size w w') : Row6 w' g n G := by
  obtain ⟨cs, h1, h2⟩ := h; exact ⟨cs, (hb.block g (lt_of_heap h1)).trans h1, h2⟩
theorem Row6.allocd (h : Row6 w g n G) (o : Obj) : Row6 (w.alloc o) g n G := h.keep ((Below.refl _ _).alloc (Nat.le_refl _) _)
theorem Row6.drew (h : Row6 w g n G) : Row6 w.drew g n G := h
theorem Row6.drewN (h : Row6 w g n G) (k : Nat) : Row6 (w.drewN k) g n G := h
theorem Row6.congr (h : Row6 w g n G) (e : ∀ i, i < n → G i = G' i) : Row6 w g n G' := by
  obtain ⟨cs, h1, h2, h3⟩ := h
  exact ⟨cs, h1, h2, fun i hi k hk => by rw [← e i hi]; exact h3 i hi k hk⟩
def GR.zero : GR := ⟨false, { data := #[] }, 0, false, { data := #[] }, 0⟩
theorem Row6.made (w : World) (n : Nat) : Row6 (w.alloc (.cells (madeCells #[.bool false, .string { data := #[] }, .int .i64 0, .bool false, .string { data := #[] }, .int .i64 0] (n * 6)) 49)) w.heap.size n (fun _ => GR.zero) := by
  refine ⟨_, heap_alloc_new w _, size_madeCells _ _, fun i hi k hk => ?_⟩
  unfold madeCells
  have f : ∀ j, j < n * 6 → (Array.map (fun x => (#[Value.bool false, .string { data := #[] }, .int .i64 0, .bool false, .string { data := #[] }, .int .i64 0] : Array Value)[x % 6]!) (Array.range (n * 6)))[j]? = some ((#[Value.bool false, .string { data := #[] }, .int .i64 0, .bool false, .string { data := #[] }, .int .i64 0] : Array Value)[j % 6]!) := fun j hj => by simp [hj]
  refine (f _ (by omega)).trans ?_
  rw [show (i * 6 + k) % 6 = k by omega]
  rcases (show k = 0 ∨ k = 1 ∨ k = 2 ∨ k = 3 ∨ k = 4 ∨ k = 5 by omega) with rfl | rfl | rfl | rfl | rfl | rfl <;> rfl
theorem Row6.cells (h : Row6 w g n G) {i : Nat} (hi : i < n) : (w.cell? ⟨g, i * 6, none⟩ = some (.bool (G i).n) ∧ w.cell? ⟨g, i * 6 + 1, none⟩ = some (.string (G i).s) ∧ w.cell? ⟨g, i * 6 + 2, none⟩ = some (.int .i64 (G i).e) ∧ w.cell? ⟨g, i * 6 + 3, none⟩ = some (.bool (G i).m) ∧ w.cell? ⟨g, i * 6 + 4, none⟩ = some (.string (G i).t) ∧ w.cell? ⟨g, i * 6 + 5, none⟩ = some (.int .i64 (G i).f)) ∧
    ∀ k, w.frozen? ⟨g, k, none⟩ = false := by
  obtain ⟨cs, h1, h2, h3⟩ := h
  have hc := fun k hk => h3 i hi k hk
  exact ⟨⟨by have := hc 0 (by omega); rw [Nat.add_zero] at this; simp [World.cell?, h1, this, grow], by have := hc 1 (by omega); simp [World.cell?, h1, this, grow], by have := hc 2 (by omega); simp [World.cell?, h1, this, grow], by have := hc 3 (by omega); simp [World.cell?, h1, this, grow], by have := hc 4 (by omega); simp [World.cell?, h1, this, grow], by have := hc 5 (by omega); simp [World.cell?, h1, this, grow]⟩, fun k => by simp [World.frozen?, h1]⟩
theorem Row6.gss (h : Row6 w g n G) {m : Nat} (hm : m ≤ n) : Gss w (some ⟨g, 0, none⟩) m G := fun _ => by
  refine ⟨g, 0, rfl, h.lt, fun i hi => ?_⟩
  obtain ⟨a, _⟩ := h.cells (show i < n by omega)
  rw [Nat.zero_add]; exact a
theorem Row6.set (h : Row6 w g n G) {i : Nat} (hi : i < n) (a : GR) :
    Row6 ((((((w.setCell ⟨g, i * 6, none⟩ (.bool a.n)).setCell ⟨g, i * 6 + 1, none⟩ (.string a.s)).setCell ⟨g, i * 6 + 2, none⟩ (.int .i64 a.e)).setCell ⟨g, i * 6 + 3, none⟩ (.bool a.m)).setCell ⟨g, i * 6 + 4, none⟩ (.string a.t)).setCell ⟨g, i * 6 + 5, none⟩ (.int .i64 a.f)) g n (fun j => if j = i then a else G j) := by
  obtain ⟨cs, h1, h2, h3⟩ := h
  refine ⟨(((((cs.setIfInBounds (i * 6) (.bool a.n)).setIfInBounds (i * 6 + 1) (.string a.s)).setIfInBounds (i * 6 + 2) (.int .i64 a.e)).setIfInBounds (i * 6 + 3) (.bool a.m)).setIfInBounds (i * 6 + 4) (.string a.t)).setIfInBounds (i * 6 + 5) (.int .i64 a.f), by simp [World.setCell, Array.getElem?_modify, h1], by simp [h2], fun j hj k hk => ?_⟩
  have hb := h3 j hj k hk
  by_cases hji : j = i
  · subst hji
    dsimp only
    rw [if_pos rfl]
    have hs : j * 6 + 5 < cs.size := by omega
    rcases (show k = 0 ∨ k = 1 ∨ k = 2 ∨ k = 3 ∨ k = 4 ∨ k = 5 by omega) with rfl | rfl | rfl | rfl | rfl | rfl <;> simp [Array.getElem?_setIfInBounds, grow] <;> omega
  · dsimp only
    rw [if_neg hji, ← hb]
    rw [Array.getElem?_setIfInBounds_ne (by omega), Array.getElem?_setIfInBounds_ne (by omega), Array.getElem?_setIfInBounds_ne (by omega), Array.getElem?_setIfInBounds_ne (by omega), Array.getElem?_setIfInBounds_ne (by omega), Array.getElem?_setIfInBounds_ne (by omega)]
end
theorem Tryd.infoGauss : (Tryd.prog.info? 49).map (fun i => (i.zero, i.size, i.bytes)) = some (some (.agg #[.bool false, .string { data := #[] }, .int .i64 0, .bool false, .string { data := #[] }, .int .i64 0]), 6, 64) := by kernel_rfl
/-- l's Gausses for the first k places, noughts behind -/
def cpG (G : Nat → GR) (k j : Nat) : GR := if j < k then G j else GR.zero
def GR.mark : GR := ⟨false, { data := #[] }, 77, false, { data := #[] }, 0⟩
def cpM (G : Nat → GR) (k j : Nat) : GR := if j < k then G j else GR.mark
theorem Row6.copy {w : World} {g n k : Nat} {G : Nat → GR} (h : Row6 w g n (cpG G k)) (hk : k < n) :
    Row6 ((((((w.setCell ⟨g, k * 6, none⟩ (.bool (G k).n)).setCell ⟨g, k * 6 + 1, none⟩ (.string (G k).s)).setCell ⟨g, k * 6 + 2, none⟩ (.int .i64 (G k).e)).setCell ⟨g, k * 6 + 3, none⟩ (.bool (G k).m)).setCell ⟨g, k * 6 + 4, none⟩ (.string (G k).t)).setCell ⟨g, k * 6 + 5, none⟩ (.int .i64 (G k).f)) g n (cpG G (k + 1)) := by
  refine (h.set hk (G k)).congr fun i _ => ?_
  unfold cpG
  by_cases e : i = k
  · subst e; rw [if_pos rfl, if_pos (by omega)]
  · rw [if_neg e]
    by_cases e2 : i < k
    · rw [if_pos e2, if_pos (by omega)]
    · rw [if_neg e2, if_neg (by omega)]
theorem Row6.mark {w : World} {g n : Nat} {G : Nat → GR} (h : Row6 w g (n + 1) (cpG G n)) :
    Row6 ((((((w.setCell ⟨g, n * 6, none⟩ (.bool false)).setCell ⟨g, n * 6 + 1, none⟩ (.string { data := #[] })).setCell ⟨g, n * 6 + 2, none⟩ (.int .i64 77)).setCell ⟨g, n * 6 + 3, none⟩ (.bool false)).setCell ⟨g, n * 6 + 4, none⟩ (.string { data := #[] })).setCell ⟨g, n * 6 + 5, none⟩ (.int .i64 0)) g (n + 1) (cpM G n) := by
  refine (h.set (Nat.lt_succ_self n) GR.mark).congr fun i hi => ?_
  unfold cpG cpM
  by_cases e : i = n
  · subst e; rw [if_pos rfl, if_neg (by omega)]
  · rw [if_neg e, if_pos (by omega), if_pos (by omega)]

/-! powers and sums -/
def gPw (a : GY) : Nat → GY × Int
  | 0 => (GY.one, 0)
  | k + 1 => if (gPw a k).2 = 0 then gMul (gPw a k).1 a else gPw a k
theorem gPw_ok (a : GY) (k : Nat) : (gPw a k).1.ok := by
  induction k with
  | zero => exact GY.one_ok
  | succ k ih =>
    unfold gPw
    split
    · exact gMul_ok _ _
    · exact ih
theorem gPw_go {a : GY} {k : Nat} (h : (gPw a k).2 = 0) : gPw a (k + 1) = gMul (gPw a k).1 a := if_pos h
theorem gPw_stay {a : GY} {k : Nat} (h : ¬ (gPw a k).2 = 0) : ∀ m, gPw a (k + m) = gPw a k := by
  intro m
  induction m with
  | zero => rfl
  | succ m ih =>
    show (if (gPw a (k + m)).2 = 0 then gMul (gPw a (k + m)).1 a else gPw a (k + m)) = _
    rw [ih, if_neg h]
theorem gMul_e (a b : GY) : (gMul a b).2 = 0 ∨ gMul a b = (GY.zero, 4) := gB_e _ _
theorem gAdd_e (a b : GY) : (gAdd a b).2 = 0 ∨ gAdd a b = (GY.zero, 4) := gB_e _ _
def gSm (D : Nat → GY) : Nat → GY × Int
  | 0 => (GY.zero, 0)
  | k + 1 => if (gSm D k).2 = 0 then gAdd (gSm D k).1 (D k) else gSm D k
theorem gSm_ok (D : Nat → GY) (k : Nat) : (gSm D k).1.ok := by
  induction k with
  | zero => exact GY.zero_ok
  | succ k ih =>
    unfold gSm
    split
    · exact gAdd_ok _ _
    · exact ih
theorem gSm_go {D : Nat → GY} {k : Nat} (h : (gSm D k).2 = 0) : gSm D (k + 1) = gAdd (gSm D k).1 (D k) := if_pos h
theorem gSm_stay {D : Nat → GY} {k : Nat} (h : ¬ (gSm D k).2 = 0) : ∀ m, gSm D (k + m) = gSm D k := by
  intro m
  induction m with
  | zero => rfl
  | succ m ih =>
    show (if (gSm D (k + m)).2 = 0 then gAdd (gSm D (k + m)).1 (D (k + m)) else gSm D (k + m)) = _
    rw [ih, if_neg h]
/-- where an error comes up the loop ends with it -/
theorem gPw_stop {a : GY} {i n : Nat} (hi : i < n) (h : (gPw a i).2 = 0) (h2 : ¬ (gMul (gPw a i).1 a).2 = 0) : gPw a n = (GY.zero, 4) ∧ (gMul (gPw a i).1 a).2 = 4 := by
  have h3 := gPw_go h
  have h4 := gPw_stay (a := a) (k := i + 1) (by rw [h3]; exact h2) (n - (i + 1))
  rw [show i + 1 + (n - (i + 1)) = n by omega, h3] at h4
  rcases gMul_e (gPw a i).1 a with h5 | h5
  · exact absurd h5 h2
  · rw [h4, h5]; exact ⟨rfl, rfl⟩
theorem gSm_stop {D : Nat → GY} {i n : Nat} (hi : i < n) (h : (gSm D i).2 = 0) (h2 : ¬ (gAdd (gSm D i).1 (D i)).2 = 0) : gSm D n = (GY.zero, 4) ∧ (gAdd (gSm D i).1 (D i)).2 = 4 := by
  have h3 := gSm_go h
  have h4 := gSm_stay (D := D) (k := i + 1) (by rw [h3]; exact h2) (n - (i + 1))
  rw [show i + 1 + (n - (i + 1)) = n by omega, h3] at h4
  rcases gAdd_e (gSm D i).1 (D i) with h5 | h5
  · exact absurd h5 h2
  · rw [h4, h5]; exact ⟨rfl, rfl⟩
end Go.Proofs.YtgcifpjhhoalmaaDoor
