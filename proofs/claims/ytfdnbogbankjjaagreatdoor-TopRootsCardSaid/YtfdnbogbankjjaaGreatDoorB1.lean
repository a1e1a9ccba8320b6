/- Plain words on cells, digits and bytes: no program in sight. -/
import Derived.WalkKit
import Derived.Handy
import Derived.Deep.LoopGhost
import Derived.Deep.OwnRows
import Derived.Deep.Draws
import Derived.Lib.Hide
import Derived.WalkLawsBesides
import Derived.WalkSpells
import Derived.BigQuiet
import Derived.Deep.QuietTactic
import Derived.PlainAid
import Derived.Lib.TrailingZeros
import Derived.Lib.BitFns

/- Words on cells of slices, for all texts of this seat. -/
namespace Fil
open Go Go.RowKit

/-- cells of a slice by place, in a block of type t -/
def Slc (w : World) (t : TypeId) (A : Option Addr) (n : Nat) (f : Nat → Value) : Prop :=
  0 < n → ∃ (b o : Nat) (cs : Array Value) (fz : Nat × Nat), A = some ⟨b, o, none⟩ ∧ w.heap[b]? = some (.cells cs t fz) ∧ ∀ j, j < n → cs[o + j]? = some (f j)

theorem ret_int {k : IntKind} {a b : Int} (h : a = b) : Ending.returned (.int k a) = .returned (.int k b) := by rw [h]
theorem lt_of_heap {w : World} {b : Nat} {o : Obj} (h : w.heap[b]? = some o) : b < w.heap.size := by
  obtain ⟨h, _⟩ := Array.getElem?_eq_some_iff.1 h; exact h

section
variable {w w' : World} {t : TypeId} {A : Option Addr} {n m : Nat} {f g : Nat → Value}
theorem Slc.nil (w : World) (t : TypeId) (A : Option Addr) (f : Nat → Value) : Slc w t A 0 f := fun h => absurd h (by omega)
theorem Slc.keep (h : Slc w t A n f) (hk : ∀ (b : Nat) (cs : Array Value) (fz : Nat × Nat), w.heap[b]? = some (Obj.cells cs t fz) → w'.heap[b]? = w.heap[b]?) : Slc w' t A n f := fun hn => by
  obtain ⟨b, o, cs, fz, hA, hb, hc⟩ := h hn
  exact ⟨b, o, cs, fz, hA, (hk b cs fz hb).trans hb, hc⟩
theorem Slc.below (h : Slc w t A n f) (hb : Below w.heap.size w w') : Slc w' t A n f := h.keep fun b _ _ hc => hb.block b (lt_of_heap hc)
theorem Slc.alloc (h : Slc w t A n f) (o : Obj) : Slc (w.alloc o) t A n f := h.keep fun _ _ _ hc => Below.heap_alloc w o _ (lt_of_heap hc)
theorem Slc.drew (h : Slc w t A n f) : Slc w.drew t A n f := h
theorem Slc.drewN (h : Slc w t A n f) (k : Nat) : Slc (w.drewN k) t A n f := h
theorem Slc.le (h : Slc w t A n f) (hm : m ≤ n) : Slc w t A m f := fun hn => by
  obtain ⟨b, o, cs, fz, hA, hb, hc⟩ := h (by omega)
  exact ⟨b, o, cs, fz, hA, hb, fun j hj => hc j (by omega)⟩
/-- the cells as a walk wants them -/
theorem Slc.cell (h : Slc w t A n f) (hn : 0 < n) : ∃ b o, A = some ⟨b, o, none⟩ ∧ b < w.heap.size ∧ ∀ j, j < n → w.cell? ⟨b, o + j, none⟩ = some (f j) := by
  obtain ⟨b, o, cs, fz, hA, hb, hc⟩ := h hn
  exact ⟨b, o, hA, lt_of_heap hb, fun j hj => by simp [World.cell?, hb, hc j hj]⟩
theorem Slc.of_row {b : Nat} (h : w.rowIs b t n f) (hm : m ≤ n) : Slc w t (some ⟨b, 0, none⟩) m f := fun _ => by
  obtain ⟨c, hb, _, hc⟩ := h
  exact ⟨b, 0, c, (0, 0), rfl, hb, fun j hj => by rw [Nat.zero_add]; exact hc j (by omega)⟩
end
end Fil

/- Plain arithmetic of digits: no program in sight. -/
namespace Fil

/-- digit i of x to the base 2^k -/
def dg (k x i : Nat) : Nat := x / 2 ^ (k * i) % 2 ^ k
/-- how many digits -/
def dn (k x : Nat) : Nat := if x = 0 then 0 else x.log2 / k + 1

theorem pp (n : Nat) : 0 < 2 ^ n := Nat.two_pow_pos n
theorem pstep (k i : Nat) : 2 ^ (k * (i + 1)) = 2 ^ (k * i) * 2 ^ k := by rw [Nat.mul_succ, Nat.pow_add]
theorem pmono {a b : Nat} (h : a ≤ b) : 2 ^ a ≤ 2 ^ b := Nat.pow_le_pow_right (by omega) h

theorem dg_lt (k x i : Nat) : dg k x i < 2 ^ k := Nat.mod_lt _ (pp k)
theorem dg_zero_of {k x i : Nat} (h : x < 2 ^ (k * i)) : dg k x i = 0 := by
  unfold dg; rw [Nat.div_eq_of_lt h, Nat.zero_mod]
theorem dn_zero (k : Nat) : dn k 0 = 0 := by simp [dn]
theorem lt_dn {k : Nat} (hk : 0 < k) (x : Nat) : x < 2 ^ (k * dn k x) := by
  unfold dn
  by_cases h : x = 0
  · subst h; simp
  · rw [if_neg h]
    have h1 : x < 2 ^ (x.log2 + 1) := Nat.lt_log2_self
    refine Nat.lt_of_lt_of_le h1 (pmono ?_)
    have h0 := Nat.div_add_mod x.log2 k
    have h2 := Nat.mod_lt x.log2 hk
    rw [Nat.mul_succ]
    generalize k * (x.log2 / k) = t at *
    omega
theorem le_dn {k : Nat} (x : Nat) (h : x ≠ 0) : 2 ^ (k * (dn k x - 1)) ≤ x := by
  unfold dn
  rw [if_neg h, Nat.add_sub_cancel]
  have h1 : 2 ^ x.log2 ≤ x := Nat.log2_self_le h
  exact Nat.le_trans (pmono (Nat.mul_div_le _ _)) h1
theorem dn_pos {k x : Nat} (h : x ≠ 0) : 0 < dn k x := by unfold dn; rw [if_neg h]; exact Nat.succ_pos _
theorem dn_eq_zero {k x : Nat} : dn k x = 0 ↔ x = 0 := by
  constructor
  · intro h; by_cases hx : x = 0
    · exact hx
    · have := dn_pos (k := k) hx; omega
  · rintro rfl; exact dn_zero k
theorem dn_le {k : Nat} {x n : Nat} (_hk : 0 < k) (h : x < 2 ^ (k * n)) : dn k x ≤ n := by
  by_cases hx : x = 0
  · subst hx; simp [dn]
  · by_cases hn : dn k x ≤ n
    · exact hn
    · have h1 := le_dn (k := k) x hx
      have h2 : 2 ^ (k * n) ≤ 2 ^ (k * (dn k x - 1)) := pmono (Nat.mul_le_mul_left k (by omega))
      omega
theorem dn_ge {k : Nat} {x n : Nat} (hk : 0 < k) (h : 2 ^ (k * n) ≤ x) : n < dn k x := by
  by_cases hn : n < dn k x
  · exact hn
  · have h1 := lt_dn hk x
    have h2 : 2 ^ (k * dn k x) ≤ 2 ^ (k * n) := pmono (Nat.mul_le_mul_left k (by omega))
    omega
theorem dn_mono {k x y : Nat} (hk : 0 < k) (h : x ≤ y) : dn k x ≤ dn k y :=
  dn_le hk (Nat.lt_of_le_of_lt h (lt_dn hk y))
theorem lt_of_dn {k x n : Nat} (hk : 0 < k) (h : dn k x ≤ n) : x < 2 ^ (k * n) :=
  Nat.lt_of_lt_of_le (lt_dn hk x) (pmono (Nat.mul_le_mul_left k h))
/-- the highest digit is not 0 -/
theorem dg_top {k x : Nat} (hk : 0 < k) (h : x ≠ 0) : dg k x (dn k x - 1) ≠ 0 := by
  have h1 := le_dn (k := k) x h
  have h2 := lt_dn hk x
  have h3 := dn_pos (k := k) h
  have e : dn k x = (dn k x - 1) + 1 := by omega
  rw [e, pstep] at h2
  unfold dg
  have h4 : x / 2 ^ (k * (dn k x - 1)) < 2 ^ k := Nat.div_lt_of_lt_mul (by omega)
  rw [Nat.mod_eq_of_lt h4]
  have := Nat.div_pos h1 (pp _)
  omega
/-- a digit above which nothing is: it is 0, or it is the highest one -/
theorem cut_step {k x n : Nat} (h : x < 2 ^ (k * (n + 1))) (h0 : dg k x n = 0) : x < 2 ^ (k * n) := by
  rw [pstep] at h
  unfold dg at h0
  have h4 : x / 2 ^ (k * n) < 2 ^ k := Nat.div_lt_of_lt_mul (by omega)
  rw [Nat.mod_eq_of_lt h4] at h0
  rcases (Nat.div_eq_zero_iff).1 h0 with h5 | h5
  · have := pp (k * n); omega
  · exact h5
theorem cut_stop {k x n : Nat} (hk : 0 < k) (h : x < 2 ^ (k * (n + 1))) (h0 : dg k x n ≠ 0) : dn k x = n + 1 := by
  have h1 := dn_le hk h
  have h2 : 2 ^ (k * n) ≤ x := by
    by_cases hx : 2 ^ (k * n) ≤ x
    · exact hx
    · exact absurd (dg_zero_of (by omega)) h0
  have := dn_ge hk h2
  omega
theorem dg_succ (k x i : Nat) : x % 2 ^ (k * (i + 1)) = dg k x i * 2 ^ (k * i) + x % 2 ^ (k * i) := by
  rw [pstep, Nat.mod_mul]; unfold dg; rw [Nat.mul_comm (x / 2 ^ (k * i) % 2 ^ k)]; omega
theorem dg_mod {k x n i : Nat} (h : i < n) : dg k (x % 2 ^ (k * n)) i = dg k x i := by
  unfold dg
  have e : k * n = k * i + (k + k * (n - i - 1)) := by
    have e1 : n = i + (1 + (n - i - 1)) := by omega
    rw [e1, Nat.mul_add, Nat.mul_add]; simp
  rw [e, Nat.pow_add, Nat.mod_mul_right_div_self, Nat.pow_add, Nat.mod_mul_right_mod]
theorem dg_ext {k x y n : Nat} (hx : x < 2 ^ (k * n)) (hy : y < 2 ^ (k * n)) (h : ∀ i, i < n → dg k x i = dg k y i) : x = y := by
  have : ∀ m, m ≤ n → x % 2 ^ (k * m) = y % 2 ^ (k * m) := by
    intro m
    induction m with
    | zero => intro _; simp [Nat.mod_one]
    | succ m ih => intro hm; rw [dg_succ, dg_succ, ih (by omega), h m (by omega)]
  have h1 := this n (Nat.le_refl _)
  rwa [Nat.mod_eq_of_lt hx, Nat.mod_eq_of_lt hy] at h1
theorem dg_div_eq {k x n : Nat} (h : x < 2 ^ (k * (n + 1))) : dg k x n = x / 2 ^ (k * n) := by
  rw [pstep] at h
  exact Nat.mod_eq_of_lt (Nat.div_lt_of_lt_mul (by omega))

/-! ### sums -/
def carry (k x y i : Nat) : Nat := (x % 2 ^ (k * i) + y % 2 ^ (k * i)) / 2 ^ (k * i)
theorem carry_zero (k x y : Nat) : carry k x y 0 = 0 := by simp [carry, Nat.mod_one]
theorem carry_le (k x y i : Nat) : carry k x y i ≤ 1 := by
  unfold carry
  have h1 := Nat.mod_lt x (pp (k * i))
  have h2 := Nat.mod_lt y (pp (k * i))
  have : (x % 2 ^ (k * i) + y % 2 ^ (k * i)) / 2 ^ (k * i) < 2 := Nat.div_lt_of_lt_mul (by omega)
  omega
theorem add_div' (x y P : Nat) (hP : 0 < P) : (x + y) / P = x / P + y / P + (x % P + y % P) / P := by
  have h1 := Nat.div_add_mod x P
  have h2 := Nat.div_add_mod y P
  have e : x + y = (x % P + y % P) + P * (x / P + y / P) := by rw [Nat.mul_add]; omega
  rw [e, Nat.add_mul_div_left _ _ hP]; omega
theorem carry_dg (k x y i : Nat) : (carry k x y i + dg k x i + dg k y i) % 2 ^ k = dg k (x + y) i := by
  unfold carry dg
  rw [add_div' x y _ (pp _)]
  generalize (x % 2 ^ (k * i) + y % 2 ^ (k * i)) / 2 ^ (k * i) = c
  generalize x / 2 ^ (k * i) = a
  generalize y / 2 ^ (k * i) = b
  rw [Nat.add_comm c, Nat.add_assoc, Nat.add_comm c, ← Nat.add_assoc, Nat.add_mod (a % 2 ^ k + b % 2 ^ k), ← Nat.add_mod a b, ← Nat.add_mod]
theorem carry_succ (k x y i : Nat) : (carry k x y i + dg k x i + dg k y i) / 2 ^ k = carry k x y (i + 1) := by
  unfold carry
  rw [dg_succ, dg_succ, pstep]
  generalize dg k x i = a
  generalize dg k y i = b
  generalize x % 2 ^ (k * i) = r
  generalize y % 2 ^ (k * i) = s
  have hP := pp (k * i)
  generalize 2 ^ (k * i) = P at *
  rw [← Nat.div_div_eq_div_mul]
  congr 1
  have e : a * P + r + (b * P + s) = (r + s) + P * (a + b) := by rw [Nat.mul_add, Nat.mul_comm P a, Nat.mul_comm P b]; omega
  rw [e, Nat.add_mul_div_left _ _ hP]; omega
/-- behind the last digit the carry is the digit -/
theorem carry_top {k x y n : Nat} (hx : x < 2 ^ (k * n)) (hy : y < 2 ^ (k * n)) : carry k x y n = (x + y) / 2 ^ (k * n) := by
  unfold carry; rw [Nat.mod_eq_of_lt hx, Nat.mod_eq_of_lt hy]
theorem add_lt_succ {k x y n : Nat} (hk : 0 < k) (hx : x < 2 ^ (k * n)) (hy : y < 2 ^ (k * n)) : x + y < 2 ^ (k * (n + 1)) := by
  rw [pstep]
  have : 2 ≤ 2 ^ k := by have := pmono (show 1 ≤ k by omega); omega
  have : 2 ^ (k * n) * 2 ≤ 2 ^ (k * n) * 2 ^ k := Nat.mul_le_mul_left _ this
  omega
theorem carry_top_dg {k x y n : Nat} (hk : 0 < k) (hx : x < 2 ^ (k * n)) (hy : y < 2 ^ (k * n)) : carry k x y n = dg k (x + y) n := by
  rw [carry_top hx hy, dg_div_eq (add_lt_succ hk hx hy)]

/-! ### differences -/
def borrow (k x y i : Nat) : Nat := if x % 2 ^ (k * i) < y % 2 ^ (k * i) then 1 else 0
theorem borrow_le (k x y i : Nat) : borrow k x y i ≤ 1 := by unfold borrow; split <;> omega
theorem borrow_zero (k x y : Nat) : borrow k x y 0 = 0 := by simp [borrow, Nat.mod_one]
theorem borrow_succ (k x y i : Nat) : borrow k x y (i + 1) = if dg k x i < dg k y i + borrow k x y i then 1 else 0 := by
  have h1 : borrow k x y i = if x % 2 ^ (k * i) < y % 2 ^ (k * i) then 1 else 0 := rfl
  have hs := Nat.mod_lt y (pp (k * i))
  have hr := Nat.mod_lt x (pp (k * i))
  have h2 : borrow k x y (i + 1) = if dg k x i * 2 ^ (k * i) + x % 2 ^ (k * i) < dg k y i * 2 ^ (k * i) + y % 2 ^ (k * i) then 1 else 0 := by
    unfold borrow; rw [dg_succ, dg_succ]
  rw [h1, h2]
  generalize dg k x i = a at *
  generalize dg k y i = b at *
  generalize x % 2 ^ (k * i) = r at *
  generalize y % 2 ^ (k * i) = s at *
  generalize 2 ^ (k * i) = P at *
  rcases Nat.lt_trichotomy a b with h | h | h
  · have : (a + 1) * P ≤ b * P := Nat.mul_le_mul_right P h
    rw [Nat.succ_mul] at this
    rw [if_pos (by omega), if_pos (by omega)]
  · subst h
    by_cases hh : r < s
    · simp [hh]
    · simp [hh]
  · have : (b + 1) * P ≤ a * P := Nat.mul_le_mul_right P h
    rw [Nat.succ_mul] at this
    rw [if_neg (by omega)]
    split <;> rw [if_neg (by omega)]
theorem mod_cancel {a b t B : Nat} (hB : 0 < B) (h : (a + t) % B = (b + t) % B) : a % B = b % B := by
  have e : ∀ x, (x + t) % B = (x + t % B) % B := fun x => by rw [Nat.add_mod, Nat.add_mod x (t % B), Nat.mod_mod]
  have ht := Nat.mod_lt t hB
  have e2 : ∀ x, x % B = ((x + t) % B + (B - t % B)) % B := fun x => by
    rw [e, Nat.mod_add_mod]
    have : x + t % B + (B - t % B) = x + B := by omega
    rw [this, Nat.add_mod_right]
  rw [e2 a, e2 b, h]
theorem sub_succ {k x y i : Nat} (h : y ≤ x) : dg k (x - y) i = (2 ^ k + dg k x i - dg k y i - borrow k x y i) % 2 ^ k := by
  have hb : borrow k x y i = if x % 2 ^ (k * i) < y % 2 ^ (k * i) then 1 else 0 := rfl
  have hs := Nat.mod_lt y (pp (k * i))
  have hr := Nat.mod_lt x (pp (k * i))
  have hx := Nat.div_add_mod x (2 ^ (k * i))
  have hy := Nat.div_add_mod y (2 ^ (k * i))
  have ha := dg_lt k x i
  have hb' := dg_lt k y i
  have hq : (x - y) / 2 ^ (k * i) + y / 2 ^ (k * i) + borrow k x y i = x / 2 ^ (k * i) := by
    have key : x = (x - y) + y := by omega
    rw [hb]
    have h3 := add_div' (x - y) y (2 ^ (k * i)) (pp _)
    rw [← key] at h3
    have h4 : (x - y) % 2 ^ (k * i) < 2 ^ (k * i) := Nat.mod_lt _ (pp _)
    have h5 : ((x - y) % 2 ^ (k * i) + y % 2 ^ (k * i)) % 2 ^ (k * i) = x % 2 ^ (k * i) := by rw [← Nat.add_mod, ← key]
    have h6 := Nat.div_add_mod ((x - y) % 2 ^ (k * i) + y % 2 ^ (k * i)) (2 ^ (k * i))
    have h7 : ((x - y) % 2 ^ (k * i) + y % 2 ^ (k * i)) / 2 ^ (k * i) < 2 := Nat.div_lt_of_lt_mul (by omega)
    generalize ((x - y) % 2 ^ (k * i) + y % 2 ^ (k * i)) / 2 ^ (k * i) = c at *
    rcases (show c = 0 ∨ c = 1 by omega) with rfl | rfl
    · rw [if_neg (by omega)]; omega
    · rw [if_pos (by omega)]; omega
  have hbl := borrow_le k x y i
  generalize borrow k x y i = c at *
  unfold dg at *
  generalize (x - y) / 2 ^ (k * i) = q at *
  generalize y / 2 ^ (k * i) = b at *
  generalize x / 2 ^ (k * i) = a at *
  subst hq
  have hB := pp k
  generalize 2 ^ k = B at *
  -- (q) % B = (B + (q + b + c) % B - b % B - c) % B
  have e1 : ((B + (q + b + c) % B - b % B - c) + (b + c)) % B = (q + (b + c)) % B := by
    have e2 : (B + (q + b + c) % B - b % B - c) + (b + c) = (q + b + c) % B + B * (1 + b / B) := by
      have := Nat.div_add_mod b B
      rw [Nat.mul_add]; omega
    rw [e2, Nat.add_mul_mod_self_left, Nat.mod_mod, Nat.add_assoc]
  exact (mod_cancel hB e1).symm

/-! ### products: one more row -/
/-- what the row below place i + k holds when k of y's digits have been done -/
def mac (k V a y i m : Nat) : Nat := V % 2 ^ (k * (i + m)) + a * (y % 2 ^ (k * m)) * 2 ^ (k * i)
theorem padd (k i m : Nat) : 2 ^ (k * (i + m)) = 2 ^ (k * i) * 2 ^ (k * m) := by rw [Nat.mul_add, Nat.pow_add]
theorem mac_zero (k V a y i : Nat) : mac k V a y i 0 = V % 2 ^ (k * i) := by simp [mac, Nat.mod_one]
theorem mac_succ (k V a y i m : Nat) : mac k V a y i (m + 1) = mac k V a y i m + (dg k V (i + m) + a * dg k y m) * 2 ^ (k * (i + m)) := by
  unfold mac
  rw [← Nat.add_assoc i m 1, dg_succ, dg_succ, padd, Nat.mul_add, Nat.add_mul, Nat.add_mul]
  have e : a * (dg k y m * 2 ^ (k * m)) * 2 ^ (k * i) = a * dg k y m * (2 ^ (k * i) * 2 ^ (k * m)) := by
    rw [Nat.mul_assoc, Nat.mul_assoc, Nat.mul_assoc, Nat.mul_comm (2 ^ (k * m))]
  rw [e]; omega
def mcar (k V a y i m : Nat) : Nat := mac k V a y i m / 2 ^ (k * (i + m))
theorem mcar_zero (k V a y i : Nat) : mcar k V a y i 0 = 0 := by
  unfold mcar; rw [mac_zero, Nat.add_zero]; exact Nat.div_eq_of_lt (Nat.mod_lt _ (pp _))
theorem mcar_sum (k V a y i m : Nat) : mac k V a y i (m + 1) / 2 ^ (k * (i + m)) = mcar k V a y i m + dg k V (i + m) + a * dg k y m := by
  rw [mac_succ, Nat.add_mul_div_right _ _ (pp _)]; unfold mcar; omega
theorem mcar_dg (k V a y i m : Nat) : (mcar k V a y i m + dg k V (i + m) + a * dg k y m) % 2 ^ k = dg k (mac k V a y i (m + 1)) (i + m) := by
  rw [← mcar_sum]; rfl
theorem mcar_succ (k V a y i m : Nat) : (mcar k V a y i m + dg k V (i + m) + a * dg k y m) / 2 ^ k = mcar k V a y i (m + 1) := by
  rw [← mcar_sum, Nat.div_div_eq_div_mul, ← pstep]; rfl
theorem mcar_lt (k V a y i : Nat) (ha : a < 2 ^ k) : ∀ m, mcar k V a y i m < 2 ^ k
  | 0 => by rw [mcar_zero]; exact pp k
  | m + 1 => by
    have h := mcar_lt k V a y i ha m
    rw [← mcar_succ]
    have h1 := dg_lt k V (i + m)
    have h2 := dg_lt k y m
    refine Nat.div_lt_of_lt_mul ?_
    generalize mcar k V a y i m = c at *
    generalize dg k V (i + m) = v at *
    generalize dg k y m = d at *
    generalize 2 ^ k = B at *
    have h3 : a * d ≤ (B - 1) * (B - 1) := Nat.mul_le_mul (by omega) (by omega)
    have h4 : (B - 1) * (B - 1) + (B - 1) + (B - 1) + 1 = B * B := by
      obtain ⟨b, rfl⟩ : ∃ b, B = b + 1 := ⟨B - 1, by omega⟩
      simp only [Nat.add_sub_cancel, Nat.add_mul, Nat.mul_add]; omega
    omega
theorem mac_low (k V a y i m : Nat) {j : Nat} (hj : j < i + m) : dg k (mac k V a y i (m + 1)) j = dg k (mac k V a y i m) j := by
  rw [mac_succ]
  rw [← dg_mod (n := i + m) hj, Nat.add_mul_mod_self_right, dg_mod hj]
theorem mac_end {k V a y i m : Nat} (hV : V < 2 ^ (k * (i + m))) (hy : y < 2 ^ (k * m)) : mac k V a y i m = V + a * y * 2 ^ (k * i) := by
  unfold mac; rw [Nat.mod_eq_of_lt hV, Nat.mod_eq_of_lt hy]
theorem mul_row (k x y i : Nat) : x % 2 ^ (k * i) * y + dg k x i * y * 2 ^ (k * i) = x % 2 ^ (k * (i + 1)) * y := by
  rw [dg_succ, Nat.add_mul, Nat.mul_assoc, Nat.mul_comm y, ← Nat.mul_assoc]; omega
theorem mul_row_lt {k x y i m : Nat} (hy : y < 2 ^ (k * m)) : x % 2 ^ (k * i) * y < 2 ^ (k * (i + m)) := by
  rw [padd]
  exact Nat.mul_lt_mul'' (Nat.mod_lt _ (pp _)) hy

/-! ### bits joined that do not meet -/
theorem or_add {s a b : Nat} (h : b < 2 ^ s) : a * 2 ^ s ||| b = a * 2 ^ s + b := by
  have := Nat.two_pow_add_eq_or_of_lt h a
  rw [Nat.mul_comm]; exact this.symm
theorem or_add' {s a b : Nat} (h : b < 2 ^ s) : b ||| a * 2 ^ s = b + a * 2 ^ s := by
  rw [Nat.or_comm, or_add h, Nat.add_comm]

/-! ### shifts to the left, digit by digit: n = k*q + s -/
def shl (k x n i : Nat) : Nat := x % 2 ^ (k * i) * 2 ^ n
theorem shl_zero (k x n : Nat) : shl k x n 0 = 0 := by simp [shl, Nat.mod_one]
theorem shl_succ (k x q s i : Nat) : shl k x (k * q + s) (i + 1) = shl k x (k * q + s) i + dg k x i * 2 ^ s * 2 ^ (k * (i + q)) := by
  unfold shl
  rw [dg_succ, Nat.add_mul, padd, Nat.pow_add, Nat.add_comm]
  congr 1
  generalize dg k x i = a
  rw [Nat.mul_assoc, Nat.mul_assoc]
  congr 1
  rw [← Nat.mul_assoc, Nat.mul_comm]
theorem shl_lt (k x q s i : Nat) : shl k x (k * q + s) i < 2 ^ s * 2 ^ (k * (i + q)) := by
  unfold shl
  have h := Nat.mod_lt x (pp (k * i))
  have e : 2 ^ s * 2 ^ (k * (i + q)) = 2 ^ (k * i) * 2 ^ (k * q + s) := by
    rw [padd, Nat.pow_add, Nat.mul_comm, Nat.mul_assoc]
  rw [e]
  exact Nat.mul_lt_mul_of_pos_right h (pp _)
/-- the digit at place i + q before and behind -/
theorem shl_at (k x q s i : Nat) (hs : s < k) : dg k (shl k x (k * q + s) i) (i + q) < 2 ^ s ∧ dg k (shl k x (k * q + s) i) (i + q) = shl k x (k * q + s) i / 2 ^ (k * (i + q)) := by
  have h := shl_lt k x q s i
  have h1 : shl k x (k * q + s) i / 2 ^ (k * (i + q)) < 2 ^ s := Nat.div_lt_of_lt_mul (by rw [Nat.mul_comm (2 ^ (k * (i + q)))]; exact h)
  have h2 : 2 ^ s ≤ 2 ^ k := pmono (by omega)
  have h3 : dg k (shl k x (k * q + s) i) (i + q) = shl k x (k * q + s) i / 2 ^ (k * (i + q)) := Nat.mod_eq_of_lt (by omega)
  exact ⟨by rw [h3]; exact h1, h3⟩
theorem shl_dg0 (k x q s i : Nat) (hs : s < k) : dg k (shl k x (k * q + s) (i + 1)) (i + q) = dg k (shl k x (k * q + s) i) (i + q) ||| (dg k x i * 2 ^ s % 2 ^ k) := by
  have h := shl_at k x q s i hs
  have e : dg k (shl k x (k * q + s) (i + 1)) (i + q) = (shl k x (k * q + s) i / 2 ^ (k * (i + q)) + dg k x i * 2 ^ s) % 2 ^ k := by
    show shl k x (k * q + s) (i + 1) / 2 ^ (k * (i + q)) % 2 ^ k = _
    rw [shl_succ, Nat.add_mul_div_right _ _ (pp _)]
  rw [e, ← h.2]
  have h1 := h.1
  generalize dg k (shl k x (k * q + s) i) (i + q) = t at *
  generalize dg k x i = a
  have e2 : a * 2 ^ s % 2 ^ k = a % 2 ^ (k - s) * 2 ^ s := by
    have : 2 ^ k = 2 ^ (k - s) * 2 ^ s := by rw [← Nat.pow_add]; congr 1; omega
    rw [this, Nat.mul_mod_mul_right]
  rw [e2, or_add' h1, ← e2]
  have hlt : t + a * 2 ^ s % 2 ^ k < 2 ^ k := by
    have h5 : a % 2 ^ (k - s) < 2 ^ (k - s) := Nat.mod_lt _ (pp _)
    have h6 : (a % 2 ^ (k - s) + 1) * 2 ^ s ≤ 2 ^ (k - s) * 2 ^ s := Nat.mul_le_mul_right _ h5
    have h7 : 2 ^ k = 2 ^ (k - s) * 2 ^ s := by rw [← Nat.pow_add]; congr 1; omega
    rw [Nat.add_mul] at h6
    rw [e2, h7]; omega
  rw [Nat.add_mod, Nat.mod_eq_of_lt (show t < 2 ^ k by have := pp s; have : 2 ^ s ≤ 2 ^ k := pmono (by omega); omega), Nat.mod_eq_of_lt hlt]
theorem shl_dg1 (k x q s i : Nat) (hs : s < k) : dg k (shl k x (k * q + s) (i + 1)) (i + q + 1) = dg k x i * 2 ^ s / 2 ^ k := by
  have h := shl_at k x q s i hs
  show shl k x (k * q + s) (i + 1) / 2 ^ (k * (i + q + 1)) % 2 ^ k = _
  rw [pstep, ← Nat.div_div_eq_div_mul, shl_succ, Nat.add_mul_div_right _ _ (pp _), ← h.2]
  have h1 := h.1
  have ha := dg_lt k x i
  generalize dg k (shl k x (k * q + s) i) (i + q) = t at *
  generalize dg k x i = a at *
  have e2 : (t + a * 2 ^ s) / 2 ^ k = a * 2 ^ s / 2 ^ k := by
    have h7 : 2 ^ k = 2 ^ s * 2 ^ (k - s) := by rw [← Nat.pow_add]; congr 1; omega
    rw [h7, ← Nat.div_div_eq_div_mul, ← Nat.div_div_eq_div_mul, Nat.add_mul_div_right _ _ (pp _), Nat.mul_div_cancel _ (pp _), Nat.div_eq_of_lt h1, Nat.zero_add]
  rw [e2]
  refine Nat.mod_eq_of_lt (Nat.div_lt_of_lt_mul ?_)
  have h8 : 2 ^ s ≤ 2 ^ k := pmono (by omega)
  exact Nat.lt_of_lt_of_le (Nat.mul_lt_mul_of_pos_right ha (pp s)) (Nat.mul_le_mul_left _ h8)
theorem shl_dg_low (k x q s i : Nat) {j : Nat} (hj : j < i + q) : dg k (shl k x (k * q + s) (i + 1)) j = dg k (shl k x (k * q + s) i) j := by
  rw [shl_succ, ← dg_mod (n := i + q) hj, Nat.add_mul_mod_self_right, dg_mod hj]
theorem shl_dg_high (k x q s i : Nat) (hs : s < k) {j : Nat} (hj : i + q + 1 ≤ j) : dg k (shl k x (k * q + s) i) j = 0 := by
  refine dg_zero_of (Nat.lt_of_lt_of_le (shl_lt k x q s i) ?_)
  rw [← Nat.pow_add]
  refine pmono ?_
  have : k * (i + q + 1) ≤ k * j := Nat.mul_le_mul_left k hj
  rw [Nat.mul_succ] at this; omega
theorem shl_end {k x n m : Nat} (h : x < 2 ^ (k * m)) : shl k x n m = x * 2 ^ n := by unfold shl; rw [Nat.mod_eq_of_lt h]
theorem shl_bound {k x q s m : Nat} (h : x < 2 ^ (k * m)) (hs : s < k) : x * 2 ^ (k * q + s) < 2 ^ (k * (m + q + 1)) := by
  have h1 := shl_lt k x q s m
  rw [shl_end h] at h1
  refine Nat.lt_of_lt_of_le h1 ?_
  rw [← Nat.pow_add]; refine pmono ?_
  rw [Nat.mul_succ]; omega

/-! ### shifts to the right -/
theorem dg_div (k x q i : Nat) : dg k (x / 2 ^ (k * q)) i = dg k x (q + i) := by
  unfold dg; rw [Nat.div_div_eq_div_mul, ← padd]
theorem shr_dg (k x s i : Nat) (hs : s ≤ k) : dg k (x / 2 ^ s) i = (dg k x i + dg k x (i + 1) * 2 ^ k) / 2 ^ s % 2 ^ k := by
  have e : dg k x i + dg k x (i + 1) * 2 ^ k = x / 2 ^ (k * i) % 2 ^ (k + k) := by
    unfold dg
    rw [Nat.pow_add, Nat.mod_mul, pstep, ← Nat.div_div_eq_div_mul, Nat.mul_comm (2 ^ k)]
  rw [e]
  unfold dg
  rw [Nat.div_div_eq_div_mul, Nat.mul_comm, ← Nat.div_div_eq_div_mul]
  generalize x / 2 ^ (k * i) = z
  have h7 : 2 ^ (k + k) = 2 ^ s * 2 ^ (k + (k - s)) := by rw [← Nat.pow_add]; congr 1; omega
  rw [h7, Nat.mod_mul_right_div_self, Nat.pow_add, Nat.mod_mul_right_mod]
theorem shr_bound {k x q m : Nat} (h : x < 2 ^ (k * m)) (hq : q ≤ m) : x / 2 ^ (k * q) < 2 ^ (k * (m - q)) := by
  refine Nat.div_lt_of_lt_mul ?_
  rw [← Nat.pow_add, ← Nat.mul_add]
  have : q + (m - q) = m := by omega
  rw [this]; exact h
/-! ### the bits' number -/
theorem size_eq {k x : Nat} (hk : 0 < k) (h : x ≠ 0) : x.log2 + 1 = k * (dn k x - 1) + (dg k x (dn k x - 1)).log2 + 1 := by
  have h1 := le_dn (k := k) x h
  have h2 := lt_dn hk x
  have h3 := dn_pos (k := k) h
  have e : dn k x = (dn k x - 1) + 1 := by omega
  have h4 := dg_top hk h
  rw [e] at h2
  have h5 := dg_div_eq h2
  rw [h5] at h4 ⊢
  generalize dn k x - 1 = m at *
  have h6 := Nat.log2_self_le h4
  have h7 : x / 2 ^ (k * m) < 2 ^ ((x / 2 ^ (k * m)).log2 + 1) := Nat.lt_log2_self
  generalize (x / 2 ^ (k * m)).log2 = t at *
  have h8 : 2 ^ (k * m + t) ≤ x := by
    rw [Nat.pow_add, Nat.mul_comm]
    exact (Nat.le_div_iff_mul_le (pp _)).1 h6
  have h9 : x < 2 ^ (k * m + t + 1) := by
    rw [Nat.add_assoc, Nat.pow_add, Nat.mul_comm]
    exact (Nat.div_lt_iff_lt_mul (pp _)).1 h7
  have := (Nat.le_log2 h).2 h8
  have := (Nat.log2_lt h).2 h9
  omega

/-! ### comparing -/
theorem cmp_len {k x y : Nat} (hk : 0 < k) (h : dn k x < dn k y) : x < y := by
  have h1 := lt_dn hk x
  have hy : y ≠ 0 := by rintro rfl; rw [dn_zero] at h; omega
  have h2 := le_dn (k := k) y hy
  have h3 : 2 ^ (k * dn k x) ≤ 2 ^ (k * (dn k y - 1)) := pmono (Nat.mul_le_mul_left k (by omega))
  omega
theorem div_step (k x i : Nat) : x / 2 ^ (k * i) = x / 2 ^ (k * (i + 1)) * 2 ^ k + dg k x i := by
  rw [pstep, ← Nat.div_div_eq_div_mul]; unfold dg
  have := Nat.div_add_mod (x / 2 ^ (k * i)) (2 ^ k)
  rw [Nat.mul_comm] at this; omega
theorem cmp_digit {k x y i : Nat} (h : x / 2 ^ (k * (i + 1)) = y / 2 ^ (k * (i + 1))) (hd : dg k x i < dg k y i) : x < y := by
  have h1 := div_step k x i
  have h2 := div_step k y i
  rw [h] at h1
  have h3 : x / 2 ^ (k * i) < y / 2 ^ (k * i) := by omega
  by_cases hxy : x < y
  · exact hxy
  · have := Nat.div_le_div_right (c := 2 ^ (k * i)) (show y ≤ x by omega); omega
theorem cmp_next {k x y i : Nat} (h : x / 2 ^ (k * (i + 1)) = y / 2 ^ (k * (i + 1))) (hd : dg k x i = dg k y i) : x / 2 ^ (k * i) = y / 2 ^ (k * i) := by
  rw [div_step k x i, div_step k y i, h, hd]
/-- -1, 0 or 1 -/
def cmpZ (x y : Nat) : Int := if x < y then -1 else if y < x then 1 else 0
end Fil

/- Numbers and their bytes: no program in sight. -/
namespace Fil
/-- the number of some bytes, the highest first -/
def nb : List UInt8 → Nat
  | [] => 0
  | b :: l => b.toNat * 2 ^ (8 * l.length) + nb l
theorem nb_lt : ∀ l : List UInt8, nb l < 2 ^ (8 * l.length)
  | [] => by simp [nb]
  | b :: l => by
    have h := nb_lt l
    have hb : b.toNat < 256 := b.toNat_lt
    rw [List.length_cons, pstep]
    show b.toNat * 2 ^ (8 * l.length) + nb l < _
    have : (b.toNat + 1) * 2 ^ (8 * l.length) ≤ 256 * 2 ^ (8 * l.length) := Nat.mul_le_mul_right _ hb
    rw [Nat.add_mul] at this; omega
theorem nb_dg : ∀ (l : List UInt8) (i : Nat) (h : i < l.length), dg 8 (nb l) i = (l[l.length - 1 - i]'(by omega)).toNat
  | b :: l, i, h => by
    rw [List.length_cons] at h
    by_cases e : i = l.length
    · subst e
      have hl : nb (b :: l) = b.toNat * 2 ^ (8 * l.length) + nb l := rfl
      have hb : b.toNat < 256 := b.toNat_lt
      have h1 := nb_lt l
      rw [dg_div_eq (by have := nb_lt (b :: l); simpa using this), hl, Nat.add_comm, Nat.add_mul_div_right _ _ (pp _), Nat.div_eq_of_lt h1]
      simp
    · have hi : i < l.length := by omega
      have h1 := nb_dg l i hi
      have hl : nb (b :: l) = b.toNat * 2 ^ (8 * l.length) + nb l := rfl
      rw [← dg_mod (n := l.length) hi, hl, Nat.mul_add_mod_self_right, dg_mod hi, h1]
      congr 1
      have e2 : (b :: l).length - 1 - i = (l.length - 1 - i) + 1 := by simp; omega
      simp only [e2, List.getElem_cons_succ]
/-- the bytes of a number, the highest first, none of them a 0 ahead -/
def bs (x : Nat) : List UInt8 := (List.range (dn 8 x)).map fun i => UInt8.ofNat (dg 8 x (dn 8 x - 1 - i))
theorem bs_length (x : Nat) : (bs x).length = dn 8 x := by simp [bs]
theorem bs_get (x i : Nat) (h : i < (bs x).length) : (bs x)[i].toNat = dg 8 x (dn 8 x - 1 - i) := by
  have := dg_lt 8 x (dn 8 x - 1 - i)
  simp [bs]
  omega
theorem nb_bs (x : Nat) : nb (bs x) = x := by
  have h1 := nb_lt (bs x)
  rw [bs_length] at h1
  refine dg_ext h1 (lt_dn (by omega) x) fun i hi => ?_
  rw [nb_dg _ i (by rw [bs_length]; exact hi), bs_get]
  congr 1
  rw [bs_length]; omega
theorem bs_inj {x y : Nat} (h : bs x = bs y) : x = y := by rw [← nb_bs x, h, nb_bs]
theorem bs_zero : bs 0 = [] := by simp [bs, dn]
end Fil

/- Plain arithmetic: digits to the base 2^32 out of bytes. -/
namespace Fil
end Fil

/- Plain arithmetic: the noughts at a number's end, and how many bits it has. -/
namespace Fil
open Go

/-- how many noughts a number's bits end with -/
def tz (x : Nat) : Nat := Lib.ctzFrom x x
theorem lt_two_pow (x : Nat) : x < 2 ^ x := Nat.lt_two_pow_self
theorem tz_spec {x : Nat} (h : x ≠ 0) : ∃ m, x = 2 ^ tz x * (2 * m + 1) := by
  obtain ⟨m, hm, _⟩ := Lib.ctzFrom_spec x x (by omega) (lt_two_pow x)
  exact ⟨m, hm⟩
theorem tz_zero : tz 0 = 0 := rfl
theorem odd_uniq {a b m n : Nat} (h : 2 ^ a * (2 * m + 1) = 2 ^ b * (2 * n + 1)) : a = b := by
  have key : ∀ a b m n : Nat, a < b → 2 ^ a * (2 * m + 1) ≠ 2 ^ b * (2 * n + 1) := by
    intro a b m n hab h
    obtain ⟨d, rfl⟩ : ∃ d, b = a + (d + 1) := ⟨b - a - 1, by omega⟩
    rw [Nat.pow_add, Nat.mul_assoc] at h
    have h2 := Nat.eq_of_mul_eq_mul_left (pp a) h
    rw [Nat.pow_succ, Nat.mul_comm (2 ^ d) 2, Nat.mul_assoc] at h2
    omega
  rcases Nat.lt_trichotomy a b with h1 | h1 | h1
  · exact absurd h (key _ _ _ _ h1)
  · exact h1
  · exact absurd h.symm (key _ _ _ _ h1)
theorem tz_of {x k m : Nat} (h : x = 2 ^ k * (2 * m + 1)) : tz x = k := by
  have hx : x ≠ 0 := by
    have := pp k
    have : 0 < 2 ^ k * (2 * m + 1) := Nat.mul_pos this (by omega)
    omega
  obtain ⟨n, hn⟩ := tz_spec hx
  exact odd_uniq (hn.symm.trans h)
theorem tz_div {x : Nat} (h : x ≠ 0) : x / 2 ^ tz x % 2 = 1 := by
  obtain ⟨m, hm⟩ := tz_spec h
  generalize tz x = k at *
  subst hm
  rw [Nat.mul_div_cancel_left _ (pp k)]; omega
theorem tz_mul {x : Nat} : x / 2 ^ tz x * 2 ^ tz x = x := by
  by_cases h : x = 0
  · subst h; simp
  · obtain ⟨m, hm⟩ := tz_spec h
    generalize tz x = k at *
    subst hm
    rw [Nat.mul_div_cancel_left _ (pp k), Nat.mul_comm]
theorem tz_odd {x : Nat} (h : x % 2 = 1) : tz x = 0 := tz_of (m := x / 2) (by rw [Nat.pow_zero]; omega)
theorem tz_shift {x k : Nat} (h : x ≠ 0) : tz (x * 2 ^ k) = tz x + k := by
  obtain ⟨m, hm⟩ := tz_spec h
  exact tz_of (m := m) (by rw [Nat.pow_add, Nat.mul_right_comm, ← hm])
theorem tz_le_log {x : Nat} (h : x ≠ 0) : tz x ≤ x.log2 := by
  obtain ⟨m, hm⟩ := tz_spec h
  refine (Nat.le_log2 h).2 ?_
  have : 2 ^ tz x * 1 ≤ 2 ^ tz x * (2 * m + 1) := Nat.mul_le_mul_left _ (by omega)
  omega
/-- the bits of a number -/
def bl (x : Nat) : Nat := if x = 0 then 0 else x.log2 + 1
theorem bl_zero : bl 0 = 0 := rfl
theorem lt_bl (x : Nat) : x < 2 ^ bl x := by
  unfold bl; split
  · omega
  · exact Nat.lt_log2_self
theorem bl_le {x n : Nat} (h : x < 2 ^ n) : bl x ≤ n := by
  unfold bl; split
  · omega
  · rename_i h0
    have := (Nat.log2_lt h0).2 h; omega
theorem le_bl {x : Nat} (h : x ≠ 0) : 2 ^ (bl x - 1) ≤ x := by
  unfold bl; rw [if_neg h]; exact Nat.log2_self_le h
theorem bl_eq {x n : Nat} (h1 : 2 ^ n ≤ x) (h2 : x < 2 ^ (n + 1)) : bl x = n + 1 := by
  have hx : x ≠ 0 := by have := pp n; omega
  unfold bl; rw [if_neg hx]
  have := (Nat.le_log2 hx).2 h1
  have := (Nat.log2_lt hx).2 h2
  omega
theorem bl_dn {k x : Nat} (hk : 0 < k) (h : x ≠ 0) : bl x = k * (dn k x - 1) + bl (dg k x (dn k x - 1)) := by
  have h1 := size_eq hk h
  have h2 := dg_top hk h
  unfold bl; rw [if_neg h, if_neg h2]; omega
theorem dn8_bl (x : Nat) : dn 8 x = (bl x + 7) / 8 := by
  unfold dn bl; split
  · rfl
  · omega
theorem bl_shift {x k : Nat} (h : x ≠ 0) : bl (x * 2 ^ k) = bl x + k := by
  have h1 := le_bl h
  have h2 := lt_bl x
  have h3 : bl x ≠ 0 := by unfold bl; rw [if_neg h]; omega
  have h4 : bl x = bl x - 1 + 1 := by omega
  have := bl_eq (x := x * 2 ^ k) (n := bl x - 1 + k) (by rw [Nat.pow_add]; exact Nat.mul_le_mul_right _ h1) (by
    rw [show bl x - 1 + k + 1 = bl x + k by omega, Nat.pow_add]; exact Nat.mul_lt_mul_of_pos_right h2 (pp k))
  omega
end Fil
