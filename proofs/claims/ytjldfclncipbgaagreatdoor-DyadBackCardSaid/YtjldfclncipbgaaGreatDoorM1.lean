/- Merged: JK JZ R9 M1 -/
import Derived.Test.YtjldfclncipbgaaGreatDoorJN
import Derived.Test.YtjldfclncipbgaaGreatDoorBA
import Derived.Shelf.Strconv.Itoa0
import Derived.Test.YtjldfclncipbgaaGreatDoorJU
import Derived.Test.YtjldfclncipbgaaGreatDoorJC
import Derived.Test.YtjldfclncipbgaaGreatDoorJP

/- The walk over Rat's Float64. -/
namespace Go.Proofs.YtjldfclncipbgaaGreatDoor
open Go Go.RowKit Go.PlainAid Fil

theorem bl_dn {x n : Nat} (h : dn 32 x ≤ n) : bl x ≤ 32 * n := bl_le (lt_of_dn (by omega) h)
end Go.Proofs.YtjldfclncipbgaaGreatDoor

/- filigreelaw04.RatioField. -/
namespace Go.Proofs.YtjldfclncipbgaaGreatDoor
open Go Go.RowKit Go.PlainAid Fil

/-- few bytes -/
def Bts (K : Nat) (x : Rat) : Prop := Fil.dn 8 x.num.natAbs ≤ K ∧ Fil.dn 8 x.den ≤ K
theorem dn8_mul {x y j k : Nat} (hx : Fil.dn 8 x ≤ j) (hy : Fil.dn 8 y ≤ k) : Fil.dn 8 (x * y) ≤ j + k := dn_le (by omega) (by rw [padd]; exact Nat.mul_lt_mul'' (lt_of_dn (by omega) hx) (lt_of_dn (by omega) hy))
theorem dn8_add {x y k : Nat} (hx : Fil.dn 8 x ≤ k) (hy : Fil.dn 8 y ≤ k) : Fil.dn 8 (x + y) ≤ k + 1 := dn_le (by omega) (add_lt_succ (by omega) (lt_of_dn (by omega) hx) (lt_of_dn (by omega) hy))
theorem dn8_mulI {x y : Int} {j k : Nat} (hx : Fil.dn 8 x.natAbs ≤ j) (hy : Fil.dn 8 y.natAbs ≤ k) : Fil.dn 8 (x * y).natAbs ≤ j + k := by rw [Int.natAbs_mul]; exact dn8_mul hx hy
theorem dn8_addI {x y : Int} {k : Nat} (hx : Fil.dn 8 x.natAbs ≤ k) (hy : Fil.dn 8 y.natAbs ≤ k) : Fil.dn 8 (x + y).natAbs ≤ k + 1 :=
  Nat.le_trans (dn_mono (by omega) (Int.natAbs_add_le x y)) (dn8_add hx hy)
theorem bts_div {K : Nat} {p q : Int} (hq : q ≠ 0) (hp : Fil.dn 8 p.natAbs ≤ K) (hd : Fil.dn 8 q.natAbs ≤ K) : Bts K (Rat.divInt p q) := by
  refine ⟨?_, ?_⟩
  · rw [← norm_num p q hq, sz_abs]
    exact Nat.le_trans (dn_mono (by omega) (Nat.div_le_self _ _)) hp
  · rw [← norm_den p q hq]
    exact Nat.le_trans (dn_mono (by omega) (Nat.div_le_self _ _)) hd
theorem Bts.denI {K : Nat} {x : Rat} (h : Bts K x) : Fil.dn 8 ((x.den : Int)).natAbs ≤ K := by rw [Int.natAbs_natCast]; exact h.2
theorem Bts.mono {K L : Nat} {x : Rat} (h : Bts K x) (hL : K ≤ L) : Bts L x := ⟨Nat.le_trans h.1 hL, Nat.le_trans h.2 hL⟩
theorem Bts.add {J K : Nat} {x y : Rat} (hx : Bts J x) (hy : Bts K y) : Bts (J + K + 1) (x + y) := by
  rw [← divInt_add]
  exact bts_div (den_mul_ne x y) (dn8_addI (dn8_mulI hx.1 hy.denI) (by rw [Nat.add_comm J K]; exact dn8_mulI hy.1 hx.denI)) (Nat.le_trans (dn8_mulI hx.denI hy.denI) (by omega))
theorem Bts.neg {K : Nat} {x : Rat} (h : Bts K x) : Bts K (-x) := ⟨by rw [Rat.neg_num, Int.natAbs_neg]; exact h.1, h.2⟩
end Go.Proofs.YtjldfclncipbgaaGreatDoor

/- Merged: R4 R5 R6 R7 R9 -/
/- Merged: R1 R2 R3 R4 -/
/- The reference of layer 2: digits, at (turned from the texts over layer 3's reference). -/
namespace Go.Proofs.YtjldfclncipbgaaGreatDoor
open Go Go.RowKit Go.PlainAid Fil

end Go.Proofs.YtjldfclncipbgaaGreatDoor

/- Plain laws for the reference of layer 2: quotients digit by digit (base 256), texts cut at the end. -/
namespace Go.Proofs.YtjldfclncipbgaaGreatDoor
open Go Go.RowKit Go.PlainAid Fil

/-- what is left of x's upper digits from digit k on, divided by b -/
def s8 (x b k : Nat) : Nat := x / 2 ^ (8 * k) % b
end Go.Proofs.YtjldfclncipbgaaGreatDoor

/- The reference of layer 2: plus, Cmp, Sub. -/
namespace Go.Proofs.YtjldfclncipbgaaGreatDoor
open Go Go.RowKit Go.PlainAid Fil

end Go.Proofs.YtjldfclncipbgaaGreatDoor

/- The reference of layer 2: times, Sub (printed by gen_r4.py out of B9's walks). -/
namespace Go.Proofs.YtjldfclncipbgaaGreatDoor
open Go Go.RowKit Go.PlainAid Fil

end Go.Proofs.YtjldfclncipbgaaGreatDoor

/- The reference of layer 2: Div, Gcd. -/
namespace Go.Proofs.YtjldfclncipbgaaGreatDoor
open Go Go.RowKit Go.PlainAid Fil

end Go.Proofs.YtjldfclncipbgaaGreatDoor

/- The reference of layer 2: ended, Mul, Add, May; the reference of layer 4: times, May. -/
namespace Go.Proofs.YtjldfclncipbgaaGreatDoor
open Go Go.RowKit Go.PlainAid Fil

end Go.Proofs.YtjldfclncipbgaaGreatDoor

/- The reference of layer 4: Lowest, Neg, Add, Mul, Quo, Compare, by letters. -/
namespace Go.Proofs.YtjldfclncipbgaaGreatDoor
open Go Go.RowKit Go.PlainAid Fil

end Go.Proofs.YtjldfclncipbgaaGreatDoor

/- Merged: R8 R9 -/
/- The reference of layer 4: May, Lowest, Add, Mul, Quo, Compare, Neg of ratios. -/
namespace Go.Proofs.YtjldfclncipbgaaGreatDoor
open Go Go.RowKit Go.PlainAid Fil

end Go.Proofs.YtjldfclncipbgaaGreatDoor

/- The reference of layer 4 over ratios: Lowest, Neg, Add, Mul, Quo, Compare. -/
namespace Go.Proofs.YtjldfclncipbgaaGreatDoor
open Go Go.RowKit Go.PlainAid Fil

end Go.Proofs.YtjldfclncipbgaaGreatDoor

/- The reference of layer 2: Text. -/
namespace Go.Proofs.YtjldfclncipbgaaGreatDoor
open Go Go.RowKit Go.PlainAid Fil

theorem Own.row {w : World} {B : Nat} {v : Value} {n : Nat} {f : Nat → Int} (h : Own w B v n f) (h0 : 0 < n) : ∃ (g cap : Nat) (F : Nat → Value), v = .slice (some ⟨g, 0, none⟩) n cap ∧ B ≤ g ∧ g < w.heap.size ∧ n ≤ cap ∧ w.rowIs g 3 cap F ∧ ∀ (j : Nat), j < n → F j = .int .i64 (f j) := by
  rcases h.2 with ⟨rfl, rfl⟩ | ⟨g, cap, cur, rfl, hB, hh, hc, _, hs, ht⟩
  · omega
  · refine ⟨g, cap, fun j => cur.getD j undef, rfl, hB, lt_of_heap hh, hc, ⟨cur, hh, by simpa using hs, fun i hi => ?_⟩, fun j hj => ?_⟩
    · have : i < cur.size := by rw [show cur.size = cap by simpa using hs]; exact hi
      simp [this]
    · have h1 : (cur.toList.take (n * 1))[j]? = ((List.range n).map fun i => Value.int .i64 (f i))[j]? := by rw [ht]
      rw [List.getElem?_take_of_lt (by omega), List.getElem?_map, List.getElem?_range hj] at h1
      have h2 : cur[j]? = some (.int .i64 (f j)) := by simpa using h1
      show cur.getD j undef = _
      rw [Array.getD_eq_getD_getElem?, h2]; rfl
theorem OwnB.out {w : World} {B : Nat} {v : Value} {l : List UInt8} (h : OwnB w B v l) {g o : Nat} (hg : g < B) (u : Value) : OwnB (w.setCell ⟨g, o, none⟩ u) B v l := by
  refine ⟨?_, ?_⟩
  · exact h.1
  rcases h.2 with h2 | ⟨k, cap, cur, hv, hk, hh, hr⟩
  · exact .inl h2
  · exact .inr ⟨k, cap, cur, hv, hk, (Below.heap_setCell _ _ _ _ (by show k ≠ g; omega)).trans hh, hr⟩
end Go.Proofs.YtjldfclncipbgaaGreatDoor
