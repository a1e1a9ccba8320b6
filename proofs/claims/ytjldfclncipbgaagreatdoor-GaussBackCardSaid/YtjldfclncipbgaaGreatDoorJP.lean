/- Merged: JO JP -/
import Derived.Test.YtjldfclncipbgaaGreatDoorJH
import Derived.Laws.RangeAny

/- Short multiplication of a row of digits, decimal signs of a text: plain; the call's own row of digits. -/
namespace Fil
/-- what is carried after i digits of X times t, n0 more -/
def mc (X t n0 i : Nat) : Nat := (X % 2 ^ (32 * i) * t + n0) / 2 ^ (32 * i)
theorem mc_zero (X t n0 : Nat) : mc X t n0 0 = n0 := by simp [mc, Nat.mod_one]
theorem mc_sum (X t n0 i : Nat) : mc X t n0 i + dg 32 X i * t = (X % 2 ^ (32 * (i + 1)) * t + n0) / 2 ^ (32 * i) := by
  unfold mc dg
  rw [show 32 * (i + 1) = 32 * i + 32 by omega, Nat.pow_add, Nat.mod_mul, Nat.add_mul]
  have hp := Nat.two_pow_pos (32 * i)
  rw [show X % 2 ^ (32 * i) * t + 2 ^ (32 * i) * (X / 2 ^ (32 * i) % 2 ^ 32) * t + n0 = (X % 2 ^ (32 * i) * t + n0) + 2 ^ (32 * i) * (X / 2 ^ (32 * i) % 2 ^ 32 * t) by rw [Nat.mul_assoc]; omega, Nat.add_mul_div_left _ _ hp]
theorem mc_dg (X t n0 i : Nat) : (mc X t n0 i + dg 32 X i * t) % 2 ^ 32 = dg 32 (X * t + n0) i := by
  rw [mc_sum]
  unfold dg
  have hp := Nat.two_pow_pos (32 * i)
  conv => rhs; rw [← Nat.mod_add_div X (2 ^ (32 * (i + 1)))]
  rw [Nat.add_mul, show X % 2 ^ (32 * (i + 1)) * t + 2 ^ (32 * (i + 1)) * (X / 2 ^ (32 * (i + 1))) * t + n0 = (X % 2 ^ (32 * (i + 1)) * t + n0) + 2 ^ (32 * i) * (2 ^ 32 * (X / 2 ^ (32 * (i + 1)) * t)) by
    rw [show 32 * (i + 1) = 32 * i + 32 by omega, Nat.pow_add, Nat.mul_assoc, Nat.mul_assoc]; omega, Nat.add_mul_div_left _ _ hp, Nat.add_mul_mod_self_left]
theorem mc_succ (X t n0 i : Nat) : (mc X t n0 i + dg 32 X i * t) / 2 ^ 32 = mc X t n0 (i + 1) := by
  rw [mc_sum, Nat.div_div_eq_div_mul, ← Nat.pow_add]
  rfl
theorem mc_lt {X t n0 : Nat} (h : n0 < t) (i : Nat) : mc X t n0 i < t := by
  unfold mc
  have hp := Nat.two_pow_pos (32 * i)
  have h1 := Nat.mod_lt X hp
  rw [Nat.div_lt_iff_lt_mul hp]
  calc X % 2 ^ (32 * i) * t + n0 < X % 2 ^ (32 * i) * t + t := by omega
    _ = (X % 2 ^ (32 * i) + 1) * t := by rw [Nat.add_mul, Nat.one_mul]
    _ ≤ 2 ^ (32 * i) * t := Nat.mul_le_mul_right _ h1
    _ = t * 2 ^ (32 * i) := Nat.mul_comm _ _
theorem mc_top {X t n0 m : Nat} (hX : X < 2 ^ (32 * m)) : mc X t n0 m = (X * t + n0) / 2 ^ (32 * m) := by unfold mc; rw [Nat.mod_eq_of_lt hX]
theorem mc_more {X t n0 m : Nat} (hX : X < 2 ^ (32 * m)) (h : mc X t n0 m < 4294967296) : X * t + n0 < 2 ^ (32 * (m + 1)) ∧ dg 32 (X * t + n0) m = mc X t n0 m := by
  have hp := Nat.two_pow_pos (32 * m)
  rw [mc_top hX] at h ⊢
  refine ⟨?_, ?_⟩
  · rw [Nat.div_lt_iff_lt_mul hp] at h
    rw [show 32 * (m + 1) = 32 + 32 * m by omega, Nat.pow_add]; exact h
  · unfold dg; exact Nat.mod_eq_of_lt h
theorem mc_done {X t n0 m : Nat} (hX : X < 2 ^ (32 * m)) (h : mc X t n0 m = 0) : X * t + n0 < 2 ^ (32 * m) := by
  have hp := Nat.two_pow_pos (32 * m)
  rw [mc_top hX] at h
  rcases Nat.div_eq_zero_iff.1 h with h | h
  · omega
  · exact h
end Fil
namespace Go.Proofs.YtjldfclncipbgaaGreatDoor
open Go Go.RowKit Go.PlainAid Fil
/-- the number that i signs of a text say -/
def dvt (s : ByteArray) (i : Nat) : Nat := dval 0 (s.data.toList.take i)
theorem dvt_zero (s : ByteArray) : dvt s 0 = 0 := rfl
theorem dvt_succ {s : ByteArray} {i : Nat} (h : i < s.size) : dvt s (i + 1) = 10 * dvt s i + ((s[i]'h).toNat - 48) := by
  unfold dvt
  have h1 : i < s.data.toList.length := by rw [Array.length_toList]; exact h
  rw [List.take_succ_eq_append_getElem h1, dval_append, dval_cons, dval_nil]
  rfl
theorem dvt_size (s : ByteArray) : dvt s s.size = dval 0 s.data.toList := by
  unfold dvt
  rw [List.take_of_length_le]
  rw [Array.length_toList]; exact Nat.le_refl _
/-- a row of digits that the call has made -/
def OwnD (w : World) (B : Nat) (v : Value) (n X : Nat) : Prop := w.ownsRow B 89 1 v n ((List.range n).map (d32 X))
theorem OwnD.row {w : World} {B : Nat} {v : Value} {n X : Nat} (h : OwnD w B v n X) (h0 : n ≠ 0) : ∃ (g cap : Nat) (f : Nat → Value), v = .slice (some ⟨g, 0, none⟩) n cap ∧ B ≤ g ∧ n ≤ cap ∧ cap ≤ maxLen ∧ w.rowIs g 89 cap f ∧ ∀ (j : Nat), j < n → f j = d32 X j := by
  rcases h.2 with ⟨_, h1⟩ | ⟨g, cap, cur, hv, hg, hh, hc, hx, hs, ht⟩
  · exact absurd h1 h0
  · refine ⟨g, cap, fun j => cur.getD j undef, hv, hg, hc, hx, ⟨cur, hh, by simpa using hs, fun i hi => ?_⟩, fun j hj => ?_⟩
    · have : i < cur.size := by rw [show cur.size = cap by simpa using hs]; exact hi
      simp [this]
    · have h1 : (cur.toList.take (n * 1))[j]? = ((List.range n).map (d32 X))[j]? := by rw [ht]
      rw [List.getElem?_take_of_lt (by omega), List.getElem?_map, List.getElem?_range hj] at h1
      have h2 : cur[j]? = some (d32 X j) := by simpa using h1
      show cur.getD j undef = _
      rw [Array.getD_eq_getD_getElem?, h2]; rfl
theorem OwnD.of_row {w : World} {B g n cap X : Nat} {f : Nat → Value} (hg : B ≤ g) (hn : n ≤ cap) (hc : cap ≤ maxLen) (h : w.rowIs g 89 cap f) (hf : ∀ j, j < n → f j = d32 X j) : OwnD w B (.slice (some ⟨g, 0, none⟩) n cap) n X := by
  obtain ⟨cur, hh, hs, hcell⟩ := h
  refine ⟨by simp, .inr ⟨g, cap, cur, rfl, hg, hh, hn, hc, by simpa using hs, ?_⟩⟩
  apply List.ext_getElem?
  intro j
  by_cases hj : j < n
  · rw [List.getElem?_take_of_lt (by omega), List.getElem?_map, List.getElem?_range hj]
    have := hcell j (by omega)
    rw [hf j hj] at this
    simpa using this
  · rw [List.getElem?_eq_none (by simp; omega), List.getElem?_eq_none (by simp; omega)]
end Go.Proofs.YtjldfclncipbgaaGreatDoor

/- Int.SetString of a row of decimal signs. -/
namespace Go.Proofs.YtjldfclncipbgaaGreatDoor
open Go Go.RowKit Go.PlainAid Fil

theorem pow10 {j : Nat} (h : j ≤ 9) : 10 ^ j ≤ 1000000000 ∧ (10 ^ j < 1000000000 ↔ j < 9) := by
  rcases (show j = 0 ∨ j = 1 ∨ j = 2 ∨ j = 3 ∨ j = 4 ∨ j = 5 ∨ j = 6 ∨ j = 7 ∨ j = 8 ∨ j = 9 by omega) with rfl | rfl | rfl | rfl | rfl | rfl | rfl | rfl | rfl | rfl <;> omega
theorem pdiv (N D T : Nat) : ((N : Int) + (D : Int) * (T : Int)) / 4294967296 = (((N + D * T) / 2 ^ 32 : Nat) : Int) := by
  rw [← Int.natCast_mul]; generalize D * T = P; omega
theorem pmod (N D T : Nat) : ((N : Int) + (D : Int) * (T : Int)) % 4294967296 = (((N + D * T) % 2 ^ 32 : Nat) : Int) := by
  rw [← Int.natCast_mul]; generalize D * T = P; omega
theorem OwnD.below {w w' : World} {B n X : Nat} {v : Value} (h : OwnD w B v n X) (hb : Below w.heap.size w w') : OwnD w' B v n X := by
  refine ⟨h.1, ?_⟩
  rcases h.2 with h2 | ⟨g, cap, cur, hv, hg, hh, hr⟩
  · exact .inl h2
  · exact .inr ⟨g, cap, cur, hv, hg, (hb.block g (lt_of_heap hh)).trans hh, hr⟩

/-- a row of cells that the call has made -/
def OwnR (w : World) (B : Nat) (v : Value) (n : Nat) (F : Nat → Value) : Prop := w.ownsRow B 89 1 v n ((List.range n).map F)
theorem OwnD.r {w : World} {B : Nat} {v : Value} {n X : Nat} (h : OwnD w B v n X) : OwnR w B v n (d32 X) := h
theorem OwnR.d {w : World} {B : Nat} {v : Value} {n X : Nat} {F : Nat → Value} (h : OwnR w B v n F) (hF : ∀ j, j < n → F j = d32 X j) : OwnD w B v n X := by
  unfold OwnD
  rw [← List.map_congr_left (f := F) (g := d32 X) (fun j hj => hF j (List.mem_range.1 hj))]
  exact h
theorem OwnR.congr {w : World} {B : Nat} {v : Value} {n : Nat} {F G : Nat → Value} (h : OwnR w B v n F) (hF : ∀ j, j < n → F j = G j) : OwnR w B v n G := by
  unfold OwnR
  rw [← List.map_congr_left (f := F) (g := G) (fun j hj => hF j (List.mem_range.1 hj))]
  exact h
theorem OwnR.row {w : World} {B : Nat} {v : Value} {n : Nat} {F : Nat → Value} (h : OwnR w B v n F) (h0 : n ≠ 0) : ∃ (g cap : Nat) (f : Nat → Value), v = .slice (some ⟨g, 0, none⟩) n cap ∧ B ≤ g ∧ n ≤ cap ∧ cap ≤ maxLen ∧ w.rowIs g 89 cap f ∧ ∀ (j : Nat), j < n → f j = F j := by
  rcases h.2 with ⟨_, h1⟩ | ⟨g, cap, cur, hv, hg, hh, hc, hx, hs, ht⟩
  · exact absurd h1 h0
  · refine ⟨g, cap, fun j => cur.getD j undef, hv, hg, hc, hx, ⟨cur, hh, by simpa using hs, fun i hi => ?_⟩, fun j hj => ?_⟩
    · have : i < cur.size := by rw [show cur.size = cap by simpa using hs]; exact hi
      simp [this]
    · have h1 : (cur.toList.take (n * 1))[j]? = ((List.range n).map F)[j]? := by rw [ht]
      rw [List.getElem?_take_of_lt (by omega), List.getElem?_map, List.getElem?_range hj] at h1
      have h2 : cur[j]? = some (F j) := by simpa using h1
      show cur.getD j undef = _
      rw [Array.getD_eq_getD_getElem?, h2]; rfl
theorem OwnR.of_row {w : World} {B g n cap : Nat} {f F : Nat → Value} (hg : B ≤ g) (hn : n ≤ cap) (hc : cap ≤ maxLen) (h : w.rowIs g 89 cap f) (hf : ∀ j, j < n → f j = F j) : OwnR w B (.slice (some ⟨g, 0, none⟩) n cap) n F := by
  obtain ⟨cur, hh, hs, hcell⟩ := h
  refine ⟨by simp, .inr ⟨g, cap, cur, rfl, hg, hh, hn, hc, by simpa using hs, ?_⟩⟩
  apply List.ext_getElem?
  intro j
  by_cases hj : j < n
  · rw [List.getElem?_take_of_lt (by omega), List.getElem?_map, List.getElem?_range hj]
    have := hcell j (by omega)
    rw [hf j hj] at this
    simpa using this
  · rw [List.getElem?_eq_none (by simp; omega), List.getElem?_eq_none (by simp; omega)]
theorem OwnD.slc {w : World} {B : Nat} {A : Option Addr} {n c X : Nat} (h : OwnD w B (.slice A n c) n X) : Slc w 89 A n (d32 X) := by
  intro hn
  obtain ⟨g, cap, f, hv, _, hc, _, hr, hf⟩ := h.row (by omega)
  injection hv with hv1 _ _
  subst hv1
  obtain ⟨cur, hh, hs, hcell⟩ := hr
  refine ⟨g, 0, cur, _, rfl, hh, fun j hj => ?_⟩
  rw [Nat.zero_add, hcell j (by omega), hf j hj]

end Go.Proofs.YtjldfclncipbgaaGreatDoor
