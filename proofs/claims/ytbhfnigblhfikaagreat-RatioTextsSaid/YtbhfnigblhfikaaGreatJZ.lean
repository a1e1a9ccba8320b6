/- filigreelaw04.RatioField. -/
import Derived.Test.YtbhfnigblhfikaaGreatJY
namespace Go.Proofs.YtbhfnigblhfikaaGreat
open Go Go.RowKit Go.PlainAid Fil

/-- few bytes -/
def Bts (K : Nat) (x : Rat) : Prop := Fil.dn 8 x.num.natAbs ≤ K ∧ Fil.dn 8 x.den ≤ K
theorem Bts.fits {K : Nat} {x : Rat} (h : Bts K x) (hK : K ≤ 16384) : Fits x := ⟨Nat.le_trans h.1 hK, Nat.le_trans h.2 hK⟩
theorem dn8_mul {x y j k : Nat} (hx : Fil.dn 8 x ≤ j) (hy : Fil.dn 8 y ≤ k) : Fil.dn 8 (x * y) ≤ j + k := dn_le (by omega) (by rw [padd]; exact Nat.mul_lt_mul'' (lt_of_dn (by omega) hx) (lt_of_dn (by omega) hy))
theorem dn8_add {x y k : Nat} (hx : Fil.dn 8 x ≤ k) (hy : Fil.dn 8 y ≤ k) : Fil.dn 8 (x + y) ≤ k + 1 := dn_le (by omega) (add_lt_succ (by omega) (lt_of_dn (by omega) hx) (lt_of_dn (by omega) hy))
theorem dn8_mulI {x y : Int} {j k : Nat} (hx : Fil.dn 8 x.natAbs ≤ j) (hy : Fil.dn 8 y.natAbs ≤ k) : Fil.dn 8 (x * y).natAbs ≤ j + k := by rw [Int.natAbs_mul]; exact dn8_mul hx hy
theorem dn8_addI {x y : Int} {k : Nat} (hx : Fil.dn 8 x.natAbs ≤ k) (hy : Fil.dn 8 y.natAbs ≤ k) : Fil.dn 8 (x + y).natAbs ≤ k + 1 :=
  Nat.le_trans (dn_mono (by omega) (Int.natAbs_add_le x y)) (dn8_add hx hy)
theorem bts_div {K : Nat} {p q : Int} (hq : q ≠ 0) (hp : Fil.dn 8 p.natAbs ≤ K) (hd : Fil.dn 8 q.natAbs ≤ K) : Bts K (Rat.divInt p q) := by
  refine ⟨?_, ?_⟩
  · rw [← norm_num p q hq, sz_abs]
    exact Nat.le_trans (dn_mono (by omega) (Nat.div_le_self _ _)) hp
  · rw [← norm_den p q hq]
    exact Nat.le_trans (dn_mono (by omega) (Nat.div_le_self _ _)) hd
theorem Bts.denI {K : Nat} {x : Rat} (h : Bts K x) : Fil.dn 8 ((x.den : Int)).natAbs ≤ K := by rw [Int.natAbs_natCast]; exact h.2
theorem Bts.mono {K L : Nat} {x : Rat} (h : Bts K x) (hL : K ≤ L) : Bts L x := ⟨Nat.le_trans h.1 hL, Nat.le_trans h.2 hL⟩
theorem Bts.mul {J K : Nat} {x y : Rat} (hx : Bts J x) (hy : Bts K y) : Bts (J + K) (x * y) := by
  rw [← divInt_mul]
  exact bts_div (den_mul_ne x y) (dn8_mulI hx.1 hy.1) (dn8_mulI hx.denI hy.denI)
theorem Bts.add {J K : Nat} {x y : Rat} (hx : Bts J x) (hy : Bts K y) : Bts (J + K + 1) (x + y) := by
  rw [← divInt_add]
  exact bts_div (den_mul_ne x y) (dn8_addI (dn8_mulI hx.1 hy.denI) (by rw [Nat.add_comm J K]; exact dn8_mulI hy.1 hx.denI)) (Nat.le_trans (dn8_mulI hx.denI hy.denI) (by omega))
theorem Bts.neg {K : Nat} {x : Rat} (h : Bts K x) : Bts K (-x) := ⟨by rw [Rat.neg_num, Int.natAbs_neg]; exact h.1, h.2⟩
theorem Bts.sub {J K : Nat} {x y : Rat} (hx : Bts J x) (hy : Bts K y) : Bts (J + K + 1) (x - y) := by rw [Rat.sub_eq_add_neg]; exact hx.add hy.neg
theorem sub_cases (x y : Rat) : cmpR x y = -1 ∧ sg (x - y).num = true ∧ (bstr (x - y).num.natAbs).toList.isEmpty = false ∨ cmpR x y = 0 ∧ sg (x - y).num = false ∧ (bstr (x - y).num.natAbs).toList = [] ∨ cmpR x y = 1 ∧ sg (x - y).num = false ∧ (bstr (x - y).num.natAbs).toList.isEmpty = false := by
  have hne : ∀ z : Rat, z.num ≠ 0 → (bstr z.num.natAbs).toList.isEmpty = false := fun z hz => str_cons (by rw [bstr_size]; exact dn_pos (by omega))
  unfold cmpR
  by_cases h1 : x < y
  · left
    have h2 : (x - y).num < 0 := by
      rcases Int.lt_or_le (x - y).num 0 with h | h
      · exact h
      · exact absurd ((Rat.le_iff_sub_nonneg y x).2 (Rat.num_nonneg.1 h)) (Rat.not_le.2 h1)
    rw [if_pos h1]
    exact ⟨rfl, by unfold sg; exact decide_eq_true h2, hne _ (by omega)⟩
  · rw [if_neg h1]
    by_cases h2 : y < x
    · right; right
      have h3 : 0 < (x - y).num := by
        have h4 := (Rat.lt_iff_sub_pos y x).1 h2
        have h5 : 0 ≤ (x - y).num := Rat.num_nonneg.2 (Rat.le_of_lt h4)
        have h6 : (x - y).num ≠ 0 := fun h => by rw [Rat.num_eq_zero.1 h] at h4; exact Rat.lt_irrefl h4
        omega
      rw [if_pos h2]
      exact ⟨rfl, by unfold sg; exact decide_eq_false (by omega), hne _ (by omega)⟩
    · right; left
      have h3 : x = y := Rat.le_antisymm (Rat.not_lt.1 h2) (Rat.not_lt.1 h1)
      subst h3
      rw [if_neg h2, Rat.sub_self]
      exact ⟨rfl, rfl, bstr_eq_nil.2 rfl⟩
end Go.Proofs.YtbhfnigblhfikaaGreat
