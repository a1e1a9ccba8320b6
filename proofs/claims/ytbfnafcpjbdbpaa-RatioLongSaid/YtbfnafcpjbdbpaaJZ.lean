/- filigreelaw04.RatioField. -/
import Derived.Test.YtbfnafcpjbdbpaaJW
namespace Go.Proofs.Ytbfnafcpjbdbpaa
open Go Go.RowKit Go.PlainAid Fil

/-- few bytes -/
def Bts (K : Nat) (x : Rat) : Prop := Fil.dn 8 x.num.natAbs ≤ K ∧ Fil.dn 8 x.den ≤ K
theorem Bts.fits {K : Nat} {x : Rat} (h : Bts K x) (hK : K ≤ 16384) : Fits x := ⟨Nat.le_trans h.1 hK, Nat.le_trans h.2 hK⟩
theorem dn8_mul {x y j k : Nat} (hx : Fil.dn 8 x ≤ j) (hy : Fil.dn 8 y ≤ k) : Fil.dn 8 (x * y) ≤ j + k := dn_le (by omega) (by rw [padd]; exact Nat.mul_lt_mul'' (lt_of_dn (by omega) hx) (lt_of_dn (by omega) hy))
theorem dn8_add {x y k : Nat} (hx : Fil.dn 8 x ≤ k) (hy : Fil.dn 8 y ≤ k) : Fil.dn 8 (x + y) ≤ k + 1 := dn_le (by omega) (add_lt_succ (by omega) (lt_of_dn (by omega) hx) (lt_of_dn (by omega) hy))
theorem dn8_mulI {x y : Int} {j k : Nat} (hx : Fil.dn 8 x.natAbs ≤ j) (hy : Fil.dn 8 y.natAbs ≤ k) : Fil.dn 8 (x * y).natAbs ≤ j + k := by rw [Int.natAbs_mul]; exact dn8_mul hx hy
theorem dn8_addI {x y : Int} {k : Nat} (hx : Fil.dn 8 x.natAbs ≤ k) (hy : Fil.dn 8 y.natAbs ≤ k) : Fil.dn 8 (x + y).natAbs ≤ k + 1 :=
  Nat.le_trans (dn_mono (by omega) (Int.natAbs_add_le x y)) (dn8_add hx hy)
theorem bts_div {K : Nat} {p q : Int} (hq : q ≠ 0) (hp : Fil.dn 8 p.natAbs ≤ K) (hd : Fil.dn 8 q.natAbs ≤ K) : Bts K (Rat.divInt p q) := by
  refine ⟨?_, ?_⟩
  · rw [← norm_num p q hq, sz_abs]
    exact Nat.le_trans (dn_mono (by omega) (Nat.div_le_self _ _)) hp
  · rw [← norm_den p q hq]
    exact Nat.le_trans (dn_mono (by omega) (Nat.div_le_self _ _)) hd
theorem Bts.denI {K : Nat} {x : Rat} (h : Bts K x) : Fil.dn 8 ((x.den : Int)).natAbs ≤ K := by rw [Int.natAbs_natCast]; exact h.2
theorem Bts.mono {K L : Nat} {x : Rat} (h : Bts K x) (hL : K ≤ L) : Bts L x := ⟨Nat.le_trans h.1 hL, Nat.le_trans h.2 hL⟩
theorem Bts.add {J K : Nat} {x y : Rat} (hx : Bts J x) (hy : Bts K y) : Bts (J + K + 1) (x + y) := by
  rw [← divInt_add]
  exact bts_div (den_mul_ne x y) (dn8_addI (dn8_mulI hx.1 hy.denI) (by rw [Nat.add_comm J K]; exact dn8_mulI hy.1 hx.denI)) (Nat.le_trans (dn8_mulI hx.denI hy.denI) (by omega))
theorem Bts.neg {K : Nat} {x : Rat} (h : Bts K x) : Bts K (-x) := ⟨by rw [Rat.neg_num, Int.natAbs_neg]; exact h.1, h.2⟩
end Go.Proofs.Ytbfnafcpjbdbpaa
