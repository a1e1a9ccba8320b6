/- ratio.do; ratio.Add, Sub, Mul, Quo. -/
import Derived.Test.YtbhfnigblhfikaaGreatJD
namespace Go.Proofs.YtbhfnigblhfikaaGreat
open Go Go.RowKit Go.PlainAid Fil

theorem Szd.div {K : Nat} {p q : Int} (hq : q ≠ 0) (hp : Fil.dn 32 p.natAbs ≤ K) (hd : Fil.dn 32 q.natAbs ≤ K) : Szd K (Rat.divInt p q) := by
  refine ⟨?_, ?_⟩
  · rw [← norm_num p q hq, sz_abs]
    exact Nat.le_trans (dn_mono (by omega) (Nat.div_le_self _ _)) hp
  · rw [← norm_den p q hq]
    exact Nat.le_trans (dn_mono (by omega) (Nat.div_le_self _ _)) hd
theorem Szd.add {K L : Nat} {x y : Rat} (hx : Szd K x) (hy : Szd L y) : Szd (K + L + 1) (x + y) := by
  rw [← divInt_add]
  exact Szd.div (den_mul_ne x y) (dn_addI (dn_mulI hx.1 hy.den) (by have := dn_mulI hy.1 hx.den; omega)) (Nat.le_trans (dn_mulI hx.den hy.den) (by omega))
theorem Szd.sub {K L : Nat} {x y : Rat} (hx : Szd K x) (hy : Szd L y) : Szd (K + L + 1) (x - y) := by
  rw [Rat.sub_eq_add_neg]; exact hx.add hy.neg
theorem Szd.mul {K L : Nat} {x y : Rat} (hx : Szd K x) (hy : Szd L y) : Szd (K + L) (x * y) := by
  rw [← divInt_mul]
  exact Szd.div (den_mul_ne x y) (dn_mulI hx.1 hy.1) (dn_mulI hx.den hy.den)
theorem Szd.quo {K L : Nat} {x y : Rat} (hx : Szd K x) (hy : Szd L y) (h0 : y ≠ 0) : Szd (K + L) (x / y) := by
  rw [← divInt_quo]
  exact Szd.div (Int.mul_ne_zero (den_ne x) (num_ne h0)) (dn_mulI hx.1 hy.den) (dn_mulI hx.den hy.1)
theorem kTold_parts (z : Rat) : ∃ (n : Bool) (S T : ByteArray) (e : Int), kToldV z = .tuple #[.agg #[.bool n, .string S, .string T], .int .i64 e] := by
  unfold kToldV kA
  split
  · exact ⟨_, _, _, _, rfl⟩
  · exact ⟨_, _, _, _, rfl⟩

end Go.Proofs.YtbhfnigblhfikaaGreat
