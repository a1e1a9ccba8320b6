/- ratio.do; ratio.Add, Sub, Mul, Quo. -/
import Derived.Test.YtjldfclncipbgaaGreatDoorJD
namespace Go.Proofs.YtjldfclncipbgaaGreatDoor
open Go Go.RowKit Go.PlainAid Fil

theorem Szd.div {K : Nat} {p q : Int} (hq : q ≠ 0) (hp : Fil.dn 32 p.natAbs ≤ K) (hd : Fil.dn 32 q.natAbs ≤ K) : Szd K (Rat.divInt p q) := by
  refine ⟨?_, ?_⟩
  · rw [← norm_num p q hq, sz_abs]
    exact Nat.le_trans (dn_mono (by omega) (Nat.div_le_self _ _)) hp
  · rw [← norm_den p q hq]
    exact Nat.le_trans (dn_mono (by omega) (Nat.div_le_self _ _)) hd
theorem Szd.add {K L : Nat} {x y : Rat} (hx : Szd K x) (hy : Szd L y) : Szd (K + L + 1) (x + y) := by
  rw [← divInt_add]
  exact Szd.div (den_mul_ne x y) (dn_addI (dn_mulI hx.1 hy.den) (by have := dn_mulI hy.1 hx.den; omega)) (Nat.le_trans (dn_mulI hx.den hy.den) (by omega))
end Go.Proofs.YtjldfclncipbgaaGreatDoor
