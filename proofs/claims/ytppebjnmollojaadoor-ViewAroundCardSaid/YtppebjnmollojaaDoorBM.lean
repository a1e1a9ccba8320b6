/- The walks over math.IsInf with a sign, dyad.Against, the reference's Against. -/
import Derived.Test.YtppebjnmollojaaDoorBL
import Derived.Test.YtppebjnmollojaaDoorBI
namespace Go.Proofs.YtppebjnmollojaaDoor
open Go Go.RowKit Go.PlainAid Fil

/-- a float with the other sign -/
def ngB (b : Nat) : Nat := if b < 9223372036854775808 then 9223372036854775808 + b else b - 9223372036854775808
theorem xor_top {b s : Nat} (h : b < 2 ^ s) : b ^^^ 2 ^ s = 2 ^ s + b := by
  apply Nat.eq_of_testBit_eq
  intro i
  rw [Nat.testBit_xor, Nat.testBit_two_pow]
  rcases Nat.lt_trichotomy i s with hi | hi | hi
  · rw [Nat.testBit_two_pow_add_gt hi, decide_eq_false (by omega), Bool.xor_false]
  · subst hi
    rw [Nat.testBit_two_pow_add_eq, Nat.testBit_lt_two_pow h, decide_eq_true rfl]; rfl
  · have h1 : 2 ^ s * 2 ≤ 2 ^ i := by rw [← Nat.pow_succ]; exact pmono hi
    rw [Nat.testBit_lt_two_pow (show b < 2 ^ i by omega), Nat.testBit_lt_two_pow (show 2 ^ s + b < 2 ^ i by omega), decide_eq_false (by omega)]; rfl
theorem neg_ngB {b : Nat} (h : b < 18446744073709551616) : Op.negFloat .f64 b = ngB b := by
  unfold Op.negFloat ngB
  rw [show FloatKind.f64.format.exponentBits + FloatKind.f64.format.fractionBits = 63 from rfl]
  by_cases h1 : b < 9223372036854775808
  · rw [if_pos h1, xor_top (s := 63) (by omega)]
  · rw [if_neg h1]
    obtain ⟨c, hc⟩ : ∃ c, c = b - 9223372036854775808 := ⟨_, rfl⟩
    have hx := xor_top (s := 63) (b := c) (by omega)
    have hb : b ^^^ 2 ^ 63 = c := by
      rw [show b = c ^^^ 2 ^ 63 by rw [hx]; omega, Nat.xor_assoc, Nat.xor_self, Nat.xor_zero]
    rw [hb, hc]
theorem fr_ngB {b : Nat} (h : b < 18446744073709551616) : fr (ngB b) = fr b := by unfold ngB fr; split <;> omega
theorem fs_ngB {b : Nat} (h : b < 18446744073709551616) : fs (ngB b) = !fs b := by
  have hb : ngB b < 18446744073709551616 := by unfold ngB; split <;> omega
  rw [fs_ge h, fs_ge hb]
  unfold ngB
  split
  · rw [decide_eq_true (by omega), decide_eq_false (by omega)]; rfl
  · rw [decide_eq_false (by omega), decide_eq_true (by omega)]; rfl
theorem fk_ngB {b : Nat} (h : b < 18446744073709551616) : fk (ngB b) = -fk b := by
  unfold fk
  rw [fr_ngB h, fs_ngB h]
  cases fs b <;> simp
theorem ord_gt {a b : Nat} (ha : fr a ≤ 9218868437227405312) (hb : fr b ≤ 9218868437227405312) : (FloatKind.f64.format.order a b == some .gt) = decide (fk b < fk a) := by
  rw [show FloatKind.f64.format = Ieee.double from rfl, order_some ha hb]
  rcases Int.lt_trichotomy (fk a) (fk b) with h1 | h1 | h1
  · rw [cmp_lt h1, decide_eq_false (by omega)]; rfl
  · rw [h1, cmp_eq, decide_eq_false (by omega)]; rfl
  · rw [cmp_gt h1, decide_eq_true h1]; rfl
theorem fk_max : fk 9218868437227405311 = 9218868437227405311 := rfl
theorem fr_max : fr 9218868437227405311 ≤ 9218868437227405312 := by unfold fr; omega

set_option maxRecDepth 20000 in
set_option maxHeartbeats 1000000 in
theorem isinf_up (b : Nat) (w : World) (h : fr b ≤ 9218868437227405312) : Calls Tryd.prog 50 #[.float .f64 b, .int .i64 1] w fun r w' => r = .returned (.bool (decide (9218868437227405311 < fk b))) ∧ w = w' := by
  have ho := ord_gt h fr_max
  rw [fk_max] at ho
  generalize decide (9218868437227405311 < fk b) = D at *
  clear h
  go_enter Tryd.func50, Tryd.ntmps50
  go_wp2
  go_ret
  exact ⟨rfl, rfl⟩
set_option maxRecDepth 20000 in
set_option maxHeartbeats 1000000 in
theorem isinf_down (b : Nat) (w : World) (hb : b < 18446744073709551616) (h : fr b ≤ 9218868437227405312) : Calls Tryd.prog 50 #[.float .f64 b, .int .i64 (-1)] w fun r w' => r = .returned (.bool (decide (fk b < -9218868437227405311))) ∧ w = w' := by
  have hneg : ∀ W : World, (Op.unary UnOp.neg (.float .f64 b)).run Tryd.prog W = .ok (.float .f64 (ngB b)) W := fun W => by rw [← neg_ngB hb]; rfl
  have ho := ord_gt (a := ngB b) (by rw [fr_ngB hb]; exact h) fr_max
  rw [fk_max, fk_ngB hb, show decide (9218868437227405311 < -fk b) = decide (fk b < -9218868437227405311) by rw [Bool.eq_iff_iff, decide_eq_true_eq, decide_eq_true_eq]; omega] at ho
  generalize decide (fk b < -9218868437227405311) = D at *
  generalize ngB b = c at *
  clear h hb
  go_enter Tryd.func50, Tryd.ntmps50
  go_wp2
  go_ret
  exact ⟨rfl, rfl⟩

/-- a Dyad against a float -/
def agV (z e : Int) (b : Nat) : Int := if flQ b = 2047 then (if 9218868437227405312 < fr b then 0 else if fs b = true then 1 else -1) else cmpD z e (sz (fs b) (flM b)) (flE b)
def agE (b : Nat) : Int := if 9218868437227405312 < fr b then 5 else 0
theorem fl_ok {b : Nat} (_h : flQ b ≠ 2047) : mkOk (sz (fs b) (flM b)) (flE b) = true := by
  have h1 := flM_lt b
  have h2 := flE_bd b
  have h3 : tz (flM b) ≤ 52 := by
    by_cases h0 : flM b = 0
    · rw [h0, tz_zero]; omega
    · have h4 := tz_le_log h0
      have h5 : (flM b).log2 < 53 := (Nat.log2_lt h0).2 (by omega)
      omega
  refine mkOk_yes ?_ ?_ ?_
  · rw [sz_abs]
    refine Nat.le_trans (dn_le (n := 8) (by omega) ?_) (by omega)
    exact Nat.lt_of_le_of_lt (Nat.div_le_self _ _) (by omega)
  · rw [sz_abs]; omega
  · rw [sz_abs]; omega
theorem cmpD_mk {z e z' e' : Int} (hk : mkOk z' e' = true) (he : -(lowM : Int) ≤ e') : cmpD z e (mkD z' e').z (mkD z' e').e = cmpD z e z' e' := by
  unfold cmpD
  rw [show W (mkD z' e').z (mkD z' e').e = (mkD z' e').v from rfl, mkD_v hk he]

end Go.Proofs.YtppebjnmollojaaDoor
