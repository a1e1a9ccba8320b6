/- The walks of math's functions, of filigreelaw03.awake. -/
import Derived.Test.YtfbkopepkklkjaaGreatDoorB5
import Derived.Laws.FloatArith
import Derived.Laws.BitsAllLaws
import Derived.Test.YtfbkopepkklkjaaGreatDoorB6

/- The walks over math.IsNaN, Abs, IsInf, normalize, Ldexp at a positive float that is neither subnormal nor infinite. -/
namespace Go.Proofs.YtfbkopepkklkjaaGreatDoor
open Go Go.RowKit Go.PlainAid Fil

theorem run_f64bits (b : Nat) (w : World) : (callFunc 47 #[.float .f64 b]).run Tryz.prog w = .ok (.value (.int .u64 b)) w := by
 rw [run_callFunc_extern (e := Extern.MathFloatBits.float64bits) Tryz.func47 (by kernel_rfl) (by kernel_rfl) (by kernel_rfl) (by kernel_rfl)]
 rfl
theorem run_f64from (n : Int) (w : World) : (callFunc 51 #[.int .u64 n]).run Tryz.prog w = .ok (.value (.float .f64 n.toNat)) w := by
 rw [run_callFunc_extern (e := Extern.MathFloatBits.float64frombits) Tryz.func51 (by kernel_rfl) (by kernel_rfl) (by kernel_rfl) (by kernel_rfl)]
 rfl

set_option maxHeartbeats 1000000 in
theorem isnan_any (b : Nat) (w : World) : Calls Tryz.prog 118 #[.float .f64 b] w fun r w' => r = .returned (.bool (FloatKind.f64.format.order b b != some .eq)) ∧ w = w' := by
 go_enter Tryz.func118, Tryz.ntmps118
 go_wp2
 go_ret
 exact ⟨rfl, rfl⟩
/-- a float's bits without the sign -/
def magB (b : Nat) : Nat := b % 9223372036854775808
theorem magB_bits (b : Nat) (h : b < 18446744073709551616) : bits BinOp.andNot IntKind.u64 (b : Int) 9223372036854775808 = ((magB b : Nat) : Int) := by
 have h1 := u64_andNot_nat b 9223372036854775808 h (by omega)
 rw [show ((9223372036854775808 : Nat) : Int) = 9223372036854775808 from rfl] at h1
 rw [h1, show 18446744073709551615 - 9223372036854775808 = 2 ^ 63 - 1 by rfl, Nat.and_two_pow_sub_one_eq_mod]
 rfl
set_option maxRecDepth 20000 in
set_option maxHeartbeats 1000000 in
theorem mabs_any (b : Nat) (w : World) (h : b < 18446744073709551616) : Calls Tryz.prog 139 #[.float .f64 b] w fun r w' => r = .returned (.float .f64 (magB b)) ∧ w = w' := by
 have h1 := run_f64bits
 have h2 := run_f64from
 have h3 := magB_bits b h
 clear h
 go_enter Tryz.func139, Tryz.ntmps139
 go_wp2
 go_ret
 exact ⟨rfl, rfl⟩

set_option maxRecDepth 20000 in
set_option maxHeartbeats 1000000 in
/-- IsInf(x, 0) -/
theorem isinf_any (b : Nat) (w : World) (h : b < 18446744073709551616) : Calls Tryz.prog 119 #[.float .f64 b, .int .i64 0] w fun r w' => r = .returned (.bool (FloatKind.f64.format.order (magB b) 9218868437227405311 == some .gt)) ∧ w = w' := by
 have hm := fun W => mabs_any b W h
 clear h
 go_enter Tryz.func119, Tryz.ntmps119
 go_wp2_with (go_at_call 139; go_must (refine (hm _).mono ?_); rintro r w1 ⟨rfl, rfl⟩)
 go_ret
 exact ⟨rfl, rfl⟩

set_option maxRecDepth 20000 in
set_option maxHeartbeats 1000000 in
/-- normalize, where there is nothing to do -/
theorem normal_any (b : Nat) (w : World) (h : b < 18446744073709551616) (hn : (FloatKind.f64.format.order (magB b) 4503599627370496 == some .lt) = false) : Calls Tryz.prog 148 #[.float .f64 b] w fun r w' => r = .returned (.tuple #[.float .f64 b, .int .i64 0]) ∧ w = w' := by
 have hm := fun W => mabs_any b W h
 clear h
 go_enter Tryz.func148, Tryz.ntmps148
 go_wp2_with (go_at_call 139; go_must (refine (hm _).mono ?_); rintro r w1 ⟨rfl, rfl⟩)
 go_returns
 exact ⟨rfl, rfl⟩

theorem exp_bits (E : Nat) (hE : E < 2048) : bits BinOp.and IntKind.i64 (E : Int) 2047 = (E : Int) := by
 have hx : E &&& 2047 = E := by rw [show 2047 = 2 ^ 11 - 1 by rfl, Nat.and_two_pow_sub_one_eq_mod, Nat.mod_eq_of_lt hE]
 show IntKind.i64.wrap ((BitVec.ofInt 64 (E : Int) &&& BitVec.ofInt 64 2047).toNat : Int) = _
 have h2 : (BitVec.ofInt 64 (E : Int) &&& BitVec.ofInt 64 2047).toNat = E := by
  rw [BitVec.toNat_and, BitVec.ofInt_natCast, BitVec.toNat_ofNat, Nat.mod_eq_of_lt (by omega)]
  exact hx
 rw [h2]
 rw [IntKind.wrap_i64]
 omega
theorem frac_bits (E F x : Nat) (hx : x = E * 4503599627370496 + F) (hE : E < 2048) (hF : F < 4503599627370496) : bits BinOp.andNot IntKind.u64 (x : Int) 9218868437227405312 = (F : Int) := by
 have h1 := u64_andNot_nat x 9218868437227405312 (by omega) (by omega)
 rw [show ((9218868437227405312 : Nat) : Int) = 9218868437227405312 from rfl] at h1
 have h2 : x &&& 2 ^ 63 = 0 := by
  apply Nat.eq_of_testBit_eq
  intro i
  rw [Nat.testBit_and, Nat.testBit_two_pow, Nat.zero_testBit]
  by_cases h : 63 = i
  ·subst h; rw [Nat.testBit_lt_two_pow (by omega)]; rfl
  ·rw [decide_eq_false h, Bool.and_false]
 rw [h1, show 18446744073709551615 - 9218868437227405312 = 2 ^ 63 ||| (2 ^ 52 - 1) by rfl, Nat.and_or_distrib_left, h2, Nat.and_two_pow_sub_one_eq_mod, Nat.zero_or]
 congr 1
 omega
theorem pack_bits (K F : Nat) (hK : K < 2048) (hF : F < 4503599627370496) : bits BinOp.or IntKind.u64 (F : Int) ((K : Int) * 4503599627370496) = ((K * 4503599627370496 + F : Nat) : Int) := by
 have h1 := u64_or_nat F (K * 4503599627370496) (by omega) (by omega)
 rw [show ((K * 4503599627370496 : Nat) : Int) = (K : Int) * 4503599627370496 from Int.natCast_mul _ _] at h1
 rw [h1]
 have := or_add' (s := 52) (a := K) (b := F) hF
 rw [show 2 ^ 52 = 4503599627370496 by rfl] at this
 rw [this, Nat.add_comm]

set_option maxRecDepth 20000 in
set_option maxHeartbeats 2000000 in
theorem ldexp_norm (E F K : Nat) (e k : Int) (x y z : Nat) (w : World) (hx : x = E * 4503599627370496 + F) (hE : E < 2047) (hF : F < 4503599627370496)
  (o0 : (FloatKind.f64.format.order x 0 == some .eq) = false) (o1 : (FloatKind.f64.format.order (magB x) 9218868437227405311 == some .gt) = false) (o2 : (FloatKind.f64.format.order x x != some .eq) = false)
  (o3 : (FloatKind.f64.format.order (magB x) 4503599627370496 == some .lt) = false) (he1 : -5000 ≤ e) (he2 : e ≤ 5000) (hk : k = e + E - 1023) (hk1 : -1022 ≤ k) (hk2 : k ≤ 1023)
  (hK : K = k + 1023) (hy : y = K * 4503599627370496 + F) (hz : floatBits .mul .f64 4607182418800017408 y = some z) :
  Calls Tryz.prog 147 #[.float .f64 x, .int .i64 e] w fun r w' => r = .returned (.float .f64 z) ∧ w = w' := by
 have hxb : x < 18446744073709551616 := by omega
 have hi := fun W => isinf_any x W hxb
 have hn := fun W => isnan_any x W
 have hm := fun W => normal_any x W hxb o3
 rw [o1] at hi
 rw [o2] at hn
 have h1 := run_f64bits
 have h2 := run_f64from
 have hE0 : 0 ≤ (E : Int) := by omega
 have hE1 : (E : Int) < 2047 := by omega
 have hd : (x : Int) / 4503599627370496 = (E : Int) := by omega
 have ha := exp_bits E (by omega)
 have hf := frac_bits E F x hx (by omega) hF
 have hp := pack_bits K F (by omega) hF
 have hk' : e + ((E : Int) - 1023) = k := by omega
 have hK' : k + 1023 = (K : Int) := by omega
 have hK0 : 0 ≤ (K : Int) := by omega
 have hK1 : (K : Int) < 2047 := by omega
 have ht : ((K * 4503599627370496 + F : Nat) : Int).toNat = y := by rw [hy]; exact Int.toNat_natCast _
 have hmul := fun W => run_float_arith (P := Tryz.prog) W .mul 57 .f64 4607182418800017408 y z hz
 rw [← hy] at hp
 have Hx := Lib.hid (And.intro hx (And.intro hF (And.intro hE (And.intro hK hy))))
 clear hx hxb o1 o2 o3 hF hE hk hy hz hK ht
 go_enter Tryz.func147, Tryz.ntmps147
 go_wp2_with (first
  | (go_at_call 119; go_must (refine (hi _).mono ?_); rintro r w1 ⟨rfl, rfl⟩)
  | (go_at_call 118; go_must (refine (hn _).mono ?_); rintro r w1 ⟨rfl, rfl⟩)
  | (go_at_call 148; go_must (refine (hm _).mono ?_); rintro r w1 ⟨rfl, rfl⟩))
 go_ret
 exact ⟨rfl, rfl⟩
end Go.Proofs.YtfbkopepkklkjaaGreatDoor

/- The walk over dyad.Near at the number 3 (awake). -/
namespace Go.Proofs.YtfbkopepkklkjaaGreatDoor
open Go Go.RowKit Go.PlainAid Fil

end Go.Proofs.YtfbkopepkklkjaaGreatDoor

/- The walk over filigreelaw03.awake: it answers true. -/
namespace Go.Proofs.YtfbkopepkklkjaaGreatDoor
open Go Go.RowKit Go.PlainAid Fil

end Go.Proofs.YtfbkopepkklkjaaGreatDoor

/- The walks over math.Ldexp at whole numbers up to 2^53, where the answer is a float or the infinity. -/
namespace Go.Proofs.YtfbkopepkklkjaaGreatDoor
open Go Go.RowKit Go.PlainAid Fil

theorem f64_double : FloatKind.f64.format = Ieee.double := rfl
theorem order_pos {a b : Nat} (ha : a ≤ 9218868437227405312) (hb : b ≤ 9218868437227405312) : FloatKind.f64.format.order a b = some (compare (a : Int) (b : Int)) := by
 rw [f64_double, order_some (by rw [fr_lt (by omega)]; exact ha) (by rw [fr_lt (by omega)]; exact hb)]
 unfold fk
 rw [fs_lt (by omega), fs_lt (by omega), fr_lt (by omega), fr_lt (by omega)]
 rfl
theorem cmp_lt {a b : Int} (h : a < b) : compare a b = .lt := by
 rw [Int.compare_eq_lt]; exact h
theorem cmp_gt {a b : Int} (h : b < a) : compare a b = .gt := by
 rw [Int.compare_eq_gt]; exact h
theorem magB_lt {a : Nat} (h : a < 9223372036854775808) : magB a = a := Nat.mod_eq_of_lt h
theorem ord_zero {x : Nat} (h0 : x ≠ 0) (h : x < 9218868437227405312) : (FloatKind.f64.format.order x 0 == some .eq) = false := by
 rw [order_pos (by omega) (by omega), cmp_gt (by omega)]; rfl
theorem ord_big {x : Nat} (h : x < 9218868437227405312) : (FloatKind.f64.format.order (magB x) 9218868437227405311 == some .gt) = false := by
 rw [magB_lt (by omega), order_pos (by omega) (by omega)]
 rcases Nat.lt_or_ge x 9218868437227405311 with h1 | h1
 ·rw [cmp_lt (by omega)]; rfl
 ·obtain rfl : x = 9218868437227405311 := by omega
  rw [show compare ((9218868437227405311 : Nat) : Int) ((9218868437227405311 : Nat) : Int) = .eq from Int.compare_eq_eq.2 rfl]; rfl
theorem ord_self {x : Nat} (h : x ≤ 9218868437227405312) : (FloatKind.f64.format.order x x != some .eq) = false := by
 rw [order_pos h h, show compare (x : Int) (x : Int) = .eq from Int.compare_eq_eq.2 rfl]; rfl
theorem ord_norm {x : Nat} (h1 : 4503599627370496 ≤ x) (h : x < 9218868437227405312) : (FloatKind.f64.format.order (magB x) 4503599627370496 == some .lt) = false := by
 rw [magB_lt (by omega), order_pos (by omega) (by omega)]
 rcases Nat.lt_or_ge 4503599627370496 x with h2 | h2
 ·rw [cmp_gt (by omega)]; rfl
 ·obtain rfl : x = 4503599627370496 := by omega
  rw [show compare ((4503599627370496 : Nat) : Int) ((4503599627370496 : Nat) : Int) = .eq from Int.compare_eq_eq.2 rfl]; rfl

set_option maxRecDepth 20000 in
set_option maxHeartbeats 2000000 in
theorem ldexp_sub (E F K : Nat) (e k : Int) (x y z : Nat) (w : World) (hx : x = E * 4503599627370496 + F) (hE : E < 2047) (hF : F < 4503599627370496)
  (o0 : (FloatKind.f64.format.order x 0 == some .eq) = false) (o1 : (FloatKind.f64.format.order (magB x) 9218868437227405311 == some .gt) = false) (o2 : (FloatKind.f64.format.order x x != some .eq) = false)
  (o3 : (FloatKind.f64.format.order (magB x) 4503599627370496 == some .lt) = false) (he1 : -5000 ≤ e) (he2 : e ≤ 5000) (hk : k = e + E - 1023) (hk1 : -1075 ≤ k) (hk2 : k < -1022)
  (hK : K = k + 53 + 1023) (hy : y = K * 4503599627370496 + F) (hz : floatBits .mul .f64 4368491638549381120 y = some z) :
  Calls Tryz.prog 147 #[.float .f64 x, .int .i64 e] w fun r w' => r = .returned (.float .f64 z) ∧ w = w' := by
 have hxb : x < 18446744073709551616 := by omega
 have hi := fun W => isinf_any x W hxb
 have hn := fun W => isnan_any x W
 have hm := fun W => normal_any x W hxb o3
 rw [o1] at hi
 rw [o2] at hn
 have h1 := run_f64bits
 have h2 := run_f64from
 have hE0 : 0 ≤ (E : Int) := by omega
 have hE1 : (E : Int) < 2047 := by omega
 have hd : (x : Int) / 4503599627370496 = (E : Int) := by omega
 have ha := exp_bits E (by omega)
 have hf := frac_bits E F x hx (by omega) hF
 have hp := pack_bits K F (by omega) hF
 have hk' : e + ((E : Int) - 1023) = k := by omega
 have hK' : k + 53 + 1023 = (K : Int) := by omega
 have hK0 : 0 ≤ (K : Int) := by omega
 have hK1 : (K : Int) < 2047 := by omega
 have ht : ((K * 4503599627370496 + F : Nat) : Int).toNat = y := by rw [hy]; exact Int.toNat_natCast _
 have hmul := fun W => run_float_arith (P := Tryz.prog) W .mul 57 .f64 4368491638549381120 y z hz
 rw [← hy] at hp
 have Hx := Lib.hid (And.intro hx (And.intro hF (And.intro hE (And.intro hK hy))))
 clear hx hxb o1 o2 o3 hF hE hk hy hz hK ht
 go_enter Tryz.func147, Tryz.ntmps147
 go_wp2_with (first
  | (go_at_call 119; go_must (refine (hi _).mono ?_); rintro r w1 ⟨rfl, rfl⟩)
  | (go_at_call 118; go_must (refine (hn _).mono ?_); rintro r w1 ⟨rfl, rfl⟩)
  | (go_at_call 148; go_must (refine (hm _).mono ?_); rintro r w1 ⟨rfl, rfl⟩))
 go_ret
 exact ⟨rfl, rfl⟩

set_option maxRecDepth 20000 in
set_option maxHeartbeats 1000000 in
theorem minf_pos (w : World) : Calls Tryz.prog 149 #[.int .i64 1] w fun r w' => r = .returned (.float .f64 9218868437227405312) ∧ w = w' := by
 have h2 := run_f64from
 go_enter Tryz.func149, Tryz.ntmps149
 go_wp2
 go_ret
 exact ⟨rfl, rfl⟩
set_option maxRecDepth 20000 in
set_option maxHeartbeats 1000000 in
/-- 2^53 times 2^971 -/
theorem ldexp_over (w : World) : Calls Tryz.prog 147 #[.float .f64 4845873199050653696, .int .i64 971] w fun r w' => r = .returned (.float .f64 9218868437227405312) ∧ w = w' := by
 have o0 := ord_zero (x := 4845873199050653696) (by omega) (by omega)
 have hi := fun W => isinf_any 4845873199050653696 W (by omega)
 have hn := fun W => isnan_any 4845873199050653696 W
 have hm := fun W => normal_any 4845873199050653696 W (by omega) (ord_norm (by omega) (by omega))
 rw [ord_big (by omega)] at hi
 rw [ord_self (by omega)] at hn
 have h1 := run_f64bits
 have h2 := run_f64from
 have hE : bits BinOp.and IntKind.i64 1076 2047 = 1076 := exp_bits 1076 (by omega)
 have o4 : (FloatKind.f64.format.order 4845873199050653696 0 == some .lt) = false := by
  rw [order_pos (by omega) (by omega), cmp_gt (by omega)]; rfl
 go_enter Tryz.func147, Tryz.ntmps147
 go_wp2_with (first
  | (go_at_call 119; go_must (refine (hi _).mono ?_); rintro r w1 ⟨rfl, rfl⟩)
  | (go_at_call 118; go_must (refine (hn _).mono ?_); rintro r w1 ⟨rfl, rfl⟩)
  | (go_at_call 149; go_must (refine (minf_pos _).mono ?_); rintro r w1 ⟨rfl, rfl⟩)
  | (go_at_call 148; go_must (refine (hm _).mono ?_); rintro r w1 ⟨rfl, rfl⟩))
 go_ret
 exact ⟨rfl, rfl⟩

theorem fmul_ok {a b r M : Nat} (hM : M = 1074) (ha : a < 9218868437227405312) (hb : b < 9218868437227405312) (hr : r < 9218868437227405312) (h : mv a * mv b = mv r * 2 ^ M) : floatBits .mul .f64 a b = some r := by
 subst hM
 have := mul_exact (a := a) (b := b) (r := r) (by rw [fr_lt (by omega)]; exact ha) (by rw [fr_lt (by omega)]; exact hb) hr (by rw [fr_lt (by omega), fr_lt (by omega)]; exact h)
 rw [fs_lt (by omega), fs_lt (by omega)] at this
 exact this
theorem int_high {m L F : Nat} {q : Int} (hn : 52 ≤ L) (hL : L ≤ 53) (_hF : F < 4503599627370496) (hv : (4503599627370496 + F) * 2 ^ L = m * 4503599627370496) (hq0 : -1074 ≤ q) (h53 : L = 53 → m = 9007199254740992) :
  (q + 1074).toNat * 4503599627370496 + m = (q + L + 1023).toNat * 4503599627370496 + F := by
 rcases (show L = 52 ∨ L = 53 by omega) with rfl | rfl
 ·rw [show (2 : Nat) ^ 52 = 4503599627370496 by rfl] at hv
  have hv2 := Nat.eq_of_mul_eq_mul_right (by decide) hv
  clear h53 hv
  omega
 ·have := h53 rfl
  rw [show (2 : Nat) ^ 53 = 2 * 4503599627370496 by rfl, ← Nat.mul_assoc] at hv
  have hv2 := Nat.eq_of_mul_eq_mul_right (by decide) hv
  clear h53 hv
  omega
theorem mv_parts {K F : Nat} (hF : F < 4503599627370496) : mv ((K + 1) * 4503599627370496 + F) = (4503599627370496 + F) * 2 ^ K := by
 rw [mv_big (by omega), show ((K + 1) * 4503599627370496 + F) % 4503599627370496 = F by omega, show ((K + 1) * 4503599627370496 + F) / 4503599627370496 - 1 = K by omega]

theorem mul_one_rung {z : Nat} (hz : z < 9218868437227405312) : floatBits .mul .f64 4607182418800017408 z = some z := by
 have key : ∀ K : Nat, K = 1022 → mv ((K + 1) * 4503599627370496 + 0) * mv z = mv z * 2 ^ (52 + K) := fun K _ => by
  rw [mv_parts (by omega), Nat.mul_comm, Nat.pow_add, show (2 : Nat) ^ 52 = 4503599627370496 by rfl]
 exact fmul_ok (M := 52 + 1022) rfl (by omega) hz hz (key 1022 rfl)
theorem mul_small {m L F y : Nat} (hF : F < 4503599627370496) (hm : m < 4503599627370496) (hL : L < 52) (hv : (4503599627370496 + F) * 2 ^ L = m * 4503599627370496) (hy : y = (L + 2) * 4503599627370496 + F) : floatBits .mul .f64 4368491638549381120 y = some m := by
 have key : ∀ K : Nat, K = 969 → mv ((K + 1) * 4503599627370496 + 0) * mv y = mv m * 2 ^ (52 + (53 + K)) := fun K _ => by
  rw [mv_parts (by omega), hy, show L + 2 = L + 1 + 1 by omega, mv_parts hF, mv_small hm, Nat.pow_add 2 52, Nat.pow_add 2 53, show (2 : Nat) ^ 52 = 4503599627370496 by rfl, Nat.pow_succ]
  generalize 2 ^ L = l at *
  generalize 2 ^ K = p
  rw [show (4503599627370496 + 0) * p * ((4503599627370496 + F) * (l * 2)) = (4503599627370496 + F) * l * (9007199254740992 * p) by
   generalize 4503599627370496 + F = f
   rw [show (9007199254740992 : Nat) = 4503599627370496 * 2 by rfl, Nat.add_zero]
   simp only [Nat.mul_assoc, Nat.mul_comm, Nat.mul_left_comm], hv, Nat.mul_assoc]
 have k2 := key 969 rfl
 clear key hv
 exact fmul_ok (M := 52 + (53 + 969)) (by omega) (by omega) (by omega) (by omega) k2

set_option maxRecDepth 20000 in
set_option maxHeartbeats 2000000 in
theorem ldexp_fin (m : Nat) (q : Int) (w : World) (hm : m ≤ 9007199254740992) (hq0 : -1074 ≤ q) (hq1 : q ≤ 971) (hq : -1074 < q → 4503599627370496 ≤ m) :
  Calls Tryz.prog 147 #[.float .f64 (floatOfInt .f64 (m : Int)), .int .i64 q] w fun r w' => r = .returned (.float .f64 ((q + 1074).toNat * 4503599627370496 + m)) ∧ w = w' := by
 by_cases h0 : m = 0
 ·subst h0
  obtain rfl : q = -1074 := by omega
  have hf : floatOfInt .f64 ((0 : Nat) : Int) = 0 := by kernel_rfl
  rw [hf]
  have o0 : (FloatKind.f64.format.order 0 0 == some .eq) = true := by kernel_rfl
  clear hf hm hq0 hq1 hq
  go_enter Tryz.func147, Tryz.ntmps147
  go_wp2
  go_ret
  exact ⟨rfl, rfl⟩
 ·obtain ⟨L, F, hL, hl, hF, hv, h53⟩ := int_parts h0 hm
  have hf : floatOfInt .f64 (m : Int) = (L + 1023) * 4503599627370496 + F := by
   rw [← float_int hL hF hv]
   show Ieee.double.nearest (decide ((m : Int) < 0)) (m : Int).natAbs 0 = _
   rw [decide_eq_false (by omega), Int.natAbs_natCast]
  obtain ⟨x, hx⟩ : ∃ x, x = (L + 1023) * 4503599627370496 + F := ⟨_, rfl⟩
  rw [hf, ← hx]
  have o0 := ord_zero (x := x) (by omega) (by omega)
  have o1 := ord_big (x := x) (by omega)
  have o2 := ord_self (x := x) (by omega)
  have o3 := ord_norm (x := x) (by omega) (by omega)
  have h52 : 52 ≤ L ↔ 4503599627370496 ≤ m := by
   constructor
   ·intro h
    have := log_ge h0
    rw [← hl] at this
    exact Nat.le_trans (show (2 : Nat) ^ 52 ≤ 2 ^ L from Nat.pow_le_pow_right (by omega) h) this
   ·intro h
    rw [hl]; exact (Nat.le_log2 h0).2 h
  by_cases hov : q = 971 ∧ L = 53
  ·obtain ⟨rfl, rfl⟩ := hov
   obtain rfl := h53 rfl
   have : F = 0 := by omega
   subst this
   subst hx
   exact (ldexp_over w).mono fun r w' h => h
  ·obtain ⟨z, hz⟩ : ∃ z, z = (q + 1074).toNat * 4503599627370496 + m := ⟨_, rfl⟩
   rw [← hz]
   by_cases hn : 52 ≤ L
   ·have hg := h52.1 hn
    have hF' := int_high (q := q) hn hL hF hv hq0 h53
    have hb := mul_one_rung (z := z) (by
     by_cases h3 : L = 53
     ·have := h53 h3; omega
     ·omega)
    clear hv h53 h52
    exact ldexp_norm (L + 1023) F (q + L + 1023).toNat q (q + L) x z z w hx (by omega) hF o0 o1 o2 o3 (by omega) (by omega) (by omega) (by omega) (by omega) (by omega) (hz.trans hF') hb
   ·have hq2 : q = -1074 := by
     have := h52.2
     omega
    subst hq2
    have hz' : z = m := by omega
    obtain ⟨y, hy⟩ : ∃ y, y = (L + 2) * 4503599627370496 + F := ⟨_, rfl⟩
    have hb : floatBits .mul .f64 4368491638549381120 y = some z := by rw [hz']; exact mul_small hF (by omega) (by omega) hv hy
    clear hv h53 h52 hf
    exact ldexp_sub (L + 1023) F (L + 2) (-1074) (L - 1074) x y z w (by omega) (by omega) hF o0 o1 o2 o3 (by omega) (by omega) (by omega) (by omega) (by omega) (by omega) hy hb

set_option maxHeartbeats 1000000 in
theorem mldexp_fin (m : Nat) (q : Int) (w : World) (hm : m ≤ 9007199254740992) (hq0 : -1074 ≤ q) (hq1 : q ≤ 971) (hq : -1074 < q → 4503599627370496 ≤ m) :
  Calls Tryz.prog 137 #[.float .f64 (floatOfInt .f64 (m : Int)), .int .i64 q] w fun r w' => r = .returned (.float .f64 ((q + 1074).toNat * 4503599627370496 + m)) ∧ w = w' := by
 have h := fun W => ldexp_fin m q W hm hq0 hq1 hq
 generalize (q + 1074).toNat * 4503599627370496 + m = z at *
 generalize floatOfInt .f64 (m : Int) = x at *
 clear hm hq
 go_enter Tryz.func137, Tryz.ntmps137
 go_wp2_with (go_at_call 147; go_must (refine (h _).mono ?_); rintro r w1 ⟨rfl, rfl⟩)
 go_ret
 exact ⟨rfl, rfl⟩
end Go.Proofs.YtfbkopepkklkjaaGreatDoor

/- The walks over math.Copysign, the reference's packed and signed, filigreelaw03.bits. -/
namespace Go.Proofs.YtfbkopepkklkjaaGreatDoor
open Go Go.RowKit Go.PlainAid Fil

theorem ret_f64 {a b : Nat} (h : a = b) : Ending.returned (.float .f64 a) = .returned (.float .f64 b) := by rw [h]
theorem d_word_t (r : Nat) : Ieee.double.word true r = 9223372036854775808 + r := rfl
theorem d_word_f (r : Nat) : Ieee.double.word false r = r := rfl

set_option maxRecDepth 20000 in
set_option maxHeartbeats 1000000 in
theorem copysign_neg (b : Nat) (w : World) (h : b < 9223372036854775808) : Calls Tryz.prog 138 #[.float .f64 b, .float .f64 13830554455654793216] w fun r w' => r = .returned (.float .f64 (Ieee.double.word true b)) ∧ w = w' := by
 have h1 := run_f64bits
 have h2 := run_f64from
 have h3 := magB_bits b (by omega)
 rw [magB_lt h] at h3
 have h4 : bits BinOp.and IntKind.u64 13830554455654793216 9223372036854775808 = 9223372036854775808 := by kernel_rfl
 obtain ⟨z, hz⟩ : ∃ z, z = 9223372036854775808 + b := ⟨_, rfl⟩
 have h5 : bits BinOp.or IntKind.u64 (b : Int) 9223372036854775808 = (z : Int) := by
  have h6 := u64_or_nat b 9223372036854775808 (by omega) (by omega)
  rw [show ((9223372036854775808 : Nat) : Int) = 9223372036854775808 from rfl] at h6
  rw [h6]
  have := or_add' (s := 63) (a := 1) (b := b) (by omega)
  rw [show 1 * 2 ^ 63 = 9223372036854775808 by rfl] at this
  rw [this, hz, Nat.add_comm]
 have Hz := Lib.hid hz
 clear h hz
 rw [d_word_t, ← Hz.out]
 go_enter Tryz.func138, Tryz.ntmps138
 go_wp2
 go_ret
 exact ⟨rfl, rfl⟩

set_option maxRecDepth 20000 in
set_option maxHeartbeats 1000000 in
/-- signed, of a rung -/
theorem rsigned_any (neg : Bool) (r : Nat) (w : World) (h : r < 9223372036854775808) : Calls Tryz.prog 93 #[.bool neg, .float .f64 r] w fun e w' => e = .returned (.float .f64 (Ieee.double.word neg r)) ∧ w = w' := by
 have h1 := run_f64bits
 have h2 := run_f64from
 cases neg
 ·rw [d_word_f]
  clear h
  go_enter Tryz.func93, Tryz.ntmps93
  go_wp2
  go_ret
  exact ⟨rfl, rfl⟩
 ·rw [d_word_t]
  have i1 : (r : Int) < 9223372036854775808 := by omega
  clear h
  go_enter Tryz.func93, Tryz.ntmps93
  go_wp2
  go_ret
  exact ⟨ret_f64 (by omega), rfl⟩

set_option maxRecDepth 20000 in
set_option maxHeartbeats 2000000 in
theorem rpacked_any (neg : Bool) (m : Nat) (q : Int) (w : World) (hm : m ≤ 9007199254740992) (hq0 : -1074 ≤ q) (hq1 : q ≤ 971) (hq : -1074 < q → 4503599627370496 ≤ m) :
  Calls Tryz.prog 126 #[.bool neg, .int .u64 m, .int .i64 q] w fun r w' => r = .returned (.float .f64 (Ieee.double.word neg ((q + 1074).toNat * 4503599627370496 + m))) ∧ w = w' := by
 have h2 := run_f64from
 obtain ⟨z, hz⟩ : ∃ z, z = Ieee.double.word neg ((q + 1074).toNat * 4503599627370496 + m) := ⟨_, rfl⟩
 rw [← hz]
 by_cases h53 : m = 9007199254740992
 ·subst h53
  by_cases ho : q = 971
  ·subst ho
   clear hq hq0 hq1 hm
   have Hz := Lib.hid hz
   clear hz
   cases neg
   ·go_enter Tryz.func126, Tryz.ntmps126
    go_wp2
    go_ret
    exact ⟨ret_f64 (by rw [Hz.out, d_word_f]; decide), rfl⟩
   ·go_enter Tryz.func126, Tryz.ntmps126
    go_wp2
    go_ret
    exact ⟨ret_f64 (by rw [Hz.out, d_word_t]; decide), rfl⟩
  ·have i1 : q ≤ 970 := by omega
   clear hq hm ho hq1
   have Hz := Lib.hid hz
   clear hz
   cases neg
   ·go_enter Tryz.func126, Tryz.ntmps126
    go_wp2
    go_ret
    exact ⟨ret_f64 (by rw [Hz.out, d_word_f]; omega), rfl⟩
   ·go_enter Tryz.func126, Tryz.ntmps126
    go_wp2
    go_ret
    exact ⟨ret_f64 (by rw [Hz.out, d_word_t]; omega), rfl⟩
 ·have e1 : ((m : Int) == 9007199254740992) = false := by rw [beq_eq_false_iff_ne]; omega
  have i1 : (m : Int) ≤ 9007199254740991 := by omega
  clear hm h53
  by_cases h52 : 4503599627370496 ≤ m
  ·have i2 : 4503599627370496 ≤ (m : Int) := by omega
   have e2 : decide (4503599627370496 ≤ (m : Int)) = true := by rw [decide_eq_true_eq]; omega
   have Hz := Lib.hid hz
   clear hz hq h52
   cases neg
   ·go_enter Tryz.func126, Tryz.ntmps126
    go_wp2
    go_ret
    exact ⟨ret_f64 (by rw [Hz.out, d_word_f]; omega), rfl⟩
   ·go_enter Tryz.func126, Tryz.ntmps126
    go_wp2
    go_ret
    exact ⟨ret_f64 (by rw [Hz.out, d_word_t]; omega), rfl⟩
  ·obtain rfl : q = -1074 := by omega
   have i2 : (m : Int) < 4503599627370496 := by omega
   have e2 : decide (4503599627370496 ≤ (m : Int)) = false := by rw [decide_eq_false_iff_not]; omega
   have Hz := Lib.hid hz
   clear hz hq h52 hq0 hq1
   cases neg
   ·go_enter Tryz.func126, Tryz.ntmps126
    go_wp2
    go_ret
    exact ⟨ret_f64 (by rw [Hz.out, d_word_f]; omega), rfl⟩
   ·go_enter Tryz.func126, Tryz.ntmps126
    go_wp2
    go_ret
    exact ⟨ret_f64 (by rw [Hz.out, d_word_t]; omega), rfl⟩

end Go.Proofs.YtfbkopepkklkjaaGreatDoor
