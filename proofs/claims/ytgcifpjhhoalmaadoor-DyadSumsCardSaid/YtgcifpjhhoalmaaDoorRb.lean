/- The walks over math.IsNaN, Abs, IsInf, normalize, Ldexp at a positive float that is neither subnormal nor infinite. -/
import Derived.Test.YtgcifpjhhoalmaaDoorRa
import Derived.Laws.FloatArith
import Derived.Laws.BitsAllLaws
namespace Go.Proofs.YtgcifpjhhoalmaaDoor
open Go Go.RowKit Go.PlainAid Fil

theorem run_f64bits (b : Nat) (w : World) : (callFunc 102 #[.float .f64 b]).run Tryd.prog w = .ok (.value (.int .u64 b)) w := by
  rw [run_callFunc_extern (e := Extern.MathFloatBits.float64bits) Tryd.func102 (by kernel_rfl) (by kernel_rfl) (by kernel_rfl) (by kernel_rfl)]
  rfl
theorem run_f64from (n : Int) (w : World) : (callFunc 144 #[.int .u64 n]).run Tryd.prog w = .ok (.value (.float .f64 n.toNat)) w := by
  rw [run_callFunc_extern (e := Extern.MathFloatBits.float64frombits) Tryd.func144 (by kernel_rfl) (by kernel_rfl) (by kernel_rfl) (by kernel_rfl)]
  rfl

set_option maxHeartbeats 1000000 in
theorem isnan_any (b : Nat) (w : World) : Calls Tryd.prog 128 #[.float .f64 b] w fun r w' => r = .returned (.bool (FloatKind.f64.format.order b b != some .eq)) ∧ w = w' := by
  go_enter Tryd.func128, Tryd.ntmps128
  go_wp2
  go_ret
  exact ⟨rfl, rfl⟩
/-- a float's bits without the sign -/
def magB (b : Nat) : Nat := b % 9223372036854775808
theorem magB_bits (b : Nat) (h : b < 18446744073709551616) : bits BinOp.andNot IntKind.u64 (b : Int) 9223372036854775808 = ((magB b : Nat) : Int) := by
  have h1 := u64_andNot_nat b 9223372036854775808 h (by omega)
  rw [show ((9223372036854775808 : Nat) : Int) = 9223372036854775808 from rfl] at h1
  rw [h1, show 18446744073709551615 - 9223372036854775808 = 2 ^ 63 - 1 by rfl, Nat.and_two_pow_sub_one_eq_mod]
  rfl
set_option maxRecDepth 20000 in
set_option maxHeartbeats 1000000 in
theorem mabs_any (b : Nat) (w : World) (h : b < 18446744073709551616) : Calls Tryd.prog 169 #[.float .f64 b] w fun r w' => r = .returned (.float .f64 (magB b)) ∧ w = w' := by
  have h1 := run_f64bits
  have h2 := run_f64from
  have h3 := magB_bits b h
  clear h
  go_enter Tryd.func169, Tryd.ntmps169
  go_wp2
  go_ret
  exact ⟨rfl, rfl⟩

set_option maxRecDepth 20000 in
set_option maxHeartbeats 1000000 in
/-- IsInf(x, 0) -/
theorem isinf_any (b : Nat) (w : World) (h : b < 18446744073709551616) : Calls Tryd.prog 129 #[.float .f64 b, .int .i64 0] w fun r w' => r = .returned (.bool (FloatKind.f64.format.order (magB b) 9218868437227405311 == some .gt)) ∧ w = w' := by
  have hm := fun W => mabs_any b W h
  clear h
  go_enter Tryd.func129, Tryd.ntmps129
  go_wp2_with (go_at_call 169; go_must (refine (hm _).mono ?_); rintro r w1 ⟨rfl, rfl⟩)
  go_ret
  exact ⟨rfl, rfl⟩

set_option maxRecDepth 20000 in
set_option maxHeartbeats 1000000 in
/-- normalize, where there is nothing to do -/
theorem normal_any (b : Nat) (w : World) (h : b < 18446744073709551616) (hn : (FloatKind.f64.format.order (magB b) 4503599627370496 == some .lt) = false) : Calls Tryd.prog 176 #[.float .f64 b] w fun r w' => r = .returned (.tuple #[.float .f64 b, .int .i64 0]) ∧ w = w' := by
  have hm := fun W => mabs_any b W h
  clear h
  go_enter Tryd.func176, Tryd.ntmps176
  go_wp2_with (go_at_call 169; go_must (refine (hm _).mono ?_); rintro r w1 ⟨rfl, rfl⟩)
  go_returns
  exact ⟨rfl, rfl⟩

theorem exp_bits (E : Nat) (hE : E < 2048) : bits BinOp.and IntKind.i64 (E : Int) 2047 = (E : Int) := by
  have hx : E &&& 2047 = E := by rw [show 2047 = 2 ^ 11 - 1 by rfl, Nat.and_two_pow_sub_one_eq_mod, Nat.mod_eq_of_lt hE]
  show IntKind.i64.wrap ((BitVec.ofInt 64 (E : Int) &&& BitVec.ofInt 64 2047).toNat : Int) = _
  have h2 : (BitVec.ofInt 64 (E : Int) &&& BitVec.ofInt 64 2047).toNat = E := by
    rw [BitVec.toNat_and, BitVec.ofInt_natCast, BitVec.toNat_ofNat, Nat.mod_eq_of_lt (by omega)]
    exact hx
  rw [h2]
  rw [IntKind.wrap_i64]
  omega
theorem frac_bits (E F x : Nat) (hx : x = E * 4503599627370496 + F) (hE : E < 2048) (hF : F < 4503599627370496) : bits BinOp.andNot IntKind.u64 (x : Int) 9218868437227405312 = (F : Int) := by
  have h1 := u64_andNot_nat x 9218868437227405312 (by omega) (by omega)
  rw [show ((9218868437227405312 : Nat) : Int) = 9218868437227405312 from rfl] at h1
  have h2 : x &&& 2 ^ 63 = 0 := by
    apply Nat.eq_of_testBit_eq
    intro i
    rw [Nat.testBit_and, Nat.testBit_two_pow, Nat.zero_testBit]
    by_cases h : 63 = i
    · subst h; rw [Nat.testBit_lt_two_pow (by omega)]; rfl
    · rw [decide_eq_false h, Bool.and_false]
  rw [h1, show 18446744073709551615 - 9218868437227405312 = 2 ^ 63 ||| (2 ^ 52 - 1) by rfl, Nat.and_or_distrib_left, h2, Nat.and_two_pow_sub_one_eq_mod, Nat.zero_or]
  congr 1
  omega
theorem pack_bits (K F : Nat) (hK : K < 2048) (hF : F < 4503599627370496) : bits BinOp.or IntKind.u64 (F : Int) ((K : Int) * 4503599627370496) = ((K * 4503599627370496 + F : Nat) : Int) := by
  have h1 := u64_or_nat F (K * 4503599627370496) (by omega) (by omega)
  rw [show ((K * 4503599627370496 : Nat) : Int) = (K : Int) * 4503599627370496 from Int.natCast_mul _ _] at h1
  rw [h1]
  have := or_add' (s := 52) (a := K) (b := F) hF
  rw [show 2 ^ 52 = 4503599627370496 by rfl] at this
  rw [this, Nat.add_comm]

set_option maxRecDepth 20000 in
set_option maxHeartbeats 2000000 in
theorem ldexp_norm (E F K : Nat) (e k : Int) (x y z : Nat) (w : World) (hx : x = E * 4503599627370496 + F) (hE : E < 2047) (hF : F < 4503599627370496)
    (o0 : (FloatKind.f64.format.order x 0 == some .eq) = false) (o1 : (FloatKind.f64.format.order (magB x) 9218868437227405311 == some .gt) = false) (o2 : (FloatKind.f64.format.order x x != some .eq) = false)
    (o3 : (FloatKind.f64.format.order (magB x) 4503599627370496 == some .lt) = false) (he1 : -5000 ≤ e) (he2 : e ≤ 5000) (hk : k = e + E - 1023) (hk1 : -1022 ≤ k) (hk2 : k ≤ 1023)
    (hK : K = k + 1023) (hy : y = K * 4503599627370496 + F) (hz : floatBits .mul .f64 4607182418800017408 y = some z) :
    Calls Tryd.prog 173 #[.float .f64 x, .int .i64 e] w fun r w' => r = .returned (.float .f64 z) ∧ w = w' := by
  have hxb : x < 18446744073709551616 := by omega
  have hi := fun W => isinf_any x W hxb
  have hn := fun W => isnan_any x W
  have hm := fun W => normal_any x W hxb o3
  rw [o1] at hi
  rw [o2] at hn
  have h1 := run_f64bits
  have h2 := run_f64from
  have hE0 : 0 ≤ (E : Int) := by omega
  have hE1 : (E : Int) < 2047 := by omega
  have hd : (x : Int) / 4503599627370496 = (E : Int) := by omega
  have ha := exp_bits E (by omega)
  have hf := frac_bits E F x hx (by omega) hF
  have hp := pack_bits K F (by omega) hF
  have hk' : e + ((E : Int) - 1023) = k := by omega
  have hK' : k + 1023 = (K : Int) := by omega
  have hK0 : 0 ≤ (K : Int) := by omega
  have hK1 : (K : Int) < 2047 := by omega
  have ht : ((K * 4503599627370496 + F : Nat) : Int).toNat = y := by rw [hy]; exact Int.toNat_natCast _
  have hmul := fun W => run_float_arith (P := Tryd.prog) W .mul 25 .f64 4607182418800017408 y z hz
  rw [← hy] at hp
  have Hx := Lib.hid (And.intro hx (And.intro hF (And.intro hE (And.intro hK hy))))
  clear hx hxb o1 o2 o3 hF hE hk hy hz hK ht
  go_enter Tryd.func173, Tryd.ntmps173
  go_wp2_with (first
    | (go_at_call 129; go_must (refine (hi _).mono ?_); rintro r w1 ⟨rfl, rfl⟩)
    | (go_at_call 128; go_must (refine (hn _).mono ?_); rintro r w1 ⟨rfl, rfl⟩)
    | (go_at_call 176; go_must (refine (hm _).mono ?_); rintro r w1 ⟨rfl, rfl⟩))
  go_ret
  exact ⟨rfl, rfl⟩
end Go.Proofs.YtgcifpjhhoalmaaDoor
