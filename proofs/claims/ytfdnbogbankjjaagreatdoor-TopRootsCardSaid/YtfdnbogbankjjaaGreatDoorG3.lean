/- Merged: F2 G1 G2 G3 -/
import Derived.Test.YtfdnbogbankjjaaGreatDoorF1
import Derived.Test.YtfdnbogbankjjaaGreatDoorBH
import Derived.Test.YtfdnbogbankjjaaGreatDoorB7
import Derived.OneCell
import Derived.Test.YtfdnbogbankjjaaGreatDoorBI

/- math.Abs, IsInf, Inf, Sqrt, Signbit, bits.Up, Like by what the floats are worth. -/
namespace Go.Proofs.YtfdnbogbankjjaaGreatDoor
open Go Go.RowKit Go.PlainAid Fil

theorem fabs_fl {x : Nat} {X : FV} (hx : Fl x X) : Fl (magB x) (fabs X) := by
 have e : fr (magB x) = fr x := by unfold magB fr; omega
 have l : magB x < 18446744073709551616 := by unfold magB; omega
 rcases hx.cases with ⟨k, rfl⟩ | ⟨k, rfl⟩
 ·exact ⟨l, al_none (by rw [e]; exact k)⟩
 ·exact ⟨l, al_some (by rw [e]; exact k)⟩
theorem cabs {x : Nat} {X : FV} (w : World) (hx : Fl x X) : Calls Tryz.prog 65 #[.float .f64 x] w fun r w' => (∃ y, r = .returned (.float .f64 y) ∧ Fl y (fabs X)) ∧ Below w.heap.size w w' := by
 refine (mabs_any x w hx.lt).mono ?_
 rintro r w1 ⟨rfl, rfl⟩
 exact ⟨⟨_, rfl, fabs_fl hx⟩, Below.refl _ _⟩
def fisinf (X : FV) : Bool := fgt (fabs X) (some 9218868437227405311)
theorem fl_max : Fl 9218868437227405311 (some 9218868437227405311) := fl_some (by decide) (by decide)
theorem cisinf {x : Nat} {X : FV} (w : World) (hx : Fl x X) : Calls Tryz.prog 57 #[.float .f64 x, .int .i64 0] w fun r w' => r = .returned (.bool (fisinf X)) ∧ Below w.heap.size w w' := by
 refine (isinf_any x w hx.lt).mono ?_
 rintro r w1 ⟨rfl, rfl⟩
 exact ⟨by rw [c_gt (fabs_fl hx) fl_max]; rfl, Below.refl _ _⟩
def fisinf1 (X : FV) : Bool := fgt X (some 9218868437227405311)
set_option maxRecDepth 20000 in
theorem cisinf1 {x : Nat} {X : FV} (w : World) (hx : Fl x X) : Calls Tryz.prog 57 #[.float .f64 x, .int .i64 1] w fun r w' => r = .returned (.bool (fisinf1 X)) ∧ Below w.heap.size w w' := by
 have B0 := Below.refl w.heap.size w
 have hc := c_gt hx fl_max
 go_enter Tryz.func57, Tryz.ntmps57
 go_wp2
 go_ret
 exact ⟨rfl, B0⟩
theorem cinf (w : World) : Calls Tryz.prog 75 #[.int .i64 1] w fun r w' => (∃ y, r = .returned (.float .f64 y) ∧ Fl y (some 9218868437227405312)) ∧ Below w.heap.size w w' := by
 refine (minf_pos w).mono ?_
 rintro r w1 ⟨rfl, rfl⟩
 exact ⟨⟨_, rfl, fl_some (by decide) (by decide)⟩, Below.refl _ _⟩
theorem root_nan {x : Nat} (h : 9218868437227405312 < fr x) : Ieee.double.sqrt x = none := by
 obtain ⟨t, ht⟩ := read_nan h
 unfold Ieee.Format.sqrt
 rw [ht]; rfl
/-- what the extern gives, by the exact answer -/
def sqrtF (x : Nat) (q : Option Nat) : Sem Value :=
 match q with
 | some r => pure (.float .f64 r)
 | none => do pure (.float .f64 (← choose (.nanBits .f64 x x)))
theorem run_fsqrt {x : Nat} {X : FV} (hx : Fl x X) (w : World) : ∃ r w', (callFunc 127 #[.float .f64 x]).run Tryz.prog w = .ok (.value (.float .f64 r)) w' ∧ Fl r (fsqrt X) ∧ Below w.heap.size w w' := by
 rw [run_callFunc_extern (e := Extern.MathSqrt.sqrt) Tryz.func127 (by kernel_rfl) (by kernel_rfl) (by kernel_rfl) (by kernel_rfl)]
 have e : fsqrt X = Ieee.double.sqrt x := by
  rcases hx.cases with ⟨k, rfl⟩ | ⟨k, rfl⟩
  ·exact (root_nan k).symm
  ·rfl
 rw [e]
 have k : Extern.MathSqrt.sqrt #[.float .f64 x] = sqrtF x (FloatKind.f64.format.sqrt x) := rfl
 rw [k]
 cases hs : Ieee.double.sqrt x with
 | some o =>
  have h1 : fr o ≤ 9218868437227405312 ∧ o < 18446744073709551616 := by
   unfold Ieee.Format.sqrt at hs
   cases hr : (Ieee.double.read x).root (Ieee.double.fractionBits + 2) with
   | none => rw [hr] at hs; cases hs
   | some d =>
    rw [hr] at hs
    have e2 : Ieee.double.write d = o := Option.some.inj hs
    rw [← e2]
    exact ⟨write_fr d (root_num' hr), Nat.lt_of_lt_of_le (Ieee.Format.write_lt Ieee.double d) (by decide)⟩
  refine ⟨o, w, ?_, fl_some h1.2 h1.1, Below.refl _ _⟩
  have h2 : FloatKind.f64.format.sqrt x = some o := hs
  rw [h2]; rfl
 | none =>
  let T := w.tape w.drawn (.nanBits .f64 x x)
  refine ⟨nanB T, w.drew, ?_, nanB_fl T, (Below.refl _ _).drew⟩
  have h2 : FloatKind.f64.format.sqrt x = none := hs
  rw [h2]
  simp [sqrtF, Question.forced, Question.cut, nanB, T]
theorem csqrt {x : Nat} {X : FV} (w : World) (hx : Fl x X) : Calls Tryz.prog 115 #[.float .f64 x] w fun r w' => (∃ y, r = .returned (.float .f64 y) ∧ Fl y (fsqrt X)) ∧ Below w.heap.size w w' := by
 obtain ⟨r, w1, h1, hr, hb⟩ := run_fsqrt hx w
 go_enter Tryz.func115, Tryz.ntmps115
 go_wp2
 go_ret
 exact ⟨⟨_, rfl, hr⟩, hb⟩
def fsb (X : FV) : Bool := match X with
 | some a => decide (9223372036854775808 ≤ a)
 | none => false
theorem fl_sign {x : Nat} {X : FV} (hx : Fl x X) (h : X ≠ none) : X = some x := by
 rcases hx.cases with ⟨_, rfl⟩ | ⟨_, rfl⟩
 ·exact absurd rfl h
 ·rfl
/-- Up -/
def fup (X : FV) : FV := X.bind fun a => some (if a = 9218868437227405312 then a else if fr a = 0 then 1 else if 9223372036854775808 ≤ a then a - 1 else a + 1)
def fLike (X Y : FV) : Bool := decide (X = Y)
theorem xor_topF {b s : Nat} (h : b < 2 ^ s) : b ^^^ 2 ^ s = 2 ^ s + b := by
 apply Nat.eq_of_testBit_eq
 intro i
 rw [Nat.testBit_xor, Nat.testBit_two_pow]
 rcases Nat.lt_trichotomy i s with hi | hi | hi
 ·rw [Nat.testBit_two_pow_add_gt hi, decide_eq_false (by omega), Bool.xor_false]
 ·subst hi
  rw [Nat.testBit_two_pow_add_eq, Nat.testBit_lt_two_pow h, decide_eq_true rfl]; rfl
 ·have hl : 2 ^ (s + 1) ≤ 2 ^ i := Nat.pow_le_pow_right (by omega) hi
  rw [Nat.pow_succ] at hl
  rw [Nat.testBit_lt_two_pow (show b < 2 ^ i by omega), Nat.testBit_lt_two_pow (show 2 ^ s + b < 2 ^ i by omega), decide_eq_false (by omega)]; rfl
theorem neg_bits {x : Nat} (h : x < 18446744073709551616) : x ^^^ 2 ^ 63 = if x < 9223372036854775808 then x + 9223372036854775808 else x - 9223372036854775808 := by
 by_cases k : x < 9223372036854775808
 ·rw [if_pos k, xor_topF (s := 63) k, Nat.add_comm]
 ·have hr : x - 9223372036854775808 < 2 ^ 63 := by omega
  have e : x = (x - 9223372036854775808) ^^^ 2 ^ 63 := by rw [xor_topF hr]; omega
  rw [if_neg k]
  generalize x - 9223372036854775808 = R at *
  rw [e, Nat.xor_assoc, Nat.xor_self, Nat.xor_zero]
theorem and_top {x : Nat} (h : x < 18446744073709551616) : x &&& 9223372036854775808 = if x < 9223372036854775808 then 0 else 9223372036854775808 := by
 apply Nat.eq_of_testBit_eq
 intro i
 rw [Nat.testBit_and, show (9223372036854775808 : Nat) = 2 ^ 63 by rfl, Nat.testBit_two_pow]
 by_cases hi : 63 = i
 ·subst hi
  rw [decide_eq_true rfl, Bool.and_true]
  by_cases k : x < 2 ^ 63
  ·rw [if_pos k, Nat.testBit_lt_two_pow k]; rfl
  ·rw [if_neg k, show x = 2 ^ 63 + (x - 2 ^ 63) by omega, Nat.testBit_two_pow_add_eq, Nat.testBit_lt_two_pow (by omega), Nat.testBit_two_pow, decide_eq_true rfl]; rfl
 ·rw [decide_eq_false hi, Bool.and_false]
  by_cases k : x < 2 ^ 63
  ·rw [if_pos k, Nat.zero_testBit]
  ·rw [if_neg k, Nat.testBit_two_pow, decide_eq_false hi]
theorem fneg_fl {x : Nat} {X : FV} (hx : Fl x X) : ∃ r, (∀ (P : Program) W, (Op.unary .neg (.float .f64 x)).run P W = .ok (.float .f64 r) W) ∧ Fl r (fneg X) := by
 refine ⟨Op.negFloat .f64 x, fun _ _ => rfl, ?_⟩
 have e : Op.negFloat .f64 x = if x < 9223372036854775808 then x + 9223372036854775808 else x - 9223372036854775808 := by
  show x ^^^ 2 ^ 63 = _
  exact neg_bits hx.lt
 have l := hx.lt
 have e2 : fr (Op.negFloat .f64 x) = fr x := by rw [e]; unfold fr; split <;> omega
 have l2 : Op.negFloat .f64 x < 18446744073709551616 := by rw [e]; split <;> omega
 rcases hx.cases with ⟨k, rfl⟩ | ⟨k, rfl⟩
 ·exact ⟨l2, al_none (by rw [e2]; exact k)⟩
 ·refine ⟨l2, ?_⟩
  rw [al_some (by rw [e2]; exact k)]
  show _ = some _
  rw [e]
theorem csignbit {x : Nat} {X : FV} (w : World) (hx : Fl x X) (h : X ≠ none) : Calls Tryz.prog 110 #[.float .f64 x] w fun r w' => r = .returned (.bool (fsb X)) ∧ Below w.heap.size w w' := by
 have B0 := Below.refl w.heap.size w
 have h1 := run_f64bits
 have e := fl_sign hx h
 have e2 : fsb X = decide (9223372036854775808 ≤ x) := by rw [e]; rfl
 rw [e2]
 have l := hx.lt
 clear e e2 h hx
 by_cases k : 9223372036854775808 ≤ x
 ·have hw : IntKind.i64.wrap (x : Int) = (x : Int) - 18446744073709551616 := by
   rw [IntKind.wrap_i64]; omega
  go_enter Tryz.func110, Tryz.ntmps110
  go_wp2
  go_ret
  exact ⟨by rw [decide_eq_true k]; simp; omega, B0⟩
 ·have hw : IntKind.i64.wrap (x : Int) = (x : Int) := IntWalk.i64_in _ ⟨by omega, by omega⟩
  go_enter Tryz.func110, Tryz.ntmps110
  go_wp2
  go_ret
  exact ⟨by rw [decide_eq_false k]; simp, B0⟩
theorem clike {x y : Nat} {X Y : FV} (w : World) (hx : Fl x X) (hy : Fl y Y) : Calls Tryz.prog 126 #[.float .f64 x, .float .f64 y] w fun r w' => r = .returned (.bool (fLike X Y)) ∧ Below w.heap.size w w' := by
 have B0 := Below.refl w.heap.size w
 have h1 := run_f64bits
 have o1 := c_ne hx hx
 have o2 := c_ne hy hy
 have own : ∀ {z : Nat}, fr z ≤ 9218868437227405312 → feq (some z) (some z) = true := fun {z} k => by show (Ieee.double.order z z == some .eq) = true; rw [order_some k k]; simp
 have non : feq none none = false := rfl
 have key : fLike X Y = (decide (x = y) || (!feq X X && !feq Y Y)) := by
  unfold fLike
  rcases hx.cases with ⟨k, rfl⟩ | ⟨k, rfl⟩
  ·rcases hy.cases with ⟨k2, rfl⟩ | ⟨k2, rfl⟩
   ·rw [non]; simp
   ·rw [own k2, non, decide_eq_false (by intro e; cases e), decide_eq_false (by rintro rfl; omega)]; rfl
  ·rcases hy.cases with ⟨k2, rfl⟩ | ⟨k2, rfl⟩
   ·rw [own k, non, decide_eq_false (by intro e; cases e), decide_eq_false (by rintro rfl; omega)]; rfl
   ·rw [own k, own k2]; simp
 rw [key]
 by_cases h0 : x = y
 ·subst h0
  go_enter Tryz.func126, Tryz.ntmps126
  go_wp2
  go_ret
  exact ⟨by simp, B0⟩
 ·have hne : ¬ (x : Int) = (y : Int) := by omega
  cases hc : feq X X
  ·rw [hc] at o1
   go_enter Tryz.func126, Tryz.ntmps126
   go_wp2
   go_ret
   exact ⟨by simp [h0, hne], B0⟩
  ·rw [hc] at o1
   go_enter Tryz.func126, Tryz.ntmps126
   go_wp2
   go_ret
   exact ⟨by simp [h0, hne], B0⟩
theorem fl_zero : Fl 0 (some 0) := fl_some (by decide) (by decide)
set_option maxRecDepth 100000 in
set_option maxHeartbeats 2000000 in
theorem cup {x : Nat} {X : FV} (w : World) (hx : Fl x X) : Calls Tryz.prog 78 #[.float .f64 x] w fun r w' => (∃ y, r = .returned (.float .f64 y) ∧ Fl y (fup X)) ∧ Below w.heap.size w w' := by
 have B0 := Below.refl w.heap.size w
 have hi := fun W => cisinf1 W hx
 have o1 := c_ne hx hx
 have oz := c_eq hx fl_zero
 have h1 := run_f64bits
 have h2 := run_f64from
 rcases hx.cases with ⟨k, rfl⟩ | ⟨k, rfl⟩
 ·have e1 : feq none none = false := rfl
  rw [e1] at o1
  go_enter Tryz.func78, Tryz.ntmps78
  go_wp2
  go_ret
  exact ⟨⟨_, rfl, hx⟩, B0⟩
 ·have e1 : feq (some x) (some x) = true := by show (Ieee.double.order x x == some .eq) = true; rw [order_some k k]; simp
  rw [e1] at o1
  have e2 : fisinf1 (some x) = decide (x = 9218868437227405312) := by
   show (Ieee.double.order x 9218868437227405311 == some .gt) = _
   rw [order_some k (by decide), show fk 9218868437227405311 = 9218868437227405311 by decide]
   have l := hx.lt
   by_cases hs : fs x = true
   ·have hf : fk x = -(fr x : Int) := by unfold fk; rw [if_pos hs]
    have : x ≠ 9218868437227405312 := fun e => by rw [e] at hs; exact absurd hs (by decide)
    rw [hf, cmp_lt (by omega), decide_eq_false this]; rfl
   ·have hf : fk x = (fr x : Int) := by unfold fk; rw [if_neg hs]
    have hx2 : fr x = x := by
     have := fw_eq l
     rw [show fs x = false by simpa using hs] at this
     exact this.symm
    rw [hf, hx2]
    by_cases h : x = 9218868437227405312
    ·rw [decide_eq_true h, h]; rfl
    ·rw [decide_eq_false h]
     rcases Nat.lt_or_ge x 9218868437227405311 with h3 | h3
     ·rw [cmp_lt (by omega)]; rfl
     ·rw [show x = 9218868437227405311 by omega]; rfl
  rw [e2] at hi
  by_cases h3 : x = 9218868437227405312
  ·rw [decide_eq_true h3] at hi
   have e3 : fup (some x) = some x := by show some (if _ then _ else _) = _; rw [if_pos h3]
   rw [e3]
   clear h3 e2 e3
   go_enter Tryz.func78, Tryz.ntmps78
   go_wp2_with (go_at_call 57; go_must (refine (hi _).mono ?_); rintro r w1 ⟨rfl, hb⟩; replace B0 := B0.trans (hb.mono B0.size))
   go_ret
   exact ⟨⟨_, rfl, hx⟩, B0⟩
  ·rw [decide_eq_false h3] at hi
   have e4 : feq (some x) (some 0) = decide (fr x = 0) := by
    show (Ieee.double.order x 0 == some .eq) = _
    rw [order_some k (by decide), show fk 0 = 0 by decide]
    by_cases hs : fs x = true
    ·have hf : fk x = -(fr x : Int) := by unfold fk; rw [if_pos hs]
     rw [hf]
     by_cases h : fr x = 0
     ·rw [h]; rfl
     ·rw [cmp_lt (by omega), decide_eq_false h]; rfl
    ·have hf : fk x = (fr x : Int) := by unfold fk; rw [if_neg hs]
     rw [hf]
     by_cases h : fr x = 0
     ·rw [h]; rfl
     ·rw [cmp_gt (by omega), decide_eq_false h]; rfl
   rw [e4] at oz
   by_cases h4 : fr x = 0
   ·rw [decide_eq_true h4] at oz
    have e3 : fup (some x) = some 1 := by show some (if _ then _ else _) = _; rw [if_neg h3, if_pos h4]
    rw [e3]
    clear h3 e2 e3 e4
    go_enter Tryz.func78, Tryz.ntmps78
    go_wp2_with (go_at_call 57; go_must (refine (hi _).mono ?_); rintro r w1 ⟨rfl, hb⟩; replace B0 := B0.trans (hb.mono B0.size))
    go_ret
    exact ⟨⟨_, rfl, fl_some (by decide) (by decide)⟩, B0⟩
   ·rw [decide_eq_false h4] at oz
    have l := hx.lt
    have hs : bits BinOp.and IntKind.u64 ((x : Nat) : Int) 9223372036854775808 = if x < 9223372036854775808 then 0 else 9223372036854775808 := by
     have h1 := u64_and_nat x 9223372036854775808 l (by omega)
     rw [show ((9223372036854775808 : Nat) : Int) = 9223372036854775808 from rfl] at h1
     rw [h1, and_top l]
     split <;> rfl
    by_cases h5 : 9223372036854775808 ≤ x
    ·rw [if_neg (by omega)] at hs
     have e3 : fup (some x) = some (x - 1) := by show some (if _ then _ else _) = _; rw [if_neg h3, if_neg h4, if_pos h5]
     rw [e3]
     have hfr : fr (x - 1) ≤ 9218868437227405312 := by unfold fr at *; omega
     obtain ⟨Q, hQ⟩ : ∃ Q, Q = x - 1 := ⟨_, rfl⟩
     have hR := fl_some (b := x - 1) (by omega) hfr
     rw [← hQ] at hR ⊢
     have hw1 : IntKind.u64.wrap ((x : Int) - 1) = (Q : Int) := by rw [IntWalk.u64_in _ ⟨by omega, by omega⟩]; omega
     have ht : (Q : Int).toNat = Q := Int.toNat_natCast _
     clear h3 e2 e3 e4 h4 h5 hQ hfr
     go_enter Tryz.func78, Tryz.ntmps78
     go_wp2_with (go_at_call 57; go_must (refine (hi _).mono ?_); rintro r w1 ⟨rfl, hb⟩; replace B0 := B0.trans (hb.mono B0.size))
     go_ret
     exact ⟨⟨_, rfl, hR⟩, B0⟩
    ·rw [if_pos (by omega)] at hs
     have e3 : fup (some x) = some (x + 1) := by show some (if _ then _ else _) = _; rw [if_neg h3, if_neg h4, if_neg h5]
     rw [e3]
     have hfr : fr (x + 1) ≤ 9218868437227405312 := by unfold fr at *; omega
     obtain ⟨Q, hQ⟩ : ∃ Q, Q = x + 1 := ⟨_, rfl⟩
     have hR := fl_some (b := x + 1) (by omega) hfr
     rw [← hQ] at hR ⊢
     have hw1 : IntKind.u64.wrap ((x : Int) + 1) = (Q : Int) := by rw [IntWalk.u64_in _ ⟨by omega, by omega⟩]; omega
     have ht : (Q : Int).toNat = Q := Int.toNat_natCast _
     clear h3 e2 e3 e4 h4 h5 hQ hfr
     go_enter Tryz.func78, Tryz.ntmps78
     go_wp2_with (go_at_call 57; go_must (refine (hi _).mono ?_); rintro r w1 ⟨rfl, hb⟩; replace B0 := B0.trans (hb.mono B0.size))
     go_ret
     exact ⟨⟨_, rfl, hR⟩, B0⟩
/-- a difference of complex numbers -/
theorem run_csub (P : Program) (w : World) (t : TypeId) {a b c d : Nat} {A B C D : FV} (ha : Fl a A) (hb : Fl b B) (hc : Fl c C) (hd : Fl d D) :
  ∃ r i w', (binOp .sub t (.complex .f64 a b) (.complex .f64 c d)).run P w = .ok (.complex .f64 r i) w' ∧ Fl r (fop .sub A C) ∧ Fl i (fop .sub B D) ∧ Below w.heap.size w w' := by
 have key : ∀ (w : World) {x y : Nat} {X Y : FV}, Fl x X → Fl y Y → ∃ r w', (Op.Complex.arith .sub .f64 x y).run P w = .ok r w' ∧ Fl r (fop .sub X Y) ∧ Below w.heap.size w w' := by
  intro w x y X Y hx hy
  obtain ⟨r, w1, h, hr, hb⟩ := run_fop P w .sub t (.inr (.inl rfl)) hx hy
  have h2 : (Op.floatArith .sub .f64 x y).run P w = .ok (.float .f64 r) w1 := h
  refine ⟨r, w1, ?_, hr, hb⟩
  simp [Op.Complex.arith, h2]
 obtain ⟨r, w1, h1, hr, hb1⟩ := key w ha hc
 obtain ⟨i, w2, h2, hi, hb2⟩ := key w1 hb hd
 refine ⟨r, i, w2, ?_, hr, hi, hb1.trans (hb2.mono hb1.size)⟩
 simp [binOp, Op.complexOp, h1, h2]
end Go.Proofs.YtfdnbogbankjjaaGreatDoor

/- Gauss: values, their boxes; the keeper of package gauss and its closures. -/
namespace Go.Proofs.YtfdnbogbankjjaaGreatDoor
open Go Go.RowKit Go.PlainAid Fil

/-- all blocks but K are as they were -/
structure KB (K : Nat) (w w' : World) : Prop where
 os : w'.os = w.os
 tape : w'.tape = w.tape
 output : w'.output = w.output
 size : w.heap.size ≤ w'.heap.size
 far : ∀ k, k < w.heap.size → k ≠ K → w'.heap[k]? = w.heap[k]?
section
variable {K : Nat} {w w' w'' : World}
end

/-- a block of cells -/
def Blk (w : World) (b : Nat) (cs : Array Value) (t : TypeId) : Prop := w.heap[b]? = some (.cells cs t (0, 0))
section
variable {w w' : World} {b : Nat} {cs : Array Value} {t : TypeId}
theorem Blk.lt (h : Blk w b cs t) : b < w.heap.size := lt_of_block h
theorem Blk.put (w : World) (cs : Array Value) (t : TypeId) : Blk (w.alloc (.cells cs t)) w.heap.size cs t := heap_alloc_new w _
theorem Blk.below (h : Blk w b cs t) {B : Nat} (hb : Below B w w') (hB : b < B) : Blk w' b cs t := (hb.block b hB).trans h
theorem Blk.keep (h : Blk w b cs t) (hb : Below w.heap.size w w') : Blk w' b cs t := h.below hb h.lt
theorem Blk.allocd (h : Blk w b cs t) (o : Obj) : Blk (w.alloc o) b cs t := h.keep ((Below.refl _ _).alloc (Nat.le_refl _) _)
theorem Blk.drew (h : Blk w b cs t) : Blk w.drew b cs t := h
theorem Blk.far (h : Blk w b cs t) {b' : Nat} (o : Nat) (v : Value) (hne : b ≠ b') : Blk (w.setCell ⟨b', o, none⟩ v) b cs t := (Below.heap_setCell _ _ _ _ hne).trans h
theorem Blk.at (h : Blk w b cs t) (i : Nat) (hi : i < cs.size) : w.cell? ⟨b, i, none⟩ = some cs[i] := by
 have h' : w.heap[b]? = some (.cells cs t (0, 0)) := h
 simp [World.cell?, h', hi]
theorem Blk.free (h : Blk w b cs t) (i : Nat) : w.frozen? ⟨b, i, none⟩ = false := by
 have h' : w.heap[b]? = some (.cells cs t (0, 0)) := h
 simp [World.frozen?, h']
end
/-! generated: the closures -/
end Go.Proofs.YtfdnbogbankjjaaGreatDoor

/- Gauss in a block; gauss.Check, gauss.all; the keeper's number and part. -/
namespace Go.Proofs.YtfdnbogbankjjaaGreatDoor
open Go Go.RowKit Go.PlainAid Fil

section
variable {w w' : World} {b : Nat} {n m : Bool} {s t : ByteArray} {e f : Int}
end

theorem Blk.setAt {w : World} {b : Nat} {cs : Array Value} {t : TypeId} (h : Blk w b cs t) (i : Nat) (u : Value) : Blk (w.setCell ⟨b, i, none⟩ u) b (cs.setIfInBounds i u) t := by
 have hlt := Blk.lt h
 have h' : w.heap[b] = .cells cs t (0, 0) := by
  have h0 : w.heap[b]? = some (.cells cs t (0, 0)) := h
  simpa [Array.getElem?_eq_getElem hlt] using h0
 show (w.heap.modify b _)[b]? = _
 rw [Array.getElem?_eq_getElem (by simpa using hlt), Array.getElem_modify_self, h']
 rfl
/-- Gausses in a slice -/
structure GR where
 n : Bool
 s : ByteArray
 e : Int
 m : Bool
 t : ByteArray
 f : Int
end Go.Proofs.YtfdnbogbankjjaaGreatDoor

/- The reference of layer 6: its functions over Gausses that may be. -/
namespace Go.Proofs.YtfdnbogbankjjaaGreatDoor
open Go Go.RowKit Go.PlainAid Fil

section
variable {w w' : World} {b K : Nat} {v0 v1 v2 v3 v4 v5 : Value} {t : TypeId}
theorem Blk.ce1 (h : Blk w b #[v0] t) : w.cell? ⟨b, 0, none⟩ = some v0 := Blk.at h 0 (by simp)
theorem Blk.ce3 (h : Blk w b #[v0, v1, v2] t) : w.cell? ⟨b, 0, none⟩ = some v0 ∧ w.cell? ⟨b, 1, none⟩ = some v1 ∧ w.cell? ⟨b, 2, none⟩ = some v2 := ⟨Blk.at h 0 (by simp), Blk.at h 1 (by simp), Blk.at h 2 (by simp)⟩
theorem Blk.fr3 (h : Blk w b #[v0, v1, v2] t) : w.frozen? ⟨b, 0, none⟩ = false ∧ w.frozen? ⟨b, 1, none⟩ = false ∧ w.frozen? ⟨b, 2, none⟩ = false := ⟨Blk.free h 0, Blk.free h 1, Blk.free h 2⟩
theorem Blk.ce6 (h : Blk w b #[v0, v1, v2, v3, v4, v5] t) : w.cell? ⟨b, 0, none⟩ = some v0 ∧ w.cell? ⟨b, 1, none⟩ = some v1 ∧ w.cell? ⟨b, 2, none⟩ = some v2 ∧ w.cell? ⟨b, 3, none⟩ = some v3 ∧ w.cell? ⟨b, 4, none⟩ = some v4 ∧ w.cell? ⟨b, 5, none⟩ = some v5 :=
 ⟨Blk.at h 0 (by simp), Blk.at h 1 (by simp), Blk.at h 2 (by simp), Blk.at h 3 (by simp), Blk.at h 4 (by simp), Blk.at h 5 (by simp)⟩
theorem Blk.fr6 (h : Blk w b #[v0, v1, v2, v3, v4, v5] t) : w.frozen? ⟨b, 0, none⟩ = false ∧ w.frozen? ⟨b, 1, none⟩ = false ∧ w.frozen? ⟨b, 2, none⟩ = false ∧ w.frozen? ⟨b, 3, none⟩ = false ∧ w.frozen? ⟨b, 4, none⟩ = false ∧ w.frozen? ⟨b, 5, none⟩ = false :=
 ⟨Blk.free h 0, Blk.free h 1, Blk.free h 2, Blk.free h 3, Blk.free h 4, Blk.free h 5⟩
end
/-- a Gauss that may be, by its parts -/
structure GY where
 re : DY
 im : DY
theorem rcadd (a b : DY) (w : World) (ha : a.ok) (hb : b.ok) :
  Calls Tryz.prog 50 #[.agg #[.bool a.n, .string (bstr a.x), .int .i64 a.e], .agg #[.bool b.n, .string (bstr b.x), .int .i64 b.e]] w fun r w' => r = .returned (.tuple #[.agg #[.bool (yAdd a b).1.n, .string (bstr (yAdd a b).1.x), .int .i64 (yAdd a b).1.e], .int .i64 (yAdd a b).2]) ∧ Below w.heap.size w w' := radd_any a.n a.x a.e b.n b.x b.e w ha hb
theorem rcmul (a b : DY) (w : World) (ha : a.ok) (hb : b.ok) :
  Calls Tryz.prog 48 #[.agg #[.bool a.n, .string (bstr a.x), .int .i64 a.e], .agg #[.bool b.n, .string (bstr b.x), .int .i64 b.e]] w fun r w' => r = .returned (.tuple #[.agg #[.bool (yMul a b).1.n, .string (bstr (yMul a b).1.x), .int .i64 (yMul a b).1.e], .int .i64 (yMul a b).2]) ∧ Below w.heap.size w w' := rmul_any a.n a.x a.e b.n b.x b.e w ha hb
theorem rccmp (a b : DY) (w : World) (ha : a.ok) (hb : b.ok) :
  Calls Tryz.prog 21 #[.agg #[.bool a.n, .string (bstr a.x), .int .i64 a.e], .agg #[.bool b.n, .string (bstr b.x), .int .i64 b.e]] w fun r w' => r = .returned (.int .i64 (yCmp a b)) ∧ Below w.heap.size w w' := rcmpd_ok a.n a.x a.e b.n b.x b.e w ha hb

end Go.Proofs.YtfdnbogbankjjaaGreatDoor
