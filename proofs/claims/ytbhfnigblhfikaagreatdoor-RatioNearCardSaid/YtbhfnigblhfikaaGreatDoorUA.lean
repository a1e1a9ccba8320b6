/- Merged: U6 U7 U8 U1 U2 U3 Ki U4 U5 U9 UA -/
import Derived.Test.YtbhfnigblhfikaaGreatDoorRL
import Derived.Test.YtbhfnigblhfikaaGreatDoorBJ
import Derived.Test.YtbhfnigblhfikaaGreatDoorJK
import Derived.Test.YtbhfnigblhfikaaGreatDoorJU
import Derived.Test.YtbhfnigblhfikaaGreatDoorJL
import Derived.Test.YtbhfnigblhfikaaGreatDoorJN

/- The reference of layer 1: digits, signed, Make; of layer 2: Small. -/
namespace Go.Proofs.YtbhfnigblhfikaaGreatDoor
open Go Go.RowKit Go.PlainAid Fil

end Go.Proofs.YtbhfnigblhfikaaGreatDoor

/- The reference of layer 2: Small; of layer 4: around. -/
namespace Go.Proofs.YtbhfnigblhfikaaGreatDoor
open Go Go.RowKit Go.PlainAid Fil

def aX (n : Nat) (q : Int) : Nat := n * 2 ^ (-q).toNat
def aY (d : Nat) (q : Int) : Nat := d * 2 ^ q.toNat
def aM (n d : Nat) (q : Int) : Nat := aX n q / aY d q
theorem aY_pos {d : Nat} (hd : d ≠ 0) (q : Int) : 0 < aY d q := Nat.mul_pos (by omega) (pp _)
/-- the exponent at which the reference stops -/
def AQ (n d : Nat) (q : Int) : Prop := -1074 ≤ q ∧ (-1074 < q → 4503599627370496 ≤ aM n d q) ∧ (q ≤ 971 → aM n d q < 9007199254740992)
def aL (n d : Nat) (q : Int) : Nat := if 971 < q then 9218868437227405311 else (q + 1074).toNat * 4503599627370496 + aM n d q
def aC (n d : Nat) (q : Int) : Int := if 971 < q then 1 else if aX n q % aY d q = 0 then -2 else cmpZ (2 * (aX n q % aY d q)) (aY d q)
def aE (n d : Nat) (q : Int) : Bool := if 971 < q then false else decide (aM n d q % 2 = 0)
end Go.Proofs.YtbhfnigblhfikaaGreatDoor

/- The reference of layer 4: signed, Float, Below, Above; the plain contracts over Rats. -/
namespace Go.Proofs.YtbhfnigblhfikaaGreatDoor
open Go Go.RowKit Go.PlainAid Fil

end Go.Proofs.YtbhfnigblhfikaaGreatDoor

/- math.Frexp of positive floats; Ldexp by 53; the float's whole number. -/
namespace Go.Proofs.YtbhfnigblhfikaaGreatDoor
open Go Go.RowKit Go.PlainAid Fil

theorem ord_sub {x : Nat} (h : x < 4503599627370496) : (FloatKind.f64.format.order (magB x) 4503599627370496 == some .lt) = true := by
  rw [magB_lt (by omega), order_pos (by omega) (by omega), cmp_lt (by omega)]; rfl
theorem mul_52 {r L F y : Nat} (hr : r < 4503599627370496) (hF : F < 4503599627370496) (hL : L < 52) (hv : (4503599627370496 + F) * 2 ^ L = r * 4503599627370496) (hy : y = (L + 1) * 4503599627370496 + F) : floatBits .mul .f64 r 4841369599423283200 = some y := by
  have key : ∀ K : Nat, K = 1074 → mv r * mv ((K + 1) * 4503599627370496 + 0) = mv y * 2 ^ K := fun K _ => by
    rw [mv_parts (by omega), hy, mv_parts hF, mv_small hr, hv, Nat.add_zero, Nat.mul_assoc]
  have k2 := key 1074 rfl
  clear key hv
  exact fmul_ok (M := 1074) rfl (by omega) (by omega) (by omega) k2
theorem normal_sub (r y : Nat) (w : World) (h : r < 4503599627370496) (hm : floatBits .mul .f64 r 4841369599423283200 = some y) : Calls Tryz.prog 102 #[.float .f64 r] w fun e w' => e = .returned (.tuple #[.float .f64 y, .int .i64 (-52)]) ∧ w = w' := by
  have ha := fun W => mabs_any r W (by omega)
  have ho := ord_sub h
  have hmul := fun W => run_float_arith (P := Tryz.prog) W .mul 26 .f64 r 4841369599423283200 y hm
  clear h hm
  go_enter Tryz.func102, Tryz.ntmps102
  go_wp2_with (go_at_call 60; go_must (refine (ha _).mono ?_); rintro r w1 ⟨rfl, rfl⟩)
  go_returns
  exact ⟨rfl, rfl⟩
theorem exp_bitsU (E : Nat) (hE : E < 2048) : bits BinOp.and IntKind.u64 (E : Int) 2047 = (E : Int) := by
  have h := u64_and_nat E 2047 (by omega) (by omega)
  rw [show ((2047 : Nat) : Int) = 2047 from rfl] at h
  rw [h, show 2047 = 2 ^ 11 - 1 by rfl, Nat.and_two_pow_sub_one_eq_mod, Nat.mod_eq_of_lt hE]
theorem half_bits (F : Nat) (hF : F < 4503599627370496) : bits BinOp.or IntKind.u64 (F : Int) 4602678819172646912 = ((1022 * 4503599627370496 + F : Nat) : Int) := by
  have h := pack_bits 1022 F (by omega) hF
  rw [show ((1022 : Nat) : Int) * 4503599627370496 = 4602678819172646912 from rfl] at h
  exact h

set_option maxRecDepth 20000 in
set_option maxHeartbeats 2000000 in
/-- frexp by what normalize gives: y, of exponent E and fraction F, and d -/
theorem frexp_by (x y E F : Nat) (d : Int) (w : World) (hx0 : x ≠ 0) (hx : x < 9218868437227405312) (hy : y = E * 4503599627370496 + F) (hE : E < 2047) (hF : F < 4503599627370496) (hd0 : -100 ≤ d) (hd1 : d ≤ 0)
    (hn : ∀ W, Calls Tryz.prog 102 #[.float .f64 x] W fun e w' => e = .returned (.tuple #[.float .f64 y, .int .i64 d]) ∧ W = w') :
    Calls Tryz.prog 97 #[.float .f64 x] w fun e w' => e = .returned (.tuple #[.float .f64 (1022 * 4503599627370496 + F), .int .i64 (d + (E : Int) - 1022)]) ∧ w = w' := by
  have hi := fun W => isinf_any x W (by omega)
  have hna := fun W => isnan_any x W
  have o0 := ord_zero hx0 hx
  have o1 := ord_big hx
  have o2 := ord_self (x := x) (by omega)
  rw [o1] at hi
  rw [o2] at hna
  have h1 := run_f64bits
  have h2 := run_f64from
  have hd : (y : Int) / 4503599627370496 = (E : Int) := by omega
  have ha := exp_bitsU E (by omega)
  have hf := frac_bits E F y hy (by omega) hF
  have hp := half_bits F hF
  have hE0 : 0 ≤ (E : Int) := by omega
  have hE1 : (E : Int) < 2047 := by omega
  have he : d + ((E : Int) - 1023 + 1) = d + (E : Int) - 1022 := by omega
  have ht : ((1022 * 4503599627370496 + F : Nat) : Int).toNat = 1022 * 4503599627370496 + F := Int.toNat_natCast _
  obtain ⟨z, hz⟩ : ∃ z, z = 1022 * 4503599627370496 + F := ⟨_, rfl⟩
  rw [← hz] at hp ht ⊢
  have hz2 : z < 18446744073709551616 := by omega
  have hy2 : y < 18446744073709551616 := by omega
  have HX := Lib.hid (And.intro hy (And.intro hF (And.intro hz (And.intro hE hx))))
  have HE := Lib.hid he
  obtain ⟨e, hee⟩ : ∃ e, e = d + (E : Int) - 1022 := ⟨_, rfl⟩
  rw [← hee] at he ⊢
  clear hy hF hz hx hx0 o1 o2 HE
  have he2 : e ≤ 2000 := by omega
  have he1 : -2000 ≤ e := by omega
  clear hee
  go_enter Tryz.func97, Tryz.ntmps97
  go_wp2_with (first
    | (go_at_call 34; go_must (refine (hi _).mono ?_); rintro r w1 ⟨rfl, rfl⟩)
    | (go_at_call 38; go_must (refine (hna _).mono ?_); rintro r w1 ⟨rfl, rfl⟩)
    | (go_at_call 102; go_must (refine (hn _).mono ?_); rintro r w1 ⟨rfl, rfl⟩))
  go_returns
  exact ⟨rfl, rfl⟩
/-- Frexp of a positive float's rung -/
theorem mfrexp_any (r : Nat) (h0 : r ≠ 0) (h : r < 9218868437227405312) :
    ∃ (F : Nat) (e : Int), F < 4503599627370496 ∧ -1073 ≤ e ∧ e ≤ 1024 ∧ mv r * 4503599627370496 = (4503599627370496 + F) * 2 ^ (e + 1073).toNat ∧
      ∀ W, Calls Tryz.prog 75 #[.float .f64 r] W fun x w' => x = .returned (.tuple #[.float .f64 (1022 * 4503599627370496 + F), .int .i64 e]) ∧ W = w' := by
  have wrap : ∀ (F : Nat) (e : Int), (∀ W, Calls Tryz.prog 97 #[.float .f64 r] W fun x w' => x = .returned (.tuple #[.float .f64 (1022 * 4503599627370496 + F), .int .i64 e]) ∧ W = w') → ∀ W, Calls Tryz.prog 75 #[.float .f64 r] W fun x w' => x = .returned (.tuple #[.float .f64 (1022 * 4503599627370496 + F), .int .i64 e]) ∧ W = w' := fun F e hm W => by
    generalize 1022 * 4503599627370496 + F = z at *
    clear h h0
    go_enter Tryz.func75, Tryz.ntmps75
    go_wp2_with (go_at_call 97; go_must (refine (hm _).mono ?_); rintro r w1 ⟨rfl, rfl⟩)
    go_returns
    exact ⟨rfl, rfl⟩
  by_cases hs : r < 4503599627370496
  · obtain ⟨L, F, hL, hl, hF, hv, h53⟩ := int_parts h0 (by omega)
    have hL52 : L < 52 := by
      rcases Nat.lt_or_ge L 52 with h | h
      · exact h
      · have h1 : r < 2 ^ 52 := by omega
        have := (Nat.log2_lt h0).2 h1
        omega
    have hm := mul_52 hs hF hL52 hv rfl
    have hn := fun W => normal_sub r _ W hs hm
    have hfr := fun W => frexp_by r ((L + 1) * 4503599627370496 + F) (L + 1) F (-52) W h0 h rfl (by omega) hF (by omega) (by omega) hn
    refine ⟨F, (L : Int) - 1073, hF, by omega, by omega, ?_, wrap _ _ (fun W => ?_)⟩
    · rw [mv_small hs, show ((L : Int) - 1073 + 1073).toNat = L by omega, hv]
    · have := hfr W
      rw [show (-52 : Int) + ((L + 1 : Nat) : Int) - 1022 = (L : Int) - 1073 by omega] at this
      exact this
  · obtain ⟨E, hE⟩ : ∃ E, E = r / 4503599627370496 := ⟨_, rfl⟩
    obtain ⟨F, hF⟩ : ∃ F, F = r % 4503599627370496 := ⟨_, rfl⟩
    have hr : r = E * 4503599627370496 + F := by omega
    have hF2 : F < 4503599627370496 := by omega
    have hn := fun W => normal_any r W (by omega) (ord_norm (x := r) (by omega) h)
    have hfr := fun W => frexp_by r r E F 0 W h0 h hr (by omega) hF2 (by omega) (by omega) hn
    refine ⟨F, (E : Int) - 1022, hF2, by omega, by omega, ?_, wrap _ _ (fun W => ?_)⟩
    · obtain ⟨K, rfl⟩ : ∃ K, E = K + 1 := ⟨E - 1, by omega⟩
      rw [hr, mv_parts hF2, show (((K + 1 : Nat) : Int) - 1022 + 1073).toNat = K + 52 by omega, Nat.pow_add, Nat.mul_assoc, show (2 : Nat) ^ 52 = 4503599627370496 by rfl]
    · have := hfr W
      rw [show (0 : Int) + (E : Int) - 1022 = (E : Int) - 1022 by omega] at this
      exact this
theorem ldexp_53 (F : Nat) (hF : F < 4503599627370496) (w : World) : Calls Tryz.prog 74 #[.float .f64 (1022 * 4503599627370496 + F), .int .i64 53] w fun r w' => r = .returned (.float .f64 (1075 * 4503599627370496 + F)) ∧ w = w' := by
  obtain ⟨x, hx⟩ : ∃ x, x = 1022 * 4503599627370496 + F := ⟨_, rfl⟩
  obtain ⟨y, hy⟩ : ∃ y, y = 1075 * 4503599627370496 + F := ⟨_, rfl⟩
  have h := fun W => ldexp_norm 1022 F 1075 53 52 x y y W hx (by omega) hF (ord_zero (by omega) (by omega)) (ord_big (by omega)) (ord_self (by omega)) (ord_norm (by omega) (by omega)) (by omega) (by omega) (by omega) (by omega) (by omega) (by omega) hy (mul_one_rung (by omega))
  rw [← hx, ← hy]
  clear hx hy hF
  go_enter Tryz.func74, Tryz.ntmps74
  go_wp2_with (go_at_call 95; go_must (refine (h _).mono ?_); rintro r w1 ⟨rfl, rfl⟩)
  go_ret
  exact ⟨rfl, rfl⟩
/-- the whole number of a float from 2^52 to 2^53 -/
theorem whole_53 (F : Nat) (hF : F < 4503599627370496) : floatToIntVal .f64 (1075 * 4503599627370496 + F) .u64 = some (((4503599627370496 + F : Nat) : Int)) := by
  have hr : FloatKind.f64.decode (1075 * 4503599627370496 + F) = .number false (4503599627370496 + F) 0 := by
    show Ieee.double.read _ = _
    unfold Ieee.Format.read
    rw [d_sign, d_binade, d_inf, d_least]
    have e1 : (1075 * 4503599627370496 + F) % 9223372036854775808 = 1075 * 4503599627370496 + F := by omega
    have e2 : (1075 * 4503599627370496 + F) / 9223372036854775808 % 2 = 0 := by omega
    simp only [e1, e2]
    rw [if_neg (by omega), if_pos (by omega)]
    congr 1 <;> omega
  unfold floatToIntVal
  rw [hr]
  generalize hm : 4503599627370496 + F = m at *
  have e : (Ieee.Datum.number false m 0).toInt .zero = some (m : Int) := by
    simp [Ieee.Datum.toInt, Ieee.Datum.integral, Ieee.Toward.cut, Ieee.signed]
  rw [e]
  show (if IntKind.u64.min ≤ (m : Int) ∧ (m : Int) ≤ IntKind.u64.max then some (m : Int) else none) = _
  rw [if_pos ⟨by show (0 : Int) ≤ _; omega, by show _ ≤ (18446744073709551615 : Int); omega⟩]
end Go.Proofs.YtbhfnigblhfikaaGreatDoor

/- wide.Rat's SetFloat64 of finite floats. -/
namespace Go.Proofs.YtbhfnigblhfikaaGreatDoor
open Go Go.RowKit Go.PlainAid Fil

theorem sg_sz' {S : Bool} {M : Nat} (h : S = true → M ≠ 0) : sg (sz S M) = S := by
  cases S
  · unfold sg sz; exact decide_eq_false (by simp)
  · have := h rfl; unfold sg sz; exact decide_eq_true (by simp; omega)
theorem sign_set {w : World} {b M : Nat} {S : Bool} (h : IntAt w b 0 (M : Int)) (hS : S = true → M ≠ 0) : IntAt (w.setCell ⟨b, 0, none⟩ (.bool S)) b 0 (sz S M) ∧ But w (w.setCell ⟨b, 0, none⟩ (.bool S)) b 0 := by
  obtain ⟨cs, t, A, n, c, h1, h2, h3, h4, h5⟩ := h
  have hl := (Array.getElem?_eq_some_iff.1 h3).1
  have e1 : (w.setCell ⟨b, 0, none⟩ (.bool S)).heap[b]? = some (.cells (cs.setIfInBounds 0 (.bool S)) t (0, 0)) := by simp [World.setCell, Array.getElem?_modify, h1]
  refine ⟨⟨cs.setIfInBounds 0 (.bool S), t, A, n, c, e1, h2, ?_, ?_, ?_⟩, ?_⟩
  · rw [Array.getElem?_setIfInBounds, sg_sz' hS]; simp [hl]
  · rw [Array.getElem?_setIfInBounds_ne (by omega)]; exact h4
  · rw [sz_abs]
    rw [Int.natAbs_natCast] at h5
    exact ⟨h5.1, h5.2.1, h5.2.2.setCell (p := ⟨b, 0, none⟩) h1 (fun e => h2 e.symm) _⟩
  · refine ⟨rfl, rfl, rfl, by simp, fun k _ hk => Below.heap_setCell _ _ _ _ hk, ⟨cs, _, t, h1, e1, h2, by simp, fun j hj _ => ?_⟩⟩
    rw [Array.getElem?_setIfInBounds_ne (by omega)]
/-- 2 to the power 1074 (never reckoned out) -/
def P74 : Nat := 2 ^ 1074
theorem P74_eq {K : Nat} (h : K = 1074) : P74 = 2 ^ K := by subst h; rfl
theorem P74_pos : 0 < P74 := by
  obtain ⟨K, hK⟩ : ∃ K, K = 1074 := ⟨_, rfl⟩
  rw [P74_eq hK]; exact pp _
/-- the number of the float of rung r -/
def fRat (N : Bool) (r : Nat) : Rat := Rat.divInt (sz N (mv r)) (P74 : Int)

set_option maxRecDepth 100000 in
set_option maxHeartbeats 4000000 in
theorem rsetfloat_by (b r X Y Z M : Nat) (e : Int) (S : Bool) (z : Rat) (w : World) (hr : RRoom w b) (he0 : -1073 ≤ e) (he1 : e ≤ 1024) (hM : M < 18446744073709551616) (hS : S = true → M ≠ 0)
    (ha : ∀ W, Calls Tryz.prog 60 #[.float .f64 X] W fun x w' => x = .returned (.float .f64 r) ∧ W = w')
    (hf : ∀ W, Calls Tryz.prog 75 #[.float .f64 r] W fun x w' => x = .returned (.tuple #[.float .f64 Y, .int .i64 e]) ∧ W = w')
    (hl : ∀ W, Calls Tryz.prog 74 #[.float .f64 Y, .int .i64 53] W fun x w' => x = .returned (.float .f64 Z) ∧ W = w')
    (hcv : floatToIntVal .f64 Z .u64 = some (M : Int))
    (ho : (FloatKind.f64.format.order X 0 == some .lt) = S)
    (hz1 : 53 ≤ e → z = Rat.divInt (sz S M * 2 ^ (e - 53).toNat) 1) (hz2 : e < 53 → z = Rat.divInt (sz S M) (1 * 2 ^ (53 - e).toNat)) :
    Calls Tryz.prog 49 #[.pointer (some ⟨b, 0, none⟩), .float .f64 X] w fun x w' => x = .returned (.pointer (some ⟨b, 0, none⟩)) ∧ RatAt w' b z ∧ Far w w' b := by
  have hconv := fun W => run_convert_float_int (P := Tryz.prog) W 26 25 .f64 .u64 Z (M : Int) (by rw [Tryz.underlying26]; rfl) Tryz.underlying25 hcv
  have hM32 : Fil.dn 32 M ≤ 2 := dn_le (by omega) (by omega)
  have lb := hr.lt
  have I0 := IntAt.zero w
  have hb := (Below.refl w.heap.size w).alloc (Nat.le_refl _) (.cells #[.bool false, .slice none 0 0] 58)
  have hr1 := hr.alloc (.cells #[.bool false, .slice none 0 0] 58)
  have HR := Lib.hid hr
  have HS := Lib.hid (And.intro hS (And.intro hz1 (And.intro hz2 hM32)))
  have HM := Lib.hid hM
  clear hr hS hz1 hz2 hM32 hcv hM
  go_enter Tryz.func49, Tryz.ntmps49
  go_wp2_with fail
  refine (ha _).mono ?_
  rintro r1 w1 ⟨rfl, rfl⟩
  clear ha
  go_wp2_with fail
  refine (hf _).mono ?_
  rintro r1 w1 ⟨rfl, rfl⟩
  clear hf
  go_wp2_with fail
  refine (hl _).mono ?_
  rintro r1 w1 ⟨rfl, rfl⟩
  clear hl
  generalize hv0 : w.alloc (.cells #[.bool false, .slice none 0 0] 58) = v0 at *
  go_wp2_with fail
  refine (setu_any w.heap.size 0 M _ I0.room HM.out).mono ?_
  rintro r1 w2 ⟨rfl, I1, hB⟩
  replace hr1 := hr1.but hB (Nat.ne_of_lt lb)
  replace hb := hb.trans (hB.below (Nat.le_refl _) hb.size)
  clear hB I0 hconv hv0
  obtain ⟨I2, hB2⟩ := sign_set I1 HS.out.1
  have hr2 := hr1.but hB2 (Nat.ne_of_lt lb)
  have hb2 := hb.trans (hB2.below (Nat.le_refl _) hb.size)
  have HV := Lib.hid (And.intro I2 (And.intro hr2 hb2))
  clear hB2 I2 hr2 hb2
  obtain ⟨A, n, c, c0, c1, D⟩ := I1.cells
  obtain ⟨u, v, _, _, f0, f1⟩ := I1.room.cells
  have hn : S = true → 0 < n := fun h => by
    have := HS.out.1 h
    rw [D.1, Int.natAbs_natCast]
    exact dn_pos this
  have hDn := D.1
  clear D hr1 hb I1
  have e53 : IntKind.i64.wrap (e - 53) = e - 53 := IntWalk.i64_in _ ⟨by omega, by omega⟩
  go_upto_region 3 with fail
  go_cut [] (fun wx => IntAt wx w.heap.size 0 (sz S M) ∧ RRoom wx b ∧ Below w.heap.size w wx)
  case first =>
    cases S
    · go_wp2_with fail
      go_meet
      exact HV.out
    · have hn0 := hn rfl
      have hn1 : (0 : Int) < (n : Int) := by omega
      clear hn hDn
      go_wp2_with fail
      go_meet
      exact HV.out
  case rest =>
    clear c0 c1 f0 f1 hn hDn HV ho
    obtain ⟨I1, hr1, hb⟩ := hcut
    generalize wc = v1 at *
    have hP32 : Fil.dn 32 (sz S M).natAbs ≤ 2 := by rw [sz_abs]; exact HS.out.2.2.2
    obtain ⟨p, hp⟩ : ∃ p, p = sz S M := ⟨_, rfl⟩
    rw [← hp] at I1 hP32 HS
    clear hp
    by_cases hge : 53 ≤ e
    · obtain ⟨k, hk⟩ : ∃ k : Nat, e - 53 = (k : Int) := ⟨(e - 53).toNat, by omega⟩
      have hzz := HS.out.2.1 hge
      rw [hk, Int.toNat_natCast] at hzz
      rw [hk] at e53
      have k0 : (0 : Int) ≤ (k : Int) := by omega
      have hwr : IntKind.u64.wrap (k : Int) = (k : Int) := IntWalk.u64_in _ ⟨by omega, by omega⟩
      have hk1 : k ≤ 1000 := by omega
      have Hz := Lib.hid hzz
      have hd8 : Hid (Fil.dn 32 (p * 2 ^ k).natAbs ≤ 1002) := Lib.hid (by
        rw [Int.natAbs_mul, show ((2 : Int) ^ k).natAbs = 2 ^ k by rw [Int.natAbs_pow]; rfl]
        exact Nat.le_trans (dn_shift hP32) (by omega))
      clear hzz
      go_wp2_with fail
      refine (lsh_any w.heap.size 0 w.heap.size 0 k p v1 I1.room I1 (by omega) (by omega)).mono ?_
      rintro r1 w3 ⟨rfl, I3, hB⟩
      have hr3 := hr1.but hB (Nat.ne_of_lt lb)
      have hb3 := hb.trans (hB.below (Nat.le_refl _) hb.size)
      clear hB I1 hr1 hb
      go_wp2_with fail
      refine (ratsetint_any b w.heap.size (p * 2 ^ k) w3 hr3 I3 (Nat.ne_of_gt lb) (Nat.le_trans hd8.out (by omega))).mono ?_
      rintro r1 w4 ⟨rfl, R4, hF⟩
      go_wp2
      go_ret
      exact ⟨rfl, by rw [Hz.out]; exact R4, Far.after hb3 hF HR.out⟩
    · obtain ⟨k, hk⟩ : ∃ k : Nat, 53 - e = (k : Int) := ⟨(53 - e).toNat, by omega⟩
      have hzz := HS.out.2.2.1 (by omega)
      rw [hk, Int.toNat_natCast] at hzz
      have ek : e - 53 = -(k : Int) := by omega
      rw [ek] at e53
      have k0 : ¬ (0 : Int) ≤ -(k : Int) := by omega
      have hkp : 0 < k := by omega
      have hng : -(-(k : Int)) = (k : Int) := by omega
      have hwr : IntKind.u64.wrap (k : Int) = (k : Int) := IntWalk.u64_in _ ⟨by omega, by omega⟩
      have hk1 : k ≤ 1200 := by omega
      have Hz := Lib.hid hzz
      have hd8 : Hid (Fil.dn 32 ((1 : Int) * 2 ^ k).natAbs ≤ 1202) := Lib.hid (by
        rw [Int.natAbs_mul, show ((2 : Int) ^ k).natAbs = 2 ^ k by rw [Int.natAbs_pow]; rfl]
        exact Nat.le_trans (dn_shift (m := 1) (by decide)) (by omega))
      have hq0 : Hid ((1 : Int) * 2 ^ k ≠ 0) := Lib.hid (by
        rw [Int.one_mul]; exact Int.pow_ne_zero (by decide))
      have hw2 := fun W => newint_any 1 W (by omega) (by omega)
      have I4 := IntAt.zero v1
      have lI := I1.lt
      have lr := hr1.lt
      have hbs := hb.size
      replace I1 := I1.alloc (.cells #[.bool false, .slice none 0 0] 58)
      replace hr1 := hr1.alloc (.cells #[.bool false, .slice none 0 0] 58)
      replace hb := hb.alloc hb.size (.cells #[.bool false, .slice none 0 0] 58)
      clear hzz hge
      go_wp2_with fail
      generalize v1.alloc (.cells #[.bool false, .slice none 0 0] 58) = v2 at *
      have n0 : w.heap.size ≠ v1.heap.size := by omega
      have nb : b ≠ v1.heap.size := by omega
      obtain ⟨B2, hB2⟩ : ∃ B2, B2 = v1.heap.size := ⟨_, rfl⟩
      rw [← hB2] at I4 n0 nb hbs ⊢
      clear hB2
      refine (hw2 _).mono ?_
      rintro r1 w3 ⟨rfl, I5, hB⟩
      have l4 := I4.lt
      replace I1 := I1.below hB
      replace I4 := I4.below hB
      replace hr1 := hr1.below hB
      replace hb := hb.trans (hB.mono hb.size)
      have n5 : v2.heap.size ≠ B2 := by omega
      have HN := Lib.hid (And.intro n0 (And.intro nb (And.intro hbs n5)))
      clear hB hw2 n0 nb hbs n5 l4 lI lr
      go_wp2_with fail
      refine (lsh_any B2 0 v2.heap.size 0 k 1 w3 I4.room I5 (by decide) (by omega)).mono ?_
      rintro r1 w4 ⟨rfl, I6, hB⟩
      replace I1 := I1.but hB (.inl HN.out.1)
      replace hr1 := hr1.but hB HN.out.2.1
      replace hb := hb.trans (hB.below HN.out.2.2.1 hb.size)
      clear hB I4 I5
      go_wp2_with fail
      refine (norm_any b w.heap.size 0 B2 0 p (1 * 2 ^ k) w4 hr1 I1 I6 (Nat.ne_of_gt lb) (Ne.symm HN.out.2.1) hq0.out (by omega) (Nat.le_trans hd8.out (by omega))).mono ?_
      rintro r1 w5 ⟨rfl, R5, hF⟩
      go_wp2
      go_ret
      exact ⟨rfl, by rw [Hz.out]; exact R5, Far.after hb hF HR.out⟩

theorem ord_lt0 {N : Bool} {r : Nat} (h : r < 9218868437227405312) : (FloatKind.f64.format.order (Ieee.double.word N r) 0 == some .lt) = (N && decide (r ≠ 0)) := by
  have hw : fr (Ieee.double.word N r) = r ∧ fs (Ieee.double.word N r) = N := by
    cases N
    · rw [d_word_f]; exact ⟨fr_lt (by omega), fs_lt (by omega)⟩
    · rw [d_word_t]; unfold fr fs; exact ⟨by omega, by rw [show (9223372036854775808 + r) / 9223372036854775808 = 1 by omega]; rfl⟩
  rw [f64_double, order_some (by rw [hw.1]; omega) (by decide)]
  have hk : fk (Ieee.double.word N r) = if N then -(r : Int) else r := by unfold fk; rw [hw.1, hw.2]
  rw [hk, show fk 0 = 0 from rfl]
  by_cases h0 : r = 0
  · subst h0; cases N <;> rfl
  · cases N
    · rw [if_neg (by decide), cmp_gt (by omega)]; rfl
    · rw [if_pos rfl, cmp_lt (by omega), decide_eq_true h0]; rfl
theorem word_lt {N : Bool} {r : Nat} (h : r < 9223372036854775808) : Ieee.double.word N r < 18446744073709551616 := by cases N; rw [d_word_f]; omega; rw [d_word_t]; omega
theorem word_mag {N : Bool} {r : Nat} (h : r < 9223372036854775808) : magB (Ieee.double.word N r) = r := by unfold magB; cases N; rw [d_word_f]; omega; rw [d_word_t]; omega
set_option maxHeartbeats 2000000 in
theorem mldexp_zero (w : World) : Calls Tryz.prog 74 #[.float .f64 0, .int .i64 53] w fun x w' => x = .returned (.float .f64 0) ∧ w = w' := by
  have h : ∀ W, Calls Tryz.prog 95 #[.float .f64 0, .int .i64 53] W fun x w' => x = .returned (.float .f64 0) ∧ W = w' := fun W => by
    have o0 : (FloatKind.f64.format.order 0 0 == some .eq) = true := by kernel_rfl
    go_enter Tryz.func95, Tryz.ntmps95
    go_wp2
    go_ret
    exact ⟨rfl, rfl⟩
  go_enter Tryz.func74, Tryz.ntmps74
  go_wp2_with (go_at_call 95; go_must (refine (h _).mono ?_); rintro r w1 ⟨rfl, rfl⟩)
  go_ret
  exact ⟨rfl, rfl⟩
set_option maxHeartbeats 2000000 in
theorem mfrexp_zero (w : World) : Calls Tryz.prog 75 #[.float .f64 0] w fun x w' => x = .returned (.tuple #[.float .f64 0, .int .i64 0]) ∧ w = w' := by
  have h : ∀ W, Calls Tryz.prog 97 #[.float .f64 0] W fun x w' => x = .returned (.tuple #[.float .f64 0, .int .i64 0]) ∧ W = w' := fun W => by
    have o0 : (FloatKind.f64.format.order 0 0 == some .eq) = true := by kernel_rfl
    go_enter Tryz.func97, Tryz.ntmps97
    go_wp2
    go_returns
    exact ⟨rfl, rfl⟩
  go_enter Tryz.func75, Tryz.ntmps75
  go_wp2_with (go_at_call 97; go_must (refine (h _).mono ?_); rintro r w1 ⟨rfl, rfl⟩)
  go_returns
  exact ⟨rfl, rfl⟩
theorem divInt_cross {a b c d : Int} (hb : b ≠ 0) (hd : d ≠ 0) (h : a * d = c * b) : Rat.divInt a b = Rat.divInt c d := (Rat.divInt_eq_divInt_iff hb hd).2 h
theorem sz_pow (S : Bool) (M k : Nat) : sz S M * (2 : Int) ^ k = sz S (M * 2 ^ k) := by cases S <;> simp [sz, Int.neg_mul]
theorem rsetfloat_any (b : Nat) (N : Bool) (r : Nat) (w : World) (hr : RRoom w b) (h : r < 9218868437227405312) :
    Calls Tryz.prog 49 #[.pointer (some ⟨b, 0, none⟩), .float .f64 (Ieee.double.word N r)] w fun x w' => x = .returned (.pointer (some ⟨b, 0, none⟩)) ∧ RatAt w' b (fRat N r) ∧ Far w w' b := by
  have ha := fun W => mabs_any (Ieee.double.word N r) W (word_lt (by omega))
  rw [word_mag (by omega)] at ha
  have hP0 : (P74 : Int) ≠ 0 := by have := P74_pos; omega
  by_cases h0 : r = 0
  · subst h0
    refine rsetfloat_by b 0 _ 0 0 0 0 false _ w hr (by omega) (by omega) (by omega) (by simp) ha (fun W => mfrexp_zero W) (fun W => mldexp_zero W) (by kernel_rfl) (by rw [ord_lt0 (by omega)]; simp) (fun h => by omega) (fun _ => ?_)
    unfold fRat
    rw [mv_zero, sz_zero, Rat.zero_divInt, show sz false 0 = 0 from rfl, Rat.zero_divInt]
  · obtain ⟨F, e, hF, he0, he1, hv, hfr⟩ := mfrexp_any r h0 h
    refine rsetfloat_by b r _ _ _ (4503599627370496 + F) e N _ w hr he0 he1 (by omega) (fun _ => by omega) ha hfr (fun W => ldexp_53 F hF W) (whole_53 F hF) (by rw [ord_lt0 h, decide_eq_true h0, Bool.and_true]) (fun hg => ?_) (fun hl => ?_)
    · unfold fRat
      obtain ⟨k, hk⟩ : ∃ k : Nat, e - 53 = (k : Int) := ⟨(e - 53).toNat, by omega⟩
      rw [hk, Int.toNat_natCast]
      refine divInt_cross hP0 (by decide) ?_
      obtain ⟨K, hK⟩ : ∃ K, K = 1074 := ⟨_, rfl⟩
      rw [P74_eq hK, Int.mul_one, Int.natCast_pow, show ((2 : Nat) : Int) = 2 from rfl, Int.mul_assoc, ← Int.pow_add, sz_pow]
      congr 1
      refine Nat.eq_of_mul_eq_mul_right (show 0 < 4503599627370496 by decide) ?_
      rw [hv, Nat.mul_assoc, show (4503599627370496 : Nat) = 2 ^ 52 by rfl, ← Nat.pow_add]
      congr 2; omega
    · unfold fRat
      obtain ⟨k, hk⟩ : ∃ k : Nat, 53 - e = (k : Int) := ⟨(53 - e).toNat, by omega⟩
      rw [hk, Int.toNat_natCast, Int.one_mul]
      refine divInt_cross hP0 (Int.pow_ne_zero (by decide)) ?_
      obtain ⟨K, hK⟩ : ∃ K, K = 1074 := ⟨_, rfl⟩
      rw [P74_eq hK, Int.natCast_pow, show ((2 : Nat) : Int) = 2 from rfl, sz_pow, sz_pow]
      congr 1
      refine Nat.eq_of_mul_eq_mul_right (show 0 < 4503599627370496 by decide) ?_
      rw [Nat.mul_right_comm, hv, Nat.mul_assoc, Nat.mul_assoc, show (4503599627370496 : Nat) = 2 ^ 52 by rfl, ← Nat.pow_add, ← Nat.pow_add]
      congr 2; omega
end Go.Proofs.YtbhfnigblhfikaaGreatDoor

/- bits.Up, bits.Down; ratio.against. -/
namespace Go.Proofs.YtbhfnigblhfikaaGreatDoor
open Go Go.RowKit Go.PlainAid Fil

theorem word_parts {N : Bool} {R : Nat} (h : R < 9223372036854775808) : fr (Ieee.double.word N R) = R ∧ fs (Ieee.double.word N R) = N := by
  cases N
  · rw [d_word_f]; exact ⟨fr_lt h, fs_lt h⟩
  · rw [d_word_t]; unfold fr fs; exact ⟨by omega, by rw [show (9223372036854775808 + R) / 9223372036854775808 = 1 by omega]; rfl⟩
theorem ord_word_self {N : Bool} {R : Nat} (h : R ≤ 9218868437227405312) : (FloatKind.f64.format.order (Ieee.double.word N R) (Ieee.double.word N R) != some .eq) = false := by
  have hw := word_parts (N := N) (R := R) (by omega)
  rw [f64_double, order_some (by rw [hw.1]; exact h) (by rw [hw.1]; exact h)]
  simp [compare, compareOfLessAndEq]
theorem ord_mag_max {R : Nat} (h : R ≤ 9218868437227405312) : (FloatKind.f64.format.order R 9218868437227405311 == some .gt) = decide (R = 9218868437227405312) := by
  rw [order_pos h (by omega)]
  by_cases e : R = 9218868437227405312
  · rw [decide_eq_true e, cmp_gt (by omega)]; rfl
  · rw [decide_eq_false e]
    rcases Nat.lt_or_ge R 9218868437227405311 with h1 | h1
    · rw [cmp_lt (by omega)]; rfl
    · rw [show R = 9218868437227405311 by omega]; rfl
theorem isinf0 (N : Bool) (R : Nat) (w : World) (h : R ≤ 9218868437227405312) : Calls Tryz.prog 34 #[.float .f64 (Ieee.double.word N R), .int .i64 0] w fun r w' => r = .returned (.bool (decide (R = 9218868437227405312))) ∧ w = w' := by
  have := isinf_any (Ieee.double.word N R) w (word_lt (by omega))
  rw [word_mag (by omega), ord_mag_max h] at this
  exact this
set_option maxHeartbeats 1000000 in
theorem isinf1 (N : Bool) (R : Nat) (w : World) (h : R ≤ 9218868437227405312) (hN : N = true ∨ R < 9218868437227405312) : Calls Tryz.prog 34 #[.float .f64 (Ieee.double.word N R), .int .i64 1] w fun r w' => r = .returned (.bool false) ∧ w = w' := by
  have hw := word_parts (N := N) (R := R) (by omega)
  have ho : (FloatKind.f64.format.order (Ieee.double.word N R) 9218868437227405311 == some .gt) = false := by
    rw [f64_double, order_some (by rw [hw.1]; exact h) (by decide)]
    have hk : fk (Ieee.double.word N R) = if N then -(R : Int) else R := by unfold fk; rw [hw.1, hw.2]
    rw [hk, show fk 9218868437227405311 = 9218868437227405311 by decide]
    cases N
    · have : R < 9218868437227405312 := by rcases hN with h | h; exact absurd h (by decide); exact h
      rw [if_neg (by decide)]
      rcases Nat.lt_or_ge R 9218868437227405311 with h1 | h1
      · rw [cmp_lt (by omega)]; rfl
      · rw [show R = 9218868437227405311 by omega]; rfl
    · rw [if_pos rfl, cmp_lt (by omega)]; rfl
  generalize Ieee.double.word N R = X at *
  clear h hN hw
  go_enter Tryz.func34, Tryz.ntmps34
  go_wp2
  go_ret
  exact ⟨rfl, rfl⟩
theorem neg_word {N : Bool} {R : Nat} (h : R < 9223372036854775808) : Op.negFloat .f64 (Ieee.double.word N R) = Ieee.double.word (!N) R := by
  unfold Op.negFloat
  rw [show FloatKind.f64.format.exponentBits + FloatKind.f64.format.fractionBits = 63 from rfl]
  cases N
  · rw [d_word_f, show (!false) = true from rfl, d_word_t, xor_top2 (s := 63) h]
  · rw [d_word_t, show (!true) = false from rfl, d_word_f, show 9223372036854775808 + R = R ^^^ 2 ^ 63 by rw [xor_top2 (s := 63) h], Nat.xor_assoc, Nat.xor_self, Nat.xor_zero]
set_option maxHeartbeats 1000000 in
theorem isinfm (N : Bool) (R : Nat) (w : World) (h : R ≤ 9218868437227405312) (hN : N = false ∨ R < 9218868437227405312) : Calls Tryz.prog 34 #[.float .f64 (Ieee.double.word N R), .int .i64 (-1)] w fun r w' => r = .returned (.bool false) ∧ w = w' := by
  have hng : ∀ W, (Op.unary UnOp.neg (.float .f64 (Ieee.double.word N R))).run Tryz.prog W = .ok (.float .f64 (Ieee.double.word (!N) R)) W := fun W => by
    rw [← neg_word (by omega)]; rfl
  have hw := word_parts (N := !N) (R := R) (by omega)
  have ho : (FloatKind.f64.format.order (Ieee.double.word (!N) R) 9218868437227405311 == some .gt) = false := by
    rw [f64_double, order_some (by rw [hw.1]; exact h) (by decide)]
    have hk : fk (Ieee.double.word (!N) R) = if (!N) then -(R : Int) else R := by unfold fk; rw [hw.1, hw.2]
    rw [hk, show fk 9218868437227405311 = 9218868437227405311 by decide]
    cases N
    · rw [show (!false) = true from rfl, if_pos rfl, cmp_lt (by omega)]; rfl
    · rw [show (!true) = false from rfl]
      have : R < 9218868437227405312 := by rcases hN with h | h; exact absurd h (by decide); exact h
      rw [if_neg (by decide)]
      rcases Nat.lt_or_ge R 9218868437227405311 with h1 | h1
      · rw [cmp_lt (by omega)]; rfl
      · rw [show R = 9218868437227405311 by omega]; rfl
  generalize Ieee.double.word (!N) R = Y at *
  generalize Ieee.double.word N R = X at *
  clear h hN hw
  go_enter Tryz.func34, Tryz.ntmps34
  go_wp2
  go_ret
  exact ⟨rfl, rfl⟩
theorem sign_bits (N : Bool) {R : Nat} (h : R < 9223372036854775808) : bits BinOp.and IntKind.u64 ((Ieee.double.word N R : Nat) : Int) 9223372036854775808 = if N then 9223372036854775808 else 0 := by
  have h1 := u64_and_nat (Ieee.double.word N R) 9223372036854775808 (word_lt h) (by omega)
  rw [show ((9223372036854775808 : Nat) : Int) = 9223372036854775808 from rfl] at h1
  rw [h1]
  have e : Ieee.double.word N R &&& 9223372036854775808 = if N then 9223372036854775808 else 0 := by
    apply Nat.eq_of_testBit_eq
    intro i
    rw [Nat.testBit_and, show (9223372036854775808 : Nat) = 2 ^ 63 by rfl, Nat.testBit_two_pow]
    by_cases hi : 63 = i
    · subst hi
      rw [decide_eq_true rfl, Bool.and_true]
      cases N
      · rw [d_word_f, Nat.testBit_lt_two_pow (by omega)]; rfl
      · rw [d_word_t, if_pos rfl, show (9223372036854775808 : Nat) + R = 2 ^ 63 + R by rfl, Nat.testBit_two_pow_add_eq, Nat.testBit_lt_two_pow (by omega), Nat.testBit_two_pow, decide_eq_true rfl]; rfl
    · rw [decide_eq_false hi, Bool.and_false]
      cases N
      · rw [if_neg (by decide), Nat.zero_testBit]
      · rw [if_pos rfl, Nat.testBit_two_pow, decide_eq_false hi]
  rw [e]; cases N <;> rfl
/-- the float above -/
def upW (N : Bool) (R : Nat) : Nat := if R = 0 then 1 else if N then Ieee.double.word true (R - 1) else R + 1
/-- the float below -/
def dnW (N : Bool) (R : Nat) : Nat := if R = 0 then 9223372036854775809 else if N then Ieee.double.word true (R + 1) else R - 1
set_option maxRecDepth 100000 in
set_option maxHeartbeats 2000000 in
theorem bup_any (N : Bool) (R : Nat) (w : World) (h : R ≤ 9218868437227405312) (hN : N = true ∨ R < 9218868437227405312) : Calls Tryz.prog 15 #[.float .f64 (Ieee.double.word N R)] w fun r w' => r = .returned (.float .f64 (upW N R)) ∧ w = w' := by
  have hi := fun W => isinf1 N R W h hN
  have o1 := ord_word_self (N := N) h
  have oz := ord_word0 N h
  have hs := sign_bits N (R := R) (by omega)
  have h1 := run_f64bits
  have h2 := run_f64from
  have hlt := word_lt (N := N) (r := R) (by omega)
  by_cases h0 : R = 0
  · have e : upW N R = 1 := by unfold upW; rw [if_pos h0]
    rw [e]
    rw [show (R == 0) = true by rw [h0]; rfl] at oz
    generalize Ieee.double.word N R = X at *
    clear h0 e hs hN h
    go_enter Tryz.func15, Tryz.ntmps15
    go_wp2_with (go_at_call 34; go_must (refine (hi _).mono ?_); rintro r w1 ⟨rfl, rfl⟩)
    go_ret
    exact ⟨rfl, rfl⟩
  · rw [show (R == 0) = false from beq_eq_false_iff_ne.2 h0] at oz
    cases N
    · have e : upW false R = R + 1 := by unfold upW; rw [if_neg h0]; rfl
      rw [e]
      have hR : R < 9218868437227405312 := by rcases hN with h | h; exact absurd h (by decide); exact h
      rw [d_word_f, if_neg (by decide)] at hs
      rw [d_word_f] at hi o1 oz hlt ⊢
      have hw : IntKind.u64.wrap ((R : Int) + 1) = ((R + 1 : Nat) : Int) := by rw [IntWalk.u64_in _ ⟨by omega, by omega⟩]; omega
      have ht : ((R + 1 : Nat) : Int).toNat = R + 1 := Int.toNat_natCast _
      obtain ⟨Q, hQ⟩ : ∃ Q, Q = R + 1 := ⟨_, rfl⟩
      have hQi : (R : Int) + 1 = (Q : Int) := by omega
      rw [← hQ] at hw ht ⊢
      have hQ2 : Q < 18446744073709551616 := by omega
      clear h0 e h hN hR hQ
      go_enter Tryz.func15, Tryz.ntmps15
      go_wp2_with (go_at_call 34; go_must (refine (hi _).mono ?_); rintro r w1 ⟨rfl, rfl⟩)
      go_ret
      exact ⟨rfl, rfl⟩
    · have e : upW true R = Ieee.double.word true (R - 1) := by unfold upW; rw [if_neg h0]; rfl
      rw [e]
      rw [if_pos rfl] at hs
      obtain ⟨X, hX⟩ : ∃ X, X = Ieee.double.word true R := ⟨_, rfl⟩
      obtain ⟨Q, hQ⟩ : ∃ Q, Q = Ieee.double.word true (R - 1) := ⟨_, rfl⟩
      have hQX : X = Q + 1 := by rw [hX, hQ, d_word_t, d_word_t]; omega
      rw [← hX] at hi o1 oz hs hlt ⊢
      rw [← hQ]
      have hQi : (X : Int) - 1 = (Q : Int) := by omega
      have hQ2 : Q < 18446744073709551616 := by omega
      clear h0 e h hN hX hQ hQX
      go_enter Tryz.func15, Tryz.ntmps15
      go_wp2_with (go_at_call 34; go_must (refine (hi _).mono ?_); rintro r w1 ⟨rfl, rfl⟩)
      go_ret
      exact ⟨rfl, rfl⟩
set_option maxRecDepth 100000 in
set_option maxHeartbeats 2000000 in
theorem bdown_any (N : Bool) (R : Nat) (w : World) (h : R ≤ 9218868437227405312) (hN : N = false ∨ R < 9218868437227405312) : Calls Tryz.prog 24 #[.float .f64 (Ieee.double.word N R)] w fun r w' => r = .returned (.float .f64 (dnW N R)) ∧ w = w' := by
  have hi := fun W => isinfm N R W h hN
  have o1 := ord_word_self (N := N) h
  have oz := ord_word0 N h
  have hs := sign_bits N (R := R) (by omega)
  have h1 := run_f64bits
  have h2 := run_f64from
  have hlt := word_lt (N := N) (r := R) (by omega)
  by_cases h0 : R = 0
  · have e : dnW N R = 9223372036854775809 := by unfold dnW; rw [if_pos h0]
    rw [e]
    rw [show (R == 0) = true by rw [h0]; rfl] at oz
    generalize Ieee.double.word N R = X at *
    clear h0 e hs hN h
    go_enter Tryz.func24, Tryz.ntmps24
    go_wp2_with (go_at_call 34; go_must (refine (hi _).mono ?_); rintro r w1 ⟨rfl, rfl⟩)
    go_ret
    exact ⟨rfl, rfl⟩
  · rw [show (R == 0) = false from beq_eq_false_iff_ne.2 h0] at oz
    cases N
    · have e : dnW false R = R - 1 := by unfold dnW; rw [if_neg h0]; rfl
      rw [e]
      rw [d_word_f, if_neg (by decide)] at hs
      rw [d_word_f] at hi o1 oz hlt ⊢
      obtain ⟨Q, hQ⟩ : ∃ Q, Q = R - 1 := ⟨_, rfl⟩
      have hQi : (R : Int) - 1 = (Q : Int) := by omega
      rw [← hQ]
      have hQ2 : Q < 18446744073709551616 := by omega
      clear h0 e h hN hQ
      go_enter Tryz.func24, Tryz.ntmps24
      go_wp2_with (go_at_call 34; go_must (refine (hi _).mono ?_); rintro r w1 ⟨rfl, rfl⟩)
      go_ret
      exact ⟨rfl, rfl⟩
    · have e : dnW true R = Ieee.double.word true (R + 1) := by unfold dnW; rw [if_neg h0]; rfl
      rw [e]
      have hR : R < 9218868437227405312 := by rcases hN with h | h; exact absurd h (by decide); exact h
      rw [if_pos rfl] at hs
      obtain ⟨X, hX⟩ : ∃ X, X = Ieee.double.word true R := ⟨_, rfl⟩
      obtain ⟨Q, hQ⟩ : ∃ Q, Q = Ieee.double.word true (R + 1) := ⟨_, rfl⟩
      have hQX : Q = X + 1 := by rw [hX, hQ, d_word_t, d_word_t]; omega
      have hQ2 : Q < 18446744073709551616 := by rw [hQ, d_word_t]; omega
      rw [← hX] at hi o1 oz hs hlt ⊢
      rw [← hQ]
      have hQi : (X : Int) + 1 = (Q : Int) := by omega
      clear h0 e h hN hX hQ hQX hR
      go_enter Tryz.func24, Tryz.ntmps24
      go_wp2_with (go_at_call 34; go_must (refine (hi _).mono ?_); rintro r w1 ⟨rfl, rfl⟩)
      go_ret
      exact ⟨rfl, rfl⟩
end Go.Proofs.YtbhfnigblhfikaaGreatDoor

/- Ldexp beyond the floats; Rat.Float64, ratio.Float of any ratio. -/
namespace Go.Proofs.YtbhfnigblhfikaaGreatDoor
open Go Go.RowKit Go.PlainAid Fil

set_option maxRecDepth 20000 in
set_option maxHeartbeats 2000000 in
theorem ldexp_infty (E F : Nat) (e : Int) (x : Nat) (w : World) (hx : x = E * 4503599627370496 + F) (hE : E < 2047) (hE1 : 1 ≤ E) (hF : F < 4503599627370496)
    (he1 : 0 ≤ e) (he2 : e ≤ 100000000000) (hk : 1023 < e + (E - 1023)) :
    Calls Tryz.prog 95 #[.float .f64 x, .int .i64 e] w fun r w' => r = .returned (.float .f64 9218868437227405312) ∧ w = w' := by
  have hxb : x < 18446744073709551616 := by omega
  have o0 := ord_zero (x := x) (by omega) (by omega)
  have hi := fun W => isinf_any x W hxb
  have hn := fun W => isnan_any x W
  have hm := fun W => normal_any x W hxb (ord_norm (by omega) (by omega))
  rw [ord_big (by omega)] at hi
  rw [ord_self (by omega)] at hn
  have h1 := run_f64bits
  have h2 := run_f64from
  have hE0 : 0 ≤ (E : Int) := by omega
  have hE2 : (E : Int) < 2047 := by omega
  have hd : (x : Int) / 4503599627370496 = (E : Int) := by omega
  have ha := exp_bits E (by omega)
  have o4 : (FloatKind.f64.format.order x 0 == some .lt) = false := by
    rw [order_pos (by omega) (by omega), cmp_gt (by omega)]; rfl
  obtain ⟨k, hk'⟩ : ∃ k, e + ((E : Int) - 1023) = k := ⟨_, rfl⟩
  rw [hk'] at hk
  have hk2 : k ≤ 100000002000 := by omega
  have Hx := Lib.hid (And.intro hx (And.intro hF (And.intro hE hE1)))
  clear hx hxb hF hE hE1
  go_enter Tryz.func95, Tryz.ntmps95
  go_wp2_with (first
    | (go_at_call 34; go_must (refine (hi _).mono ?_); rintro r w1 ⟨rfl, rfl⟩)
    | (go_at_call 38; go_must (refine (hn _).mono ?_); rintro r w1 ⟨rfl, rfl⟩)
    | (go_at_call 103; go_must (refine (minf_pos _).mono ?_); rintro r w1 ⟨rfl, rfl⟩)
    | (go_at_call 102; go_must (refine (hm _).mono ?_); rintro r w1 ⟨rfl, rfl⟩))
  go_ret
  exact ⟨rfl, rfl⟩
theorem mldexp_big (m : Nat) (q : Int) (w : World) (hm1 : 4503599627370496 ≤ m) (hm : m ≤ 9007199254740992) (hq0 : 972 ≤ q) (hq1 : q ≤ 100000000000) :
    Calls Tryz.prog 74 #[.float .f64 (floatOfInt .f64 (m : Int)), .int .i64 q] w fun r w' => r = .returned (.float .f64 9218868437227405312) ∧ w = w' := by
  have h0 : m ≠ 0 := by omega
  obtain ⟨L, F, hL, hl, hF, hv, h53⟩ := int_parts h0 hm
  have hf : floatOfInt .f64 (m : Int) = (L + 1023) * 4503599627370496 + F := by
    rw [← float_int hL hF hv]
    show Ieee.double.nearest (decide ((m : Int) < 0)) (m : Int).natAbs 0 = _
    rw [decide_eq_false (by omega), Int.natAbs_natCast]
  have h52 : 52 ≤ L := by rw [hl]; exact (Nat.le_log2 h0).2 hm1
  have h := fun W => ldexp_infty (L + 1023) F q _ W hf (by omega) (by omega) hF (by omega) hq1 (by omega)
  generalize floatOfInt .f64 (m : Int) = x at *
  clear hm hm1 hf hv h53 hl
  go_enter Tryz.func74, Tryz.ntmps74
  go_wp2_with (go_at_call 95; go_must (refine (h _).mono ?_); rintro r w1 ⟨rfl, rfl⟩)
  go_ret
  exact ⟨rfl, rfl⟩
theorem fE_le {n d : Nat} (hn : n ≠ 0) (hd : d ≠ 0) : tpI (fV n d) (fE n d) ≤ bl n + 1 := by
  have h1 := fQ_hi (n := n) hd
  have h2 := fQ_lo hn hd
  have h3 : (fV n d).log2 = (fQ n d).log2 + 1 := tl_log (by omega) (fT_le n d)
  have h4 : (fQ n d).log2 < 61 := (Nat.log2_lt (by omega)).2 (by rw [show (2 : Nat) ^ 61 = 2305843009213693952 by rfl]; exact h1)
  unfold tpI fE fS
  rw [h3]
  omega
theorem kRung_big {x : Rat} (h : ¬ kSmall x) : kRung x = 9218868437227405312 := by
  unfold kRung rgN
  unfold kSmall at h
  rw [if_pos (by omega)]
theorem bl_dn32 {n K : Nat} (h : Fil.dn 32 n ≤ K) : bl n ≤ 32 * K := bl_le (lt_of_dn (by omega) h)
theorem kld_big {x : Rat} (h0 : x.num ≠ 0) (h : ¬ kSmall x) (hz : Szd 100000000 x) (W : World) :
    Calls Tryz.prog 74 #[.float .f64 (floatOfInt .f64 ((rdM (fV x.num.natAbs x.den) (fE x.num.natAbs x.den) + (rdUp (fV x.num.natAbs x.den) (fE x.num.natAbs x.den)).toNat : Nat) : Int)), .int .i64 (rdQ (fV x.num.natAbs x.den) (fE x.num.natAbs x.den))] W fun r w' => r = .returned (.float .f64 9218868437227405312) ∧ W = w' := by
  have hV := fV_ne (n := x.num.natAbs) (d := x.den) (by omega) x.den_nz
  have h1 := rdM_lt hV (fE x.num.natAbs x.den)
  have h2 : (rdUp (fV x.num.natAbs x.den) (fE x.num.natAbs x.den)).toNat ≤ 1 := by cases rdUp (fV x.num.natAbs x.den) (fE x.num.natAbs x.den) <;> simp
  have h3 := fE_le (n := x.num.natAbs) (d := x.den) (by omega) x.den_nz
  have h4 := bl_dn32 hz.1
  unfold kSmall at h
  have h5 : rdQ (fV x.num.natAbs x.den) (fE x.num.natAbs x.den) = tpI (fV x.num.natAbs x.den) (fE x.num.natAbs x.den) - 52 := by unfold rdQ; omega
  have h6 := rdM_ge hV (e := fE x.num.natAbs x.den) (by omega)
  exact mldexp_big _ _ W (by omega) (by omega) (by omega) (by omega)
set_option maxRecDepth 100000 in
set_option maxHeartbeats 2000000 in
theorem nearest_all (b : Nat) (x : Rat) (w : World) (X : RatAt w b x) (hz : Szd 100000000 x) :
    Calls Tryz.prog 21 #[.pointer (some ⟨b, 0, none⟩)] w fun e w' => e = .returned (.float .f64 (kFl x)) ∧ Below w.heap.size w w' := by
  by_cases hs : kSmall x
  · exact nearest_any b x w X hz hs
  unfold kFl
  by_cases hx : x.num = 0
  · rw [if_pos hx]; exact nearest_zero b x w X hx
  rw [if_neg hx, kRung_big hs]
  have hfl := rfloat_any b x w X hx hz 9218868437227405312 (by omega) (kld_big hx hs hz)
  have ho := ord_word0 (R := 9218868437227405312) (sg x.num) (by omega)
  rw [show ((9218868437227405312 : Nat) == 0) = false from rfl] at ho
  generalize sg x.num = N at *
  clear hz hs hx
  generalize Ieee.double.word N 9218868437227405312 = R9 at *
  go_enter Tryz.func21, Tryz.ntmps21
  go_wp2_with fail
  refine hfl.mono ?_
  rintro r w1 ⟨ex, rfl, hB⟩
  go_wp2_with fail
  go_ret
  exact ⟨rfl, hB⟩
set_option maxRecDepth 100000 in
set_option maxHeartbeats 2000000 in
theorem kfloat_all (x : Rat) (w : World) (hx : Fits x) :
    Calls Tryz.prog 7 #[kA x] w fun e w' => e = .returned (.tuple #[.float .f64 (kFl x), .int .i64 0]) ∧ Below w.heap.size w w' := by
  have hm1 := fun W => kmay_any (sg x.num) (bstr x.num.natAbs) (bstr x.den) W (by rw [bstr_size]; have := hx.1; omega) (by rw [bstr_size]; have := hx.2; omega)
  rw [may_of_rat hx] at hm1
  have hr1 := fun W => krat_any x W hx
  have hn := fun W B X => nearest_all B x W X (hx.szd.mono (by omega))
  clear hx
  unfold kA at *
  generalize sg x.num = xn at *
  generalize bstr x.num.natAbs = xS at *
  generalize bstr x.den = xT at *
  generalize kFl x = R at *
  have hb := Below.refl w.heap.size w
  go_enter Tryz.func7, Tryz.ntmps7
  have F := Blk.put (w) #[.bool xn, .string xS, .string xT] 24
  replace hb := hb.alloc hb.size (.cells #[.bool xn, .string xS, .string xT] 24)
  obtain ⟨x0, x1, x2⟩ := F.ce3
  go_wp2_with fail
  refine (hm1 _).mono ?_
  rintro r w1 ⟨rfl, hB⟩
  replace F := F.keep hB
  replace hb := hb.trans (hB.mono hb.size)
  clear x0 x1 x2 hB hm1
  obtain ⟨x0, x1, x2⟩ := F.ce3
  go_wp2_with fail
  refine (hr1 _).mono ?_
  rintro r w2 ⟨B, rfl, X, _, _, hB⟩
  replace hb := hb.trans (hB.mono hb.size)
  clear x0 x1 x2 hB hr1 F
  go_wp2_with fail
  refine (hn _ _ X).mono ?_
  rintro r w3 ⟨rfl, hB⟩
  replace hb := hb.trans (hB.mono hb.size)
  clear hB hn X
  go_wp2_with fail
  go_returns
  exact ⟨rfl, hb⟩
end Go.Proofs.YtbhfnigblhfikaaGreatDoor

/- ratio.against, Below, Above. -/
namespace Go.Proofs.YtbhfnigblhfikaaGreatDoor
open Go Go.RowKit Go.PlainAid Fil

theorem ord_gt0 {N : Bool} {r : Nat} (h : r ≤ 9218868437227405312) : (FloatKind.f64.format.order (Ieee.double.word N r) 0 == some .gt) = (!N && decide (r ≠ 0)) := by
  have hw := word_parts (N := N) (R := r) (by omega)
  rw [f64_double, order_some (by rw [hw.1]; omega) (by decide)]
  have hk : fk (Ieee.double.word N r) = if N then -(r : Int) else r := by unfold fk; rw [hw.1, hw.2]
  rw [hk, show fk 0 = 0 from rfl]
  by_cases h0 : r = 0
  · subst h0; cases N <;> rfl
  · cases N
    · rw [if_neg (by decide), cmp_gt (by omega), decide_eq_true h0]; rfl
    · rw [if_pos rfl, cmp_lt (by omega)]; rfl
/-- how a float lies against a number -/
def agI (N : Bool) (R : Nat) (x : Rat) : Int := if R = 9218868437227405312 then (if N then -1 else 1) else cmpR (fRat N R) x
theorem cmpR_rng (x y : Rat) : -1 ≤ cmpR x y ∧ cmpR x y ≤ 1 := by unfold cmpR; split <;> (try split) <;> omega
theorem agI_rng (N : Bool) (R : Nat) (x : Rat) : -1 ≤ agI N R x ∧ agI N R x ≤ 1 := by
  unfold agI
  split
  · cases N <;> simp
  · exact cmpR_rng _ _
theorem mv_bits {R K : Nat} (hK : K = 2104) (h : R < 9218868437227405312) : mv R < 2 ^ K := by
  by_cases hs : R < 4503599627370496
  · rw [mv_small hs]; exact Nat.lt_of_lt_of_le hs (Nat.le_trans (by decide : 4503599627370496 ≤ 2 ^ 52) (pmono (by omega)))
  · rw [mv_big hs]
    have h1 : 4503599627370496 + R % 4503599627370496 < 2 ^ 53 := by omega
    have h2 : 2 ^ (R / 4503599627370496 - 1) ≤ 2 ^ (K - 53) := pmono (by omega)
    calc _ < 2 ^ 53 * 2 ^ (R / 4503599627370496 - 1) := Nat.mul_lt_mul_of_pos_right h1 (pp _)
      _ ≤ 2 ^ 53 * 2 ^ (K - 53) := Nat.mul_le_mul_left _ h2
      _ = 2 ^ K := by rw [← Nat.pow_add]; congr 1; omega
theorem fRat_szd {N : Bool} {R : Nat} (h : R < 9218868437227405312) : Szd 100 (fRat N R) := by
  unfold fRat
  have hP0 : (P74 : Int) ≠ 0 := by have := P74_pos; omega
  refine Szd.div hP0 ?_ ?_
  · rw [sz_abs]
    obtain ⟨K, hK⟩ : ∃ K, K = 2104 := ⟨_, rfl⟩
    obtain ⟨L, hL⟩ : ∃ L, L = 100 := ⟨_, rfl⟩
    have : Fil.dn 32 (mv R) ≤ L := dn_le (by omega) (Nat.lt_of_lt_of_le (mv_bits hK h) (pmono (by omega)))
    omega
  · rw [Int.natAbs_natCast]
    obtain ⟨K, hK⟩ : ∃ K, K = 1074 := ⟨_, rfl⟩
    rw [P74_eq hK]
    obtain ⟨L, hL⟩ : ∃ L, L = 100 := ⟨_, rfl⟩
    have : Fil.dn 32 (2 ^ K) ≤ L := dn_le (by omega) (Nat.pow_lt_pow_right (by omega) (by omega))
    omega
set_option maxRecDepth 100000 in
set_option maxHeartbeats 2000000 in
theorem kagainst_any (b : Nat) (x : Rat) (N : Bool) (R : Nat) (w : World) (X : RatAt w b x) (hz : Szd 100000000000 x) (h : R ≤ 9218868437227405312) :
    Calls Tryz.prog 23 #[.float .f64 (Ieee.double.word N R), .pointer (some ⟨b, 0, none⟩)] w fun r w' => r = .returned (.int .i64 (agI N R x)) ∧ Below w.heap.size w w' := by
  have hi := fun W => isinf0 N R W h
  by_cases hR : R = 9218868437227405312
  · have ho := ord_gt0 (N := N) h
    rw [decide_eq_true hR] at hi
    rw [decide_eq_true (by omega), Bool.and_true] at ho
    unfold agI
    rw [if_pos hR]
    have hb := Below.refl w.heap.size w
    generalize Ieee.double.word N R = Y at *
    clear X hz h hR
    cases N
    · rw [show (!false) = true from rfl] at ho
      go_enter Tryz.func23, Tryz.ntmps23
      go_wp2_with (go_at_call 34; go_must (refine (hi _).mono ?_); rintro r w1 ⟨rfl, rfl⟩)
      go_ret
      exact ⟨rfl, hb⟩
    · rw [show (!true) = false from rfl] at ho
      go_enter Tryz.func23, Tryz.ntmps23
      go_wp2_with (go_at_call 34; go_must (refine (hi _).mono ?_); rintro r w1 ⟨rfl, rfl⟩)
      go_ret
      exact ⟨rfl, hb⟩
  · rw [decide_eq_false hR] at hi
    have hs := fun W B a => rsetfloat_any B N R W a (by omega)
    have hzf := fRat_szd (N := N) (R := R) (by omega)
    unfold agI
    rw [if_neg hR]
    have lx := X.lt
    have R0 := RRoom.new w
    have X0 := X.alloc (.cells #[.bool false, .slice none 0 0, .bool false, .slice none 0 0] 80)
    have hb := (Below.refl w.heap.size w).alloc (Nat.le_refl _) (.cells #[.bool false, .slice none 0 0, .bool false, .slice none 0 0] 80)
    have HZ := Lib.hid (And.intro hz (And.intro hzf lx))
    generalize fRat N R = f at *
    have hc := cmpR_rng f x
    obtain ⟨cz, hcz⟩ : ∃ cz, cz = cmpR f x := ⟨_, rfl⟩
    have HC := Lib.hid hcz
    rw [← hcz] at hc ⊢
    obtain ⟨hc1, hc2⟩ := hc
    generalize Ieee.double.word N R = Y at *
    clear X hz h hR hzf hcz lx
    go_enter Tryz.func23, Tryz.ntmps23
    go_wp2_with fail
    refine (hi _).mono ?_
    rintro r w1 ⟨rfl, rfl⟩
    clear hi
    go_wp2_with fail
    generalize w.alloc (.cells #[.bool false, .slice none 0 0, .bool false, .slice none 0 0] 80) = v at *
    refine (hs _ _ R0).mono ?_
    rintro r w1 ⟨rfl, R1, hF⟩
    have X1 := X0.far hF (Nat.ne_of_lt HZ.out.2.2)
    have hb1 := hb.trans (hF.below (Nat.le_refl _) hb.size)
    clear hs hF R0 X0 hb
    go_wp2_with fail
    refine (ratcmp_any w.heap.size b f x w1 R1 X1 (HZ.out.2.1.mono (by omega)) HZ.out.1).mono ?_
    rintro r w2 ⟨rfl, hb2⟩
    rw [← HC.out]
    go_wp2
    go_ret
    exact ⟨rfl, hb1.trans (hb2.mono hb1.size)⟩
set_option maxRecDepth 100000 in
set_option maxHeartbeats 4000000 in
theorem kbelow_by (x : Rat) (X Y : Nat) (c : Int) (z : Bool) (w : World) (hx : Fits x)
    (hf : ∀ W, Calls Tryz.prog 7 #[kA x] W fun r w' => r = .returned (.tuple #[.float .f64 X, .int .i64 0]) ∧ Below W.heap.size W w')
    (ha : ∀ W B, RatAt W B x → Calls Tryz.prog 23 #[.float .f64 X, .pointer (some ⟨B, 0, none⟩)] W fun r w' => r = .returned (.int .i64 c) ∧ Below W.heap.size W w') (hc1 : -1 ≤ c) (hc2 : c ≤ 1)
    (hd : 0 < c → ∀ W, Calls Tryz.prog 24 #[.float .f64 X] W fun r w' => r = .returned (.float .f64 Y) ∧ W = w') (hn : ¬ 0 < c → X = Y) (hz : (FloatKind.f64.format.order Y 0 == some .eq) = z) :
    Calls Tryz.prog 8 #[kA x] w fun r w' => r = .returned (.tuple #[.float .f64 (if z then 0 else Y), .int .i64 0]) ∧ Below w.heap.size w w' := by
  have hr := fun W => krat_any x W hx
  clear hx
  unfold kA at *
  generalize sg x.num = xn at *
  generalize bstr x.num.natAbs = xS at *
  generalize bstr x.den = xT at *
  have F := Blk.put w #[.bool xn, .string xS, .string xT] 24
  have hb := (Below.refl w.heap.size w).alloc (Nat.le_refl _) (.cells #[.bool xn, .string xS, .string xT] 24)
  obtain ⟨f0, f1, f2⟩ := F.ce3
  go_enter Tryz.func8, Tryz.ntmps8
  go_wp2_with fail
  refine (hf _).mono ?_
  rintro r w1 ⟨rfl, hB⟩
  clear f0 f1 f2 hf
  replace F := F.keep hB
  replace hb := hb.trans (hB.mono hb.size)
  clear hB
  obtain ⟨f0, f1, f2⟩ := F.ce3
  go_wp2_with fail
  refine (hr _).mono ?_
  rintro r w2 ⟨B, rfl, hR, _, _, hB⟩
  clear f0 f1 f2 hr F
  replace hb := hb.trans (hB.mono hb.size)
  clear hB
  go_wp2_with fail
  refine (ha _ _ hR).mono ?_
  rintro r w3 ⟨rfl, hB⟩
  replace hb := hb.trans (hB.mono hb.size)
  clear hB ha hR
  by_cases hp : 0 < c
  · have hd := hd hp
    clear hn
    cases z
    · go_wp2_with fail
      refine (hd _).mono ?_
      rintro r w4 ⟨rfl, rfl⟩
      clear hd
      go_wp2
      go_returns
      exact ⟨rfl, hb⟩
    · go_wp2_with fail
      refine (hd _).mono ?_
      rintro r w4 ⟨rfl, rfl⟩
      clear hd
      go_wp2
      go_returns
      exact ⟨rfl, hb⟩
  · obtain rfl := hn (by omega)
    clear hd hn
    cases z
    · go_wp2
      go_returns
      exact ⟨rfl, hb⟩
    · go_wp2
      go_returns
      exact ⟨rfl, hb⟩
set_option maxRecDepth 100000 in
set_option maxHeartbeats 4000000 in
theorem kabove_by (x : Rat) (X Y : Nat) (c : Int) (w : World) (hx : Fits x)
    (hf : ∀ W, Calls Tryz.prog 7 #[kA x] W fun r w' => r = .returned (.tuple #[.float .f64 X, .int .i64 0]) ∧ Below W.heap.size W w')
    (ha : ∀ W B, RatAt W B x → Calls Tryz.prog 23 #[.float .f64 X, .pointer (some ⟨B, 0, none⟩)] W fun r w' => r = .returned (.int .i64 c) ∧ Below W.heap.size W w') (hc1 : -1 ≤ c) (hc2 : c ≤ 1)
    (hd : c < 0 → ∀ W, Calls Tryz.prog 15 #[.float .f64 X] W fun r w' => r = .returned (.float .f64 Y) ∧ W = w') (hn : ¬ c < 0 → X = Y) :
    Calls Tryz.prog 9 #[kA x] w fun r w' => r = .returned (.tuple #[.float .f64 Y, .int .i64 0]) ∧ Below w.heap.size w w' := by
  have hr := fun W => krat_any x W hx
  clear hx
  unfold kA at *
  generalize sg x.num = xn at *
  generalize bstr x.num.natAbs = xS at *
  generalize bstr x.den = xT at *
  have F := Blk.put w #[.bool xn, .string xS, .string xT] 24
  have hb := (Below.refl w.heap.size w).alloc (Nat.le_refl _) (.cells #[.bool xn, .string xS, .string xT] 24)
  obtain ⟨f0, f1, f2⟩ := F.ce3
  go_enter Tryz.func9, Tryz.ntmps9
  go_wp2_with fail
  refine (hf _).mono ?_
  rintro r w1 ⟨rfl, hB⟩
  clear f0 f1 f2 hf
  replace F := F.keep hB
  replace hb := hb.trans (hB.mono hb.size)
  clear hB
  obtain ⟨f0, f1, f2⟩ := F.ce3
  go_wp2_with fail
  refine (hr _).mono ?_
  rintro r w2 ⟨B, rfl, hR, _, _, hB⟩
  clear f0 f1 f2 hr F
  replace hb := hb.trans (hB.mono hb.size)
  clear hB
  go_wp2_with fail
  refine (ha _ _ hR).mono ?_
  rintro r w3 ⟨rfl, hB⟩
  replace hb := hb.trans (hB.mono hb.size)
  clear hB ha hR
  by_cases hp : c < 0
  · have hd := hd hp
    clear hn
    go_wp2_with fail
    refine (hd _).mono ?_
    rintro r w4 ⟨rfl, rfl⟩
    clear hd
    go_wp2
    go_returns
    exact ⟨rfl, hb⟩
  · obtain rfl := hn (by omega)
    clear hd hn
    go_wp2
    go_returns
    exact ⟨rfl, hb⟩
end Go.Proofs.YtbhfnigblhfikaaGreatDoor

/- wide.Int's Div; ratio.Floor, Part. -/
namespace Go.Proofs.YtbhfnigblhfikaaGreatDoor
open Go Go.RowKit Go.PlainAid Fil

end Go.Proofs.YtbhfnigblhfikaaGreatDoor

/- The plain law: the reference's exponent and rung are the program's. -/
namespace Go.Proofs.YtbhfnigblhfikaaGreatDoor
open Go Go.RowKit Go.PlainAid Fil

theorem aM_half {n d : Nat} (hd : d ≠ 0) (q : Int) : aM n d (q + 1) * 2 ≤ aM n d q := by
  obtain ⟨m, hm⟩ : ∃ m, m = aM n d (q + 1) := ⟨_, rfl⟩
  rw [← hm]
  unfold aM at *
  rw [Nat.le_div_iff_mul_le (aY_pos hd _)]
  have h : m * aY d (q + 1) ≤ aX n (q + 1) := by rw [hm]; exact Nat.div_mul_le_self _ _
  clear hm
  unfold aX aY at *
  rcases Int.lt_or_le q 0 with h0 | h0
  · rw [show (q + 1).toNat = 0 by omega, Nat.pow_zero, Nat.mul_one] at h
    rw [show (-q).toNat = (-(q + 1)).toNat + 1 by omega, show q.toNat = 0 by omega, Nat.pow_succ, ← Nat.mul_assoc n, Nat.pow_zero, Nat.mul_one, Nat.mul_right_comm]
    omega
  · rw [show (-(q + 1)).toNat = 0 by omega, show (q + 1).toNat = q.toNat + 1 by omega, Nat.pow_succ, ← Nat.mul_assoc d, Nat.pow_zero, Nat.mul_one, ← Nat.mul_assoc m] at h
    rw [show (-q).toNat = 0 by omega, Nat.pow_zero, Nat.mul_one, Nat.mul_right_comm]
    exact h
theorem aM_far {n d : Nat} (hd : d ≠ 0) (q : Int) (k : Nat) : aM n d (q + ((k + 1 : Nat) : Int)) * 2 ≤ aM n d q := by
  induction k with
  | zero => exact aM_half hd q
  | succ k ih =>
    have := aM_half (n := n) hd (q + ((k + 1 : Nat) : Int))
    rw [show q + ((k + 1 + 1 : Nat) : Int) = q + ((k + 1 : Nat) : Int) + 1 by omega]
    omega
theorem AQ.lt {n d : Nat} (hd : d ≠ 0) {q p : Int} (h1 : AQ n d q) (h2 : AQ n d p) (h : q < p) : 971 < q := by
  rcases Int.lt_or_le 971 q with h3 | h3
  · exact h3
  · have := aM_far (n := n) hd q (p - q - 1).toNat
    rw [show q + (((p - q - 1).toNat + 1 : Nat) : Int) = p by omega] at this
    have := h1.2.2 h3
    have := h2.2.1 (by have := h1.1; omega)
    omega
theorem AQ.same {n d : Nat} (hd : d ≠ 0) {q p : Int} (h1 : AQ n d q) (h2 : AQ n d p) : aL n d q = aL n d p ∧ aC n d q = aC n d p ∧ aE n d q = aE n d p := by
  rcases Int.lt_trichotomy q p with h | h | h
  · have h3 := AQ.lt hd h1 h2 h
    have h4 : 971 < p := by omega
    unfold aL aC aE
    rw [if_pos h3, if_pos h4, if_pos h3, if_pos h4, if_pos h3, if_pos h4]
    exact ⟨rfl, rfl, rfl⟩
  · subst h; exact ⟨rfl, rfl, rfl⟩
  · have h3 := AQ.lt hd h2 h1 h
    have h4 : 971 < q := by omega
    unfold aL aC aE
    rw [if_pos h3, if_pos h4, if_pos h3, if_pos h4, if_pos h3, if_pos h4]
    exact ⟨rfl, rfl, rfl⟩
/-- the two quotients, brought to one measure -/
theorem scale {n d k : Nat} {Q : Int} (hk : (k : Int) = Q + fS n d) :
    fX n d * 2 ^ (-Q).toNat = aX n Q * 2 ^ (fS n d).toNat ∧ fY n d * 2 ^ k * 2 ^ (-Q).toNat = aY d Q * 2 ^ (fS n d).toNat := by
  unfold fX fY aX aY
  generalize fS n d = S at *
  constructor
  · rw [Nat.mul_assoc, Nat.mul_assoc, Nat.mul_comm (2 ^ S.toNat)]
  · rw [Nat.mul_assoc, Nat.mul_assoc, Nat.mul_assoc, ← Nat.pow_add, ← Nat.pow_add, ← Nat.pow_add]
    congr 2; omega
theorem scale_div {a b c e s t : Nat} (hs : 0 < s) (ht : 0 < t) (h1 : a * s = c * t) (h2 : b * s = e * t) : a / b = c / e ∧ a % b * s = c % e * t := by
  constructor
  · rw [← Nat.mul_div_mul_right a b hs, h1, h2, Nat.mul_div_mul_right c e ht]
  · rw [← Nat.mul_mod_mul_right, h1, h2, Nat.mul_mod_mul_right]
theorem scale_cmp {a b c e s t : Nat} (hs : 0 < s) (ht : 0 < t) (h1 : a * s = c * t) (h2 : b * s = e * t) : (a < b ↔ c < e) ∧ (a = b ↔ c = e) := by
  constructor
  · rw [← Nat.mul_lt_mul_right hs, h1, h2, Nat.mul_lt_mul_right ht]
  · constructor
    · intro h; subst h; exact Nat.eq_of_mul_eq_mul_right ht (h1.symm.trans h2)
    · intro h; subst h; exact Nat.eq_of_mul_eq_mul_right hs (h1.trans h2.symm)
theorem fS_k {n d : Nat} (hn : n ≠ 0) (hd : d ≠ 0) : ∃ k : Nat, (k : Int) = rdQ (fV n d) (fE n d) + fS n d ∧ 1 ≤ k := by
  have hq := fQ_lo hn hd
  have h := tl_Q (q := fQ n d) (t := fT n d) (by omega) (fT_le n d) (fS n d)
  have hb : 60 ≤ bl (fQ n d) := by
    rcases Nat.lt_or_ge (bl (fQ n d)) 60 with h1 | h1
    · have h2 := lt_bl (fQ n d)
      have h3 : 2 ^ bl (fQ n d) ≤ 2 ^ 59 := pmono (by omega)
      omega
    · exact h1
  unfold fV fE
  refine ⟨(rdQ (2 * fQ n d + fT n d) (-fS n d - 1) + fS n d).toNat, ?_, ?_⟩ <;> omega
theorem rdM_a {n d : Nat} (hn : n ≠ 0) (hd : d ≠ 0) : aM n d (rdQ (fV n d) (fE n d)) = rdM (fV n d) (fE n d) := by
  obtain ⟨k, hk, _⟩ := fS_k hn hd
  have hs := scale hk
  have hv := (scale_div (pp _) (pp _) hs.1 hs.2).1
  unfold aM
  rw [← hv, ← Nat.div_div_eq_div_mul]
  unfold fV fE at *
  exact (tl_M (fT_le n d) (fS n d) hk).symm
theorem AQ_rd {n d : Nat} (hn : n ≠ 0) (hd : d ≠ 0) : AQ n d (rdQ (fV n d) (fE n d)) := by
  have hV := fV_ne hn hd
  have h1 := rdM_lt hV (fE n d)
  refine ⟨rdQ_lo _ _, fun h => ?_, fun _ => ?_⟩
  · rw [rdM_a hn hd]; exact rdM_ge hV h
  · rw [rdM_a hn hd]; omega
theorem tp_Q {x : Nat} {e : Int} : 1024 ≤ tpI x e ↔ 971 < rdQ x e := by unfold rdQ; omega
theorem ar_up {n d : Nat} (hn : n ≠ 0) (hd : d ≠ 0) (hq : ¬ 971 < rdQ (fV n d) (fE n d)) :
    rdUp (fV n d) (fE n d) = (decide (0 < aC n d (rdQ (fV n d) (fE n d))) || (decide (aC n d (rdQ (fV n d) (fE n d)) = 0) && !aE n d (rdQ (fV n d) (fE n d)))) := by
  obtain ⟨k, hk, hk1⟩ := fS_k hn hd
  have hs := scale hk
  have hv := scale_div (pp _) (pp _) hs.1 hs.2
  have hU := tl_U (fT_le n d) (fS n d) hk hk1
  have hM := rdM_a hn hd
  have hMM := tl_M (fT_le n d) (fS n d) hk
  have eU : rdUp (fV n d) (fE n d) = rdUp (2 * fQ n d + fT n d) (-fS n d - 1) := rfl
  have eM : rdM (fV n d) (fE n d) = rdM (2 * fQ n d + fT n d) (-fS n d - 1) := rfl
  rw [eU, hU]
  unfold aC aE
  rw [if_neg hq, if_neg hq, hM, eM, hMM]
  generalize rdQ (fV n d) (fE n d) = Q at *
  obtain ⟨j, rfl⟩ : ∃ j, k = j + 1 := ⟨k - 1, by omega⟩
  have hmod : fX n d % (fY n d * 2 ^ (j + 1)) = fR n d + fY n d * (fQ n d % 2 ^ (j + 1)) := Nat.mod_mul
  rw [hmod] at hv
  have hcm := scale_cmp (a := fY n d * 2 ^ (j + 1)) (b := 2 * (fR n d + fY n d * (fQ n d % 2 ^ (j + 1)))) (c := aY d Q) (e := 2 * (aX n Q % aY d Q)) (pp _) (pp _) hs.2 (by rw [Nat.mul_assoc, hv.2, Nat.mul_assoc])
  have hz : aX n Q % aY d Q = 0 ↔ fR n d + fY n d * (fQ n d % 2 ^ (j + 1)) = 0 := by
    have p1 := pp (-Q).toNat
    have p2 := pp (fS n d).toNat
    constructor
    · intro h; rw [h, Nat.zero_mul] at hv; rcases Nat.mul_eq_zero.1 hv.2 with h | h <;> omega
    · intro h; rw [h, Nat.zero_mul] at hv; rcases Nat.mul_eq_zero.1 hv.2.symm with h | h <;> omega
  have hYp := fY_pos (n := n) hd
  have hpp := pp j
  have hR : fT n d = if fR n d = 0 then 0 else 1 := rfl
  have hRY : fR n d < fY n d := Nat.mod_lt _ hYp
  rw [show j + 1 - 1 = j by omega]
  rw [Nat.pow_succ] at *
  generalize fQ n d / (2 ^ j * 2) = m at *
  generalize fQ n d % (2 ^ j * 2) = o at *
  generalize fR n d = r at *
  generalize fT n d = t at *
  generalize fY n d = Y at *
  generalize aX n Q % aY d Q = ρ at *
  generalize aY d Q = B at *
  generalize 2 ^ j = p at *
  clear hs hv hU hM hMM eU eM hmod
  have e1 : Y * (p * 2) = 2 * (Y * p) := by rw [← Nat.mul_assoc, Nat.mul_comm]
  rw [e1] at hcm
  by_cases h1 : p < o
  · have h2 : Y * p + Y ≤ Y * o := by rw [← Nat.mul_succ]; exact Nat.mul_le_mul_left _ h1
    have h3 : B < 2 * ρ := hcm.1.1 (by omega)
    have h4 : ¬ ρ = 0 := by omega
    rw [decide_eq_true h1, if_neg h4, cmpZ_gt h3]; rfl
  · rw [decide_eq_false h1]
    by_cases h2 : o = p
    · subst h2
      by_cases hr0 : r = 0
      · have h3 : B = 2 * ρ := hcm.2.1 (by omega)
        have h4 : ¬ ρ = 0 := by
          intro h; have := hz.1 h
          have := Nat.mul_pos hYp hpp
          omega
        rw [if_pos hr0] at hR
        subst hR
        rw [if_neg h4, ← h3, cmpZ_eq]
        rcases Nat.mod_two_eq_zero_or_one m with h | h <;> simp [h]
      · have h3 : B < 2 * ρ := hcm.1.1 (by omega)
        have h4 : ¬ ρ = 0 := by omega
        rw [if_neg hr0] at hR
        subst hR
        rw [if_neg h4, cmpZ_gt h3]; simp
    · have h2b : o + 1 ≤ p := by omega
      have h3 : Y * o + Y ≤ Y * p := by rw [← Nat.mul_succ]; exact Nat.mul_le_mul_left _ h2b
      have h4 : 2 * ρ < B := by
        rcases Nat.lt_trichotomy (2 * ρ) B with h | h | h
        · exact h
        · have := hcm.2.2 h.symm; omega
        · have := hcm.1.2 h; omega
      rw [decide_eq_false h2]
      split
      · rfl
      · rw [cmpZ_lt h4]; rfl
theorem ar_N {n d : Nat} (hn : n ≠ 0) (hd : d ≠ 0) {Q : Int} (h : AQ n d Q) :
    rgN (fV n d) (fE n d) = aL n d Q + (decide (0 < aC n d Q) || (decide (aC n d Q = 0) && !aE n d Q)).toNat := by
  have hs := AQ.same hd h (AQ_rd hn hd)
  rw [hs.1, hs.2.1, hs.2.2]
  unfold rgN
  by_cases hb : 1024 ≤ tpI (fV n d) (fE n d)
  · have h1 := tp_Q.1 hb
    rw [if_pos hb]
    unfold aL aC aE
    rw [if_pos h1, if_pos h1, if_pos h1]; rfl
  · have h1 : ¬ 971 < rdQ (fV n d) (fE n d) := fun h => hb (tp_Q.2 h)
    rw [if_neg hb, ar_up hn hd h1]
    unfold aL
    rw [if_neg h1, rdM_a hn hd]; rfl
/-- where the number lies between the rungs -/
theorem ar_pos {n d : Nat} (hd : d ≠ 0) {Q : Int} (h : AQ n d Q) :
    aL n d Q ≤ 9218868437227405311 ∧ mv (aL n d Q) * d ≤ n * P74 ∧ (aC n d Q = -2 ↔ mv (aL n d Q) * d = n * P74) ∧ (aL n d Q = 9218868437227405311 ∨ n * P74 < mv (aL n d Q + 1) * d) := by
  obtain ⟨K, hK⟩ : ∃ K, K = 1074 := ⟨_, rfl⟩
  rw [P74_eq hK]
  obtain ⟨h0, h1, h2⟩ := h
  by_cases hQ : 971 < Q
  · unfold aL aC
    rw [if_pos hQ, if_pos hQ]
    have hm := h1 (by omega)
    have hle : aM n d Q * aY d Q ≤ aX n Q := Nat.div_mul_le_self _ _
    have hb : mv 9218868437227405312 * d ≤ n * 2 ^ K := by
      have e := mv_rung (m := 9007199254740992) (q := 971) (by omega) (fun _ => by omega) (by omega)
      rw [show (971 + 1074 : Int).toNat * 4503599627370496 + 9007199254740992 = 9218868437227405312 by rfl] at e
      rw [e]
      unfold aX aY at hle
      rw [show (-Q).toNat = 0 by omega, Nat.pow_zero, Nat.mul_one] at hle
      obtain ⟨J, hJ⟩ : ∃ J, J = (971 + 1074 : Int).toNat := ⟨_, rfl⟩
      rw [← hJ]
      have hJ2 : J + 1 ≤ Q.toNat + K := by omega
      calc 9007199254740992 * 2 ^ J * d = 4503599627370496 * d * 2 ^ (J + 1) := by rw [Nat.pow_succ, show 9007199254740992 = 4503599627370496 * 2 by rfl]; ac_rfl
        _ ≤ 4503599627370496 * d * 2 ^ (Q.toNat + K) := Nat.mul_le_mul_left _ (pmono hJ2)
        _ = 4503599627370496 * (d * 2 ^ Q.toNat) * 2 ^ K := by rw [Nat.pow_add]; ac_rfl
        _ ≤ aM n d Q * (d * 2 ^ Q.toNat) * 2 ^ K := Nat.mul_le_mul_right _ (Nat.mul_le_mul_right _ hm)
        _ ≤ n * 2 ^ K := Nat.mul_le_mul_right _ hle
    have hlt : mv 9218868437227405311 * d < mv 9218868437227405312 * d := Nat.mul_lt_mul_of_pos_right (mv_lt (by omega)) (by omega)
    exact ⟨Nat.le_refl _, by omega, ⟨fun h => by omega, fun h => by omega⟩, .inl rfl⟩
  · have hM := h2 (by omega)
    unfold aL aC
    rw [if_neg hQ, if_neg hQ]
    have e1 := mv_rung (m := aM n d Q) (q := Q) h0 h1 (by omega)
    have e2 := mv_rung (m := aM n d Q + 1) (q := Q) h0 (fun h => by have := h1 h; omega) (by omega)
    have hsum : aM n d Q * aY d Q + aX n Q % aY d Q = aX n Q := by unfold aM; rw [Nat.mul_comm]; exact Nat.div_add_mod _ _
    have hlt : aX n Q % aY d Q < aY d Q := Nat.mod_lt _ (aY_pos hd Q)
    obtain ⟨J, hJ⟩ : ∃ J, J = K - (-Q).toNat := ⟨_, rfl⟩
    have f1 : n * 2 ^ K = aX n Q * 2 ^ J := by unfold aX; rw [Nat.mul_assoc, ← Nat.pow_add]; congr 2; omega
    have f2 : 2 ^ (Q + 1074).toNat * d = aY d Q * 2 ^ J := by unfold aY; rw [Nat.mul_assoc, ← Nat.pow_add, Nat.mul_comm]; congr 2; omega
    rw [← Nat.add_assoc] at e2
    rw [e1, e2, Nat.mul_assoc, f1, f2, Nat.mul_assoc, f2, ← Nat.mul_assoc, ← Nat.mul_assoc]
    have pJ := pp J
    refine ⟨by omega, Nat.mul_le_mul_right _ (by omega), ?_, .inr (Nat.mul_lt_mul_of_pos_right (by rw [Nat.add_mul, Nat.one_mul]; omega) pJ)⟩
    constructor
    · intro h
      split at h
      · rename_i h3; rw [← hsum, h3, Nat.add_zero]
      · have : -1 ≤ cmpZ (2 * (aX n Q % aY d Q)) (aY d Q) := by unfold cmpZ; split <;> (try split) <;> omega
        omega
    · intro h
      have := Nat.eq_of_mul_eq_mul_right pJ h
      rw [if_pos (by omega)]
end Go.Proofs.YtbhfnigblhfikaaGreatDoor

/- Below, Above, Float of the program and of the reference answer alike. -/
namespace Go.Proofs.YtbhfnigblhfikaaGreatDoor
open Go Go.RowKit Go.PlainAid Fil

theorem cmpR_div {a b : Int} (hb : 0 < b) (y : Rat) : cmpR (Rat.divInt a b) y = cmpI (a * (y.den : Int)) (y.num * b) := by
  have hz : (Rat.divInt a b).num * b = a * ((Rat.divInt a b).den : Int) := (Rat.divInt_eq_divInt_iff (by have := (Rat.divInt a b).den_nz; omega) (by omega)).1 (Rat.num_divInt_den _)
  have hd : (0 : Int) < ((Rat.divInt a b).den : Int) := by have := (Rat.divInt a b).den_nz; omega
  rw [← cmpR_eq]
  generalize (Rat.divInt a b).num = p at *
  generalize ((Rat.divInt a b).den : Int) = q at *
  have e1 : q * (a * (y.den : Int)) = b * (p * (y.den : Int)) := by
    rw [← Int.mul_assoc, Int.mul_comm q, ← hz, Int.mul_comm p, Int.mul_assoc]
  have e2 : q * (y.num * b) = b * (y.num * q) := by rw [Int.mul_comm b, Int.mul_comm q, Int.mul_right_comm]
  have k1 : p * (y.den : Int) < y.num * q ↔ a * (y.den : Int) < y.num * b := by
    rw [← Int.mul_lt_mul_left (a := b) hb, ← e1, ← e2, Int.mul_lt_mul_left hd]
  have k2 : y.num * q < p * (y.den : Int) ↔ y.num * b < a * (y.den : Int) := by
    rw [← Int.mul_lt_mul_left (a := b) hb, ← e1, ← e2, Int.mul_lt_mul_left hd]
  unfold cmpI
  simp only [k1, k2]
theorem agI_val {x : Rat} {R : Nat} (h : R < 9218868437227405312) : agI (sg x.num) R x = cmpI (sz (sg x.num) (mv R * x.den)) (sz (sg x.num) (x.num.natAbs * P74)) := by
  unfold agI fRat
  rw [if_neg (by omega), cmpR_div (by have := P74_pos; omega), sz_mul_nat]
  congr 1
  rw [← sz_mul_nat, sz_self]
theorem agI_gt {x : Rat} {R : Nat} (h : R < 9218868437227405312) : 0 < agI (sg x.num) R x ↔ if sg x.num = true then mv R * x.den < x.num.natAbs * P74 else x.num.natAbs * P74 < mv R * x.den := by
  rw [agI_val h]
  generalize mv R * x.den = A
  generalize x.num.natAbs * P74 = B
  unfold cmpI sz
  cases sg x.num <;> simp <;> split <;> (try split) <;> omega
theorem agI_lt {x : Rat} {R : Nat} (h : R < 9218868437227405312) : agI (sg x.num) R x < 0 ↔ if sg x.num = true then x.num.natAbs * P74 < mv R * x.den else mv R * x.den < x.num.natAbs * P74 := by
  rw [agI_val h]
  generalize mv R * x.den = A
  generalize x.num.natAbs * P74 = B
  unfold cmpI sz
  cases sg x.num <;> simp <;> split <;> (try split) <;> omega
theorem agI_inf {N : Bool} {x : Rat} : agI N 9218868437227405312 x = if N then -1 else 1 := if_pos rfl
theorem word0_ne {N : Bool} {R : Nat} (h : R ≤ 9218868437227405312) (h0 : R ≠ 0) : (FloatKind.f64.format.order (Ieee.double.word N R) 0 == some .eq) = false := by
  rw [ord_word0 N h]; exact beq_eq_false_iff_ne.2 h0
end Go.Proofs.YtbhfnigblhfikaaGreatDoor
