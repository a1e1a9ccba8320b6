/- Merged: U1 U2 U3 -/
import Derived.Test.YtbfnafcpjbdbpaaGreatB7
import Derived.Test.YtbfnafcpjbdbpaaGreatJK
import Derived.Test.YtbfnafcpjbdbpaaGreatJU
import Derived.Test.YtbfnafcpjbdbpaaGreatJL

/- math.Frexp of positive floats; Ldexp by 53; the float's whole number. -/
namespace Go.Proofs.YtbfnafcpjbdbpaaGreat
open Go Go.RowKit Go.PlainAid Fil

theorem ord_sub {x : Nat} (h : x < 4503599627370496) : (FloatKind.f64.format.order (magB x) 4503599627370496 == some .lt) = true := by
  rw [magB_lt (by omega), order_pos (by omega) (by omega), cmp_lt (by omega)]; rfl
theorem mul_52 {r L F y : Nat} (hr : r < 4503599627370496) (hF : F < 4503599627370496) (hL : L < 52) (hv : (4503599627370496 + F) * 2 ^ L = r * 4503599627370496) (hy : y = (L + 1) * 4503599627370496 + F) : floatBits .mul .f64 r 4841369599423283200 = some y := by
  have key : ∀ K : Nat, K = 1074 → mv r * mv ((K + 1) * 4503599627370496 + 0) = mv y * 2 ^ K := fun K _ => by
    rw [mv_parts (by omega), hy, mv_parts hF, mv_small hr, hv, Nat.add_zero, Nat.mul_assoc]
  have k2 := key 1074 rfl
  clear key hv
  exact fmul_ok (M := 1074) rfl (by omega) (by omega) (by omega) k2
theorem normal_sub (r y : Nat) (w : World) (h : r < 4503599627370496) (hm : floatBits .mul .f64 r 4841369599423283200 = some y) : Calls Tryz.prog 160 #[.float .f64 r] w fun e w' => e = .returned (.tuple #[.float .f64 y, .int .i64 (-52)]) ∧ w = w' := by
  have ha := fun W => mabs_any r W (by omega)
  have ho := ord_sub h
  have hmul := fun W => run_float_arith (P := Tryz.prog) W .mul 43 .f64 r 4841369599423283200 y hm
  clear h hm
  go_enter Tryz.func160, Tryz.ntmps160
  go_wp2_with (go_at_call 141; go_must (refine (ha _).mono ?_); rintro r w1 ⟨rfl, rfl⟩)
  go_returns
  exact ⟨rfl, rfl⟩
theorem exp_bitsU (E : Nat) (hE : E < 2048) : bits BinOp.and IntKind.u64 (E : Int) 2047 = (E : Int) := by
  have h := u64_and_nat E 2047 (by omega) (by omega)
  rw [show ((2047 : Nat) : Int) = 2047 from rfl] at h
  rw [h, show 2047 = 2 ^ 11 - 1 by rfl, Nat.and_two_pow_sub_one_eq_mod, Nat.mod_eq_of_lt hE]
theorem half_bits (F : Nat) (hF : F < 4503599627370496) : bits BinOp.or IntKind.u64 (F : Int) 4602678819172646912 = ((1022 * 4503599627370496 + F : Nat) : Int) := by
  have h := pack_bits 1022 F (by omega) hF
  rw [show ((1022 : Nat) : Int) * 4503599627370496 = 4602678819172646912 from rfl] at h
  exact h

set_option maxRecDepth 20000 in
set_option maxHeartbeats 2000000 in
/-- frexp by what normalize gives: y, of exponent E and fraction F, and d -/
theorem frexp_by (x y E F : Nat) (d : Int) (w : World) (hx0 : x ≠ 0) (hx : x < 9218868437227405312) (hy : y = E * 4503599627370496 + F) (hE : E < 2047) (hF : F < 4503599627370496) (hd0 : -100 ≤ d) (hd1 : d ≤ 0)
    (hn : ∀ W, Calls Tryz.prog 160 #[.float .f64 x] W fun e w' => e = .returned (.tuple #[.float .f64 y, .int .i64 d]) ∧ W = w') :
    Calls Tryz.prog 156 #[.float .f64 x] w fun e w' => e = .returned (.tuple #[.float .f64 (1022 * 4503599627370496 + F), .int .i64 (d + (E : Int) - 1022)]) ∧ w = w' := by
  have hi := fun W => isinf_any x W (by omega)
  have hna := fun W => isnan_any x W
  have o0 := ord_zero hx0 hx
  have o1 := ord_big hx
  have o2 := ord_self (x := x) (by omega)
  rw [o1] at hi
  rw [o2] at hna
  have h1 := run_f64bits
  have h2 := run_f64from
  have hd : (y : Int) / 4503599627370496 = (E : Int) := by omega
  have ha := exp_bitsU E (by omega)
  have hf := frac_bits E F y hy (by omega) hF
  have hp := half_bits F hF
  have hE0 : 0 ≤ (E : Int) := by omega
  have hE1 : (E : Int) < 2047 := by omega
  have he : d + ((E : Int) - 1023 + 1) = d + (E : Int) - 1022 := by omega
  have ht : ((1022 * 4503599627370496 + F : Nat) : Int).toNat = 1022 * 4503599627370496 + F := Int.toNat_natCast _
  obtain ⟨z, hz⟩ : ∃ z, z = 1022 * 4503599627370496 + F := ⟨_, rfl⟩
  rw [← hz] at hp ht ⊢
  have hz2 : z < 18446744073709551616 := by omega
  have hy2 : y < 18446744073709551616 := by omega
  have HX := Lib.hid (And.intro hy (And.intro hF (And.intro hz (And.intro hE hx))))
  have HE := Lib.hid he
  obtain ⟨e, hee⟩ : ∃ e, e = d + (E : Int) - 1022 := ⟨_, rfl⟩
  rw [← hee] at he ⊢
  clear hy hF hz hx hx0 o1 o2 HE
  have he2 : e ≤ 2000 := by omega
  have he1 : -2000 ≤ e := by omega
  clear hee
  go_enter Tryz.func156, Tryz.ntmps156
  go_wp2_with (first
    | (go_at_call 122; go_must (refine (hi _).mono ?_); rintro r w1 ⟨rfl, rfl⟩)
    | (go_at_call 159; go_must (refine (hna _).mono ?_); rintro r w1 ⟨rfl, rfl⟩)
    | (go_at_call 160; go_must (refine (hn _).mono ?_); rintro r w1 ⟨rfl, rfl⟩))
  go_returns
  exact ⟨rfl, rfl⟩
/-- Frexp of a positive float's rung -/
theorem mfrexp_any (r : Nat) (h0 : r ≠ 0) (h : r < 9218868437227405312) :
    ∃ (F : Nat) (e : Int), F < 4503599627370496 ∧ -1073 ≤ e ∧ e ≤ 1024 ∧ mv r * 4503599627370496 = (4503599627370496 + F) * 2 ^ (e + 1073).toNat ∧
      ∀ W, Calls Tryz.prog 142 #[.float .f64 r] W fun x w' => x = .returned (.tuple #[.float .f64 (1022 * 4503599627370496 + F), .int .i64 e]) ∧ W = w' := by
  have wrap : ∀ (F : Nat) (e : Int), (∀ W, Calls Tryz.prog 156 #[.float .f64 r] W fun x w' => x = .returned (.tuple #[.float .f64 (1022 * 4503599627370496 + F), .int .i64 e]) ∧ W = w') → ∀ W, Calls Tryz.prog 142 #[.float .f64 r] W fun x w' => x = .returned (.tuple #[.float .f64 (1022 * 4503599627370496 + F), .int .i64 e]) ∧ W = w' := fun F e hm W => by
    generalize 1022 * 4503599627370496 + F = z at *
    clear h h0
    go_enter Tryz.func142, Tryz.ntmps142
    go_wp2_with (go_at_call 156; go_must (refine (hm _).mono ?_); rintro r w1 ⟨rfl, rfl⟩)
    go_returns
    exact ⟨rfl, rfl⟩
  by_cases hs : r < 4503599627370496
  · obtain ⟨L, F, hL, hl, hF, hv, h53⟩ := int_parts h0 (by omega)
    have hL52 : L < 52 := by
      rcases Nat.lt_or_ge L 52 with h | h
      · exact h
      · have h1 : r < 2 ^ 52 := by omega
        have := (Nat.log2_lt h0).2 h1
        omega
    have hm := mul_52 hs hF hL52 hv rfl
    have hn := fun W => normal_sub r _ W hs hm
    have hfr := fun W => frexp_by r ((L + 1) * 4503599627370496 + F) (L + 1) F (-52) W h0 h rfl (by omega) hF (by omega) (by omega) hn
    refine ⟨F, (L : Int) - 1073, hF, by omega, by omega, ?_, wrap _ _ (fun W => ?_)⟩
    · rw [mv_small hs, show ((L : Int) - 1073 + 1073).toNat = L by omega, hv]
    · have := hfr W
      rw [show (-52 : Int) + ((L + 1 : Nat) : Int) - 1022 = (L : Int) - 1073 by omega] at this
      exact this
  · obtain ⟨E, hE⟩ : ∃ E, E = r / 4503599627370496 := ⟨_, rfl⟩
    obtain ⟨F, hF⟩ : ∃ F, F = r % 4503599627370496 := ⟨_, rfl⟩
    have hr : r = E * 4503599627370496 + F := by omega
    have hF2 : F < 4503599627370496 := by omega
    have hn := fun W => normal_any r W (by omega) (ord_norm (x := r) (by omega) h)
    have hfr := fun W => frexp_by r r E F 0 W h0 h hr (by omega) hF2 (by omega) (by omega) hn
    refine ⟨F, (E : Int) - 1022, hF2, by omega, by omega, ?_, wrap _ _ (fun W => ?_)⟩
    · obtain ⟨K, rfl⟩ : ∃ K, E = K + 1 := ⟨E - 1, by omega⟩
      rw [hr, mv_parts hF2, show (((K + 1 : Nat) : Int) - 1022 + 1073).toNat = K + 52 by omega, Nat.pow_add, Nat.mul_assoc, show (2 : Nat) ^ 52 = 4503599627370496 by rfl]
    · have := hfr W
      rw [show (0 : Int) + (E : Int) - 1022 = (E : Int) - 1022 by omega] at this
      exact this
theorem ldexp_53 (F : Nat) (hF : F < 4503599627370496) (w : World) : Calls Tryz.prog 140 #[.float .f64 (1022 * 4503599627370496 + F), .int .i64 53] w fun r w' => r = .returned (.float .f64 (1075 * 4503599627370496 + F)) ∧ w = w' := by
  obtain ⟨x, hx⟩ : ∃ x, x = 1022 * 4503599627370496 + F := ⟨_, rfl⟩
  obtain ⟨y, hy⟩ : ∃ y, y = 1075 * 4503599627370496 + F := ⟨_, rfl⟩
  have h := fun W => ldexp_norm 1022 F 1075 53 52 x y y W hx (by omega) hF (ord_zero (by omega) (by omega)) (ord_big (by omega)) (ord_self (by omega)) (ord_norm (by omega) (by omega)) (by omega) (by omega) (by omega) (by omega) (by omega) (by omega) hy (mul_one_rung (by omega))
  rw [← hx, ← hy]
  clear hx hy hF
  go_enter Tryz.func140, Tryz.ntmps140
  go_wp2_with (go_at_call 154; go_must (refine (h _).mono ?_); rintro r w1 ⟨rfl, rfl⟩)
  go_ret
  exact ⟨rfl, rfl⟩
/-- the whole number of a float from 2^52 to 2^53 -/
theorem whole_53 (F : Nat) (hF : F < 4503599627370496) : floatToIntVal .f64 (1075 * 4503599627370496 + F) .u64 = some (((4503599627370496 + F : Nat) : Int)) := by
  have hr : FloatKind.f64.decode (1075 * 4503599627370496 + F) = .number false (4503599627370496 + F) 0 := by
    show Ieee.double.read _ = _
    unfold Ieee.Format.read
    rw [d_sign, d_binade, d_inf, d_least]
    have e1 : (1075 * 4503599627370496 + F) % 9223372036854775808 = 1075 * 4503599627370496 + F := by omega
    have e2 : (1075 * 4503599627370496 + F) / 9223372036854775808 % 2 = 0 := by omega
    simp only [e1, e2]
    rw [if_neg (by omega), if_pos (by omega)]
    congr 1 <;> omega
  unfold floatToIntVal
  rw [hr]
  generalize hm : 4503599627370496 + F = m at *
  have e : (Ieee.Datum.number false m 0).toInt .zero = some (m : Int) := by
    simp [Ieee.Datum.toInt, Ieee.Datum.integral, Ieee.Toward.cut, Ieee.signed]
  rw [e]
  show (if IntKind.u64.min ≤ (m : Int) ∧ (m : Int) ≤ IntKind.u64.max then some (m : Int) else none) = _
  rw [if_pos ⟨by show (0 : Int) ≤ _; omega, by show _ ≤ (18446744073709551615 : Int); omega⟩]
end Go.Proofs.YtbfnafcpjbdbpaaGreat

/- wide.Rat's SetFloat64 of finite floats. -/
namespace Go.Proofs.YtbfnafcpjbdbpaaGreat
open Go Go.RowKit Go.PlainAid Fil

theorem sg_sz' {S : Bool} {M : Nat} (h : S = true → M ≠ 0) : sg (sz S M) = S := by
  cases S
  · unfold sg sz; exact decide_eq_false (by simp)
  · have := h rfl; unfold sg sz; exact decide_eq_true (by simp; omega)
theorem sign_set {w : World} {b M : Nat} {S : Bool} (h : IntAt w b 0 (M : Int)) (hS : S = true → M ≠ 0) : IntAt (w.setCell ⟨b, 0, none⟩ (.bool S)) b 0 (sz S M) ∧ But w (w.setCell ⟨b, 0, none⟩ (.bool S)) b 0 := by
  obtain ⟨cs, t, A, n, c, h1, h2, h3, h4, h5⟩ := h
  have hl := (Array.getElem?_eq_some_iff.1 h3).1
  have e1 : (w.setCell ⟨b, 0, none⟩ (.bool S)).heap[b]? = some (.cells (cs.setIfInBounds 0 (.bool S)) t (0, 0)) := by simp [World.setCell, Array.getElem?_modify, h1]
  refine ⟨⟨cs.setIfInBounds 0 (.bool S), t, A, n, c, e1, h2, ?_, ?_, ?_⟩, ?_⟩
  · rw [Array.getElem?_setIfInBounds, sg_sz' hS]; simp [hl]
  · rw [Array.getElem?_setIfInBounds_ne (by omega)]; exact h4
  · rw [sz_abs]
    rw [Int.natAbs_natCast] at h5
    exact ⟨h5.1, h5.2.1, h5.2.2.setCell (p := ⟨b, 0, none⟩) h1 (fun e => h2 e.symm) _⟩
  · refine ⟨rfl, rfl, rfl, by simp, fun k _ hk => Below.heap_setCell _ _ _ _ hk, ⟨cs, _, t, h1, e1, h2, by simp, fun j hj _ => ?_⟩⟩
    rw [Array.getElem?_setIfInBounds_ne (by omega)]
/-- 2 to the power 1074 (never reckoned out) -/
def P74 : Nat := 2 ^ 1074
theorem P74_eq {K : Nat} (h : K = 1074) : P74 = 2 ^ K := by subst h; rfl
theorem P74_pos : 0 < P74 := by
  obtain ⟨K, hK⟩ : ∃ K, K = 1074 := ⟨_, rfl⟩
  rw [P74_eq hK]; exact pp _
/-- the number of the float of rung r -/
def fRat (N : Bool) (r : Nat) : Rat := Rat.divInt (sz N (mv r)) (P74 : Int)

set_option maxRecDepth 100000 in
set_option maxHeartbeats 4000000 in
theorem rsetfloat_by (b r X Y Z M : Nat) (e : Int) (S : Bool) (z : Rat) (w : World) (hr : RRoom w b) (he0 : -1073 ≤ e) (he1 : e ≤ 1024) (hM : M < 18446744073709551616) (hS : S = true → M ≠ 0)
    (ha : ∀ W, Calls Tryz.prog 141 #[.float .f64 X] W fun x w' => x = .returned (.float .f64 r) ∧ W = w')
    (hf : ∀ W, Calls Tryz.prog 142 #[.float .f64 r] W fun x w' => x = .returned (.tuple #[.float .f64 Y, .int .i64 e]) ∧ W = w')
    (hl : ∀ W, Calls Tryz.prog 140 #[.float .f64 Y, .int .i64 53] W fun x w' => x = .returned (.float .f64 Z) ∧ W = w')
    (hcv : floatToIntVal .f64 Z .u64 = some (M : Int))
    (ho : (FloatKind.f64.format.order X 0 == some .lt) = S)
    (hz1 : 53 ≤ e → z = Rat.divInt (sz S M * 2 ^ (e - 53).toNat) 1) (hz2 : e < 53 → z = Rat.divInt (sz S M) (1 * 2 ^ (53 - e).toNat)) :
    Calls Tryz.prog 123 #[.pointer (some ⟨b, 0, none⟩), .float .f64 X] w fun x w' => x = .returned (.pointer (some ⟨b, 0, none⟩)) ∧ RatAt w' b z ∧ Far w w' b := by
  have hconv := fun W => run_convert_float_int (P := Tryz.prog) W 43 106 .f64 .u64 Z (M : Int) (by rw [Tryz.underlying43]; rfl) Tryz.underlying106 hcv
  have hM32 : Fil.dn 32 M ≤ 2 := dn_le (by omega) (by omega)
  have lb := hr.lt
  have I0 := IntAt.zero w
  have hb := (Below.refl w.heap.size w).alloc (Nat.le_refl _) (.cells #[.bool false, .slice none 0 0] 90)
  have hr1 := hr.alloc (.cells #[.bool false, .slice none 0 0] 90)
  have HR := Lib.hid hr
  have HS := Lib.hid (And.intro hS (And.intro hz1 (And.intro hz2 hM32)))
  have HM := Lib.hid hM
  clear hr hS hz1 hz2 hM32 hcv hM
  go_enter Tryz.func123, Tryz.ntmps123
  go_wp2_with fail
  refine (ha _).mono ?_
  rintro r1 w1 ⟨rfl, rfl⟩
  clear ha
  go_wp2_with fail
  refine (hf _).mono ?_
  rintro r1 w1 ⟨rfl, rfl⟩
  clear hf
  go_wp2_with fail
  refine (hl _).mono ?_
  rintro r1 w1 ⟨rfl, rfl⟩
  clear hl
  generalize hv0 : w.alloc (.cells #[.bool false, .slice none 0 0] 90) = v0 at *
  go_wp2_with fail
  refine (setu_any w.heap.size 0 M _ I0.room HM.out).mono ?_
  rintro r1 w2 ⟨rfl, I1, hB⟩
  replace hr1 := hr1.but hB (Nat.ne_of_lt lb)
  replace hb := hb.trans (hB.below (Nat.le_refl _) hb.size)
  clear hB I0 hconv hv0
  obtain ⟨I2, hB2⟩ := sign_set I1 HS.out.1
  have hr2 := hr1.but hB2 (Nat.ne_of_lt lb)
  have hb2 := hb.trans (hB2.below (Nat.le_refl _) hb.size)
  have HV := Lib.hid (And.intro I2 (And.intro hr2 hb2))
  clear hB2 I2 hr2 hb2
  obtain ⟨A, n, c, c0, c1, D⟩ := I1.cells
  obtain ⟨u, v, _, _, f0, f1⟩ := I1.room.cells
  have hn : S = true → 0 < n := fun h => by
    have := HS.out.1 h
    rw [D.1, Int.natAbs_natCast]
    exact dn_pos this
  have hDn := D.1
  clear D hr1 hb I1
  have e53 : IntKind.i64.wrap (e - 53) = e - 53 := IntWalk.i64_in _ ⟨by omega, by omega⟩
  go_upto_region 3 with fail
  go_cut [] (fun wx => IntAt wx w.heap.size 0 (sz S M) ∧ RRoom wx b ∧ Below w.heap.size w wx)
  case first =>
    cases S
    · go_wp2_with fail
      go_meet
      exact HV.out
    · have hn0 := hn rfl
      have hn1 : (0 : Int) < (n : Int) := by omega
      clear hn hDn
      go_wp2_with fail
      go_meet
      exact HV.out
  case rest =>
    clear c0 c1 f0 f1 hn hDn HV ho
    obtain ⟨I1, hr1, hb⟩ := hcut
    generalize wc = v1 at *
    have hP32 : Fil.dn 32 (sz S M).natAbs ≤ 2 := by rw [sz_abs]; exact HS.out.2.2.2
    obtain ⟨p, hp⟩ : ∃ p, p = sz S M := ⟨_, rfl⟩
    rw [← hp] at I1 hP32 HS
    clear hp
    by_cases hge : 53 ≤ e
    · obtain ⟨k, hk⟩ : ∃ k : Nat, e - 53 = (k : Int) := ⟨(e - 53).toNat, by omega⟩
      have hzz := HS.out.2.1 hge
      rw [hk, Int.toNat_natCast] at hzz
      rw [hk] at e53
      have k0 : (0 : Int) ≤ (k : Int) := by omega
      have hwr : IntKind.u64.wrap (k : Int) = (k : Int) := IntWalk.u64_in _ ⟨by omega, by omega⟩
      have hk1 : k ≤ 1000 := by omega
      have Hz := Lib.hid hzz
      have hd8 : Hid (Fil.dn 32 (p * 2 ^ k).natAbs ≤ 1002) := Lib.hid (by
        rw [Int.natAbs_mul, show ((2 : Int) ^ k).natAbs = 2 ^ k by rw [Int.natAbs_pow]; rfl]
        exact Nat.le_trans (dn_shift hP32) (by omega))
      clear hzz
      go_wp2_with fail
      refine (lsh_any w.heap.size 0 w.heap.size 0 k p v1 I1.room I1 (by omega) (by omega)).mono ?_
      rintro r1 w3 ⟨rfl, I3, hB⟩
      have hr3 := hr1.but hB (Nat.ne_of_lt lb)
      have hb3 := hb.trans (hB.below (Nat.le_refl _) hb.size)
      clear hB I1 hr1 hb
      go_wp2_with fail
      refine (ratsetint_any b w.heap.size (p * 2 ^ k) w3 hr3 I3 (Nat.ne_of_gt lb) (Nat.le_trans hd8.out (by omega))).mono ?_
      rintro r1 w4 ⟨rfl, R4, hF⟩
      go_wp2
      go_ret
      exact ⟨rfl, by rw [Hz.out]; exact R4, Far.after hb3 hF HR.out⟩
    · obtain ⟨k, hk⟩ : ∃ k : Nat, 53 - e = (k : Int) := ⟨(53 - e).toNat, by omega⟩
      have hzz := HS.out.2.2.1 (by omega)
      rw [hk, Int.toNat_natCast] at hzz
      have ek : e - 53 = -(k : Int) := by omega
      rw [ek] at e53
      have k0 : ¬ (0 : Int) ≤ -(k : Int) := by omega
      have hkp : 0 < k := by omega
      have hng : -(-(k : Int)) = (k : Int) := by omega
      have hwr : IntKind.u64.wrap (k : Int) = (k : Int) := IntWalk.u64_in _ ⟨by omega, by omega⟩
      have hk1 : k ≤ 1200 := by omega
      have Hz := Lib.hid hzz
      have hd8 : Hid (Fil.dn 32 ((1 : Int) * 2 ^ k).natAbs ≤ 1202) := Lib.hid (by
        rw [Int.natAbs_mul, show ((2 : Int) ^ k).natAbs = 2 ^ k by rw [Int.natAbs_pow]; rfl]
        exact Nat.le_trans (dn_shift (m := 1) (by decide)) (by omega))
      have hq0 : Hid ((1 : Int) * 2 ^ k ≠ 0) := Lib.hid (by
        rw [Int.one_mul]; exact Int.pow_ne_zero (by decide))
      have hw2 := fun W => newint_any 1 W (by omega) (by omega)
      have I4 := IntAt.zero v1
      have lI := I1.lt
      have lr := hr1.lt
      have hbs := hb.size
      replace I1 := I1.alloc (.cells #[.bool false, .slice none 0 0] 90)
      replace hr1 := hr1.alloc (.cells #[.bool false, .slice none 0 0] 90)
      replace hb := hb.alloc hb.size (.cells #[.bool false, .slice none 0 0] 90)
      clear hzz hge
      go_wp2_with fail
      generalize v1.alloc (.cells #[.bool false, .slice none 0 0] 90) = v2 at *
      have n0 : w.heap.size ≠ v1.heap.size := by omega
      have nb : b ≠ v1.heap.size := by omega
      obtain ⟨B2, hB2⟩ : ∃ B2, B2 = v1.heap.size := ⟨_, rfl⟩
      rw [← hB2] at I4 n0 nb hbs ⊢
      clear hB2
      refine (hw2 _).mono ?_
      rintro r1 w3 ⟨rfl, I5, hB⟩
      have l4 := I4.lt
      replace I1 := I1.below hB
      replace I4 := I4.below hB
      replace hr1 := hr1.below hB
      replace hb := hb.trans (hB.mono hb.size)
      have n5 : v2.heap.size ≠ B2 := by omega
      have HN := Lib.hid (And.intro n0 (And.intro nb (And.intro hbs n5)))
      clear hB hw2 n0 nb hbs n5 l4 lI lr
      go_wp2_with fail
      refine (lsh_any B2 0 v2.heap.size 0 k 1 w3 I4.room I5 (by decide) (by omega)).mono ?_
      rintro r1 w4 ⟨rfl, I6, hB⟩
      replace I1 := I1.but hB (.inl HN.out.1)
      replace hr1 := hr1.but hB HN.out.2.1
      replace hb := hb.trans (hB.below HN.out.2.2.1 hb.size)
      clear hB I4 I5
      go_wp2_with fail
      refine (norm_any b w.heap.size 0 B2 0 p (1 * 2 ^ k) w4 hr1 I1 I6 (Nat.ne_of_gt lb) (Ne.symm HN.out.2.1) hq0.out (by omega) (Nat.le_trans hd8.out (by omega))).mono ?_
      rintro r1 w5 ⟨rfl, R5, hF⟩
      go_wp2
      go_ret
      exact ⟨rfl, by rw [Hz.out]; exact R5, Far.after hb hF HR.out⟩

theorem ord_lt0 {N : Bool} {r : Nat} (h : r < 9218868437227405312) : (FloatKind.f64.format.order (Ieee.double.word N r) 0 == some .lt) = (N && decide (r ≠ 0)) := by
  have hw : fr (Ieee.double.word N r) = r ∧ fs (Ieee.double.word N r) = N := by
    cases N
    · rw [d_word_f]; exact ⟨fr_lt (by omega), fs_lt (by omega)⟩
    · rw [d_word_t]; unfold fr fs; exact ⟨by omega, by rw [show (9223372036854775808 + r) / 9223372036854775808 = 1 by omega]; rfl⟩
  rw [f64_double, order_some (by rw [hw.1]; omega) (by decide)]
  have hk : fk (Ieee.double.word N r) = if N then -(r : Int) else r := by unfold fk; rw [hw.1, hw.2]
  rw [hk, show fk 0 = 0 from rfl]
  by_cases h0 : r = 0
  · subst h0; cases N <;> rfl
  · cases N
    · rw [if_neg (by decide), cmp_gt (by omega)]; rfl
    · rw [if_pos rfl, cmp_lt (by omega), decide_eq_true h0]; rfl
theorem word_lt {N : Bool} {r : Nat} (h : r < 9223372036854775808) : Ieee.double.word N r < 18446744073709551616 := by cases N; rw [d_word_f]; omega; rw [d_word_t]; omega
theorem word_mag {N : Bool} {r : Nat} (h : r < 9223372036854775808) : magB (Ieee.double.word N r) = r := by unfold magB; cases N; rw [d_word_f]; omega; rw [d_word_t]; omega
set_option maxHeartbeats 2000000 in
theorem mldexp_zero (w : World) : Calls Tryz.prog 140 #[.float .f64 0, .int .i64 53] w fun x w' => x = .returned (.float .f64 0) ∧ w = w' := by
  have h : ∀ W, Calls Tryz.prog 154 #[.float .f64 0, .int .i64 53] W fun x w' => x = .returned (.float .f64 0) ∧ W = w' := fun W => by
    have o0 : (FloatKind.f64.format.order 0 0 == some .eq) = true := by kernel_rfl
    go_enter Tryz.func154, Tryz.ntmps154
    go_wp2
    go_ret
    exact ⟨rfl, rfl⟩
  go_enter Tryz.func140, Tryz.ntmps140
  go_wp2_with (go_at_call 154; go_must (refine (h _).mono ?_); rintro r w1 ⟨rfl, rfl⟩)
  go_ret
  exact ⟨rfl, rfl⟩
set_option maxHeartbeats 2000000 in
theorem mfrexp_zero (w : World) : Calls Tryz.prog 142 #[.float .f64 0] w fun x w' => x = .returned (.tuple #[.float .f64 0, .int .i64 0]) ∧ w = w' := by
  have h : ∀ W, Calls Tryz.prog 156 #[.float .f64 0] W fun x w' => x = .returned (.tuple #[.float .f64 0, .int .i64 0]) ∧ W = w' := fun W => by
    have o0 : (FloatKind.f64.format.order 0 0 == some .eq) = true := by kernel_rfl
    go_enter Tryz.func156, Tryz.ntmps156
    go_wp2
    go_returns
    exact ⟨rfl, rfl⟩
  go_enter Tryz.func142, Tryz.ntmps142
  go_wp2_with (go_at_call 156; go_must (refine (h _).mono ?_); rintro r w1 ⟨rfl, rfl⟩)
  go_returns
  exact ⟨rfl, rfl⟩
theorem divInt_cross {a b c d : Int} (hb : b ≠ 0) (hd : d ≠ 0) (h : a * d = c * b) : Rat.divInt a b = Rat.divInt c d := (Rat.divInt_eq_divInt_iff hb hd).2 h
theorem sz_pow (S : Bool) (M k : Nat) : sz S M * (2 : Int) ^ k = sz S (M * 2 ^ k) := by cases S <;> simp [sz, Int.neg_mul]
theorem rsetfloat_any (b : Nat) (N : Bool) (r : Nat) (w : World) (hr : RRoom w b) (h : r < 9218868437227405312) :
    Calls Tryz.prog 123 #[.pointer (some ⟨b, 0, none⟩), .float .f64 (Ieee.double.word N r)] w fun x w' => x = .returned (.pointer (some ⟨b, 0, none⟩)) ∧ RatAt w' b (fRat N r) ∧ Far w w' b := by
  have ha := fun W => mabs_any (Ieee.double.word N r) W (word_lt (by omega))
  rw [word_mag (by omega)] at ha
  have hP0 : (P74 : Int) ≠ 0 := by have := P74_pos; omega
  by_cases h0 : r = 0
  · subst h0
    refine rsetfloat_by b 0 _ 0 0 0 0 false _ w hr (by omega) (by omega) (by omega) (by simp) ha (fun W => mfrexp_zero W) (fun W => mldexp_zero W) (by kernel_rfl) (by rw [ord_lt0 (by omega)]; simp) (fun h => by omega) (fun _ => ?_)
    unfold fRat
    rw [mv_zero, sz_zero, Rat.zero_divInt, show sz false 0 = 0 from rfl, Rat.zero_divInt]
  · obtain ⟨F, e, hF, he0, he1, hv, hfr⟩ := mfrexp_any r h0 h
    refine rsetfloat_by b r _ _ _ (4503599627370496 + F) e N _ w hr he0 he1 (by omega) (fun _ => by omega) ha hfr (fun W => ldexp_53 F hF W) (whole_53 F hF) (by rw [ord_lt0 h, decide_eq_true h0, Bool.and_true]) (fun hg => ?_) (fun hl => ?_)
    · unfold fRat
      obtain ⟨k, hk⟩ : ∃ k : Nat, e - 53 = (k : Int) := ⟨(e - 53).toNat, by omega⟩
      rw [hk, Int.toNat_natCast]
      refine divInt_cross hP0 (by decide) ?_
      obtain ⟨K, hK⟩ : ∃ K, K = 1074 := ⟨_, rfl⟩
      rw [P74_eq hK, Int.mul_one, Int.natCast_pow, show ((2 : Nat) : Int) = 2 from rfl, Int.mul_assoc, ← Int.pow_add, sz_pow]
      congr 1
      refine Nat.eq_of_mul_eq_mul_right (show 0 < 4503599627370496 by decide) ?_
      rw [hv, Nat.mul_assoc, show (4503599627370496 : Nat) = 2 ^ 52 by rfl, ← Nat.pow_add]
      congr 2; omega
    · unfold fRat
      obtain ⟨k, hk⟩ : ∃ k : Nat, 53 - e = (k : Int) := ⟨(53 - e).toNat, by omega⟩
      rw [hk, Int.toNat_natCast, Int.one_mul]
      refine divInt_cross hP0 (Int.pow_ne_zero (by decide)) ?_
      obtain ⟨K, hK⟩ : ∃ K, K = 1074 := ⟨_, rfl⟩
      rw [P74_eq hK, Int.natCast_pow, show ((2 : Nat) : Int) = 2 from rfl, sz_pow, sz_pow]
      congr 1
      refine Nat.eq_of_mul_eq_mul_right (show 0 < 4503599627370496 by decide) ?_
      rw [Nat.mul_right_comm, hv, Nat.mul_assoc, Nat.mul_assoc, show (4503599627370496 : Nat) = 2 ^ 52 by rfl, ← Nat.pow_add, ← Nat.pow_add]
      congr 2; omega
end Go.Proofs.YtbfnafcpjbdbpaaGreat

/- bits.Up, bits.Down; ratio.against. -/
namespace Go.Proofs.YtbfnafcpjbdbpaaGreat
open Go Go.RowKit Go.PlainAid Fil

theorem word_parts {N : Bool} {R : Nat} (h : R < 9223372036854775808) : fr (Ieee.double.word N R) = R ∧ fs (Ieee.double.word N R) = N := by
  cases N
  · rw [d_word_f]; exact ⟨fr_lt h, fs_lt h⟩
  · rw [d_word_t]; unfold fr fs; exact ⟨by omega, by rw [show (9223372036854775808 + R) / 9223372036854775808 = 1 by omega]; rfl⟩
theorem ord_word_self {N : Bool} {R : Nat} (h : R ≤ 9218868437227405312) : (FloatKind.f64.format.order (Ieee.double.word N R) (Ieee.double.word N R) != some .eq) = false := by
  have hw := word_parts (N := N) (R := R) (by omega)
  rw [f64_double, order_some (by rw [hw.1]; exact h) (by rw [hw.1]; exact h)]
  simp [compare, compareOfLessAndEq]
theorem ord_mag_max {R : Nat} (h : R ≤ 9218868437227405312) : (FloatKind.f64.format.order R 9218868437227405311 == some .gt) = decide (R = 9218868437227405312) := by
  rw [order_pos h (by omega)]
  by_cases e : R = 9218868437227405312
  · rw [decide_eq_true e, cmp_gt (by omega)]; rfl
  · rw [decide_eq_false e]
    rcases Nat.lt_or_ge R 9218868437227405311 with h1 | h1
    · rw [cmp_lt (by omega)]; rfl
    · rw [show R = 9218868437227405311 by omega]; rfl
theorem isinf0 (N : Bool) (R : Nat) (w : World) (h : R ≤ 9218868437227405312) : Calls Tryz.prog 122 #[.float .f64 (Ieee.double.word N R), .int .i64 0] w fun r w' => r = .returned (.bool (decide (R = 9218868437227405312))) ∧ w = w' := by
  have := isinf_any (Ieee.double.word N R) w (word_lt (by omega))
  rw [word_mag (by omega), ord_mag_max h] at this
  exact this
set_option maxHeartbeats 1000000 in
theorem isinf1 (N : Bool) (R : Nat) (w : World) (h : R ≤ 9218868437227405312) (hN : N = true ∨ R < 9218868437227405312) : Calls Tryz.prog 122 #[.float .f64 (Ieee.double.word N R), .int .i64 1] w fun r w' => r = .returned (.bool false) ∧ w = w' := by
  have hw := word_parts (N := N) (R := R) (by omega)
  have ho : (FloatKind.f64.format.order (Ieee.double.word N R) 9218868437227405311 == some .gt) = false := by
    rw [f64_double, order_some (by rw [hw.1]; exact h) (by decide)]
    have hk : fk (Ieee.double.word N R) = if N then -(R : Int) else R := by unfold fk; rw [hw.1, hw.2]
    rw [hk, show fk 9218868437227405311 = 9218868437227405311 by decide]
    cases N
    · have : R < 9218868437227405312 := by rcases hN with h | h; exact absurd h (by decide); exact h
      rw [if_neg (by decide)]
      rcases Nat.lt_or_ge R 9218868437227405311 with h1 | h1
      · rw [cmp_lt (by omega)]; rfl
      · rw [show R = 9218868437227405311 by omega]; rfl
    · rw [if_pos rfl, cmp_lt (by omega)]; rfl
  generalize Ieee.double.word N R = X at *
  clear h hN hw
  go_enter Tryz.func122, Tryz.ntmps122
  go_wp2
  go_ret
  exact ⟨rfl, rfl⟩
theorem neg_word {N : Bool} {R : Nat} (h : R < 9223372036854775808) : Op.negFloat .f64 (Ieee.double.word N R) = Ieee.double.word (!N) R := by
  unfold Op.negFloat
  rw [show FloatKind.f64.format.exponentBits + FloatKind.f64.format.fractionBits = 63 from rfl]
  cases N
  · rw [d_word_f, show (!false) = true from rfl, d_word_t, xor_top2 (s := 63) h]
  · rw [d_word_t, show (!true) = false from rfl, d_word_f, show 9223372036854775808 + R = R ^^^ 2 ^ 63 by rw [xor_top2 (s := 63) h], Nat.xor_assoc, Nat.xor_self, Nat.xor_zero]
set_option maxHeartbeats 1000000 in
theorem isinfm (N : Bool) (R : Nat) (w : World) (h : R ≤ 9218868437227405312) (hN : N = false ∨ R < 9218868437227405312) : Calls Tryz.prog 122 #[.float .f64 (Ieee.double.word N R), .int .i64 (-1)] w fun r w' => r = .returned (.bool false) ∧ w = w' := by
  have hng : ∀ W, (Op.unary UnOp.neg (.float .f64 (Ieee.double.word N R))).run Tryz.prog W = .ok (.float .f64 (Ieee.double.word (!N) R)) W := fun W => by
    rw [← neg_word (by omega)]; rfl
  have hw := word_parts (N := !N) (R := R) (by omega)
  have ho : (FloatKind.f64.format.order (Ieee.double.word (!N) R) 9218868437227405311 == some .gt) = false := by
    rw [f64_double, order_some (by rw [hw.1]; exact h) (by decide)]
    have hk : fk (Ieee.double.word (!N) R) = if (!N) then -(R : Int) else R := by unfold fk; rw [hw.1, hw.2]
    rw [hk, show fk 9218868437227405311 = 9218868437227405311 by decide]
    cases N
    · rw [show (!false) = true from rfl, if_pos rfl, cmp_lt (by omega)]; rfl
    · rw [show (!true) = false from rfl]
      have : R < 9218868437227405312 := by rcases hN with h | h; exact absurd h (by decide); exact h
      rw [if_neg (by decide)]
      rcases Nat.lt_or_ge R 9218868437227405311 with h1 | h1
      · rw [cmp_lt (by omega)]; rfl
      · rw [show R = 9218868437227405311 by omega]; rfl
  generalize Ieee.double.word (!N) R = Y at *
  generalize Ieee.double.word N R = X at *
  clear h hN hw
  go_enter Tryz.func122, Tryz.ntmps122
  go_wp2
  go_ret
  exact ⟨rfl, rfl⟩
theorem sign_bits (N : Bool) {R : Nat} (h : R < 9223372036854775808) : bits BinOp.and IntKind.u64 ((Ieee.double.word N R : Nat) : Int) 9223372036854775808 = if N then 9223372036854775808 else 0 := by
  have h1 := u64_and_nat (Ieee.double.word N R) 9223372036854775808 (word_lt h) (by omega)
  rw [show ((9223372036854775808 : Nat) : Int) = 9223372036854775808 from rfl] at h1
  rw [h1]
  have e : Ieee.double.word N R &&& 9223372036854775808 = if N then 9223372036854775808 else 0 := by
    apply Nat.eq_of_testBit_eq
    intro i
    rw [Nat.testBit_and, show (9223372036854775808 : Nat) = 2 ^ 63 by rfl, Nat.testBit_two_pow]
    by_cases hi : 63 = i
    · subst hi
      rw [decide_eq_true rfl, Bool.and_true]
      cases N
      · rw [d_word_f, Nat.testBit_lt_two_pow (by omega)]; rfl
      · rw [d_word_t, if_pos rfl, show (9223372036854775808 : Nat) + R = 2 ^ 63 + R by rfl, Nat.testBit_two_pow_add_eq, Nat.testBit_lt_two_pow (by omega), Nat.testBit_two_pow, decide_eq_true rfl]; rfl
    · rw [decide_eq_false hi, Bool.and_false]
      cases N
      · rw [if_neg (by decide), Nat.zero_testBit]
      · rw [if_pos rfl, Nat.testBit_two_pow, decide_eq_false hi]
  rw [e]; cases N <;> rfl
/-- the float above -/
def upW (N : Bool) (R : Nat) : Nat := if R = 0 then 1 else if N then Ieee.double.word true (R - 1) else R + 1
/-- the float below -/
def dnW (N : Bool) (R : Nat) : Nat := if R = 0 then 9223372036854775809 else if N then Ieee.double.word true (R + 1) else R - 1
set_option maxRecDepth 100000 in
set_option maxHeartbeats 2000000 in
theorem bup_any (N : Bool) (R : Nat) (w : World) (h : R ≤ 9218868437227405312) (hN : N = true ∨ R < 9218868437227405312) : Calls Tryz.prog 87 #[.float .f64 (Ieee.double.word N R)] w fun r w' => r = .returned (.float .f64 (upW N R)) ∧ w = w' := by
  have hi := fun W => isinf1 N R W h hN
  have o1 := ord_word_self (N := N) h
  have oz := ord_word0 N h
  have hs := sign_bits N (R := R) (by omega)
  have h1 := run_f64bits
  have h2 := run_f64from
  have hlt := word_lt (N := N) (r := R) (by omega)
  by_cases h0 : R = 0
  · have e : upW N R = 1 := by unfold upW; rw [if_pos h0]
    rw [e]
    rw [show (R == 0) = true by rw [h0]; rfl] at oz
    generalize Ieee.double.word N R = X at *
    clear h0 e hs hN h
    go_enter Tryz.func87, Tryz.ntmps87
    go_wp2_with (go_at_call 122; go_must (refine (hi _).mono ?_); rintro r w1 ⟨rfl, rfl⟩)
    go_ret
    exact ⟨rfl, rfl⟩
  · rw [show (R == 0) = false from beq_eq_false_iff_ne.2 h0] at oz
    cases N
    · have e : upW false R = R + 1 := by unfold upW; rw [if_neg h0]; rfl
      rw [e]
      have hR : R < 9218868437227405312 := by rcases hN with h | h; exact absurd h (by decide); exact h
      rw [d_word_f, if_neg (by decide)] at hs
      rw [d_word_f] at hi o1 oz hlt ⊢
      have hw : IntKind.u64.wrap ((R : Int) + 1) = ((R + 1 : Nat) : Int) := by rw [IntWalk.u64_in _ ⟨by omega, by omega⟩]; omega
      have ht : ((R + 1 : Nat) : Int).toNat = R + 1 := Int.toNat_natCast _
      obtain ⟨Q, hQ⟩ : ∃ Q, Q = R + 1 := ⟨_, rfl⟩
      have hQi : (R : Int) + 1 = (Q : Int) := by omega
      rw [← hQ] at hw ht ⊢
      have hQ2 : Q < 18446744073709551616 := by omega
      clear h0 e h hN hR hQ
      go_enter Tryz.func87, Tryz.ntmps87
      go_wp2_with (go_at_call 122; go_must (refine (hi _).mono ?_); rintro r w1 ⟨rfl, rfl⟩)
      go_ret
      exact ⟨rfl, rfl⟩
    · have e : upW true R = Ieee.double.word true (R - 1) := by unfold upW; rw [if_neg h0]; rfl
      rw [e]
      rw [if_pos rfl] at hs
      obtain ⟨X, hX⟩ : ∃ X, X = Ieee.double.word true R := ⟨_, rfl⟩
      obtain ⟨Q, hQ⟩ : ∃ Q, Q = Ieee.double.word true (R - 1) := ⟨_, rfl⟩
      have hQX : X = Q + 1 := by rw [hX, hQ, d_word_t, d_word_t]; omega
      rw [← hX] at hi o1 oz hs hlt ⊢
      rw [← hQ]
      have hQi : (X : Int) - 1 = (Q : Int) := by omega
      have hQ2 : Q < 18446744073709551616 := by omega
      clear h0 e h hN hX hQ hQX
      go_enter Tryz.func87, Tryz.ntmps87
      go_wp2_with (go_at_call 122; go_must (refine (hi _).mono ?_); rintro r w1 ⟨rfl, rfl⟩)
      go_ret
      exact ⟨rfl, rfl⟩
set_option maxRecDepth 100000 in
set_option maxHeartbeats 2000000 in
theorem bdown_any (N : Bool) (R : Nat) (w : World) (h : R ≤ 9218868437227405312) (hN : N = false ∨ R < 9218868437227405312) : Calls Tryz.prog 86 #[.float .f64 (Ieee.double.word N R)] w fun r w' => r = .returned (.float .f64 (dnW N R)) ∧ w = w' := by
  have hi := fun W => isinfm N R W h hN
  have o1 := ord_word_self (N := N) h
  have oz := ord_word0 N h
  have hs := sign_bits N (R := R) (by omega)
  have h1 := run_f64bits
  have h2 := run_f64from
  have hlt := word_lt (N := N) (r := R) (by omega)
  by_cases h0 : R = 0
  · have e : dnW N R = 9223372036854775809 := by unfold dnW; rw [if_pos h0]
    rw [e]
    rw [show (R == 0) = true by rw [h0]; rfl] at oz
    generalize Ieee.double.word N R = X at *
    clear h0 e hs hN h
    go_enter Tryz.func86, Tryz.ntmps86
    go_wp2_with (go_at_call 122; go_must (refine (hi _).mono ?_); rintro r w1 ⟨rfl, rfl⟩)
    go_ret
    exact ⟨rfl, rfl⟩
  · rw [show (R == 0) = false from beq_eq_false_iff_ne.2 h0] at oz
    cases N
    · have e : dnW false R = R - 1 := by unfold dnW; rw [if_neg h0]; rfl
      rw [e]
      rw [d_word_f, if_neg (by decide)] at hs
      rw [d_word_f] at hi o1 oz hlt ⊢
      obtain ⟨Q, hQ⟩ : ∃ Q, Q = R - 1 := ⟨_, rfl⟩
      have hQi : (R : Int) - 1 = (Q : Int) := by omega
      rw [← hQ]
      have hQ2 : Q < 18446744073709551616 := by omega
      clear h0 e h hN hQ
      go_enter Tryz.func86, Tryz.ntmps86
      go_wp2_with (go_at_call 122; go_must (refine (hi _).mono ?_); rintro r w1 ⟨rfl, rfl⟩)
      go_ret
      exact ⟨rfl, rfl⟩
    · have e : dnW true R = Ieee.double.word true (R + 1) := by unfold dnW; rw [if_neg h0]; rfl
      rw [e]
      have hR : R < 9218868437227405312 := by rcases hN with h | h; exact absurd h (by decide); exact h
      rw [if_pos rfl] at hs
      obtain ⟨X, hX⟩ : ∃ X, X = Ieee.double.word true R := ⟨_, rfl⟩
      obtain ⟨Q, hQ⟩ : ∃ Q, Q = Ieee.double.word true (R + 1) := ⟨_, rfl⟩
      have hQX : Q = X + 1 := by rw [hX, hQ, d_word_t, d_word_t]; omega
      have hQ2 : Q < 18446744073709551616 := by rw [hQ, d_word_t]; omega
      rw [← hX] at hi o1 oz hs hlt ⊢
      rw [← hQ]
      have hQi : (X : Int) + 1 = (Q : Int) := by omega
      clear h0 e h hN hX hQ hQX hR
      go_enter Tryz.func86, Tryz.ntmps86
      go_wp2_with (go_at_call 122; go_must (refine (hi _).mono ?_); rintro r w1 ⟨rfl, rfl⟩)
      go_ret
      exact ⟨rfl, rfl⟩
end Go.Proofs.YtbfnafcpjbdbpaaGreat
