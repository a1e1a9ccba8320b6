/- The walks over math.IsInf with a sign, dyad.Against, the reference's Against. -/
import Derived.Test.YtgcifpjhhoalmaaDoorBL
import Derived.Test.YtgcifpjhhoalmaaDoorBI
namespace Go.Proofs.YtgcifpjhhoalmaaDoor
open Go Go.RowKit Go.PlainAid Fil

/-- a float with the other sign -/
def ngB (b : Nat) : Nat := if b < 9223372036854775808 then 9223372036854775808 + b else b - 9223372036854775808
theorem xor_top {b s : Nat} (h : b < 2 ^ s) : b ^^^ 2 ^ s = 2 ^ s + b := by
  apply Nat.eq_of_testBit_eq
  intro i
  rw [Nat.testBit_xor, Nat.testBit_two_pow]
  rcases Nat.lt_trichotomy i s with hi | hi | hi
  · rw [Nat.testBit_two_pow_add_gt hi, decide_eq_false (by omega), Bool.xor_false]
  · subst hi
    rw [Nat.testBit_two_pow_add_eq, Nat.testBit_lt_two_pow h, decide_eq_true rfl]; rfl
  · have h1 : 2 ^ s * 2 ≤ 2 ^ i := by rw [← Nat.pow_succ]; exact pmono hi
    rw [Nat.testBit_lt_two_pow (show b < 2 ^ i by omega), Nat.testBit_lt_two_pow (show 2 ^ s + b < 2 ^ i by omega), decide_eq_false (by omega)]; rfl
theorem neg_ngB {b : Nat} (h : b < 18446744073709551616) : Op.negFloat .f64 b = ngB b := by
  unfold Op.negFloat ngB
  rw [show FloatKind.f64.format.exponentBits + FloatKind.f64.format.fractionBits = 63 from rfl]
  by_cases h1 : b < 9223372036854775808
  · rw [if_pos h1, xor_top (s := 63) (by omega)]
  · rw [if_neg h1]
    obtain ⟨c, hc⟩ : ∃ c, c = b - 9223372036854775808 := ⟨_, rfl⟩
    have hx := xor_top (s := 63) (b := c) (by omega)
    have hb : b ^^^ 2 ^ 63 = c := by
      rw [show b = c ^^^ 2 ^ 63 by rw [hx]; omega, Nat.xor_assoc, Nat.xor_self, Nat.xor_zero]
    rw [hb, hc]
theorem fr_ngB {b : Nat} (h : b < 18446744073709551616) : fr (ngB b) = fr b := by unfold ngB fr; split <;> omega
theorem fs_ngB {b : Nat} (h : b < 18446744073709551616) : fs (ngB b) = !fs b := by
  have hb : ngB b < 18446744073709551616 := by unfold ngB; split <;> omega
  rw [fs_ge h, fs_ge hb]
  unfold ngB
  split
  · rw [decide_eq_true (by omega), decide_eq_false (by omega)]; rfl
  · rw [decide_eq_false (by omega), decide_eq_true (by omega)]; rfl
theorem fk_ngB {b : Nat} (h : b < 18446744073709551616) : fk (ngB b) = -fk b := by
  unfold fk
  rw [fr_ngB h, fs_ngB h]
  cases fs b <;> simp
theorem ord_gt {a b : Nat} (ha : fr a ≤ 9218868437227405312) (hb : fr b ≤ 9218868437227405312) : (FloatKind.f64.format.order a b == some .gt) = decide (fk b < fk a) := by
  rw [show FloatKind.f64.format = Ieee.double from rfl, order_some ha hb]
  rcases Int.lt_trichotomy (fk a) (fk b) with h1 | h1 | h1
  · rw [cmp_lt h1, decide_eq_false (by omega)]; rfl
  · rw [h1, cmp_eq, decide_eq_false (by omega)]; rfl
  · rw [cmp_gt h1, decide_eq_true h1]; rfl
theorem fk_max : fk 9218868437227405311 = 9218868437227405311 := rfl
theorem fr_max : fr 9218868437227405311 ≤ 9218868437227405312 := by unfold fr; omega

set_option maxRecDepth 20000 in
set_option maxHeartbeats 1000000 in
theorem isinf_up (b : Nat) (w : World) (h : fr b ≤ 9218868437227405312) : Calls Tryd.prog 129 #[.float .f64 b, .int .i64 1] w fun r w' => r = .returned (.bool (decide (9218868437227405311 < fk b))) ∧ w = w' := by
  have ho := ord_gt h fr_max
  rw [fk_max] at ho
  generalize decide (9218868437227405311 < fk b) = D at *
  clear h
  go_enter Tryd.func129, Tryd.ntmps129
  go_wp2
  go_ret
  exact ⟨rfl, rfl⟩
set_option maxRecDepth 20000 in
set_option maxHeartbeats 1000000 in
theorem isinf_down (b : Nat) (w : World) (hb : b < 18446744073709551616) (h : fr b ≤ 9218868437227405312) : Calls Tryd.prog 129 #[.float .f64 b, .int .i64 (-1)] w fun r w' => r = .returned (.bool (decide (fk b < -9218868437227405311))) ∧ w = w' := by
  have hneg : ∀ W : World, (Op.unary UnOp.neg (.float .f64 b)).run Tryd.prog W = .ok (.float .f64 (ngB b)) W := fun W => by rw [← neg_ngB hb]; rfl
  have ho := ord_gt (a := ngB b) (by rw [fr_ngB hb]; exact h) fr_max
  rw [fk_max, fk_ngB hb, show decide (9218868437227405311 < -fk b) = decide (fk b < -9218868437227405311) by rw [Bool.eq_iff_iff, decide_eq_true_eq, decide_eq_true_eq]; omega] at ho
  generalize decide (fk b < -9218868437227405311) = D at *
  generalize ngB b = c at *
  clear h hb
  go_enter Tryd.func129, Tryd.ntmps129
  go_wp2
  go_ret
  exact ⟨rfl, rfl⟩

/-- a Dyad against a float -/
def agV (z e : Int) (b : Nat) : Int := if flQ b = 2047 then (if 9218868437227405312 < fr b then 0 else if fs b = true then 1 else -1) else cmpD z e (sz (fs b) (flM b)) (flE b)
def agE (b : Nat) : Int := if 9218868437227405312 < fr b then 5 else 0
theorem fl_ok {b : Nat} (_h : flQ b ≠ 2047) : mkOk (sz (fs b) (flM b)) (flE b) = true := by
  have h1 := flM_lt b
  have h2 := flE_bd b
  have h3 : tz (flM b) ≤ 52 := by
    by_cases h0 : flM b = 0
    · rw [h0, tz_zero]; omega
    · have h4 := tz_le_log h0
      have h5 : (flM b).log2 < 53 := (Nat.log2_lt h0).2 (by omega)
      omega
  refine mkOk_yes ?_ ?_ ?_
  · rw [sz_abs]
    refine Nat.le_trans (dn_le (n := 8) (by omega) ?_) (by omega)
    exact Nat.lt_of_le_of_lt (Nat.div_le_self _ _) (by omega)
  · rw [sz_abs]; omega
  · rw [sz_abs]; omega
theorem cmpD_mk {z e z' e' : Int} (hk : mkOk z' e' = true) (he : -(lowM : Int) ≤ e') : cmpD z e (mkD z' e').z (mkD z' e').e = cmpD z e z' e' := by
  unfold cmpD
  rw [show W (mkD z' e').z (mkD z' e').e = (mkD z' e').v from rfl, mkD_v hk he]

set_option maxHeartbeats 1000000 in
theorem dagainst_bad (neg : Bool) (s : ByteArray) (e : Int) (b : Nat) (w : World) (h : mayB neg s e = false) (hs : s.size ≤ 9223372036854775807) :
    Calls Tryd.prog 83 #[.agg #[.bool neg, .string s, .int .i64 e], .float .f64 b] w fun r w' => r = .returned (.tuple #[.int .i64 0, .int .i64 2]) ∧ Below w.heap.size w w' := by
  have hc := fun V => check_any neg s e V hs
  rw [h, okE_f] at hc
  clear h hs
  go_enter Tryd.func83, Tryd.ntmps83
  go_wp2_with fail
  (with_reducible refine (hc _).mono ?_)
  rintro r w1 ⟨rfl, hb1⟩
  have hB1 : Below w.heap.size w w1 := ((Below.refl _ _).alloc (Nat.le_refl _) _).trans (hb1.mono (by simp))
  clear hb1
  go_wp2
  go_returns
  exact ⟨rfl, hB1⟩

set_option maxRecDepth 20000 in
set_option maxHeartbeats 4000000 in
theorem dagainst_ok (neg : Bool) (x : Nat) (e : Int) (b : Nat) (w : World) (h : okD neg x e) (hb : b < 18446744073709551616) (hT : Tab w) :
    Calls Tryd.prog 83 #[.agg #[.bool neg, .string (bstr x), .int .i64 e], .float .f64 b] w fun r w' => r = .returned (.tuple #[.int .i64 (agV (sz neg x) e b), .int .i64 (agE b)]) ∧ Below w.heap.size w w' := by
  have hc := fun V => check_any neg (bstr x) e V (bstr_len h)
  rw [mayB_ok h, okE_t] at hc
  have cc := fun (w1 : World) hb => box_cells w neg (bstr x) e (w' := w1) hb
  have hn := fun W => isnan_any b W
  have hD0 := DyAt.put w neg (bstr x) e
  have hq := @flQ_inf b
  unfold agV agE
  by_cases hnan : 9218868437227405312 < fr b
  · rw [nan_yes hnan] at hn
    rw [if_pos (hq.2 (by omega)), if_pos hnan, if_pos hnan]
    clear hq hnan hb h
    generalize bstr x = s at *
    go_enter Tryd.func83, Tryd.ntmps83
    go_wp2_with fail
    (with_reducible refine (hc _).mono ?_)
    rintro r w1 ⟨rfl, hb1⟩
    have hB1 : Below w.heap.size w w1 := ((Below.refl _ _).alloc (Nat.le_refl _) _).trans (hb1.mono (by simp))
    clear hb1 cc hD0 hc
    go_wp2_with (go_at_call 128; go_must (refine (hn _).mono ?_); rintro r w1 ⟨rfl, rfl⟩)
    go_returns
    exact ⟨rfl, hB1⟩
  · rw [nan_no (by omega)] at hn
    rw [if_neg hnan, if_neg hnan]
    have hu := fun W => isinf_up b W (by omega)
    have hd := fun W => isinf_down b W hb (by omega)
    by_cases hinf : flQ b = 2047
    · rw [if_pos hinf]
      have hfr : fr b = 9218868437227405312 := by have := hq.1 hinf; omega
      cases hs : fs b
      · rw [decide_eq_true (by rw [fk_pos hs, hfr]; omega)] at hu
        rw [if_neg (by decide)]
        clear hq hnan hb h hinf hfr hs hd
        generalize bstr x = s at *
        go_enter Tryd.func83, Tryd.ntmps83
        go_wp2_with fail
        (with_reducible refine (hc _).mono ?_)
        rintro r w1 ⟨rfl, hb1⟩
        have hB1 : Below w.heap.size w w1 := ((Below.refl _ _).alloc (Nat.le_refl _) _).trans (hb1.mono (by simp))
        clear hb1 cc hD0 hc
        go_wp2_with (first
          | (go_at_call 128; go_must (refine (hn _).mono ?_); rintro r w1 ⟨rfl, rfl⟩)
          | (go_at_call 129; go_must (refine (hu _).mono ?_); rintro r w1 ⟨rfl, rfl⟩))
        go_returns
        exact ⟨rfl, hB1⟩
      · rw [decide_eq_false (by rw [fk_neg hs, hfr]; omega)] at hu
        rw [decide_eq_true (by rw [fk_neg hs, hfr]; omega)] at hd
        rw [if_pos rfl]
        clear hq hnan hb h hinf hfr hs
        generalize bstr x = s at *
        go_enter Tryd.func83, Tryd.ntmps83
        go_wp2_with fail
        (with_reducible refine (hc _).mono ?_)
        rintro r w1 ⟨rfl, hb1⟩
        have hB1 : Below w.heap.size w w1 := ((Below.refl _ _).alloc (Nat.le_refl _) _).trans (hb1.mono (by simp))
        clear hb1 cc hD0 hc
        go_wp2_with fail
        (with_reducible refine (hn _).mono ?_)
        rintro r w2 ⟨rfl, rfl⟩
        go_wp2_with fail
        (with_reducible refine (hu _).mono ?_)
        rintro r w2 ⟨rfl, rfl⟩
        go_wp2_with fail
        (with_reducible refine (hd _).mono ?_)
        rintro r w2 ⟨rfl, rfl⟩
        go_wp2
        go_returns
        exact ⟨rfl, hB1⟩
    · rw [if_neg hinf]
      have hfr : fr b < 9218868437227405312 := by
        rcases Nat.lt_or_ge (fr b) 9218868437227405312 with h1 | h1
        · exact h1
        · exact absurd (hq.2 h1) hinf
      rw [decide_eq_false (by unfold fk; split <;> omega)] at hu
      rw [decide_eq_false (by unfold fk; split <;> omega)] at hd
      have hfl := fun W hW => dfloat_ok b W hb hinf hW
      have hbd := flE_bd b
      have hlo := lowM_ge
      have hcm := fun W => dcmp_ok neg x e (mkD (sz (fs b) (flM b)) (flE b)).n (mkD (sz (fs b) (flM b)) (flE b)).x (mkD (sz (fs b) (flM b)) (flE b)).e W h (mkD_ok _ _)
      have hve := cmpD_mk (z := sz neg x) (e := e) (fl_ok hinf) (show -(lowM : Int) ≤ flE b by omega)
      unfold DY.z at hve
      rw [hve] at hcm
      have hfv : mkV (sz (fs b) (flM b)) (flE b) = dyR (mkD (sz (fs b) (flM b)) (flE b)).n (mkD (sz (fs b) (flM b)) (flE b)).x (mkD (sz (fs b) (flM b)) (flE b)).e 0 := by
        unfold mkV
        rw [show mkR (sz (fs b) (flM b)) (flE b) = 0 from mkR_ok (fl_ok hinf)]
        rfl
      rw [hfv] at hfl
      unfold dyR at hfl
      generalize mkD (sz (fs b) (flM b)) (flE b) = Y at *
      generalize cmpD (sz neg x) e (sz (fs b) (flM b)) (flE b) = C at *
      obtain ⟨Yn, Yx, Ye⟩ := Y
      dsimp only at hfl hcm
      generalize bstr Yx = Ys at *
      clear hq hnan hb h hinf hfr hve hfv hbd hlo
      generalize bstr x = s at *
      go_enter Tryd.func83, Tryd.ntmps83
      go_wp2_with fail
      (with_reducible refine (hc _).mono ?_)
      rintro r w1 ⟨rfl, hb1⟩
      have hB1 : Below w.heap.size w w1 := ((Below.refl _ _).alloc (Nat.le_refl _) _).trans (hb1.mono (by simp))
      replace hD0 := hD0.keep hb1
      clear hb1 cc hc
      go_wp2_with fail
      (with_reducible refine (hn _).mono ?_)
      rintro r w2 ⟨rfl, rfl⟩
      go_wp2_with fail
      (with_reducible refine (hu _).mono ?_)
      rintro r w2 ⟨rfl, rfl⟩
      go_wp2_with fail
      (with_reducible refine (hd _).mono ?_)
      rintro r w2 ⟨rfl, rfl⟩
      go_wp2_with fail
      (with_reducible refine (hfl _ (hT.below hB1)).mono ?_)
      rintro r w2 ⟨rfl, hb2⟩
      replace hD0 := hD0.keep hb2
      have l0 := hD0.lt
      replace hB1 := hB1.trans (hb2.mono hB1.size)
      clear hb2 hfl
      have hD1 := hD0.allocd (.cells #[.bool Yn, .string Ys, .int .i64 Ye] 24)
      have hY := DyAt.put w2 Yn Ys Ye
      have hB2 := hB1.alloc hB1.size (.cells #[.bool Yn, .string Ys, .int .i64 Ye] 24)
      obtain ⟨c0, c1, c2, -, -, -⟩ := id hD0
      obtain ⟨y0, y1, y2, -, -, -⟩ := id hY
      go_wp2_with fail
      (with_reducible refine (hcm _).mono ?_)
      rintro r w3 ⟨rfl, hb3⟩
      have hB3 := hB2.trans (hb3.mono hB2.size)
      clear c0 c1 c2 y0 y1 y2 hb3 hB2 hB1 hD1 hY hD0
      go_wp2
      go_returns
      exact ⟨rfl, hB3⟩

set_option maxRecDepth 20000 in
set_option maxHeartbeats 4000000 in
theorem ragainst_ok (neg : Bool) (x : Nat) (e : Int) (b : Nat) (w : World) (h : okD neg x e) (hb : b < 18446744073709551616) :
    Calls Tryd.prog 84 #[.agg #[.bool neg, .string (bstr x), .int .i64 e], .float .f64 b] w fun r w' => r = .returned (.tuple #[.int .i64 (agV (sz neg x) e b), .int .i64 (agE b)]) ∧ Below w.heap.size w w' := by
  have hD0 := DyAt.put w neg (bstr x) e
  have hB0 := (Below.refl w.heap.size w).alloc (Nat.le_refl _) (.cells #[.bool neg, .string (bstr x), .int .i64 e] 24)
  have hq := @flQ_inf b
  have hfl := fun W => rfromfloat_any b W hb
  unfold agV agE
  by_cases hnan : 9218868437227405312 < fr b
  · have ho := nan_yes hnan
    rw [if_pos (hq.2 (by omega)), if_pos hnan, if_pos hnan]
    clear hq hnan hb h hfl
    generalize bstr x = s at *
    go_enter Tryd.func84, Tryd.ntmps84
    go_wp2
    go_returns
    exact ⟨rfl, hB0⟩
  · have ho := nan_no (show fr b ≤ 9218868437227405312 by omega)
    rw [if_neg hnan, if_neg hnan]
    unfold flD at hfl
    by_cases hinf : flQ b = 2047
    · rw [if_pos hinf] at hfl ⊢
      simp only [dyR_nil] at hfl
      have hfr : fr b = 9218868437227405312 := by have := hq.1 hinf; omega
      have hg := ord_gt (a := b) (b := 0) (by omega) (by unfold fr; omega)
      rw [fk_nought] at hg
      cases hs : fs b
      · rw [decide_eq_true (by rw [fk_pos hs, hfr]; omega)] at hg
        rw [if_neg (by decide)]
        clear hq hnan hb h hinf hfr hs
        generalize bstr x = s at *
        go_enter Tryd.func84, Tryd.ntmps84
        go_wp2_with fail
        (with_reducible refine (hfl _).mono ?_)
        rintro r w1 ⟨rfl, hb1⟩
        have hB1 := hB0.trans (hb1.mono hB0.size)
        clear hb1 hfl hB0 hD0
        go_wp2
        go_returns
        exact ⟨rfl, hB1.alloc hB1.size _⟩
      · rw [decide_eq_false (by rw [fk_neg hs, hfr]; omega)] at hg
        rw [if_pos rfl]
        clear hq hnan hb h hinf hfr hs
        generalize bstr x = s at *
        go_enter Tryd.func84, Tryd.ntmps84
        go_wp2_with fail
        (with_reducible refine (hfl _).mono ?_)
        rintro r w1 ⟨rfl, hb1⟩
        have hB1 := hB0.trans (hb1.mono hB0.size)
        clear hb1 hfl hB0 hD0
        go_wp2
        go_returns
        exact ⟨rfl, hB1.alloc hB1.size _⟩
    · rw [if_neg hinf] at hfl ⊢
      have hbd := flE_bd b
      have hlo := lowM_ge
      have hcm := fun W => rcmpd_ok neg x e (mkD (sz (fs b) (flM b)) (flE b)).n (mkD (sz (fs b) (flM b)) (flE b)).x (mkD (sz (fs b) (flM b)) (flE b)).e W h (mkD_ok _ _)
      have hve := cmpD_mk (z := sz neg x) (e := e) (fl_ok hinf) (show -(lowM : Int) ≤ flE b by omega)
      unfold DY.z at hve
      rw [hve] at hcm
      have hfv : mkV (sz (fs b) (flM b)) (flE b) = dyR (mkD (sz (fs b) (flM b)) (flE b)).n (mkD (sz (fs b) (flM b)) (flE b)).x (mkD (sz (fs b) (flM b)) (flE b)).e 0 := by
        unfold mkV
        rw [show mkR (sz (fs b) (flM b)) (flE b) = 0 from mkR_ok (fl_ok hinf)]
        rfl
      rw [hfv] at hfl
      unfold dyR at hfl
      generalize mkD (sz (fs b) (flM b)) (flE b) = Y at *
      generalize cmpD (sz neg x) e (sz (fs b) (flM b)) (flE b) = C at *
      obtain ⟨Yn, Yx, Ye⟩ := Y
      dsimp only at hfl hcm
      generalize bstr Yx = Ys at *
      clear hq hnan hb h hinf hve hfv hbd hlo
      generalize bstr x = s at *
      go_enter Tryd.func84, Tryd.ntmps84
      go_wp2_with fail
      (with_reducible refine (hfl _).mono ?_)
      rintro r w2 ⟨rfl, hb2⟩
      replace hD0 := hD0.keep hb2
      have l0 := hD0.lt
      have hB1 := hB0.trans (hb2.mono hB0.size)
      clear hb2 hfl hB0
      have hY := DyAt.put w2 Yn Ys Ye
      have hB2 := hB1.alloc hB1.size (.cells #[.bool Yn, .string Ys, .int .i64 Ye] 24)
      obtain ⟨c0, c1, c2, -, -, -⟩ := id hD0
      obtain ⟨y0, y1, y2, -, -, -⟩ := id hY
      go_wp2_with fail
      (with_reducible refine (hcm _).mono ?_)
      rintro r w3 ⟨rfl, hb3⟩
      have hB3 := hB2.trans (hb3.mono hB2.size)
      clear c0 c1 c2 y0 y1 y2 hb3 hB2 hB1 hY hD0
      go_wp2
      go_returns
      exact ⟨rfl, hB3⟩
end Go.Proofs.YtgcifpjhhoalmaaDoor
