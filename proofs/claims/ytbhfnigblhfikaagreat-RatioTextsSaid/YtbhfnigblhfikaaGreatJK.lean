/- The walk over Rat's Float64. -/
import Derived.Test.YtbhfnigblhfikaaGreatJJ
namespace Go.Proofs.YtbhfnigblhfikaaGreat
open Go Go.RowKit Go.PlainAid Fil

theorem bl_dn {x n : Nat} (h : dn 32 x ≤ n) : bl x ≤ 32 * n := bl_le (lt_of_dn (by omega) h)
theorem IntAt.box {w : World} {A : Option Addr} {n c q : Nat} (h : Dig w A n c q) : IntAt (w.alloc (.cells #[.bool false, .slice A n c] 70)) w.heap.size 0 (q : Int) :=
  ⟨_, 70, A, n, c, heap_alloc_new w _, by simp, by rw [show sg (q : Int) = false from by simp [sg]]; rfl, rfl, by rw [Int.natAbs_natCast]; exact h.alloc _⟩
theorem left_dig (A : Option Addr) (n c x k : Nat) (w : World) (h : Dig w A n c x) (hc : n ≤ 1099511627776) (hk : k ≤ 1099511627776) :
    Calls Tryz.prog 105 #[.slice A n c, .int .u64 (k : Int)] w fun e w' => ∃ A' c', e = .returned (.slice A' (dn 32 (x * 2 ^ k)) c') ∧ Dig w' A' (dn 32 (x * 2 ^ k)) c' (x * 2 ^ k) ∧ Below w.heap.size w w' :=
  (left_any A n c x k w h.1 h.2.1 hc hk h.2.2).mono fun _ _ ⟨A', c', h1, h2, h3, h4⟩ => ⟨A', c', h1, ⟨rfl, h2, h3⟩, h4⟩
theorem p64 {k : Nat} (hk : k < 64) : (2 : Nat) ^ k < 18446744073709551616 := by
  have h : (2 : Nat) ^ k ≤ 2 ^ 63 := Nat.pow_le_pow_right (by omega) (by omega)
  omega
theorem wrap_p2 {k : Nat} (hk : k < 64) : IntKind.u64.wrap ((2 : Int) ^ k) = ((2 ^ k : Nat) : Int) := by
  have h := p64 hk
  rw [show ((2 : Int) ^ k) = ((2 ^ k : Nat) : Int) by simp]
  generalize 2 ^ k = z at *
  show (z : Int) % 18446744073709551616 = z
  omega
theorem and_low {q k : Nat} (hk : k < 64) (hq : q < 18446744073709551616) : bits BinOp.and IntKind.u64 (q : Int) (IntKind.u64.wrap (IntKind.u64.wrap ((2 : Int) ^ k) - 1)) = ((q % 2 ^ k : Nat) : Int) := by
  have h := p64 hk
  have hp := Nat.two_pow_pos k
  rw [wrap_p2 hk, show IntKind.u64.wrap (((2 ^ k : Nat) : Int) - 1) = ((2 ^ k - 1 : Nat) : Int) by
    generalize 2 ^ k = z at *
    show ((z : Int) - 1) % 18446744073709551616 = _
    omega, u64_and_nat q (2 ^ k - 1) hq (by omega), Nat.and_two_pow_sub_one_eq_mod]
theorem div_p2 (q k : Nat) : (q : Int) / 2 ^ k = ((q / 2 ^ k : Nat) : Int) := by
  rw [Int.natCast_ediv]; simp
theorem and_one' (M : Nat) (h : M < 18446744073709551616) : bits BinOp.and IntKind.u64 (M : Int) 1 = ((M % 2 : Nat) : Int) := by
  have h1 := u64_and_nat M 1 h (by omega)
  rw [show ((1 : Nat) : Int) = 1 from rfl] at h1
  rw [h1, Nat.and_one_is_mod]
theorem xor_top2 {b s : Nat} (h : b < 2 ^ s) : b ^^^ 2 ^ s = 2 ^ s + b := by
  apply Nat.eq_of_testBit_eq
  intro i
  rw [Nat.testBit_xor, Nat.testBit_two_pow]
  rcases Nat.lt_trichotomy i s with hi | hi | hi
  · rw [Nat.testBit_two_pow_add_gt hi, decide_eq_false (by omega), Bool.xor_false]
  · subst hi
    rw [Nat.testBit_two_pow_add_eq, Nat.testBit_lt_two_pow h, decide_eq_true rfl]; rfl
  · have hl : 2 ^ (s + 1) ≤ 2 ^ i := Nat.pow_le_pow_right (by omega) hi
    rw [Nat.pow_succ] at hl
    rw [Nat.testBit_lt_two_pow (show b < 2 ^ i by omega), Nat.testBit_lt_two_pow (show 2 ^ s + b < 2 ^ i by omega), decide_eq_false (by omega)]; rfl
theorem run_neg {b : Nat} (h : b < 9223372036854775808) (W : World) : (Op.unary UnOp.neg (.float .f64 b)).run Tryz.prog W = .ok (.float .f64 (Ieee.double.word true b)) W := by
  have e : Op.negFloat .f64 b = Ieee.double.word true b := by
    rw [d_word_t]
    unfold Op.negFloat
    rw [show FloatKind.f64.format.exponentBits + FloatKind.f64.format.fractionBits = 63 from rfl, xor_top2 (s := 63) (by omega)]
  rw [← e]; rfl
theorem dn_shift {x m k : Nat} (h : dn 32 x ≤ m) : dn 32 (x * 2 ^ k) ≤ m + k := by
  apply dn_le (by omega)
  have h1 := lt_of_dn (k := 32) (by omega) h
  calc x * 2 ^ k < 2 ^ (32 * m) * 2 ^ k := Nat.mul_lt_mul_of_pos_right h1 (Nat.two_pow_pos _)
    _ = 2 ^ (32 * m + k) := (Nat.pow_add ..).symm
    _ ≤ 2 ^ (32 * (m + k)) := Nat.pow_le_pow_right (by omega) (by omega)
set_option maxRecDepth 100000 in
set_option maxHeartbeats 4000000 in
theorem rfloat_any (b : Nat) (x : Rat) (w : World) (X : RatAt w b x) (hx : x.num ≠ 0) (hz : Szd 100000000 x) (R : Nat) (hR : R < 9223372036854775808)
    (hL : ∀ W, Calls Tryz.prog 109 #[.float .f64 (floatOfInt .f64 ((rdM (fV x.num.natAbs x.den) (fE x.num.natAbs x.den) + (rdUp (fV x.num.natAbs x.den) (fE x.num.natAbs x.den)).toNat : Nat) : Int)), .int .i64 (rdQ (fV x.num.natAbs x.den) (fE x.num.natAbs x.den))] W fun r w' => r = .returned (.float .f64 R) ∧ W = w') :
    Calls Tryz.prog 92 #[.pointer (some ⟨b, 0, none⟩)] w fun e w' => ∃ ex, e = .returned (.tuple #[.float .f64 (Ieee.double.word (sg x.num) R), .bool ex]) ∧ Below w.heap.size w w' := by
  have hsg := fun W h => ratsign_any b x W h
  have I1 : IntAt w b 0 x.num := X.1
  have I2 : IntAt w b 2 (x.den : Int) := X.2
  have hs0 : (x.num.sign == 0) = false := by rw [beq_eq_false_iff_ne]; exact fun h => hx (Int.sign_eq_zero_iff_zero.1 h)
  generalize x.num.sign = s0 at *
  obtain ⟨A1, n1, c1, k0, k1, D1⟩ := X.1.cells
  obtain ⟨A2, n2, c2, k2, k3, D2⟩ := X.2.cells
  rw [Int.natAbs_natCast] at D2
  have hbl1 := fun W h => bitlen_any b 0 x.num W h (Nat.le_trans hz.1 (by omega))
  have hbl2 := fun W h => bitlen_any b 2 (x.den : Int) W h (by rw [Int.natAbs_natCast]; exact Nat.le_trans hz.2 (by omega))
  rw [Int.natAbs_natCast] at hbl2
  have b1 := bl_dn hz.1
  have b2 := bl_dn hz.2
  have hN : x.num.natAbs ≠ 0 := by omega
  have hD : x.den ≠ 0 := x.den_nz
  have hZ : Hid (dn 32 x.num.natAbs ≤ 100000000 ∧ dn 32 x.den ≤ 100000000) := Lib.hid ⟨hz.1, hz.2⟩
  clear hz hx
  generalize sg x.num = N at *
  generalize x.num.natAbs = n at *
  generalize x.den = d at *
  obtain ⟨S, hS⟩ : ∃ S, S = 60 - ((bl n : Int) - bl d) := ⟨_, rfl⟩
  have HS := Lib.hid hS
  have hb := Below.refl w.heap.size w
  go_enter Tryz.func92, Tryz.ntmps92
  go_wp2_with fail
  refine (hsg _ X).mono ?_
  rintro r w1 ⟨rfl, rfl⟩
  clear hsg
  go_wp2_with fail
  go_quiet ((go_at_call 107; first | exact Calls.quiet_of_same ((hbl1 _ (I1.drewN _)).mono fun _ _ ⟨h1, h2⟩ => ⟨h1, h2.symm⟩) | exact Calls.quiet_of_same ((hbl2 _ (I2.drewN _)).mono fun _ _ ⟨h1, h2⟩ => ⟨h1, h2.symm⟩)))
  clear hbl1 hbl2
  rw [← hS]
  have hS1 : -4000000000 ≤ S := by omega
  have hS2 : S ≤ 4000000000 := by omega
  clear hS
  go_wp2_with fail
  go_quiet (fail)
  have hq1 := fQ_lo hN hD
  have hq2 := fQ_hi (n := n) hD
  have HD := Lib.hid (And.intro hN hD)
  obtain ⟨q, hq⟩ : ∃ q, q = fQ n d := ⟨_, rfl⟩
  obtain ⟨t, ht⟩ : ∃ t, t = fT n d := ⟨_, rfl⟩
  obtain ⟨L, hLn⟩ : ∃ L, L = dn 32 (fR n d) := ⟨_, rfl⟩
  have ht1 := fT_le n d
  have htL : t = if L = 0 then 0 else 1 := by
    rw [ht, hLn]; unfold fT
    by_cases h : fR n d = 0
    · rw [if_pos h, h, dn_zero]; rfl
    · rw [if_neg h, if_neg (fun e => h (dn_eq_zero.1 e))]
  have hV : fV n d = 2 * q + t := by unfold fV; rw [hq, ht]
  have hE : fE n d = -S - 1 := by unfold fE; rw [HS.out]; rfl
  rw [hV, hE] at hL
  rw [← hq] at hq1 hq2
  rw [← ht] at ht1
  have hQ := tl_Q (q := q) (t := t) (by omega) ht1 S
  have hbq : 60 ≤ bl q ∧ bl q ≤ 61 := by
    have e := bl_pos (x := q) (by omega)
    have g := (Nat.le_log2 (show q ≠ 0 by omega) (k := 59)).2 (by omega)
    exact ⟨by omega, bl_le (by omega)⟩
  obtain ⟨k, hk⟩ : ∃ k : Nat, (k : Int) = rdQ (2 * q + t) (-S - 1) + S := ⟨(rdQ (2 * q + t) (-S - 1) + S).toNat, by omega⟩
  have hk7 : 7 ≤ k := by omega
  have hM := tl_M ht1 S hk
  have hU := tl_U ht1 S hk (by omega)
  have hfar := tl_far hq2 ht1 S hk
  generalize rdQ (2 * q + t) (-S - 1) = Q at *
  have hqn := fun (A : Option Addr) (c : Nat) (W : World) (h : Dig W A (dn 32 (fQ n d)) c (fQ n d)) => uint64_any _ 0 (fQ n d : Int) _ (IntAt.box h) (by rw [Int.natAbs_natCast, ← hq]; omega)
  rw [Int.natAbs_natCast, ← hq] at hqn
  have Hq := Lib.hid (And.intro hq hLn)
  have HF := Lib.hid (And.intro htL (And.intro hQ (And.intro hk (And.intro hM (And.intro hU hfar)))))
  have hV' := Lib.hid (And.intro hV hE)
  clear hq hLn ht htL hQ hk hM hU hfar hV hE
  clear hN hD
  have hbw := X.lt
  have hR1 : R < 18446744073709551616 := by omega
  have hR2 : Ieee.double.word true R < 18446744073709551616 := by rw [d_word_t]; omega
  have hneg := run_neg hR
  clear I1 I2 X
  by_cases h0 : 0 ≤ S
  · obtain ⟨s, rfl⟩ : ∃ s : Nat, S = s := ⟨S.toNat, by omega⟩
    have HX : Hid (fX n d = n * 2 ^ s ∧ fY n d = d) := Lib.hid (by
      have e : fS n d = s := HS.out.symm
      unfold fX fY
      rw [e, show (-(s : Int)).toNat = 0 by omega, Int.toNat_natCast, Nat.pow_zero, Nat.mul_one]
      exact ⟨rfl, rfl⟩)
    go_wp2_with fail
    refine (left_dig A1 n1 c1 n s _ (D1.drewN _) (by rw [D1.1]; exact Nat.le_trans hZ.out.1 (by omega)) (by omega)).mono ?_
    rintro r w1 ⟨A3, c3, rfl, D3, hB⟩
    rw [← HX.out.1] at D3 ⊢
    replace D2 := (D2.drewN _).below hB
    replace hb := Below.drewN_left hB
    clear hB D1 h0
    have hX1 : dn 32 (fX n d) ≤ 1099511627000 := by
      rw [HX.out.1]
      have := dn_shift (k := s) hZ.out.1
      omega
    have hov := fun W h1 h2 => over_any A3 A2 (dn 32 (fX n d)) c3 (fX n d) n2 c2 d W h1 h2 hX1 (by rw [D2.1]; exact Nat.le_trans hZ.out.2 (by omega)) HD.out.2
    go_wp2_with fail
    refine (hov _ D3 D2).mono ?_
    clear hov
    rintro r w2 ⟨A4, c4, A5, c5, rfl, D4, D5, hB⟩
    rw [show fX n d / d = fQ n d from by unfold fQ; rw [HX.out.2]] at D4 ⊢
    rw [show fX n d % d = fR n d from by unfold fR; rw [HX.out.2]] at D5 ⊢
    replace hb := hb.trans (hB.mono hb.size)
    clear hB
    rw [← Hq.out.2] at D5 ⊢
    rw [← Hq.out.1] at D4 ⊢
    go_wp2_with fail
    refine (hqn A4 c4 _ D4).mono ?_
    clear hqn
    rintro r w3 ⟨rfl, rfl⟩
    go_wp2_with fail
    refine (len64_any q _ (by omega)).mono ?_
    rintro r w3 ⟨rfl, rfl⟩
    go_upto_region 11 with fail
    rw [← HF.out.2.1]
    have g1 : 0 ≤ Q + (s : Int) ∧ Q + (s : Int) ≤ 5000000000 := by have := HF.out.2.1; omega
    go_upto_region 12 with fail
    rw [← HF.out.2.2.1]
    have g2 : k ≤ 5000000000 := by have := HF.out.2.2.1; omega
    clear g1
    have htL := HF.out.1
    replace hb := hb.alloc hb.size (.cells #[.bool false, .slice A4 (dn 32 q) c4] 70)
    generalize w2.alloc (.cells #[.bool false, .slice A4 (dn 32 q) c4] 70) = w3 at *
    replace k0 : w3.cell? ⟨b, 0, none⟩ = some (.bool N) := (hb.cell (p := ⟨b, 0, none⟩) hbw).trans k0
    clear D4 D5
    by_cases h64 : k < 64
    · have t64 : decide ((k : Int) < 64) = true := decide_eq_true (by omega)
      go_upto_region 15 with fail
      rw [div_p2, and_low h64 (by omega), wrap_p2 (show k - 1 < 64 by omega)]
      have hM := HF.out.2.2.2.1
      have hU := HF.out.2.2.2.2.1
      rw [hM, hU] at hL
      have hmb : q / 2 ^ k < 4611686018427387904 := Nat.lt_of_le_of_lt (Nat.div_le_self _ _) (by omega)
      have hob : q % 2 ^ k < 4611686018427387904 := Nat.lt_of_le_of_lt (Nat.mod_le _ _) (by omega)
      have hhb : 2 ^ (k - 1) < 18446744073709551616 := p64 (by omega)
      have hhp := Nat.two_pow_pos (k - 1)
      clear hM hU HF
      generalize q / 2 ^ k = M at *
      generalize q % 2 ^ k = O at *
      generalize 2 ^ (k - 1) = H at *
      have hone := and_one' M (by omega)
      rcases Nat.lt_trichotomy O H with ho | ho | ho
      · rw [decide_eq_false (show ¬ H < O by omega), decide_eq_false (show ¬ O = H by omega)] at hL
        simp only [Bool.false_and, Bool.or_false, Bool.toNat_false, Nat.add_zero] at hL
        clear htL hone
        go_upto_region 17 with fail
        go_wp2_with fail
        refine (hL _).mono ?_
        rintro r w9 ⟨rfl, rfl⟩
        clear hL
        cases N
        · go_wp2_with (go_at_call 110; go_must (refine (isinf_any _ _ hR1).mono ?_); rintro r w9 ⟨rfl, rfl⟩)
          all_goals go_returns
          all_goals exact ⟨_, rfl, hb⟩
        · go_wp2_with (go_at_call 110; go_must (refine (isinf_any _ _ hR2).mono ?_); rintro r w9 ⟨rfl, rfl⟩)
          all_goals go_returns
          all_goals exact ⟨_, rfl, hb⟩
      · subst ho
        rw [decide_eq_false (show ¬ O < O by omega), show decide (O = O) = true from decide_eq_true rfl] at hL
        by_cases hl : L = 0
        · subst hl
          rw [if_pos rfl] at htL
          subst htL
          rcases (show M % 2 = 0 ∨ M % 2 = 1 by omega) with hm | hm
          · rw [hm] at hL hone
            have hL := fun W => hL W
            simp only [show (false || true && (decide ((0 : Nat) = 1) || decide ((0 : Nat) = 1))) = false from rfl, Bool.toNat_false, Nat.add_zero] at hL
            clear hm
            go_upto_region 17 with fail
            go_wp2_with fail
            refine (hL _).mono ?_
            rintro r w9 ⟨rfl, rfl⟩
            clear hL
            cases N
            · go_wp2_with (go_at_call 110; go_must (refine (isinf_any _ _ hR1).mono ?_); rintro r w9 ⟨rfl, rfl⟩)
              all_goals go_returns
              all_goals exact ⟨_, rfl, hb⟩
            · go_wp2_with (go_at_call 110; go_must (refine (isinf_any _ _ hR2).mono ?_); rintro r w9 ⟨rfl, rfl⟩)
              all_goals go_returns
              all_goals exact ⟨_, rfl, hb⟩
          · rw [hm] at hL hone
            have hL := fun W => hL W
            simp only [Int.natCast_add] at hL
            clear hm
            go_upto_region 17 with fail
            go_wp2_with fail
            refine (hL _).mono ?_
            rintro r w9 ⟨rfl, rfl⟩
            clear hL
            cases N
            · go_wp2_with (go_at_call 110; go_must (refine (isinf_any _ _ hR1).mono ?_); rintro r w9 ⟨rfl, rfl⟩)
              all_goals go_returns
              all_goals exact ⟨_, rfl, hb⟩
            · go_wp2_with (go_at_call 110; go_must (refine (isinf_any _ _ hR2).mono ?_); rintro r w9 ⟨rfl, rfl⟩)
              all_goals go_returns
              all_goals exact ⟨_, rfl, hb⟩
        · rw [if_neg hl] at htL
          subst htL
          simp only [Int.natCast_add] at hL
          clear hone
          go_upto_region 17 with fail
          go_wp2_with fail
          refine (hL _).mono ?_
          rintro r w9 ⟨rfl, rfl⟩
          clear hL
          cases N
          · go_wp2_with (go_at_call 110; go_must (refine (isinf_any _ _ hR1).mono ?_); rintro r w9 ⟨rfl, rfl⟩)
            all_goals go_returns
            all_goals exact ⟨_, rfl, hb⟩
          · go_wp2_with (go_at_call 110; go_must (refine (isinf_any _ _ hR2).mono ?_); rintro r w9 ⟨rfl, rfl⟩)
            all_goals go_returns
            all_goals exact ⟨_, rfl, hb⟩
      · rw [decide_eq_true ho] at hL
        simp only [Bool.true_or, Bool.toNat_true, Int.natCast_add, Int.cast_ofNat_Int] at hL
        clear htL hone
        go_upto_region 17 with fail
        go_wp2_with fail
        refine (hL _).mono ?_
        rintro r w9 ⟨rfl, rfl⟩
        clear hL
        cases N
        · go_wp2_with (go_at_call 110; go_must (refine (isinf_any _ _ hR1).mono ?_); rintro r w9 ⟨rfl, rfl⟩)
          all_goals go_returns
          all_goals exact ⟨_, rfl, hb⟩
        · go_wp2_with (go_at_call 110; go_must (refine (isinf_any _ _ hR2).mono ?_); rintro r w9 ⟨rfl, rfl⟩)
          all_goals go_returns
          all_goals exact ⟨_, rfl, hb⟩
    · have t64 : decide ((k : Int) < 64) = false := decide_eq_false (by omega)
      obtain ⟨hM, hU⟩ := HF.out.2.2.2.2.2 (by omega)
      rw [hM, hU] at hL
      have hL := fun W => hL W
      simp only [Bool.toNat_false, Nat.add_zero, Int.cast_ofNat_Int] at hL
      clear hM hU HF htL
      go_upto_region 17 with fail
      go_wp2_with fail
      refine (hL _).mono ?_
      rintro r w9 ⟨rfl, rfl⟩
      clear hL
      cases N
      · go_wp2_with (go_at_call 110; go_must (refine (isinf_any _ _ hR1).mono ?_); rintro r w9 ⟨rfl, rfl⟩)
        all_goals go_returns
        all_goals exact ⟨_, rfl, hb⟩
      · go_wp2_with (go_at_call 110; go_must (refine (isinf_any _ _ hR2).mono ?_); rintro r w9 ⟨rfl, rfl⟩)
        all_goals go_returns
        all_goals exact ⟨_, rfl, hb⟩
  · obtain ⟨s, hs⟩ : ∃ s : Nat, -S = s := ⟨(-S).toNat, by omega⟩
    have HX : Hid (fX n d = n ∧ fY n d = d * 2 ^ s) := Lib.hid (by
      have e : fS n d = S := HS.out.symm
      unfold fX fY
      rw [e, hs, show S.toNat = 0 by omega, Int.toNat_natCast, Nat.pow_zero, Nat.mul_one]
      exact ⟨rfl, rfl⟩)
    have hs9 : s ≤ 4000000000 := by omega
    have Hs := Lib.hid hs
    clear hs
    go_wp2_with fail
    rw [Hs.out]
    refine (left_dig A2 n2 c2 d s _ (D2.drewN _) (by rw [D2.1]; exact Nat.le_trans hZ.out.2 (by omega)) (by omega)).mono ?_
    rintro r w1 ⟨A3, c3, rfl, D3, hB⟩
    rw [← HX.out.2] at D3 ⊢
    replace D1 := (D1.drewN _).below hB
    replace hb := Below.drewN_left hB
    clear hB D2 h0
    have hX1 : dn 32 (fY n d) ≤ 1099511627000 := by
      rw [HX.out.2]
      have := dn_shift (k := s) hZ.out.2
      omega
    have hov := fun W h1 h2 => over_any A1 A3 n1 c1 n (dn 32 (fY n d)) c3 (fY n d) W h1 h2 (by rw [D1.1]; exact Nat.le_trans hZ.out.1 (by omega)) hX1 (Nat.ne_of_gt (fY_pos HD.out.2))
    go_wp2_with fail
    refine (hov _ D1 D3).mono ?_
    clear hov
    rintro r w2 ⟨A4, c4, A5, c5, rfl, D4, D5, hB⟩
    rw [show n / fY n d = fQ n d from by unfold fQ; rw [HX.out.1]] at D4 ⊢
    rw [show n % fY n d = fR n d from by unfold fR; rw [HX.out.1]] at D5 ⊢
    replace hb := hb.trans (hB.mono hb.size)
    clear hB
    rw [← Hq.out.2] at D5 ⊢
    rw [← Hq.out.1] at D4 ⊢
    go_wp2_with fail
    refine (hqn A4 c4 _ D4).mono ?_
    clear hqn
    rintro r w3 ⟨rfl, rfl⟩
    go_wp2_with fail
    refine (len64_any q _ (by omega)).mono ?_
    rintro r w3 ⟨rfl, rfl⟩
    go_upto_region 11 with fail
    rw [← HF.out.2.1]
    have g1 : 0 ≤ Q + S ∧ Q + S ≤ 5000000000 := by have := HF.out.2.1; omega
    go_upto_region 12 with fail
    rw [← HF.out.2.2.1]
    have g2 : k ≤ 5000000000 := by have := HF.out.2.2.1; omega
    clear g1
    have htL := HF.out.1
    replace hb := hb.alloc hb.size (.cells #[.bool false, .slice A4 (dn 32 q) c4] 70)
    generalize w2.alloc (.cells #[.bool false, .slice A4 (dn 32 q) c4] 70) = w3 at *
    replace k0 : w3.cell? ⟨b, 0, none⟩ = some (.bool N) := (hb.cell (p := ⟨b, 0, none⟩) hbw).trans k0
    clear D4 D5
    by_cases h64 : k < 64
    · have t64 : decide ((k : Int) < 64) = true := decide_eq_true (by omega)
      go_upto_region 15 with fail
      rw [div_p2, and_low h64 (by omega), wrap_p2 (show k - 1 < 64 by omega)]
      have hM := HF.out.2.2.2.1
      have hU := HF.out.2.2.2.2.1
      rw [hM, hU] at hL
      have hmb : q / 2 ^ k < 4611686018427387904 := Nat.lt_of_le_of_lt (Nat.div_le_self _ _) (by omega)
      have hob : q % 2 ^ k < 4611686018427387904 := Nat.lt_of_le_of_lt (Nat.mod_le _ _) (by omega)
      have hhb : 2 ^ (k - 1) < 18446744073709551616 := p64 (by omega)
      have hhp := Nat.two_pow_pos (k - 1)
      clear hM hU HF
      generalize q / 2 ^ k = M at *
      generalize q % 2 ^ k = O at *
      generalize 2 ^ (k - 1) = H at *
      have hone := and_one' M (by omega)
      rcases Nat.lt_trichotomy O H with ho | ho | ho
      · rw [decide_eq_false (show ¬ H < O by omega), decide_eq_false (show ¬ O = H by omega)] at hL
        simp only [Bool.false_and, Bool.or_false, Bool.toNat_false, Nat.add_zero] at hL
        clear htL hone
        go_upto_region 17 with fail
        go_wp2_with fail
        refine (hL _).mono ?_
        rintro r w9 ⟨rfl, rfl⟩
        clear hL
        cases N
        · go_wp2_with (go_at_call 110; go_must (refine (isinf_any _ _ hR1).mono ?_); rintro r w9 ⟨rfl, rfl⟩)
          all_goals go_returns
          all_goals exact ⟨_, rfl, hb⟩
        · go_wp2_with (go_at_call 110; go_must (refine (isinf_any _ _ hR2).mono ?_); rintro r w9 ⟨rfl, rfl⟩)
          all_goals go_returns
          all_goals exact ⟨_, rfl, hb⟩
      · subst ho
        rw [decide_eq_false (show ¬ O < O by omega), show decide (O = O) = true from decide_eq_true rfl] at hL
        by_cases hl : L = 0
        · subst hl
          rw [if_pos rfl] at htL
          subst htL
          rcases (show M % 2 = 0 ∨ M % 2 = 1 by omega) with hm | hm
          · rw [hm] at hL hone
            have hL := fun W => hL W
            simp only [show (false || true && (decide ((0 : Nat) = 1) || decide ((0 : Nat) = 1))) = false from rfl, Bool.toNat_false, Nat.add_zero] at hL
            clear hm
            go_upto_region 17 with fail
            go_wp2_with fail
            refine (hL _).mono ?_
            rintro r w9 ⟨rfl, rfl⟩
            clear hL
            cases N
            · go_wp2_with (go_at_call 110; go_must (refine (isinf_any _ _ hR1).mono ?_); rintro r w9 ⟨rfl, rfl⟩)
              all_goals go_returns
              all_goals exact ⟨_, rfl, hb⟩
            · go_wp2_with (go_at_call 110; go_must (refine (isinf_any _ _ hR2).mono ?_); rintro r w9 ⟨rfl, rfl⟩)
              all_goals go_returns
              all_goals exact ⟨_, rfl, hb⟩
          · rw [hm] at hL hone
            have hL := fun W => hL W
            simp only [Int.natCast_add] at hL
            clear hm
            go_upto_region 17 with fail
            go_wp2_with fail
            refine (hL _).mono ?_
            rintro r w9 ⟨rfl, rfl⟩
            clear hL
            cases N
            · go_wp2_with (go_at_call 110; go_must (refine (isinf_any _ _ hR1).mono ?_); rintro r w9 ⟨rfl, rfl⟩)
              all_goals go_returns
              all_goals exact ⟨_, rfl, hb⟩
            · go_wp2_with (go_at_call 110; go_must (refine (isinf_any _ _ hR2).mono ?_); rintro r w9 ⟨rfl, rfl⟩)
              all_goals go_returns
              all_goals exact ⟨_, rfl, hb⟩
        · rw [if_neg hl] at htL
          subst htL
          simp only [Int.natCast_add] at hL
          clear hone
          go_upto_region 17 with fail
          go_wp2_with fail
          refine (hL _).mono ?_
          rintro r w9 ⟨rfl, rfl⟩
          clear hL
          cases N
          · go_wp2_with (go_at_call 110; go_must (refine (isinf_any _ _ hR1).mono ?_); rintro r w9 ⟨rfl, rfl⟩)
            all_goals go_returns
            all_goals exact ⟨_, rfl, hb⟩
          · go_wp2_with (go_at_call 110; go_must (refine (isinf_any _ _ hR2).mono ?_); rintro r w9 ⟨rfl, rfl⟩)
            all_goals go_returns
            all_goals exact ⟨_, rfl, hb⟩
      · rw [decide_eq_true ho] at hL
        simp only [Bool.true_or, Bool.toNat_true, Int.natCast_add, Int.cast_ofNat_Int] at hL
        clear htL hone
        go_upto_region 17 with fail
        go_wp2_with fail
        refine (hL _).mono ?_
        rintro r w9 ⟨rfl, rfl⟩
        clear hL
        cases N
        · go_wp2_with (go_at_call 110; go_must (refine (isinf_any _ _ hR1).mono ?_); rintro r w9 ⟨rfl, rfl⟩)
          all_goals go_returns
          all_goals exact ⟨_, rfl, hb⟩
        · go_wp2_with (go_at_call 110; go_must (refine (isinf_any _ _ hR2).mono ?_); rintro r w9 ⟨rfl, rfl⟩)
          all_goals go_returns
          all_goals exact ⟨_, rfl, hb⟩
    · have t64 : decide ((k : Int) < 64) = false := decide_eq_false (by omega)
      obtain ⟨hM, hU⟩ := HF.out.2.2.2.2.2 (by omega)
      rw [hM, hU] at hL
      have hL := fun W => hL W
      simp only [Bool.toNat_false, Nat.add_zero, Int.cast_ofNat_Int] at hL
      clear hM hU HF htL
      go_upto_region 17 with fail
      go_wp2_with fail
      refine (hL _).mono ?_
      rintro r w9 ⟨rfl, rfl⟩
      clear hL
      cases N
      · go_wp2_with (go_at_call 110; go_must (refine (isinf_any _ _ hR1).mono ?_); rintro r w9 ⟨rfl, rfl⟩)
        all_goals go_returns
        all_goals exact ⟨_, rfl, hb⟩
      · go_wp2_with (go_at_call 110; go_must (refine (isinf_any _ _ hR2).mono ?_); rintro r w9 ⟨rfl, rfl⟩)
        all_goals go_returns
        all_goals exact ⟨_, rfl, hb⟩
end Go.Proofs.YtbhfnigblhfikaaGreat
