/- The walks over dyad.Float and the reference's FromFloat. -/
import Derived.Test.YtfbkopepkklkjaaGreatDoorT1
namespace Go.Proofs.YtfbkopepkklkjaaGreatDoor
open Go Go.RowKit Go.PlainAid Fil

/-- a float's parts -/
def flQ (b : Nat) : Nat := b / 4503599627370496 % 2048
def flM (b : Nat) : Nat := if flQ b = 0 then b % 4503599627370496 else b % 4503599627370496 + 4503599627370496
def flE (b : Nat) : Int := (if flQ b = 0 then (1 : Int) else (flQ b : Int)) - 1075
/-- the Dyad of a float; of what is none -/
def flD (b : Nat) : Value := if flQ b = 2047 then dyR false 0 0 5 else mkV (sz (fs b) (flM b)) (flE b)

theorem flQ_fr (b : Nat) : flQ b = fr b / 4503599627370496 := by unfold flQ fr; omega
theorem flQ_lt (b : Nat) : flQ b < 2048 := Nat.mod_lt _ (by omega)
theorem flQ_inf {b : Nat} : flQ b = 2047 ↔ 9218868437227405312 ≤ fr b := by rw [flQ_fr]; unfold fr; omega
theorem flM_lt (b : Nat) : flM b < 9007199254740992 := by unfold flM; split <;> omega
theorem flM_zero {b : Nat} : flM b = 0 ↔ fr b = 0 := by unfold flM flQ fr; split <;> omega
theorem flE_bd (b : Nat) : -1074 ≤ flE b ∧ flE b ≤ 972 := by
 have := flQ_lt b
 unfold flE; split <;> omega
theorem fs_ge {b : Nat} (h : b < 18446744073709551616) : fs b = decide (9223372036854775808 ≤ b) := by
 unfold fs
 rcases Nat.lt_or_ge b 9223372036854775808 with h1 | h1
 ·rw [Nat.div_eq_of_lt h1, decide_eq_false (by omega)]; rfl
 ·rw [show b / 9223372036854775808 = 1 by omega, decide_eq_true h1]; rfl
theorem magB_fr (b : Nat) : magB b = fr b := rfl
theorem fr_fr (b : Nat) : fr (fr b) = fr b := Nat.mod_mod _ _
theorem cmp_eq (a : Int) : compare a a = .eq := Int.compare_eq_eq.2 rfl
/-- not a NaN; a NaN -/
theorem nan_no {b : Nat} (h : fr b ≤ 9218868437227405312) : (FloatKind.f64.format.order b b != some .eq) = false := by
 rw [show FloatKind.f64.format = Ieee.double from rfl, order_some h h, cmp_eq]; rfl
theorem nan_yes {b : Nat} (h : 9218868437227405312 < fr b) : (FloatKind.f64.format.order b b != some .eq) = true := by
 rw [show FloatKind.f64.format = Ieee.double from rfl, order_nan (.inl h)]; rfl
theorem inf_no {b : Nat} (h : fr b < 9218868437227405312) : (FloatKind.f64.format.order (magB b) 9218868437227405311 == some .gt) = false := by
 have := ord_big (x := magB b) h
 rw [show magB (magB b) = magB b from fr_fr b] at this
 exact this
theorem inf_yes {b : Nat} (h : fr b = 9218868437227405312) : (FloatKind.f64.format.order (magB b) 9218868437227405311 == some .gt) = true := by
 rw [magB_fr, h]; kernel_rfl
theorem fk_pos {b : Nat} (h : fs b = false) : fk b = fr b := by unfold fk; rw [h]; rfl
theorem fk_neg {b : Nat} (h : fs b = true) : fk b = -(fr b : Int) := by unfold fk; rw [h]; rfl
theorem fk_nought : fk 0 = 0 := rfl
theorem ord_neg {b : Nat} (h : fr b ≤ 9218868437227405312) : (FloatKind.f64.format.order b 0 == some .lt) = decide (fk b < 0) := by
 rw [show FloatKind.f64.format = Ieee.double from rfl, order_some h (by unfold fr; omega), fk_nought]
 rcases Int.lt_trichotomy (fk b) 0 with h1 | h1 | h1
 ·rw [cmp_lt h1, decide_eq_true h1]; rfl
 ·rw [h1, cmp_eq]; rfl
 ·rw [cmp_gt h1, decide_eq_false (by omega)]; rfl
theorem bits_low (b : Nat) (h : b < 18446744073709551616) : bits BinOp.and IntKind.u64 (b : Int) 4503599627370495 = ((b % 4503599627370496 : Nat) : Int) := by
 have h1 := u64_and_nat b 4503599627370495 h (by omega)
 rw [show ((4503599627370495 : Nat) : Int) = 4503599627370495 from rfl] at h1
 rw [h1, show 4503599627370495 = 2 ^ 52 - 1 by rfl, Nat.and_two_pow_sub_one_eq_mod]
theorem bits_exp (q : Nat) (h : q < 18446744073709551616) : bits BinOp.and IntKind.u64 (q : Int) 2047 = ((q % 2048 : Nat) : Int) := by
 have h1 := u64_and_nat q 2047 h (by omega)
 rw [show ((2047 : Nat) : Int) = 2047 from rfl] at h1
 rw [h1, show 2047 = 2 ^ 11 - 1 by rfl, Nat.and_two_pow_sub_one_eq_mod]
theorem bits_or52 (F : Nat) (h : F < 4503599627370496) : bits BinOp.or IntKind.i64 (F : Int) 4503599627370496 = ((F + 4503599627370496 : Nat) : Int) := by
 show IntKind.i64.wrap ((BitVec.ofInt 64 (F : Int) ||| BitVec.ofInt 64 4503599627370496).toNat : Int) = _
 have h2 : (BitVec.ofInt 64 (F : Int) ||| BitVec.ofInt 64 4503599627370496).toNat = F ||| 4503599627370496 := by
  rw [BitVec.toNat_or, BitVec.ofInt_natCast, BitVec.toNat_ofNat, Nat.mod_eq_of_lt (by omega)]
  rfl
 have := or_add' (s := 52) (a := 1) (b := F) (by omega)
 rw [show 1 * 2 ^ 52 = 4503599627370496 by rfl] at this
 rw [h2, this, IntKind.wrap_i64]
 omega

set_option maxRecDepth 20000 in
set_option maxHeartbeats 4000000 in
theorem dfloat_bad (b : Nat) (w : World) (hb : b < 18446744073709551616) (h : flQ b = 2047) :
  Calls Tryz.prog 76 #[.float .f64 b] w fun r w' => r = .returned (dyR false 0 0 5) ∧ Below w.heap.size w w' := by
 have hi := fun W => isinf_any b W hb
 have hn := fun W => isnan_any b W
 have hB := (Below.refl w.heap.size w).alloc (Nat.le_refl _) (.cells #[.bool false, .string { data := #[] }, .int .i64 0] 24)
 by_cases h1 : fr b = 9218868437227405312
 ·rw [nan_no (by omega)] at hn
  rw [inf_yes h1] at hi
  clear h h1 hb
  go_enter Tryz.func76, Tryz.ntmps76
  go_wp2_with (first
   | (go_at_call 119; go_must (refine (hi _).mono ?_); rintro r w1 ⟨rfl, rfl⟩)
   | (go_at_call 118; go_must (refine (hn _).mono ?_); rintro r w1 ⟨rfl, rfl⟩))
  go_returns
  exact ⟨dyR_none ⟨rfl, rfl, rfl, rfl⟩, hB⟩
 ·rw [nan_yes (by have := flQ_inf.1 h; omega)] at hn
  clear h h1 hb
  go_enter Tryz.func76, Tryz.ntmps76
  go_wp2_with (first
   | (go_at_call 119; go_must (refine (hi _).mono ?_); rintro r w1 ⟨rfl, rfl⟩)
   | (go_at_call 118; go_must (refine (hn _).mono ?_); rintro r w1 ⟨rfl, rfl⟩))
  go_returns
  exact ⟨dyR_none ⟨rfl, rfl, rfl, rfl⟩, hB⟩

set_option maxRecDepth 20000 in
set_option maxHeartbeats 8000000 in
theorem dfloat_ok (b : Nat) (w : World) (hb : b < 18446744073709551616) (h : flQ b ≠ 2047) (hT : Tab w) :
  Calls Tryz.prog 76 #[.float .f64 b] w fun r w' => r = .returned (mkV (sz (fs b) (flM b)) (flE b)) ∧ Below w.heap.size w w' := by
 have hi := fun W => isinf_any b W hb
 have hn := fun W => isnan_any b W
 have hf : fr b < 9218868437227405312 := by
  rcases Nat.lt_or_ge (fr b) 9218868437227405312 with h1 | h1
  ·exact h1
  ·exact absurd (flQ_inf.2 h1) h
 rw [nan_no (by omega)] at hn
 rw [inf_no hf] at hi
 have h1 := run_f64bits
 have hlow := bits_low b hb
 obtain ⟨q, hq⟩ : ∃ q, q = b / 4503599627370496 := ⟨_, rfl⟩
 have hqd : (b : Int) / 4503599627370496 = (q : Int) := by omega
 have hex := bits_exp q (by omega)
 rw [show q % 2048 = flQ b by rw [hq]; rfl] at hex
 obtain ⟨F, hF⟩ : ∃ F, F = b % 4503599627370496 := ⟨_, rfl⟩
 rw [← hF] at hlow
 have hor := bits_or52 F (by omega)
 have hM : flM b = if flQ b = 0 then F else F + 4503599627370496 := by rw [hF]; rfl
 have hE : flE b = (if flQ b = 0 then (1 : Int) else (flQ b : Int)) - 1075 := rfl
 have hlt := ord_neg (b := b) (by omega)
 have hzz : sz (fs b) (flM b) = if fk b < 0 then -(flM b : Int) else (flM b : Int) := by
  cases hs : fs b
  ·rw [if_neg (by rw [fk_pos hs]; omega)]; rfl
  ·by_cases h0 : fr b = 0
   ·rw [if_neg (by rw [fk_neg hs, h0]; omega), flM_zero.2 h0]; rfl
   ·rw [if_pos (by rw [fk_neg hs]; omega)]; rfl
 have hml := flM_lt b
 have heb := flE_bd b
 have hof := fun W hW => dof_any (sz (fs b) (flM b)) (flE b) W hW (by rw [hzz]; split <;> omega) (by rw [hzz]; split <;> omega) (by omega) (by omega)
 have hQl := flQ_lt b
 rw [hzz] at hof ⊢
 generalize fk b = K at *
 generalize flM b = M at *
 generalize flE b = e at *
 have hB := (Below.refl w.heap.size w).alloc (Nat.le_refl _) (.cells #[.bool false, .string { data := #[] }, .int .i64 0] 24)
 have hD := DyAt.put w false { data := #[] } 0
 have hTT := hT.below hB
 have F0 : 0 ≤ (F : Int) := by omega
 have F1 : (F : Int) < 4503599627370496 := by omega
 have Q0 : 0 ≤ (flQ b : Int) := by omega
 have Q1 : (flQ b : Int) < 2048 := by omega
 by_cases hk : K < 0
 ·have k1 : decide (K < 0) = true := decide_eq_true hk
  rw [k1] at hlt
  rw [if_pos hk] at hof ⊢
  by_cases hq0 : flQ b = 0
  ·rw [if_pos hq0] at hM hE
   rw [show (1 : Int) - 1075 = -1074 by rfl] at hE
   subst hM
   subst hE
   rw [hq0] at hex
   clear hk k1 hq0 h hf hb hzz hml heb hQl hq hF
   unfold mkV at hof ⊢
   unfold dyR at hof ⊢
   generalize mkN (-(M : Int)) (-1074) = VN at *
   generalize bstr (mkX (-(M : Int)) (-1074)) = VS at *
   generalize mkE (-(M : Int)) (-1074) = VE at *
   generalize mkR (-(M : Int)) (-1074) = VR at *
   go_enter Tryz.func76, Tryz.ntmps76
   go_wp2_with (first
    | (go_at_call 119; go_must (refine (hi _).mono ?_); rintro r w1 ⟨rfl, rfl⟩)
    | (go_at_call 118; go_must (refine (hn _).mono ?_); rintro r w1 ⟨rfl, rfl⟩))
   (with_reducible refine (hof _ hTT).mono ?_)
   rintro r w2 ⟨rfl, hb2⟩
   replace hD := hD.keep hb2
   replace hB := hB.trans (hb2.mono hB.size)
   obtain ⟨c0, c1, c2, f0, f1, f2⟩ := hD
   have hbZ : Below w.heap.size w (((w2.setCell ⟨w.heap.size, 0, none⟩ (.bool VN)).setCell ⟨w.heap.size, 1, none⟩ (.string VS)).setCell ⟨w.heap.size, 2, none⟩ (.int .i64 VE)) := ((hB.setCell (Nat.le_refl _) _).setCell (Nat.le_refl _) _).setCell (Nat.le_refl _) _
   clear hb2 hB hof hi hn
   go_wp2
   exact bodyPost_ret (v := .tuple #[.agg #[.bool VN, .string VS, .int .i64 VE], .int .i64 VR]) (by simp [results, Tryz.results76, go_sem, c0, c1, c2]) rfl ⟨rfl, hbZ⟩
  ·rw [if_neg hq0] at hM hE
   subst hM
   subst hE
   have hq1 : ((flQ b : Int) == 0) = false := by simpa using hq0
   generalize flQ b = qq at *
   rw [show ((F + 4503599627370496 : Nat) : Int) = (F : Int) + 4503599627370496 by omega] at hof hor ⊢
   clear hk k1 hq0 h hf hb hzz hml heb hQl hq hF
   unfold mkV at hof ⊢
   unfold dyR at hof ⊢
   generalize mkN (-((F : Int) + 4503599627370496)) ((qq : Int) - 1075) = VN at *
   generalize bstr (mkX (-((F : Int) + 4503599627370496)) ((qq : Int) - 1075)) = VS at *
   generalize mkE (-((F : Int) + 4503599627370496)) ((qq : Int) - 1075) = VE at *
   generalize mkR (-((F : Int) + 4503599627370496)) ((qq : Int) - 1075) = VR at *
   go_enter Tryz.func76, Tryz.ntmps76
   go_wp2_with (first
    | (go_at_call 119; go_must (refine (hi _).mono ?_); rintro r w1 ⟨rfl, rfl⟩)
    | (go_at_call 118; go_must (refine (hn _).mono ?_); rintro r w1 ⟨rfl, rfl⟩))
   (with_reducible refine (hof _ hTT).mono ?_)
   rintro r w2 ⟨rfl, hb2⟩
   replace hD := hD.keep hb2
   replace hB := hB.trans (hb2.mono hB.size)
   obtain ⟨c0, c1, c2, f0, f1, f2⟩ := hD
   have hbZ : Below w.heap.size w (((w2.setCell ⟨w.heap.size, 0, none⟩ (.bool VN)).setCell ⟨w.heap.size, 1, none⟩ (.string VS)).setCell ⟨w.heap.size, 2, none⟩ (.int .i64 VE)) := ((hB.setCell (Nat.le_refl _) _).setCell (Nat.le_refl _) _).setCell (Nat.le_refl _) _
   clear hb2 hB hof hi hn
   go_wp2
   exact bodyPost_ret (v := .tuple #[.agg #[.bool VN, .string VS, .int .i64 VE], .int .i64 VR]) (by simp [results, Tryz.results76, go_sem, c0, c1, c2]) rfl ⟨rfl, hbZ⟩
 ·have k1 : decide (K < 0) = false := decide_eq_false hk
  rw [k1] at hlt
  rw [if_neg hk] at hof ⊢
  by_cases hq0 : flQ b = 0
  ·rw [if_pos hq0] at hM hE
   rw [show (1 : Int) - 1075 = -1074 by rfl] at hE
   subst hM
   subst hE
   rw [hq0] at hex
   clear hk k1 hq0 h hf hb hzz hml heb hQl hq hF
   unfold mkV at hof ⊢
   unfold dyR at hof ⊢
   generalize mkN ((M : Int)) (-1074) = VN at *
   generalize bstr (mkX ((M : Int)) (-1074)) = VS at *
   generalize mkE ((M : Int)) (-1074) = VE at *
   generalize mkR ((M : Int)) (-1074) = VR at *
   go_enter Tryz.func76, Tryz.ntmps76
   go_wp2_with (first
    | (go_at_call 119; go_must (refine (hi _).mono ?_); rintro r w1 ⟨rfl, rfl⟩)
    | (go_at_call 118; go_must (refine (hn _).mono ?_); rintro r w1 ⟨rfl, rfl⟩))
   (with_reducible refine (hof _ hTT).mono ?_)
   rintro r w2 ⟨rfl, hb2⟩
   replace hD := hD.keep hb2
   replace hB := hB.trans (hb2.mono hB.size)
   obtain ⟨c0, c1, c2, f0, f1, f2⟩ := hD
   have hbZ : Below w.heap.size w (((w2.setCell ⟨w.heap.size, 0, none⟩ (.bool VN)).setCell ⟨w.heap.size, 1, none⟩ (.string VS)).setCell ⟨w.heap.size, 2, none⟩ (.int .i64 VE)) := ((hB.setCell (Nat.le_refl _) _).setCell (Nat.le_refl _) _).setCell (Nat.le_refl _) _
   clear hb2 hB hof hi hn
   go_wp2
   exact bodyPost_ret (v := .tuple #[.agg #[.bool VN, .string VS, .int .i64 VE], .int .i64 VR]) (by simp [results, Tryz.results76, go_sem, c0, c1, c2]) rfl ⟨rfl, hbZ⟩
  ·rw [if_neg hq0] at hM hE
   subst hM
   subst hE
   have hq1 : ((flQ b : Int) == 0) = false := by simpa using hq0
   generalize flQ b = qq at *
   rw [show ((F + 4503599627370496 : Nat) : Int) = (F : Int) + 4503599627370496 by omega] at hof hor ⊢
   clear hk k1 hq0 h hf hb hzz hml heb hQl hq hF
   unfold mkV at hof ⊢
   unfold dyR at hof ⊢
   generalize mkN ((F : Int) + 4503599627370496) ((qq : Int) - 1075) = VN at *
   generalize bstr (mkX ((F : Int) + 4503599627370496) ((qq : Int) - 1075)) = VS at *
   generalize mkE ((F : Int) + 4503599627370496) ((qq : Int) - 1075) = VE at *
   generalize mkR ((F : Int) + 4503599627370496) ((qq : Int) - 1075) = VR at *
   go_enter Tryz.func76, Tryz.ntmps76
   go_wp2_with (first
    | (go_at_call 119; go_must (refine (hi _).mono ?_); rintro r w1 ⟨rfl, rfl⟩)
    | (go_at_call 118; go_must (refine (hn _).mono ?_); rintro r w1 ⟨rfl, rfl⟩))
   (with_reducible refine (hof _ hTT).mono ?_)
   rintro r w2 ⟨rfl, hb2⟩
   replace hD := hD.keep hb2
   replace hB := hB.trans (hb2.mono hB.size)
   obtain ⟨c0, c1, c2, f0, f1, f2⟩ := hD
   have hbZ : Below w.heap.size w (((w2.setCell ⟨w.heap.size, 0, none⟩ (.bool VN)).setCell ⟨w.heap.size, 1, none⟩ (.string VS)).setCell ⟨w.heap.size, 2, none⟩ (.int .i64 VE)) := ((hB.setCell (Nat.le_refl _) _).setCell (Nat.le_refl _) _).setCell (Nat.le_refl _) _
   clear hb2 hB hof hi hn
   go_wp2
   exact bodyPost_ret (v := .tuple #[.agg #[.bool VN, .string VS, .int .i64 VE], .int .i64 VR]) (by simp [results, Tryz.results76, go_sem, c0, c1, c2]) rfl ⟨rfl, hbZ⟩

set_option maxRecDepth 20000 in
set_option maxHeartbeats 8000000 in
theorem rfromfloat_any (b : Nat) (w : World) (hb : b < 18446744073709551616) :
  Calls Tryz.prog 86 #[.float .f64 b] w fun r w' => r = .returned (flD b) ∧ Below w.heap.size w w' := by
 have h1 := run_f64bits
 have hlow := bits_low b hb
 obtain ⟨q, hq⟩ : ∃ q, q = b / 4503599627370496 := ⟨_, rfl⟩
 have hqd : (b : Int) / 4503599627370496 = (q : Int) := by omega
 have hex := bits_exp q (by omega)
 rw [show q % 2048 = flQ b by rw [hq]; rfl] at hex
 obtain ⟨F, hF⟩ : ∃ F, F = b % 4503599627370496 := ⟨_, rfl⟩
 rw [← hF] at hlow
 obtain ⟨s, hs⟩ : ∃ s, s = b / 9223372036854775808 := ⟨_, rfl⟩
 have hsd : (b : Int) / 9223372036854775808 = (s : Int) := by omega
 have hss : ((s : Int) == 1) = fs b := by
  rw [fs_ge hb, Bool.eq_iff_iff, beq_iff_eq, decide_eq_true_eq]; omega
 have hD := DyAt.put w false { data := #[] } 0
 have hB := (Below.refl w.heap.size w).alloc (Nat.le_refl _) (.cells #[.bool false, .string { data := #[] }, .int .i64 0] 24)
 have F0 : 0 ≤ (F : Int) := by omega
 have F1 : (F : Int) < 4503599627370496 := by omega
 unfold flD
 by_cases h47 : flQ b = 2047
 ·rw [if_pos h47]
  rw [h47] at hex
  clear h47 hb hq hF hs
  go_enter Tryz.func86, Tryz.ntmps86
  go_wp2
  go_returns
  exact ⟨dyR_none ⟨rfl, rfl, rfl, rfl⟩, hB⟩
 ·rw [if_neg h47]
  have hml := flM_lt b
  have heb := flE_bd b
  have h8 : Fil.dn 8 (flM b) ≤ 16384 := Nat.le_trans (dn_le (n := 8) (by omega) (by omega)) (by omega)
  have h2 := fun W => r2of_any (flM b) W (by omega)
  have hm := fun W => rmake_ok (fs b) (flM b) (flE b) W h8 (by omega) (by omega)
  rw [← hss] at hm ⊢
  have hM : flM b = if flQ b = 0 then F else F + 4503599627370496 := by rw [hF]; rfl
  have hE : flE b = (if flQ b = 0 then (1 : Int) else (flQ b : Int)) - 1075 := rfl
  generalize flM b = M at *
  generalize flE b = e at *
  have hQl := flQ_lt b
  have h47b : ((flQ b : Int) == 2047) = false := by
   rw [beq_eq_false_iff_ne]; omega
  have Q0 : 0 ≤ (flQ b : Int) := by omega
  have Q1 : (flQ b : Int) < 2048 := by omega
  unfold mkV at hm ⊢
  unfold dyR at hm ⊢
  generalize mkN (sz ((s : Int) == 1) M) e = VN at *
  generalize bstr (mkX (sz ((s : Int) == 1) M) e) = VS at *
  generalize mkE (sz ((s : Int) == 1) M) e = VE at *
  generalize mkR (sz ((s : Int) == 1) M) e = VR at *
  by_cases hq0 : flQ b = 0
  ·rw [if_pos hq0] at hM hE
   rw [show (1 : Int) - 1075 = -1074 by rfl] at hE
   subst hM
   subst hE
   rw [hq0] at hex
   clear hq0 h47 hss hb hq hF hs h47b Q0 Q1 hQl heb hml
   go_enter Tryz.func86, Tryz.ntmps86
   go_wp2_with fail
   (with_reducible refine (h2 _).mono ?_)
   rintro r w1 ⟨rfl, hb1⟩
   replace hD := hD.keep hb1
   replace hB := hB.trans (hb1.mono hB.size)
   clear hb1 h2
   go_wp2_with fail
   (with_reducible refine (hm _).mono ?_)
   rintro r w2 ⟨rfl, hb2⟩
   replace hD := hD.keep hb2
   replace hB := hB.trans (hb2.mono hB.size)
   obtain ⟨c0, c1, c2, f0, f1, f2⟩ := hD
   have hbZ : Below w.heap.size w (((w2.setCell ⟨w.heap.size, 0, none⟩ (.bool VN)).setCell ⟨w.heap.size, 1, none⟩ (.string VS)).setCell ⟨w.heap.size, 2, none⟩ (.int .i64 VE)) := ((hB.setCell (Nat.le_refl _) _).setCell (Nat.le_refl _) _).setCell (Nat.le_refl _) _
   clear hb2 hB hm
   go_wp2
   exact bodyPost_ret (v := .tuple #[.agg #[.bool VN, .string VS, .int .i64 VE], .int .i64 VR]) (by simp [results, Tryz.results86, go_sem, c0, c1, c2]) rfl ⟨rfl, hbZ⟩
  ·rw [if_neg hq0] at hM hE
   subst hM
   subst hE
   have hq1 : ((flQ b : Int) == 0) = false := by simpa using hq0
   generalize flQ b = qq at *
   rw [show ((F + 4503599627370496 : Nat) : Int) = (F : Int) + 4503599627370496 by omega] at h2
   clear hq0 h47 hss hb hq hF hs hQl heb hml
   go_enter Tryz.func86, Tryz.ntmps86
   go_wp2_with fail
   (with_reducible refine (h2 _).mono ?_)
   rintro r w1 ⟨rfl, hb1⟩
   replace hD := hD.keep hb1
   replace hB := hB.trans (hb1.mono hB.size)
   clear hb1 h2
   go_wp2_with fail
   (with_reducible refine (hm _).mono ?_)
   rintro r w2 ⟨rfl, hb2⟩
   replace hD := hD.keep hb2
   replace hB := hB.trans (hb2.mono hB.size)
   obtain ⟨c0, c1, c2, f0, f1, f2⟩ := hD
   have hbZ : Below w.heap.size w (((w2.setCell ⟨w.heap.size, 0, none⟩ (.bool VN)).setCell ⟨w.heap.size, 1, none⟩ (.string VS)).setCell ⟨w.heap.size, 2, none⟩ (.int .i64 VE)) := ((hB.setCell (Nat.le_refl _) _).setCell (Nat.le_refl _) _).setCell (Nat.le_refl _) _
   clear hb2 hB hm
   go_wp2
   exact bodyPost_ret (v := .tuple #[.agg #[.bool VN, .string VS, .int .i64 VE], .int .i64 VR]) (by simp [results, Tryz.results86, go_sem, c0, c1, c2]) rfl ⟨rfl, hbZ⟩
end Go.Proofs.YtfbkopepkklkjaaGreatDoor
