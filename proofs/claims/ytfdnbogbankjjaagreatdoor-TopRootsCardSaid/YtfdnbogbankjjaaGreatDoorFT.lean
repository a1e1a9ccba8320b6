/- Merged: FR FT -/
import Derived.Test.YtfdnbogbankjjaaGreatDoorFQ
import Derived.Test.YtfdnbogbankjjaaGreatDoorF6
import Derived.Test.YtfdnbogbankjjaaGreatDoorFS

/- ball.Apart. (printed by gen_fr.py) -/
namespace Go.Proofs.YtfdnbogbankjjaaGreatDoor
open Go Go.RowKit Go.PlainAid Fil

theorem natAbs_neg_lt {z : Int} {k : Nat} (h : z.natAbs < k) : (-z).natAbs < k := by rw [Int.natAbs_neg]; exact h
theorem W_shift {z e f : Int} (h1 : -(lowM : Int) ≤ e) (h2 : e ≤ f) : W (z * 2 ^ (f - e).toNat) e = W z f := by
 unfold W
 generalize lowM = l at *
 rw [Int.mul_assoc, ← Int.pow_add, show (f - e).toNat + (e + l).toNat = (f + l).toNat by omega]
theorem W_plus (z y e : Int) : W (z + y) e = W z e + W y e := Int.add_mul ..
theorem W_opp (z e : Int) : W (-z) e = -W z e := Int.neg_mul ..
theorem W_0 (e : Int) : W 0 e = 0 := Int.zero_mul _
theorem nAdd_W {z1 e1 z2 e2 z e : Int} (h1 : -(lowM : Int) ≤ e1) (h2 : -(lowM : Int) ≤ e2) (h : (z, e) = nAdd (z1, e1) (z2, e2)) : W z e = W z1 e1 + W z2 e2 := by
 unfold nAdd at h
 dsimp only at h
 split at h
 ·rename_i h0; cases h; rw [h0, W_0, Int.zero_add]
 ·split at h
  ·rename_i h0; cases h; rw [h0, W_0, Int.add_zero]
  ·split at h
   ·cases h; rw [W_plus, W_shift h1 (by omega), Int.add_comm]
   ·cases h; rw [W_plus, W_shift h2 (by omega)]
theorem lowM_le {e : Int} (h : -1000000 ≤ e) : -(lowM : Int) ≤ e := by have := lowM_ge; omega
theorem nAdd_add {z1 e1 z2 e2 z e u v : Int} (h1 : W z1 e1 = u) (h2 : W z2 e2 = v) (l1 : -1000000 ≤ e1) (l2 : -1000000 ≤ e2) (h : (z, e) = nAdd (z1, e1) (z2, e2)) : W z e = u + v := by
 rw [nAdd_W (lowM_le l1) (lowM_le l2) h, h1, h2]
theorem nAdd_sub {z1 e1 z2 e2 z e u v : Int} (h1 : W z1 e1 = u) (h2 : W z2 e2 = v) (l1 : -1000000 ≤ e1) (l2 : -1000000 ≤ e2) (h : (z, e) = nAdd (z1, e1) (-z2, e2)) : W z e = u - v := by
 rw [nAdd_W (lowM_le l1) (lowM_le l2) h, W_opp, h1, h2, Int.sub_eq_add_neg]
/-- apart, of whole numbers -/
def apZ (x y r : Int) : Bool := decide (r < 0) || decide (r * r < x * x + y * y)
theorem W_pos (z e : Int) : (0 < W z e ↔ 0 < z) ∧ (W z e < 0 ↔ z < 0) := by
 unfold W
 have hp : (0 : Int) < 2 ^ (e + lowM).toNat := Int.pow_pos (by decide)
 generalize (2 : Int) ^ (e + lowM).toNat = P at *
 constructor
 ·constructor
  ·intro h
   rcases Int.lt_or_le 0 z with k | k
   ·exact k
   ·have := Int.mul_nonpos_of_nonpos_of_nonneg k (Int.le_of_lt hp); omega
  ·exact fun h => Int.mul_pos h hp
 ·constructor
  ·intro h
   rcases Int.lt_or_le z 0 with k | k
   ·exact k
   ·have := Int.mul_nonneg k (Int.le_of_lt hp); omega
  ·exact fun h => Int.mul_neg_of_neg_of_pos h hp
theorem farF_W {z1 e1 z2 e2 z3 e3 : Int} (l1 : -1100 ≤ e1) (l2 : -1100 ≤ e2) (l3 : -1100 ≤ e3) : farF z1 e1 z2 e2 z3 e3 = apZ (W z1 e1) (W z2 e2) (W z3 e3) := by
 unfold apZ
 by_cases h : z3 < 0
 ·rw [farF_neg h, decide_eq_true ((W_pos z3 e3).2.2 h)]; rfl
 ·rw [decide_eq_false (fun k => h ((W_pos z3 e3).2.1 k)), Bool.false_or]
  obtain ⟨⟨zp, ep⟩, hp⟩ : ∃ p, p = nAdd (z1 * z1, e1 + e1) (z2 * z2, e2 + e2) := ⟨_, rfl⟩
  obtain ⟨⟨z, e⟩, hq⟩ : ∃ p, p = nAdd (zp, ep) (-(z3 * z3), e3 + e3) := ⟨_, rfl⟩
  rw [farF_eq h hp hq]
  have lep : -1000000 ≤ ep := by
   have h2 : ep = e1 + e1 ∨ ep = e2 + e2 := by
    unfold nAdd at hp
    dsimp only at hp
    split at hp
    ·cases hp; exact .inr rfl
    ·split at hp
     ·cases hp; exact .inl rfl
     ·split at hp
      ·cases hp; exact .inl rfl
      ·cases hp; exact .inr rfl
   omega
  have w1 := nAdd_W (lowM_le (by omega)) (lowM_le (by omega)) hp
  have w2 := nAdd_W (lowM_le lep) (lowM_le (by omega)) hq
  have m1 := W_mul z1 z1 (lowM_le (show -1000000 ≤ e1 by omega)) (lowM_le (show -1000000 ≤ e1 by omega)) (lowM_le (by omega))
  have m2 := W_mul z2 z2 (lowM_le (show -1000000 ≤ e2 by omega)) (lowM_le (show -1000000 ≤ e2 by omega)) (lowM_le (by omega))
  have m3 := W_mul z3 z3 (lowM_le (show -1000000 ≤ e3 by omega)) (lowM_le (show -1000000 ≤ e3 by omega)) (lowM_le (by omega))
  rw [W_opp, w1] at w2
  have key : decide (0 < z) = decide (0 < W z e) := decide_eq_decide.2 (W_pos z e).1.symm
  rw [key, w2]
  have hP : (0 : Int) < 2 ^ lowM := Int.pow_pos (by decide)
  generalize (2 : Int) ^ lowM = P at *
  generalize W z1 e1 * W z1 e1 = A at *
  generalize W z2 e2 * W z2 e2 = C at *
  generalize W z3 e3 * W z3 e3 = D at *
  generalize W (z1 * z1) (e1 + e1) = a at *
  generalize W (z2 * z2) (e2 + e2) = c at *
  generalize W (z3 * z3) (e3 + e3) = d at *
  rw [← m1, ← m2, ← m3]
  refine decide_eq_decide.2 ⟨fun h => ?_, fun h => ?_⟩
  ·have := Int.mul_lt_mul_of_pos_right (show d < a + c by omega) hP
   rw [Int.add_mul] at this; exact this
  ·rw [← Int.add_mul] at h
   have := Int.lt_of_mul_lt_mul_right h (Int.le_of_lt hP)
   omega
set_option maxRecDepth 100000 in
set_option maxHeartbeats 16000000 in
theorem c_blApart {x0 y0 r0 x1 y1 r1 : Nat} {X0 Y0 R0 X1 Y1 R1 : FV} (w : World) (hx0 : Fl x0 X0) (hy0 : Fl y0 Y0) (hr0 : Fl r0 R0) (hx1 : Fl x1 X1) (hy1 : Fl y1 Y1) (hr1 : Fl r1 R1) (hT : Tab64 w)
  (w0 : bIsWhole ((X0, Y0), R0) = false) (w1 : bIsWhole ((X1, Y1), R1) = false) (fx0 : fFin X0 = true) (fy0 : fFin Y0 = true) (fr0 : fFin R0 = true) (fx1 : fFin X1 = true) (fy1 : fFin Y1 = true) (fr1 : fFin R1 = true)
  (gx0 : fr x0 < 9218868437227405312) (gy0 : fr y0 < 9218868437227405312) (gr0 : fr r0 < 9218868437227405312) (gx1 : fr x1 < 9218868437227405312) (gy1 : fr y1 < 9218868437227405312) (gr1 : fr r1 < 9218868437227405312) :
  Calls Tryz.prog 11 #[.agg #[.complex .f64 x0 y0, .float .f64 r0], .agg #[.complex .f64 x1 y1, .float .f64 r1]] w fun r w' => r = .returned (.bool (apZ (fu x0 - fu x1) (fu y0 - fu y1) (fu r0 + fu r1))) ∧ Below w.heap.size w w' := by
 have hw0 := fun W => c_blIsWhole W hx0 hy0 hr0
 have hw1 := fun W => c_blIsWhole W hx1 hy1 hr1
 rw [w0] at hw0
 rw [w1] at hw1
 clear w0 w1
 obtain ⟨KK, hk⟩ : ∃ KK, KK = 53 := ⟨_, rfl⟩
 have hKK : KK ≤ 1000000 := by omega
 obtain ⟨K4, hK4⟩ : ∃ K4, K4 = KK + ((2 : Int) * 1100).toNat + 1 := ⟨_, rfl⟩
 have hK4' : K4 ≤ 3000 := by omega
 go_enter Tryz.func11, Tryz.ntmps11
 have B0 := Below.refl w.heap.size w
 have F2 := Blk.put (w) #[.complex .f64 x0 y0, .float .f64 r0] 32
 replace B0 := B0.alloc B0.size (.cells #[.complex .f64 x0 y0, .float .f64 r0] 32)
 replace F2 := F2.allocd (.cells #[.complex .f64 x1 y1, .float .f64 r1] 32)
 have F3 := Blk.put ((w).alloc (.cells #[.complex .f64 x0 y0, .float .f64 r0] 32)) #[.complex .f64 x1 y1, .float .f64 r1] 32
 rw [show ((w).alloc (.cells #[.complex .f64 x0 y0, .float .f64 r0] 32)).heap.size = w.heap.size + 1 by simp] at F3
 replace B0 := B0.alloc B0.size (.cells #[.complex .f64 x1 y1, .float .f64 r1] 32)
 obtain ⟨xF22_0, xF22_1⟩ := F2.ce2
 go_wp2_with fail
 (with_reducible refine (hw0 _).mono ?_)
 rintro r w1 ⟨rfl, hb1⟩
 clear xF22_0 xF22_1
 replace F2 := F2.keep hb1
 replace F3 := F3.keep hb1
 replace B0 := B0.trans (hb1.mono B0.size)
 clear hb1
 obtain ⟨xF33_0, xF33_1⟩ := F3.ce2
 go_wp2_with fail
 (with_reducible refine (hw1 _).mono ?_)
 rintro r w2 ⟨rfl, hb2⟩
 clear xF33_0 xF33_1
 replace F2 := F2.keep hb2
 replace F3 := F3.keep hb2
 replace B0 := B0.trans (hb2.mono B0.size)
 clear hb2
 go_wp2_with fail
 refine wp_region_cut 26 (by kernel_rfl) (by kernel_rfl) ?_
 rintro W rfl
 simp only [List.take_succ_cons, List.take_zero, List.drop_succ_cons, List.drop_zero]
 obtain ⟨xF24_0, xF24_1⟩ := F2.ce2
 obtain ⟨xF34_0, xF34_1⟩ := F3.ce2
 have hHeld : (fun w' : World => w'.cell? ⟨w.heap.size, 0, none⟩ = some (.complex .f64 x0 y0) ∧ w'.cell? ⟨w.heap.size, 1, none⟩ = some (.float .f64 r0) ∧ w'.cell? ⟨w.heap.size + 1, 0, none⟩ = some (.complex .f64 x1 y1) ∧ w'.cell? ⟨w.heap.size + 1, 1, none⟩ = some (.float .f64 r1)) (w2).drew := ⟨xF24_0, xF24_1, xF34_0, xF34_1⟩
 refine wpAny_of_held (S := fun w' : World => w'.cell? ⟨w.heap.size, 0, none⟩ = some (.complex .f64 x0 y0) ∧ w'.cell? ⟨w.heap.size, 1, none⟩ = some (.float .f64 r0) ∧ w'.cell? ⟨w.heap.size + 1, 0, none⟩ = some (.complex .f64 x1 y1) ∧ w'.cell? ⟨w.heap.size + 1, 1, none⟩ = some (.float .f64 r1)) _ _ _ (w2).drew ?_
 replace F2 := F2.drew
 replace F3 := F3.drew
 replace B0 := B0.drew
 generalize (w2).drew = v1 at *
 refine tkA 0 ?_
 (try dsimp only [Act.put]); (try go_frame)
 refine tkA 1 ?_
 (try dsimp only [Act.put]); (try go_frame)
 refine tkA 2 ?_
 (try dsimp only [Act.put]); (try go_frame)
 refine tkA 4 ?_
 (try dsimp only [Act.put]); (try go_frame)
 refine tkA 5 ?_
 (try dsimp only [Act.put]); (try go_frame)
 refine tkA 6 ?_
 (try dsimp only [Act.put]); (try go_frame)
 refine tkA 9 ?_
 (try dsimp only [Act.put]); (try go_frame)
 refine tkA 10 ?_
 (try dsimp only [Act.put]); (try go_frame)
 refine tkA 11 ?_
 (try dsimp only [Act.put]); (try go_frame)
 refine tkA 13 ?_
 (try dsimp only [Act.put]); (try go_frame)
 refine tkA 14 ?_
 (try dsimp only [Act.put]); (try go_frame)
 refine tkA 15 ?_
 (try dsimp only [Act.put]); (try go_frame)
 refine tkA 18 ?_
 (try dsimp only [Act.put]); (try go_frame)
 refine tkA 19 ?_
 (try dsimp only [Act.put]); (try go_frame)
 refine tkA 21 ?_
 (try dsimp only [Act.put]); (try go_frame)
 refine tkA 22 ?_
 (try dsimp only [Act.put]); (try go_frame)
 refine wpAnyH_ready (rs := [3]) (by kernel_rfl) (by simp) ?_
 refine AllReadyH.cons rfl (fun K hK => ?_) AllReadyH.nil
 go_simp
 (with_reducible refine (c_blexact _ hx0 fx0 gx0 (hT.below B0)).mono ?_)
 rintro r w3 ⟨⟨d3, z3, e3, rfl, hI, hO3⟩, hb3⟩
 clear xF24_0 xF24_1 xF34_0 xF34_1
 replace F2 := F2.keep hb3
 replace F3 := F3.keep hb3
 replace B0 := B0.trans (hb3.mono B0.size)
 clear hb3
 have J3 := hI
 clear hI
 have hb3 : z3.natAbs < 2 ^ KK := Nat.lt_of_lt_of_le hO3.2.1 (by rw [hk]; decide)
 have hl3 := hO3.2.2.1
 have hm3 := hO3.2.2.2
 replace hO3 := hO3.1
 obtain ⟨xF27_0, xF27_1⟩ := F2.ce2
 obtain ⟨xF37_0, xF37_1⟩ := F3.ce2
 refine hK.out _ _ ?_ (fun hHeld => ?_)
 ·exact ⟨xF27_0, xF27_1, xF37_0, xF37_1⟩
 clear hK K
 (try dsimp only [Act.put]); (try go_frame)
 refine wpAnyH_ready (rs := [7]) (by kernel_rfl) (by simp) ?_
 refine AllReadyH.cons rfl (fun K hK => ?_) AllReadyH.nil
 go_simp
 (with_reducible refine (c_blexact _ hx1 fx1 gx1 (hT.below B0)).mono ?_)
 rintro r w4 ⟨⟨d4, z4, e4, rfl, hI, hO4⟩, hb4⟩
 clear xF27_0 xF27_1 xF37_0 xF37_1
 replace F2 := F2.keep hb4
 replace F3 := F3.keep hb4
 replace J3 := J3.keep hb4
 replace B0 := B0.trans (hb4.mono B0.size)
 clear hb4
 have J4 := hI
 clear hI
 have hb4 : z4.natAbs < 2 ^ KK := Nat.lt_of_lt_of_le hO4.2.1 (by rw [hk]; decide)
 have hl4 := hO4.2.2.1
 have hm4 := hO4.2.2.2
 replace hO4 := hO4.1
 obtain ⟨xF28_0, xF28_1⟩ := F2.ce2
 obtain ⟨xF38_0, xF38_1⟩ := F3.ce2
 refine hK.out _ _ ?_ (fun hHeld => ?_)
 ·exact ⟨xF28_0, xF28_1, xF38_0, xF38_1⟩
 clear hK K
 (try dsimp only [Act.put]); (try go_frame)
 refine wpAnyH_ready (rs := [8]) (by kernel_rfl) (by simp) ?_
 refine AllReadyH.cons rfl (fun K hK => ?_) AllReadyH.nil
 go_simp
 (with_reducible refine (c_blnless (KK := KK) _ J3 J4 hb3 hb4 hKK (by omega) (by omega) (by omega) (by omega)).mono ?_)
 rintro r w5 ⟨⟨d5, z5, e5, rfl, hI, hE5⟩, hb5⟩
 clear xF28_0 xF28_1 xF38_0 xF38_1
 replace F2 := F2.keep hb5
 replace F3 := F3.keep hb5
 replace J3 := J3.keep hb5
 replace J4 := J4.keep hb5
 replace B0 := B0.trans (hb5.mono B0.size)
 clear hb5
 have J5 := hI
 clear hI
 obtain ⟨hb5, hl5, hm5⟩ := nAdd_bd (E := 1100) hb3 (natAbs_neg_lt hb4) (by omega) (by omega) (by omega) (by omega) hE5
 rw [← hK4] at hb5
 have hO5 := nAdd_sub hO3 hO4 (by omega) (by omega) hE5
 clear hE5
 obtain ⟨xF29_0, xF29_1⟩ := F2.ce2
 obtain ⟨xF39_0, xF39_1⟩ := F3.ce2
 refine hK.out _ _ ?_ (fun hHeld => ?_)
 ·exact ⟨xF29_0, xF29_1, xF39_0, xF39_1⟩
 clear hK K
 (try dsimp only [Act.put]); (try go_frame)
 refine wpAnyH_ready (rs := [12]) (by kernel_rfl) (by simp) ?_
 refine AllReadyH.cons rfl (fun K hK => ?_) AllReadyH.nil
 go_simp
 (with_reducible refine (c_blexact _ hy0 fy0 gy0 (hT.below B0)).mono ?_)
 rintro r w6 ⟨⟨d6, z6, e6, rfl, hI, hO6⟩, hb6⟩
 clear xF29_0 xF29_1 xF39_0 xF39_1
 replace F2 := F2.keep hb6
 replace F3 := F3.keep hb6
 clear J3
 clear J4
 replace J5 := J5.keep hb6
 replace B0 := B0.trans (hb6.mono B0.size)
 clear hb6
 have J6 := hI
 clear hI
 have hb6 : z6.natAbs < 2 ^ KK := Nat.lt_of_lt_of_le hO6.2.1 (by rw [hk]; decide)
 have hl6 := hO6.2.2.1
 have hm6 := hO6.2.2.2
 replace hO6 := hO6.1
 obtain ⟨xF210_0, xF210_1⟩ := F2.ce2
 obtain ⟨xF310_0, xF310_1⟩ := F3.ce2
 refine hK.out _ _ ?_ (fun hHeld => ?_)
 ·exact ⟨xF210_0, xF210_1, xF310_0, xF310_1⟩
 clear hK K
 (try dsimp only [Act.put]); (try go_frame)
 refine wpAnyH_ready (rs := [16]) (by kernel_rfl) (by simp) ?_
 refine AllReadyH.cons rfl (fun K hK => ?_) AllReadyH.nil
 go_simp
 (with_reducible refine (c_blexact _ hy1 fy1 gy1 (hT.below B0)).mono ?_)
 rintro r w7 ⟨⟨d7, z7, e7, rfl, hI, hO7⟩, hb7⟩
 clear xF210_0 xF210_1 xF310_0 xF310_1
 replace F2 := F2.keep hb7
 replace F3 := F3.keep hb7
 replace J5 := J5.keep hb7
 replace J6 := J6.keep hb7
 replace B0 := B0.trans (hb7.mono B0.size)
 clear hb7
 have J7 := hI
 clear hI
 have hb7 : z7.natAbs < 2 ^ KK := Nat.lt_of_lt_of_le hO7.2.1 (by rw [hk]; decide)
 have hl7 := hO7.2.2.1
 have hm7 := hO7.2.2.2
 replace hO7 := hO7.1
 obtain ⟨xF211_0, xF211_1⟩ := F2.ce2
 obtain ⟨xF311_0, xF311_1⟩ := F3.ce2
 refine hK.out _ _ ?_ (fun hHeld => ?_)
 ·exact ⟨xF211_0, xF211_1, xF311_0, xF311_1⟩
 clear hK K
 (try dsimp only [Act.put]); (try go_frame)
 refine wpAnyH_ready (rs := [17]) (by kernel_rfl) (by simp) ?_
 refine AllReadyH.cons rfl (fun K hK => ?_) AllReadyH.nil
 go_simp
 (with_reducible refine (c_blnless (KK := KK) _ J6 J7 hb6 hb7 hKK (by omega) (by omega) (by omega) (by omega)).mono ?_)
 rintro r w8 ⟨⟨d8, z8, e8, rfl, hI, hE8⟩, hb8⟩
 clear xF211_0 xF211_1 xF311_0 xF311_1
 replace F2 := F2.keep hb8
 replace F3 := F3.keep hb8
 replace J5 := J5.keep hb8
 replace J6 := J6.keep hb8
 replace J7 := J7.keep hb8
 replace B0 := B0.trans (hb8.mono B0.size)
 clear hb8
 have J8 := hI
 clear hI
 obtain ⟨hb8, hl8, hm8⟩ := nAdd_bd (E := 1100) hb6 (natAbs_neg_lt hb7) (by omega) (by omega) (by omega) (by omega) hE8
 rw [← hK4] at hb8
 have hO8 := nAdd_sub hO6 hO7 (by omega) (by omega) hE8
 clear hE8
 obtain ⟨xF212_0, xF212_1⟩ := F2.ce2
 obtain ⟨xF312_0, xF312_1⟩ := F3.ce2
 refine hK.out _ _ ?_ (fun hHeld => ?_)
 ·exact ⟨xF212_0, xF212_1, xF312_0, xF312_1⟩
 clear hK K
 (try dsimp only [Act.put]); (try go_frame)
 refine wpAnyH_ready (rs := [20]) (by kernel_rfl) (by simp) ?_
 refine AllReadyH.cons rfl (fun K hK => ?_) AllReadyH.nil
 go_simp
 (with_reducible refine (c_blexact _ hr0 fr0 gr0 (hT.below B0)).mono ?_)
 rintro r w9 ⟨⟨d9, z9, e9, rfl, hI, hO9⟩, hb9⟩
 clear xF212_0 xF212_1 xF312_0 xF312_1
 replace F2 := F2.keep hb9
 replace F3 := F3.keep hb9
 replace J5 := J5.keep hb9
 clear J6
 clear J7
 replace J8 := J8.keep hb9
 replace B0 := B0.trans (hb9.mono B0.size)
 clear hb9
 have J9 := hI
 clear hI
 have hb9 : z9.natAbs < 2 ^ KK := Nat.lt_of_lt_of_le hO9.2.1 (by rw [hk]; decide)
 have hl9 := hO9.2.2.1
 have hm9 := hO9.2.2.2
 replace hO9 := hO9.1
 obtain ⟨xF213_0, xF213_1⟩ := F2.ce2
 obtain ⟨xF313_0, xF313_1⟩ := F3.ce2
 refine hK.out _ _ ?_ (fun hHeld => ?_)
 ·exact ⟨xF213_0, xF213_1, xF313_0, xF313_1⟩
 clear hK K
 (try dsimp only [Act.put]); (try go_frame)
 refine wpAnyH_ready (rs := [23]) (by kernel_rfl) (by simp) ?_
 refine AllReadyH.cons rfl (fun K hK => ?_) AllReadyH.nil
 go_simp
 (with_reducible refine (c_blexact _ hr1 fr1 gr1 (hT.below B0)).mono ?_)
 rintro r w10 ⟨⟨d10, z10, e10, rfl, hI, hO10⟩, hb10⟩
 clear xF213_0 xF213_1 xF313_0 xF313_1
 replace F2 := F2.keep hb10
 replace F3 := F3.keep hb10
 replace J5 := J5.keep hb10
 replace J8 := J8.keep hb10
 replace J9 := J9.keep hb10
 replace B0 := B0.trans (hb10.mono B0.size)
 clear hb10
 have J10 := hI
 clear hI
 have hb10 : z10.natAbs < 2 ^ KK := Nat.lt_of_lt_of_le hO10.2.1 (by rw [hk]; decide)
 have hl10 := hO10.2.2.1
 have hm10 := hO10.2.2.2
 replace hO10 := hO10.1
 obtain ⟨xF214_0, xF214_1⟩ := F2.ce2
 obtain ⟨xF314_0, xF314_1⟩ := F3.ce2
 refine hK.out _ _ ?_ (fun hHeld => ?_)
 ·exact ⟨xF214_0, xF214_1, xF314_0, xF314_1⟩
 clear hK K
 (try dsimp only [Act.put]); (try go_frame)
 refine wpAnyH_ready (rs := [24]) (by kernel_rfl) (by simp) ?_
 refine AllReadyH.cons rfl (fun K hK => ?_) AllReadyH.nil
 go_simp
 (with_reducible refine (c_blnplus (K := KK) _ J9 J10 hb9 hb10 hKK (by omega) (by omega) (by omega) (by omega)).mono ?_)
 rintro r w11 ⟨⟨d11, z11, e11, rfl, hI, hE11⟩, hb11⟩
 clear xF214_0 xF214_1 xF314_0 xF314_1
 replace F2 := F2.keep hb11
 replace F3 := F3.keep hb11
 replace J5 := J5.keep hb11
 replace J8 := J8.keep hb11
 replace J9 := J9.keep hb11
 replace J10 := J10.keep hb11
 replace B0 := B0.trans (hb11.mono B0.size)
 clear hb11
 have J11 := hI
 clear hI
 obtain ⟨hb11, hl11, hm11⟩ := nAdd_bd (E := 1100) hb9 hb10 (by omega) (by omega) (by omega) (by omega) hE11
 rw [← hK4] at hb11
 have hO11 := nAdd_add hO9 hO10 (by omega) (by omega) hE11
 clear hE11
 obtain ⟨xF215_0, xF215_1⟩ := F2.ce2
 obtain ⟨xF315_0, xF315_1⟩ := F3.ce2
 refine hK.out _ _ ?_ (fun hHeld => ?_)
 ·exact ⟨xF215_0, xF215_1, xF315_0, xF315_1⟩
 clear hK K
 (try dsimp only [Act.put]); (try go_frame)
 refine wpAnyH_ready (rs := [25]) (by kernel_rfl) (by simp) ?_
 refine AllReadyH.cons rfl (fun K hK => ?_) AllReadyH.nil
 go_simp
 (with_reducible refine (c_blfar (KK := K4) _ J5 J8 J11 hb5 hb8 hb11 hK4' (by omega) (by omega) (by omega) (by omega) (by omega) (by omega)).mono ?_)
 rintro r w12 ⟨rfl, hb12⟩
 clear xF215_0 xF215_1 xF315_0 xF315_1
 replace F2 := F2.keep hb12
 replace F3 := F3.keep hb12
 replace J5 := J5.keep hb12
 replace J8 := J8.keep hb12
 clear J9
 clear J10
 replace J11 := J11.keep hb12
 replace B0 := B0.trans (hb12.mono B0.size)
 clear hb12
 obtain ⟨xF216_0, xF216_1⟩ := F2.ce2
 obtain ⟨xF316_0, xF316_1⟩ := F3.ce2
 refine hK.out _ _ ?_ (fun hHeld => ?_)
 ·exact ⟨xF216_0, xF216_1, xF316_0, xF316_1⟩
 clear hK K
 (try dsimp only [Act.put]); (try go_frame)
 refine wpAnyH_done (by kernel_rfl) ?_ _
 try simp only [QCut]
 clear hHeld
 clear xF216_0 xF216_1 xF316_0 xF316_1
 go_wp2
 go_ret
 exact ⟨by rw [farF_W (by omega) (by omega) (by omega), hO5, hO8, hO11]; rfl, B0⟩
end Go.Proofs.YtfdnbogbankjjaaGreatDoor

/- roots.All: what it makes, in plain words; slices of roots. -/
namespace Go.Proofs.YtfdnbogbankjjaaGreatDoor
open Go Go.RowKit Go.PlainAid Fil

def nw1 (L : List CV) (Z : CV) : CV := bif (nwF L Z).2 then (nwF L Z).1 else Z
def nwI (L : List CV) (Z : CV) : Nat → CV
 | 0 => Z
 | k + 1 => nw1 L (nwI L Z k)
theorem nw1_fin {L : List CV} {Z : CV} (h : rFin Z = true) : rFin (nw1 L Z) = true := by
 unfold nw1
 simp only [nwF]
 cases rFin (cQuo (atF L Z) (atF (stF L) Z))
 ·exact h
 ·cases hs : rFin (cSub Z (cQuo (atF L Z) (atF (stF L) Z)))
  ·exact h
  ·exact hs
theorem nwI_fin {L : List CV} {Z : CV} (h : rFin Z = true) : ∀ k, rFin (nwI L Z k) = true
 | 0 => h
 | k + 1 => nw1_fin (nwI_fin h k)
/-- a float's number in least units -/
def fuv : FV → Int
 | some b => fu b
 | none => 0
def apB (b c : BV) : Bool := apZ (fuv b.1.1 - fuv c.1.1) (fuv b.1.2 - fuv c.1.2) (fuv b.2 + fuv c.2)
def rtF (L : List CV) (T : List BV) (z : CV) : Option BV := match ceF L (nwI L z 3) with
 | none => none
 | some r => bif T.all (apB (nwI L z 3, r)) then some (nwI L z 3, r) else none
def tlF (T : List BV) : Option BV → List BV
 | some b => T ++ [b]
 | none => T
def saF (L P : List CV) : Nat → List (CV × Option BV) × List BV
 | 0 => ([], [])
 | k + 1 => ((saF L P k).1 ++ [(nwI L (P.getD k C00) 3, rtF L (saF L P k).2 (P.getD k C00))], tlF (saF L P k).2 (rtF L (saF L P k).2 (P.getD k C00)))
theorem saF_len (L P : List CV) : ∀ k, (saF L P k).1.length = k
 | 0 => rfl
 | k + 1 => by show ((saF L P k).1 ++ [_]).length = _; rw [List.length_append, saF_len L P k]; rfl
theorem saF_told (L P : List CV) : ∀ k, (saF L P k).2.length ≤ k
 | 0 => Nat.le_refl _
 | k + 1 => by
  show (tlF (saF L P k).2 _).length ≤ _
  have := saF_told L P k
  unfold tlF
  split
  ·rw [List.length_append]; simp; omega
  ·omega
abbrev RT := Nat × Nat × Bool × Nat × Nat × Nat
def RTv (p : RT) : List Value := [.complex .f64 p.1 p.2.1, .bool p.2.2.1, .complex .f64 p.2.2.2.1 p.2.2.2.2.1, .float .f64 p.2.2.2.2.2]
def RtOk (p : RT) (E : CV × Option BV) : Prop := Fl p.1 E.1.1 ∧ Fl p.2.1 E.1.2 ∧ (match E.2 with
 | some b => p.2.2.1 = true ∧ Fb p.2.2.2.1 p.2.2.2.2.1 p.2.2.2.2.2 b
 | none => p.2.2.1 = false)
theorem Tryz.info34 : (Tryz.prog.info? 34).map (fun i => (i.zero, i.size, i.bytes)) = some (some (.agg #[.complex .f64 0 0, .bool false, .complex .f64 0 0, .float .f64 0]), 4, 48) := by kernel_rfl
/-- a slice of roots -/
def RS (B : Nat) (w : World) (v : Value) (L : List (CV × Option BV)) : Prop :=
 ∃ ps : List RT, w.ownsRow B 34 4 v L.length (ps.flatMap RTv) ∧ ps.length = L.length ∧ ∀ i (h : i < L.length) (h' : i < ps.length), RtOk ps[i] L[i]
theorem RS.nil (B : Nat) (w : World) : RS B w (.slice none 0 0) [] := ⟨[], World.ownsRow_nil _ _ _ _, rfl, fun i h => absurd h (by simp)⟩
theorem RS.keep {B : Nat} {w w' : World} {v : Value} {L : List (CV × Option BV)} (h : RS B w v L) (hb : Below w.heap.size w w') : RS B w' v L := by
 obtain ⟨ps, h1, h2⟩ := h
 exact ⟨ps, owns_below h1 hb, h2⟩
theorem RS.push {B : Nat} {w : World} {v : Value} {L : List (CV × Option BV)} {ps : List RT} {p : RT} {E : CV × Option BV} (h : w.ownsRow B 34 4 v (L.length + 1) (ps.flatMap RTv ++ RTv p))
  (hl : ps.length = L.length) (hp : ∀ i (h : i < L.length) (h' : i < ps.length), RtOk ps[i] L[i]) (hx : RtOk p E) : RS B w v (L ++ [E]) := by
 refine ⟨ps ++ [p], ?_, by simp [hl], ?_⟩
 ·rw [List.length_append, List.flatMap_append, List.flatMap_cons, List.flatMap_nil, List.append_nil]; exact h
 ·intro i h1 h2
  by_cases hi : i < L.length
  ·rw [List.getElem_append_left hi, List.getElem_append_left (by omega)]
   exact hp i hi (by omega)
  ·have e : i = L.length := by simp at h1; omega
   subst e
   rw [List.getElem_append_right (Nat.le_refl _), List.getElem_append_right (by omega)]
   simp only [hl, Nat.sub_self, List.getElem_cons_zero]
   exact hx
theorem owns_type {w : World} {B e s n b : Nat} {v : Value} {xs : List Value} {cs : Array Value} {t : TypeId} (h : w.ownsRow B e s v n xs) (hb : Blk w b cs t) (hne : t ≠ e) : ∀ k, v.ownBlock = some k → b ≠ k := by
 intro k hk
 rcases h.2 with ⟨rfl, _⟩ | ⟨g, cap, cur, rfl, _, hg, _⟩
 ·simp [Value.ownBlock] at hk
 ·simp [Value.ownBlock] at hk
  subst hk
  rintro rfl
  have e1 := hb.symm.trans hg
  injection e1 with e1
  injection e1 with _ e2
  exact hne e2
theorem owns_disj {w : World} {B1 B2 e1 e2 s1 s2 n1 n2 : Nat} {v1 v2 : Value} {xs1 xs2 : List Value} (h1 : w.ownsRow B1 e1 s1 v1 n1 xs1) (h2 : w.ownsRow B2 e2 s2 v2 n2 xs2) (hne : e1 ≠ e2) : v1.ownBlock = none ∨ v1.ownBlock ≠ v2.ownBlock := by
 rcases h1.2 with ⟨rfl, _⟩ | ⟨g, cap, cur, rfl, _, hg, _⟩
 ·exact .inl rfl
 ·refine .inr fun e => ?_
  exact owns_type h2 (show Blk w g cur e1 from hg) hne g e.symm rfl
theorem Blk.ce4 {w : World} {b : Nat} {v0 v1 v2 v3 : Value} {t : TypeId} (h : Blk w b #[v0, v1, v2, v3] t) : w.cell? ⟨b, 0, none⟩ = some v0 ∧ w.cell? ⟨b, 1, none⟩ = some v1 ∧ w.cell? ⟨b, 2, none⟩ = some v2 ∧ w.cell? ⟨b, 3, none⟩ = some v3 := ⟨Blk.at h 0 (by simp), Blk.at h 1 (by simp), Blk.at h 2 (by simp), Blk.at h 3 (by simp)⟩
theorem Blk.fr4 {w : World} {b : Nat} {v0 v1 v2 v3 : Value} {t : TypeId} (h : Blk w b #[v0, v1, v2, v3] t) : w.frozen? ⟨b, 0, none⟩ = false ∧ w.frozen? ⟨b, 1, none⟩ = false ∧ w.frozen? ⟨b, 2, none⟩ = false ∧ w.frozen? ⟨b, 3, none⟩ = false := ⟨Blk.free h 0, Blk.free h 1, Blk.free h 2, Blk.free h 3⟩
theorem rtF_none {L : List CV} {T : List BV} {z : CV} (h : ceF L (nwI L z 3) = none) : rtF L T z = none := by unfold rtF; rw [h]
theorem rtF_some {L : List CV} {T : List BV} {z : CV} {r : FV} (h : ceF L (nwI L z 3) = some r) : rtF L T z = bif T.all (apB (nwI L z 3, r)) then some (nwI L z 3, r) else none := by unfold rtF; rw [h]
/-- every ball that is told is a good one -/
theorem saF_good {L P : List CV} (hP : ∀ k, k < P.length → ∃ x y, Rl (nwI L (P.getD k C00) 3).1 x ∧ Rl (nwI L (P.getD k C00) 3).2 y) (hR : ∀ k r, k < P.length → ceF L (nwI L (P.getD k C00) 3) = some r → Wd r) : ∀ k, k ≤ P.length → ∀ b ∈ (saF L P k).2, ∃ x y r, GB b x y r
 | 0, _, b, hb => by cases hb
 | k + 1, hk, b, hb => by
  have ih := saF_good hP hR k (by omega)
  have hb2 : b ∈ tlF (saF L P k).2 (rtF L (saF L P k).2 (P.getD k C00)) := hb
  cases hc : ceF L (nwI L (P.getD k C00) 3) with
  | none => rw [rtF_none hc] at hb2; exact ih b hb2
  | some r =>
   rw [rtF_some hc] at hb2
   cases ha : (saF L P k).2.all (apB (nwI L (P.getD k C00) 3, r))
   ·rw [ha] at hb2; exact ih b hb2
   ·rw [ha] at hb2
    have hb3 : b ∈ (saF L P k).2 ++ [(nwI L (P.getD k C00) 3, r)] := hb2
    rcases List.mem_append.1 hb3 with h | h
    ·exact ih b h
    ·rw [List.mem_singleton] at h
     subst h
     obtain ⟨x, y, hx, hy⟩ := hP k (by omega)
     exact ce_ball hx.fl.wd hy.fl.wd (hR k r (by omega) hc) hc
end Go.Proofs.YtfdnbogbankjjaaGreatDoor
