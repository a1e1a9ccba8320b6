/- Exact numbers of package ball: far. (printed by gen_fn.py) -/
import Derived.Test.YtfdnbogbankjjaaGreatDoorFP
namespace Go.Proofs.YtfdnbogbankjjaaGreatDoor
open Go Go.RowKit Go.PlainAid Fil

theorem sign_nn {z : Int} (h : ¬ z < 0) : ¬ z.sign < 0 := by
 rcases Int.lt_trichotomy z 0 with k | k | k
 ·exact absurd k h
 ·rw [k]; decide
 ·rw [Int.sign_eq_one_of_pos k]; decide
theorem sq_bd {z : Int} {K : Nat} (h : z.natAbs < 2 ^ K) : (z * z).natAbs < 2 ^ (K + K) := by
 rw [Int.natAbs_mul, Nat.pow_add]
 exact Nat.mul_lt_mul'' h h
theorem shift_bd {z y : Int} {K k M : Nat} (h : z.natAbs < 2 ^ K) (h' : y.natAbs < 2 ^ K) (hM : K + k + 1 ≤ M) : (z * 2 ^ k + y).natAbs < 2 ^ M := by
 have e : (z * 2 ^ k).natAbs = z.natAbs * 2 ^ k := by rw [Int.natAbs_mul, Int.natAbs_pow]; rfl
 have h1 : z.natAbs * 2 ^ k < 2 ^ (K + k) := by rw [Nat.pow_add]; exact Nat.mul_lt_mul_of_pos_right h (Nat.two_pow_pos k)
 have h2 : 2 ^ K ≤ 2 ^ (K + k) := Nat.pow_le_pow_right (by omega) (by omega)
 have h3 : 2 ^ (K + k + 1) ≤ 2 ^ M := Nat.pow_le_pow_right (by omega) hM
 rw [Nat.pow_succ] at h3
 have h4 := Int.natAbs_add_le (z * 2 ^ k) y
 omega
theorem nAdd_bd {z1 e1 z2 e2 z e : Int} {K : Nat} {E : Int} (h1 : z1.natAbs < 2 ^ K) (h2 : z2.natAbs < 2 ^ K) (a1 : -E ≤ e1) (a2 : e1 ≤ E) (b1 : -E ≤ e2) (b2 : e2 ≤ E) (h : (z, e) = nAdd (z1, e1) (z2, e2)) : z.natAbs < 2 ^ (K + (2 * E).toNat + 1) ∧ -E ≤ e ∧ e ≤ E := by
 have up : 2 ^ K ≤ 2 ^ (K + (2 * E).toNat + 1) := Nat.pow_le_pow_right (by omega) (by omega)
 unfold nAdd at h
 dsimp only at h
 split at h
 ·cases h; exact ⟨Nat.lt_of_lt_of_le h2 up, b1, b2⟩
 ·split at h
  ·cases h; exact ⟨Nat.lt_of_lt_of_le h1 up, a1, a2⟩
  ·split at h
   ·cases h; exact ⟨shift_bd h2 h1 (by omega), a1, a2⟩
   ·cases h; exact ⟨shift_bd h1 h2 (by omega), b1, b2⟩
def farF (z1 e1 z2 e2 z3 e3 : Int) : Bool := if z3 < 0 then true else decide (0 < (nAdd (nAdd (z1 * z1, e1 + e1) (z2 * z2, e2 + e2)) (-(z3 * z3), e3 + e3)).1)
theorem farF_neg {z1 e1 z2 e2 z3 e3 : Int} (h : z3 < 0) : farF z1 e1 z2 e2 z3 e3 = true := if_pos h
theorem farF_eq {z1 e1 z2 e2 z3 e3 zp ep z e : Int} (h : ¬ z3 < 0) (h4 : (zp, ep) = nAdd (z1 * z1, e1 + e1) (z2 * z2, e2 + e2)) (h5 : (z, e) = nAdd (zp, ep) (-(z3 * z3), e3 + e3)) : farF z1 e1 z2 e2 z3 e3 = decide (0 < z) := by
 unfold farF
 rw [if_neg h, ← h4, ← h5]
set_option maxRecDepth 100000 in
set_option maxHeartbeats 16000000 in
theorem c_blfar {b1 b2 b3 KK : Nat} {z1 z2 z3 e1 e2 e3 : Int} (w : World) (I1 : IntAt w b1 0 z1) (I2 : IntAt w b2 0 z2) (I3 : IntAt w b3 0 z3) (hz1 : z1.natAbs < 2 ^ KK) (hz2 : z2.natAbs < 2 ^ KK) (hz3 : z3.natAbs < 2 ^ KK) (hKK : KK ≤ 3000)
  (h1 : -1100 ≤ e1) (h1' : e1 ≤ 1100) (h2 : -1100 ≤ e2) (h2' : e2 ≤ 1100) (h3 : -1100 ≤ e3) (h3' : e3 ≤ 1100) :
  Calls Tryz.prog 40 #[.agg #[.pointer (some ⟨b1, 0, none⟩), .int .i64 e1], .agg #[.pointer (some ⟨b2, 0, none⟩), .int .i64 e2], .agg #[.pointer (some ⟨b3, 0, none⟩), .int .i64 e3]] w fun r w' => r = .returned (.bool (farF z1 e1 z2 e2 z3 e3)) ∧ Below w.heap.size w w' := by
 have hKK' : KK ≤ 1000000 := by omega
 obtain ⟨K2, hK2e⟩ : ∃ K2, K2 = KK + KK := ⟨_, rfl⟩
 have hq1 := sq_bd hz1
 have hq2 := sq_bd hz2
 have hq3' := sq_bd hz3
 rw [← hK2e] at hq1 hq2 hq3'
 have hK2 : K2 ≤ 1000000 := by omega
 obtain ⟨K3, hK3e⟩ : ∃ K3, K3 = K2 + ((2 : Int) * 2200).toNat + 1 := ⟨_, rfl⟩
 have hq3 : (z3 * z3).natAbs < 2 ^ K3 := Nat.lt_of_lt_of_le hq3' (Nat.pow_le_pow_right (by omega) (by omega))
 have hK3 : K3 ≤ 1000000 := by omega
 go_enter Tryz.func40, Tryz.ntmps40
 have B0 := Below.refl w.heap.size w
 have hst3 := fun (a : Addr) (v : Option Addr) (m : Mode) (W : World) => (run_store Tryz.prog W a (.pointer v) m rfl : (store a (.pointer v) m).run Tryz.prog W = stored Tryz.prog W a (.pointer v) m)
 replace I1 := I1.allocd (.cells #[.pointer (some ⟨b1, 0, none⟩), .int .i64 e1] 89)
 replace I2 := I2.allocd (.cells #[.pointer (some ⟨b1, 0, none⟩), .int .i64 e1] 89)
 replace I3 := I3.allocd (.cells #[.pointer (some ⟨b1, 0, none⟩), .int .i64 e1] 89)
 have F3 := Blk.put (w) #[.pointer (some ⟨b1, 0, none⟩), .int .i64 e1] 89
 replace B0 := B0.alloc B0.size (.cells #[.pointer (some ⟨b1, 0, none⟩), .int .i64 e1] 89)
 replace I1 := I1.allocd (.cells #[.pointer (some ⟨b2, 0, none⟩), .int .i64 e2] 89)
 replace I2 := I2.allocd (.cells #[.pointer (some ⟨b2, 0, none⟩), .int .i64 e2] 89)
 replace I3 := I3.allocd (.cells #[.pointer (some ⟨b2, 0, none⟩), .int .i64 e2] 89)
 replace F3 := F3.allocd (.cells #[.pointer (some ⟨b2, 0, none⟩), .int .i64 e2] 89)
 have F4 := Blk.put ((w).alloc (.cells #[.pointer (some ⟨b1, 0, none⟩), .int .i64 e1] 89)) #[.pointer (some ⟨b2, 0, none⟩), .int .i64 e2] 89
 rw [show ((w).alloc (.cells #[.pointer (some ⟨b1, 0, none⟩), .int .i64 e1] 89)).heap.size = w.heap.size + 1 by simp] at F4
 replace B0 := B0.alloc B0.size (.cells #[.pointer (some ⟨b2, 0, none⟩), .int .i64 e2] 89)
 replace I1 := I1.allocd (.cells #[.pointer (some ⟨b3, 0, none⟩), .int .i64 e3] 89)
 replace I2 := I2.allocd (.cells #[.pointer (some ⟨b3, 0, none⟩), .int .i64 e3] 89)
 replace I3 := I3.allocd (.cells #[.pointer (some ⟨b3, 0, none⟩), .int .i64 e3] 89)
 replace F3 := F3.allocd (.cells #[.pointer (some ⟨b3, 0, none⟩), .int .i64 e3] 89)
 replace F4 := F4.allocd (.cells #[.pointer (some ⟨b3, 0, none⟩), .int .i64 e3] 89)
 have F5 := Blk.put (((w).alloc (.cells #[.pointer (some ⟨b1, 0, none⟩), .int .i64 e1] 89)).alloc (.cells #[.pointer (some ⟨b2, 0, none⟩), .int .i64 e2] 89)) #[.pointer (some ⟨b3, 0, none⟩), .int .i64 e3] 89
 rw [show (((w).alloc (.cells #[.pointer (some ⟨b1, 0, none⟩), .int .i64 e1] 89)).alloc (.cells #[.pointer (some ⟨b2, 0, none⟩), .int .i64 e2] 89)).heap.size = w.heap.size + 1 + 1 by simp] at F5
 replace B0 := B0.alloc B0.size (.cells #[.pointer (some ⟨b3, 0, none⟩), .int .i64 e3] 89)
 obtain ⟨xF53_0, xF53_1⟩ := F5.ce2
 go_wp2_with fail
 (with_reducible refine (sign_below I3).mono ?_)
 rintro r w1 ⟨rfl, hb1⟩
 clear xF53_0 xF53_1
 replace I1 := I1.keep hb1
 replace I2 := I2.keep hb1
 replace I3 := I3.keep hb1
 replace F3 := F3.keep hb1
 replace F4 := F4.keep hb1
 replace F5 := F5.keep hb1
 replace B0 := B0.trans (hb1.mono B0.size)
 clear hb1
 by_cases hk11 : z3 < 0
 ·have hs3 : z3.sign < 0 := by rw [Int.sign_eq_neg_one_of_neg hk11]; decide
  go_wp2
  go_ret
  exact ⟨by rw [farF_neg hk11]; rfl, B0⟩
 ·have hs3 : ¬ z3.sign < 0 := sign_nn hk11
  go_wp2_with fail
  refine wp_region_any (by kernel_rfl) ?_
  obtain ⟨xF34_0, xF34_1⟩ := F3.ce2
  obtain ⟨xF44_0, xF44_1⟩ := F4.ce2
  obtain ⟨xF54_0, xF54_1⟩ := F5.ce2
  have hHeld : (fun w' : World => w'.cell? ⟨w.heap.size, 0, none⟩ = some (.pointer (some ⟨b1, 0, none⟩)) ∧ w'.cell? ⟨w.heap.size, 1, none⟩ = some (.int .i64 e1) ∧ w'.cell? ⟨w.heap.size + 1, 0, none⟩ = some (.pointer (some ⟨b2, 0, none⟩)) ∧ w'.cell? ⟨w.heap.size + 1, 1, none⟩ = some (.int .i64 e2) ∧ w'.cell? ⟨w.heap.size + 1 + 1, 0, none⟩ = some (.pointer (some ⟨b3, 0, none⟩)) ∧ w'.cell? ⟨w.heap.size + 1 + 1, 1, none⟩ = some (.int .i64 e3)) (w1).drew := ⟨xF34_0, xF34_1, xF44_0, xF44_1, xF54_0, xF54_1⟩
  refine wpAny_of_held (S := fun w' : World => w'.cell? ⟨w.heap.size, 0, none⟩ = some (.pointer (some ⟨b1, 0, none⟩)) ∧ w'.cell? ⟨w.heap.size, 1, none⟩ = some (.int .i64 e1) ∧ w'.cell? ⟨w.heap.size + 1, 0, none⟩ = some (.pointer (some ⟨b2, 0, none⟩)) ∧ w'.cell? ⟨w.heap.size + 1, 1, none⟩ = some (.int .i64 e2) ∧ w'.cell? ⟨w.heap.size + 1 + 1, 0, none⟩ = some (.pointer (some ⟨b3, 0, none⟩)) ∧ w'.cell? ⟨w.heap.size + 1 + 1, 1, none⟩ = some (.int .i64 e3)) _ _ _ (w1).drew ?_
  replace I1 := I1.drew
  replace I2 := I2.drew
  replace I3 := I3.drew
  replace F3 := F3.drew
  replace F4 := F4.drew
  replace F5 := F5.drew
  replace B0 := B0.drew
  generalize (w1).drew = v1 at *
  refine tkA 0 ?_
  (try dsimp only [Act.put]); (try go_frame)
  refine tkA 1 ?_
  (try dsimp only [Act.put]); (try go_frame)
  refine tkA 3 ?_
  (try dsimp only [Act.put]); (try go_frame)
  refine tkA 4 ?_
  (try dsimp only [Act.put]); (try go_frame)
  refine tkA 7 ?_
  (try dsimp only [Act.put]); (try go_frame)
  refine tkA 8 ?_
  (try dsimp only [Act.put]); (try go_frame)
  refine wpAnyH_ready (rs := [2, 11]) (by kernel_rfl) (by simp) ?_
  refine AllReadyH.cons rfl (fun K hK => ?_) (AllReadyH.cons rfl (fun K hK => ?_) AllReadyH.nil)
  ·go_simp
   (with_reducible refine (c_blntimes (KK := KK) _ I1 I1 hz1 hz1 hKK' (by omega) (by omega) (by omega) (by omega)).mono ?_)
   rintro r w2 ⟨⟨d3, rfl, hI⟩, hb2⟩
   clear xF34_0 xF34_1 xF44_0 xF44_1 xF54_0 xF54_1
   replace I1 := I1.keep hb2
   replace I2 := I2.keep hb2
   replace I3 := I3.keep hb2
   replace F3 := F3.keep hb2
   replace F4 := F4.keep hb2
   replace F5 := F5.keep hb2
   replace B0 := B0.trans (hb2.mono B0.size)
   clear hb2
   have J3 := hI
   clear hI
   obtain ⟨xF37_0, xF37_1⟩ := F3.ce2
   obtain ⟨xF47_0, xF47_1⟩ := F4.ce2
   obtain ⟨xF57_0, xF57_1⟩ := F5.ce2
   refine hK.out _ _ ?_ (fun hHeld => ?_)
   ·exact ⟨xF37_0, xF37_1, xF47_0, xF47_1, xF57_0, xF57_1⟩
   clear hK K
   (try dsimp only [Act.put]); (try go_frame)
   refine wpAnyH_ready (rs := [5, 11]) (by kernel_rfl) (by simp) ?_
   refine AllReadyH.cons rfl (fun K hK => ?_) (AllReadyH.cons rfl (fun K hK => ?_) AllReadyH.nil)
   ·go_simp
    (with_reducible refine (c_blntimes (KK := KK) _ I2 I2 hz2 hz2 hKK' (by omega) (by omega) (by omega) (by omega)).mono ?_)
    rintro r w3 ⟨⟨d4, rfl, hI⟩, hb3⟩
    clear xF37_0 xF37_1 xF47_0 xF47_1 xF57_0 xF57_1
    clear I1
    replace I2 := I2.keep hb3
    replace I3 := I3.keep hb3
    replace F3 := F3.keep hb3
    replace F4 := F4.keep hb3
    replace F5 := F5.keep hb3
    replace J3 := J3.keep hb3
    replace B0 := B0.trans (hb3.mono B0.size)
    clear hb3
    have J4 := hI
    clear hI
    obtain ⟨xF38_0, xF38_1⟩ := F3.ce2
    obtain ⟨xF48_0, xF48_1⟩ := F4.ce2
    obtain ⟨xF58_0, xF58_1⟩ := F5.ce2
    refine hK.out _ _ ?_ (fun hHeld => ?_)
    ·exact ⟨xF38_0, xF38_1, xF48_0, xF48_1, xF58_0, xF58_1⟩
    clear hK K
    (try dsimp only [Act.put]); (try go_frame)
    refine wpAnyH_ready (rs := [6, 11]) (by kernel_rfl) (by simp) ?_
    refine AllReadyH.cons rfl (fun K hK => ?_) (AllReadyH.cons rfl (fun K hK => ?_) AllReadyH.nil)
    ·go_simp
     (with_reducible refine (c_blnplus (K := K2) _ J3 J4 hq1 hq2 hK2 (by omega) (by omega) (by omega) (by omega)).mono ?_)
     rintro r w4 ⟨⟨d5, z5, e5, rfl, hI, hE5⟩, hb4⟩
     clear xF38_0 xF38_1 xF48_0 xF48_1 xF58_0 xF58_1
     clear I2
     replace I3 := I3.keep hb4
     replace F3 := F3.keep hb4
     replace F4 := F4.keep hb4
     replace F5 := F5.keep hb4
     replace J3 := J3.keep hb4
     replace J4 := J4.keep hb4
     replace B0 := B0.trans (hb4.mono B0.size)
     clear hb4
     have J5 := hI
     clear hI
     obtain ⟨hbz5, hbe5, hbf5⟩ := nAdd_bd (E := 2200) hq1 hq2 (by omega) (by omega) (by omega) (by omega) hE5
     rw [← hK3e] at hbz5
     obtain ⟨xF39_0, xF39_1⟩ := F3.ce2
     obtain ⟨xF49_0, xF49_1⟩ := F4.ce2
     obtain ⟨xF59_0, xF59_1⟩ := F5.ce2
     refine hK.out _ _ ?_ (fun hHeld => ?_)
     ·exact ⟨xF39_0, xF39_1, xF49_0, xF49_1, xF59_0, xF59_1⟩
     clear hK K
     (try dsimp only [Act.put]); (try go_frame)
     refine wpAnyH_ready (rs := [9, 11]) (by kernel_rfl) (by simp) ?_
     refine AllReadyH.cons rfl (fun K hK => ?_) (AllReadyH.cons rfl (fun K hK => ?_) AllReadyH.nil)
     ·go_simp
      (with_reducible refine (c_blntimes (KK := KK) _ I3 I3 hz3 hz3 hKK' (by omega) (by omega) (by omega) (by omega)).mono ?_)
      rintro r w5 ⟨⟨d6, rfl, hI⟩, hb5⟩
      clear xF39_0 xF39_1 xF49_0 xF49_1 xF59_0 xF59_1
      replace I3 := I3.keep hb5
      replace F3 := F3.keep hb5
      replace F4 := F4.keep hb5
      replace F5 := F5.keep hb5
      clear J3
      clear J4
      replace J5 := J5.keep hb5
      replace B0 := B0.trans (hb5.mono B0.size)
      clear hb5
      have J6 := hI
      clear hI
      obtain ⟨xF310_0, xF310_1⟩ := F3.ce2
      obtain ⟨xF410_0, xF410_1⟩ := F4.ce2
      obtain ⟨xF510_0, xF510_1⟩ := F5.ce2
      refine hK.out _ _ ?_ (fun hHeld => ?_)
      ·exact ⟨xF310_0, xF310_1, xF410_0, xF410_1, xF510_0, xF510_1⟩
      clear hK K
      (try dsimp only [Act.put]); (try go_frame)
      refine wpAnyH_ready (rs := [10, 11]) (by kernel_rfl) (by simp) ?_
      refine AllReadyH.cons rfl (fun K hK => ?_) (AllReadyH.cons rfl (fun K hK => ?_) AllReadyH.nil)
      ·go_simp
       (with_reducible refine (c_blnless (KK := K3) _ J5 J6 hbz5 hq3 hK3 (by omega) (by omega) (by omega) (by omega)).mono ?_)
       rintro r w6 ⟨⟨d7, z7, e7, rfl, hI, hE7⟩, hb6⟩
       clear xF310_0 xF310_1 xF410_0 xF410_1 xF510_0 xF510_1
       clear I3
       replace F3 := F3.keep hb6
       replace F4 := F4.keep hb6
       replace F5 := F5.keep hb6
       replace J5 := J5.keep hb6
       replace J6 := J6.keep hb6
       replace B0 := B0.trans (hb6.mono B0.size)
       clear hb6
       have J7 := hI
       clear hI
       obtain ⟨xF311_0, xF311_1⟩ := F3.ce2
       obtain ⟨xF411_0, xF411_1⟩ := F4.ce2
       obtain ⟨xF511_0, xF511_1⟩ := F5.ce2
       refine hK.out _ _ ?_ (fun hHeld => ?_)
       ·exact ⟨xF311_0, xF311_1, xF411_0, xF411_1, xF511_0, xF511_1⟩
       clear hK K
       (try dsimp only [Act.put]); (try go_frame)
       refine wpAnyH_ready (rs := [11]) (by kernel_rfl) (by simp) ?_
       refine AllReadyH.cons rfl (fun K hK => ?_) AllReadyH.nil
       go_simp
       obtain ⟨zF30, zF31⟩ := (F3.allocd (.cells #[.pointer none, .int .i64 0] 89)).ce2
       obtain ⟨zF40, zF41⟩ := (F4.allocd (.cells #[.pointer none, .int .i64 0] 89)).ce2
       obtain ⟨zF50, zF51⟩ := (F5.allocd (.cells #[.pointer none, .int .i64 0] 89)).ce2
       clear xF311_0 xF311_1 xF411_0 xF411_1 xF511_0 xF511_1
       refine hK.out _ _ ?_ (fun hHeld => ?_)
       ·exact ⟨zF30, zF31, zF40, zF41, zF50, zF51⟩
       clear hK K
       (try dsimp only [Act.put]); (try go_frame)
       clear zF30 zF31 zF40 zF41 zF50 zF51
       refine wpAnyH_ready (rs := [12]) (by kernel_rfl) (by simp) ?_
       refine AllReadyH.cons rfl (fun K hK => ?_) AllReadyH.nil
       go_simp
       have q_w_F7 : Hid (w.heap.size ≤ w6.heap.size) := Lib.hid (by have := B0.size; first | exact this | omega | (simp; done) | simpa using this)
       replace F3 := F3.allocd (.cells #[.pointer (some ⟨d7, 0, none⟩), .int .i64 e7] 89)
       replace F4 := F4.allocd (.cells #[.pointer (some ⟨d7, 0, none⟩), .int .i64 e7] 89)
       replace F5 := F5.allocd (.cells #[.pointer (some ⟨d7, 0, none⟩), .int .i64 e7] 89)
       clear J5
       clear J6
       replace J7 := J7.allocd (.cells #[.pointer (some ⟨d7, 0, none⟩), .int .i64 e7] 89)
       have F7 := Blk.put (w6) #[.pointer (some ⟨d7, 0, none⟩), .int .i64 e7] 89
       replace B0 := B0.alloc B0.size (.cells #[.pointer (some ⟨d7, 0, none⟩), .int .i64 e7] 89)
       obtain ⟨xF313_0, xF313_1⟩ := F3.ce2
       obtain ⟨xF413_0, xF413_1⟩ := F4.ce2
       obtain ⟨xF513_0, xF513_1⟩ := F5.ce2
       refine hK.out _ _ ?_ (fun hHeld => ?_)
       ·exact ⟨xF313_0, xF313_1, xF413_0, xF413_1, xF513_0, xF513_1⟩
       clear hK K
       (try dsimp only [Act.put]); (try go_frame)
       refine wpAnyH_done (by kernel_rfl) ?_ _
       try simp only [QCut]
       clear hHeld
       clear xF313_0 xF313_1 xF413_0 xF413_1 xF513_0 xF513_1
       obtain ⟨xF713_0, xF713_1⟩ := F7.ce2
       go_wp2_with fail
       (with_reducible refine (sign_below J7).mono ?_)
       rintro r w7 ⟨rfl, hb7⟩
       clear xF713_0 xF713_1
       replace F3 := F3.keep hb7
       replace F4 := F4.keep hb7
       replace F5 := F5.keep hb7
       replace J7 := J7.keep hb7
       replace F7 := F7.keep hb7
       replace B0 := B0.trans (hb7.mono B0.size)
       clear hb7
       go_wp2
       go_ret
       exact ⟨by rw [farF_eq (by omega) hE5 hE7]; rfl, B0⟩
      ·go_simp
       clear xF310_0 xF310_1 xF410_0 xF410_1 xF510_0 xF510_1
       have q_F3_F7 : Hid (w.heap.size < w5.heap.size) := Lib.hid (by have := F3.lt; first | exact this | omega | (simp; done) | simpa using this)
       have q_F4_F7 : Hid (w.heap.size + 1 < w5.heap.size) := Lib.hid (by have := F4.lt; first | exact this | omega | (simp; done) | simpa using this)
       have q_F5_F7 : Hid (w.heap.size + 1 + 1 < w5.heap.size) := Lib.hid (by have := F5.lt; first | exact this | omega | (simp; done) | simpa using this)
       have q_w_F7 : Hid (w.heap.size ≤ w5.heap.size) := Lib.hid (by have := B0.size; first | exact this | omega | (simp; done) | simpa using this)
       clear I3
       replace F3 := F3.allocd (.cells #[.pointer none, .int .i64 0] 89)
       replace F4 := F4.allocd (.cells #[.pointer none, .int .i64 0] 89)
       replace F5 := F5.allocd (.cells #[.pointer none, .int .i64 0] 89)
       replace J5 := J5.allocd (.cells #[.pointer none, .int .i64 0] 89)
       replace J6 := J6.allocd (.cells #[.pointer none, .int .i64 0] 89)
       have F7 := Blk.put (w5) #[.pointer none, .int .i64 0] 89
       replace B0 := B0.alloc B0.size (.cells #[.pointer none, .int .i64 0] 89)
       generalize (w5).alloc (.cells #[.pointer none, .int .i64 0] 89) = v2 at *
       obtain ⟨xF313_0, xF313_1⟩ := F3.ce2
       obtain ⟨xF413_0, xF413_1⟩ := F4.ce2
       obtain ⟨xF513_0, xF513_1⟩ := F5.ce2
       refine hK.out _ _ ?_ (fun hHeld => ?_)
       ·exact ⟨xF313_0, xF313_1, xF413_0, xF413_1, xF513_0, xF513_1⟩
       clear hK K
       (try dsimp only [Act.put]); (try go_frame)
       refine wpAnyH_ready (rs := [10]) (by kernel_rfl) (by simp) ?_
       refine AllReadyH.cons rfl (fun K hK => ?_) AllReadyH.nil
       go_simp
       (with_reducible refine (c_blnless (KK := K3) _ J5 J6 hbz5 hq3 hK3 (by omega) (by omega) (by omega) (by omega)).mono ?_)
       rintro r w6 ⟨⟨d7, z7, e7, rfl, hI, hE7⟩, hb6⟩
       clear xF313_0 xF313_1 xF413_0 xF413_1 xF513_0 xF513_1
       replace F3 := F3.keep hb6
       replace F4 := F4.keep hb6
       replace F5 := F5.keep hb6
       replace J5 := J5.keep hb6
       replace J6 := J6.keep hb6
       replace F7 := F7.keep hb6
       replace B0 := B0.trans (hb6.mono B0.size)
       clear hb6
       have J7 := hI
       clear hI
       obtain ⟨xF314_0, xF314_1⟩ := F3.ce2
       obtain ⟨xF414_0, xF414_1⟩ := F4.ce2
       obtain ⟨xF514_0, xF514_1⟩ := F5.ce2
       refine hK.out _ _ ?_ (fun hHeld => ?_)
       ·exact ⟨xF314_0, xF314_1, xF414_0, xF414_1, xF514_0, xF514_1⟩
       clear hK K
       (try dsimp only [Act.put]); (try go_frame)
       obtain ⟨xF714_0, xF714_1⟩ := F7.ce2
       obtain ⟨xF714_0f, xF714_1f⟩ := F7.fr2
       refine wpAnyH_ready (rs := [12]) (by kernel_rfl) (by simp) ?_
       refine AllReadyH.cons rfl (fun K hK => ?_) AllReadyH.nil
       go_simp
       have hL8 := But.lay (b := w5.heap.size) (o := 0) ⟨_, _, F7, by decide, by simp⟩ (.pointer (some ⟨d7, 0, none⟩)) (.int .i64 e7)
       replace F3 := F3.but hL8 (Nat.ne_of_lt q_F3_F7.out)
       replace F4 := F4.but hL8 (Nat.ne_of_lt q_F4_F7.out)
       replace F5 := F5.but hL8 (Nat.ne_of_lt q_F5_F7.out)
       clear J5
       clear J6
       replace J7 := J7.but hL8 (.inl (intat_ne J7 F7))
       replace F7 : Blk (((w6).setCell ⟨w5.heap.size, 0, none⟩ (.pointer (some ⟨d7, 0, none⟩))).setCell ⟨w5.heap.size, 1, none⟩ (.int .i64 e7)) (w5.heap.size) #[.pointer (some ⟨d7, 0, none⟩), .int .i64 e7] 89 := ((F7.setAt 0 (.pointer (some ⟨d7, 0, none⟩))).setAt 1 (.int .i64 e7))
       replace B0 := B0.trans (hL8.below q_w_F7.out B0.size)
       clear hL8
       clear xF314_0 xF314_1 xF414_0 xF414_1 xF514_0 xF514_1 xF714_0 xF714_1 xF714_0f xF714_1f
       obtain ⟨xF315_0, xF315_1⟩ := F3.ce2
       obtain ⟨xF415_0, xF415_1⟩ := F4.ce2
       obtain ⟨xF515_0, xF515_1⟩ := F5.ce2
       refine hK.out _ _ ?_ (fun hHeld => ?_)
       ·exact ⟨xF315_0, xF315_1, xF415_0, xF415_1, xF515_0, xF515_1⟩
       clear hK K
       (try dsimp only [Act.put]); (try go_frame)
       refine wpAnyH_done (by kernel_rfl) ?_ _
       try simp only [QCut]
       clear hHeld
       clear xF315_0 xF315_1 xF415_0 xF415_1 xF515_0 xF515_1
       obtain ⟨xF715_0, xF715_1⟩ := F7.ce2
       go_wp2_with fail
       (with_reducible refine (sign_below J7).mono ?_)
       rintro r w7 ⟨rfl, hb7⟩
       clear xF715_0 xF715_1
       replace F3 := F3.keep hb7
       replace F4 := F4.keep hb7
       replace F5 := F5.keep hb7
       replace F7 := F7.keep hb7
       replace J7 := J7.keep hb7
       replace B0 := B0.trans (hb7.mono B0.size)
       clear hb7
       go_wp2
       go_ret
       exact ⟨by rw [farF_eq (by omega) hE5 hE7]; rfl, B0⟩
     ·go_simp
      clear xF39_0 xF39_1 xF49_0 xF49_1 xF59_0 xF59_1
      have q_F3_F7 : Hid (w.heap.size < w4.heap.size) := Lib.hid (by have := F3.lt; first | exact this | omega | (simp; done) | simpa using this)
      have q_F4_F7 : Hid (w.heap.size + 1 < w4.heap.size) := Lib.hid (by have := F4.lt; first | exact this | omega | (simp; done) | simpa using this)
      have q_F5_F7 : Hid (w.heap.size + 1 + 1 < w4.heap.size) := Lib.hid (by have := F5.lt; first | exact this | omega | (simp; done) | simpa using this)
      have q_w_F7 : Hid (w.heap.size ≤ w4.heap.size) := Lib.hid (by have := B0.size; first | exact this | omega | (simp; done) | simpa using this)
      replace I3 := I3.allocd (.cells #[.pointer none, .int .i64 0] 89)
      replace F3 := F3.allocd (.cells #[.pointer none, .int .i64 0] 89)
      replace F4 := F4.allocd (.cells #[.pointer none, .int .i64 0] 89)
      replace F5 := F5.allocd (.cells #[.pointer none, .int .i64 0] 89)
      clear J3
      clear J4
      replace J5 := J5.allocd (.cells #[.pointer none, .int .i64 0] 89)
      have F7 := Blk.put (w4) #[.pointer none, .int .i64 0] 89
      replace B0 := B0.alloc B0.size (.cells #[.pointer none, .int .i64 0] 89)
      generalize (w4).alloc (.cells #[.pointer none, .int .i64 0] 89) = v2 at *
      obtain ⟨xF312_0, xF312_1⟩ := F3.ce2
      obtain ⟨xF412_0, xF412_1⟩ := F4.ce2
      obtain ⟨xF512_0, xF512_1⟩ := F5.ce2
      refine hK.out _ _ ?_ (fun hHeld => ?_)
      ·exact ⟨xF312_0, xF312_1, xF412_0, xF412_1, xF512_0, xF512_1⟩
      clear hK K
      (try dsimp only [Act.put]); (try go_frame)
      refine wpAnyH_ready (rs := [9]) (by kernel_rfl) (by simp) ?_
      refine AllReadyH.cons rfl (fun K hK => ?_) AllReadyH.nil
      go_simp
      (with_reducible refine (c_blntimes (KK := KK) _ I3 I3 hz3 hz3 hKK' (by omega) (by omega) (by omega) (by omega)).mono ?_)
      rintro r w5 ⟨⟨d6, rfl, hI⟩, hb5⟩
      clear xF312_0 xF312_1 xF412_0 xF412_1 xF512_0 xF512_1
      replace I3 := I3.keep hb5
      replace F3 := F3.keep hb5
      replace F4 := F4.keep hb5
      replace F5 := F5.keep hb5
      replace J5 := J5.keep hb5
      replace F7 := F7.keep hb5
      replace B0 := B0.trans (hb5.mono B0.size)
      clear hb5
      have J6 := hI
      clear hI
      obtain ⟨xF313_0, xF313_1⟩ := F3.ce2
      obtain ⟨xF413_0, xF413_1⟩ := F4.ce2
      obtain ⟨xF513_0, xF513_1⟩ := F5.ce2
      refine hK.out _ _ ?_ (fun hHeld => ?_)
      ·exact ⟨xF313_0, xF313_1, xF413_0, xF413_1, xF513_0, xF513_1⟩
      clear hK K
      (try dsimp only [Act.put]); (try go_frame)
      refine wpAnyH_ready (rs := [10]) (by kernel_rfl) (by simp) ?_
      refine AllReadyH.cons rfl (fun K hK => ?_) AllReadyH.nil
      go_simp
      (with_reducible refine (c_blnless (KK := K3) _ J5 J6 hbz5 hq3 hK3 (by omega) (by omega) (by omega) (by omega)).mono ?_)
      rintro r w6 ⟨⟨d7, z7, e7, rfl, hI, hE7⟩, hb6⟩
      clear xF313_0 xF313_1 xF413_0 xF413_1 xF513_0 xF513_1
      clear I3
      replace F3 := F3.keep hb6
      replace F4 := F4.keep hb6
      replace F5 := F5.keep hb6
      replace J5 := J5.keep hb6
      replace F7 := F7.keep hb6
      replace J6 := J6.keep hb6
      replace B0 := B0.trans (hb6.mono B0.size)
      clear hb6
      have J7 := hI
      clear hI
      obtain ⟨xF314_0, xF314_1⟩ := F3.ce2
      obtain ⟨xF414_0, xF414_1⟩ := F4.ce2
      obtain ⟨xF514_0, xF514_1⟩ := F5.ce2
      refine hK.out _ _ ?_ (fun hHeld => ?_)
      ·exact ⟨xF314_0, xF314_1, xF414_0, xF414_1, xF514_0, xF514_1⟩
      clear hK K
      (try dsimp only [Act.put]); (try go_frame)
      obtain ⟨xF714_0, xF714_1⟩ := F7.ce2
      obtain ⟨xF714_0f, xF714_1f⟩ := F7.fr2
      refine wpAnyH_ready (rs := [12]) (by kernel_rfl) (by simp) ?_
      refine AllReadyH.cons rfl (fun K hK => ?_) AllReadyH.nil
      go_simp
      have hL8 := But.lay (b := w4.heap.size) (o := 0) ⟨_, _, F7, by decide, by simp⟩ (.pointer (some ⟨d7, 0, none⟩)) (.int .i64 e7)
      replace F3 := F3.but hL8 (Nat.ne_of_lt q_F3_F7.out)
      replace F4 := F4.but hL8 (Nat.ne_of_lt q_F4_F7.out)
      replace F5 := F5.but hL8 (Nat.ne_of_lt q_F5_F7.out)
      clear J5
      clear J6
      replace J7 := J7.but hL8 (.inl (intat_ne J7 F7))
      replace F7 : Blk (((w6).setCell ⟨w4.heap.size, 0, none⟩ (.pointer (some ⟨d7, 0, none⟩))).setCell ⟨w4.heap.size, 1, none⟩ (.int .i64 e7)) (w4.heap.size) #[.pointer (some ⟨d7, 0, none⟩), .int .i64 e7] 89 := ((F7.setAt 0 (.pointer (some ⟨d7, 0, none⟩))).setAt 1 (.int .i64 e7))
      replace B0 := B0.trans (hL8.below q_w_F7.out B0.size)
      clear hL8
      clear xF314_0 xF314_1 xF414_0 xF414_1 xF514_0 xF514_1 xF714_0 xF714_1 xF714_0f xF714_1f
      obtain ⟨xF315_0, xF315_1⟩ := F3.ce2
      obtain ⟨xF415_0, xF415_1⟩ := F4.ce2
      obtain ⟨xF515_0, xF515_1⟩ := F5.ce2
      refine hK.out _ _ ?_ (fun hHeld => ?_)
      ·exact ⟨xF315_0, xF315_1, xF415_0, xF415_1, xF515_0, xF515_1⟩
      clear hK K
      (try dsimp only [Act.put]); (try go_frame)
      refine wpAnyH_done (by kernel_rfl) ?_ _
      try simp only [QCut]
      clear hHeld
      clear xF315_0 xF315_1 xF415_0 xF415_1 xF515_0 xF515_1
      obtain ⟨xF715_0, xF715_1⟩ := F7.ce2
      go_wp2_with fail
      (with_reducible refine (sign_below J7).mono ?_)
      rintro r w7 ⟨rfl, hb7⟩
      clear xF715_0 xF715_1
      replace F3 := F3.keep hb7
      replace F4 := F4.keep hb7
      replace F5 := F5.keep hb7
      replace F7 := F7.keep hb7
      replace J7 := J7.keep hb7
      replace B0 := B0.trans (hb7.mono B0.size)
      clear hb7
      go_wp2
      go_ret
      exact ⟨by rw [farF_eq (by omega) hE5 hE7]; rfl, B0⟩
    ·go_simp
     clear xF38_0 xF38_1 xF48_0 xF48_1 xF58_0 xF58_1
     have q_F3_F7 : Hid (w.heap.size < w3.heap.size) := Lib.hid (by have := F3.lt; first | exact this | omega | (simp; done) | simpa using this)
     have q_F4_F7 : Hid (w.heap.size + 1 < w3.heap.size) := Lib.hid (by have := F4.lt; first | exact this | omega | (simp; done) | simpa using this)
     have q_F5_F7 : Hid (w.heap.size + 1 + 1 < w3.heap.size) := Lib.hid (by have := F5.lt; first | exact this | omega | (simp; done) | simpa using this)
     have q_w_F7 : Hid (w.heap.size ≤ w3.heap.size) := Lib.hid (by have := B0.size; first | exact this | omega | (simp; done) | simpa using this)
     clear I2
     replace I3 := I3.allocd (.cells #[.pointer none, .int .i64 0] 89)
     replace F3 := F3.allocd (.cells #[.pointer none, .int .i64 0] 89)
     replace F4 := F4.allocd (.cells #[.pointer none, .int .i64 0] 89)
     replace F5 := F5.allocd (.cells #[.pointer none, .int .i64 0] 89)
     replace J3 := J3.allocd (.cells #[.pointer none, .int .i64 0] 89)
     replace J4 := J4.allocd (.cells #[.pointer none, .int .i64 0] 89)
     have F7 := Blk.put (w3) #[.pointer none, .int .i64 0] 89
     replace B0 := B0.alloc B0.size (.cells #[.pointer none, .int .i64 0] 89)
     generalize (w3).alloc (.cells #[.pointer none, .int .i64 0] 89) = v2 at *
     obtain ⟨xF311_0, xF311_1⟩ := F3.ce2
     obtain ⟨xF411_0, xF411_1⟩ := F4.ce2
     obtain ⟨xF511_0, xF511_1⟩ := F5.ce2
     refine hK.out _ _ ?_ (fun hHeld => ?_)
     ·exact ⟨xF311_0, xF311_1, xF411_0, xF411_1, xF511_0, xF511_1⟩
     clear hK K
     (try dsimp only [Act.put]); (try go_frame)
     refine wpAnyH_ready (rs := [6]) (by kernel_rfl) (by simp) ?_
     refine AllReadyH.cons rfl (fun K hK => ?_) AllReadyH.nil
     go_simp
     (with_reducible refine (c_blnplus (K := K2) _ J3 J4 hq1 hq2 hK2 (by omega) (by omega) (by omega) (by omega)).mono ?_)
     rintro r w4 ⟨⟨d5, z5, e5, rfl, hI, hE5⟩, hb4⟩
     clear xF311_0 xF311_1 xF411_0 xF411_1 xF511_0 xF511_1
     replace I3 := I3.keep hb4
     replace F3 := F3.keep hb4
     replace F4 := F4.keep hb4
     replace F5 := F5.keep hb4
     replace J3 := J3.keep hb4
     replace J4 := J4.keep hb4
     replace F7 := F7.keep hb4
     replace B0 := B0.trans (hb4.mono B0.size)
     clear hb4
     have J5 := hI
     clear hI
     obtain ⟨hbz5, hbe5, hbf5⟩ := nAdd_bd (E := 2200) hq1 hq2 (by omega) (by omega) (by omega) (by omega) hE5
     rw [← hK3e] at hbz5
     obtain ⟨xF312_0, xF312_1⟩ := F3.ce2
     obtain ⟨xF412_0, xF412_1⟩ := F4.ce2
     obtain ⟨xF512_0, xF512_1⟩ := F5.ce2
     refine hK.out _ _ ?_ (fun hHeld => ?_)
     ·exact ⟨xF312_0, xF312_1, xF412_0, xF412_1, xF512_0, xF512_1⟩
     clear hK K
     (try dsimp only [Act.put]); (try go_frame)
     refine wpAnyH_ready (rs := [9]) (by kernel_rfl) (by simp) ?_
     refine AllReadyH.cons rfl (fun K hK => ?_) AllReadyH.nil
     go_simp
     (with_reducible refine (c_blntimes (KK := KK) _ I3 I3 hz3 hz3 hKK' (by omega) (by omega) (by omega) (by omega)).mono ?_)
     rintro r w5 ⟨⟨d6, rfl, hI⟩, hb5⟩
     clear xF312_0 xF312_1 xF412_0 xF412_1 xF512_0 xF512_1
     replace I3 := I3.keep hb5
     replace F3 := F3.keep hb5
     replace F4 := F4.keep hb5
     replace F5 := F5.keep hb5
     clear J3
     clear J4
     replace F7 := F7.keep hb5
     replace J5 := J5.keep hb5
     replace B0 := B0.trans (hb5.mono B0.size)
     clear hb5
     have J6 := hI
     clear hI
     obtain ⟨xF313_0, xF313_1⟩ := F3.ce2
     obtain ⟨xF413_0, xF413_1⟩ := F4.ce2
     obtain ⟨xF513_0, xF513_1⟩ := F5.ce2
     refine hK.out _ _ ?_ (fun hHeld => ?_)
     ·exact ⟨xF313_0, xF313_1, xF413_0, xF413_1, xF513_0, xF513_1⟩
     clear hK K
     (try dsimp only [Act.put]); (try go_frame)
     refine wpAnyH_ready (rs := [10]) (by kernel_rfl) (by simp) ?_
     refine AllReadyH.cons rfl (fun K hK => ?_) AllReadyH.nil
     go_simp
     (with_reducible refine (c_blnless (KK := K3) _ J5 J6 hbz5 hq3 hK3 (by omega) (by omega) (by omega) (by omega)).mono ?_)
     rintro r w6 ⟨⟨d7, z7, e7, rfl, hI, hE7⟩, hb6⟩
     clear xF313_0 xF313_1 xF413_0 xF413_1 xF513_0 xF513_1
     clear I3
     replace F3 := F3.keep hb6
     replace F4 := F4.keep hb6
     replace F5 := F5.keep hb6
     replace F7 := F7.keep hb6
     replace J5 := J5.keep hb6
     replace J6 := J6.keep hb6
     replace B0 := B0.trans (hb6.mono B0.size)
     clear hb6
     have J7 := hI
     clear hI
     obtain ⟨xF314_0, xF314_1⟩ := F3.ce2
     obtain ⟨xF414_0, xF414_1⟩ := F4.ce2
     obtain ⟨xF514_0, xF514_1⟩ := F5.ce2
     refine hK.out _ _ ?_ (fun hHeld => ?_)
     ·exact ⟨xF314_0, xF314_1, xF414_0, xF414_1, xF514_0, xF514_1⟩
     clear hK K
     (try dsimp only [Act.put]); (try go_frame)
     obtain ⟨xF714_0, xF714_1⟩ := F7.ce2
     obtain ⟨xF714_0f, xF714_1f⟩ := F7.fr2
     refine wpAnyH_ready (rs := [12]) (by kernel_rfl) (by simp) ?_
     refine AllReadyH.cons rfl (fun K hK => ?_) AllReadyH.nil
     go_simp
     have hL8 := But.lay (b := w3.heap.size) (o := 0) ⟨_, _, F7, by decide, by simp⟩ (.pointer (some ⟨d7, 0, none⟩)) (.int .i64 e7)
     replace F3 := F3.but hL8 (Nat.ne_of_lt q_F3_F7.out)
     replace F4 := F4.but hL8 (Nat.ne_of_lt q_F4_F7.out)
     replace F5 := F5.but hL8 (Nat.ne_of_lt q_F5_F7.out)
     clear J5
     clear J6
     replace J7 := J7.but hL8 (.inl (intat_ne J7 F7))
     replace F7 : Blk (((w6).setCell ⟨w3.heap.size, 0, none⟩ (.pointer (some ⟨d7, 0, none⟩))).setCell ⟨w3.heap.size, 1, none⟩ (.int .i64 e7)) (w3.heap.size) #[.pointer (some ⟨d7, 0, none⟩), .int .i64 e7] 89 := ((F7.setAt 0 (.pointer (some ⟨d7, 0, none⟩))).setAt 1 (.int .i64 e7))
     replace B0 := B0.trans (hL8.below q_w_F7.out B0.size)
     clear hL8
     clear xF314_0 xF314_1 xF414_0 xF414_1 xF514_0 xF514_1 xF714_0 xF714_1 xF714_0f xF714_1f
     obtain ⟨xF315_0, xF315_1⟩ := F3.ce2
     obtain ⟨xF415_0, xF415_1⟩ := F4.ce2
     obtain ⟨xF515_0, xF515_1⟩ := F5.ce2
     refine hK.out _ _ ?_ (fun hHeld => ?_)
     ·exact ⟨xF315_0, xF315_1, xF415_0, xF415_1, xF515_0, xF515_1⟩
     clear hK K
     (try dsimp only [Act.put]); (try go_frame)
     refine wpAnyH_done (by kernel_rfl) ?_ _
     try simp only [QCut]
     clear hHeld
     clear xF315_0 xF315_1 xF415_0 xF415_1 xF515_0 xF515_1
     obtain ⟨xF715_0, xF715_1⟩ := F7.ce2
     go_wp2_with fail
     (with_reducible refine (sign_below J7).mono ?_)
     rintro r w7 ⟨rfl, hb7⟩
     clear xF715_0 xF715_1
     replace F3 := F3.keep hb7
     replace F4 := F4.keep hb7
     replace F5 := F5.keep hb7
     replace F7 := F7.keep hb7
     replace J7 := J7.keep hb7
     replace B0 := B0.trans (hb7.mono B0.size)
     clear hb7
     go_wp2
     go_ret
     exact ⟨by rw [farF_eq (by omega) hE5 hE7]; rfl, B0⟩
   ·go_simp
    clear xF37_0 xF37_1 xF47_0 xF47_1 xF57_0 xF57_1
    have q_F3_F7 : Hid (w.heap.size < w2.heap.size) := Lib.hid (by have := F3.lt; first | exact this | omega | (simp; done) | simpa using this)
    have q_F4_F7 : Hid (w.heap.size + 1 < w2.heap.size) := Lib.hid (by have := F4.lt; first | exact this | omega | (simp; done) | simpa using this)
    have q_F5_F7 : Hid (w.heap.size + 1 + 1 < w2.heap.size) := Lib.hid (by have := F5.lt; first | exact this | omega | (simp; done) | simpa using this)
    have q_w_F7 : Hid (w.heap.size ≤ w2.heap.size) := Lib.hid (by have := B0.size; first | exact this | omega | (simp; done) | simpa using this)
    clear I1
    replace I2 := I2.allocd (.cells #[.pointer none, .int .i64 0] 89)
    replace I3 := I3.allocd (.cells #[.pointer none, .int .i64 0] 89)
    replace F3 := F3.allocd (.cells #[.pointer none, .int .i64 0] 89)
    replace F4 := F4.allocd (.cells #[.pointer none, .int .i64 0] 89)
    replace F5 := F5.allocd (.cells #[.pointer none, .int .i64 0] 89)
    replace J3 := J3.allocd (.cells #[.pointer none, .int .i64 0] 89)
    have F7 := Blk.put (w2) #[.pointer none, .int .i64 0] 89
    replace B0 := B0.alloc B0.size (.cells #[.pointer none, .int .i64 0] 89)
    generalize (w2).alloc (.cells #[.pointer none, .int .i64 0] 89) = v2 at *
    obtain ⟨xF310_0, xF310_1⟩ := F3.ce2
    obtain ⟨xF410_0, xF410_1⟩ := F4.ce2
    obtain ⟨xF510_0, xF510_1⟩ := F5.ce2
    refine hK.out _ _ ?_ (fun hHeld => ?_)
    ·exact ⟨xF310_0, xF310_1, xF410_0, xF410_1, xF510_0, xF510_1⟩
    clear hK K
    (try dsimp only [Act.put]); (try go_frame)
    refine wpAnyH_ready (rs := [5]) (by kernel_rfl) (by simp) ?_
    refine AllReadyH.cons rfl (fun K hK => ?_) AllReadyH.nil
    go_simp
    (with_reducible refine (c_blntimes (KK := KK) _ I2 I2 hz2 hz2 hKK' (by omega) (by omega) (by omega) (by omega)).mono ?_)
    rintro r w3 ⟨⟨d4, rfl, hI⟩, hb3⟩
    clear xF310_0 xF310_1 xF410_0 xF410_1 xF510_0 xF510_1
    replace I2 := I2.keep hb3
    replace I3 := I3.keep hb3
    replace F3 := F3.keep hb3
    replace F4 := F4.keep hb3
    replace F5 := F5.keep hb3
    replace J3 := J3.keep hb3
    replace F7 := F7.keep hb3
    replace B0 := B0.trans (hb3.mono B0.size)
    clear hb3
    have J4 := hI
    clear hI
    obtain ⟨xF311_0, xF311_1⟩ := F3.ce2
    obtain ⟨xF411_0, xF411_1⟩ := F4.ce2
    obtain ⟨xF511_0, xF511_1⟩ := F5.ce2
    refine hK.out _ _ ?_ (fun hHeld => ?_)
    ·exact ⟨xF311_0, xF311_1, xF411_0, xF411_1, xF511_0, xF511_1⟩
    clear hK K
    (try dsimp only [Act.put]); (try go_frame)
    refine wpAnyH_ready (rs := [6]) (by kernel_rfl) (by simp) ?_
    refine AllReadyH.cons rfl (fun K hK => ?_) AllReadyH.nil
    go_simp
    (with_reducible refine (c_blnplus (K := K2) _ J3 J4 hq1 hq2 hK2 (by omega) (by omega) (by omega) (by omega)).mono ?_)
    rintro r w4 ⟨⟨d5, z5, e5, rfl, hI, hE5⟩, hb4⟩
    clear xF311_0 xF311_1 xF411_0 xF411_1 xF511_0 xF511_1
    clear I2
    replace I3 := I3.keep hb4
    replace F3 := F3.keep hb4
    replace F4 := F4.keep hb4
    replace F5 := F5.keep hb4
    replace J3 := J3.keep hb4
    replace F7 := F7.keep hb4
    replace J4 := J4.keep hb4
    replace B0 := B0.trans (hb4.mono B0.size)
    clear hb4
    have J5 := hI
    clear hI
    obtain ⟨hbz5, hbe5, hbf5⟩ := nAdd_bd (E := 2200) hq1 hq2 (by omega) (by omega) (by omega) (by omega) hE5
    rw [← hK3e] at hbz5
    obtain ⟨xF312_0, xF312_1⟩ := F3.ce2
    obtain ⟨xF412_0, xF412_1⟩ := F4.ce2
    obtain ⟨xF512_0, xF512_1⟩ := F5.ce2
    refine hK.out _ _ ?_ (fun hHeld => ?_)
    ·exact ⟨xF312_0, xF312_1, xF412_0, xF412_1, xF512_0, xF512_1⟩
    clear hK K
    (try dsimp only [Act.put]); (try go_frame)
    refine wpAnyH_ready (rs := [9]) (by kernel_rfl) (by simp) ?_
    refine AllReadyH.cons rfl (fun K hK => ?_) AllReadyH.nil
    go_simp
    (with_reducible refine (c_blntimes (KK := KK) _ I3 I3 hz3 hz3 hKK' (by omega) (by omega) (by omega) (by omega)).mono ?_)
    rintro r w5 ⟨⟨d6, rfl, hI⟩, hb5⟩
    clear xF312_0 xF312_1 xF412_0 xF412_1 xF512_0 xF512_1
    replace I3 := I3.keep hb5
    replace F3 := F3.keep hb5
    replace F4 := F4.keep hb5
    replace F5 := F5.keep hb5
    clear J3
    replace F7 := F7.keep hb5
    clear J4
    replace J5 := J5.keep hb5
    replace B0 := B0.trans (hb5.mono B0.size)
    clear hb5
    have J6 := hI
    clear hI
    obtain ⟨xF313_0, xF313_1⟩ := F3.ce2
    obtain ⟨xF413_0, xF413_1⟩ := F4.ce2
    obtain ⟨xF513_0, xF513_1⟩ := F5.ce2
    refine hK.out _ _ ?_ (fun hHeld => ?_)
    ·exact ⟨xF313_0, xF313_1, xF413_0, xF413_1, xF513_0, xF513_1⟩
    clear hK K
    (try dsimp only [Act.put]); (try go_frame)
    refine wpAnyH_ready (rs := [10]) (by kernel_rfl) (by simp) ?_
    refine AllReadyH.cons rfl (fun K hK => ?_) AllReadyH.nil
    go_simp
    (with_reducible refine (c_blnless (KK := K3) _ J5 J6 hbz5 hq3 hK3 (by omega) (by omega) (by omega) (by omega)).mono ?_)
    rintro r w6 ⟨⟨d7, z7, e7, rfl, hI, hE7⟩, hb6⟩
    clear xF313_0 xF313_1 xF413_0 xF413_1 xF513_0 xF513_1
    clear I3
    replace F3 := F3.keep hb6
    replace F4 := F4.keep hb6
    replace F5 := F5.keep hb6
    replace F7 := F7.keep hb6
    replace J5 := J5.keep hb6
    replace J6 := J6.keep hb6
    replace B0 := B0.trans (hb6.mono B0.size)
    clear hb6
    have J7 := hI
    clear hI
    obtain ⟨xF314_0, xF314_1⟩ := F3.ce2
    obtain ⟨xF414_0, xF414_1⟩ := F4.ce2
    obtain ⟨xF514_0, xF514_1⟩ := F5.ce2
    refine hK.out _ _ ?_ (fun hHeld => ?_)
    ·exact ⟨xF314_0, xF314_1, xF414_0, xF414_1, xF514_0, xF514_1⟩
    clear hK K
    (try dsimp only [Act.put]); (try go_frame)
    obtain ⟨xF714_0, xF714_1⟩ := F7.ce2
    obtain ⟨xF714_0f, xF714_1f⟩ := F7.fr2
    refine wpAnyH_ready (rs := [12]) (by kernel_rfl) (by simp) ?_
    refine AllReadyH.cons rfl (fun K hK => ?_) AllReadyH.nil
    go_simp
    have hL8 := But.lay (b := w2.heap.size) (o := 0) ⟨_, _, F7, by decide, by simp⟩ (.pointer (some ⟨d7, 0, none⟩)) (.int .i64 e7)
    replace F3 := F3.but hL8 (Nat.ne_of_lt q_F3_F7.out)
    replace F4 := F4.but hL8 (Nat.ne_of_lt q_F4_F7.out)
    replace F5 := F5.but hL8 (Nat.ne_of_lt q_F5_F7.out)
    clear J5
    clear J6
    replace J7 := J7.but hL8 (.inl (intat_ne J7 F7))
    replace F7 : Blk (((w6).setCell ⟨w2.heap.size, 0, none⟩ (.pointer (some ⟨d7, 0, none⟩))).setCell ⟨w2.heap.size, 1, none⟩ (.int .i64 e7)) (w2.heap.size) #[.pointer (some ⟨d7, 0, none⟩), .int .i64 e7] 89 := ((F7.setAt 0 (.pointer (some ⟨d7, 0, none⟩))).setAt 1 (.int .i64 e7))
    replace B0 := B0.trans (hL8.below q_w_F7.out B0.size)
    clear hL8
    clear xF314_0 xF314_1 xF414_0 xF414_1 xF514_0 xF514_1 xF714_0 xF714_1 xF714_0f xF714_1f
    obtain ⟨xF315_0, xF315_1⟩ := F3.ce2
    obtain ⟨xF415_0, xF415_1⟩ := F4.ce2
    obtain ⟨xF515_0, xF515_1⟩ := F5.ce2
    refine hK.out _ _ ?_ (fun hHeld => ?_)
    ·exact ⟨xF315_0, xF315_1, xF415_0, xF415_1, xF515_0, xF515_1⟩
    clear hK K
    (try dsimp only [Act.put]); (try go_frame)
    refine wpAnyH_done (by kernel_rfl) ?_ _
    try simp only [QCut]
    clear hHeld
    clear xF315_0 xF315_1 xF415_0 xF415_1 xF515_0 xF515_1
    obtain ⟨xF715_0, xF715_1⟩ := F7.ce2
    go_wp2_with fail
    (with_reducible refine (sign_below J7).mono ?_)
    rintro r w7 ⟨rfl, hb7⟩
    clear xF715_0 xF715_1
    replace F3 := F3.keep hb7
    replace F4 := F4.keep hb7
    replace F5 := F5.keep hb7
    replace F7 := F7.keep hb7
    replace J7 := J7.keep hb7
    replace B0 := B0.trans (hb7.mono B0.size)
    clear hb7
    go_wp2
    go_ret
    exact ⟨by rw [farF_eq (by omega) hE5 hE7]; rfl, B0⟩
  ·go_simp
   clear xF34_0 xF34_1 xF44_0 xF44_1 xF54_0 xF54_1
   have q_F3_F7 : Hid (w.heap.size < v1.heap.size) := Lib.hid (by have := F3.lt; first | exact this | omega | (simp; done) | simpa using this)
   have q_F4_F7 : Hid (w.heap.size + 1 < v1.heap.size) := Lib.hid (by have := F4.lt; first | exact this | omega | (simp; done) | simpa using this)
   have q_F5_F7 : Hid (w.heap.size + 1 + 1 < v1.heap.size) := Lib.hid (by have := F5.lt; first | exact this | omega | (simp; done) | simpa using this)
   have q_w_F7 : Hid (w.heap.size ≤ v1.heap.size) := Lib.hid (by have := B0.size; first | exact this | omega | (simp; done) | simpa using this)
   replace I1 := I1.allocd (.cells #[.pointer none, .int .i64 0] 89)
   replace I2 := I2.allocd (.cells #[.pointer none, .int .i64 0] 89)
   replace I3 := I3.allocd (.cells #[.pointer none, .int .i64 0] 89)
   replace F3 := F3.allocd (.cells #[.pointer none, .int .i64 0] 89)
   replace F4 := F4.allocd (.cells #[.pointer none, .int .i64 0] 89)
   replace F5 := F5.allocd (.cells #[.pointer none, .int .i64 0] 89)
   have F7 := Blk.put (v1) #[.pointer none, .int .i64 0] 89
   replace B0 := B0.alloc B0.size (.cells #[.pointer none, .int .i64 0] 89)
   generalize (v1).alloc (.cells #[.pointer none, .int .i64 0] 89) = v2 at *
   obtain ⟨xF39_0, xF39_1⟩ := F3.ce2
   obtain ⟨xF49_0, xF49_1⟩ := F4.ce2
   obtain ⟨xF59_0, xF59_1⟩ := F5.ce2
   refine hK.out _ _ ?_ (fun hHeld => ?_)
   ·exact ⟨xF39_0, xF39_1, xF49_0, xF49_1, xF59_0, xF59_1⟩
   clear hK K
   (try dsimp only [Act.put]); (try go_frame)
   refine wpAnyH_ready (rs := [2]) (by kernel_rfl) (by simp) ?_
   refine AllReadyH.cons rfl (fun K hK => ?_) AllReadyH.nil
   go_simp
   (with_reducible refine (c_blntimes (KK := KK) _ I1 I1 hz1 hz1 hKK' (by omega) (by omega) (by omega) (by omega)).mono ?_)
   rintro r w2 ⟨⟨d3, rfl, hI⟩, hb2⟩
   clear xF39_0 xF39_1 xF49_0 xF49_1 xF59_0 xF59_1
   replace I1 := I1.keep hb2
   replace I2 := I2.keep hb2
   replace I3 := I3.keep hb2
   replace F3 := F3.keep hb2
   replace F4 := F4.keep hb2
   replace F5 := F5.keep hb2
   replace F7 := F7.keep hb2
   replace B0 := B0.trans (hb2.mono B0.size)
   clear hb2
   have J3 := hI
   clear hI
   obtain ⟨xF310_0, xF310_1⟩ := F3.ce2
   obtain ⟨xF410_0, xF410_1⟩ := F4.ce2
   obtain ⟨xF510_0, xF510_1⟩ := F5.ce2
   refine hK.out _ _ ?_ (fun hHeld => ?_)
   ·exact ⟨xF310_0, xF310_1, xF410_0, xF410_1, xF510_0, xF510_1⟩
   clear hK K
   (try dsimp only [Act.put]); (try go_frame)
   refine wpAnyH_ready (rs := [5]) (by kernel_rfl) (by simp) ?_
   refine AllReadyH.cons rfl (fun K hK => ?_) AllReadyH.nil
   go_simp
   (with_reducible refine (c_blntimes (KK := KK) _ I2 I2 hz2 hz2 hKK' (by omega) (by omega) (by omega) (by omega)).mono ?_)
   rintro r w3 ⟨⟨d4, rfl, hI⟩, hb3⟩
   clear xF310_0 xF310_1 xF410_0 xF410_1 xF510_0 xF510_1
   clear I1
   replace I2 := I2.keep hb3
   replace I3 := I3.keep hb3
   replace F3 := F3.keep hb3
   replace F4 := F4.keep hb3
   replace F5 := F5.keep hb3
   replace F7 := F7.keep hb3
   replace J3 := J3.keep hb3
   replace B0 := B0.trans (hb3.mono B0.size)
   clear hb3
   have J4 := hI
   clear hI
   obtain ⟨xF311_0, xF311_1⟩ := F3.ce2
   obtain ⟨xF411_0, xF411_1⟩ := F4.ce2
   obtain ⟨xF511_0, xF511_1⟩ := F5.ce2
   refine hK.out _ _ ?_ (fun hHeld => ?_)
   ·exact ⟨xF311_0, xF311_1, xF411_0, xF411_1, xF511_0, xF511_1⟩
   clear hK K
   (try dsimp only [Act.put]); (try go_frame)
   refine wpAnyH_ready (rs := [6]) (by kernel_rfl) (by simp) ?_
   refine AllReadyH.cons rfl (fun K hK => ?_) AllReadyH.nil
   go_simp
   (with_reducible refine (c_blnplus (K := K2) _ J3 J4 hq1 hq2 hK2 (by omega) (by omega) (by omega) (by omega)).mono ?_)
   rintro r w4 ⟨⟨d5, z5, e5, rfl, hI, hE5⟩, hb4⟩
   clear xF311_0 xF311_1 xF411_0 xF411_1 xF511_0 xF511_1
   clear I2
   replace I3 := I3.keep hb4
   replace F3 := F3.keep hb4
   replace F4 := F4.keep hb4
   replace F5 := F5.keep hb4
   replace F7 := F7.keep hb4
   replace J3 := J3.keep hb4
   replace J4 := J4.keep hb4
   replace B0 := B0.trans (hb4.mono B0.size)
   clear hb4
   have J5 := hI
   clear hI
   obtain ⟨hbz5, hbe5, hbf5⟩ := nAdd_bd (E := 2200) hq1 hq2 (by omega) (by omega) (by omega) (by omega) hE5
   rw [← hK3e] at hbz5
   obtain ⟨xF312_0, xF312_1⟩ := F3.ce2
   obtain ⟨xF412_0, xF412_1⟩ := F4.ce2
   obtain ⟨xF512_0, xF512_1⟩ := F5.ce2
   refine hK.out _ _ ?_ (fun hHeld => ?_)
   ·exact ⟨xF312_0, xF312_1, xF412_0, xF412_1, xF512_0, xF512_1⟩
   clear hK K
   (try dsimp only [Act.put]); (try go_frame)
   refine wpAnyH_ready (rs := [9]) (by kernel_rfl) (by simp) ?_
   refine AllReadyH.cons rfl (fun K hK => ?_) AllReadyH.nil
   go_simp
   (with_reducible refine (c_blntimes (KK := KK) _ I3 I3 hz3 hz3 hKK' (by omega) (by omega) (by omega) (by omega)).mono ?_)
   rintro r w5 ⟨⟨d6, rfl, hI⟩, hb5⟩
   clear xF312_0 xF312_1 xF412_0 xF412_1 xF512_0 xF512_1
   replace I3 := I3.keep hb5
   replace F3 := F3.keep hb5
   replace F4 := F4.keep hb5
   replace F5 := F5.keep hb5
   replace F7 := F7.keep hb5
   clear J3
   clear J4
   replace J5 := J5.keep hb5
   replace B0 := B0.trans (hb5.mono B0.size)
   clear hb5
   have J6 := hI
   clear hI
   obtain ⟨xF313_0, xF313_1⟩ := F3.ce2
   obtain ⟨xF413_0, xF413_1⟩ := F4.ce2
   obtain ⟨xF513_0, xF513_1⟩ := F5.ce2
   refine hK.out _ _ ?_ (fun hHeld => ?_)
   ·exact ⟨xF313_0, xF313_1, xF413_0, xF413_1, xF513_0, xF513_1⟩
   clear hK K
   (try dsimp only [Act.put]); (try go_frame)
   refine wpAnyH_ready (rs := [10]) (by kernel_rfl) (by simp) ?_
   refine AllReadyH.cons rfl (fun K hK => ?_) AllReadyH.nil
   go_simp
   (with_reducible refine (c_blnless (KK := K3) _ J5 J6 hbz5 hq3 hK3 (by omega) (by omega) (by omega) (by omega)).mono ?_)
   rintro r w6 ⟨⟨d7, z7, e7, rfl, hI, hE7⟩, hb6⟩
   clear xF313_0 xF313_1 xF413_0 xF413_1 xF513_0 xF513_1
   clear I3
   replace F3 := F3.keep hb6
   replace F4 := F4.keep hb6
   replace F5 := F5.keep hb6
   replace F7 := F7.keep hb6
   replace J5 := J5.keep hb6
   replace J6 := J6.keep hb6
   replace B0 := B0.trans (hb6.mono B0.size)
   clear hb6
   have J7 := hI
   clear hI
   obtain ⟨xF314_0, xF314_1⟩ := F3.ce2
   obtain ⟨xF414_0, xF414_1⟩ := F4.ce2
   obtain ⟨xF514_0, xF514_1⟩ := F5.ce2
   refine hK.out _ _ ?_ (fun hHeld => ?_)
   ·exact ⟨xF314_0, xF314_1, xF414_0, xF414_1, xF514_0, xF514_1⟩
   clear hK K
   (try dsimp only [Act.put]); (try go_frame)
   obtain ⟨xF714_0, xF714_1⟩ := F7.ce2
   obtain ⟨xF714_0f, xF714_1f⟩ := F7.fr2
   refine wpAnyH_ready (rs := [12]) (by kernel_rfl) (by simp) ?_
   refine AllReadyH.cons rfl (fun K hK => ?_) AllReadyH.nil
   go_simp
   have hL8 := But.lay (b := v1.heap.size) (o := 0) ⟨_, _, F7, by decide, by simp⟩ (.pointer (some ⟨d7, 0, none⟩)) (.int .i64 e7)
   replace F3 := F3.but hL8 (Nat.ne_of_lt q_F3_F7.out)
   replace F4 := F4.but hL8 (Nat.ne_of_lt q_F4_F7.out)
   replace F5 := F5.but hL8 (Nat.ne_of_lt q_F5_F7.out)
   clear J5
   clear J6
   replace J7 := J7.but hL8 (.inl (intat_ne J7 F7))
   replace F7 : Blk (((w6).setCell ⟨v1.heap.size, 0, none⟩ (.pointer (some ⟨d7, 0, none⟩))).setCell ⟨v1.heap.size, 1, none⟩ (.int .i64 e7)) (v1.heap.size) #[.pointer (some ⟨d7, 0, none⟩), .int .i64 e7] 89 := ((F7.setAt 0 (.pointer (some ⟨d7, 0, none⟩))).setAt 1 (.int .i64 e7))
   replace B0 := B0.trans (hL8.below q_w_F7.out B0.size)
   clear hL8
   clear xF314_0 xF314_1 xF414_0 xF414_1 xF514_0 xF514_1 xF714_0 xF714_1 xF714_0f xF714_1f
   obtain ⟨xF315_0, xF315_1⟩ := F3.ce2
   obtain ⟨xF415_0, xF415_1⟩ := F4.ce2
   obtain ⟨xF515_0, xF515_1⟩ := F5.ce2
   refine hK.out _ _ ?_ (fun hHeld => ?_)
   ·exact ⟨xF315_0, xF315_1, xF415_0, xF415_1, xF515_0, xF515_1⟩
   clear hK K
   (try dsimp only [Act.put]); (try go_frame)
   refine wpAnyH_done (by kernel_rfl) ?_ _
   try simp only [QCut]
   clear hHeld
   clear xF315_0 xF315_1 xF415_0 xF415_1 xF515_0 xF515_1
   obtain ⟨xF715_0, xF715_1⟩ := F7.ce2
   go_wp2_with fail
   (with_reducible refine (sign_below J7).mono ?_)
   rintro r w7 ⟨rfl, hb7⟩
   clear xF715_0 xF715_1
   replace F3 := F3.keep hb7
   replace F4 := F4.keep hb7
   replace F5 := F5.keep hb7
   replace F7 := F7.keep hb7
   replace J7 := J7.keep hb7
   replace B0 := B0.trans (hb7.mono B0.size)
   clear hb7
   go_wp2
   go_ret
   exact ⟨by rw [farF_eq (by omega) hE5 hE7]; rfl, B0⟩
end Go.Proofs.YtfdnbogbankjjaaGreatDoor
