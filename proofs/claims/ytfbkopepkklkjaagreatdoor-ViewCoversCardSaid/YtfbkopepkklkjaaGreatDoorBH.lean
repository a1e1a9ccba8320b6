/- The walks over dyad.sign, dyad.Cmp, the reference's Cmp. -/
import Derived.Test.YtfbkopepkklkjaaGreatDoorBC
namespace Go.Proofs.YtfbkopepkklkjaaGreatDoor
open Go Go.RowKit Go.PlainAid Fil

set_option maxHeartbeats 1000000 in
theorem dsgn_any (z : Int) (w : World) : Calls Tryz.prog 55 #[.int .i64 z] w fun r w' => r = .returned (.int .i64 z.sign) ∧ w = w' := by
 rcases sign_cases z with ⟨h1, h2⟩ | ⟨h1, h2⟩ | ⟨h1, h2⟩
 ·rw [h2]
  have d1 : decide (z < 0) = true := decide_eq_true h1
  clear h2
  go_enter Tryz.func55, Tryz.ntmps55
  go_wp2
  go_ret
  exact ⟨rfl, rfl⟩
 ·rw [h2]
  subst h1
  clear h2
  go_enter Tryz.func55, Tryz.ntmps55
  go_wp2
  go_ret
  exact ⟨rfl, rfl⟩
 ·rw [h2]
  have d1 : decide (z < 0) = false := decide_eq_false (by omega)
  have d2 : decide (0 < z) = true := decide_eq_true h1
  clear h2
  go_enter Tryz.func55, Tryz.ntmps55
  go_wp2
  go_ret
  exact ⟨rfl, rfl⟩
/-- the blocks of a call of two Dyads -/
theorem dy_pair (w : World) (na : Bool) (sa : ByteArray) (ea : Int) (nb : Bool) (sb : ByteArray) (eb : Int) {w' : World}
  (h : Below (w.heap.size + 1 + 1) ((w.alloc (.cells #[.bool na, .string sa, .int .i64 ea] 24)).alloc (.cells #[.bool nb, .string sb, .int .i64 eb] 24)) w') :
  DyAt w' w.heap.size na sa ea ∧ DyAt w' (w.heap.size + 1) nb sb eb ∧ Below w.heap.size w w' ∧ w.heap.size + 1 + 1 ≤ w'.heap.size := by
 have s1 : (w.alloc (.cells #[.bool na, .string sa, .int .i64 ea] 24)).heap.size = w.heap.size + 1 := by simp
 have s2 : ((w.alloc (.cells #[.bool na, .string sa, .int .i64 ea] 24)).alloc (.cells #[.bool nb, .string sb, .int .i64 eb] 24)).heap.size = w.heap.size + 1 + 1 := by simp
 have h3 := ((Below.refl (w.heap.size + 1) _).alloc (by rw [s1]; exact Nat.le_refl _) (.cells #[.bool nb, .string sb, .int .i64 eb] 24)).trans (h.mono (by omega))
 have hs := h.size
 rw [s2] at hs
 exact ⟨DyAt.new w _ na sa ea rfl h3, DyAt.new _ _ nb sb eb s1 h, ((Below.refl _ _).alloc (Nat.le_refl _) _).trans (h3.mono (by omega)), hs⟩
/-- the call of all over two Dyads in blocks of their own, behind a call's opening -/
theorem all_pair (w : World) (na : Bool) (sa : ByteArray) (ea : Int) (nb : Bool) (sb : ByteArray) (eb : Int) (hsa : sa.size ≤ 9223372036854775807) (hsb : sb.size ≤ 9223372036854775807) :
  Calls Tryz.prog 53 #[.slice (some ⟨w.heap.size + 1 + 1, 0, none⟩) 2 2] (((w.alloc (.cells #[.bool na, .string sa, .int .i64 ea] 24)).alloc (.cells #[.bool nb, .string sb, .int .i64 eb] 24)).alloc (.cells #[.bool na, .string sa, .int .i64 ea, .bool nb, .string sb, .int .i64 eb] 24)) fun r w' =>
   r = .returned (.bool (mayB na sa ea && mayB nb sb eb)) ∧ Below (w.heap.size + 1 + 1) ((w.alloc (.cells #[.bool na, .string sa, .int .i64 ea] 24)).alloc (.cells #[.bool nb, .string sb, .int .i64 eb] 24)) w' := by
 have s2 : ((w.alloc (.cells #[.bool na, .string sa, .int .i64 ea] 24)).alloc (.cells #[.bool nb, .string sb, .int .i64 eb] 24)).heap.size = w.heap.size + 1 + 1 := by simp
 have h := all_any _ 2 2 _ _ _ _ (by omega) (dys_two _ _ s2 na sa ea nb sb eb) (fun i _ => by by_cases e : i = 0 <;> simp only [e, if_true, if_false] <;> assumption)
 refine h.mono ?_
 rintro r w' ⟨rfl, hb⟩
 refine ⟨?_, ((Below.refl _ _).alloc (by omega) _).trans (hb.mono (by simp))⟩
 rw [allB_two]; rfl
/-- of one sign and one highest bit the powers are not far apart -/
theorem near_tops {na nb : Bool} {xa xb : Nat} {ea eb : Int} (ha : okD na xa ea) (hb : okD nb xb eb) (hxa : xa ≠ 0) (hxb : xb ≠ 0) (h : topZ xa ea = topZ xb eb) : (ea - min ea eb).toNat ≤ 131072 ∧ (eb - min ea eb).toNat ≤ 131072 := by
 rw [topZ_of hxa, topZ_of hxb] at h
 have h1 := dn8_bl xa
 have h2 := dn8_bl xb
 have h3 := ha.dn
 have h4 := hb.dn
 have h5 : 0 < bl xa := by unfold bl; rw [if_neg hxa]; omega
 have h6 : 0 < bl xb := by unfold bl; rw [if_neg hxb]; omega
 omega
theorem sgn_or (z : Int) : -1 ≤ z.sign ∧ z.sign ≤ 1 := by
 rcases sign_cases z with ⟨_, h⟩ | ⟨_, h⟩ | ⟨_, h⟩ <;> rw [h] <;> omega
theorem IntAt.drewN1 {w : World} {b o : Nat} {z : Int} (h : IntAt w b o z) : IntAt w.drew b o z := h
theorem Room.drewN1 {w : World} {b o : Nat} (h : Room w b o) : Room w.drew b o := h
set_option maxHeartbeats 8000000 in
theorem dcmp_ok (na : Bool) (xa : Nat) (ea : Int) (nb : Bool) (xb : Nat) (eb : Int) (w : World) (ha : okD na xa ea) (hb : okD nb xb eb) :
  Calls Tryz.prog 24 #[.agg #[.bool na, .string (bstr xa), .int .i64 ea], .agg #[.bool nb, .string (bstr xb), .int .i64 eb]] w fun r w' => r = .returned (.tuple #[.int .i64 (cmpD (sz na xa) ea (sz nb xb) eb), .int .i64 0]) ∧ Below w.heap.size w w' := by
 have Hall := all_pair w na (bstr xa) ea nb (bstr xb) eb (bstr_len ha) (bstr_len hb)
 rw [mayB_ok ha, mayB_ok hb] at Hall
 have hsa := fun W => dsign_ok na xa ea W ha
 have hsb := fun W => dsign_ok nb xb eb W hb
 have hta := fun W => dtop_ok na xa ea W ha
 have htb := fun W => dtop_ok nb xb eb W hb
 have hwa := fun W => whole_any na xa ea W ha
 have hwb := fun W => whole_any nb xb eb W hb
 have sga := sgn_or (sz na xa)
 have sgb := sgn_or (sz nb xb)
 obtain ⟨A, hA⟩ : ∃ A, A = (sz na xa).sign := ⟨_, rfl⟩
 obtain ⟨B, hB9⟩ : ∃ B, B = (sz nb xb).sign := ⟨_, rfl⟩
 obtain ⟨C, hC⟩ : ∃ C, C = cmpD (sz na xa) ea (sz nb xb) eb := ⟨_, rfl⟩
 obtain ⟨g1, g2⟩ := sga
 obtain ⟨g3, g4⟩ := sgb
 rw [← hA] at hsa g1 g2
 rw [← hB9] at hsb g3 g4
 rw [← hC]
 have la := okD.e1 ha
 have la' := okD.e2 ha
 have lb := okD.e1 hb
 have lb' := okD.e2 hb
 have low := lowM_ge
 by_cases h1 : A = B
 ·by_cases h2 : A = 0
  ·have hv : C = (A - B).sign := by rw [hC, hA, hB9]; exact (cmpD_sign (.inr (by rw [← hA]; exact h2))).symm
   have hsg := fun W => dsgn_any (A - B) W
   rw [← hv] at hsg
   subst h1
   subst h2
   have Hx := Lib.hid (And.intro hA hB9)
   clear hA hB9 hC hv ha hb hta htb hwa hwb la la' lb lb' low
   rw [Int.sub_self] at hsg
   generalize bstr xa = sa at *
   generalize bstr xb = sb at *
   go_enter Tryz.func24, Tryz.ntmps24
   go_wp2_with fail
   refine Hall.mono ?_
   rintro r w1 ⟨rfl, hb1⟩
   replace hk := hb1
   clear hb1 Hall
   obtain ⟨⟨a0, a1, a2, -, -, -⟩, ⟨b0, b1, b2, -, -, -⟩, hB, hs⟩ := dy_pair w na sa ea nb sb eb hk
   go_wp2_with fail
   refine wp_region_cut 4 (by kernel_rfl) (by kernel_rfl) ?_
   rintro W rfl
   simp only [List.take_succ_cons, List.take_zero, List.drop_succ_cons, List.drop_zero]
   have hHeld : (fun w' : World => w'.cell? ⟨w.heap.size, 0, none⟩ = some (.bool na) ∧ w'.cell? ⟨w.heap.size, 1, none⟩ = some (.string sa) ∧ w'.cell? ⟨w.heap.size, 2, none⟩ = some (.int .i64 ea) ∧ w'.cell? ⟨w.heap.size + 1, 0, none⟩ = some (.bool nb) ∧ w'.cell? ⟨w.heap.size + 1, 1, none⟩ = some (.string sb) ∧ w'.cell? ⟨w.heap.size + 1, 2, none⟩ = some (.int .i64 eb)) (w1).drew := ⟨a0, a1, a2, b0, b1, b2⟩
   refine wpAny_of_held (S := fun w' : World => w'.cell? ⟨w.heap.size, 0, none⟩ = some (.bool na) ∧ w'.cell? ⟨w.heap.size, 1, none⟩ = some (.string sa) ∧ w'.cell? ⟨w.heap.size, 2, none⟩ = some (.int .i64 ea) ∧ w'.cell? ⟨w.heap.size + 1, 0, none⟩ = some (.bool nb) ∧ w'.cell? ⟨w.heap.size + 1, 1, none⟩ = some (.string sb) ∧ w'.cell? ⟨w.heap.size + 1, 2, none⟩ = some (.int .i64 eb)) _ _ _ _ ?_
   refine tkA 0 ?_
   (try dsimp only [Act.put]); (try go_frame)
   refine tkA 2 ?_
   (try dsimp only [Act.put]); (try go_frame)
   refine wpAnyH_ready (rs := [1]) (by kernel_rfl) (by simp) ?_
   refine AllReadyH.cons rfl (fun K hK => ?_) AllReadyH.nil
   go_simp
   (with_reducible refine (hsa _).mono ?_)
   rintro r w2 ⟨rfl, hb2⟩
   clear a0 a1 a2 b0 b1 b2
   replace hk := hk.drew.trans (hb2.mono hs)
   clear hB hs
   obtain ⟨⟨a0, a1, a2, -, -, -⟩, ⟨b0, b1, b2, -, -, -⟩, hB, hs⟩ := dy_pair w na sa ea nb sb eb hk
   refine hK.out _ _ ?_ (fun hHeld => ?_)
   ·exact ⟨a0, a1, a2, b0, b1, b2⟩
   clear hK K
   (try dsimp only [Act.put]); (try go_frame)
   refine wpAnyH_ready (rs := [3]) (by kernel_rfl) (by simp) ?_
   refine AllReadyH.cons rfl (fun K hK => ?_) AllReadyH.nil
   go_simp
   (with_reducible refine (hsb _).mono ?_)
   rintro r w3 ⟨rfl, hb3⟩
   clear a0 a1 a2 b0 b1 b2
   replace hk := hk.trans (hb3.mono hs)
   clear hB hs
   obtain ⟨⟨a0, a1, a2, -, -, -⟩, ⟨b0, b1, b2, -, -, -⟩, hB, hs⟩ := dy_pair w na sa ea nb sb eb hk
   refine hK.out _ _ ?_ (fun hHeld => ?_)
   ·exact ⟨a0, a1, a2, b0, b1, b2⟩
   clear hK K
   (try dsimp only [Act.put]); (try go_frame)
   refine wpAnyH_done (by kernel_rfl) ?_ _
   try simp only [QCut]
   clear hHeld hb2 hb3 hsa hsb
   go_wp2_with fail
   (with_reducible refine (hsg _).mono ?_)
   rintro r w4 ⟨rfl, rfl⟩
   go_wp2
   go_returns
   exact ⟨rfl, hB⟩
  ·have hza : (sz na xa).sign ≠ 0 := by rw [← hA]; exact h2
   have hzb : (sz nb xb).sign ≠ 0 := by rw [← hB9, ← h1]; exact h2
   have hxa : xa ≠ 0 := fun h => hza (by rw [h, sz_zero]; rfl)
   have hxb : xb ≠ 0 := fun h => hzb (by rw [h, sz_zero]; rfl)
   rw [decide_eq_true hxa] at hta
   rw [decide_eq_true hxb] at htb
   have hss : (sz na xa).sign = (sz nb xb).sign := by rw [← hA, ← hB9]; exact h1
   have htl : -1200000 ≤ topZ xa ea ∧ topZ xa ea ≤ 1200000 := by
    rw [topZ_of hxa]; have := dn8_bl xa; have := ha.dn; have h5 : 0 < bl xa := by unfold bl; rw [if_neg hxa]; omega
    omega
   have htm : -1200000 ≤ topZ xb eb ∧ topZ xb eb ≤ 1200000 := by
    rw [topZ_of hxb]; have := dn8_bl xb; have := hb.dn; have h5 : 0 < bl xb := by unfold bl; rw [if_neg hxb]; omega
    omega
   obtain ⟨t1, t2⟩ := htl
   obtain ⟨t3, t4⟩ := htm
   have d0 : (A == 0) = false := by simpa using h2
   have d1 : (A == B) = true := by simpa using h1
   have d2 : (A != B) = false := by simpa using h1
   by_cases h3 : topZ xa ea = topZ xb eb
   ·obtain ⟨k1, k2⟩ := near_tops ha hb hxa hxb h3
    obtain ⟨lo, hlo⟩ : ∃ lo, lo = min ea eb := ⟨_, rfl⟩
    rw [← hlo] at k1 k2
    obtain ⟨ka, hka⟩ : ∃ ka, ka = (ea - lo).toNat := ⟨_, rfl⟩
    obtain ⟨kb, hkb⟩ : ∃ kb, kb = (eb - lo).toNat := ⟨_, rfl⟩
    have hv : C = cmpI (sz na xa * 2 ^ ka) (sz nb xb * 2 ^ kb) := by
     rw [hC, cmpD_at (lo := lo) (by omega) (by omega) (by omega), cmpI_sgn, ← hka, ← hkb]
    rw [← hka] at k1
    rw [← hkb] at k2
    have da := Lib.hid (show Fil.dn 32 (sz na xa).natAbs ≤ 16384 ∧ Fil.dn 32 (sz na xa * 2 ^ ka).natAbs ≤ 16384 by
     rw [abs_shl, sz_abs]; exact ⟨by have := dn32_shl (k := 0) ha.dn (by omega); simpa using this, dn32_shl ha.dn (by omega)⟩)
    have db := Lib.hid (show Fil.dn 32 (sz nb xb).natAbs ≤ 16384 ∧ Fil.dn 32 (sz nb xb * 2 ^ kb).natAbs ≤ 16384 by
     rw [abs_shl, sz_abs]; exact ⟨by have := dn32_shl (k := 0) hb.dn (by omega); simpa using this, dn32_shl hb.dn (by omega)⟩)
    have hlo' := hlo.symm
    have j1 : ea - lo = (ka : Int) := by omega
    have j2 : eb - lo = (kb : Int) := by omega
    have j3 : (ka : Int) ≤ 131072 := by omega
    have j4 : (kb : Int) ≤ 131072 := by omega
    have j5 : 0 ≤ (ka : Int) := by omega
    have j6 : 0 ≤ (kb : Int) := by omega
    have j7 : -1048576 ≤ lo := by omega
    have j8 : lo ≤ 1048576 := by omega
    have wa1 : IntKind.i64.wrap (ka : Int) = (ka : Int) := by rw [IntKind.wrap_i64]; omega
    have wa2 : IntKind.u64.wrap (ka : Int) = (ka : Int) := by rw [IntKind.wrap_u64]; omega
    have wb1 : IntKind.i64.wrap (kb : Int) = (kb : Int) := by rw [IntKind.wrap_i64]; omega
    have wb2 : IntKind.u64.wrap (kb : Int) = (kb : Int) := by rw [IntKind.wrap_u64]; omega
    have Hk := Lib.hid (And.intro k1 k2)
    rw [h3] at hta
    have d5 : (topZ xb eb == topZ xb eb) = true := beq_self_eq_true _
    have d6 : (topZ xb eb != topZ xb eb) = false := by simp
    generalize topZ xb eb = T at *
    have Hx := Lib.hid (And.intro hA (And.intro hB9 (And.intro hC (And.intro hlo (And.intro hka hkb)))))
    have Hv := Lib.hid hv
    have Hda := Lib.hid hza
    clear hA hB9 hC hv ha hb h1 h2 h3 hxa hxb hza hzb hss hlo hka hkb k1 k2 t1 t2 t3 t4
    generalize hzA : sz na xa = ZA at *
    generalize hzB : sz nb xb = ZB at *
    clear hzA hzB
    generalize bstr xa = sa at *
    generalize bstr xb = sb at *
    go_enter Tryz.func24, Tryz.ntmps24
    go_wp2_with fail
    refine Hall.mono ?_
    rintro r w1 ⟨rfl, hb1⟩
    replace hk := hb1
    clear hb1 Hall
    obtain ⟨⟨a0, a1, a2, -, -, -⟩, ⟨b0, b1, b2, -, -, -⟩, hB, hs⟩ := dy_pair w na sa ea nb sb eb hk
    go_wp2_with fail
    refine wp_region_cut 4 (by kernel_rfl) (by kernel_rfl) ?_
    rintro W rfl
    simp only [List.take_succ_cons, List.take_zero, List.drop_succ_cons, List.drop_zero]
    have hHeld : (fun w' : World => w'.cell? ⟨w.heap.size, 0, none⟩ = some (.bool na) ∧ w'.cell? ⟨w.heap.size, 1, none⟩ = some (.string sa) ∧ w'.cell? ⟨w.heap.size, 2, none⟩ = some (.int .i64 ea) ∧ w'.cell? ⟨w.heap.size + 1, 0, none⟩ = some (.bool nb) ∧ w'.cell? ⟨w.heap.size + 1, 1, none⟩ = some (.string sb) ∧ w'.cell? ⟨w.heap.size + 1, 2, none⟩ = some (.int .i64 eb)) (w1).drew := ⟨a0, a1, a2, b0, b1, b2⟩
    refine wpAny_of_held (S := fun w' : World => w'.cell? ⟨w.heap.size, 0, none⟩ = some (.bool na) ∧ w'.cell? ⟨w.heap.size, 1, none⟩ = some (.string sa) ∧ w'.cell? ⟨w.heap.size, 2, none⟩ = some (.int .i64 ea) ∧ w'.cell? ⟨w.heap.size + 1, 0, none⟩ = some (.bool nb) ∧ w'.cell? ⟨w.heap.size + 1, 1, none⟩ = some (.string sb) ∧ w'.cell? ⟨w.heap.size + 1, 2, none⟩ = some (.int .i64 eb)) _ _ _ _ ?_
    refine tkA 0 ?_
    (try dsimp only [Act.put]); (try go_frame)
    refine tkA 2 ?_
    (try dsimp only [Act.put]); (try go_frame)
    refine wpAnyH_ready (rs := [1]) (by kernel_rfl) (by simp) ?_
    refine AllReadyH.cons rfl (fun K hK => ?_) AllReadyH.nil
    go_simp
    (with_reducible refine (hsa _).mono ?_)
    rintro r w2 ⟨rfl, hb2⟩
    clear a0 a1 a2 b0 b1 b2
    replace hk := hk.drew.trans (hb2.mono hs)
    clear hB hs
    obtain ⟨⟨a0, a1, a2, -, -, -⟩, ⟨b0, b1, b2, -, -, -⟩, hB, hs⟩ := dy_pair w na sa ea nb sb eb hk
    refine hK.out _ _ ?_ (fun hHeld => ?_)
    ·exact ⟨a0, a1, a2, b0, b1, b2⟩
    clear hK K
    (try dsimp only [Act.put]); (try go_frame)
    refine wpAnyH_ready (rs := [3]) (by kernel_rfl) (by simp) ?_
    refine AllReadyH.cons rfl (fun K hK => ?_) AllReadyH.nil
    go_simp
    (with_reducible refine (hsb _).mono ?_)
    rintro r w3 ⟨rfl, hb3⟩
    clear a0 a1 a2 b0 b1 b2
    replace hk := hk.trans (hb3.mono hs)
    clear hB hs
    obtain ⟨⟨a0, a1, a2, -, -, -⟩, ⟨b0, b1, b2, -, -, -⟩, hB, hs⟩ := dy_pair w na sa ea nb sb eb hk
    refine hK.out _ _ ?_ (fun hHeld => ?_)
    ·exact ⟨a0, a1, a2, b0, b1, b2⟩
    clear hK K
    (try dsimp only [Act.put]); (try go_frame)
    refine wpAnyH_done (by kernel_rfl) ?_ _
    try simp only [QCut]
    clear hHeld hb2 hb3 hsa hsb
    go_wp2_with fail
    (with_reducible refine (hta _).mono ?_)
    rintro r w4 ⟨rfl, hb4⟩
    clear a0 a1 a2 b0 b1 b2
    replace hk := hk.trans (hb4.mono hs)
    clear hB hs
    obtain ⟨⟨a0, a1, a2, -, -, -⟩, ⟨b0, b1, b2, -, -, -⟩, hB, hs⟩ := dy_pair w na sa ea nb sb eb hk
    go_wp2_with fail
    (with_reducible refine (htb _).mono ?_)
    rintro r w5 ⟨rfl, hb5⟩
    clear a0 a1 a2 b0 b1 b2
    replace hk := hk.trans (hb5.mono hs)
    clear hB hs
    obtain ⟨⟨a0, a1, a2, -, -, -⟩, ⟨b0, b1, b2, -, -, -⟩, hB, hs⟩ := dy_pair w na sa ea nb sb eb hk
    clear hb4 hb5 hta htb
    go_wp2_with fail
    (with_reducible refine (hwa _).mono ?_)
    rintro r w6 ⟨rfl, hI, hb6⟩
    have s5 := hs
    clear a0 a1 a2 b0 b1 b2
    replace hk := hk.trans (hb6.mono hs)
    clear hB hs
    obtain ⟨⟨a0, a1, a2, -, -, -⟩, ⟨b0, b1, b2, -, -, -⟩, hB, hs⟩ := dy_pair w na sa ea nb sb eb hk
    have lI := hI.lt
    have lp : w.heap.size + 1 < w5.heap.size + 1 := by have := hb6.size; omega
    generalize hp : w5.heap.size + 1 = p at *
    clear hb6 hwa hp
    go_wp2_with fail
    (with_reducible refine (hwb _).mono ?_)
    rintro r w7 ⟨rfl, hJ, hb7⟩
    replace hI := hI.below hb7
    clear a0 a1 a2 b0 b1 b2
    replace hk := hk.trans (hb7.mono hs)
    clear hB hs
    obtain ⟨⟨a0, a1, a2, -, -, -⟩, ⟨b0, b1, b2, -, -, -⟩, hB, hs⟩ := dy_pair w na sa ea nb sb eb hk
    have lq : p < w6.heap.size + 1 := by omega
    generalize hq : w6.heap.size + 1 = q at *
    clear hb7 hwb hq lI
    go_wp2_with fail
    refine wp_region_cut 17 (by kernel_rfl) (by kernel_rfl) ?_
    rintro W rfl
    simp only [List.take_succ_cons, List.take_zero, List.drop_succ_cons, List.drop_zero]
    have hHeld : (fun w' : World => w'.cell? ⟨w.heap.size, 0, none⟩ = some (.bool na) ∧ w'.cell? ⟨w.heap.size, 1, none⟩ = some (.string sa) ∧ w'.cell? ⟨w.heap.size, 2, none⟩ = some (.int .i64 ea) ∧ w'.cell? ⟨w.heap.size + 1, 0, none⟩ = some (.bool nb) ∧ w'.cell? ⟨w.heap.size + 1, 1, none⟩ = some (.string sb) ∧ w'.cell? ⟨w.heap.size + 1, 2, none⟩ = some (.int .i64 eb)) (w7).drew := ⟨a0, a1, a2, b0, b1, b2⟩
    refine wpAny_of_held (S := fun w' : World => w'.cell? ⟨w.heap.size, 0, none⟩ = some (.bool na) ∧ w'.cell? ⟨w.heap.size, 1, none⟩ = some (.string sa) ∧ w'.cell? ⟨w.heap.size, 2, none⟩ = some (.int .i64 ea) ∧ w'.cell? ⟨w.heap.size + 1, 0, none⟩ = some (.bool nb) ∧ w'.cell? ⟨w.heap.size + 1, 1, none⟩ = some (.string sb) ∧ w'.cell? ⟨w.heap.size + 1, 2, none⟩ = some (.int .i64 eb)) _ _ _ _ ?_
    refine tkA 0 ?_
    (try dsimp only [Act.put]); (try go_frame)
    refine tkA 1 ?_
    (try dsimp only [Act.put]); (try go_frame)
    refine tkA 2 ?_
    (try dsimp only [Act.put]); (try go_frame)
    refine tkA 3 ?_
    (try dsimp only [Act.put]); (try go_frame)
    refine tkA 4 ?_
    (try dsimp only [Act.put]); (try go_frame)
    refine tkA 5 ?_
    (try dsimp only [Act.put]); (try go_frame)
    refine tkA 6 ?_
    (try dsimp only [Act.put]); (try go_frame)
    refine tkA 8 ?_
    (try dsimp only [Act.put]); (try go_frame)
    refine tkA 9 ?_
    (try dsimp only [Act.put]); (try go_frame)
    refine tkA 10 ?_
    (try dsimp only [Act.put]); (try go_frame)
    refine tkA 11 ?_
    (try dsimp only [Act.put]); (try go_frame)
    refine tkA 12 ?_
    (try dsimp only [Act.put]); (try go_frame)
    refine tkA 13 ?_
    (try dsimp only [Act.put]); (try go_frame)
    refine tkA 14 ?_
    (try dsimp only [Act.put]); (try go_frame)
    refine wpAnyH_ready (rs := [7]) (by kernel_rfl) (by simp) ?_
    refine AllReadyH.cons rfl (fun K hK => ?_) AllReadyH.nil
    go_simp
    (with_reducible refine (lsh_any p 0 p 0 ka ZA w7.drew hI.room.drewN1 hI.drewN1 (by have := da.out; omega) (by have := Hk.out; omega)).mono ?_)
    rintro r w8 ⟨rfl, hI8, hB8⟩
    replace hJ := hJ.drewN1.but hB8 (Or.inl (by omega))
    replace hk := hk.drew.trans (hB8.below (by omega) (by simpa using hs))
    clear a0 a1 a2 b0 b1 b2 hB hs
    obtain ⟨⟨a0, a1, a2, -, -, -⟩, ⟨b0, b1, b2, -, -, -⟩, hB, hs⟩ := dy_pair w na sa ea nb sb eb hk
    refine hK.out _ _ ?_ (fun hHeld => ?_)
    ·exact ⟨a0, a1, a2, b0, b1, b2⟩
    clear hK K hB8 hI
    (try dsimp only [Act.put]); (try go_frame)
    refine wpAnyH_ready (rs := [15]) (by kernel_rfl) (by simp) ?_
    refine AllReadyH.cons rfl (fun K hK => ?_) AllReadyH.nil
    go_simp
    (with_reducible refine (lsh_any q 0 q 0 kb ZB w8 hJ.room hJ (by have := db.out; omega) (by have := Hk.out; omega)).mono ?_)
    rintro r w9 ⟨rfl, hJ9, hB9'⟩
    replace hI8 := hI8.but hB9' (Or.inl (by omega))
    replace hk := hk.trans (hB9'.below (by omega) hs)
    clear a0 a1 a2 b0 b1 b2 hB hs
    obtain ⟨⟨a0, a1, a2, -, -, -⟩, ⟨b0, b1, b2, -, -, -⟩, hB, hs⟩ := dy_pair w na sa ea nb sb eb hk
    refine hK.out _ _ ?_ (fun hHeld => ?_)
    ·exact ⟨a0, a1, a2, b0, b1, b2⟩
    clear hK K hB9' hJ
    (try dsimp only [Act.put]); (try go_frame)
    refine wpAnyH_ready (rs := [16]) (by kernel_rfl) (by simp) ?_
    refine AllReadyH.cons rfl (fun K hK => ?_) AllReadyH.nil
    go_simp
    (with_reducible refine (icmp_any p 0 q 0 _ _ w9 hI8 hJ9 (by have := da.out; omega) (by have := db.out; omega)).mono ?_)
    rintro r w10 ⟨rfl, n10, rfl⟩
    rw [← Hv.out]
    refine hK.out _ _ ?_ (fun hHeld => ?_)
    ·exact ⟨a0, a1, a2, b0, b1, b2⟩
    clear hK K
    (try dsimp only [Act.put]); (try go_frame)
    refine wpAnyH_done (by kernel_rfl) ?_ _
    try simp only [QCut]
    go_wp2
    go_returns
    exact ⟨rfl, Below.drewN' hB n10⟩
   ·have hv : C = A * (topZ xa ea - topZ xb eb).sign := by rw [hC, hA]; exact cmpD_top hxa hxb (by omega) (by omega) hss h3
    have hsg := fun W => dsgn_any (topZ xa ea - topZ xb eb) W
    have ht9 := sgn_or (topZ xa ea - topZ xb eb)
    have d5 : (topZ xa ea == topZ xb eb) = false := by simpa using h3
    have d6 : (topZ xa ea != topZ xb eb) = true := by simpa using h3
    generalize (topZ xa ea - topZ xb eb).sign = U at *
    obtain ⟨u1, u2⟩ := ht9
    have hAs : A = -1 ∨ A = 1 := by omega
    have Hx := Lib.hid (And.intro hA (And.intro hB9 hC))
    have Hv := Lib.hid hv
    clear hA hB9 hC hv ha hb hwa hwb h2 hxa hxb hza hzb hss la la' lb lb' low
    generalize topZ xa ea = T at *
    generalize topZ xb eb = T' at *
    clear h3
    subst h1
    have hCA : A * U = C := Hv.out.symm
    rcases hAs with rfl | rfl
    ·generalize bstr xa = sa at *
     generalize bstr xb = sb at *
     go_enter Tryz.func24, Tryz.ntmps24
     go_wp2_with fail
     refine Hall.mono ?_
     rintro r w1 ⟨rfl, hb1⟩
     replace hk := hb1
     clear hb1 Hall
     obtain ⟨⟨a0, a1, a2, -, -, -⟩, ⟨b0, b1, b2, -, -, -⟩, hB, hs⟩ := dy_pair w na sa ea nb sb eb hk
     go_wp2_with fail
     refine wp_region_cut 4 (by kernel_rfl) (by kernel_rfl) ?_
     rintro W rfl
     simp only [List.take_succ_cons, List.take_zero, List.drop_succ_cons, List.drop_zero]
     have hHeld : (fun w' : World => w'.cell? ⟨w.heap.size, 0, none⟩ = some (.bool na) ∧ w'.cell? ⟨w.heap.size, 1, none⟩ = some (.string sa) ∧ w'.cell? ⟨w.heap.size, 2, none⟩ = some (.int .i64 ea) ∧ w'.cell? ⟨w.heap.size + 1, 0, none⟩ = some (.bool nb) ∧ w'.cell? ⟨w.heap.size + 1, 1, none⟩ = some (.string sb) ∧ w'.cell? ⟨w.heap.size + 1, 2, none⟩ = some (.int .i64 eb)) (w1).drew := ⟨a0, a1, a2, b0, b1, b2⟩
     refine wpAny_of_held (S := fun w' : World => w'.cell? ⟨w.heap.size, 0, none⟩ = some (.bool na) ∧ w'.cell? ⟨w.heap.size, 1, none⟩ = some (.string sa) ∧ w'.cell? ⟨w.heap.size, 2, none⟩ = some (.int .i64 ea) ∧ w'.cell? ⟨w.heap.size + 1, 0, none⟩ = some (.bool nb) ∧ w'.cell? ⟨w.heap.size + 1, 1, none⟩ = some (.string sb) ∧ w'.cell? ⟨w.heap.size + 1, 2, none⟩ = some (.int .i64 eb)) _ _ _ _ ?_
     refine tkA 0 ?_
     (try dsimp only [Act.put]); (try go_frame)
     refine tkA 2 ?_
     (try dsimp only [Act.put]); (try go_frame)
     refine wpAnyH_ready (rs := [1]) (by kernel_rfl) (by simp) ?_
     refine AllReadyH.cons rfl (fun K hK => ?_) AllReadyH.nil
     go_simp
     (with_reducible refine (hsa _).mono ?_)
     rintro r w2 ⟨rfl, hb2⟩
     clear a0 a1 a2 b0 b1 b2
     replace hk := hk.drew.trans (hb2.mono hs)
     clear hB hs
     obtain ⟨⟨a0, a1, a2, -, -, -⟩, ⟨b0, b1, b2, -, -, -⟩, hB, hs⟩ := dy_pair w na sa ea nb sb eb hk
     refine hK.out _ _ ?_ (fun hHeld => ?_)
     ·exact ⟨a0, a1, a2, b0, b1, b2⟩
     clear hK K
     (try dsimp only [Act.put]); (try go_frame)
     refine wpAnyH_ready (rs := [3]) (by kernel_rfl) (by simp) ?_
     refine AllReadyH.cons rfl (fun K hK => ?_) AllReadyH.nil
     go_simp
     (with_reducible refine (hsb _).mono ?_)
     rintro r w3 ⟨rfl, hb3⟩
     clear a0 a1 a2 b0 b1 b2
     replace hk := hk.trans (hb3.mono hs)
     clear hB hs
     obtain ⟨⟨a0, a1, a2, -, -, -⟩, ⟨b0, b1, b2, -, -, -⟩, hB, hs⟩ := dy_pair w na sa ea nb sb eb hk
     refine hK.out _ _ ?_ (fun hHeld => ?_)
     ·exact ⟨a0, a1, a2, b0, b1, b2⟩
     clear hK K
     (try dsimp only [Act.put]); (try go_frame)
     refine wpAnyH_done (by kernel_rfl) ?_ _
     try simp only [QCut]
     clear hHeld hb2 hb3 hsa hsb
     go_wp2_with fail
     (with_reducible refine (hta _).mono ?_)
     rintro r w4 ⟨rfl, hb4⟩
     clear a0 a1 a2 b0 b1 b2
     replace hk := hk.trans (hb4.mono hs)
     clear hB hs
     obtain ⟨⟨a0, a1, a2, -, -, -⟩, ⟨b0, b1, b2, -, -, -⟩, hB, hs⟩ := dy_pair w na sa ea nb sb eb hk
     go_wp2_with fail
     (with_reducible refine (htb _).mono ?_)
     rintro r w5 ⟨rfl, hb5⟩
     clear a0 a1 a2 b0 b1 b2
     replace hk := hk.trans (hb5.mono hs)
     clear hB hs
     obtain ⟨⟨a0, a1, a2, -, -, -⟩, ⟨b0, b1, b2, -, -, -⟩, hB, hs⟩ := dy_pair w na sa ea nb sb eb hk
     clear hb4 hb5 hta htb
     go_wp2_with fail
     (with_reducible refine (hsg _).mono ?_)
     rintro r w6 ⟨rfl, rfl⟩
     go_wp2
     go_returns
     exact ⟨rfl, hB⟩
    ·generalize bstr xa = sa at *
     generalize bstr xb = sb at *
     go_enter Tryz.func24, Tryz.ntmps24
     go_wp2_with fail
     refine Hall.mono ?_
     rintro r w1 ⟨rfl, hb1⟩
     replace hk := hb1
     clear hb1 Hall
     obtain ⟨⟨a0, a1, a2, -, -, -⟩, ⟨b0, b1, b2, -, -, -⟩, hB, hs⟩ := dy_pair w na sa ea nb sb eb hk
     go_wp2_with fail
     refine wp_region_cut 4 (by kernel_rfl) (by kernel_rfl) ?_
     rintro W rfl
     simp only [List.take_succ_cons, List.take_zero, List.drop_succ_cons, List.drop_zero]
     have hHeld : (fun w' : World => w'.cell? ⟨w.heap.size, 0, none⟩ = some (.bool na) ∧ w'.cell? ⟨w.heap.size, 1, none⟩ = some (.string sa) ∧ w'.cell? ⟨w.heap.size, 2, none⟩ = some (.int .i64 ea) ∧ w'.cell? ⟨w.heap.size + 1, 0, none⟩ = some (.bool nb) ∧ w'.cell? ⟨w.heap.size + 1, 1, none⟩ = some (.string sb) ∧ w'.cell? ⟨w.heap.size + 1, 2, none⟩ = some (.int .i64 eb)) (w1).drew := ⟨a0, a1, a2, b0, b1, b2⟩
     refine wpAny_of_held (S := fun w' : World => w'.cell? ⟨w.heap.size, 0, none⟩ = some (.bool na) ∧ w'.cell? ⟨w.heap.size, 1, none⟩ = some (.string sa) ∧ w'.cell? ⟨w.heap.size, 2, none⟩ = some (.int .i64 ea) ∧ w'.cell? ⟨w.heap.size + 1, 0, none⟩ = some (.bool nb) ∧ w'.cell? ⟨w.heap.size + 1, 1, none⟩ = some (.string sb) ∧ w'.cell? ⟨w.heap.size + 1, 2, none⟩ = some (.int .i64 eb)) _ _ _ _ ?_
     refine tkA 0 ?_
     (try dsimp only [Act.put]); (try go_frame)
     refine tkA 2 ?_
     (try dsimp only [Act.put]); (try go_frame)
     refine wpAnyH_ready (rs := [1]) (by kernel_rfl) (by simp) ?_
     refine AllReadyH.cons rfl (fun K hK => ?_) AllReadyH.nil
     go_simp
     (with_reducible refine (hsa _).mono ?_)
     rintro r w2 ⟨rfl, hb2⟩
     clear a0 a1 a2 b0 b1 b2
     replace hk := hk.drew.trans (hb2.mono hs)
     clear hB hs
     obtain ⟨⟨a0, a1, a2, -, -, -⟩, ⟨b0, b1, b2, -, -, -⟩, hB, hs⟩ := dy_pair w na sa ea nb sb eb hk
     refine hK.out _ _ ?_ (fun hHeld => ?_)
     ·exact ⟨a0, a1, a2, b0, b1, b2⟩
     clear hK K
     (try dsimp only [Act.put]); (try go_frame)
     refine wpAnyH_ready (rs := [3]) (by kernel_rfl) (by simp) ?_
     refine AllReadyH.cons rfl (fun K hK => ?_) AllReadyH.nil
     go_simp
     (with_reducible refine (hsb _).mono ?_)
     rintro r w3 ⟨rfl, hb3⟩
     clear a0 a1 a2 b0 b1 b2
     replace hk := hk.trans (hb3.mono hs)
     clear hB hs
     obtain ⟨⟨a0, a1, a2, -, -, -⟩, ⟨b0, b1, b2, -, -, -⟩, hB, hs⟩ := dy_pair w na sa ea nb sb eb hk
     refine hK.out _ _ ?_ (fun hHeld => ?_)
     ·exact ⟨a0, a1, a2, b0, b1, b2⟩
     clear hK K
     (try dsimp only [Act.put]); (try go_frame)
     refine wpAnyH_done (by kernel_rfl) ?_ _
     try simp only [QCut]
     clear hHeld hb2 hb3 hsa hsb
     go_wp2_with fail
     (with_reducible refine (hta _).mono ?_)
     rintro r w4 ⟨rfl, hb4⟩
     clear a0 a1 a2 b0 b1 b2
     replace hk := hk.trans (hb4.mono hs)
     clear hB hs
     obtain ⟨⟨a0, a1, a2, -, -, -⟩, ⟨b0, b1, b2, -, -, -⟩, hB, hs⟩ := dy_pair w na sa ea nb sb eb hk
     go_wp2_with fail
     (with_reducible refine (htb _).mono ?_)
     rintro r w5 ⟨rfl, hb5⟩
     clear a0 a1 a2 b0 b1 b2
     replace hk := hk.trans (hb5.mono hs)
     clear hB hs
     obtain ⟨⟨a0, a1, a2, -, -, -⟩, ⟨b0, b1, b2, -, -, -⟩, hB, hs⟩ := dy_pair w na sa ea nb sb eb hk
     clear hb4 hb5 hta htb
     go_wp2_with fail
     (with_reducible refine (hsg _).mono ?_)
     rintro r w6 ⟨rfl, rfl⟩
     go_wp2
     go_returns
     exact ⟨rfl, hB⟩
 ·have hv : C = (A - B).sign := by rw [hC, hA, hB9]; exact (cmpD_sign (.inl (by rw [← hA, ← hB9]; exact h1))).symm
  have hsg := fun W => dsgn_any (A - B) W
  rw [← hv] at hsg
  have d1 : (A == B) = false := by simpa using h1
  have d2 : (A != B) = true := by simpa using h1
  have Hx := Lib.hid (And.intro hA (And.intro hB9 (And.intro hC hv)))
  clear hA hB9 hC hv ha hb hta htb hwa hwb la la' lb lb' low h1
  generalize bstr xa = sa at *
  generalize bstr xb = sb at *
  go_enter Tryz.func24, Tryz.ntmps24
  go_wp2_with fail
  refine Hall.mono ?_
  rintro r w1 ⟨rfl, hb1⟩
  replace hk := hb1
  clear hb1 Hall
  obtain ⟨⟨a0, a1, a2, -, -, -⟩, ⟨b0, b1, b2, -, -, -⟩, hB, hs⟩ := dy_pair w na sa ea nb sb eb hk
  go_wp2_with fail
  refine wp_region_cut 4 (by kernel_rfl) (by kernel_rfl) ?_
  rintro W rfl
  simp only [List.take_succ_cons, List.take_zero, List.drop_succ_cons, List.drop_zero]
  have hHeld : (fun w' : World => w'.cell? ⟨w.heap.size, 0, none⟩ = some (.bool na) ∧ w'.cell? ⟨w.heap.size, 1, none⟩ = some (.string sa) ∧ w'.cell? ⟨w.heap.size, 2, none⟩ = some (.int .i64 ea) ∧ w'.cell? ⟨w.heap.size + 1, 0, none⟩ = some (.bool nb) ∧ w'.cell? ⟨w.heap.size + 1, 1, none⟩ = some (.string sb) ∧ w'.cell? ⟨w.heap.size + 1, 2, none⟩ = some (.int .i64 eb)) (w1).drew := ⟨a0, a1, a2, b0, b1, b2⟩
  refine wpAny_of_held (S := fun w' : World => w'.cell? ⟨w.heap.size, 0, none⟩ = some (.bool na) ∧ w'.cell? ⟨w.heap.size, 1, none⟩ = some (.string sa) ∧ w'.cell? ⟨w.heap.size, 2, none⟩ = some (.int .i64 ea) ∧ w'.cell? ⟨w.heap.size + 1, 0, none⟩ = some (.bool nb) ∧ w'.cell? ⟨w.heap.size + 1, 1, none⟩ = some (.string sb) ∧ w'.cell? ⟨w.heap.size + 1, 2, none⟩ = some (.int .i64 eb)) _ _ _ _ ?_
  refine tkA 0 ?_
  (try dsimp only [Act.put]); (try go_frame)
  refine tkA 2 ?_
  (try dsimp only [Act.put]); (try go_frame)
  refine wpAnyH_ready (rs := [1]) (by kernel_rfl) (by simp) ?_
  refine AllReadyH.cons rfl (fun K hK => ?_) AllReadyH.nil
  go_simp
  (with_reducible refine (hsa _).mono ?_)
  rintro r w2 ⟨rfl, hb2⟩
  clear a0 a1 a2 b0 b1 b2
  replace hk := hk.drew.trans (hb2.mono hs)
  clear hB hs
  obtain ⟨⟨a0, a1, a2, -, -, -⟩, ⟨b0, b1, b2, -, -, -⟩, hB, hs⟩ := dy_pair w na sa ea nb sb eb hk
  refine hK.out _ _ ?_ (fun hHeld => ?_)
  ·exact ⟨a0, a1, a2, b0, b1, b2⟩
  clear hK K
  (try dsimp only [Act.put]); (try go_frame)
  refine wpAnyH_ready (rs := [3]) (by kernel_rfl) (by simp) ?_
  refine AllReadyH.cons rfl (fun K hK => ?_) AllReadyH.nil
  go_simp
  (with_reducible refine (hsb _).mono ?_)
  rintro r w3 ⟨rfl, hb3⟩
  clear a0 a1 a2 b0 b1 b2
  replace hk := hk.trans (hb3.mono hs)
  clear hB hs
  obtain ⟨⟨a0, a1, a2, -, -, -⟩, ⟨b0, b1, b2, -, -, -⟩, hB, hs⟩ := dy_pair w na sa ea nb sb eb hk
  refine hK.out _ _ ?_ (fun hHeld => ?_)
  ·exact ⟨a0, a1, a2, b0, b1, b2⟩
  clear hK K
  (try dsimp only [Act.put]); (try go_frame)
  refine wpAnyH_done (by kernel_rfl) ?_ _
  try simp only [QCut]
  clear hHeld hb2 hb3 hsa hsb
  go_wp2_with fail
  (with_reducible refine (hsg _).mono ?_)
  rintro r w4 ⟨rfl, rfl⟩
  go_wp2
  go_returns
  exact ⟨rfl, hB⟩
end Go.Proofs.YtfbkopepkklkjaaGreatDoor
