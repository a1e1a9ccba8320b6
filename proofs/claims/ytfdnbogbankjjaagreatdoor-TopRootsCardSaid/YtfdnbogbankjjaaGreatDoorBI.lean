/- The walk over the reference's Cmp. -/
import Derived.Test.YtfdnbogbankjjaaGreatDoorBH
namespace Go.Proofs.YtfdnbogbankjjaaGreatDoor
open Go Go.RowKit Go.PlainAid Fil

theorem cmpZ_or9 (x y : Nat) : -1 ≤ cmpZ x y ∧ cmpZ x y ≤ 1 := by
 rcases Nat.lt_trichotomy x y with h | h | h
 ·rw [cmpZ_lt h]; omega
 ·subst h; rw [cmpZ_eq]; omega
 ·rw [cmpZ_gt h]; omega
set_option maxHeartbeats 8000000 in
theorem rcmpd_ok (na : Bool) (xa : Nat) (ea : Int) (nb : Bool) (xb : Nat) (eb : Int) (w : World) (ha : okD na xa ea) (hb : okD nb xb eb) :
  Calls Tryz.prog 21 #[.agg #[.bool na, .string (bstr xa), .int .i64 ea], .agg #[.bool nb, .string (bstr xb), .int .i64 eb]] w fun r w' => r = .returned (.int .i64 (cmpD (sz na xa) ea (sz nb xb) eb)) ∧ Below w.heap.size w w' := by
 have hsa := fun W => rsign_ok na xa ea W ha
 have hsb := fun W => rsign_ok nb xb eb W hb
 have hta := fun W => rtop_ok na xa ea W ha
 have htb := fun W => rtop_ok nb xb eb W hb
 have hna := ha.dn
 have hnb := hb.dn
 have hoa := fun W => rof_any xa W (by omega)
 have hob := fun W => rof_any xb W (by omega)
 have sga := sgn_or (sz na xa)
 have sgb := sgn_or (sz nb xb)
 obtain ⟨A, hA⟩ : ∃ A, A = (sz na xa).sign := ⟨_, rfl⟩
 obtain ⟨B, hB9⟩ : ∃ B, B = (sz nb xb).sign := ⟨_, rfl⟩
 obtain ⟨C, hC⟩ : ∃ C, C = cmpD (sz na xa) ea (sz nb xb) eb := ⟨_, rfl⟩
 obtain ⟨g1, g2⟩ := sga
 obtain ⟨g3, g4⟩ := sgb
 rw [← hA] at hsa g1 g2
 rw [← hB9] at hsb g3 g4
 rw [← hC]
 have la := okD.e1 ha
 have la' := okD.e2 ha
 have lb := okD.e1 hb
 have lb' := okD.e2 hb
 have low := lowM_ge
 by_cases h1 : A = B
 ·by_cases h2 : A = 0
  ·have hv : C = 0 := by rw [hC, ← cmpD_sign (.inr (by rw [← hA]; exact h2)), ← hA, ← hB9, ← h1, Int.sub_self]; rfl
   subst h1
   subst h2
   have Hx := Lib.hid (And.intro hA (And.intro hB9 hC))
   have Hv := Lib.hid hv
   clear hA hB9 hC hv ha hb hta htb hoa hob la la' lb lb' low hna hnb
   generalize bstr xa = sa at *
   generalize bstr xb = sb at *
   have hk : Below (w.heap.size + 1 + 1) ((w.alloc (.cells #[.bool na, .string sa, .int .i64 ea] 38)).alloc (.cells #[.bool nb, .string sb, .int .i64 eb] 38)) ((w.alloc (.cells #[.bool na, .string sa, .int .i64 ea] 38)).alloc (.cells #[.bool nb, .string sb, .int .i64 eb] 38)) := Below.refl _ _
   obtain ⟨⟨a0, a1, a2, -, -, -⟩, ⟨b0, b1, b2, -, -, -⟩, hB, hs⟩ := dy_pair w na sa ea nb sb eb hk
   go_enter Tryz.func21, Tryz.ntmps21
   go_wp2_with fail
   refine wp_region_cut 4 (by kernel_rfl) (by kernel_rfl) ?_
   rintro W rfl
   simp only [List.take_succ_cons, List.take_zero, List.drop_succ_cons, List.drop_zero]
   have hHeld : (fun w' : World => w'.cell? ⟨w.heap.size, 0, none⟩ = some (.bool na) ∧ w'.cell? ⟨w.heap.size, 1, none⟩ = some (.string sa) ∧ w'.cell? ⟨w.heap.size, 2, none⟩ = some (.int .i64 ea) ∧ w'.cell? ⟨w.heap.size + 1, 0, none⟩ = some (.bool nb) ∧ w'.cell? ⟨w.heap.size + 1, 1, none⟩ = some (.string sb) ∧ w'.cell? ⟨w.heap.size + 1, 2, none⟩ = some (.int .i64 eb)) ((w.alloc (.cells #[.bool na, .string sa, .int .i64 ea] 38)).alloc (.cells #[.bool nb, .string sb, .int .i64 eb] 38)).drew := ⟨a0, a1, a2, b0, b1, b2⟩
   refine wpAny_of_held (S := fun w' : World => w'.cell? ⟨w.heap.size, 0, none⟩ = some (.bool na) ∧ w'.cell? ⟨w.heap.size, 1, none⟩ = some (.string sa) ∧ w'.cell? ⟨w.heap.size, 2, none⟩ = some (.int .i64 ea) ∧ w'.cell? ⟨w.heap.size + 1, 0, none⟩ = some (.bool nb) ∧ w'.cell? ⟨w.heap.size + 1, 1, none⟩ = some (.string sb) ∧ w'.cell? ⟨w.heap.size + 1, 2, none⟩ = some (.int .i64 eb)) _ _ _ _ ?_
   refine tkA 0 ?_
   (try dsimp only [Act.put]); (try go_frame)
   refine tkA 2 ?_
   (try dsimp only [Act.put]); (try go_frame)
   refine wpAnyH_ready (rs := [1]) (by kernel_rfl) (by simp) ?_
   refine AllReadyH.cons rfl (fun K hK => ?_) AllReadyH.nil
   go_simp
   (with_reducible refine (hsa _).mono ?_)
   rintro r w2 ⟨rfl, hb2⟩
   clear a0 a1 a2 b0 b1 b2
   replace hk := hk.drew.trans (hb2.mono hs)
   clear hB hs
   obtain ⟨⟨a0, a1, a2, -, -, -⟩, ⟨b0, b1, b2, -, -, -⟩, hB, hs⟩ := dy_pair w na sa ea nb sb eb hk
   refine hK.out _ _ ?_ (fun hHeld => ?_)
   ·exact ⟨a0, a1, a2, b0, b1, b2⟩
   clear hK K
   (try dsimp only [Act.put]); (try go_frame)
   refine wpAnyH_ready (rs := [3]) (by kernel_rfl) (by simp) ?_
   refine AllReadyH.cons rfl (fun K hK => ?_) AllReadyH.nil
   go_simp
   (with_reducible refine (hsb _).mono ?_)
   rintro r w3 ⟨rfl, hb3⟩
   clear a0 a1 a2 b0 b1 b2
   replace hk := hk.trans (hb3.mono hs)
   clear hB hs
   obtain ⟨⟨a0, a1, a2, -, -, -⟩, ⟨b0, b1, b2, -, -, -⟩, hB, hs⟩ := dy_pair w na sa ea nb sb eb hk
   refine hK.out _ _ ?_ (fun hHeld => ?_)
   ·exact ⟨a0, a1, a2, b0, b1, b2⟩
   clear hK K
   (try dsimp only [Act.put]); (try go_frame)
   refine wpAnyH_done (by kernel_rfl) ?_ _
   try simp only [QCut]
   clear hHeld hb2 hb3 hsa hsb
   go_wp2
   go_ret
   exact ⟨ret_int (by rw [Hv.out]), hB⟩
  ·have hza : (sz na xa).sign ≠ 0 := by rw [← hA]; exact h2
   have hzb : (sz nb xb).sign ≠ 0 := by rw [← hB9, ← h1]; exact h2
   have hxa : xa ≠ 0 := fun h => hza (by rw [h, sz_zero]; rfl)
   have hxb : xb ≠ 0 := fun h => hzb (by rw [h, sz_zero]; rfl)
   rw [decide_eq_true hxa] at hta
   rw [decide_eq_true hxb] at htb
   have hss : (sz na xa).sign = (sz nb xb).sign := by rw [← hA, ← hB9]; exact h1
   have d0 : (A == 0) = false := by simpa using h2
   have d1 : (A == B) = true := by simpa using h1
   have d2 : (A != B) = false := by simpa using h1
   by_cases h3 : topZ xa ea = topZ xb eb
   ·obtain ⟨k1, k2⟩ := near_tops ha hb hxa hxb h3
    rw [h3] at hta
    have d5 : (topZ xb eb == topZ xb eb) = true := beq_self_eq_true _
    have d6 : (topZ xb eb != topZ xb eb) = false := by simp
    generalize topZ xb eb = T at *
    by_cases h4 : eb < ea
    ·have d7 : decide (eb < ea) = true := decide_eq_true h4
     obtain ⟨k, hk9⟩ : ∃ k : Nat, k = (ea - eb).toNat := ⟨_, rfl⟩
     obtain ⟨X, hX⟩ : ∃ X, X = xa * 2 ^ k := ⟨_, rfl⟩
     have hv : C = A * cmpZ (X) xb := by
      rw [hC, hA, hX, hk9, cmpD_mag (lo := eb) hxa hxb (by omega) (by omega) (by omega) hss]
      rw [Int.sub_self, Int.toNat_zero, Nat.pow_zero, Nat.mul_one]
     have hkb : k ≤ 131072 := by omega
     have hsh := fun P c W (hs : Slc W 3 P (Fil.dn 8 xa) (i8 xa)) => rshifted_any P (Fil.dn 8 xa) c xa k W rfl (by omega) (by omega) hs
     rw [← hX] at hsh
     have hXn : Fil.dn 8 X ≤ 33000 := by rw [hX]; exact dn8_shl (by omega) (by omega)
     have hcm := fun P c W Q d (h1 : Slc W 3 P (Fil.dn 8 X) (i8 X)) (h2 : Slc W 3 Q (Fil.dn 8 xb) (i8 xb)) => rcmp_any P Q (Fil.dn 8 X) c X (Fil.dn 8 xb) d xb W rfl rfl (by omega) (by omega) h1 h2
     have hcz := cmpZ_or9 X xb
     generalize cmpZ (X) xb = U at *
     obtain ⟨u1, u2⟩ := hcz
     have j1 : ea - eb = (k : Int) := by omega
     have j3 : (k : Int) ≤ 131072 := by omega
     have j5 : 0 ≤ (k : Int) := by omega
     have wa1 : IntKind.i64.wrap (k : Int) = (k : Int) := by rw [IntKind.wrap_i64]; omega
     have Hx := Lib.hid (And.intro hA (And.intro hB9 (And.intro hC (And.intro hX (And.intro hk9 hXn)))))
     have Hv := Lib.hid hv
     have hAs : A = -1 ∨ A = 1 := by omega
     clear hA hB9 hC hv ha hb h2 h3 hxa hxb hza hzb hss hX hk9 hXn hkb low hna hnb
     subst h1
     clear h4 k1 k2
     rcases hAs with rfl | rfl
     ·generalize bstr xa = sa at *
      generalize bstr xb = sb at *
      have hk : Below (w.heap.size + 1 + 1) ((w.alloc (.cells #[.bool na, .string sa, .int .i64 ea] 38)).alloc (.cells #[.bool nb, .string sb, .int .i64 eb] 38)) ((w.alloc (.cells #[.bool na, .string sa, .int .i64 ea] 38)).alloc (.cells #[.bool nb, .string sb, .int .i64 eb] 38)) := Below.refl _ _
      obtain ⟨⟨a0, a1, a2, -, -, -⟩, ⟨b0, b1, b2, -, -, -⟩, hB, hs⟩ := dy_pair w na sa ea nb sb eb hk
      go_enter Tryz.func21, Tryz.ntmps21
      go_wp2_with fail
      refine wp_region_cut 4 (by kernel_rfl) (by kernel_rfl) ?_
      rintro W rfl
      simp only [List.take_succ_cons, List.take_zero, List.drop_succ_cons, List.drop_zero]
      have hHeld : (fun w' : World => w'.cell? ⟨w.heap.size, 0, none⟩ = some (.bool na) ∧ w'.cell? ⟨w.heap.size, 1, none⟩ = some (.string sa) ∧ w'.cell? ⟨w.heap.size, 2, none⟩ = some (.int .i64 ea) ∧ w'.cell? ⟨w.heap.size + 1, 0, none⟩ = some (.bool nb) ∧ w'.cell? ⟨w.heap.size + 1, 1, none⟩ = some (.string sb) ∧ w'.cell? ⟨w.heap.size + 1, 2, none⟩ = some (.int .i64 eb)) ((w.alloc (.cells #[.bool na, .string sa, .int .i64 ea] 38)).alloc (.cells #[.bool nb, .string sb, .int .i64 eb] 38)).drew := ⟨a0, a1, a2, b0, b1, b2⟩
      refine wpAny_of_held (S := fun w' : World => w'.cell? ⟨w.heap.size, 0, none⟩ = some (.bool na) ∧ w'.cell? ⟨w.heap.size, 1, none⟩ = some (.string sa) ∧ w'.cell? ⟨w.heap.size, 2, none⟩ = some (.int .i64 ea) ∧ w'.cell? ⟨w.heap.size + 1, 0, none⟩ = some (.bool nb) ∧ w'.cell? ⟨w.heap.size + 1, 1, none⟩ = some (.string sb) ∧ w'.cell? ⟨w.heap.size + 1, 2, none⟩ = some (.int .i64 eb)) _ _ _ _ ?_
      refine tkA 0 ?_
      (try dsimp only [Act.put]); (try go_frame)
      refine tkA 2 ?_
      (try dsimp only [Act.put]); (try go_frame)
      refine wpAnyH_ready (rs := [1]) (by kernel_rfl) (by simp) ?_
      refine AllReadyH.cons rfl (fun K hK => ?_) AllReadyH.nil
      go_simp
      (with_reducible refine (hsa _).mono ?_)
      rintro r w2 ⟨rfl, hb2⟩
      clear a0 a1 a2 b0 b1 b2
      replace hk := hk.drew.trans (hb2.mono hs)
      clear hB hs
      obtain ⟨⟨a0, a1, a2, -, -, -⟩, ⟨b0, b1, b2, -, -, -⟩, hB, hs⟩ := dy_pair w na sa ea nb sb eb hk
      refine hK.out _ _ ?_ (fun hHeld => ?_)
      ·exact ⟨a0, a1, a2, b0, b1, b2⟩
      clear hK K
      (try dsimp only [Act.put]); (try go_frame)
      refine wpAnyH_ready (rs := [3]) (by kernel_rfl) (by simp) ?_
      refine AllReadyH.cons rfl (fun K hK => ?_) AllReadyH.nil
      go_simp
      (with_reducible refine (hsb _).mono ?_)
      rintro r w3 ⟨rfl, hb3⟩
      clear a0 a1 a2 b0 b1 b2
      replace hk := hk.trans (hb3.mono hs)
      clear hB hs
      obtain ⟨⟨a0, a1, a2, -, -, -⟩, ⟨b0, b1, b2, -, -, -⟩, hB, hs⟩ := dy_pair w na sa ea nb sb eb hk
      refine hK.out _ _ ?_ (fun hHeld => ?_)
      ·exact ⟨a0, a1, a2, b0, b1, b2⟩
      clear hK K
      (try dsimp only [Act.put]); (try go_frame)
      refine wpAnyH_done (by kernel_rfl) ?_ _
      try simp only [QCut]
      clear hHeld hb2 hb3 hsa hsb
      go_wp2_with fail
      (with_reducible refine (hta _).mono ?_)
      rintro r w4 ⟨rfl, hb4⟩
      clear a0 a1 a2 b0 b1 b2
      replace hk := hk.trans (hb4.mono hs)
      clear hB hs
      obtain ⟨⟨a0, a1, a2, -, -, -⟩, ⟨b0, b1, b2, -, -, -⟩, hB, hs⟩ := dy_pair w na sa ea nb sb eb hk
      go_wp2_with fail
      (with_reducible refine (htb _).mono ?_)
      rintro r w5 ⟨rfl, hb5⟩
      clear a0 a1 a2 b0 b1 b2
      replace hk := hk.trans (hb5.mono hs)
      clear hB hs
      obtain ⟨⟨a0, a1, a2, -, -, -⟩, ⟨b0, b1, b2, -, -, -⟩, hB, hs⟩ := dy_pair w na sa ea nb sb eb hk
      clear hb4 hb5 hta htb
      go_wp2_with fail
      refine wp_region_cut 6 (by kernel_rfl) (by kernel_rfl) ?_
      rintro W rfl
      simp only [List.take_succ_cons, List.take_zero, List.drop_succ_cons, List.drop_zero]
      have hHeld : (fun w' : World => w'.cell? ⟨w.heap.size, 0, none⟩ = some (.bool na) ∧ w'.cell? ⟨w.heap.size, 1, none⟩ = some (.string sa) ∧ w'.cell? ⟨w.heap.size, 2, none⟩ = some (.int .i64 ea) ∧ w'.cell? ⟨w.heap.size + 1, 0, none⟩ = some (.bool nb) ∧ w'.cell? ⟨w.heap.size + 1, 1, none⟩ = some (.string sb) ∧ w'.cell? ⟨w.heap.size + 1, 2, none⟩ = some (.int .i64 eb)) (w5).drew := ⟨a0, a1, a2, b0, b1, b2⟩
      refine wpAny_of_held (S := fun w' : World => w'.cell? ⟨w.heap.size, 0, none⟩ = some (.bool na) ∧ w'.cell? ⟨w.heap.size, 1, none⟩ = some (.string sa) ∧ w'.cell? ⟨w.heap.size, 2, none⟩ = some (.int .i64 ea) ∧ w'.cell? ⟨w.heap.size + 1, 0, none⟩ = some (.bool nb) ∧ w'.cell? ⟨w.heap.size + 1, 1, none⟩ = some (.string sb) ∧ w'.cell? ⟨w.heap.size + 1, 2, none⟩ = some (.int .i64 eb)) _ _ _ _ ?_
      refine tkA 0 ?_
      (try dsimp only [Act.put]); (try go_frame)
      refine tkA 1 ?_
      (try dsimp only [Act.put]); (try go_frame)
      refine tkA 3 ?_
      (try dsimp only [Act.put]); (try go_frame)
      refine tkA 4 ?_
      (try dsimp only [Act.put]); (try go_frame)
      refine wpAnyH_ready (rs := [2]) (by kernel_rfl) (by simp) ?_
      refine AllReadyH.cons rfl (fun K hK => ?_) AllReadyH.nil
      go_simp
      (with_reducible refine (hoa _).mono ?_)
      rintro r w6 ⟨v, rfl, hown, hb6⟩
      obtain ⟨PA, ca, rfl, hnc, hsl⟩ := Own.slc hown
      have hxs : Slc w6 3 PA (Fil.dn 8 xa) (i8 xa) := hsl
      clear hown hsl hnc
      clear a0 a1 a2 b0 b1 b2
      replace hk := hk.drew.trans (hb6.mono hs)
      clear hB hs
      obtain ⟨⟨a0, a1, a2, -, -, -⟩, ⟨b0, b1, b2, -, -, -⟩, hB, hs⟩ := dy_pair w na sa ea nb sb eb hk
      refine hK.out _ _ ?_ (fun hHeld => ?_)
      ·exact ⟨a0, a1, a2, b0, b1, b2⟩
      clear hK K
      (try dsimp only [Act.put]); (try go_frame)
      refine wpAnyH_ready (rs := [5]) (by kernel_rfl) (by simp) ?_
      refine AllReadyH.cons rfl (fun K hK => ?_) AllReadyH.nil
      go_simp
      (with_reducible refine (hob _).mono ?_)
      rintro r w7 ⟨v, rfl, hown, hb7⟩
      obtain ⟨PB, cb, rfl, hnc, hsl⟩ := Own.slc hown
      have hys : Slc w7 3 PB (Fil.dn 8 xb) (i8 xb) := hsl
      replace hxs := hxs.below hb7
      clear hown hsl hnc
      clear a0 a1 a2 b0 b1 b2
      replace hk := hk.trans (hb7.mono hs)
      clear hB hs
      obtain ⟨⟨a0, a1, a2, -, -, -⟩, ⟨b0, b1, b2, -, -, -⟩, hB, hs⟩ := dy_pair w na sa ea nb sb eb hk
      refine hK.out _ _ ?_ (fun hHeld => ?_)
      ·exact ⟨a0, a1, a2, b0, b1, b2⟩
      clear hK K
      (try dsimp only [Act.put]); (try go_frame)
      refine wpAnyH_done (by kernel_rfl) ?_ _
      try simp only [QCut]
      clear hHeld hb6 hb7 hoa hob
      go_wp2_with fail
      (with_reducible refine (hsh PA ca w7 hxs).mono ?_)
      rintro r w8 ⟨PC, cc, rfl, hcc, hzs, hb8⟩
      replace hys := hys.below hb8
      clear a0 a1 a2 b0 b1 b2
      replace hk := hk.trans (hb8.mono hs)
      clear hB hs
      obtain ⟨⟨a0, a1, a2, -, -, -⟩, ⟨b0, b1, b2, -, -, -⟩, hB, hs⟩ := dy_pair w na sa ea nb sb eb hk
      clear hb8 hxs hsh
      go_wp2_with fail
      (with_reducible refine (hcm PC cc w8 PB cb hzs hys).mono ?_)
      rintro r w9 ⟨rfl, n9, rfl⟩
      go_wp2
      go_ret
      exact ⟨ret_int (by rw [Hv.out]; omega), Below.drewN' hB n9⟩
     ·generalize bstr xa = sa at *
      generalize bstr xb = sb at *
      have hk : Below (w.heap.size + 1 + 1) ((w.alloc (.cells #[.bool na, .string sa, .int .i64 ea] 38)).alloc (.cells #[.bool nb, .string sb, .int .i64 eb] 38)) ((w.alloc (.cells #[.bool na, .string sa, .int .i64 ea] 38)).alloc (.cells #[.bool nb, .string sb, .int .i64 eb] 38)) := Below.refl _ _
      obtain ⟨⟨a0, a1, a2, -, -, -⟩, ⟨b0, b1, b2, -, -, -⟩, hB, hs⟩ := dy_pair w na sa ea nb sb eb hk
      go_enter Tryz.func21, Tryz.ntmps21
      go_wp2_with fail
      refine wp_region_cut 4 (by kernel_rfl) (by kernel_rfl) ?_
      rintro W rfl
      simp only [List.take_succ_cons, List.take_zero, List.drop_succ_cons, List.drop_zero]
      have hHeld : (fun w' : World => w'.cell? ⟨w.heap.size, 0, none⟩ = some (.bool na) ∧ w'.cell? ⟨w.heap.size, 1, none⟩ = some (.string sa) ∧ w'.cell? ⟨w.heap.size, 2, none⟩ = some (.int .i64 ea) ∧ w'.cell? ⟨w.heap.size + 1, 0, none⟩ = some (.bool nb) ∧ w'.cell? ⟨w.heap.size + 1, 1, none⟩ = some (.string sb) ∧ w'.cell? ⟨w.heap.size + 1, 2, none⟩ = some (.int .i64 eb)) ((w.alloc (.cells #[.bool na, .string sa, .int .i64 ea] 38)).alloc (.cells #[.bool nb, .string sb, .int .i64 eb] 38)).drew := ⟨a0, a1, a2, b0, b1, b2⟩
      refine wpAny_of_held (S := fun w' : World => w'.cell? ⟨w.heap.size, 0, none⟩ = some (.bool na) ∧ w'.cell? ⟨w.heap.size, 1, none⟩ = some (.string sa) ∧ w'.cell? ⟨w.heap.size, 2, none⟩ = some (.int .i64 ea) ∧ w'.cell? ⟨w.heap.size + 1, 0, none⟩ = some (.bool nb) ∧ w'.cell? ⟨w.heap.size + 1, 1, none⟩ = some (.string sb) ∧ w'.cell? ⟨w.heap.size + 1, 2, none⟩ = some (.int .i64 eb)) _ _ _ _ ?_
      refine tkA 0 ?_
      (try dsimp only [Act.put]); (try go_frame)
      refine tkA 2 ?_
      (try dsimp only [Act.put]); (try go_frame)
      refine wpAnyH_ready (rs := [1]) (by kernel_rfl) (by simp) ?_
      refine AllReadyH.cons rfl (fun K hK => ?_) AllReadyH.nil
      go_simp
      (with_reducible refine (hsa _).mono ?_)
      rintro r w2 ⟨rfl, hb2⟩
      clear a0 a1 a2 b0 b1 b2
      replace hk := hk.drew.trans (hb2.mono hs)
      clear hB hs
      obtain ⟨⟨a0, a1, a2, -, -, -⟩, ⟨b0, b1, b2, -, -, -⟩, hB, hs⟩ := dy_pair w na sa ea nb sb eb hk
      refine hK.out _ _ ?_ (fun hHeld => ?_)
      ·exact ⟨a0, a1, a2, b0, b1, b2⟩
      clear hK K
      (try dsimp only [Act.put]); (try go_frame)
      refine wpAnyH_ready (rs := [3]) (by kernel_rfl) (by simp) ?_
      refine AllReadyH.cons rfl (fun K hK => ?_) AllReadyH.nil
      go_simp
      (with_reducible refine (hsb _).mono ?_)
      rintro r w3 ⟨rfl, hb3⟩
      clear a0 a1 a2 b0 b1 b2
      replace hk := hk.trans (hb3.mono hs)
      clear hB hs
      obtain ⟨⟨a0, a1, a2, -, -, -⟩, ⟨b0, b1, b2, -, -, -⟩, hB, hs⟩ := dy_pair w na sa ea nb sb eb hk
      refine hK.out _ _ ?_ (fun hHeld => ?_)
      ·exact ⟨a0, a1, a2, b0, b1, b2⟩
      clear hK K
      (try dsimp only [Act.put]); (try go_frame)
      refine wpAnyH_done (by kernel_rfl) ?_ _
      try simp only [QCut]
      clear hHeld hb2 hb3 hsa hsb
      go_wp2_with fail
      (with_reducible refine (hta _).mono ?_)
      rintro r w4 ⟨rfl, hb4⟩
      clear a0 a1 a2 b0 b1 b2
      replace hk := hk.trans (hb4.mono hs)
      clear hB hs
      obtain ⟨⟨a0, a1, a2, -, -, -⟩, ⟨b0, b1, b2, -, -, -⟩, hB, hs⟩ := dy_pair w na sa ea nb sb eb hk
      go_wp2_with fail
      (with_reducible refine (htb _).mono ?_)
      rintro r w5 ⟨rfl, hb5⟩
      clear a0 a1 a2 b0 b1 b2
      replace hk := hk.trans (hb5.mono hs)
      clear hB hs
      obtain ⟨⟨a0, a1, a2, -, -, -⟩, ⟨b0, b1, b2, -, -, -⟩, hB, hs⟩ := dy_pair w na sa ea nb sb eb hk
      clear hb4 hb5 hta htb
      go_wp2_with fail
      refine wp_region_cut 6 (by kernel_rfl) (by kernel_rfl) ?_
      rintro W rfl
      simp only [List.take_succ_cons, List.take_zero, List.drop_succ_cons, List.drop_zero]
      have hHeld : (fun w' : World => w'.cell? ⟨w.heap.size, 0, none⟩ = some (.bool na) ∧ w'.cell? ⟨w.heap.size, 1, none⟩ = some (.string sa) ∧ w'.cell? ⟨w.heap.size, 2, none⟩ = some (.int .i64 ea) ∧ w'.cell? ⟨w.heap.size + 1, 0, none⟩ = some (.bool nb) ∧ w'.cell? ⟨w.heap.size + 1, 1, none⟩ = some (.string sb) ∧ w'.cell? ⟨w.heap.size + 1, 2, none⟩ = some (.int .i64 eb)) (w5).drew := ⟨a0, a1, a2, b0, b1, b2⟩
      refine wpAny_of_held (S := fun w' : World => w'.cell? ⟨w.heap.size, 0, none⟩ = some (.bool na) ∧ w'.cell? ⟨w.heap.size, 1, none⟩ = some (.string sa) ∧ w'.cell? ⟨w.heap.size, 2, none⟩ = some (.int .i64 ea) ∧ w'.cell? ⟨w.heap.size + 1, 0, none⟩ = some (.bool nb) ∧ w'.cell? ⟨w.heap.size + 1, 1, none⟩ = some (.string sb) ∧ w'.cell? ⟨w.heap.size + 1, 2, none⟩ = some (.int .i64 eb)) _ _ _ _ ?_
      refine tkA 0 ?_
      (try dsimp only [Act.put]); (try go_frame)
      refine tkA 1 ?_
      (try dsimp only [Act.put]); (try go_frame)
      refine tkA 3 ?_
      (try dsimp only [Act.put]); (try go_frame)
      refine tkA 4 ?_
      (try dsimp only [Act.put]); (try go_frame)
      refine wpAnyH_ready (rs := [2]) (by kernel_rfl) (by simp) ?_
      refine AllReadyH.cons rfl (fun K hK => ?_) AllReadyH.nil
      go_simp
      (with_reducible refine (hoa _).mono ?_)
      rintro r w6 ⟨v, rfl, hown, hb6⟩
      obtain ⟨PA, ca, rfl, hnc, hsl⟩ := Own.slc hown
      have hxs : Slc w6 3 PA (Fil.dn 8 xa) (i8 xa) := hsl
      clear hown hsl hnc
      clear a0 a1 a2 b0 b1 b2
      replace hk := hk.drew.trans (hb6.mono hs)
      clear hB hs
      obtain ⟨⟨a0, a1, a2, -, -, -⟩, ⟨b0, b1, b2, -, -, -⟩, hB, hs⟩ := dy_pair w na sa ea nb sb eb hk
      refine hK.out _ _ ?_ (fun hHeld => ?_)
      ·exact ⟨a0, a1, a2, b0, b1, b2⟩
      clear hK K
      (try dsimp only [Act.put]); (try go_frame)
      refine wpAnyH_ready (rs := [5]) (by kernel_rfl) (by simp) ?_
      refine AllReadyH.cons rfl (fun K hK => ?_) AllReadyH.nil
      go_simp
      (with_reducible refine (hob _).mono ?_)
      rintro r w7 ⟨v, rfl, hown, hb7⟩
      obtain ⟨PB, cb, rfl, hnc, hsl⟩ := Own.slc hown
      have hys : Slc w7 3 PB (Fil.dn 8 xb) (i8 xb) := hsl
      replace hxs := hxs.below hb7
      clear hown hsl hnc
      clear a0 a1 a2 b0 b1 b2
      replace hk := hk.trans (hb7.mono hs)
      clear hB hs
      obtain ⟨⟨a0, a1, a2, -, -, -⟩, ⟨b0, b1, b2, -, -, -⟩, hB, hs⟩ := dy_pair w na sa ea nb sb eb hk
      refine hK.out _ _ ?_ (fun hHeld => ?_)
      ·exact ⟨a0, a1, a2, b0, b1, b2⟩
      clear hK K
      (try dsimp only [Act.put]); (try go_frame)
      refine wpAnyH_done (by kernel_rfl) ?_ _
      try simp only [QCut]
      clear hHeld hb6 hb7 hoa hob
      go_wp2_with fail
      (with_reducible refine (hsh PA ca w7 hxs).mono ?_)
      rintro r w8 ⟨PC, cc, rfl, hcc, hzs, hb8⟩
      replace hys := hys.below hb8
      clear a0 a1 a2 b0 b1 b2
      replace hk := hk.trans (hb8.mono hs)
      clear hB hs
      obtain ⟨⟨a0, a1, a2, -, -, -⟩, ⟨b0, b1, b2, -, -, -⟩, hB, hs⟩ := dy_pair w na sa ea nb sb eb hk
      clear hb8 hxs hsh
      go_wp2_with fail
      (with_reducible refine (hcm PC cc w8 PB cb hzs hys).mono ?_)
      rintro r w9 ⟨rfl, n9, rfl⟩
      go_wp2
      go_ret
      exact ⟨ret_int (by rw [Hv.out]; omega), Below.drewN' hB n9⟩
    ·have d7 : decide (eb < ea) = false := decide_eq_false h4
     obtain ⟨k, hk9⟩ : ∃ k : Nat, k = (eb - ea).toNat := ⟨_, rfl⟩
     obtain ⟨X, hX⟩ : ∃ X, X = xb * 2 ^ k := ⟨_, rfl⟩
     have hv : C = A * cmpZ xa (X) := by
      rw [hC, hA, hX, hk9, cmpD_mag (lo := ea) hxa hxb (by omega) (by omega) (by omega) hss]
      rw [Int.sub_self, Int.toNat_zero, Nat.pow_zero, Nat.mul_one]
     have hkb : k ≤ 131072 := by omega
     have hsh := fun P c W (hs : Slc W 3 P (Fil.dn 8 xb) (i8 xb)) => rshifted_any P (Fil.dn 8 xb) c xb k W rfl (by omega) (by omega) hs
     rw [← hX] at hsh
     have hXn : Fil.dn 8 X ≤ 33000 := by rw [hX]; exact dn8_shl (by omega) (by omega)
     have hcm := fun P c W Q d (h1 : Slc W 3 P (Fil.dn 8 xa) (i8 xa)) (h2 : Slc W 3 Q (Fil.dn 8 X) (i8 X)) => rcmp_any P Q (Fil.dn 8 xa) c xa (Fil.dn 8 X) d X W rfl rfl (by omega) (by omega) h1 h2
     have hcz := cmpZ_or9 xa X
     generalize cmpZ xa (X) = U at *
     obtain ⟨u1, u2⟩ := hcz
     have j1 : eb - ea = (k : Int) := by omega
     have j3 : (k : Int) ≤ 131072 := by omega
     have j5 : 0 ≤ (k : Int) := by omega
     have wa1 : IntKind.i64.wrap (k : Int) = (k : Int) := by rw [IntKind.wrap_i64]; omega
     have Hx := Lib.hid (And.intro hA (And.intro hB9 (And.intro hC (And.intro hX (And.intro hk9 hXn)))))
     have Hv := Lib.hid hv
     have hAs : A = -1 ∨ A = 1 := by omega
     clear hA hB9 hC hv ha hb h2 h3 hxa hxb hza hzb hss hX hk9 hXn hkb low hna hnb
     subst h1
     clear h4 k1 k2
     rcases hAs with rfl | rfl
     ·generalize bstr xa = sa at *
      generalize bstr xb = sb at *
      have hk : Below (w.heap.size + 1 + 1) ((w.alloc (.cells #[.bool na, .string sa, .int .i64 ea] 38)).alloc (.cells #[.bool nb, .string sb, .int .i64 eb] 38)) ((w.alloc (.cells #[.bool na, .string sa, .int .i64 ea] 38)).alloc (.cells #[.bool nb, .string sb, .int .i64 eb] 38)) := Below.refl _ _
      obtain ⟨⟨a0, a1, a2, -, -, -⟩, ⟨b0, b1, b2, -, -, -⟩, hB, hs⟩ := dy_pair w na sa ea nb sb eb hk
      go_enter Tryz.func21, Tryz.ntmps21
      go_wp2_with fail
      refine wp_region_cut 4 (by kernel_rfl) (by kernel_rfl) ?_
      rintro W rfl
      simp only [List.take_succ_cons, List.take_zero, List.drop_succ_cons, List.drop_zero]
      have hHeld : (fun w' : World => w'.cell? ⟨w.heap.size, 0, none⟩ = some (.bool na) ∧ w'.cell? ⟨w.heap.size, 1, none⟩ = some (.string sa) ∧ w'.cell? ⟨w.heap.size, 2, none⟩ = some (.int .i64 ea) ∧ w'.cell? ⟨w.heap.size + 1, 0, none⟩ = some (.bool nb) ∧ w'.cell? ⟨w.heap.size + 1, 1, none⟩ = some (.string sb) ∧ w'.cell? ⟨w.heap.size + 1, 2, none⟩ = some (.int .i64 eb)) ((w.alloc (.cells #[.bool na, .string sa, .int .i64 ea] 38)).alloc (.cells #[.bool nb, .string sb, .int .i64 eb] 38)).drew := ⟨a0, a1, a2, b0, b1, b2⟩
      refine wpAny_of_held (S := fun w' : World => w'.cell? ⟨w.heap.size, 0, none⟩ = some (.bool na) ∧ w'.cell? ⟨w.heap.size, 1, none⟩ = some (.string sa) ∧ w'.cell? ⟨w.heap.size, 2, none⟩ = some (.int .i64 ea) ∧ w'.cell? ⟨w.heap.size + 1, 0, none⟩ = some (.bool nb) ∧ w'.cell? ⟨w.heap.size + 1, 1, none⟩ = some (.string sb) ∧ w'.cell? ⟨w.heap.size + 1, 2, none⟩ = some (.int .i64 eb)) _ _ _ _ ?_
      refine tkA 0 ?_
      (try dsimp only [Act.put]); (try go_frame)
      refine tkA 2 ?_
      (try dsimp only [Act.put]); (try go_frame)
      refine wpAnyH_ready (rs := [1]) (by kernel_rfl) (by simp) ?_
      refine AllReadyH.cons rfl (fun K hK => ?_) AllReadyH.nil
      go_simp
      (with_reducible refine (hsa _).mono ?_)
      rintro r w2 ⟨rfl, hb2⟩
      clear a0 a1 a2 b0 b1 b2
      replace hk := hk.drew.trans (hb2.mono hs)
      clear hB hs
      obtain ⟨⟨a0, a1, a2, -, -, -⟩, ⟨b0, b1, b2, -, -, -⟩, hB, hs⟩ := dy_pair w na sa ea nb sb eb hk
      refine hK.out _ _ ?_ (fun hHeld => ?_)
      ·exact ⟨a0, a1, a2, b0, b1, b2⟩
      clear hK K
      (try dsimp only [Act.put]); (try go_frame)
      refine wpAnyH_ready (rs := [3]) (by kernel_rfl) (by simp) ?_
      refine AllReadyH.cons rfl (fun K hK => ?_) AllReadyH.nil
      go_simp
      (with_reducible refine (hsb _).mono ?_)
      rintro r w3 ⟨rfl, hb3⟩
      clear a0 a1 a2 b0 b1 b2
      replace hk := hk.trans (hb3.mono hs)
      clear hB hs
      obtain ⟨⟨a0, a1, a2, -, -, -⟩, ⟨b0, b1, b2, -, -, -⟩, hB, hs⟩ := dy_pair w na sa ea nb sb eb hk
      refine hK.out _ _ ?_ (fun hHeld => ?_)
      ·exact ⟨a0, a1, a2, b0, b1, b2⟩
      clear hK K
      (try dsimp only [Act.put]); (try go_frame)
      refine wpAnyH_done (by kernel_rfl) ?_ _
      try simp only [QCut]
      clear hHeld hb2 hb3 hsa hsb
      go_wp2_with fail
      (with_reducible refine (hta _).mono ?_)
      rintro r w4 ⟨rfl, hb4⟩
      clear a0 a1 a2 b0 b1 b2
      replace hk := hk.trans (hb4.mono hs)
      clear hB hs
      obtain ⟨⟨a0, a1, a2, -, -, -⟩, ⟨b0, b1, b2, -, -, -⟩, hB, hs⟩ := dy_pair w na sa ea nb sb eb hk
      go_wp2_with fail
      (with_reducible refine (htb _).mono ?_)
      rintro r w5 ⟨rfl, hb5⟩
      clear a0 a1 a2 b0 b1 b2
      replace hk := hk.trans (hb5.mono hs)
      clear hB hs
      obtain ⟨⟨a0, a1, a2, -, -, -⟩, ⟨b0, b1, b2, -, -, -⟩, hB, hs⟩ := dy_pair w na sa ea nb sb eb hk
      clear hb4 hb5 hta htb
      go_wp2_with fail
      refine wp_region_cut 6 (by kernel_rfl) (by kernel_rfl) ?_
      rintro W rfl
      simp only [List.take_succ_cons, List.take_zero, List.drop_succ_cons, List.drop_zero]
      have hHeld : (fun w' : World => w'.cell? ⟨w.heap.size, 0, none⟩ = some (.bool na) ∧ w'.cell? ⟨w.heap.size, 1, none⟩ = some (.string sa) ∧ w'.cell? ⟨w.heap.size, 2, none⟩ = some (.int .i64 ea) ∧ w'.cell? ⟨w.heap.size + 1, 0, none⟩ = some (.bool nb) ∧ w'.cell? ⟨w.heap.size + 1, 1, none⟩ = some (.string sb) ∧ w'.cell? ⟨w.heap.size + 1, 2, none⟩ = some (.int .i64 eb)) (w5).drew := ⟨a0, a1, a2, b0, b1, b2⟩
      refine wpAny_of_held (S := fun w' : World => w'.cell? ⟨w.heap.size, 0, none⟩ = some (.bool na) ∧ w'.cell? ⟨w.heap.size, 1, none⟩ = some (.string sa) ∧ w'.cell? ⟨w.heap.size, 2, none⟩ = some (.int .i64 ea) ∧ w'.cell? ⟨w.heap.size + 1, 0, none⟩ = some (.bool nb) ∧ w'.cell? ⟨w.heap.size + 1, 1, none⟩ = some (.string sb) ∧ w'.cell? ⟨w.heap.size + 1, 2, none⟩ = some (.int .i64 eb)) _ _ _ _ ?_
      refine tkA 0 ?_
      (try dsimp only [Act.put]); (try go_frame)
      refine tkA 1 ?_
      (try dsimp only [Act.put]); (try go_frame)
      refine tkA 3 ?_
      (try dsimp only [Act.put]); (try go_frame)
      refine tkA 4 ?_
      (try dsimp only [Act.put]); (try go_frame)
      refine wpAnyH_ready (rs := [2]) (by kernel_rfl) (by simp) ?_
      refine AllReadyH.cons rfl (fun K hK => ?_) AllReadyH.nil
      go_simp
      (with_reducible refine (hoa _).mono ?_)
      rintro r w6 ⟨v, rfl, hown, hb6⟩
      obtain ⟨PA, ca, rfl, hnc, hsl⟩ := Own.slc hown
      have hxs : Slc w6 3 PA (Fil.dn 8 xa) (i8 xa) := hsl
      clear hown hsl hnc
      clear a0 a1 a2 b0 b1 b2
      replace hk := hk.drew.trans (hb6.mono hs)
      clear hB hs
      obtain ⟨⟨a0, a1, a2, -, -, -⟩, ⟨b0, b1, b2, -, -, -⟩, hB, hs⟩ := dy_pair w na sa ea nb sb eb hk
      refine hK.out _ _ ?_ (fun hHeld => ?_)
      ·exact ⟨a0, a1, a2, b0, b1, b2⟩
      clear hK K
      (try dsimp only [Act.put]); (try go_frame)
      refine wpAnyH_ready (rs := [5]) (by kernel_rfl) (by simp) ?_
      refine AllReadyH.cons rfl (fun K hK => ?_) AllReadyH.nil
      go_simp
      (with_reducible refine (hob _).mono ?_)
      rintro r w7 ⟨v, rfl, hown, hb7⟩
      obtain ⟨PB, cb, rfl, hnc, hsl⟩ := Own.slc hown
      have hys : Slc w7 3 PB (Fil.dn 8 xb) (i8 xb) := hsl
      replace hxs := hxs.below hb7
      clear hown hsl hnc
      clear a0 a1 a2 b0 b1 b2
      replace hk := hk.trans (hb7.mono hs)
      clear hB hs
      obtain ⟨⟨a0, a1, a2, -, -, -⟩, ⟨b0, b1, b2, -, -, -⟩, hB, hs⟩ := dy_pair w na sa ea nb sb eb hk
      refine hK.out _ _ ?_ (fun hHeld => ?_)
      ·exact ⟨a0, a1, a2, b0, b1, b2⟩
      clear hK K
      (try dsimp only [Act.put]); (try go_frame)
      refine wpAnyH_done (by kernel_rfl) ?_ _
      try simp only [QCut]
      clear hHeld hb6 hb7 hoa hob
      go_wp2_with fail
      (with_reducible refine (hsh PB cb w7 hys).mono ?_)
      rintro r w8 ⟨PC, cc, rfl, hcc, hzs, hb8⟩
      replace hxs := hxs.below hb8
      clear a0 a1 a2 b0 b1 b2
      replace hk := hk.trans (hb8.mono hs)
      clear hB hs
      obtain ⟨⟨a0, a1, a2, -, -, -⟩, ⟨b0, b1, b2, -, -, -⟩, hB, hs⟩ := dy_pair w na sa ea nb sb eb hk
      clear hb8 hys hsh
      go_wp2_with fail
      (with_reducible refine (hcm PA ca w8 PC cc hxs hzs).mono ?_)
      rintro r w9 ⟨rfl, n9, rfl⟩
      go_wp2
      go_ret
      exact ⟨ret_int (by rw [Hv.out]; omega), Below.drewN' hB n9⟩
     ·generalize bstr xa = sa at *
      generalize bstr xb = sb at *
      have hk : Below (w.heap.size + 1 + 1) ((w.alloc (.cells #[.bool na, .string sa, .int .i64 ea] 38)).alloc (.cells #[.bool nb, .string sb, .int .i64 eb] 38)) ((w.alloc (.cells #[.bool na, .string sa, .int .i64 ea] 38)).alloc (.cells #[.bool nb, .string sb, .int .i64 eb] 38)) := Below.refl _ _
      obtain ⟨⟨a0, a1, a2, -, -, -⟩, ⟨b0, b1, b2, -, -, -⟩, hB, hs⟩ := dy_pair w na sa ea nb sb eb hk
      go_enter Tryz.func21, Tryz.ntmps21
      go_wp2_with fail
      refine wp_region_cut 4 (by kernel_rfl) (by kernel_rfl) ?_
      rintro W rfl
      simp only [List.take_succ_cons, List.take_zero, List.drop_succ_cons, List.drop_zero]
      have hHeld : (fun w' : World => w'.cell? ⟨w.heap.size, 0, none⟩ = some (.bool na) ∧ w'.cell? ⟨w.heap.size, 1, none⟩ = some (.string sa) ∧ w'.cell? ⟨w.heap.size, 2, none⟩ = some (.int .i64 ea) ∧ w'.cell? ⟨w.heap.size + 1, 0, none⟩ = some (.bool nb) ∧ w'.cell? ⟨w.heap.size + 1, 1, none⟩ = some (.string sb) ∧ w'.cell? ⟨w.heap.size + 1, 2, none⟩ = some (.int .i64 eb)) ((w.alloc (.cells #[.bool na, .string sa, .int .i64 ea] 38)).alloc (.cells #[.bool nb, .string sb, .int .i64 eb] 38)).drew := ⟨a0, a1, a2, b0, b1, b2⟩
      refine wpAny_of_held (S := fun w' : World => w'.cell? ⟨w.heap.size, 0, none⟩ = some (.bool na) ∧ w'.cell? ⟨w.heap.size, 1, none⟩ = some (.string sa) ∧ w'.cell? ⟨w.heap.size, 2, none⟩ = some (.int .i64 ea) ∧ w'.cell? ⟨w.heap.size + 1, 0, none⟩ = some (.bool nb) ∧ w'.cell? ⟨w.heap.size + 1, 1, none⟩ = some (.string sb) ∧ w'.cell? ⟨w.heap.size + 1, 2, none⟩ = some (.int .i64 eb)) _ _ _ _ ?_
      refine tkA 0 ?_
      (try dsimp only [Act.put]); (try go_frame)
      refine tkA 2 ?_
      (try dsimp only [Act.put]); (try go_frame)
      refine wpAnyH_ready (rs := [1]) (by kernel_rfl) (by simp) ?_
      refine AllReadyH.cons rfl (fun K hK => ?_) AllReadyH.nil
      go_simp
      (with_reducible refine (hsa _).mono ?_)
      rintro r w2 ⟨rfl, hb2⟩
      clear a0 a1 a2 b0 b1 b2
      replace hk := hk.drew.trans (hb2.mono hs)
      clear hB hs
      obtain ⟨⟨a0, a1, a2, -, -, -⟩, ⟨b0, b1, b2, -, -, -⟩, hB, hs⟩ := dy_pair w na sa ea nb sb eb hk
      refine hK.out _ _ ?_ (fun hHeld => ?_)
      ·exact ⟨a0, a1, a2, b0, b1, b2⟩
      clear hK K
      (try dsimp only [Act.put]); (try go_frame)
      refine wpAnyH_ready (rs := [3]) (by kernel_rfl) (by simp) ?_
      refine AllReadyH.cons rfl (fun K hK => ?_) AllReadyH.nil
      go_simp
      (with_reducible refine (hsb _).mono ?_)
      rintro r w3 ⟨rfl, hb3⟩
      clear a0 a1 a2 b0 b1 b2
      replace hk := hk.trans (hb3.mono hs)
      clear hB hs
      obtain ⟨⟨a0, a1, a2, -, -, -⟩, ⟨b0, b1, b2, -, -, -⟩, hB, hs⟩ := dy_pair w na sa ea nb sb eb hk
      refine hK.out _ _ ?_ (fun hHeld => ?_)
      ·exact ⟨a0, a1, a2, b0, b1, b2⟩
      clear hK K
      (try dsimp only [Act.put]); (try go_frame)
      refine wpAnyH_done (by kernel_rfl) ?_ _
      try simp only [QCut]
      clear hHeld hb2 hb3 hsa hsb
      go_wp2_with fail
      (with_reducible refine (hta _).mono ?_)
      rintro r w4 ⟨rfl, hb4⟩
      clear a0 a1 a2 b0 b1 b2
      replace hk := hk.trans (hb4.mono hs)
      clear hB hs
      obtain ⟨⟨a0, a1, a2, -, -, -⟩, ⟨b0, b1, b2, -, -, -⟩, hB, hs⟩ := dy_pair w na sa ea nb sb eb hk
      go_wp2_with fail
      (with_reducible refine (htb _).mono ?_)
      rintro r w5 ⟨rfl, hb5⟩
      clear a0 a1 a2 b0 b1 b2
      replace hk := hk.trans (hb5.mono hs)
      clear hB hs
      obtain ⟨⟨a0, a1, a2, -, -, -⟩, ⟨b0, b1, b2, -, -, -⟩, hB, hs⟩ := dy_pair w na sa ea nb sb eb hk
      clear hb4 hb5 hta htb
      go_wp2_with fail
      refine wp_region_cut 6 (by kernel_rfl) (by kernel_rfl) ?_
      rintro W rfl
      simp only [List.take_succ_cons, List.take_zero, List.drop_succ_cons, List.drop_zero]
      have hHeld : (fun w' : World => w'.cell? ⟨w.heap.size, 0, none⟩ = some (.bool na) ∧ w'.cell? ⟨w.heap.size, 1, none⟩ = some (.string sa) ∧ w'.cell? ⟨w.heap.size, 2, none⟩ = some (.int .i64 ea) ∧ w'.cell? ⟨w.heap.size + 1, 0, none⟩ = some (.bool nb) ∧ w'.cell? ⟨w.heap.size + 1, 1, none⟩ = some (.string sb) ∧ w'.cell? ⟨w.heap.size + 1, 2, none⟩ = some (.int .i64 eb)) (w5).drew := ⟨a0, a1, a2, b0, b1, b2⟩
      refine wpAny_of_held (S := fun w' : World => w'.cell? ⟨w.heap.size, 0, none⟩ = some (.bool na) ∧ w'.cell? ⟨w.heap.size, 1, none⟩ = some (.string sa) ∧ w'.cell? ⟨w.heap.size, 2, none⟩ = some (.int .i64 ea) ∧ w'.cell? ⟨w.heap.size + 1, 0, none⟩ = some (.bool nb) ∧ w'.cell? ⟨w.heap.size + 1, 1, none⟩ = some (.string sb) ∧ w'.cell? ⟨w.heap.size + 1, 2, none⟩ = some (.int .i64 eb)) _ _ _ _ ?_
      refine tkA 0 ?_
      (try dsimp only [Act.put]); (try go_frame)
      refine tkA 1 ?_
      (try dsimp only [Act.put]); (try go_frame)
      refine tkA 3 ?_
      (try dsimp only [Act.put]); (try go_frame)
      refine tkA 4 ?_
      (try dsimp only [Act.put]); (try go_frame)
      refine wpAnyH_ready (rs := [2]) (by kernel_rfl) (by simp) ?_
      refine AllReadyH.cons rfl (fun K hK => ?_) AllReadyH.nil
      go_simp
      (with_reducible refine (hoa _).mono ?_)
      rintro r w6 ⟨v, rfl, hown, hb6⟩
      obtain ⟨PA, ca, rfl, hnc, hsl⟩ := Own.slc hown
      have hxs : Slc w6 3 PA (Fil.dn 8 xa) (i8 xa) := hsl
      clear hown hsl hnc
      clear a0 a1 a2 b0 b1 b2
      replace hk := hk.drew.trans (hb6.mono hs)
      clear hB hs
      obtain ⟨⟨a0, a1, a2, -, -, -⟩, ⟨b0, b1, b2, -, -, -⟩, hB, hs⟩ := dy_pair w na sa ea nb sb eb hk
      refine hK.out _ _ ?_ (fun hHeld => ?_)
      ·exact ⟨a0, a1, a2, b0, b1, b2⟩
      clear hK K
      (try dsimp only [Act.put]); (try go_frame)
      refine wpAnyH_ready (rs := [5]) (by kernel_rfl) (by simp) ?_
      refine AllReadyH.cons rfl (fun K hK => ?_) AllReadyH.nil
      go_simp
      (with_reducible refine (hob _).mono ?_)
      rintro r w7 ⟨v, rfl, hown, hb7⟩
      obtain ⟨PB, cb, rfl, hnc, hsl⟩ := Own.slc hown
      have hys : Slc w7 3 PB (Fil.dn 8 xb) (i8 xb) := hsl
      replace hxs := hxs.below hb7
      clear hown hsl hnc
      clear a0 a1 a2 b0 b1 b2
      replace hk := hk.trans (hb7.mono hs)
      clear hB hs
      obtain ⟨⟨a0, a1, a2, -, -, -⟩, ⟨b0, b1, b2, -, -, -⟩, hB, hs⟩ := dy_pair w na sa ea nb sb eb hk
      refine hK.out _ _ ?_ (fun hHeld => ?_)
      ·exact ⟨a0, a1, a2, b0, b1, b2⟩
      clear hK K
      (try dsimp only [Act.put]); (try go_frame)
      refine wpAnyH_done (by kernel_rfl) ?_ _
      try simp only [QCut]
      clear hHeld hb6 hb7 hoa hob
      go_wp2_with fail
      (with_reducible refine (hsh PB cb w7 hys).mono ?_)
      rintro r w8 ⟨PC, cc, rfl, hcc, hzs, hb8⟩
      replace hxs := hxs.below hb8
      clear a0 a1 a2 b0 b1 b2
      replace hk := hk.trans (hb8.mono hs)
      clear hB hs
      obtain ⟨⟨a0, a1, a2, -, -, -⟩, ⟨b0, b1, b2, -, -, -⟩, hB, hs⟩ := dy_pair w na sa ea nb sb eb hk
      clear hb8 hys hsh
      go_wp2_with fail
      (with_reducible refine (hcm PA ca w8 PC cc hxs hzs).mono ?_)
      rintro r w9 ⟨rfl, n9, rfl⟩
      go_wp2
      go_ret
      exact ⟨ret_int (by rw [Hv.out]; omega), Below.drewN' hB n9⟩
   ·have hv : C = A * (topZ xa ea - topZ xb eb).sign := by rw [hC, hA]; exact cmpD_top hxa hxb (by omega) (by omega) hss h3
    have d5 : (topZ xa ea == topZ xb eb) = false := by simpa using h3
    have d6 : (topZ xa ea != topZ xb eb) = true := by simpa using h3
    have hAs : A = -1 ∨ A = 1 := by omega
    generalize topZ xa ea = T at *
    generalize topZ xb eb = T' at *
    have Hx := Lib.hid (And.intro hA (And.intro hB9 hC))
    clear hA hB9 hC ha hb hoa hob h2 hxa hxb hza hzb hss la la' lb lb' low hna hnb
    subst h1
    by_cases h5 : T < T'
    ·have d7 : decide (T < T') = true := decide_eq_true h5
     rw [sign_lt h5] at hv
     have Hv := Lib.hid hv
     clear hv h5 h3
     rcases hAs with rfl | rfl
     ·generalize bstr xa = sa at *
      generalize bstr xb = sb at *
      have hk : Below (w.heap.size + 1 + 1) ((w.alloc (.cells #[.bool na, .string sa, .int .i64 ea] 38)).alloc (.cells #[.bool nb, .string sb, .int .i64 eb] 38)) ((w.alloc (.cells #[.bool na, .string sa, .int .i64 ea] 38)).alloc (.cells #[.bool nb, .string sb, .int .i64 eb] 38)) := Below.refl _ _
      obtain ⟨⟨a0, a1, a2, -, -, -⟩, ⟨b0, b1, b2, -, -, -⟩, hB, hs⟩ := dy_pair w na sa ea nb sb eb hk
      go_enter Tryz.func21, Tryz.ntmps21
      go_wp2_with fail
      refine wp_region_cut 4 (by kernel_rfl) (by kernel_rfl) ?_
      rintro W rfl
      simp only [List.take_succ_cons, List.take_zero, List.drop_succ_cons, List.drop_zero]
      have hHeld : (fun w' : World => w'.cell? ⟨w.heap.size, 0, none⟩ = some (.bool na) ∧ w'.cell? ⟨w.heap.size, 1, none⟩ = some (.string sa) ∧ w'.cell? ⟨w.heap.size, 2, none⟩ = some (.int .i64 ea) ∧ w'.cell? ⟨w.heap.size + 1, 0, none⟩ = some (.bool nb) ∧ w'.cell? ⟨w.heap.size + 1, 1, none⟩ = some (.string sb) ∧ w'.cell? ⟨w.heap.size + 1, 2, none⟩ = some (.int .i64 eb)) ((w.alloc (.cells #[.bool na, .string sa, .int .i64 ea] 38)).alloc (.cells #[.bool nb, .string sb, .int .i64 eb] 38)).drew := ⟨a0, a1, a2, b0, b1, b2⟩
      refine wpAny_of_held (S := fun w' : World => w'.cell? ⟨w.heap.size, 0, none⟩ = some (.bool na) ∧ w'.cell? ⟨w.heap.size, 1, none⟩ = some (.string sa) ∧ w'.cell? ⟨w.heap.size, 2, none⟩ = some (.int .i64 ea) ∧ w'.cell? ⟨w.heap.size + 1, 0, none⟩ = some (.bool nb) ∧ w'.cell? ⟨w.heap.size + 1, 1, none⟩ = some (.string sb) ∧ w'.cell? ⟨w.heap.size + 1, 2, none⟩ = some (.int .i64 eb)) _ _ _ _ ?_
      refine tkA 0 ?_
      (try dsimp only [Act.put]); (try go_frame)
      refine tkA 2 ?_
      (try dsimp only [Act.put]); (try go_frame)
      refine wpAnyH_ready (rs := [1]) (by kernel_rfl) (by simp) ?_
      refine AllReadyH.cons rfl (fun K hK => ?_) AllReadyH.nil
      go_simp
      (with_reducible refine (hsa _).mono ?_)
      rintro r w2 ⟨rfl, hb2⟩
      clear a0 a1 a2 b0 b1 b2
      replace hk := hk.drew.trans (hb2.mono hs)
      clear hB hs
      obtain ⟨⟨a0, a1, a2, -, -, -⟩, ⟨b0, b1, b2, -, -, -⟩, hB, hs⟩ := dy_pair w na sa ea nb sb eb hk
      refine hK.out _ _ ?_ (fun hHeld => ?_)
      ·exact ⟨a0, a1, a2, b0, b1, b2⟩
      clear hK K
      (try dsimp only [Act.put]); (try go_frame)
      refine wpAnyH_ready (rs := [3]) (by kernel_rfl) (by simp) ?_
      refine AllReadyH.cons rfl (fun K hK => ?_) AllReadyH.nil
      go_simp
      (with_reducible refine (hsb _).mono ?_)
      rintro r w3 ⟨rfl, hb3⟩
      clear a0 a1 a2 b0 b1 b2
      replace hk := hk.trans (hb3.mono hs)
      clear hB hs
      obtain ⟨⟨a0, a1, a2, -, -, -⟩, ⟨b0, b1, b2, -, -, -⟩, hB, hs⟩ := dy_pair w na sa ea nb sb eb hk
      refine hK.out _ _ ?_ (fun hHeld => ?_)
      ·exact ⟨a0, a1, a2, b0, b1, b2⟩
      clear hK K
      (try dsimp only [Act.put]); (try go_frame)
      refine wpAnyH_done (by kernel_rfl) ?_ _
      try simp only [QCut]
      clear hHeld hb2 hb3 hsa hsb
      go_wp2_with fail
      (with_reducible refine (hta _).mono ?_)
      rintro r w4 ⟨rfl, hb4⟩
      clear a0 a1 a2 b0 b1 b2
      replace hk := hk.trans (hb4.mono hs)
      clear hB hs
      obtain ⟨⟨a0, a1, a2, -, -, -⟩, ⟨b0, b1, b2, -, -, -⟩, hB, hs⟩ := dy_pair w na sa ea nb sb eb hk
      go_wp2_with fail
      (with_reducible refine (htb _).mono ?_)
      rintro r w5 ⟨rfl, hb5⟩
      clear a0 a1 a2 b0 b1 b2
      replace hk := hk.trans (hb5.mono hs)
      clear hB hs
      obtain ⟨⟨a0, a1, a2, -, -, -⟩, ⟨b0, b1, b2, -, -, -⟩, hB, hs⟩ := dy_pair w na sa ea nb sb eb hk
      clear hb4 hb5 hta htb
      go_wp2
      go_ret
      exact ⟨ret_int (by rw [Hv.out]; rfl), hB⟩
     ·generalize bstr xa = sa at *
      generalize bstr xb = sb at *
      have hk : Below (w.heap.size + 1 + 1) ((w.alloc (.cells #[.bool na, .string sa, .int .i64 ea] 38)).alloc (.cells #[.bool nb, .string sb, .int .i64 eb] 38)) ((w.alloc (.cells #[.bool na, .string sa, .int .i64 ea] 38)).alloc (.cells #[.bool nb, .string sb, .int .i64 eb] 38)) := Below.refl _ _
      obtain ⟨⟨a0, a1, a2, -, -, -⟩, ⟨b0, b1, b2, -, -, -⟩, hB, hs⟩ := dy_pair w na sa ea nb sb eb hk
      go_enter Tryz.func21, Tryz.ntmps21
      go_wp2_with fail
      refine wp_region_cut 4 (by kernel_rfl) (by kernel_rfl) ?_
      rintro W rfl
      simp only [List.take_succ_cons, List.take_zero, List.drop_succ_cons, List.drop_zero]
      have hHeld : (fun w' : World => w'.cell? ⟨w.heap.size, 0, none⟩ = some (.bool na) ∧ w'.cell? ⟨w.heap.size, 1, none⟩ = some (.string sa) ∧ w'.cell? ⟨w.heap.size, 2, none⟩ = some (.int .i64 ea) ∧ w'.cell? ⟨w.heap.size + 1, 0, none⟩ = some (.bool nb) ∧ w'.cell? ⟨w.heap.size + 1, 1, none⟩ = some (.string sb) ∧ w'.cell? ⟨w.heap.size + 1, 2, none⟩ = some (.int .i64 eb)) ((w.alloc (.cells #[.bool na, .string sa, .int .i64 ea] 38)).alloc (.cells #[.bool nb, .string sb, .int .i64 eb] 38)).drew := ⟨a0, a1, a2, b0, b1, b2⟩
      refine wpAny_of_held (S := fun w' : World => w'.cell? ⟨w.heap.size, 0, none⟩ = some (.bool na) ∧ w'.cell? ⟨w.heap.size, 1, none⟩ = some (.string sa) ∧ w'.cell? ⟨w.heap.size, 2, none⟩ = some (.int .i64 ea) ∧ w'.cell? ⟨w.heap.size + 1, 0, none⟩ = some (.bool nb) ∧ w'.cell? ⟨w.heap.size + 1, 1, none⟩ = some (.string sb) ∧ w'.cell? ⟨w.heap.size + 1, 2, none⟩ = some (.int .i64 eb)) _ _ _ _ ?_
      refine tkA 0 ?_
      (try dsimp only [Act.put]); (try go_frame)
      refine tkA 2 ?_
      (try dsimp only [Act.put]); (try go_frame)
      refine wpAnyH_ready (rs := [1]) (by kernel_rfl) (by simp) ?_
      refine AllReadyH.cons rfl (fun K hK => ?_) AllReadyH.nil
      go_simp
      (with_reducible refine (hsa _).mono ?_)
      rintro r w2 ⟨rfl, hb2⟩
      clear a0 a1 a2 b0 b1 b2
      replace hk := hk.drew.trans (hb2.mono hs)
      clear hB hs
      obtain ⟨⟨a0, a1, a2, -, -, -⟩, ⟨b0, b1, b2, -, -, -⟩, hB, hs⟩ := dy_pair w na sa ea nb sb eb hk
      refine hK.out _ _ ?_ (fun hHeld => ?_)
      ·exact ⟨a0, a1, a2, b0, b1, b2⟩
      clear hK K
      (try dsimp only [Act.put]); (try go_frame)
      refine wpAnyH_ready (rs := [3]) (by kernel_rfl) (by simp) ?_
      refine AllReadyH.cons rfl (fun K hK => ?_) AllReadyH.nil
      go_simp
      (with_reducible refine (hsb _).mono ?_)
      rintro r w3 ⟨rfl, hb3⟩
      clear a0 a1 a2 b0 b1 b2
      replace hk := hk.trans (hb3.mono hs)
      clear hB hs
      obtain ⟨⟨a0, a1, a2, -, -, -⟩, ⟨b0, b1, b2, -, -, -⟩, hB, hs⟩ := dy_pair w na sa ea nb sb eb hk
      refine hK.out _ _ ?_ (fun hHeld => ?_)
      ·exact ⟨a0, a1, a2, b0, b1, b2⟩
      clear hK K
      (try dsimp only [Act.put]); (try go_frame)
      refine wpAnyH_done (by kernel_rfl) ?_ _
      try simp only [QCut]
      clear hHeld hb2 hb3 hsa hsb
      go_wp2_with fail
      (with_reducible refine (hta _).mono ?_)
      rintro r w4 ⟨rfl, hb4⟩
      clear a0 a1 a2 b0 b1 b2
      replace hk := hk.trans (hb4.mono hs)
      clear hB hs
      obtain ⟨⟨a0, a1, a2, -, -, -⟩, ⟨b0, b1, b2, -, -, -⟩, hB, hs⟩ := dy_pair w na sa ea nb sb eb hk
      go_wp2_with fail
      (with_reducible refine (htb _).mono ?_)
      rintro r w5 ⟨rfl, hb5⟩
      clear a0 a1 a2 b0 b1 b2
      replace hk := hk.trans (hb5.mono hs)
      clear hB hs
      obtain ⟨⟨a0, a1, a2, -, -, -⟩, ⟨b0, b1, b2, -, -, -⟩, hB, hs⟩ := dy_pair w na sa ea nb sb eb hk
      clear hb4 hb5 hta htb
      go_wp2
      go_ret
      exact ⟨ret_int (by rw [Hv.out]; rfl), hB⟩
    ·have d7 : decide (T < T') = false := decide_eq_false h5
     rw [sign_gt (by omega)] at hv
     have Hv := Lib.hid hv
     clear hv h5 h3
     rcases hAs with rfl | rfl
     ·generalize bstr xa = sa at *
      generalize bstr xb = sb at *
      have hk : Below (w.heap.size + 1 + 1) ((w.alloc (.cells #[.bool na, .string sa, .int .i64 ea] 38)).alloc (.cells #[.bool nb, .string sb, .int .i64 eb] 38)) ((w.alloc (.cells #[.bool na, .string sa, .int .i64 ea] 38)).alloc (.cells #[.bool nb, .string sb, .int .i64 eb] 38)) := Below.refl _ _
      obtain ⟨⟨a0, a1, a2, -, -, -⟩, ⟨b0, b1, b2, -, -, -⟩, hB, hs⟩ := dy_pair w na sa ea nb sb eb hk
      go_enter Tryz.func21, Tryz.ntmps21
      go_wp2_with fail
      refine wp_region_cut 4 (by kernel_rfl) (by kernel_rfl) ?_
      rintro W rfl
      simp only [List.take_succ_cons, List.take_zero, List.drop_succ_cons, List.drop_zero]
      have hHeld : (fun w' : World => w'.cell? ⟨w.heap.size, 0, none⟩ = some (.bool na) ∧ w'.cell? ⟨w.heap.size, 1, none⟩ = some (.string sa) ∧ w'.cell? ⟨w.heap.size, 2, none⟩ = some (.int .i64 ea) ∧ w'.cell? ⟨w.heap.size + 1, 0, none⟩ = some (.bool nb) ∧ w'.cell? ⟨w.heap.size + 1, 1, none⟩ = some (.string sb) ∧ w'.cell? ⟨w.heap.size + 1, 2, none⟩ = some (.int .i64 eb)) ((w.alloc (.cells #[.bool na, .string sa, .int .i64 ea] 38)).alloc (.cells #[.bool nb, .string sb, .int .i64 eb] 38)).drew := ⟨a0, a1, a2, b0, b1, b2⟩
      refine wpAny_of_held (S := fun w' : World => w'.cell? ⟨w.heap.size, 0, none⟩ = some (.bool na) ∧ w'.cell? ⟨w.heap.size, 1, none⟩ = some (.string sa) ∧ w'.cell? ⟨w.heap.size, 2, none⟩ = some (.int .i64 ea) ∧ w'.cell? ⟨w.heap.size + 1, 0, none⟩ = some (.bool nb) ∧ w'.cell? ⟨w.heap.size + 1, 1, none⟩ = some (.string sb) ∧ w'.cell? ⟨w.heap.size + 1, 2, none⟩ = some (.int .i64 eb)) _ _ _ _ ?_
      refine tkA 0 ?_
      (try dsimp only [Act.put]); (try go_frame)
      refine tkA 2 ?_
      (try dsimp only [Act.put]); (try go_frame)
      refine wpAnyH_ready (rs := [1]) (by kernel_rfl) (by simp) ?_
      refine AllReadyH.cons rfl (fun K hK => ?_) AllReadyH.nil
      go_simp
      (with_reducible refine (hsa _).mono ?_)
      rintro r w2 ⟨rfl, hb2⟩
      clear a0 a1 a2 b0 b1 b2
      replace hk := hk.drew.trans (hb2.mono hs)
      clear hB hs
      obtain ⟨⟨a0, a1, a2, -, -, -⟩, ⟨b0, b1, b2, -, -, -⟩, hB, hs⟩ := dy_pair w na sa ea nb sb eb hk
      refine hK.out _ _ ?_ (fun hHeld => ?_)
      ·exact ⟨a0, a1, a2, b0, b1, b2⟩
      clear hK K
      (try dsimp only [Act.put]); (try go_frame)
      refine wpAnyH_ready (rs := [3]) (by kernel_rfl) (by simp) ?_
      refine AllReadyH.cons rfl (fun K hK => ?_) AllReadyH.nil
      go_simp
      (with_reducible refine (hsb _).mono ?_)
      rintro r w3 ⟨rfl, hb3⟩
      clear a0 a1 a2 b0 b1 b2
      replace hk := hk.trans (hb3.mono hs)
      clear hB hs
      obtain ⟨⟨a0, a1, a2, -, -, -⟩, ⟨b0, b1, b2, -, -, -⟩, hB, hs⟩ := dy_pair w na sa ea nb sb eb hk
      refine hK.out _ _ ?_ (fun hHeld => ?_)
      ·exact ⟨a0, a1, a2, b0, b1, b2⟩
      clear hK K
      (try dsimp only [Act.put]); (try go_frame)
      refine wpAnyH_done (by kernel_rfl) ?_ _
      try simp only [QCut]
      clear hHeld hb2 hb3 hsa hsb
      go_wp2_with fail
      (with_reducible refine (hta _).mono ?_)
      rintro r w4 ⟨rfl, hb4⟩
      clear a0 a1 a2 b0 b1 b2
      replace hk := hk.trans (hb4.mono hs)
      clear hB hs
      obtain ⟨⟨a0, a1, a2, -, -, -⟩, ⟨b0, b1, b2, -, -, -⟩, hB, hs⟩ := dy_pair w na sa ea nb sb eb hk
      go_wp2_with fail
      (with_reducible refine (htb _).mono ?_)
      rintro r w5 ⟨rfl, hb5⟩
      clear a0 a1 a2 b0 b1 b2
      replace hk := hk.trans (hb5.mono hs)
      clear hB hs
      obtain ⟨⟨a0, a1, a2, -, -, -⟩, ⟨b0, b1, b2, -, -, -⟩, hB, hs⟩ := dy_pair w na sa ea nb sb eb hk
      clear hb4 hb5 hta htb
      go_wp2
      go_ret
      exact ⟨ret_int (by rw [Hv.out]; rfl), hB⟩
     ·generalize bstr xa = sa at *
      generalize bstr xb = sb at *
      have hk : Below (w.heap.size + 1 + 1) ((w.alloc (.cells #[.bool na, .string sa, .int .i64 ea] 38)).alloc (.cells #[.bool nb, .string sb, .int .i64 eb] 38)) ((w.alloc (.cells #[.bool na, .string sa, .int .i64 ea] 38)).alloc (.cells #[.bool nb, .string sb, .int .i64 eb] 38)) := Below.refl _ _
      obtain ⟨⟨a0, a1, a2, -, -, -⟩, ⟨b0, b1, b2, -, -, -⟩, hB, hs⟩ := dy_pair w na sa ea nb sb eb hk
      go_enter Tryz.func21, Tryz.ntmps21
      go_wp2_with fail
      refine wp_region_cut 4 (by kernel_rfl) (by kernel_rfl) ?_
      rintro W rfl
      simp only [List.take_succ_cons, List.take_zero, List.drop_succ_cons, List.drop_zero]
      have hHeld : (fun w' : World => w'.cell? ⟨w.heap.size, 0, none⟩ = some (.bool na) ∧ w'.cell? ⟨w.heap.size, 1, none⟩ = some (.string sa) ∧ w'.cell? ⟨w.heap.size, 2, none⟩ = some (.int .i64 ea) ∧ w'.cell? ⟨w.heap.size + 1, 0, none⟩ = some (.bool nb) ∧ w'.cell? ⟨w.heap.size + 1, 1, none⟩ = some (.string sb) ∧ w'.cell? ⟨w.heap.size + 1, 2, none⟩ = some (.int .i64 eb)) ((w.alloc (.cells #[.bool na, .string sa, .int .i64 ea] 38)).alloc (.cells #[.bool nb, .string sb, .int .i64 eb] 38)).drew := ⟨a0, a1, a2, b0, b1, b2⟩
      refine wpAny_of_held (S := fun w' : World => w'.cell? ⟨w.heap.size, 0, none⟩ = some (.bool na) ∧ w'.cell? ⟨w.heap.size, 1, none⟩ = some (.string sa) ∧ w'.cell? ⟨w.heap.size, 2, none⟩ = some (.int .i64 ea) ∧ w'.cell? ⟨w.heap.size + 1, 0, none⟩ = some (.bool nb) ∧ w'.cell? ⟨w.heap.size + 1, 1, none⟩ = some (.string sb) ∧ w'.cell? ⟨w.heap.size + 1, 2, none⟩ = some (.int .i64 eb)) _ _ _ _ ?_
      refine tkA 0 ?_
      (try dsimp only [Act.put]); (try go_frame)
      refine tkA 2 ?_
      (try dsimp only [Act.put]); (try go_frame)
      refine wpAnyH_ready (rs := [1]) (by kernel_rfl) (by simp) ?_
      refine AllReadyH.cons rfl (fun K hK => ?_) AllReadyH.nil
      go_simp
      (with_reducible refine (hsa _).mono ?_)
      rintro r w2 ⟨rfl, hb2⟩
      clear a0 a1 a2 b0 b1 b2
      replace hk := hk.drew.trans (hb2.mono hs)
      clear hB hs
      obtain ⟨⟨a0, a1, a2, -, -, -⟩, ⟨b0, b1, b2, -, -, -⟩, hB, hs⟩ := dy_pair w na sa ea nb sb eb hk
      refine hK.out _ _ ?_ (fun hHeld => ?_)
      ·exact ⟨a0, a1, a2, b0, b1, b2⟩
      clear hK K
      (try dsimp only [Act.put]); (try go_frame)
      refine wpAnyH_ready (rs := [3]) (by kernel_rfl) (by simp) ?_
      refine AllReadyH.cons rfl (fun K hK => ?_) AllReadyH.nil
      go_simp
      (with_reducible refine (hsb _).mono ?_)
      rintro r w3 ⟨rfl, hb3⟩
      clear a0 a1 a2 b0 b1 b2
      replace hk := hk.trans (hb3.mono hs)
      clear hB hs
      obtain ⟨⟨a0, a1, a2, -, -, -⟩, ⟨b0, b1, b2, -, -, -⟩, hB, hs⟩ := dy_pair w na sa ea nb sb eb hk
      refine hK.out _ _ ?_ (fun hHeld => ?_)
      ·exact ⟨a0, a1, a2, b0, b1, b2⟩
      clear hK K
      (try dsimp only [Act.put]); (try go_frame)
      refine wpAnyH_done (by kernel_rfl) ?_ _
      try simp only [QCut]
      clear hHeld hb2 hb3 hsa hsb
      go_wp2_with fail
      (with_reducible refine (hta _).mono ?_)
      rintro r w4 ⟨rfl, hb4⟩
      clear a0 a1 a2 b0 b1 b2
      replace hk := hk.trans (hb4.mono hs)
      clear hB hs
      obtain ⟨⟨a0, a1, a2, -, -, -⟩, ⟨b0, b1, b2, -, -, -⟩, hB, hs⟩ := dy_pair w na sa ea nb sb eb hk
      go_wp2_with fail
      (with_reducible refine (htb _).mono ?_)
      rintro r w5 ⟨rfl, hb5⟩
      clear a0 a1 a2 b0 b1 b2
      replace hk := hk.trans (hb5.mono hs)
      clear hB hs
      obtain ⟨⟨a0, a1, a2, -, -, -⟩, ⟨b0, b1, b2, -, -, -⟩, hB, hs⟩ := dy_pair w na sa ea nb sb eb hk
      clear hb4 hb5 hta htb
      go_wp2
      go_ret
      exact ⟨ret_int (by rw [Hv.out]; rfl), hB⟩
 ·have hv : C = (A - B).sign := by rw [hC, hA, hB9]; exact (cmpD_sign (.inl (by rw [← hA, ← hB9]; exact h1))).symm
  have d1 : (A == B) = false := by simpa using h1
  have d2 : (A != B) = true := by simpa using h1
  have Hx := Lib.hid (And.intro hA (And.intro hB9 hC))
  clear hA hB9 hC ha hb hta htb hoa hob la la' lb lb' low hna hnb
  by_cases h5 : A < B
  ·have d7 : decide (A < B) = true := decide_eq_true h5
   rw [sign_lt h5] at hv
   have Hv := Lib.hid hv
   clear hv h5 h1
   generalize bstr xa = sa at *
   generalize bstr xb = sb at *
   have hk : Below (w.heap.size + 1 + 1) ((w.alloc (.cells #[.bool na, .string sa, .int .i64 ea] 38)).alloc (.cells #[.bool nb, .string sb, .int .i64 eb] 38)) ((w.alloc (.cells #[.bool na, .string sa, .int .i64 ea] 38)).alloc (.cells #[.bool nb, .string sb, .int .i64 eb] 38)) := Below.refl _ _
   obtain ⟨⟨a0, a1, a2, -, -, -⟩, ⟨b0, b1, b2, -, -, -⟩, hB, hs⟩ := dy_pair w na sa ea nb sb eb hk
   go_enter Tryz.func21, Tryz.ntmps21
   go_wp2_with fail
   refine wp_region_cut 4 (by kernel_rfl) (by kernel_rfl) ?_
   rintro W rfl
   simp only [List.take_succ_cons, List.take_zero, List.drop_succ_cons, List.drop_zero]
   have hHeld : (fun w' : World => w'.cell? ⟨w.heap.size, 0, none⟩ = some (.bool na) ∧ w'.cell? ⟨w.heap.size, 1, none⟩ = some (.string sa) ∧ w'.cell? ⟨w.heap.size, 2, none⟩ = some (.int .i64 ea) ∧ w'.cell? ⟨w.heap.size + 1, 0, none⟩ = some (.bool nb) ∧ w'.cell? ⟨w.heap.size + 1, 1, none⟩ = some (.string sb) ∧ w'.cell? ⟨w.heap.size + 1, 2, none⟩ = some (.int .i64 eb)) ((w.alloc (.cells #[.bool na, .string sa, .int .i64 ea] 38)).alloc (.cells #[.bool nb, .string sb, .int .i64 eb] 38)).drew := ⟨a0, a1, a2, b0, b1, b2⟩
   refine wpAny_of_held (S := fun w' : World => w'.cell? ⟨w.heap.size, 0, none⟩ = some (.bool na) ∧ w'.cell? ⟨w.heap.size, 1, none⟩ = some (.string sa) ∧ w'.cell? ⟨w.heap.size, 2, none⟩ = some (.int .i64 ea) ∧ w'.cell? ⟨w.heap.size + 1, 0, none⟩ = some (.bool nb) ∧ w'.cell? ⟨w.heap.size + 1, 1, none⟩ = some (.string sb) ∧ w'.cell? ⟨w.heap.size + 1, 2, none⟩ = some (.int .i64 eb)) _ _ _ _ ?_
   refine tkA 0 ?_
   (try dsimp only [Act.put]); (try go_frame)
   refine tkA 2 ?_
   (try dsimp only [Act.put]); (try go_frame)
   refine wpAnyH_ready (rs := [1]) (by kernel_rfl) (by simp) ?_
   refine AllReadyH.cons rfl (fun K hK => ?_) AllReadyH.nil
   go_simp
   (with_reducible refine (hsa _).mono ?_)
   rintro r w2 ⟨rfl, hb2⟩
   clear a0 a1 a2 b0 b1 b2
   replace hk := hk.drew.trans (hb2.mono hs)
   clear hB hs
   obtain ⟨⟨a0, a1, a2, -, -, -⟩, ⟨b0, b1, b2, -, -, -⟩, hB, hs⟩ := dy_pair w na sa ea nb sb eb hk
   refine hK.out _ _ ?_ (fun hHeld => ?_)
   ·exact ⟨a0, a1, a2, b0, b1, b2⟩
   clear hK K
   (try dsimp only [Act.put]); (try go_frame)
   refine wpAnyH_ready (rs := [3]) (by kernel_rfl) (by simp) ?_
   refine AllReadyH.cons rfl (fun K hK => ?_) AllReadyH.nil
   go_simp
   (with_reducible refine (hsb _).mono ?_)
   rintro r w3 ⟨rfl, hb3⟩
   clear a0 a1 a2 b0 b1 b2
   replace hk := hk.trans (hb3.mono hs)
   clear hB hs
   obtain ⟨⟨a0, a1, a2, -, -, -⟩, ⟨b0, b1, b2, -, -, -⟩, hB, hs⟩ := dy_pair w na sa ea nb sb eb hk
   refine hK.out _ _ ?_ (fun hHeld => ?_)
   ·exact ⟨a0, a1, a2, b0, b1, b2⟩
   clear hK K
   (try dsimp only [Act.put]); (try go_frame)
   refine wpAnyH_done (by kernel_rfl) ?_ _
   try simp only [QCut]
   clear hHeld hb2 hb3 hsa hsb
   go_wp2
   go_ret
   exact ⟨ret_int (by rw [Hv.out]), hB⟩
  ·have d7 : decide (A < B) = false := decide_eq_false h5
   have d8 : decide (B < A) = true := decide_eq_true (by omega)
   rw [sign_gt (by omega)] at hv
   have Hv := Lib.hid hv
   clear hv h5 h1
   generalize bstr xa = sa at *
   generalize bstr xb = sb at *
   have hk : Below (w.heap.size + 1 + 1) ((w.alloc (.cells #[.bool na, .string sa, .int .i64 ea] 38)).alloc (.cells #[.bool nb, .string sb, .int .i64 eb] 38)) ((w.alloc (.cells #[.bool na, .string sa, .int .i64 ea] 38)).alloc (.cells #[.bool nb, .string sb, .int .i64 eb] 38)) := Below.refl _ _
   obtain ⟨⟨a0, a1, a2, -, -, -⟩, ⟨b0, b1, b2, -, -, -⟩, hB, hs⟩ := dy_pair w na sa ea nb sb eb hk
   go_enter Tryz.func21, Tryz.ntmps21
   go_wp2_with fail
   refine wp_region_cut 4 (by kernel_rfl) (by kernel_rfl) ?_
   rintro W rfl
   simp only [List.take_succ_cons, List.take_zero, List.drop_succ_cons, List.drop_zero]
   have hHeld : (fun w' : World => w'.cell? ⟨w.heap.size, 0, none⟩ = some (.bool na) ∧ w'.cell? ⟨w.heap.size, 1, none⟩ = some (.string sa) ∧ w'.cell? ⟨w.heap.size, 2, none⟩ = some (.int .i64 ea) ∧ w'.cell? ⟨w.heap.size + 1, 0, none⟩ = some (.bool nb) ∧ w'.cell? ⟨w.heap.size + 1, 1, none⟩ = some (.string sb) ∧ w'.cell? ⟨w.heap.size + 1, 2, none⟩ = some (.int .i64 eb)) ((w.alloc (.cells #[.bool na, .string sa, .int .i64 ea] 38)).alloc (.cells #[.bool nb, .string sb, .int .i64 eb] 38)).drew := ⟨a0, a1, a2, b0, b1, b2⟩
   refine wpAny_of_held (S := fun w' : World => w'.cell? ⟨w.heap.size, 0, none⟩ = some (.bool na) ∧ w'.cell? ⟨w.heap.size, 1, none⟩ = some (.string sa) ∧ w'.cell? ⟨w.heap.size, 2, none⟩ = some (.int .i64 ea) ∧ w'.cell? ⟨w.heap.size + 1, 0, none⟩ = some (.bool nb) ∧ w'.cell? ⟨w.heap.size + 1, 1, none⟩ = some (.string sb) ∧ w'.cell? ⟨w.heap.size + 1, 2, none⟩ = some (.int .i64 eb)) _ _ _ _ ?_
   refine tkA 0 ?_
   (try dsimp only [Act.put]); (try go_frame)
   refine tkA 2 ?_
   (try dsimp only [Act.put]); (try go_frame)
   refine wpAnyH_ready (rs := [1]) (by kernel_rfl) (by simp) ?_
   refine AllReadyH.cons rfl (fun K hK => ?_) AllReadyH.nil
   go_simp
   (with_reducible refine (hsa _).mono ?_)
   rintro r w2 ⟨rfl, hb2⟩
   clear a0 a1 a2 b0 b1 b2
   replace hk := hk.drew.trans (hb2.mono hs)
   clear hB hs
   obtain ⟨⟨a0, a1, a2, -, -, -⟩, ⟨b0, b1, b2, -, -, -⟩, hB, hs⟩ := dy_pair w na sa ea nb sb eb hk
   refine hK.out _ _ ?_ (fun hHeld => ?_)
   ·exact ⟨a0, a1, a2, b0, b1, b2⟩
   clear hK K
   (try dsimp only [Act.put]); (try go_frame)
   refine wpAnyH_ready (rs := [3]) (by kernel_rfl) (by simp) ?_
   refine AllReadyH.cons rfl (fun K hK => ?_) AllReadyH.nil
   go_simp
   (with_reducible refine (hsb _).mono ?_)
   rintro r w3 ⟨rfl, hb3⟩
   clear a0 a1 a2 b0 b1 b2
   replace hk := hk.trans (hb3.mono hs)
   clear hB hs
   obtain ⟨⟨a0, a1, a2, -, -, -⟩, ⟨b0, b1, b2, -, -, -⟩, hB, hs⟩ := dy_pair w na sa ea nb sb eb hk
   refine hK.out _ _ ?_ (fun hHeld => ?_)
   ·exact ⟨a0, a1, a2, b0, b1, b2⟩
   clear hK K
   (try dsimp only [Act.put]); (try go_frame)
   refine wpAnyH_done (by kernel_rfl) ?_ _
   try simp only [QCut]
   clear hHeld hb2 hb3 hsa hsb
   go_wp2
   go_ret
   exact ⟨ret_int (by rw [Hv.out]), hB⟩
end Go.Proofs.YtfdnbogbankjjaaGreatDoor
