/- Sub, Mul; the reference's Add, Sub, Mul. -/
import Derived.Test.YtfdnbogbankjjaaGreatDoorBL

/- The walks over dyad.Sub, Mul. -/
namespace Go.Proofs.YtfdnbogbankjjaaGreatDoor
open Go Go.RowKit Go.PlainAid Fil

theorem dy_put3 {w w' : World} (u v x : Value) (hB : Below w.heap.size w w') : Below w.heap.size w (((w'.setCell ⟨w.heap.size + 1 + 1, 0, none⟩ u).setCell ⟨w.heap.size + 1 + 1, 1, none⟩ v).setCell ⟨w.heap.size + 1 + 1, 2, none⟩ x) :=
 ((hB.setCell (by simp; omega) _).setCell (by simp; omega) _).setCell (by simp; omega) _

theorem okD.neg {n : Bool} {x : Nat} {e : Int} (h : okD n x e) : okD (!n && decide (x ≠ 0)) x e := by
 rcases h with ⟨h1, h2, h3⟩ | h
 ·refine .inl ⟨h1, ?_, h3⟩; rw [decide_eq_false (by simpa using h1), Bool.and_false]
 ·exact .inr h
theorem sz_neg {n : Bool} {x : Nat} : sz (!n && decide (x ≠ 0)) x = -sz n x := by
 by_cases hx : x = 0
 ·subst hx; rw [sz_zero, sz_zero]; rfl
 ·rw [decide_eq_true hx, Bool.and_true]; unfold sz; cases n <;> simp

theorem dn32_mul {a b : Nat} (ha : Fil.dn 8 a ≤ 16384) (hb : Fil.dn 8 b ≤ 16384) : Fil.dn 32 (a * b) ≤ 16384 ∧ Fil.dn 8 (a * b) ≤ 32768 := by
 have h1 := lt_of_dn (k := 8) (by omega) ha
 have h2 := lt_of_dn (k := 8) (by omega) hb
 obtain ⟨n, hn⟩ : ∃ n : Nat, n = 16384 := ⟨_, rfl⟩
 rw [← hn] at h1 h2
 have h3 : a * b < 2 ^ (8 * (n + n)) := by rw [padd]; exact Nat.mul_lt_mul'' h1 h2
 have h4 := dn_le (k := 8) (by omega) h3
 have h5 := dn_le (k := 32) (n := n) (by omega) (Nat.lt_of_lt_of_le h3 (pmono (by omega)))
 exact ⟨by omega, by omega⟩

end Go.Proofs.YtfdnbogbankjjaaGreatDoor

/- The walks over the reference's Add. -/
namespace Go.Proofs.YtfdnbogbankjjaaGreatDoor
open Go Go.RowKit Go.PlainAid Fil

theorem dn8_shl {x k : Nat} (h : Fil.dn 8 x ≤ 16384) (hk : k ≤ 131080) : Fil.dn 8 (x * 2 ^ k) ≤ 33000 := by
 have h0 := lt_of_dn (k := 8) (by omega) h
 obtain ⟨M, hM⟩ : ∃ M : Nat, M = 8 * 16384 := ⟨_, rfl⟩
 rw [← hM] at h0
 obtain ⟨n, hn⟩ : ∃ n : Nat, n = 33000 := ⟨_, rfl⟩
 rw [← hn]
 refine dn_le (by omega) (Nat.lt_of_lt_of_le (Nat.mul_lt_mul_of_pos_right h0 (pp k)) ?_)
 rw [← Nat.pow_add]
 exact pmono (by omega)
theorem dn8_plus {x y n : Nat} (hx : Fil.dn 8 x ≤ n) (hy : Fil.dn 8 y ≤ n) : Fil.dn 8 (x + y) ≤ n + 1 := by
 have h1 := lt_of_dn (k := 8) (by omega) hx
 have h2 := lt_of_dn (k := 8) (by omega) hy
 refine dn_le (by omega) ?_
 rw [pstep]; omega
theorem addZ_at {z ea z' eb : Int} {k : Nat} (h : eb ≤ ea) (hk : ea - eb = k) : addZ z ea z' eb = z * 2 ^ k + z' := by
 unfold addZ
 rw [show min ea eb = eb by omega, Int.sub_self, show (ea - eb).toNat = k by omega, Int.toNat_zero, Int.pow_zero, Int.mul_one]
theorem addZ_same {na : Bool} {xa : Nat} {ea : Int} {nb : Bool} {xb : Nat} {eb : Int} {k : Nat} (h : eb ≤ ea) (hk : ea - eb = k) (hn : na = nb) : addZ (sz na xa) ea (sz nb xb) eb = sz na (xa * 2 ^ k + xb) := by
 subst hn
 rw [addZ_at h hk, sz_shl]
 unfold sz; cases na <;> simp <;> omega
theorem addZ_ge {na : Bool} {xa : Nat} {ea : Int} {nb : Bool} {xb : Nat} {eb : Int} {k : Nat} (h : eb ≤ ea) (hk : ea - eb = k) (hn : ¬ na = nb) (hx : xb ≤ xa * 2 ^ k) : addZ (sz na xa) ea (sz nb xb) eb = sz na (xa * 2 ^ k - xb) := by
 rw [addZ_at h hk, sz_shl]
 generalize xa * 2 ^ k = t at *
 unfold sz; cases na <;> cases nb <;> simp at hn ⊢ <;> omega
theorem addZ_lt {na : Bool} {xa : Nat} {ea : Int} {nb : Bool} {xb : Nat} {eb : Int} {k : Nat} (h : eb ≤ ea) (hk : ea - eb = k) (hn : ¬ na = nb) (hx : xa * 2 ^ k < xb) : addZ (sz na xa) ea (sz nb xb) eb = sz nb (xb - xa * 2 ^ k) := by
 rw [addZ_at h hk, sz_shl]
 generalize xa * 2 ^ k = t at *
 unfold sz; cases na <;> cases nb <;> simp at hn ⊢ <;> omega

set_option maxRecDepth 100000 in
set_option maxHeartbeats 4000000 in
theorem radd_ge (na : Bool) (xa : Nat) (ea : Int) (nb : Bool) (xb : Nat) (eb : Int) (k : Nat) (w : World) (ha : okD na xa ea) (hb : okD nb xb eb) (hxa : xa ≠ 0) (hxb : xb ≠ 0) (hle : eb ≤ ea) (hk0 : ea - eb = k) (hkk : k ≤ 131080) :
  Calls Tryz.prog 50 #[.agg #[.bool na, .string (bstr xa), .int .i64 ea], .agg #[.bool nb, .string (bstr xb), .int .i64 eb]] w fun r w' => r = .returned (mkV (addZ (sz na xa) ea (sz nb xb) eb) eb) ∧ Below w.heap.size w w' := by
 obtain ⟨p1, p2⟩ := bstr_ne hxa
 obtain ⟨q1, q2⟩ := bstr_ne hxb
 have ia1 := ha.e1
 have ia2 := ha.e2
 have ib1 := hb.e1
 have ib2 := hb.e2
 have hra := fun W => rof_any xa W (by have := ha.dn; omega)
 have hrb := fun W => rof_any xb W (by have := hb.dn; omega)
 have hna := ha.dn
 have hnb := hb.dn
 have hnX := dn8_shl (x := xa) (k := k) hna hkk
 obtain ⟨Z, hZ⟩ : ∃ Z, Z = addZ (sz na xa) ea (sz nb xb) eb := ⟨_, rfl⟩
 have e1 := @addZ_same na xa ea nb xb eb k hle hk0
 have e2 := @addZ_ge na xa ea nb xb eb k hle hk0
 have e3 := @addZ_lt na xa ea nb xb eb k hle hk0
 rw [← hZ] at e1 e2 e3 ⊢
 have HE := Lib.hid (And.intro e1 (And.intro e2 e3))
 obtain ⟨X, hX⟩ : ∃ X, X = xa * 2 ^ k := ⟨_, rfl⟩
 rw [← hX] at hnX HE
 have hsh := fun A c W (hs : Slc W 3 A (Fil.dn 8 xa) (i8 xa)) => rshifted_any A (Fil.dn 8 xa) c xa k W rfl (by omega) (by omega) hs
 rw [← hX] at hsh
 have HX := Lib.hid hsh
 have hdec : decide (ea < eb) = false := decide_eq_false (by omega)
 have hplus : Fil.dn 8 (X + xb) ≤ 40000 := by
  have h1 := dn8_plus hnX (Nat.le_trans hnb (show 16384 ≤ 33000 by omega)); omega
 have hm1 : Fil.dn 8 (X - xb) ≤ 40000 := Nat.le_trans (dn_mono (by omega) (Nat.sub_le _ _)) (by omega)
 have hm2 : Fil.dn 8 (xb - X) ≤ 40000 := Nat.le_trans (dn_mono (by omega) (Nat.sub_le _ _)) (by omega)
 have HM := Lib.hid (And.intro hplus (And.intro hm1 hm2))
 have k0 : 0 ≤ (k : Int) := by omega
 have k1 : (k : Int) ≤ 131080 := by omega
 generalize bstr xa = sa at *
 generalize bstr xb = sb at *
 clear ha hb hxa hxb hsh e1 e2 e3 hZ hX hplus hm1 hm2 hkk
 have hk : Below (w.heap.size + 1 + 1 + 1) (((w.alloc (.cells #[.bool na, .string sa, .int .i64 ea] 38)).alloc (.cells #[.bool nb, .string sb, .int .i64 eb] 38)).alloc (.cells #[.bool false, .string { data := #[] }, .int .i64 0] 38)) (((w.alloc (.cells #[.bool na, .string sa, .int .i64 ea] 38)).alloc (.cells #[.bool nb, .string sb, .int .i64 eb] 38)).alloc (.cells #[.bool false, .string { data := #[] }, .int .i64 0] 38)) := Below.refl _ _
 obtain ⟨⟨a0, a1, a2, -, -, -⟩, ⟨b0, b1, b2, -, -, -⟩, -, hB, hs⟩ := dy_three w na sa ea nb sb eb hk
 go_enter Tryz.func50, Tryz.ntmps50
 go_wp2_with fail
 refine wp_region_cut 8 (by kernel_rfl) (by kernel_rfl) ?_
 rintro W rfl
 simp only [List.take_succ_cons, List.take_zero, List.drop_succ_cons, List.drop_zero]
 have hHeld : (fun w' : World => w'.cell? ⟨w.heap.size, 0, none⟩ = some (.bool na) ∧ w'.cell? ⟨w.heap.size, 1, none⟩ = some (.string sa) ∧ w'.cell? ⟨w.heap.size, 2, none⟩ = some (.int .i64 ea) ∧ w'.cell? ⟨w.heap.size + 1, 0, none⟩ = some (.bool nb) ∧ w'.cell? ⟨w.heap.size + 1, 1, none⟩ = some (.string sb) ∧ w'.cell? ⟨w.heap.size + 1, 2, none⟩ = some (.int .i64 eb)) (((w.alloc (.cells #[.bool na, .string sa, .int .i64 ea] 38)).alloc (.cells #[.bool nb, .string sb, .int .i64 eb] 38)).alloc (.cells #[.bool false, .string { data := #[] }, .int .i64 0] 38)).drew := ⟨a0, a1, a2, b0, b1, b2⟩
 refine wpAny_of_held (S := fun w' : World => w'.cell? ⟨w.heap.size, 0, none⟩ = some (.bool na) ∧ w'.cell? ⟨w.heap.size, 1, none⟩ = some (.string sa) ∧ w'.cell? ⟨w.heap.size, 2, none⟩ = some (.int .i64 ea) ∧ w'.cell? ⟨w.heap.size + 1, 0, none⟩ = some (.bool nb) ∧ w'.cell? ⟨w.heap.size + 1, 1, none⟩ = some (.string sb) ∧ w'.cell? ⟨w.heap.size + 1, 2, none⟩ = some (.int .i64 eb)) _ _ _ _ ?_
 refine tkA 0 ?_
 (try dsimp only [Act.put]); (try go_frame)
 refine tkA 1 ?_
 (try dsimp only [Act.put]); (try go_frame)
 refine tkA 3 ?_
 (try dsimp only [Act.put]); (try go_frame)
 refine tkA 5 ?_
 (try dsimp only [Act.put]); (try go_frame)
 refine tkA 6 ?_
 (try dsimp only [Act.put]); (try go_frame)
 refine wpAnyH_ready (rs := [2]) (by kernel_rfl) (by simp) ?_
 refine AllReadyH.cons rfl (fun K hK => ?_) AllReadyH.nil
 go_simp
 (with_reducible refine (hra _).mono ?_)
 rintro r w0 ⟨v, rfl, hown, hb0⟩
 obtain ⟨A, c, rfl, hnc, hsl⟩ := Own.slc hown
 have hs0 : Slc w0 3 A (Fil.dn 8 xa) (i8 xa) := hsl
 clear hown hsl
 clear a0 a1 a2 b0 b1 b2
 replace hk := hk.drew.trans (hb0.mono hs)
 clear hB hs
 obtain ⟨⟨a0, a1, a2, -, -, -⟩, ⟨b0, b1, b2, -, -, -⟩, -, hB, hs⟩ := dy_three w na sa ea nb sb eb hk
 refine hK.out _ _ ?_ (fun hHeld => ?_)
 ·exact ⟨a0, a1, a2, b0, b1, b2⟩
 clear hK K
 (try dsimp only [Act.put]); (try go_frame)
 refine wpAnyH_ready (rs := [4]) (by kernel_rfl) (by simp) ?_
 refine AllReadyH.cons rfl (fun K hK => ?_) AllReadyH.nil
 go_simp
 (with_reducible refine (HX.out A c w0 hs0).mono ?_)
 rintro r w1 ⟨A1, c1, rfl, hc1, hs1, hb1⟩
 clear hs0 hra
 clear a0 a1 a2 b0 b1 b2
 replace hk := hk.trans (hb1.mono hs)
 clear hB hs
 obtain ⟨⟨a0, a1, a2, -, -, -⟩, ⟨b0, b1, b2, -, -, -⟩, -, hB, hs⟩ := dy_three w na sa ea nb sb eb hk
 refine hK.out _ _ ?_ (fun hHeld => ?_)
 ·exact ⟨a0, a1, a2, b0, b1, b2⟩
 clear hK K
 (try dsimp only [Act.put]); (try go_frame)
 refine wpAnyH_ready (rs := [7]) (by kernel_rfl) (by simp) ?_
 refine AllReadyH.cons rfl (fun K hK => ?_) AllReadyH.nil
 go_simp
 (with_reducible refine (hrb _).mono ?_)
 rintro r w2 ⟨v, rfl, hown, hb2⟩
 obtain ⟨A2, c2, rfl, hnc2, hsl⟩ := Own.slc hown
 have hs2 : Slc w2 3 A2 (Fil.dn 8 xb) (i8 xb) := hsl
 replace hs1 := hs1.below hb2
 clear hown hsl hrb
 clear a0 a1 a2 b0 b1 b2
 replace hk := hk.trans (hb2.mono hs)
 clear hB hs
 obtain ⟨⟨a0, a1, a2, -, -, -⟩, ⟨b0, b1, b2, -, -, -⟩, -, hB, hs⟩ := dy_three w na sa ea nb sb eb hk
 refine hK.out _ _ ?_ (fun hHeld => ?_)
 ·exact ⟨a0, a1, a2, b0, b1, b2⟩
 clear hK K
 (try dsimp only [Act.put]); (try go_frame)
 refine wpAnyH_done (by kernel_rfl) ?_ _
 try simp only [QCut]
 clear hb0 hb1 hb2 hHeld
 by_cases hsame : na = nb
 ·have HZ := Lib.hid (HE.out.1 hsame)
  have HY := Lib.hid (Nat.le_trans HM.out.1 (show 40000 ≤ 393216 by omega))
  have ht : (na == nb) = true := by simp [hsame]
  clear hsame
  go_wp2_with fail
  refine wp_region_cut 10 (by kernel_rfl) (by kernel_rfl) ?_
  rintro W rfl
  simp only [List.take_succ_cons, List.take_zero, List.drop_succ_cons, List.drop_zero]
  have hHeld : (fun w' : World => w'.cell? ⟨w.heap.size, 0, none⟩ = some (.bool na) ∧ w'.cell? ⟨w.heap.size, 1, none⟩ = some (.string sa) ∧ w'.cell? ⟨w.heap.size, 2, none⟩ = some (.int .i64 ea) ∧ w'.cell? ⟨w.heap.size + 1, 0, none⟩ = some (.bool nb) ∧ w'.cell? ⟨w.heap.size + 1, 1, none⟩ = some (.string sb) ∧ w'.cell? ⟨w.heap.size + 1, 2, none⟩ = some (.int .i64 eb)) (w2).drew := ⟨a0, a1, a2, b0, b1, b2⟩
  refine wpAny_of_held (S := fun w' : World => w'.cell? ⟨w.heap.size, 0, none⟩ = some (.bool na) ∧ w'.cell? ⟨w.heap.size, 1, none⟩ = some (.string sa) ∧ w'.cell? ⟨w.heap.size, 2, none⟩ = some (.int .i64 ea) ∧ w'.cell? ⟨w.heap.size + 1, 0, none⟩ = some (.bool nb) ∧ w'.cell? ⟨w.heap.size + 1, 1, none⟩ = some (.string sb) ∧ w'.cell? ⟨w.heap.size + 1, 2, none⟩ = some (.int .i64 eb)) _ _ _ _ ?_
  refine tkA 0 ?_
  (try dsimp only [Act.put]); (try go_frame)
  refine tkA 1 ?_
  (try dsimp only [Act.put]); (try go_frame)
  refine tkA 2 ?_
  (try dsimp only [Act.put]); (try go_frame)
  refine tkA 3 ?_
  (try dsimp only [Act.put]); (try go_frame)
  refine tkA 5 ?_
  (try dsimp only [Act.put]); (try go_frame)
  refine tkA 6 ?_
  (try dsimp only [Act.put]); (try go_frame)
  refine wpAnyH_ready (rs := [4]) (by kernel_rfl) (by simp) ?_
  refine AllReadyH.cons rfl (fun K hK => ?_) AllReadyH.nil
  go_simp
  (with_reducible refine (rplus_any A1 A2 (Fil.dn 8 X) c1 X (Fil.dn 8 xb) c2 xb _ rfl rfl (by omega) (by omega) hs1.drew hs2.drew).mono ?_)
  rintro r w3 ⟨A3, c3, rfl, hc3, hs3, hb3⟩
  clear a0 a1 a2 b0 b1 b2
  replace hk := hk.drew.trans (hb3.mono hs)
  clear hB hs
  obtain ⟨⟨a0, a1, a2, -, -, -⟩, ⟨b0, b1, b2, -, -, -⟩, -, hB, hs⟩ := dy_three w na sa ea nb sb eb hk
  refine hK.out _ _ ?_ (fun hHeld => ?_)
  ·exact ⟨a0, a1, a2, b0, b1, b2⟩
  clear hK K
  (try dsimp only [Act.put]); (try go_frame)
  have hfit := rfit_any na A3 _ c3 _ eb w3 rfl hc3 HY.out (by omega) (by omega) hs3
  rw [← HZ.out] at hfit
  refine wpAnyH_ready (rs := [7]) (by kernel_rfl) (by simp) ?_
  refine AllReadyH.cons rfl (fun K hK => ?_) AllReadyH.nil
  go_simp
  (with_reducible refine hfit.mono ?_)
  rintro r w4 ⟨rfl, hb4⟩
  clear a0 a1 a2 b0 b1 b2
  replace hk := hk.trans (hb4.mono hs)
  clear hB hs
  obtain ⟨⟨a0, a1, a2, -, -, -⟩, ⟨b0, b1, b2, -, -, -⟩, -, hB, hs⟩ := dy_three w na sa ea nb sb eb hk
  refine hK.out _ _ ?_ (fun hHeld => ?_)
  ·exact ⟨a0, a1, a2, b0, b1, b2⟩
  clear hK K
  (try dsimp only [Act.put]); (try go_frame)
  obtain ⟨-, -, ⟨c0, c1, c2, f0, f1, f2⟩, hB', -⟩ := dy_three w na sa ea nb sb eb hk
  have hbZ := dy_put3 (.bool (mkN (Z) eb)) (.string (bstr (mkX (Z) eb))) (.int .i64 (mkE (Z) eb)) hB'
  clear a0 a1 a2 b0 b1 b2 hk hB hs hB'
  clear hfit hb3 hb4 hs3
  unfold mkV dyR
  refine tkA 8 ?_
  (try dsimp only [Act.put]); (try go_frame)
  refine tkA 9 ?_
  (try dsimp only [Act.put]); (try go_frame)
  refine wpAnyH_done (by kernel_rfl) ?_ _
  try simp only [QCut]
  go_wp2
  exact bodyPost_ret (v := .tuple #[.agg #[.bool (mkN (Z) eb), .string (bstr (mkX (Z) eb)), .int .i64 (mkE (Z) eb)], .int .i64 (mkR (Z) eb)]) (by simp [results, Tryz.results50, go_sem, c0, c1, c2]) rfl ⟨rfl, hbZ⟩
 ·have hne := Lib.hid hsame
  have ht : (na == nb) = false := by simpa using hsame
  clear hsame
  have hcmp := rcmp_any A1 A2 (Fil.dn 8 X) c1 X (Fil.dn 8 xb) c2 xb w2 rfl rfl (by omega) (by omega) hs1 hs2
  go_wp2_with fail
  (with_reducible refine hcmp.mono ?_)
  rintro r w3 ⟨rfl, n3, rfl⟩
  by_cases hge : xb ≤ X
  ·have HZ := Lib.hid (HE.out.2.1 hne.out hge)
   have HY := Lib.hid (Nat.le_trans HM.out.2.1 (show 40000 ≤ 393216 by omega))
   have hc0 : decide (0 ≤ cmpZ X xb) = true := by rw [decide_eq_true_eq]; unfold cmpZ; rw [if_neg (by omega)]; split <;> omega
   replace hk := Below.drewN' hk n3
   replace hs1 : Slc (w2.drewN n3) 3 A1 (Fil.dn 8 X) (i8 X) := hs1
   replace hs2 : Slc (w2.drewN n3) 3 A2 (Fil.dn 8 xb) (i8 xb) := hs2
   have hge2 := Lib.hid hge
   generalize hW : w2.drewN n3 = w2' at *
   clear hW hcmp a0 a1 a2 b0 b1 b2 hB hs hge
   obtain ⟨w2, hw2⟩ : ∃ w2, w2 = w2' := ⟨_, rfl⟩
   subst hw2
   obtain ⟨⟨a0, a1, a2, -, -, -⟩, ⟨b0, b1, b2, -, -, -⟩, -, hB, hs⟩ := dy_three w na sa ea nb sb eb hk
   go_wp2_with fail
   refine wp_region_cut 10 (by kernel_rfl) (by kernel_rfl) ?_
   rintro W rfl
   simp only [List.take_succ_cons, List.take_zero, List.drop_succ_cons, List.drop_zero]
   have hHeld : (fun w' : World => w'.cell? ⟨w.heap.size, 0, none⟩ = some (.bool na) ∧ w'.cell? ⟨w.heap.size, 1, none⟩ = some (.string sa) ∧ w'.cell? ⟨w.heap.size, 2, none⟩ = some (.int .i64 ea) ∧ w'.cell? ⟨w.heap.size + 1, 0, none⟩ = some (.bool nb) ∧ w'.cell? ⟨w.heap.size + 1, 1, none⟩ = some (.string sb) ∧ w'.cell? ⟨w.heap.size + 1, 2, none⟩ = some (.int .i64 eb)) (w2).drew := ⟨a0, a1, a2, b0, b1, b2⟩
   refine wpAny_of_held (S := fun w' : World => w'.cell? ⟨w.heap.size, 0, none⟩ = some (.bool na) ∧ w'.cell? ⟨w.heap.size, 1, none⟩ = some (.string sa) ∧ w'.cell? ⟨w.heap.size, 2, none⟩ = some (.int .i64 ea) ∧ w'.cell? ⟨w.heap.size + 1, 0, none⟩ = some (.bool nb) ∧ w'.cell? ⟨w.heap.size + 1, 1, none⟩ = some (.string sb) ∧ w'.cell? ⟨w.heap.size + 1, 2, none⟩ = some (.int .i64 eb)) _ _ _ _ ?_
   refine tkA 0 ?_
   (try dsimp only [Act.put]); (try go_frame)
   refine tkA 1 ?_
   (try dsimp only [Act.put]); (try go_frame)
   refine tkA 2 ?_
   (try dsimp only [Act.put]); (try go_frame)
   refine tkA 3 ?_
   (try dsimp only [Act.put]); (try go_frame)
   refine tkA 5 ?_
   (try dsimp only [Act.put]); (try go_frame)
   refine tkA 6 ?_
   (try dsimp only [Act.put]); (try go_frame)
   refine wpAnyH_ready (rs := [4]) (by kernel_rfl) (by simp) ?_
   refine AllReadyH.cons rfl (fun K hK => ?_) AllReadyH.nil
   go_simp
   (with_reducible refine (rminus_any A1 A2 (Fil.dn 8 X) c1 X (Fil.dn 8 xb) c2 xb _ rfl rfl hge2.out (by omega) hs1.drew hs2.drew).mono ?_)
   rintro r w3 ⟨A3, c3, rfl, hc3, hs3, hb3⟩
   clear a0 a1 a2 b0 b1 b2
   replace hk := hk.drew.trans (hb3.mono hs)
   clear hB hs
   obtain ⟨⟨a0, a1, a2, -, -, -⟩, ⟨b0, b1, b2, -, -, -⟩, -, hB, hs⟩ := dy_three w na sa ea nb sb eb hk
   refine hK.out _ _ ?_ (fun hHeld => ?_)
   ·exact ⟨a0, a1, a2, b0, b1, b2⟩
   clear hK K
   (try dsimp only [Act.put]); (try go_frame)
   have hfit := rfit_any na A3 _ c3 _ eb w3 rfl hc3 HY.out (by omega) (by omega) hs3
   rw [← HZ.out] at hfit
   refine wpAnyH_ready (rs := [7]) (by kernel_rfl) (by simp) ?_
   refine AllReadyH.cons rfl (fun K hK => ?_) AllReadyH.nil
   go_simp
   (with_reducible refine hfit.mono ?_)
   rintro r w4 ⟨rfl, hb4⟩
   clear a0 a1 a2 b0 b1 b2
   replace hk := hk.trans (hb4.mono hs)
   clear hB hs
   obtain ⟨⟨a0, a1, a2, -, -, -⟩, ⟨b0, b1, b2, -, -, -⟩, -, hB, hs⟩ := dy_three w na sa ea nb sb eb hk
   refine hK.out _ _ ?_ (fun hHeld => ?_)
   ·exact ⟨a0, a1, a2, b0, b1, b2⟩
   clear hK K
   (try dsimp only [Act.put]); (try go_frame)
   obtain ⟨-, -, ⟨c0, c1, c2, f0, f1, f2⟩, hB', -⟩ := dy_three w na sa ea nb sb eb hk
   have hbZ := dy_put3 (.bool (mkN (Z) eb)) (.string (bstr (mkX (Z) eb))) (.int .i64 (mkE (Z) eb)) hB'
   clear a0 a1 a2 b0 b1 b2 hk hB hs hB'
   clear hfit hb3 hb4 hs3
   unfold mkV dyR
   refine tkA 8 ?_
   (try dsimp only [Act.put]); (try go_frame)
   refine tkA 9 ?_
   (try dsimp only [Act.put]); (try go_frame)
   refine wpAnyH_done (by kernel_rfl) ?_ _
   try simp only [QCut]
   go_wp2
   exact bodyPost_ret (v := .tuple #[.agg #[.bool (mkN (Z) eb), .string (bstr (mkX (Z) eb)), .int .i64 (mkE (Z) eb)], .int .i64 (mkR (Z) eb)]) (by simp [results, Tryz.results50, go_sem, c0, c1, c2]) rfl ⟨rfl, hbZ⟩
  ·have HZ := Lib.hid (HE.out.2.2 hne.out (by omega))
   have HY := Lib.hid (Nat.le_trans HM.out.2.2 (show 40000 ≤ 393216 by omega))
   have hc0 : decide (0 ≤ cmpZ X xb) = false := by rw [decide_eq_false_iff_not]; unfold cmpZ; rw [if_pos (by omega)]; omega
   replace hk := Below.drewN' hk n3
   replace hs1 : Slc (w2.drewN n3) 3 A1 (Fil.dn 8 X) (i8 X) := hs1
   replace hs2 : Slc (w2.drewN n3) 3 A2 (Fil.dn 8 xb) (i8 xb) := hs2
   have hge2 := Lib.hid (show X ≤ xb by omega)
   generalize hW : w2.drewN n3 = w2' at *
   clear hW hcmp a0 a1 a2 b0 b1 b2 hB hs hge
   obtain ⟨w2, hw2⟩ : ∃ w2, w2 = w2' := ⟨_, rfl⟩
   subst hw2
   obtain ⟨⟨a0, a1, a2, -, -, -⟩, ⟨b0, b1, b2, -, -, -⟩, -, hB, hs⟩ := dy_three w na sa ea nb sb eb hk
   go_wp2_with fail
   refine wp_region_cut 10 (by kernel_rfl) (by kernel_rfl) ?_
   rintro W rfl
   simp only [List.take_succ_cons, List.take_zero, List.drop_succ_cons, List.drop_zero]
   have hHeld : (fun w' : World => w'.cell? ⟨w.heap.size, 0, none⟩ = some (.bool na) ∧ w'.cell? ⟨w.heap.size, 1, none⟩ = some (.string sa) ∧ w'.cell? ⟨w.heap.size, 2, none⟩ = some (.int .i64 ea) ∧ w'.cell? ⟨w.heap.size + 1, 0, none⟩ = some (.bool nb) ∧ w'.cell? ⟨w.heap.size + 1, 1, none⟩ = some (.string sb) ∧ w'.cell? ⟨w.heap.size + 1, 2, none⟩ = some (.int .i64 eb)) (w2).drew := ⟨a0, a1, a2, b0, b1, b2⟩
   refine wpAny_of_held (S := fun w' : World => w'.cell? ⟨w.heap.size, 0, none⟩ = some (.bool na) ∧ w'.cell? ⟨w.heap.size, 1, none⟩ = some (.string sa) ∧ w'.cell? ⟨w.heap.size, 2, none⟩ = some (.int .i64 ea) ∧ w'.cell? ⟨w.heap.size + 1, 0, none⟩ = some (.bool nb) ∧ w'.cell? ⟨w.heap.size + 1, 1, none⟩ = some (.string sb) ∧ w'.cell? ⟨w.heap.size + 1, 2, none⟩ = some (.int .i64 eb)) _ _ _ _ ?_
   refine tkA 0 ?_
   (try dsimp only [Act.put]); (try go_frame)
   refine tkA 1 ?_
   (try dsimp only [Act.put]); (try go_frame)
   refine tkA 2 ?_
   (try dsimp only [Act.put]); (try go_frame)
   refine tkA 3 ?_
   (try dsimp only [Act.put]); (try go_frame)
   refine tkA 5 ?_
   (try dsimp only [Act.put]); (try go_frame)
   refine tkA 6 ?_
   (try dsimp only [Act.put]); (try go_frame)
   refine wpAnyH_ready (rs := [4]) (by kernel_rfl) (by simp) ?_
   refine AllReadyH.cons rfl (fun K hK => ?_) AllReadyH.nil
   go_simp
   (with_reducible refine (rminus_any A2 A1 (Fil.dn 8 xb) c2 xb (Fil.dn 8 X) c1 X _ rfl rfl hge2.out (by omega) hs2.drew hs1.drew).mono ?_)
   rintro r w3 ⟨A3, c3, rfl, hc3, hs3, hb3⟩
   clear a0 a1 a2 b0 b1 b2
   replace hk := hk.drew.trans (hb3.mono hs)
   clear hB hs
   obtain ⟨⟨a0, a1, a2, -, -, -⟩, ⟨b0, b1, b2, -, -, -⟩, -, hB, hs⟩ := dy_three w na sa ea nb sb eb hk
   refine hK.out _ _ ?_ (fun hHeld => ?_)
   ·exact ⟨a0, a1, a2, b0, b1, b2⟩
   clear hK K
   (try dsimp only [Act.put]); (try go_frame)
   have hfit := rfit_any nb A3 _ c3 _ eb w3 rfl hc3 HY.out (by omega) (by omega) hs3
   rw [← HZ.out] at hfit
   refine wpAnyH_ready (rs := [7]) (by kernel_rfl) (by simp) ?_
   refine AllReadyH.cons rfl (fun K hK => ?_) AllReadyH.nil
   go_simp
   (with_reducible refine hfit.mono ?_)
   rintro r w4 ⟨rfl, hb4⟩
   clear a0 a1 a2 b0 b1 b2
   replace hk := hk.trans (hb4.mono hs)
   clear hB hs
   obtain ⟨⟨a0, a1, a2, -, -, -⟩, ⟨b0, b1, b2, -, -, -⟩, -, hB, hs⟩ := dy_three w na sa ea nb sb eb hk
   refine hK.out _ _ ?_ (fun hHeld => ?_)
   ·exact ⟨a0, a1, a2, b0, b1, b2⟩
   clear hK K
   (try dsimp only [Act.put]); (try go_frame)
   obtain ⟨-, -, ⟨c0, c1, c2, f0, f1, f2⟩, hB', -⟩ := dy_three w na sa ea nb sb eb hk
   have hbZ := dy_put3 (.bool (mkN (Z) eb)) (.string (bstr (mkX (Z) eb))) (.int .i64 (mkE (Z) eb)) hB'
   clear a0 a1 a2 b0 b1 b2 hk hB hs hB'
   clear hfit hb3 hb4 hs3
   unfold mkV dyR
   refine tkA 8 ?_
   (try dsimp only [Act.put]); (try go_frame)
   refine tkA 9 ?_
   (try dsimp only [Act.put]); (try go_frame)
   refine wpAnyH_done (by kernel_rfl) ?_ _
   try simp only [QCut]
   go_wp2
   exact bodyPost_ret (v := .tuple #[.agg #[.bool (mkN (Z) eb), .string (bstr (mkX (Z) eb)), .int .i64 (mkE (Z) eb)], .int .i64 (mkR (Z) eb)]) (by simp [results, Tryz.results50, go_sem, c0, c1, c2]) rfl ⟨rfl, hbZ⟩

theorem addZ_comm (za ea zb eb : Int) : addZ za ea zb eb = addZ zb eb za ea := by
 unfold addZ
 rw [show min ea eb = min eb ea by omega, Int.add_comm]
set_option maxHeartbeats 2000000 in
theorem radd_far (na : Bool) (xa : Nat) (ea : Int) (nb : Bool) (xb : Nat) (eb : Int) (w : World) (ha : okD na xa ea) (hb : okD nb xb eb) (hxa : xa ≠ 0) (hxb : xb ≠ 0) (_hle : eb ≤ ea) (hkk : 131080 < ea - eb) :
  Calls Tryz.prog 50 #[.agg #[.bool na, .string (bstr xa), .int .i64 ea], .agg #[.bool nb, .string (bstr xb), .int .i64 eb]] w fun r w' => r = .returned (mkV (addZ (sz na xa) ea (sz nb xb) eb) eb) ∧ Below w.heap.size w w' := by
 obtain ⟨p1, p2⟩ := bstr_ne hxa
 obtain ⟨q1, q2⟩ := bstr_ne hxb
 have ia1 := ha.e1
 have ia2 := ha.e2
 have ib1 := hb.e1
 have ib2 := hb.e2
 have hv := Lib.hid (mkV_bad (add_far ha hb hxa hxb (by omega) eb))
 clear ha hb hxa hxb
 go_enter Tryz.func50, Tryz.ntmps50
 go_wp2
 go_returns
 exact ⟨by rw [hv.out]; exact dyR_none ⟨rfl, rfl, rfl, rfl⟩, (((Below.refl _ _).alloc (Nat.le_refl _) _).alloc (by first | (simp; done) | (simp; omega)) _).alloc (by first | (simp; done) | (simp; omega)) _⟩
theorem radd_down (na : Bool) (xa : Nat) (ea : Int) (nb : Bool) (xb : Nat) (eb : Int) (w : World) (ha : okD na xa ea) (hb : okD nb xb eb) (hxa : xa ≠ 0) (hxb : xb ≠ 0) (hle : eb ≤ ea) :
  Calls Tryz.prog 50 #[.agg #[.bool na, .string (bstr xa), .int .i64 ea], .agg #[.bool nb, .string (bstr xb), .int .i64 eb]] w fun r w' => r = .returned (mkV (addZ (sz na xa) ea (sz nb xb) eb) eb) ∧ Below w.heap.size w w' := by
 by_cases h : ea - eb ≤ 131080
 ·exact radd_ge na xa ea nb xb eb (ea - eb).toNat w ha hb hxa hxb hle (by omega) (by omega)
 ·exact radd_far na xa ea nb xb eb w ha hb hxa hxb hle (by omega)
set_option maxHeartbeats 2000000 in
theorem radd_up (na : Bool) (xa : Nat) (ea : Int) (nb : Bool) (xb : Nat) (eb : Int) (w : World) (ha : okD na xa ea) (hb : okD nb xb eb) (hxa : xa ≠ 0) (hxb : xb ≠ 0) (hlt : ea < eb) :
  Calls Tryz.prog 50 #[.agg #[.bool na, .string (bstr xa), .int .i64 ea], .agg #[.bool nb, .string (bstr xb), .int .i64 eb]] w fun r w' => r = .returned (mkV (addZ (sz na xa) ea (sz nb xb) eb) ea) ∧ Below w.heap.size w w' := by
 obtain ⟨p1, p2⟩ := bstr_ne hxa
 obtain ⟨q1, q2⟩ := bstr_ne hxb
 have hsw := fun W => radd_down nb xb eb na xa ea W hb ha hxb hxa (by omega)
 rw [addZ_comm] at hsw
 unfold mkV dyR at *
 generalize addZ (sz na xa) ea (sz nb xb) eb = Z at *
 generalize bstr xa = sa at *
 generalize bstr xb = sb at *
 clear ha hb hxa hxb
 go_enter Tryz.func50, Tryz.ntmps50
 go_wp2_with fail
 (with_reducible refine (hsw _).mono ?_)
 rintro r w1 ⟨rfl, hb1⟩
 obtain ⟨-, -, ⟨c0, c1, c2, f0, f1, f2⟩, hB, -⟩ := dy_three w na sa ea nb sb eb (hb1.mono (by first | (simp; done) | (simp; omega)))
 have hbZ := dy_put3 (.bool (mkN Z ea)) (.string (bstr (mkX Z ea))) (.int .i64 (mkE Z ea)) hB
 clear hb1 hB hsw
 go_wp2
 exact bodyPost_ret (v := .tuple #[.agg #[.bool (mkN Z ea), .string (bstr (mkX Z ea)), .int .i64 (mkE Z ea)], .int .i64 (mkR Z ea)]) (by simp [results, Tryz.results50, go_sem, c0, c1, c2]) rfl ⟨rfl, hbZ⟩
set_option maxHeartbeats 2000000 in
theorem radd_any (na : Bool) (xa : Nat) (ea : Int) (nb : Bool) (xb : Nat) (eb : Int) (w : World) (ha : okD na xa ea) (hb : okD nb xb eb) :
  Calls Tryz.prog 50 #[.agg #[.bool na, .string (bstr xa), .int .i64 ea], .agg #[.bool nb, .string (bstr xb), .int .i64 eb]] w fun r w' => r = .returned (mkV (addZ (sz na xa) ea (sz nb xb) eb) (min ea eb)) ∧ Below w.heap.size w w' := by
 by_cases hxa : xa = 0
 ·subst hxa
  have h1 := bstr_nil
  have hv := Lib.hid (add_zero_left (ea := ea) hb)
  rw [sz_zero]
  clear ha hb
  go_enter Tryz.func50, Tryz.ntmps50
  go_wp2
  go_returns
  exact ⟨by rw [hv.out]; rfl, (((Below.refl _ _).alloc (Nat.le_refl _) _).alloc (by first | (simp; done) | (simp; omega)) _).alloc (by first | (simp; done) | (simp; omega)) _⟩
 ·by_cases hxb : xb = 0
  ·subst hxb
   have h1 := bstr_nil
   obtain ⟨p1, p2⟩ := bstr_ne hxa
   have hv := Lib.hid (add_zero_right (eb := eb) ha)
   rw [sz_zero]
   clear ha hb
   go_enter Tryz.func50, Tryz.ntmps50
   go_wp2
   go_returns
   exact ⟨by rw [hv.out]; rfl, (((Below.refl _ _).alloc (Nat.le_refl _) _).alloc (by first | (simp; done) | (simp; omega)) _).alloc (by first | (simp; done) | (simp; omega)) _⟩
  ·by_cases hle : eb ≤ ea
   ·rw [show min ea eb = eb by omega]; exact radd_down na xa ea nb xb eb w ha hb hxa hxb hle
   ·rw [show min ea eb = ea by omega]; exact radd_up na xa ea nb xb eb w ha hb hxa hxb (by omega)
end Go.Proofs.YtfdnbogbankjjaaGreatDoor

/- The walks over the reference's Sub, Mul. -/
namespace Go.Proofs.YtfdnbogbankjjaaGreatDoor
open Go Go.RowKit Go.PlainAid Fil

theorem sz_mul (a b : Bool) (x y : Nat) : sz (a != b) (x * y) = sz a x * sz b y := by
 unfold sz; cases a <;> cases b <;> simp [Int.mul_neg, Int.neg_mul]
theorem dn8_mulB {a b : Nat} (ha : Fil.dn 8 a ≤ 16384) (hb : Fil.dn 8 b ≤ 16384) : Fil.dn 8 (a * b) ≤ 32768 := (dn32_mul ha hb).2
set_option maxHeartbeats 2000000 in
theorem rmul_nil (na : Bool) (xa : Nat) (ea : Int) (nb : Bool) (xb : Nat) (eb : Int) (w : World) (h : xa = 0 ∨ xb = 0) :
  Calls Tryz.prog 48 #[.agg #[.bool na, .string (bstr xa), .int .i64 ea], .agg #[.bool nb, .string (bstr xb), .int .i64 eb]] w fun r w' => r = .returned (mkV (sz na xa * sz nb xb) (ea + eb)) ∧ Below w.heap.size w w' := by
 have hv : Hid (mkV (sz na xa * sz nb xb) (ea + eb) = dyR false 0 0 0) := Lib.hid (by
  rcases h with rfl | rfl
  ·rw [sz_zero, Int.zero_mul, mkV_zero]
  ·rw [sz_zero, Int.mul_zero, mkV_zero])
 have h1 := bstr_nil
 by_cases hxa : xa = 0
 ·subst hxa
  clear h
  go_enter Tryz.func48, Tryz.ntmps48
  go_wp2
  go_returns
  exact ⟨by rw [hv.out]; exact dyR_none ⟨rfl, rfl, rfl, rfl⟩, (((Below.refl _ _).alloc (Nat.le_refl _) _).alloc (by first | (simp; done) | (simp; omega)) _).alloc (by first | (simp; done) | (simp; omega)) _⟩
 ·obtain rfl : xb = 0 := by omega
  obtain ⟨p1, p2⟩ := bstr_ne hxa
  clear h
  go_enter Tryz.func48, Tryz.ntmps48
  go_wp2
  go_returns
  exact ⟨by rw [hv.out]; exact dyR_none ⟨rfl, rfl, rfl, rfl⟩, (((Below.refl _ _).alloc (Nat.le_refl _) _).alloc (by first | (simp; done) | (simp; omega)) _).alloc (by first | (simp; done) | (simp; omega)) _⟩

set_option maxRecDepth 100000 in
set_option maxHeartbeats 4000000 in
theorem rmul_ne (na : Bool) (xa : Nat) (ea : Int) (nb : Bool) (xb : Nat) (eb : Int) (w : World) (ha : okD na xa ea) (hb : okD nb xb eb) (hxa : xa ≠ 0) (hxb : xb ≠ 0) :
  Calls Tryz.prog 48 #[.agg #[.bool na, .string (bstr xa), .int .i64 ea], .agg #[.bool nb, .string (bstr xb), .int .i64 eb]] w fun r w' => r = .returned (mkV (sz na xa * sz nb xb) (ea + eb)) ∧ Below w.heap.size w w' := by
 obtain ⟨p1, p2⟩ := bstr_ne hxa
 obtain ⟨q1, q2⟩ := bstr_ne hxb
 have ia1 := ha.e1
 have ia2 := ha.e2
 have ib1 := hb.e1
 have ib2 := hb.e2
 have hra := fun W => rof_any xa W (by have := ha.dn; omega)
 have hrb := fun W => rof_any xb W (by have := hb.dn; omega)
 have hna := ha.dn
 have hnb := hb.dn
 have HY := Lib.hid (Nat.le_trans (dn8_mulB hna hnb) (show 32768 ≤ 393216 by omega))
 obtain ⟨Z, hZ⟩ : ∃ Z, Z = sz na xa * sz nb xb := ⟨_, rfl⟩
 rw [← hZ]
 rw [← sz_mul, show (na != nb) = !(na == nb) from rfl] at hZ
 have HZ := Lib.hid hZ
 obtain ⟨E, hE⟩ : ∃ E, E = ea + eb := ⟨_, rfl⟩
 rw [← hE]
 have hE' := hE.symm
 have W1 : IntKind.i64.wrap E = E := IntWalk.i64_in _ (by omega)
 have HE : -9223372036854775808 ≤ E ∧ E ≤ 9223372036854775807 := by omega
 clear hE
 generalize bstr xa = sa at *
 generalize bstr xb = sb at *
 clear ha hb hxa hxb hZ
 have hk : Below (w.heap.size + 1 + 1 + 1) (((w.alloc (.cells #[.bool na, .string sa, .int .i64 ea] 38)).alloc (.cells #[.bool nb, .string sb, .int .i64 eb] 38)).alloc (.cells #[.bool false, .string { data := #[] }, .int .i64 0] 38)) (((w.alloc (.cells #[.bool na, .string sa, .int .i64 ea] 38)).alloc (.cells #[.bool nb, .string sb, .int .i64 eb] 38)).alloc (.cells #[.bool false, .string { data := #[] }, .int .i64 0] 38)) := Below.refl _ _
 obtain ⟨⟨a0, a1, a2, -, -, -⟩, ⟨b0, b1, b2, -, -, -⟩, -, hB, hs⟩ := dy_three w na sa ea nb sb eb hk
 go_enter Tryz.func48, Tryz.ntmps48
 go_wp2_with fail
 refine wp_region_cut 20 (by kernel_rfl) (by kernel_rfl) ?_
 rintro W rfl
 simp only [List.take_succ_cons, List.take_zero, List.drop_succ_cons, List.drop_zero]
 have hHeld : (fun w' : World => w'.cell? ⟨w.heap.size, 0, none⟩ = some (.bool na) ∧ w'.cell? ⟨w.heap.size, 1, none⟩ = some (.string sa) ∧ w'.cell? ⟨w.heap.size, 2, none⟩ = some (.int .i64 ea) ∧ w'.cell? ⟨w.heap.size + 1, 0, none⟩ = some (.bool nb) ∧ w'.cell? ⟨w.heap.size + 1, 1, none⟩ = some (.string sb) ∧ w'.cell? ⟨w.heap.size + 1, 2, none⟩ = some (.int .i64 eb)) (((w.alloc (.cells #[.bool na, .string sa, .int .i64 ea] 38)).alloc (.cells #[.bool nb, .string sb, .int .i64 eb] 38)).alloc (.cells #[.bool false, .string { data := #[] }, .int .i64 0] 38)).drew := ⟨a0, a1, a2, b0, b1, b2⟩
 refine wpAny_of_held (S := fun w' : World => w'.cell? ⟨w.heap.size, 0, none⟩ = some (.bool na) ∧ w'.cell? ⟨w.heap.size, 1, none⟩ = some (.string sa) ∧ w'.cell? ⟨w.heap.size, 2, none⟩ = some (.int .i64 ea) ∧ w'.cell? ⟨w.heap.size + 1, 0, none⟩ = some (.bool nb) ∧ w'.cell? ⟨w.heap.size + 1, 1, none⟩ = some (.string sb) ∧ w'.cell? ⟨w.heap.size + 1, 2, none⟩ = some (.int .i64 eb)) _ _ _ _ ?_
 refine tkA 0 ?_
 (try dsimp only [Act.put]); (try go_frame)
 refine tkA 1 ?_
 (try dsimp only [Act.put]); (try go_frame)
 refine tkA 2 ?_
 (try dsimp only [Act.put]); (try go_frame)
 refine tkA 3 ?_
 (try dsimp only [Act.put]); (try go_frame)
 refine tkA 4 ?_
 (try dsimp only [Act.put]); (try go_frame)
 refine tkA 5 ?_
 (try dsimp only [Act.put]); (try go_frame)
 refine tkA 6 ?_
 (try dsimp only [Act.put]); (try go_frame)
 refine tkA 8 ?_
 (try dsimp only [Act.put]); (try go_frame)
 refine tkA 9 ?_
 (try dsimp only [Act.put]); (try go_frame)
 refine tkA 12 ?_
 (try dsimp only [Act.put]); (try go_frame)
 refine tkA 13 ?_
 (try dsimp only [Act.put]); (try go_frame)
 refine tkA 14 ?_
 (try dsimp only [Act.put]); (try go_frame)
 refine tkA 15 ?_
 (try dsimp only [Act.put]); (try go_frame)
 refine tkA 16 ?_
 (try dsimp only [Act.put]); (try go_frame)
 refine wpAnyH_ready (rs := [7]) (by kernel_rfl) (by simp) ?_
 refine AllReadyH.cons rfl (fun K hK => ?_) AllReadyH.nil
 go_simp
 (with_reducible refine (hra _).mono ?_)
 rintro r w0 ⟨v, rfl, hown, hb0⟩
 obtain ⟨A, c, rfl, hnc, hsl⟩ := Own.slc hown
 have hs0 : Slc w0 3 A (Fil.dn 8 xa) (i8 xa) := hsl
 clear hown hsl
 clear a0 a1 a2 b0 b1 b2
 replace hk := hk.drew.trans (hb0.mono hs)
 clear hB hs
 obtain ⟨⟨a0, a1, a2, -, -, -⟩, ⟨b0, b1, b2, -, -, -⟩, -, hB, hs⟩ := dy_three w na sa ea nb sb eb hk
 refine hK.out _ _ ?_ (fun hHeld => ?_)
 ·exact ⟨a0, a1, a2, b0, b1, b2⟩
 clear hK K
 (try dsimp only [Act.put]); (try go_frame)
 refine wpAnyH_ready (rs := [10]) (by kernel_rfl) (by simp) ?_
 refine AllReadyH.cons rfl (fun K hK => ?_) AllReadyH.nil
 go_simp
 (with_reducible refine (hrb _).mono ?_)
 rintro r w1 ⟨v, rfl, hown, hb1⟩
 obtain ⟨A1, c1, rfl, hnc1, hsl⟩ := Own.slc hown
 have hs1 : Slc w1 3 A1 (Fil.dn 8 xb) (i8 xb) := hsl
 replace hs0 := hs0.below hb1
 clear hown hsl hrb hra
 clear a0 a1 a2 b0 b1 b2
 replace hk := hk.trans (hb1.mono hs)
 clear hB hs
 obtain ⟨⟨a0, a1, a2, -, -, -⟩, ⟨b0, b1, b2, -, -, -⟩, -, hB, hs⟩ := dy_three w na sa ea nb sb eb hk
 refine hK.out _ _ ?_ (fun hHeld => ?_)
 ·exact ⟨a0, a1, a2, b0, b1, b2⟩
 clear hK K
 (try dsimp only [Act.put]); (try go_frame)
 refine wpAnyH_ready (rs := [11]) (by kernel_rfl) (by simp) ?_
 refine AllReadyH.cons rfl (fun K hK => ?_) AllReadyH.nil
 go_simp
 (with_reducible refine (rtimes_any A A1 (Fil.dn 8 xa) c xa (Fil.dn 8 xb) c1 xb _ rfl rfl (by omega) (by omega) hs0 hs1).mono ?_)
 rintro r w2 ⟨A2, c2, rfl, hc2, hs2, hb2⟩
 clear hs0 hs1
 clear a0 a1 a2 b0 b1 b2
 replace hk := hk.trans (hb2.mono hs)
 clear hB hs
 obtain ⟨⟨a0, a1, a2, -, -, -⟩, ⟨b0, b1, b2, -, -, -⟩, -, hB, hs⟩ := dy_three w na sa ea nb sb eb hk
 refine hK.out _ _ ?_ (fun hHeld => ?_)
 ·exact ⟨a0, a1, a2, b0, b1, b2⟩
 clear hK K
 (try dsimp only [Act.put]); (try go_frame)
 have hfit := rfit_any (!(na == nb)) A2 _ c2 _ E w2 rfl hc2 HY.out HE.1 HE.2 hs2
 rw [← HZ.out] at hfit
 refine wpAnyH_ready (rs := [17]) (by kernel_rfl) (by simp) ?_
 refine AllReadyH.cons rfl (fun K hK => ?_) AllReadyH.nil
 go_simp
 (with_reducible refine hfit.mono ?_)
 rintro r w3 ⟨rfl, hb3⟩
 clear a0 a1 a2 b0 b1 b2
 replace hk := hk.trans (hb3.mono hs)
 clear hB hs
 obtain ⟨⟨a0, a1, a2, -, -, -⟩, ⟨b0, b1, b2, -, -, -⟩, -, hB, hs⟩ := dy_three w na sa ea nb sb eb hk
 refine hK.out _ _ ?_ (fun hHeld => ?_)
 ·exact ⟨a0, a1, a2, b0, b1, b2⟩
 clear hK K
 (try dsimp only [Act.put]); (try go_frame)
 obtain ⟨-, -, ⟨c0, c1, c2, f0, f1, f2⟩, hB', -⟩ := dy_three w na sa ea nb sb eb hk
 have hbZ := dy_put3 (.bool (mkN (Z) E)) (.string (bstr (mkX (Z) E))) (.int .i64 (mkE (Z) E)) hB'
 clear a0 a1 a2 b0 b1 b2 hk hB hs hB'
 clear hfit hb0 hb1 hb2 hb3 hs2
 unfold mkV dyR
 refine tkA 18 ?_
 (try dsimp only [Act.put]); (try go_frame)
 refine tkA 19 ?_
 (try dsimp only [Act.put]); (try go_frame)
 refine wpAnyH_done (by kernel_rfl) ?_ _
 try simp only [QCut]
 go_wp2
 exact bodyPost_ret (v := .tuple #[.agg #[.bool (mkN (Z) E), .string (bstr (mkX (Z) E)), .int .i64 (mkE (Z) E)], .int .i64 (mkR (Z) E)]) (by simp [results, Tryz.results48, go_sem, c0, c1, c2]) rfl ⟨rfl, hbZ⟩
theorem rmul_any (na : Bool) (xa : Nat) (ea : Int) (nb : Bool) (xb : Nat) (eb : Int) (w : World) (ha : okD na xa ea) (hb : okD nb xb eb) :
  Calls Tryz.prog 48 #[.agg #[.bool na, .string (bstr xa), .int .i64 ea], .agg #[.bool nb, .string (bstr xb), .int .i64 eb]] w fun r w' => r = .returned (mkV (sz na xa * sz nb xb) (ea + eb)) ∧ Below w.heap.size w w' := by
 by_cases hxa : xa = 0
 ·exact rmul_nil na xa ea nb xb eb w (.inl hxa)
 ·by_cases hxb : xb = 0
  ·exact rmul_nil na xa ea nb xb eb w (.inr hxb)
  ·exact rmul_ne na xa ea nb xb eb w ha hb hxa hxb

set_option maxHeartbeats 4000000 in
theorem rsub_any (na : Bool) (xa : Nat) (ea : Int) (nb : Bool) (xb : Nat) (eb : Int) (w : World) (ha : okD na xa ea) (hb : okD nb xb eb) :
  Calls Tryz.prog 49 #[.agg #[.bool na, .string (bstr xa), .int .i64 ea], .agg #[.bool nb, .string (bstr xb), .int .i64 eb]] w fun r w' => r = .returned (mkV (addZ (sz na xa) ea (-sz nb xb) eb) (min ea eb)) ∧ Below w.heap.size w w' := by
 have hng := fun W => rneg_ok nb xb eb W hb
 unfold dyN at hng
 have had := fun W => radd_any na xa ea (!nb && decide (xb ≠ 0)) xb eb W ha hb.neg
 rw [sz_neg] at had
 generalize (!nb && decide (xb ≠ 0)) = nn at *
 generalize addZ (sz na xa) ea (-sz nb xb) eb = Z at *
 generalize min ea eb = lo at *
 generalize bstr xa = sa at *
 generalize bstr xb = sb at *
 clear ha hb
 have hk : Below (w.heap.size + 1 + 1 + 1) (((w.alloc (.cells #[.bool na, .string sa, .int .i64 ea] 38)).alloc (.cells #[.bool nb, .string sb, .int .i64 eb] 38)).alloc (.cells #[.bool false, .string { data := #[] }, .int .i64 0] 38)) (((w.alloc (.cells #[.bool na, .string sa, .int .i64 ea] 38)).alloc (.cells #[.bool nb, .string sb, .int .i64 eb] 38)).alloc (.cells #[.bool false, .string { data := #[] }, .int .i64 0] 38)) := Below.refl _ _
 obtain ⟨⟨a0, a1, a2, -, -, -⟩, ⟨b0, b1, b2, -, -, -⟩, -, hB, hs⟩ := dy_three w na sa ea nb sb eb hk
 go_enter Tryz.func49, Tryz.ntmps49
 go_wp2_with fail
 refine wp_region_cut 6 (by kernel_rfl) (by kernel_rfl) ?_
 rintro W rfl
 simp only [List.take_succ_cons, List.take_zero, List.drop_succ_cons, List.drop_zero]
 have hHeld : (fun w' : World => w'.cell? ⟨w.heap.size, 0, none⟩ = some (.bool na) ∧ w'.cell? ⟨w.heap.size, 1, none⟩ = some (.string sa) ∧ w'.cell? ⟨w.heap.size, 2, none⟩ = some (.int .i64 ea) ∧ w'.cell? ⟨w.heap.size + 1, 0, none⟩ = some (.bool nb) ∧ w'.cell? ⟨w.heap.size + 1, 1, none⟩ = some (.string sb) ∧ w'.cell? ⟨w.heap.size + 1, 2, none⟩ = some (.int .i64 eb)) (((w.alloc (.cells #[.bool na, .string sa, .int .i64 ea] 38)).alloc (.cells #[.bool nb, .string sb, .int .i64 eb] 38)).alloc (.cells #[.bool false, .string { data := #[] }, .int .i64 0] 38)).drew := ⟨a0, a1, a2, b0, b1, b2⟩
 refine wpAny_of_held (S := fun w' : World => w'.cell? ⟨w.heap.size, 0, none⟩ = some (.bool na) ∧ w'.cell? ⟨w.heap.size, 1, none⟩ = some (.string sa) ∧ w'.cell? ⟨w.heap.size, 2, none⟩ = some (.int .i64 ea) ∧ w'.cell? ⟨w.heap.size + 1, 0, none⟩ = some (.bool nb) ∧ w'.cell? ⟨w.heap.size + 1, 1, none⟩ = some (.string sb) ∧ w'.cell? ⟨w.heap.size + 1, 2, none⟩ = some (.int .i64 eb)) _ _ _ _ ?_
 refine tkA 0 ?_
 (try dsimp only [Act.put]); (try go_frame)
 refine tkA 1 ?_
 (try dsimp only [Act.put]); (try go_frame)
 refine wpAnyH_ready (rs := [2]) (by kernel_rfl) (by simp) ?_
 refine AllReadyH.cons rfl (fun K hK => ?_) AllReadyH.nil
 go_simp
 (with_reducible refine (hng _).mono ?_)
 rintro r w2 ⟨rfl, hb2⟩
 clear a0 a1 a2 b0 b1 b2
 replace hk := hk.drew.trans (hb2.mono hs)
 clear hB hs
 obtain ⟨⟨a0, a1, a2, -, -, -⟩, ⟨b0, b1, b2, -, -, -⟩, -, hB, hs⟩ := dy_three w na sa ea nb sb eb hk
 refine hK.out _ _ ?_ (fun hHeld => ?_)
 ·exact ⟨a0, a1, a2, b0, b1, b2⟩
 clear hK K
 (try dsimp only [Act.put]); (try go_frame)
 refine wpAnyH_ready (rs := [3]) (by kernel_rfl) (by simp) ?_
 refine AllReadyH.cons rfl (fun K hK => ?_) AllReadyH.nil
 go_simp
 (with_reducible refine (had _).mono ?_)
 rintro r w3 ⟨rfl, hb3⟩
 clear a0 a1 a2 b0 b1 b2
 replace hk := hk.trans (hb3.mono hs)
 clear hB hs
 obtain ⟨⟨a0, a1, a2, -, -, -⟩, ⟨b0, b1, b2, -, -, -⟩, -, hB, hs⟩ := dy_three w na sa ea nb sb eb hk
 refine hK.out _ _ ?_ (fun hHeld => ?_)
 ·exact ⟨a0, a1, a2, b0, b1, b2⟩
 clear hK K
 (try dsimp only [Act.put]); (try go_frame)
 obtain ⟨-, -, ⟨c0, c1, c2, f0, f1, f2⟩, hB', -⟩ := dy_three w na sa ea nb sb eb hk
 have hbZ := dy_put3 (.bool (mkN (Z) lo)) (.string (bstr (mkX (Z) lo))) (.int .i64 (mkE (Z) lo)) hB'
 clear a0 a1 a2 b0 b1 b2 hk hB hs hB'
 clear hng had hb2 hb3
 unfold mkV dyR
 refine tkA 4 ?_
 (try dsimp only [Act.put]); (try go_frame)
 refine tkA 5 ?_
 (try dsimp only [Act.put]); (try go_frame)
 refine wpAnyH_done (by kernel_rfl) ?_ _
 try simp only [QCut]
 go_wp2
 exact bodyPost_ret (v := .tuple #[.agg #[.bool (mkN (Z) lo), .string (bstr (mkX (Z) lo)), .int .i64 (mkE (Z) lo)], .int .i64 (mkR (Z) lo)]) (by simp [results, Tryz.results49, go_sem, c0, c1, c2]) rfl ⟨rfl, hbZ⟩
end Go.Proofs.YtfdnbogbankjjaaGreatDoor
