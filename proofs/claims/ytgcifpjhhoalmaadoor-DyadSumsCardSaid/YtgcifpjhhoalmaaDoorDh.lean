/- The walks over dyad.Of, Add. -/
import Derived.Test.YtgcifpjhhoalmaaDoorMk
namespace Go.Proofs.YtgcifpjhhoalmaaDoor
open Go Go.RowKit Go.PlainAid Fil

set_option maxHeartbeats 1000000 in
theorem dof_any (z e : Int) (w : World) (hT : Tab w) (h0 : -9223372036854775808 ≤ z) (h1 : z ≤ 9223372036854775807) (he1 : -9223372036854775808 ≤ e) (he2 : e ≤ 9223372036854775807) :
    Calls Tryd.prog 52 #[.int .i64 z, .int .i64 e] w fun r w' => r = .returned (mkV z e) ∧ Below w.heap.size w w' := by
  have hT' := hT.alloc (Obj.cells #[.bool false, .string { data := #[] }, .int .i64 0] 24)
  have hd : Fil.dn 32 z.natAbs ≤ 2 := dn_le (by omega) (by omega)
  go_enter Tryd.func52, Tryd.ntmps52
  go_wp2_with fail
  refine (newint_any z _ h0 h1).mono ?_
  rintro r w1 ⟨rfl, hI, hb1⟩
  have hs1 : (w.alloc (Obj.cells #[.bool false, .string { data := #[] }, .int .i64 0] 24)).heap.size = w.heap.size + 1 := by simp
  have hT1 := hT'.below hb1
  rw [hs1] at hI hb1
  go_wp2_with fail
  refine (made_any _ 0 z e w1 hI (by omega) hT1 he1 he2).mono ?_
  rintro r w2 ⟨rfl, hb2⟩
  obtain ⟨c0, c1, c2, f0, f1, f2⟩ := DyAt.new w w.heap.size false { data := #[] } 0 rfl (hb1.trans (hb2.mono hb1.size |>.mono (by omega)))
  have hB : Below w.heap.size w w2 := ((Below.refl _ _).alloc (Nat.le_refl _) _).trans ((hb1.mono (by omega)).trans (hb2.mono (by have := hb1.size; omega)))
  have hbZ : Below w.heap.size w (((w2.setCell ⟨w.heap.size, 0, none⟩ (.bool (mkN z e))).setCell ⟨w.heap.size, 1, none⟩ (.string (bstr (mkX z e)))).setCell ⟨w.heap.size, 2, none⟩ (.int .i64 (mkE z e))) := ((hB.setCell (Nat.le_refl _) _).setCell (Nat.le_refl _) _).setCell (Nat.le_refl _) _
  clear hb1 hb2 hB hI hT1 hT' hd
  unfold dyR
  go_wp2
  exact bodyPost_ret (v := .tuple #[.agg #[.bool (mkN z e), .string (bstr (mkX z e)), .int .i64 (mkE z e)], .int .i64 (mkR z e)]) (by simp [results, Tryd.results52, go_sem, c0, c1, c2]) rfl ⟨rfl, hbZ⟩

/-- the blocks of a call of two Dyads and one to answer -/
theorem dy_three (w : World) (na : Bool) (sa : ByteArray) (ea : Int) (nb : Bool) (sb : ByteArray) (eb : Int) {w' : World}
    (h : Below (w.heap.size + 1 + 1 + 1) (((w.alloc (.cells #[.bool na, .string sa, .int .i64 ea] 24)).alloc (.cells #[.bool nb, .string sb, .int .i64 eb] 24)).alloc (.cells #[.bool false, .string { data := #[] }, .int .i64 0] 24)) w') :
    DyAt w' w.heap.size na sa ea ∧ DyAt w' (w.heap.size + 1) nb sb eb ∧ DyAt w' (w.heap.size + 1 + 1) false { data := #[] } 0 ∧ Below w.heap.size w w' ∧ w.heap.size + 1 + 1 + 1 ≤ w'.heap.size := by
  have s1 : (w.alloc (.cells #[.bool na, .string sa, .int .i64 ea] 24)).heap.size = w.heap.size + 1 := by simp
  have s2 : ((w.alloc (.cells #[.bool na, .string sa, .int .i64 ea] 24)).alloc (.cells #[.bool nb, .string sb, .int .i64 eb] 24)).heap.size = w.heap.size + 1 + 1 := by simp
  have s3 : (((w.alloc (.cells #[.bool na, .string sa, .int .i64 ea] 24)).alloc (.cells #[.bool nb, .string sb, .int .i64 eb] 24)).alloc (.cells #[.bool false, .string { data := #[] }, .int .i64 0] 24)).heap.size = w.heap.size + 1 + 1 + 1 := by simp
  have h2 := ((Below.refl (w.heap.size + 1 + 1) _).alloc (by rw [s2]; exact Nat.le_refl _) (.cells #[.bool false, .string { data := #[] }, .int .i64 0] 24)).trans (h.mono (by omega))
  have h3 := ((Below.refl (w.heap.size + 1) _).alloc (by rw [s1]; exact Nat.le_refl _) (.cells #[.bool nb, .string sb, .int .i64 eb] 24)).trans (h2.mono (by omega))
  have hs := h.size
  rw [s3] at hs
  exact ⟨DyAt.new w _ na sa ea rfl h3, DyAt.new _ _ nb sb eb s1 h2, DyAt.new _ _ false _ 0 s2 h, ((Below.refl _ _).alloc (Nat.le_refl _) _).trans (h3.mono (by omega)), hs⟩

/-- two Dyads in a slice -/
theorem dys_two (W : World) (B : Nat) (hB : W.heap.size = B) (na : Bool) (sa : ByteArray) (ea : Int) (nb : Bool) (sb : ByteArray) (eb : Int) :
    Dys (W.alloc (.cells #[.bool na, .string sa, .int .i64 ea, .bool nb, .string sb, .int .i64 eb] 24)) (some ⟨B, 0, none⟩) 2 (fun i => if i = 0 then na else nb) (fun i => if i = 0 then sa else sb) (fun i => if i = 0 then ea else eb) := fun _ => by
  subst hB
  refine ⟨W.heap.size, 0, rfl, by simp, fun i hi => ?_⟩
  have hc := heap_alloc_new W (.cells #[.bool na, .string sa, .int .i64 ea, .bool nb, .string sb, .int .i64 eb] 24)
  rcases (show i = 0 ∨ i = 1 by omega) with rfl | rfl
  · exact ⟨by rw [cell_of_row _ W.heap.size _ _ 24 (0, 0) hc]; rfl, by rw [cell_of_row _ W.heap.size _ _ 24 (0, 0) hc]; rfl, by rw [cell_of_row _ W.heap.size _ _ 24 (0, 0) hc]; rfl⟩
  · exact ⟨by rw [cell_of_row _ W.heap.size _ _ 24 (0, 0) hc]; rfl, by rw [cell_of_row _ W.heap.size _ _ 24 (0, 0) hc]; rfl, by rw [cell_of_row _ W.heap.size _ _ 24 (0, 0) hc]; rfl⟩
theorem allB_two (f : Nat → Bool) : allB 2 f = (f 0 && f 1) := by
  show (f 0 && (f 1 && true)) = _
  rw [Bool.and_true]
/-- the call of all over two Dyads in blocks of their own, behind a call's opening -/
theorem all_two (w : World) (na : Bool) (sa : ByteArray) (ea : Int) (nb : Bool) (sb : ByteArray) (eb : Int) (hsa : sa.size ≤ 9223372036854775807) (hsb : sb.size ≤ 9223372036854775807) :
    Calls Tryd.prog 105 #[.slice (some ⟨w.heap.size + 1 + 1 + 1, 0, none⟩) 2 2] ((((w.alloc (.cells #[.bool na, .string sa, .int .i64 ea] 24)).alloc (.cells #[.bool nb, .string sb, .int .i64 eb] 24)).alloc (.cells #[.bool false, .string { data := #[] }, .int .i64 0] 24)).alloc (.cells #[.bool na, .string sa, .int .i64 ea, .bool nb, .string sb, .int .i64 eb] 24)) fun r w' =>
      r = .returned (.bool (mayB na sa ea && mayB nb sb eb)) ∧ Below (w.heap.size + 1 + 1 + 1) (((w.alloc (.cells #[.bool na, .string sa, .int .i64 ea] 24)).alloc (.cells #[.bool nb, .string sb, .int .i64 eb] 24)).alloc (.cells #[.bool false, .string { data := #[] }, .int .i64 0] 24)) w' := by
  have s3 : (((w.alloc (.cells #[.bool na, .string sa, .int .i64 ea] 24)).alloc (.cells #[.bool nb, .string sb, .int .i64 eb] 24)).alloc (.cells #[.bool false, .string { data := #[] }, .int .i64 0] 24)).heap.size = w.heap.size + 1 + 1 + 1 := by simp
  have h := all_any _ 2 2 _ _ _ _ (by omega) (dys_two _ _ s3 na sa ea nb sb eb) (fun i _ => by by_cases e : i = 0 <;> simp only [e, if_true, if_false] <;> assumption)
  refine h.mono ?_
  rintro r w' ⟨rfl, hb⟩
  refine ⟨?_, ((Below.refl _ _).alloc (by omega) _).trans (hb.mono (by simp))⟩
  rw [allB_two]; rfl

set_option maxHeartbeats 1000000 in
theorem dadd_bad (na : Bool) (sa : ByteArray) (ea : Int) (nb : Bool) (sb : ByteArray) (eb : Int) (w : World) (h : (mayB na sa ea && mayB nb sb eb) = false) (hsa : sa.size ≤ 9223372036854775807) (hsb : sb.size ≤ 9223372036854775807) :
    Calls Tryd.prog 51 #[.agg #[.bool na, .string sa, .int .i64 ea], .agg #[.bool nb, .string sb, .int .i64 eb]] w fun r w' => r = .returned (dyR false 0 0 2) ∧ Below w.heap.size w w' := by
  have Hall := all_two w na sa ea nb sb eb hsa hsb
  rw [h] at Hall
  go_enter Tryd.func51, Tryd.ntmps51
  go_wp2_with fail
  refine Hall.mono ?_
  rintro r w1 ⟨rfl, hb1⟩
  obtain ⟨-, -, ⟨c0, c1, c2, f0, f1, f2⟩, hB, -⟩ := dy_three w na sa ea nb sb eb hb1
  have hbZ : Below w.heap.size w (((w1.setCell ⟨w.heap.size + 1 + 1, 0, none⟩ (.bool false)).setCell ⟨w.heap.size + 1 + 1, 1, none⟩ (.string { data := #[] })).setCell ⟨w.heap.size + 1 + 1, 2, none⟩ (.int .i64 0)) := ((hB.setCell (by simp; omega) _).setCell (by simp; omega) _).setCell (by simp; omega) _
  clear hb1 hB Hall h
  go_wp2
  exact bodyPost_ret (v := .tuple #[.agg #[.bool false, .string { data := #[] }, .int .i64 0], .int .i64 2]) (by simp [results, Tryd.results51, go_sem, c0, c1, c2]) rfl ⟨dyR_none ⟨rfl, rfl, rfl, rfl⟩, hbZ⟩

theorem sz_zero (neg : Bool) : sz neg 0 = 0 := by cases neg <;> rfl

set_option maxHeartbeats 1000000 in
theorem dadd_ok (na : Bool) (xa : Nat) (ea : Int) (nb : Bool) (xb : Nat) (eb : Int) (w : World) (ha : okD na xa ea) (hb : okD nb xb eb) (hT : Tab w) :
    Calls Tryd.prog 51 #[.agg #[.bool na, .string (bstr xa), .int .i64 ea], .agg #[.bool nb, .string (bstr xb), .int .i64 eb]] w fun r w' => r = .returned (mkV (addZ (sz na xa) ea (sz nb xb) eb) (min ea eb)) ∧ Below w.heap.size w w' := by
  have Hall := all_two w na (bstr xa) ea nb (bstr xb) eb (bstr_len ha) (bstr_len hb)
  rw [mayB_ok ha, mayB_ok hb] at Hall
  by_cases hxa : xa = 0
  · have HS := fun W => dsign_ok na xa ea W ha
    have H := Lib.hid (add_zero_left (ea := ea) hb)
    have hz := sz_sign_zero na
    subst hxa
    rw [hz] at HS
    rw [sz_zero na]
    go_enter Tryd.func51, Tryd.ntmps51
    go_wp2_with fail
    refine Hall.mono ?_
    rintro r w1 ⟨rfl, hb1⟩
    obtain ⟨⟨a0, a1, a2, -, -, -⟩, -, -, -, hs1⟩ := dy_three w na (bstr 0) ea nb (bstr xb) eb hb1
    go_wp2_with fail
    refine (HS _).mono ?_
    rintro r w2 ⟨rfl, hb2⟩
    obtain ⟨-, ⟨b0, b1, b2, -, -, -⟩, ⟨c0, c1, c2, f0, f1, f2⟩, hB, -⟩ := dy_three w na (bstr 0) ea nb (bstr xb) eb (hb1.trans (hb2.mono hs1))
    have hbZ : Below w.heap.size w (((w2.setCell ⟨w.heap.size + 1 + 1, 0, none⟩ (.bool nb)).setCell ⟨w.heap.size + 1 + 1, 1, none⟩ (.string (bstr xb))).setCell ⟨w.heap.size + 1 + 1, 2, none⟩ (.int .i64 eb)) := ((hB.setCell (by simp; omega) _).setCell (by simp; omega) _).setCell (by simp; omega) _
    clear hb1 hb2 hB Hall HS hs1 a0 a1 a2 hz hT
    go_wp2
    exact bodyPost_ret (v := .tuple #[.agg #[.bool nb, .string (bstr xb), .int .i64 eb], .int .i64 0]) (by simp [results, Tryd.results51, go_sem, c0, c1, c2]) rfl ⟨by rw [H.out]; rfl, hbZ⟩
  · by_cases hxb : xb = 0
    · have HS := fun W => dsign_ok na xa ea W ha
      have HS2 := fun W => dsign_ok nb xb eb W hb
      have H := Lib.hid (add_zero_right (eb := eb) ha)
      have hz := sz_sign_zero nb
      have hzn := sz_sign_ne (neg := na) hxa
      subst hxb
      rw [hz] at HS2
      rw [sz_zero nb]
      go_enter Tryd.func51, Tryd.ntmps51
      go_wp2_with fail
      refine Hall.mono ?_
      rintro r w1 ⟨rfl, hb1⟩
      obtain ⟨⟨a0, a1, a2, -, -, -⟩, -, -, -, hs1⟩ := dy_three w na (bstr xa) ea nb (bstr 0) eb hb1
      go_wp2_with fail
      refine (HS _).mono ?_
      rintro r w2 ⟨rfl, hb2⟩
      have hb2' := hb1.trans (hb2.mono hs1)
      obtain ⟨-, ⟨b0, b1, b2, -, -, -⟩, -, -, hs2⟩ := dy_three w na (bstr xa) ea nb (bstr 0) eb hb2'
      clear a0 a1 a2
      go_wp2_with fail
      refine (HS2 _).mono ?_
      rintro r w3 ⟨rfl, hb3⟩
      obtain ⟨⟨a0, a1, a2, -, -, -⟩, -, ⟨c0, c1, c2, f0, f1, f2⟩, hB, -⟩ := dy_three w na (bstr xa) ea nb (bstr 0) eb (hb2'.trans (hb3.mono hs2))
      have hbZ : Below w.heap.size w (((w3.setCell ⟨w.heap.size + 1 + 1, 0, none⟩ (.bool na)).setCell ⟨w.heap.size + 1 + 1, 1, none⟩ (.string (bstr xa))).setCell ⟨w.heap.size + 1 + 1, 2, none⟩ (.int .i64 ea)) := ((hB.setCell (by simp; omega) _).setCell (by simp; omega) _).setCell (by simp; omega) _
      clear hb1 hb2 hb2' hb3 hB Hall HS HS2 hs1 hs2 b0 b1 b2 hz hT
      go_wp2
      exact bodyPost_ret (v := .tuple #[.agg #[.bool na, .string (bstr xa), .int .i64 ea], .int .i64 0]) (by simp [results, Tryd.results51, go_sem, c0, c1, c2]) rfl ⟨by rw [H.out]; rfl, hbZ⟩
    · have HS := fun W => dsign_ok na xa ea W ha
      have HS2 := fun W => dsign_ok nb xb eb W hb
      have hzn := sz_sign_ne (neg := na) hxa
      have hzn2 := sz_sign_ne (neg := nb) hxb
      have ia1 := ha.e1
      have ia2 := ha.e2
      have ib1 := hb.e1
      have ib2 := hb.e2
      by_cases hg : 131080 < max ea eb - min ea eb
      · have H := Lib.hid (mkV_bad (add_far ha hb hxa hxb hg (min ea eb)))
        obtain ⟨lo, hlo⟩ : ∃ lo, lo = min ea eb := ⟨_, rfl⟩
        obtain ⟨hi, hhi⟩ : ∃ hi, hi = max ea eb := ⟨_, rfl⟩
        have hlo' := hlo.symm
        have hhi' := hhi.symm
        have i1 : -1048576 ≤ lo := by omega
        have i2 : lo ≤ 1048576 := by omega
        have i3 : -1048576 ≤ hi := by omega
        have i4 : hi ≤ 1048576 := by omega
        have hg2 : decide (131080 < hi - lo) = true := by rw [decide_eq_true_eq]; omega
        have hg3 : 131080 < hi - lo := by omega
        have Hm := Lib.hid (And.intro hlo hhi)
        clear hlo hhi hg hxa hxb
        go_enter Tryd.func51, Tryd.ntmps51
        go_wp2_with fail
        refine Hall.mono ?_
        rintro r w1 ⟨rfl, hb1⟩
        obtain ⟨⟨a0, a1, a2, -, -, -⟩, -, -, -, hs1⟩ := dy_three w na (bstr xa) ea nb (bstr xb) eb hb1
        go_wp2_with fail
        refine (HS _).mono ?_
        rintro r w2 ⟨rfl, hb2⟩
        have hb2' := hb1.trans (hb2.mono hs1)
        obtain ⟨-, ⟨b0, b1, b2, -, -, -⟩, -, -, hs2⟩ := dy_three w na (bstr xa) ea nb (bstr xb) eb hb2'
        clear a0 a1 a2
        go_wp2_with fail
        refine (HS2 _).mono ?_
        rintro r w3 ⟨rfl, hb3⟩
        clear b0 b1 b2
        obtain ⟨⟨a0, a1, a2, -, -, -⟩, ⟨b0, b1, b2, -, -, -⟩, ⟨c0, c1, c2, f0, f1, f2⟩, hB, -⟩ := dy_three w na (bstr xa) ea nb (bstr xb) eb (hb2'.trans (hb3.mono hs2))
        have hbZ : Below w.heap.size w (((w3.setCell ⟨w.heap.size + 1 + 1, 0, none⟩ (.bool false)).setCell ⟨w.heap.size + 1 + 1, 1, none⟩ (.string { data := #[] })).setCell ⟨w.heap.size + 1 + 1, 2, none⟩ (.int .i64 0)) := ((hB.setCell (by simp; omega) _).setCell (by simp; omega) _).setCell (by simp; omega) _
        clear hb1 hb2 hb2' hb3 hB Hall HS HS2 hs1 hs2 hT ia1 ia2 ib1 ib2 ha hb
        go_wp2
        exact bodyPost_ret (v := .tuple #[.agg #[.bool false, .string { data := #[] }, .int .i64 0], .int .i64 4]) (by simp [results, Tryd.results51, go_sem, c0, c1, c2]) rfl ⟨by rw [H.out]; exact dyR_none ⟨rfl, rfl, rfl, rfl⟩, hbZ⟩
      · obtain ⟨lo, hlo⟩ : ∃ lo, lo = min ea eb := ⟨_, rfl⟩
        obtain ⟨hi, hhi⟩ : ∃ hi, hi = max ea eb := ⟨_, rfl⟩
        obtain ⟨ka, hka⟩ : ∃ ka : Nat, ka = (ea - lo).toNat := ⟨_, rfl⟩
        obtain ⟨kb, hkb⟩ : ∃ kb : Nat, kb = (eb - lo).toNat := ⟨_, rfl⟩
        have hlo' := hlo.symm
        have hhi' := hhi.symm
        have i1 : -1048576 ≤ lo := by omega
        have i2 : lo ≤ 1048576 := by omega
        have i3 : -1048576 ≤ hi := by omega
        have i4 : hi ≤ 1048576 := by omega
        have hg2 : decide (131080 < hi - lo) = false := by rw [decide_eq_false_iff_not]; omega
        have hg3 : ¬ 131080 < hi - lo := by omega
        have j1 : ea - lo = (ka : Int) := by omega
        have j2 : eb - lo = (kb : Int) := by omega
        have j3 : ka ≤ 131080 := by omega
        have j4 : kb ≤ 131080 := by omega
        have H : Hid (addZ (sz na xa) ea (sz nb xb) eb = sz na xa * 2 ^ ka + sz nb xb * 2 ^ kb) := Lib.hid (by unfold addZ; rw [← hlo, ← hka, ← hkb])
        have da := Lib.hid (show Fil.dn 32 (sz na xa).natAbs ≤ 16384 ∧ Fil.dn 32 (sz na xa * 2 ^ ka).natAbs ≤ 16384 by
          rw [abs_shl, sz_abs]; exact ⟨by have := dn32_shl (k := 0) ha.dn (by omega); simpa using this, dn32_shl ha.dn (by omega)⟩)
        have db := Lib.hid (show Fil.dn 32 (sz nb xb).natAbs ≤ 16384 ∧ Fil.dn 32 (sz nb xb * 2 ^ kb).natAbs ≤ 16384 by
          rw [abs_shl, sz_abs]; exact ⟨by have := dn32_shl (k := 0) hb.dn (by omega); simpa using this, dn32_shl hb.dn (by omega)⟩)
        have HW := fun W => whole_any na xa ea W ha
        have HW2 := fun W => whole_any nb xb eb W hb
        obtain ⟨Z, hZ⟩ : ∃ Z, Z = sz na xa * 2 ^ ka + sz nb xb * 2 ^ kb := ⟨_, rfl⟩
        have dZ : Fil.dn 32 Z.natAbs ≤ 16385 := by rw [hZ]; exact dn32_sum da.out.2 db.out.2
        rw [← hlo, H.out, ← hZ]
        have HZ := Lib.hid hZ
        clear hZ
        have Hm := Lib.hid (And.intro hlo (And.intro hhi (And.intro hka hkb)))
        have Hj := Lib.hid (And.intro j3 j4)
        clear hlo hhi hka hkb hg hxa hxb ha hb
        have j5 : (ka : Int) ≤ 131080 := by omega
        have j6 : (kb : Int) ≤ 131080 := by omega
        have j7 : 0 ≤ (ka : Int) := by omega
        have j8 : 0 ≤ (kb : Int) := by omega
        clear j3 j4
        go_enter Tryd.func51, Tryd.ntmps51
        go_wp2_with fail
        refine Hall.mono ?_
        rintro r w1 ⟨rfl, hb1⟩
        obtain ⟨⟨a0, a1, a2, -, -, -⟩, -, -, -, hs1⟩ := dy_three w na (bstr xa) ea nb (bstr xb) eb hb1
        go_wp2_with fail
        refine (HS _).mono ?_
        rintro r w2 ⟨rfl, hb2⟩
        have hb2' := hb1.trans (hb2.mono hs1)
        obtain ⟨-, ⟨b0, b1, b2, -, -, -⟩, -, -, hs2⟩ := dy_three w na (bstr xa) ea nb (bstr xb) eb hb2'
        clear a0 a1 a2 hb1 hb2 Hall HS hs1
        go_wp2_with fail
        refine (HS2 _).mono ?_
        rintro r w3 ⟨rfl, hb3⟩
        clear b0 b1 b2
        have hb3' := hb2'.trans (hb3.mono hs2)
        obtain ⟨⟨a0, a1, a2, -, -, -⟩, ⟨b0, b1, b2, -, -, -⟩, -, hB, hs3⟩ := dy_three w na (bstr xa) ea nb (bstr xb) eb hb3'
        clear hb2' hb3 HS2 hs2 ia1 ia2 ib1 ib2
        go_wp2_with fail
        refine (HW _).mono ?_
        rintro r w4 ⟨rfl, hI, hb4⟩
        have hb4' := hb3'.trans (hb4.mono hs3)
        have l4 := hI.lt
        generalize hp : w3.heap.size + 1 = p at *
        clear a0 a1 a2 b0 b1 b2 hB
        obtain ⟨-, ⟨b0, b1, b2, -, -, -⟩, -, -, hs4⟩ := dy_three w na (bstr xa) ea nb (bstr xb) eb hb4'
        have hp3 : w.heap.size + 1 + 1 + 1 ≤ p := by omega
        clear hb3' hb4 HW hs3 hp
        go_wp2_with fail
        refine (HW2 _).mono ?_
        rintro r w5 ⟨rfl, hJ, hb5⟩
        have hb5' := hb4'.trans (hb5.mono hs4)
        have hI5 := hI.below hb5
        have hpq : p < w4.heap.size + 1 := by omega
        generalize hq : w4.heap.size + 1 = q at *
        clear b0 b1 b2
        obtain ⟨⟨a0, a1, a2, -, -, -⟩, -, -, -, hs5⟩ := dy_three w na (bstr xa) ea nb (bstr xb) eb hb5'
        clear hb4' hb5 HW2 hs4 hq hI l4
        go_wp2_with fail
        refine (lsh_any p 0 p 0 ka _ _ hI5.room hI5 (by have := da.out; omega) (by have := Hj.out; omega)).mono ?_
        rintro r w6 ⟨rfl, hI6, hB6⟩
        have hJ6 := hJ.but hB6 (Or.inl (by omega))
        have hb6' := hb5'.trans (hB6.below hp3 hs5)
        clear a0 a1 a2
        obtain ⟨-, ⟨b0, b1, b2, -, -, -⟩, -, -, hs6⟩ := dy_three w na (bstr xa) ea nb (bstr xb) eb hb6'
        clear hb5' hB6 hJ hI5 hs5
        go_wp2_with fail
        refine (lsh_any q 0 q 0 kb _ _ hJ6.room hJ6 (by have := db.out; omega) (by have := Hj.out; omega)).mono ?_
        rintro r w7 ⟨rfl, hJ7, hB7⟩
        have hI7 := hI6.but hB7 (Or.inl (by omega))
        have hb7' := hb6'.trans (hB7.below (by omega) hs6)
        have hs7 := hb7'.size
        clear b0 b1 b2 hb6' hB7 hI6 hJ6
        go_wp2_with fail
        refine (add_any p 0 p 0 q 0 _ _ _ hI7.room hI7 hJ7 (by have := da.out; omega) (by have := db.out; omega)).mono ?_
        rintro r w8 ⟨rfl, hI8, hB8⟩
        rw [← HZ.out] at hI8
        have hb8' := hb7'.trans (hB8.below (by omega) (by have := (dy_three w na (bstr xa) ea nb (bstr xb) eb hb7').2.2.2.2; omega))
        have hT8 := hT.below (dy_three w na (bstr xa) ea nb (bstr xb) eb hb8').2.2.2.1
        have hs8 := (dy_three w na (bstr xa) ea nb (bstr xb) eb hb8').2.2.2.2
        clear hB8 hI7 hJ7 hb7' hs7 hs6
        go_wp2_with fail
        refine (made_any p 0 _ lo w8 hI8 (by omega) hT8 (by omega) (by omega)).mono ?_
        rintro r w9 ⟨rfl, hb9⟩
        obtain ⟨-, -, ⟨c0, c1, c2, f0, f1, f2⟩, hB, -⟩ := dy_three w na (bstr xa) ea nb (bstr xb) eb (hb8'.trans (hb9.mono hs8))
        have hbZ : Below w.heap.size w (((w9.setCell ⟨w.heap.size + 1 + 1, 0, none⟩ (.bool (mkN Z lo))).setCell ⟨w.heap.size + 1 + 1, 1, none⟩ (.string (bstr (mkX Z lo)))).setCell ⟨w.heap.size + 1 + 1, 2, none⟩ (.int .i64 (mkE Z lo))) := ((hB.setCell (by simp; omega) _).setCell (by simp; omega) _).setCell (by simp; omega) _
        clear hb9 hb8' hI8 hT8 hs8 hB
        unfold dyR
        go_wp2
        exact bodyPost_ret (v := .tuple #[.agg #[.bool (mkN Z lo), .string (bstr (mkX Z lo)), .int .i64 (mkE Z lo)], .int .i64 (mkR Z lo)]) (by simp [results, Tryd.results51, go_sem, c0, c1, c2]) rfl ⟨rfl, hbZ⟩
end Go.Proofs.YtgcifpjhhoalmaaDoor
