/- The walk over filigreelaw03.DyadSums. -/
import Derived.Test.YtgcifpjhhoalmaaDoorSf
namespace Go.Proofs.YtgcifpjhhoalmaaDoor
open Go Go.RowKit Go.PlainAid Fil

set_option maxHeartbeats 4000000 in
theorem sums_bad1 (na : Bool) (sa : ByteArray) (ea : Int) (nb : Bool) (sb : ByteArray) (eb : Int) (w : World) (hT : Tab w) (ha : mayB na sa ea = false) (hsa : sa.size ≤ 9223372036854775807) (hsb : sb.size ≤ 9223372036854775807) :
    Calls Tryd.prog 10 #[.agg #[.bool na, .string sa, .int .i64 ea], .agg #[.bool nb, .string sb, .int .i64 eb]] w fun r w' => r = .returned (.bool true) ∧ Below w.heap.size w w' := by
  have h : (mayB na sa ea && mayB nb sb eb) = false := by rw [ha]; rfl
  have hma := fun W => rmay_any na sa ea W hsa
  rw [ha] at hma
  have hadd := fun W => dadd_bad na sa ea nb sb eb W h hsa hsb
  have hsub := fun W => dsub_bad na sa ea nb sb eb W h hsa hsb
  have hmul := fun W => dmul_bad na sa ea nb sb eb W h hsa hsb
  have hno := nothing_yes
  clear h ha hsa hsb
  simp only [dyR_nil] at hadd hsub hmul
  have D0 := DyAt.put (w) (na) (sa) (ea)
  have D0x := D0.allocd (.cells #[.bool nb, .string sb, .int .i64 eb] 24)
  have D1 := DyAt.put ((w).alloc (.cells #[.bool na, .string sa, .int .i64 ea] 24)) (nb) (sb) (eb)
  rw [show ((w).alloc (.cells #[.bool na, .string sa, .int .i64 ea] 24)).heap.size = w.heap.size + 1 by simp] at D1
  have B0 := ((Below.refl w.heap.size w).alloc (by first | exact Nat.le_refl _ | (simp; done) | (simp; omega)) (.cells #[.bool na, .string sa, .int .i64 ea] 24)).alloc (by first | exact Nat.le_refl _ | (simp; done) | (simp; omega)) (.cells #[.bool nb, .string sb, .int .i64 eb] 24)
  go_enter Tryd.func10, Tryd.ntmps10
  obtain ⟨x00, x01, x02, -, -, -⟩ := id D0x
  obtain ⟨x10, x11, x12, -, -, -⟩ := id D1
  go_wp2_with fail
  (with_reducible refine (hadd _).mono ?_)
  rintro r w1 ⟨rfl, hb1⟩
  clear x00 x01 x02
  clear x10 x11 x12
  replace D0x := D0x.keep hb1
  replace D1 := D1.keep hb1
  replace B0 := B0.trans (hb1.mono B0.size)
  clear hb1
  have l1_0 := D0x.lt
  have l1_1 := D1.lt
  replace D0x := D0x.allocd (.cells #[.bool false, .string { data := #[] }, .int .i64 0] 24)
  replace D1 := D1.allocd (.cells #[.bool false, .string { data := #[] }, .int .i64 0] 24)
  have D2 := DyAt.put w1 (false) ({ data := #[] }) (0)
  replace B0 := B0.alloc B0.size (.cells #[.bool false, .string { data := #[] }, .int .i64 0] 24)
  obtain ⟨x00, x01, x02, -, -, -⟩ := id D0x
  obtain ⟨x10, x11, x12, -, -, -⟩ := id D1
  go_wp2_with fail
  (with_reducible refine (hsub _).mono ?_)
  rintro r w2 ⟨rfl, hb2⟩
  clear x00 x01 x02
  clear x10 x11 x12
  replace D0x := D0x.keep hb2
  replace D1 := D1.keep hb2
  replace D2 := D2.keep hb2
  replace B0 := B0.trans (hb2.mono B0.size)
  clear hb2
  have l2_0 := D0x.lt
  have l2_1 := D1.lt
  have l2_2 := D2.lt
  replace D0x := D0x.allocd (.cells #[.bool false, .string { data := #[] }, .int .i64 0] 24)
  replace D1 := D1.allocd (.cells #[.bool false, .string { data := #[] }, .int .i64 0] 24)
  replace D2 := D2.allocd (.cells #[.bool false, .string { data := #[] }, .int .i64 0] 24)
  have D3 := DyAt.put w2 (false) ({ data := #[] }) (0)
  replace B0 := B0.alloc B0.size (.cells #[.bool false, .string { data := #[] }, .int .i64 0] 24)
  obtain ⟨x00, x01, x02, -, -, -⟩ := id D0x
  obtain ⟨x10, x11, x12, -, -, -⟩ := id D1
  go_wp2_with fail
  (with_reducible refine (hmul _).mono ?_)
  rintro r w3 ⟨rfl, hb3⟩
  clear x00 x01 x02
  clear x10 x11 x12
  replace D0x := D0x.keep hb3
  replace D1 := D1.keep hb3
  replace D2 := D2.keep hb3
  replace D3 := D3.keep hb3
  replace B0 := B0.trans (hb3.mono B0.size)
  clear hb3
  have l3_0 := D0x.lt
  have l3_1 := D1.lt
  have l3_2 := D2.lt
  have l3_3 := D3.lt
  replace D0x := D0x.allocd (.cells #[.bool false, .string { data := #[] }, .int .i64 0] 24)
  replace D1 := D1.allocd (.cells #[.bool false, .string { data := #[] }, .int .i64 0] 24)
  replace D2 := D2.allocd (.cells #[.bool false, .string { data := #[] }, .int .i64 0] 24)
  replace D3 := D3.allocd (.cells #[.bool false, .string { data := #[] }, .int .i64 0] 24)
  have D4 := DyAt.put w3 (false) ({ data := #[] }) (0)
  replace B0 := B0.alloc B0.size (.cells #[.bool false, .string { data := #[] }, .int .i64 0] 24)
  obtain ⟨x00, x01, x02, -, -, -⟩ := id D0x
  go_wp2_with fail
  (with_reducible refine (hma _).mono ?_)
  rintro r w4 ⟨rfl, hb4⟩
  clear x00 x01 x02
  replace D0x := D0x.keep hb4
  replace D1 := D1.keep hb4
  replace D2 := D2.keep hb4
  replace D3 := D3.keep hb4
  replace D4 := D4.keep hb4
  replace B0 := B0.trans (hb4.mono B0.size)
  clear hb4
  have l4_0 := D0x.lt
  have l4_1 := D1.lt
  have l4_2 := D2.lt
  have l4_3 := D3.lt
  have l4_4 := D4.lt
  obtain ⟨x20, x21, x22, -, -, -⟩ := id D2
  go_wp2_with fail
  (with_reducible refine (hno _).mono ?_)
  rintro r w5 ⟨rfl, hb5⟩
  clear x20 x21 x22
  replace D0x := D0x.keep hb5
  replace D1 := D1.keep hb5
  replace D2 := D2.keep hb5
  replace D3 := D3.keep hb5
  replace D4 := D4.keep hb5
  replace B0 := B0.trans (hb5.mono B0.size)
  clear hb5
  have l5_0 := D0x.lt
  have l5_1 := D1.lt
  have l5_2 := D2.lt
  have l5_3 := D3.lt
  have l5_4 := D4.lt
  obtain ⟨x30, x31, x32, -, -, -⟩ := id D3
  go_wp2_with fail
  (with_reducible refine (hno _).mono ?_)
  rintro r w6 ⟨rfl, hb6⟩
  clear x30 x31 x32
  replace D0x := D0x.keep hb6
  replace D1 := D1.keep hb6
  replace D2 := D2.keep hb6
  replace D3 := D3.keep hb6
  replace D4 := D4.keep hb6
  replace B0 := B0.trans (hb6.mono B0.size)
  clear hb6
  have l6_0 := D0x.lt
  have l6_1 := D1.lt
  have l6_2 := D2.lt
  have l6_3 := D3.lt
  have l6_4 := D4.lt
  obtain ⟨x40, x41, x42, -, -, -⟩ := id D4
  go_wp2_with fail
  (with_reducible refine (hno _).mono ?_)
  rintro r w7 ⟨rfl, hb7⟩
  clear x40 x41 x42
  replace D0x := D0x.keep hb7
  replace D1 := D1.keep hb7
  replace D2 := D2.keep hb7
  replace D3 := D3.keep hb7
  replace D4 := D4.keep hb7
  replace B0 := B0.trans (hb7.mono B0.size)
  clear hb7
  have l7_0 := D0x.lt
  have l7_1 := D1.lt
  have l7_2 := D2.lt
  have l7_3 := D3.lt
  have l7_4 := D4.lt
  go_wp2_with fail
  (with_reducible refine (awake_any _ (hT.below B0)).mono ?_)
  rintro r w8 ⟨rfl, hb8⟩
  replace D0x := D0x.keep hb8
  replace D1 := D1.keep hb8
  replace D2 := D2.keep hb8
  replace D3 := D3.keep hb8
  replace D4 := D4.keep hb8
  replace B0 := B0.trans (hb8.mono B0.size)
  clear hb8
  have l8_0 := D0x.lt
  have l8_1 := D1.lt
  have l8_2 := D2.lt
  have l8_3 := D3.lt
  have l8_4 := D4.lt
  go_wp2
  go_ret
  exact ⟨rfl, B0⟩

set_option maxHeartbeats 4000000 in
theorem sums_bad2 (na : Bool) (sa : ByteArray) (ea : Int) (nb : Bool) (sb : ByteArray) (eb : Int) (w : World) (hT : Tab w) (ha : mayB na sa ea = true) (hb : mayB nb sb eb = false) (hsa : sa.size ≤ 9223372036854775807) (hsb : sb.size ≤ 9223372036854775807) :
    Calls Tryd.prog 10 #[.agg #[.bool na, .string sa, .int .i64 ea], .agg #[.bool nb, .string sb, .int .i64 eb]] w fun r w' => r = .returned (.bool true) ∧ Below w.heap.size w w' := by
  have h : (mayB na sa ea && mayB nb sb eb) = false := by rw [ha]; rw [hb]; rfl
  have hma := fun W => rmay_any na sa ea W hsa
  rw [ha] at hma
  have hmb := fun W => rmay_any nb sb eb W hsb
  rw [hb] at hmb
  have hadd := fun W => dadd_bad na sa ea nb sb eb W h hsa hsb
  have hsub := fun W => dsub_bad na sa ea nb sb eb W h hsa hsb
  have hmul := fun W => dmul_bad na sa ea nb sb eb W h hsa hsb
  have hno := nothing_yes
  clear h ha hsa hsb hb
  simp only [dyR_nil] at hadd hsub hmul
  have D0 := DyAt.put (w) (na) (sa) (ea)
  have D0x := D0.allocd (.cells #[.bool nb, .string sb, .int .i64 eb] 24)
  have D1 := DyAt.put ((w).alloc (.cells #[.bool na, .string sa, .int .i64 ea] 24)) (nb) (sb) (eb)
  rw [show ((w).alloc (.cells #[.bool na, .string sa, .int .i64 ea] 24)).heap.size = w.heap.size + 1 by simp] at D1
  have B0 := ((Below.refl w.heap.size w).alloc (by first | exact Nat.le_refl _ | (simp; done) | (simp; omega)) (.cells #[.bool na, .string sa, .int .i64 ea] 24)).alloc (by first | exact Nat.le_refl _ | (simp; done) | (simp; omega)) (.cells #[.bool nb, .string sb, .int .i64 eb] 24)
  go_enter Tryd.func10, Tryd.ntmps10
  obtain ⟨x00, x01, x02, -, -, -⟩ := id D0x
  obtain ⟨x10, x11, x12, -, -, -⟩ := id D1
  go_wp2_with fail
  (with_reducible refine (hadd _).mono ?_)
  rintro r w1 ⟨rfl, hb1⟩
  clear x00 x01 x02
  clear x10 x11 x12
  replace D0x := D0x.keep hb1
  replace D1 := D1.keep hb1
  replace B0 := B0.trans (hb1.mono B0.size)
  clear hb1
  have l1_0 := D0x.lt
  have l1_1 := D1.lt
  replace D0x := D0x.allocd (.cells #[.bool false, .string { data := #[] }, .int .i64 0] 24)
  replace D1 := D1.allocd (.cells #[.bool false, .string { data := #[] }, .int .i64 0] 24)
  have D2 := DyAt.put w1 (false) ({ data := #[] }) (0)
  replace B0 := B0.alloc B0.size (.cells #[.bool false, .string { data := #[] }, .int .i64 0] 24)
  obtain ⟨x00, x01, x02, -, -, -⟩ := id D0x
  obtain ⟨x10, x11, x12, -, -, -⟩ := id D1
  go_wp2_with fail
  (with_reducible refine (hsub _).mono ?_)
  rintro r w2 ⟨rfl, hb2⟩
  clear x00 x01 x02
  clear x10 x11 x12
  replace D0x := D0x.keep hb2
  replace D1 := D1.keep hb2
  replace D2 := D2.keep hb2
  replace B0 := B0.trans (hb2.mono B0.size)
  clear hb2
  have l2_0 := D0x.lt
  have l2_1 := D1.lt
  have l2_2 := D2.lt
  replace D0x := D0x.allocd (.cells #[.bool false, .string { data := #[] }, .int .i64 0] 24)
  replace D1 := D1.allocd (.cells #[.bool false, .string { data := #[] }, .int .i64 0] 24)
  replace D2 := D2.allocd (.cells #[.bool false, .string { data := #[] }, .int .i64 0] 24)
  have D3 := DyAt.put w2 (false) ({ data := #[] }) (0)
  replace B0 := B0.alloc B0.size (.cells #[.bool false, .string { data := #[] }, .int .i64 0] 24)
  obtain ⟨x00, x01, x02, -, -, -⟩ := id D0x
  obtain ⟨x10, x11, x12, -, -, -⟩ := id D1
  go_wp2_with fail
  (with_reducible refine (hmul _).mono ?_)
  rintro r w3 ⟨rfl, hb3⟩
  clear x00 x01 x02
  clear x10 x11 x12
  replace D0x := D0x.keep hb3
  replace D1 := D1.keep hb3
  replace D2 := D2.keep hb3
  replace D3 := D3.keep hb3
  replace B0 := B0.trans (hb3.mono B0.size)
  clear hb3
  have l3_0 := D0x.lt
  have l3_1 := D1.lt
  have l3_2 := D2.lt
  have l3_3 := D3.lt
  replace D0x := D0x.allocd (.cells #[.bool false, .string { data := #[] }, .int .i64 0] 24)
  replace D1 := D1.allocd (.cells #[.bool false, .string { data := #[] }, .int .i64 0] 24)
  replace D2 := D2.allocd (.cells #[.bool false, .string { data := #[] }, .int .i64 0] 24)
  replace D3 := D3.allocd (.cells #[.bool false, .string { data := #[] }, .int .i64 0] 24)
  have D4 := DyAt.put w3 (false) ({ data := #[] }) (0)
  replace B0 := B0.alloc B0.size (.cells #[.bool false, .string { data := #[] }, .int .i64 0] 24)
  obtain ⟨x00, x01, x02, -, -, -⟩ := id D0x
  go_wp2_with fail
  (with_reducible refine (hma _).mono ?_)
  rintro r w4 ⟨rfl, hb4⟩
  clear x00 x01 x02
  replace D0x := D0x.keep hb4
  replace D1 := D1.keep hb4
  replace D2 := D2.keep hb4
  replace D3 := D3.keep hb4
  replace D4 := D4.keep hb4
  replace B0 := B0.trans (hb4.mono B0.size)
  clear hb4
  have l4_0 := D0x.lt
  have l4_1 := D1.lt
  have l4_2 := D2.lt
  have l4_3 := D3.lt
  have l4_4 := D4.lt
  obtain ⟨x10, x11, x12, -, -, -⟩ := id D1
  go_wp2_with fail
  (with_reducible refine (hmb _).mono ?_)
  rintro r w5 ⟨rfl, hb5⟩
  clear x10 x11 x12
  replace D0x := D0x.keep hb5
  replace D1 := D1.keep hb5
  replace D2 := D2.keep hb5
  replace D3 := D3.keep hb5
  replace D4 := D4.keep hb5
  replace B0 := B0.trans (hb5.mono B0.size)
  clear hb5
  have l5_0 := D0x.lt
  have l5_1 := D1.lt
  have l5_2 := D2.lt
  have l5_3 := D3.lt
  have l5_4 := D4.lt
  obtain ⟨x20, x21, x22, -, -, -⟩ := id D2
  go_wp2_with fail
  (with_reducible refine (hno _).mono ?_)
  rintro r w6 ⟨rfl, hb6⟩
  clear x20 x21 x22
  replace D0x := D0x.keep hb6
  replace D1 := D1.keep hb6
  replace D2 := D2.keep hb6
  replace D3 := D3.keep hb6
  replace D4 := D4.keep hb6
  replace B0 := B0.trans (hb6.mono B0.size)
  clear hb6
  have l6_0 := D0x.lt
  have l6_1 := D1.lt
  have l6_2 := D2.lt
  have l6_3 := D3.lt
  have l6_4 := D4.lt
  obtain ⟨x30, x31, x32, -, -, -⟩ := id D3
  go_wp2_with fail
  (with_reducible refine (hno _).mono ?_)
  rintro r w7 ⟨rfl, hb7⟩
  clear x30 x31 x32
  replace D0x := D0x.keep hb7
  replace D1 := D1.keep hb7
  replace D2 := D2.keep hb7
  replace D3 := D3.keep hb7
  replace D4 := D4.keep hb7
  replace B0 := B0.trans (hb7.mono B0.size)
  clear hb7
  have l7_0 := D0x.lt
  have l7_1 := D1.lt
  have l7_2 := D2.lt
  have l7_3 := D3.lt
  have l7_4 := D4.lt
  obtain ⟨x40, x41, x42, -, -, -⟩ := id D4
  go_wp2_with fail
  (with_reducible refine (hno _).mono ?_)
  rintro r w8 ⟨rfl, hb8⟩
  clear x40 x41 x42
  replace D0x := D0x.keep hb8
  replace D1 := D1.keep hb8
  replace D2 := D2.keep hb8
  replace D3 := D3.keep hb8
  replace D4 := D4.keep hb8
  replace B0 := B0.trans (hb8.mono B0.size)
  clear hb8
  have l8_0 := D0x.lt
  have l8_1 := D1.lt
  have l8_2 := D2.lt
  have l8_3 := D3.lt
  have l8_4 := D4.lt
  go_wp2_with fail
  (with_reducible refine (awake_any _ (hT.below B0)).mono ?_)
  rintro r w9 ⟨rfl, hb9⟩
  replace D0x := D0x.keep hb9
  replace D1 := D1.keep hb9
  replace D2 := D2.keep hb9
  replace D3 := D3.keep hb9
  replace D4 := D4.keep hb9
  replace B0 := B0.trans (hb9.mono B0.size)
  clear hb9
  have l9_0 := D0x.lt
  have l9_1 := D1.lt
  have l9_2 := D2.lt
  have l9_3 := D3.lt
  have l9_4 := D4.lt
  go_wp2
  go_ret
  exact ⟨rfl, B0⟩

set_option maxHeartbeats 8000000 in
theorem sums_ok (na : Bool) (xa : Nat) (ea : Int) (nb : Bool) (xb : Nat) (eb : Int) (w : World) (hT : Tab w) (ha : okD na xa ea) (hb : okD nb xb eb) :
    Calls Tryd.prog 10 #[.agg #[.bool na, .string (bstr xa), .int .i64 ea], .agg #[.bool nb, .string (bstr xb), .int .i64 eb]] w fun r w' => r = .returned (.bool true) ∧ Below w.heap.size w w' := by
  have hma := fun W => rmay_any na (bstr xa) ea W (bstr_len ha)
  rw [mayB_ok ha] at hma
  have hmb := fun W => rmay_any nb (bstr xb) eb W (bstr_len hb)
  rw [mayB_ok hb] at hmb
  have hadd := fun W hT => dadd_ok na xa ea nb xb eb W ha hb hT
  have hsub := fun W hT => dsub_ok na xa ea nb xb eb W ha hb hT
  have hmul := fun W hT => dmul_ok na xa ea nb xb eb W ha hb hT
  have hradd := fun W => radd_any na xa ea nb xb eb W ha hb
  have hrsub := fun W => rsub_any na xa ea nb xb eb W ha hb
  have hrmul := fun W => rmul_any na xa ea nb xb eb W ha hb
  unfold mkV dyR at hadd hsub hmul hradd hrsub hrmul
  generalize mkN (addZ (sz na xa) ea (sz nb xb) eb) (min ea eb) = n1 at *
  generalize bstr (mkX (addZ (sz na xa) ea (sz nb xb) eb) (min ea eb)) = s1 at *
  generalize mkE (addZ (sz na xa) ea (sz nb xb) eb) (min ea eb) = e1 at *
  generalize mkR (addZ (sz na xa) ea (sz nb xb) eb) (min ea eb) = r1 at *
  generalize mkN (addZ (sz na xa) ea (-sz nb xb) eb) (min ea eb) = n2 at *
  generalize bstr (mkX (addZ (sz na xa) ea (-sz nb xb) eb) (min ea eb)) = s2 at *
  generalize mkE (addZ (sz na xa) ea (-sz nb xb) eb) (min ea eb) = e2 at *
  generalize mkR (addZ (sz na xa) ea (-sz nb xb) eb) (min ea eb) = r2 at *
  generalize mkN (sz na xa * sz nb xb) (ea + eb) = n3 at *
  generalize bstr (mkX (sz na xa * sz nb xb) (ea + eb)) = s3 at *
  generalize mkE (sz na xa * sz nb xb) (ea + eb) = e3 at *
  generalize mkR (sz na xa * sz nb xb) (ea + eb) = r3 at *
  clear ha hb
  have D0 := DyAt.put (w) (na) ((bstr xa)) (ea)
  have D0x := D0.allocd (.cells #[.bool nb, .string (bstr xb), .int .i64 eb] 24)
  have D1 := DyAt.put ((w).alloc (.cells #[.bool na, .string (bstr xa), .int .i64 ea] 24)) (nb) ((bstr xb)) (eb)
  rw [show ((w).alloc (.cells #[.bool na, .string (bstr xa), .int .i64 ea] 24)).heap.size = w.heap.size + 1 by simp] at D1
  have B0 := ((Below.refl w.heap.size w).alloc (by first | exact Nat.le_refl _ | (simp; done) | (simp; omega)) (.cells #[.bool na, .string (bstr xa), .int .i64 ea] 24)).alloc (by first | exact Nat.le_refl _ | (simp; done) | (simp; omega)) (.cells #[.bool nb, .string (bstr xb), .int .i64 eb] 24)
  go_enter Tryd.func10, Tryd.ntmps10
  obtain ⟨x00, x01, x02, -, -, -⟩ := id D0x
  obtain ⟨x10, x11, x12, -, -, -⟩ := id D1
  go_wp2_with fail
  (with_reducible refine (hadd _ (hT.below B0)).mono ?_)
  rintro r w1 ⟨rfl, hb1⟩
  clear x00 x01 x02
  clear x10 x11 x12
  replace D0x := D0x.keep hb1
  replace D1 := D1.keep hb1
  replace B0 := B0.trans (hb1.mono B0.size)
  clear hb1
  have l1_0 := D0x.lt
  have l1_1 := D1.lt
  replace D0x := D0x.allocd (.cells #[.bool n1, .string s1, .int .i64 e1] 24)
  replace D1 := D1.allocd (.cells #[.bool n1, .string s1, .int .i64 e1] 24)
  have D2 := DyAt.put w1 (n1) (s1) (e1)
  replace B0 := B0.alloc B0.size (.cells #[.bool n1, .string s1, .int .i64 e1] 24)
  obtain ⟨x00, x01, x02, -, -, -⟩ := id D0x
  obtain ⟨x10, x11, x12, -, -, -⟩ := id D1
  go_wp2_with fail
  (with_reducible refine (hsub _ (hT.below B0)).mono ?_)
  rintro r w2 ⟨rfl, hb2⟩
  clear x00 x01 x02
  clear x10 x11 x12
  replace D0x := D0x.keep hb2
  replace D1 := D1.keep hb2
  replace D2 := D2.keep hb2
  replace B0 := B0.trans (hb2.mono B0.size)
  clear hb2
  have l2_0 := D0x.lt
  have l2_1 := D1.lt
  have l2_2 := D2.lt
  replace D0x := D0x.allocd (.cells #[.bool n2, .string s2, .int .i64 e2] 24)
  replace D1 := D1.allocd (.cells #[.bool n2, .string s2, .int .i64 e2] 24)
  replace D2 := D2.allocd (.cells #[.bool n2, .string s2, .int .i64 e2] 24)
  have D3 := DyAt.put w2 (n2) (s2) (e2)
  replace B0 := B0.alloc B0.size (.cells #[.bool n2, .string s2, .int .i64 e2] 24)
  obtain ⟨x00, x01, x02, -, -, -⟩ := id D0x
  obtain ⟨x10, x11, x12, -, -, -⟩ := id D1
  go_wp2_with fail
  (with_reducible refine (hmul _ (hT.below B0)).mono ?_)
  rintro r w3 ⟨rfl, hb3⟩
  clear x00 x01 x02
  clear x10 x11 x12
  replace D0x := D0x.keep hb3
  replace D1 := D1.keep hb3
  replace D2 := D2.keep hb3
  replace D3 := D3.keep hb3
  replace B0 := B0.trans (hb3.mono B0.size)
  clear hb3
  have l3_0 := D0x.lt
  have l3_1 := D1.lt
  have l3_2 := D2.lt
  have l3_3 := D3.lt
  replace D0x := D0x.allocd (.cells #[.bool n3, .string s3, .int .i64 e3] 24)
  replace D1 := D1.allocd (.cells #[.bool n3, .string s3, .int .i64 e3] 24)
  replace D2 := D2.allocd (.cells #[.bool n3, .string s3, .int .i64 e3] 24)
  replace D3 := D3.allocd (.cells #[.bool n3, .string s3, .int .i64 e3] 24)
  have D4 := DyAt.put w3 (n3) (s3) (e3)
  replace B0 := B0.alloc B0.size (.cells #[.bool n3, .string s3, .int .i64 e3] 24)
  obtain ⟨x00, x01, x02, -, -, -⟩ := id D0x
  go_wp2_with fail
  (with_reducible refine (hma _).mono ?_)
  rintro r w4 ⟨rfl, hb4⟩
  clear x00 x01 x02
  replace D0x := D0x.keep hb4
  replace D1 := D1.keep hb4
  replace D2 := D2.keep hb4
  replace D3 := D3.keep hb4
  replace D4 := D4.keep hb4
  replace B0 := B0.trans (hb4.mono B0.size)
  clear hb4
  have l4_0 := D0x.lt
  have l4_1 := D1.lt
  have l4_2 := D2.lt
  have l4_3 := D3.lt
  have l4_4 := D4.lt
  obtain ⟨x10, x11, x12, -, -, -⟩ := id D1
  go_wp2_with fail
  (with_reducible refine (hmb _).mono ?_)
  rintro r w5 ⟨rfl, hb5⟩
  clear x10 x11 x12
  replace D0x := D0x.keep hb5
  replace D1 := D1.keep hb5
  replace D2 := D2.keep hb5
  replace D3 := D3.keep hb5
  replace D4 := D4.keep hb5
  replace B0 := B0.trans (hb5.mono B0.size)
  clear hb5
  have l5_0 := D0x.lt
  have l5_1 := D1.lt
  have l5_2 := D2.lt
  have l5_3 := D3.lt
  have l5_4 := D4.lt
  obtain ⟨x00, x01, x02, -, -, -⟩ := id D0x
  obtain ⟨x10, x11, x12, -, -, -⟩ := id D1
  go_wp2_with fail
  (with_reducible refine (hradd _).mono ?_)
  rintro r w6 ⟨rfl, hb6⟩
  clear x00 x01 x02
  clear x10 x11 x12
  replace D0x := D0x.keep hb6
  replace D1 := D1.keep hb6
  replace D2 := D2.keep hb6
  replace D3 := D3.keep hb6
  replace D4 := D4.keep hb6
  replace B0 := B0.trans (hb6.mono B0.size)
  clear hb6
  have l6_0 := D0x.lt
  have l6_1 := D1.lt
  have l6_2 := D2.lt
  have l6_3 := D3.lt
  have l6_4 := D4.lt
  replace D0x := D0x.allocd (.cells #[.bool n1, .string s1, .int .i64 e1] 24)
  replace D1 := D1.allocd (.cells #[.bool n1, .string s1, .int .i64 e1] 24)
  replace D2 := D2.allocd (.cells #[.bool n1, .string s1, .int .i64 e1] 24)
  replace D3 := D3.allocd (.cells #[.bool n1, .string s1, .int .i64 e1] 24)
  replace D4 := D4.allocd (.cells #[.bool n1, .string s1, .int .i64 e1] 24)
  have D5 := DyAt.put w6 (n1) (s1) (e1)
  replace B0 := B0.alloc B0.size (.cells #[.bool n1, .string s1, .int .i64 e1] 24)
  obtain ⟨x00, x01, x02, -, -, -⟩ := id D0x
  obtain ⟨x10, x11, x12, -, -, -⟩ := id D1
  go_wp2_with fail
  (with_reducible refine (hrsub _).mono ?_)
  rintro r w7 ⟨rfl, hb7⟩
  clear x00 x01 x02
  clear x10 x11 x12
  replace D0x := D0x.keep hb7
  replace D1 := D1.keep hb7
  replace D2 := D2.keep hb7
  replace D3 := D3.keep hb7
  replace D4 := D4.keep hb7
  replace D5 := D5.keep hb7
  replace B0 := B0.trans (hb7.mono B0.size)
  clear hb7
  have l7_0 := D0x.lt
  have l7_1 := D1.lt
  have l7_2 := D2.lt
  have l7_3 := D3.lt
  have l7_4 := D4.lt
  have l7_5 := D5.lt
  replace D0x := D0x.allocd (.cells #[.bool n2, .string s2, .int .i64 e2] 24)
  replace D1 := D1.allocd (.cells #[.bool n2, .string s2, .int .i64 e2] 24)
  replace D2 := D2.allocd (.cells #[.bool n2, .string s2, .int .i64 e2] 24)
  replace D3 := D3.allocd (.cells #[.bool n2, .string s2, .int .i64 e2] 24)
  replace D4 := D4.allocd (.cells #[.bool n2, .string s2, .int .i64 e2] 24)
  replace D5 := D5.allocd (.cells #[.bool n2, .string s2, .int .i64 e2] 24)
  have D6 := DyAt.put w7 (n2) (s2) (e2)
  replace B0 := B0.alloc B0.size (.cells #[.bool n2, .string s2, .int .i64 e2] 24)
  obtain ⟨x00, x01, x02, -, -, -⟩ := id D0x
  obtain ⟨x10, x11, x12, -, -, -⟩ := id D1
  go_wp2_with fail
  (with_reducible refine (hrmul _).mono ?_)
  rintro r w8 ⟨rfl, hb8⟩
  clear x00 x01 x02
  clear x10 x11 x12
  replace D0x := D0x.keep hb8
  replace D1 := D1.keep hb8
  replace D2 := D2.keep hb8
  replace D3 := D3.keep hb8
  replace D4 := D4.keep hb8
  replace D5 := D5.keep hb8
  replace D6 := D6.keep hb8
  replace B0 := B0.trans (hb8.mono B0.size)
  clear hb8
  have l8_0 := D0x.lt
  have l8_1 := D1.lt
  have l8_2 := D2.lt
  have l8_3 := D3.lt
  have l8_4 := D4.lt
  have l8_5 := D5.lt
  have l8_6 := D6.lt
  replace D0x := D0x.allocd (.cells #[.bool n3, .string s3, .int .i64 e3] 24)
  replace D1 := D1.allocd (.cells #[.bool n3, .string s3, .int .i64 e3] 24)
  replace D2 := D2.allocd (.cells #[.bool n3, .string s3, .int .i64 e3] 24)
  replace D3 := D3.allocd (.cells #[.bool n3, .string s3, .int .i64 e3] 24)
  replace D4 := D4.allocd (.cells #[.bool n3, .string s3, .int .i64 e3] 24)
  replace D5 := D5.allocd (.cells #[.bool n3, .string s3, .int .i64 e3] 24)
  replace D6 := D6.allocd (.cells #[.bool n3, .string s3, .int .i64 e3] 24)
  have D7 := DyAt.put w8 (n3) (s3) (e3)
  replace B0 := B0.alloc B0.size (.cells #[.bool n3, .string s3, .int .i64 e3] 24)
  obtain ⟨x20, x21, x22, -, -, -⟩ := id D2
  obtain ⟨x30, x31, x32, -, -, -⟩ := id D3
  obtain ⟨x40, x41, x42, -, -, -⟩ := id D4
  obtain ⟨x50, x51, x52, -, -, -⟩ := id D5
  obtain ⟨x60, x61, x62, -, -, -⟩ := id D6
  obtain ⟨x70, x71, x72, -, -, -⟩ := id D7
  go_wp2_with fail
  (with_reducible refine (awake_any _ (hT.below B0)).mono ?_)
  rintro r w9 ⟨rfl, hb9⟩
  clear x20 x21 x22
  clear x30 x31 x32
  clear x40 x41 x42
  clear x50 x51 x52
  clear x60 x61 x62
  clear x70 x71 x72
  replace D0x := D0x.keep hb9
  replace D1 := D1.keep hb9
  replace D2 := D2.keep hb9
  replace D3 := D3.keep hb9
  replace D4 := D4.keep hb9
  replace D5 := D5.keep hb9
  replace D6 := D6.keep hb9
  replace D7 := D7.keep hb9
  replace B0 := B0.trans (hb9.mono B0.size)
  clear hb9
  have l9_0 := D0x.lt
  have l9_1 := D1.lt
  have l9_2 := D2.lt
  have l9_3 := D3.lt
  have l9_4 := D4.lt
  have l9_5 := D5.lt
  have l9_6 := D6.lt
  have l9_7 := D7.lt
  go_wp2
  go_ret
  exact ⟨rfl, B0⟩

theorem dyadSums_any (na : Bool) (sa : ByteArray) (ea : Int) (nb : Bool) (sb : ByteArray) (eb : Int) (w : World) (hT : Tab w) (hsa : sa.size ≤ 9223372036854775807) (hsb : sb.size ≤ 9223372036854775807) :
    Calls Tryd.prog 10 #[.agg #[.bool na, .string sa, .int .i64 ea], .agg #[.bool nb, .string sb, .int .i64 eb]] w fun r w' => r = .returned (.bool true) ∧ Below w.heap.size w w' := by
  cases ha : mayB na sa ea
  · exact sums_bad1 na sa ea nb sb eb w hT ha hsa hsb
  · cases hb : mayB nb sb eb
    · exact sums_bad2 na sa ea nb sb eb w hT ha hb hsa hsb
    · obtain ⟨xa, rfl, ka⟩ := ok_of_may ha
      obtain ⟨xb, rfl, kb⟩ := ok_of_may hb
      exact sums_ok na xa ea nb xb eb w hT ka kb
end Go.Proofs.YtgcifpjhhoalmaaDoor
