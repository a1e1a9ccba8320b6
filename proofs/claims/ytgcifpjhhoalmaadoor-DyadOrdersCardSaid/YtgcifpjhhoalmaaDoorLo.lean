/- The walk over filigreelaw03.DyadOrders. -/
import Derived.Test.YtgcifpjhhoalmaaDoorBM
namespace Go.Proofs.YtgcifpjhhoalmaaDoor
open Go Go.RowKit Go.PlainAid Fil

set_option maxHeartbeats 4000000 in
theorem orders_bad1 (na : Bool) (sa : ByteArray) (ea : Int) (nb : Bool) (sb : ByteArray) (eb : Int) (x : Nat) (w : World) (hT : Tab w) (ha : mayB na sa ea = false) (hsa : sa.size ≤ 9223372036854775807) (hsb : sb.size ≤ 9223372036854775807) :
    Calls Tryd.prog 13 #[.agg #[.bool na, .string sa, .int .i64 ea], .agg #[.bool nb, .string sb, .int .i64 eb], .float .f64 x] w fun r w' => r = .returned (.bool true) ∧ Below w.heap.size w w' := by
  have hma := fun W => rmay_any na sa ea W hsa
  rw [ha] at hma
  have hcm := fun W => dcmp_bad na sa ea nb sb eb W (by rw [ha]; rfl) hsa hsb
  have hag := fun W => dagainst_bad na sa ea x W ha hsa
  clear ha hsa hsb
  have D0 := DyAt.put (w) (na) (sa) (ea)
  have D0x := D0.allocd (.cells #[.bool nb, .string sb, .int .i64 eb] 24)
  have D1 := DyAt.put ((w).alloc (.cells #[.bool na, .string sa, .int .i64 ea] 24)) (nb) (sb) (eb)
  rw [show ((w).alloc (.cells #[.bool na, .string sa, .int .i64 ea] 24)).heap.size = w.heap.size + 1 by simp] at D1
  have B0 := ((Below.refl w.heap.size w).alloc (by first | exact Nat.le_refl _ | (simp; done) | (simp; omega)) (.cells #[.bool na, .string sa, .int .i64 ea] 24)).alloc (by first | exact Nat.le_refl _ | (simp; done) | (simp; omega)) (.cells #[.bool nb, .string sb, .int .i64 eb] 24)
  go_enter Tryd.func13, Tryd.ntmps13
  obtain ⟨x00, x01, x02, -, -, -⟩ := id D0x
  obtain ⟨x10, x11, x12, -, -, -⟩ := id D1
  go_wp2_with fail
  (with_reducible refine (hcm _).mono ?_)
  rintro r w1 ⟨rfl, hb1⟩
  clear x00 x01 x02
  clear x10 x11 x12
  replace D0x := D0x.keep hb1
  replace D1 := D1.keep hb1
  replace B0 := B0.trans (hb1.mono B0.size)
  clear hb1
  have l1_0 := D0x.lt
  have l1_1 := D1.lt
  obtain ⟨x00, x01, x02, -, -, -⟩ := id D0x
  go_wp2_with fail
  (with_reducible refine (hag _).mono ?_)
  rintro r w2 ⟨rfl, hb2⟩
  clear x00 x01 x02
  replace D0x := D0x.keep hb2
  replace D1 := D1.keep hb2
  replace B0 := B0.trans (hb2.mono B0.size)
  clear hb2
  have l2_0 := D0x.lt
  have l2_1 := D1.lt
  obtain ⟨x00, x01, x02, -, -, -⟩ := id D0x
  go_wp2_with fail
  (with_reducible refine (hma _).mono ?_)
  rintro r w3 ⟨rfl, hb3⟩
  clear x00 x01 x02
  replace D0x := D0x.keep hb3
  replace D1 := D1.keep hb3
  replace B0 := B0.trans (hb3.mono B0.size)
  clear hb3
  have l3_0 := D0x.lt
  have l3_1 := D1.lt
  go_wp2_with fail
  (with_reducible refine (awake_any _ (hT.below B0)).mono ?_)
  rintro r w4 ⟨rfl, hb4⟩
  replace D0x := D0x.keep hb4
  replace D1 := D1.keep hb4
  replace B0 := B0.trans (hb4.mono B0.size)
  clear hb4
  have l4_0 := D0x.lt
  have l4_1 := D1.lt
  go_wp2
  go_ret
  exact ⟨rfl, B0⟩

set_option maxHeartbeats 4000000 in
theorem orders_bad2 (na : Bool) (xa : Nat) (ea : Int) (nb : Bool) (sb : ByteArray) (eb : Int) (x : Nat) (w : World) (hT : Tab w) (ha : okD na xa ea) (hb : mayB nb sb eb = false) (hsb : sb.size ≤ 9223372036854775807) (hx : x < 18446744073709551616) :
    Calls Tryd.prog 13 #[.agg #[.bool na, .string (bstr xa), .int .i64 ea], .agg #[.bool nb, .string sb, .int .i64 eb], .float .f64 x] w fun r w' => r = .returned (.bool true) ∧ Below w.heap.size w w' := by
  have hma := fun W => rmay_any na (bstr xa) ea W (bstr_len ha)
  rw [mayB_ok ha] at hma
  have hmb := fun W => rmay_any nb sb eb W hsb
  rw [hb] at hmb
  have hcm := fun W => dcmp_bad na (bstr xa) ea nb sb eb W (by rw [hb, Bool.and_false]) (bstr_len ha) hsb
  have hag := fun W hW => dagainst_ok na xa ea x W ha hx hW
  have hra := fun W => ragainst_ok na xa ea x W ha hx
  generalize agV (sz na xa) ea x = V at *
  generalize agE x = E at *
  clear ha hb hsb hx
  have D0 := DyAt.put (w) (na) ((bstr xa)) (ea)
  have D0x := D0.allocd (.cells #[.bool nb, .string sb, .int .i64 eb] 24)
  have D1 := DyAt.put ((w).alloc (.cells #[.bool na, .string (bstr xa), .int .i64 ea] 24)) (nb) (sb) (eb)
  rw [show ((w).alloc (.cells #[.bool na, .string (bstr xa), .int .i64 ea] 24)).heap.size = w.heap.size + 1 by simp] at D1
  have B0 := ((Below.refl w.heap.size w).alloc (by first | exact Nat.le_refl _ | (simp; done) | (simp; omega)) (.cells #[.bool na, .string (bstr xa), .int .i64 ea] 24)).alloc (by first | exact Nat.le_refl _ | (simp; done) | (simp; omega)) (.cells #[.bool nb, .string sb, .int .i64 eb] 24)
  go_enter Tryd.func13, Tryd.ntmps13
  obtain ⟨x00, x01, x02, -, -, -⟩ := id D0x
  obtain ⟨x10, x11, x12, -, -, -⟩ := id D1
  go_wp2_with fail
  (with_reducible refine (hcm _).mono ?_)
  rintro r w1 ⟨rfl, hb1⟩
  clear x00 x01 x02
  clear x10 x11 x12
  replace D0x := D0x.keep hb1
  replace D1 := D1.keep hb1
  replace B0 := B0.trans (hb1.mono B0.size)
  clear hb1
  have l1_0 := D0x.lt
  have l1_1 := D1.lt
  obtain ⟨x00, x01, x02, -, -, -⟩ := id D0x
  go_wp2_with fail
  (with_reducible refine (hag _ (hT.below B0)).mono ?_)
  rintro r w2 ⟨rfl, hb2⟩
  clear x00 x01 x02
  replace D0x := D0x.keep hb2
  replace D1 := D1.keep hb2
  replace B0 := B0.trans (hb2.mono B0.size)
  clear hb2
  have l2_0 := D0x.lt
  have l2_1 := D1.lt
  obtain ⟨x00, x01, x02, -, -, -⟩ := id D0x
  go_wp2_with fail
  (with_reducible refine (hma _).mono ?_)
  rintro r w3 ⟨rfl, hb3⟩
  clear x00 x01 x02
  replace D0x := D0x.keep hb3
  replace D1 := D1.keep hb3
  replace B0 := B0.trans (hb3.mono B0.size)
  clear hb3
  have l3_0 := D0x.lt
  have l3_1 := D1.lt
  obtain ⟨x00, x01, x02, -, -, -⟩ := id D0x
  go_wp2_with fail
  (with_reducible refine (hra _).mono ?_)
  rintro r w4 ⟨rfl, hb4⟩
  clear x00 x01 x02
  replace D0x := D0x.keep hb4
  replace D1 := D1.keep hb4
  replace B0 := B0.trans (hb4.mono B0.size)
  clear hb4
  have l4_0 := D0x.lt
  have l4_1 := D1.lt
  obtain ⟨x10, x11, x12, -, -, -⟩ := id D1
  go_wp2_with fail
  (with_reducible refine (hmb _).mono ?_)
  rintro r w5 ⟨rfl, hb5⟩
  clear x10 x11 x12
  replace D0x := D0x.keep hb5
  replace D1 := D1.keep hb5
  replace B0 := B0.trans (hb5.mono B0.size)
  clear hb5
  have l5_0 := D0x.lt
  have l5_1 := D1.lt
  go_wp2_with fail
  (with_reducible refine (awake_any _ (hT.below B0)).mono ?_)
  rintro r w6 ⟨rfl, hb6⟩
  replace D0x := D0x.keep hb6
  replace D1 := D1.keep hb6
  replace B0 := B0.trans (hb6.mono B0.size)
  clear hb6
  have l6_0 := D0x.lt
  have l6_1 := D1.lt
  go_wp2
  go_ret
  exact ⟨rfl, B0⟩

set_option maxHeartbeats 4000000 in
theorem orders_ok (na : Bool) (xa : Nat) (ea : Int) (nb : Bool) (xb : Nat) (eb : Int) (x : Nat) (w : World) (hT : Tab w) (ha : okD na xa ea) (hb : okD nb xb eb) (hx : x < 18446744073709551616) :
    Calls Tryd.prog 13 #[.agg #[.bool na, .string (bstr xa), .int .i64 ea], .agg #[.bool nb, .string (bstr xb), .int .i64 eb], .float .f64 x] w fun r w' => r = .returned (.bool true) ∧ Below w.heap.size w w' := by
  have hma := fun W => rmay_any na (bstr xa) ea W (bstr_len ha)
  rw [mayB_ok ha] at hma
  have hmb := fun W => rmay_any nb (bstr xb) eb W (bstr_len hb)
  rw [mayB_ok hb] at hmb
  have hcm := fun W => dcmp_ok na xa ea nb xb eb W ha hb
  have hrc := fun W => rcmpd_ok na xa ea nb xb eb W ha hb
  have hag := fun W hW => dagainst_ok na xa ea x W ha hx hW
  have hra := fun W => ragainst_ok na xa ea x W ha hx
  generalize cmpD (sz na xa) ea (sz nb xb) eb = C at *
  generalize agV (sz na xa) ea x = V at *
  generalize agE x = E at *
  clear ha hb hx
  have D0 := DyAt.put (w) (na) ((bstr xa)) (ea)
  have D0x := D0.allocd (.cells #[.bool nb, .string (bstr xb), .int .i64 eb] 24)
  have D1 := DyAt.put ((w).alloc (.cells #[.bool na, .string (bstr xa), .int .i64 ea] 24)) (nb) ((bstr xb)) (eb)
  rw [show ((w).alloc (.cells #[.bool na, .string (bstr xa), .int .i64 ea] 24)).heap.size = w.heap.size + 1 by simp] at D1
  have B0 := ((Below.refl w.heap.size w).alloc (by first | exact Nat.le_refl _ | (simp; done) | (simp; omega)) (.cells #[.bool na, .string (bstr xa), .int .i64 ea] 24)).alloc (by first | exact Nat.le_refl _ | (simp; done) | (simp; omega)) (.cells #[.bool nb, .string (bstr xb), .int .i64 eb] 24)
  go_enter Tryd.func13, Tryd.ntmps13
  obtain ⟨x00, x01, x02, -, -, -⟩ := id D0x
  obtain ⟨x10, x11, x12, -, -, -⟩ := id D1
  go_wp2_with fail
  (with_reducible refine (hcm _).mono ?_)
  rintro r w1 ⟨rfl, hb1⟩
  clear x00 x01 x02
  clear x10 x11 x12
  replace D0x := D0x.keep hb1
  replace D1 := D1.keep hb1
  replace B0 := B0.trans (hb1.mono B0.size)
  clear hb1
  have l1_0 := D0x.lt
  have l1_1 := D1.lt
  obtain ⟨x00, x01, x02, -, -, -⟩ := id D0x
  go_wp2_with fail
  (with_reducible refine (hag _ (hT.below B0)).mono ?_)
  rintro r w2 ⟨rfl, hb2⟩
  clear x00 x01 x02
  replace D0x := D0x.keep hb2
  replace D1 := D1.keep hb2
  replace B0 := B0.trans (hb2.mono B0.size)
  clear hb2
  have l2_0 := D0x.lt
  have l2_1 := D1.lt
  obtain ⟨x00, x01, x02, -, -, -⟩ := id D0x
  go_wp2_with fail
  (with_reducible refine (hma _).mono ?_)
  rintro r w3 ⟨rfl, hb3⟩
  clear x00 x01 x02
  replace D0x := D0x.keep hb3
  replace D1 := D1.keep hb3
  replace B0 := B0.trans (hb3.mono B0.size)
  clear hb3
  have l3_0 := D0x.lt
  have l3_1 := D1.lt
  obtain ⟨x00, x01, x02, -, -, -⟩ := id D0x
  go_wp2_with fail
  (with_reducible refine (hra _).mono ?_)
  rintro r w4 ⟨rfl, hb4⟩
  clear x00 x01 x02
  replace D0x := D0x.keep hb4
  replace D1 := D1.keep hb4
  replace B0 := B0.trans (hb4.mono B0.size)
  clear hb4
  have l4_0 := D0x.lt
  have l4_1 := D1.lt
  obtain ⟨x10, x11, x12, -, -, -⟩ := id D1
  go_wp2_with fail
  (with_reducible refine (hmb _).mono ?_)
  rintro r w5 ⟨rfl, hb5⟩
  clear x10 x11 x12
  replace D0x := D0x.keep hb5
  replace D1 := D1.keep hb5
  replace B0 := B0.trans (hb5.mono B0.size)
  clear hb5
  have l5_0 := D0x.lt
  have l5_1 := D1.lt
  obtain ⟨x00, x01, x02, -, -, -⟩ := id D0x
  obtain ⟨x10, x11, x12, -, -, -⟩ := id D1
  go_wp2_with fail
  (with_reducible refine (hrc _).mono ?_)
  rintro r w6 ⟨rfl, hb6⟩
  clear x00 x01 x02
  clear x10 x11 x12
  replace D0x := D0x.keep hb6
  replace D1 := D1.keep hb6
  replace B0 := B0.trans (hb6.mono B0.size)
  clear hb6
  have l6_0 := D0x.lt
  have l6_1 := D1.lt
  go_wp2_with fail
  (with_reducible refine (awake_any _ (hT.below B0)).mono ?_)
  rintro r w7 ⟨rfl, hb7⟩
  replace D0x := D0x.keep hb7
  replace D1 := D1.keep hb7
  replace B0 := B0.trans (hb7.mono B0.size)
  clear hb7
  have l7_0 := D0x.lt
  have l7_1 := D1.lt
  go_wp2
  go_ret
  exact ⟨rfl, B0⟩

theorem dyadOrders_any (na : Bool) (sa : ByteArray) (ea : Int) (nb : Bool) (sb : ByteArray) (eb : Int) (x : Nat) (w : World) (hT : Tab w) (hsa : sa.size ≤ 9223372036854775807) (hsb : sb.size ≤ 9223372036854775807) (hx : x < 18446744073709551616) :
    Calls Tryd.prog 13 #[.agg #[.bool na, .string sa, .int .i64 ea], .agg #[.bool nb, .string sb, .int .i64 eb], .float .f64 x] w fun r w' => r = .returned (.bool true) ∧ Below w.heap.size w w' := by
  cases ha : mayB na sa ea
  · exact orders_bad1 na sa ea nb sb eb x w hT ha hsa hsb
  · obtain ⟨xa, rfl, ka⟩ := ok_of_may ha
    cases hb : mayB nb sb eb
    · exact orders_bad2 na xa ea nb sb eb x w hT ka hb hsb hx
    · obtain ⟨xb, rfl, kb⟩ := ok_of_may hb
      exact orders_ok na xa ea nb xb eb x w hT ka kb hx
end Go.Proofs.YtgcifpjhhoalmaaDoor
