/- Merged: BK T1 -/
import Derived.Test.YtfbkopepkklkjaaGreatDoorBJ
import Derived.Test.YtfbkopepkklkjaaGreatDoorQ3
import Derived.Test.YtfbkopepkklkjaaGreatDoorH1

/- The walks over dyad.Make, the reference's Make and Of. -/
namespace Go.Proofs.YtfbkopepkklkjaaGreatDoor
open Go Go.RowKit Go.PlainAid Fil

set_option maxHeartbeats 2000000 in
theorem rmake_ok (neg : Bool) (x : Nat) (e : Int) (w : World) (hx : Fil.dn 8 x ≤ 16384) (he1 : -9223372036854775808 ≤ e) (he2 : e ≤ 9223372036854775807) :
  Calls Tryz.prog 68 #[.bool neg, .string (bstr x), .int .i64 e] w fun r w' => r = .returned (mkV (sz neg x) e) ∧ Below w.heap.size w w' := by
 have hsz := bstr_size x
 have hra := fun W => rof_any x W (by omega)
 have hfi := fun A c W hc (h : Slc W 3 A (Fil.dn 8 x) (i8 x)) => rfit_any neg A (Fil.dn 8 x) c x e W rfl hc (by omega) he1 he2 h
 unfold mkV at hfi ⊢
 unfold dyR at hfi ⊢
 generalize mkN (sz neg x) e = N at *
 generalize bstr (mkX (sz neg x) e) = S at *
 generalize mkE (sz neg x) e = E at *
 generalize mkR (sz neg x) e = R at *
 have hD := DyAt.put w false { data := #[] } 0
 have hB := (Below.refl w.heap.size w).alloc (Nat.le_refl _) (.cells #[.bool false, .string { data := #[] }, .int .i64 0] 24)
 have hb0 : 0 < Fil.dn 8 x → (bt (bstr x) 0 == 0) = false := fun hp => by
  rw [bstr_bt x 0 hp]
  have hx0 : x ≠ 0 := by rintro rfl; rw [dn_zero] at hp; omega
  have ht := dg_top (k := 8) (by omega) hx0
  rw [beq_eq_false_iff_ne, Nat.sub_zero]; omega
 have hgb := get_bt (bstr x)
 have n1 : (Fil.dn 8 x : Int) ≤ 16384 := by omega
 have d1 : decide (16384 < (Fil.dn 8 x : Int)) = false := decide_eq_false (by omega)
 have d2 : decide (16384 < Fil.dn 8 x) = false := decide_eq_false (by omega)
 obtain ⟨n, hn⟩ : ∃ n, n = Fil.dn 8 x := ⟨_, rfl⟩
 rw [← hn] at hsz hra hfi hb0 n1 d1 d2
 obtain ⟨s, hs⟩ : ∃ s, s = bstr x := ⟨_, rfl⟩
 rw [← hs] at hsz hra hb0 hgb ⊢
 clear hn hs hx
 by_cases hp : 0 < n
 ·have k0 := hb0 hp
  have k1 : decide (0 < n) = true := decide_eq_true hp
  have k2 : decide (0 < (n : Int)) = true := decide_eq_true (by omega)
  have k3 : 0 < s.size := by rw [hsz]; exact hp
  clear hb0
  go_enter Tryz.func68, Tryz.ntmps68
  go_wp2_with fail
  (with_reducible refine (hra _).mono ?_)
  rintro r w1 ⟨v, rfl, hown, hb1⟩
  obtain ⟨A, c, rfl, hnc, hsl⟩ := Own.slc hown
  have hs0 : Slc w1 3 A n (i8 x) := hsl
  replace hD := hD.keep hb1
  replace hB := hB.trans (hb1.mono hB.size)
  clear hown hsl hb1 hra
  go_wp2_with fail
  (with_reducible refine (hfi A c w1 hnc hs0).mono ?_)
  rintro r w2 ⟨rfl, hb2⟩
  replace hD := hD.keep hb2
  replace hB := hB.trans (hb2.mono hB.size)
  obtain ⟨c0, c1, c2, f0, f1, f2⟩ := hD
  have hbZ : Below w.heap.size w (((w2.setCell ⟨w.heap.size, 0, none⟩ (.bool N)).setCell ⟨w.heap.size, 1, none⟩ (.string S)).setCell ⟨w.heap.size, 2, none⟩ (.int .i64 E)) := ((hB.setCell (Nat.le_refl _) _).setCell (Nat.le_refl _) _).setCell (Nat.le_refl _) _
  clear hb2 hs0 hB
  go_wp2
  exact bodyPost_ret (v := .tuple #[.agg #[.bool N, .string S, .int .i64 E], .int .i64 R]) (by simp [results, Tryz.results68, go_sem, c0, c1, c2]) rfl ⟨rfl, hbZ⟩
 ·have k1 : decide (0 < n) = false := decide_eq_false hp
  have k2 : decide (0 < (n : Int)) = false := decide_eq_false (by omega)
  clear hb0
  go_enter Tryz.func68, Tryz.ntmps68
  go_wp2_with fail
  (with_reducible refine (hra _).mono ?_)
  rintro r w1 ⟨v, rfl, hown, hb1⟩
  obtain ⟨A, c, rfl, hnc, hsl⟩ := Own.slc hown
  have hs0 : Slc w1 3 A n (i8 x) := hsl
  replace hD := hD.keep hb1
  replace hB := hB.trans (hb1.mono hB.size)
  clear hown hsl hb1 hra
  go_wp2_with fail
  (with_reducible refine (hfi A c w1 hnc hs0).mono ?_)
  rintro r w2 ⟨rfl, hb2⟩
  replace hD := hD.keep hb2
  replace hB := hB.trans (hb2.mono hB.size)
  obtain ⟨c0, c1, c2, f0, f1, f2⟩ := hD
  have hbZ : Below w.heap.size w (((w2.setCell ⟨w.heap.size, 0, none⟩ (.bool N)).setCell ⟨w.heap.size, 1, none⟩ (.string S)).setCell ⟨w.heap.size, 2, none⟩ (.int .i64 E)) := ((hB.setCell (Nat.le_refl _) _).setCell (Nat.le_refl _) _).setCell (Nat.le_refl _) _
  clear hb2 hs0 hB
  go_wp2
  exact bodyPost_ret (v := .tuple #[.agg #[.bool N, .string S, .int .i64 E], .int .i64 R]) (by simp [results, Tryz.results68, go_sem, c0, c1, c2]) rfl ⟨rfl, hbZ⟩

set_option maxHeartbeats 2000000 in
theorem rof2_any (z e : Int) (w : World) (h0 : -9223372036854775808 ≤ z) (h1 : z ≤ 9223372036854775807) (he1 : -9223372036854775808 ≤ e) (he2 : e ≤ 9223372036854775807) :
  Calls Tryz.prog 35 #[.int .i64 z, .int .i64 e] w fun r w' => r = .returned (mkV z e) ∧ Below w.heap.size w w' := by
 obtain ⟨x, hx⟩ : ∃ x, x = z.natAbs := ⟨_, rfl⟩
 have hxb : x < 18446744073709551616 := by omega
 have h8 : Fil.dn 8 x ≤ 16384 := Nat.le_trans (dn_le (n := 8) (by omega) (by omega)) (by omega)
 have h2 := fun W => r2of_any x W hxb
 have hD := DyAt.put w false { data := #[] } 0
 have hB := (Below.refl w.heap.size w).alloc (Nat.le_refl _) (.cells #[.bool false, .string { data := #[] }, .int .i64 0] 24)
 by_cases hz : z < 0
 ·have hm := fun W => rmake_ok true x e W h8 he1 he2
  rw [show sz true x = z by unfold sz; simp; omega] at hm
  have d1 : decide (z < 0) = true := decide_eq_true hz
  have e1 : IntKind.u64.wrap (-IntKind.u64.wrap z) = (x : Int) := by rw [IntKind.wrap_u64, IntKind.wrap_u64]; omega
  unfold mkV at hm ⊢
  unfold dyR at hm ⊢
  generalize mkN z e = N at *
  generalize bstr (mkX z e) = S at *
  generalize mkE z e = E at *
  generalize mkR z e = R at *
  clear hx hxb h8 hz
  go_enter Tryz.func35, Tryz.ntmps35
  go_wp2_with fail
  (with_reducible refine (h2 _).mono ?_)
  rintro r w1 ⟨rfl, hb1⟩
  replace hD := hD.keep hb1
  replace hB := hB.trans (hb1.mono hB.size)
  clear hb1
  go_wp2_with fail
  (with_reducible refine (hm _).mono ?_)
  rintro r w2 ⟨rfl, hb2⟩
  replace hD := hD.keep hb2
  replace hB := hB.trans (hb2.mono hB.size)
  obtain ⟨c0, c1, c2, f0, f1, f2⟩ := hD
  have hbZ : Below w.heap.size w (((w2.setCell ⟨w.heap.size, 0, none⟩ (.bool N)).setCell ⟨w.heap.size, 1, none⟩ (.string S)).setCell ⟨w.heap.size, 2, none⟩ (.int .i64 E)) := ((hB.setCell (Nat.le_refl _) _).setCell (Nat.le_refl _) _).setCell (Nat.le_refl _) _
  clear hb2 hB
  go_wp2
  exact bodyPost_ret (v := .tuple #[.agg #[.bool N, .string S, .int .i64 E], .int .i64 R]) (by simp [results, Tryz.results35, go_sem, c0, c1, c2]) rfl ⟨rfl, hbZ⟩
 ·have hm := fun W => rmake_ok false x e W h8 he1 he2
  rw [show sz false x = z by unfold sz; simp; omega] at hm
  have d1 : decide (z < 0) = false := decide_eq_false hz
  have hzx : z = (x : Int) := by omega
  have e1 : IntKind.u64.wrap (x : Int) = (x : Int) := by rw [IntKind.wrap_u64]; omega
  have x0 : 0 ≤ (x : Int) := by omega
  have x1 : (x : Int) ≤ 9223372036854775807 := by omega
  unfold mkV at hm ⊢
  unfold dyR at hm ⊢
  generalize mkN z e = N at *
  generalize bstr (mkX z e) = S at *
  generalize mkE z e = E at *
  generalize mkR z e = R at *
  subst hzx
  clear hx hxb h8 hz
  go_enter Tryz.func35, Tryz.ntmps35
  go_wp2_with fail
  (with_reducible refine (h2 _).mono ?_)
  rintro r w1 ⟨rfl, hb1⟩
  replace hD := hD.keep hb1
  replace hB := hB.trans (hb1.mono hB.size)
  clear hb1
  go_wp2_with fail
  (with_reducible refine (hm _).mono ?_)
  rintro r w2 ⟨rfl, hb2⟩
  replace hD := hD.keep hb2
  replace hB := hB.trans (hb2.mono hB.size)
  obtain ⟨c0, c1, c2, f0, f1, f2⟩ := hD
  have hbZ : Below w.heap.size w (((w2.setCell ⟨w.heap.size, 0, none⟩ (.bool N)).setCell ⟨w.heap.size, 1, none⟩ (.string S)).setCell ⟨w.heap.size, 2, none⟩ (.int .i64 E)) := ((hB.setCell (Nat.le_refl _) _).setCell (Nat.le_refl _) _).setCell (Nat.le_refl _) _
  clear hb2 hB
  go_wp2
  exact bodyPost_ret (v := .tuple #[.agg #[.bool N, .string S, .int .i64 E], .int .i64 R]) (by simp [results, Tryz.results35, go_sem, c0, c1, c2]) rfl ⟨rfl, hbZ⟩
end Go.Proofs.YtfbkopepkklkjaaGreatDoor

/- The reference of layer 24: side, May, on, below, Cell. -/
namespace Go.Proofs.YtfbkopepkklkjaaGreatDoor
open Go Go.RowKit Go.PlainAid Fil

theorem rside_any (e : Int) (w : World) : Calls Tryz.prog 27 #[.int .i64 e] w fun r w' => r = .returned (.bool (sideB e)) ∧ Below w.heap.size w w' := by
 have B0 := Below.refl w.heap.size w
 unfold sideB
 by_cases h1 : -4096 ≤ e
 ·by_cases h2 : e ≤ 4096
  ·rw [decide_eq_true h1, decide_eq_true h2]
   go_enter Tryz.func27, Tryz.ntmps27
   go_wp2
   go_ret
   exact ⟨rfl, B0⟩
  ·rw [decide_eq_true h1, decide_eq_false h2]
   go_enter Tryz.func27, Tryz.ntmps27
   go_wp2
   go_ret
   exact ⟨rfl, B0⟩
 ·rw [decide_eq_false h1, Bool.false_and]
  go_enter Tryz.func27, Tryz.ntmps27
  go_wp2
  go_ret
  exact ⟨rfl, B0⟩
theorem rcof (z f : Int) (w : World) (h0 : -9223372036854775808 ≤ z) (h1 : z ≤ 9223372036854775807) (he1 : -9223372036854775808 ≤ f) (he2 : f ≤ 9223372036854775807) :
  Calls Tryz.prog 35 #[.int .i64 z, .int .i64 f] w fun r w' => r = .returned (.tuple #[.agg #[.bool (mkD z f, mkR z f).1.n, .string (bstr (mkD z f, mkR z f).1.x), .int .i64 (mkD z f, mkR z f).1.e], .int .i64 (mkD z f, mkR z f).2]) ∧ Below w.heap.size w w' := rof2_any z f w h0 h1 he1 he2

set_option maxRecDepth 10000 in
set_option maxHeartbeats 4000000 in
theorem ron_w (d : DY) (n : Int) (e : Int) (p : DY × Int) (R : DY × Int) (E_p : (mkD n e, mkR n e) = p) (E_R : yAdd d p.1 = R) (w : World) (ok_d : d.ok) (n1 : -549755813888 ≤ n) (n2 : n ≤ 549755813888) (e1 : -10000 ≤ e) (e2 : e ≤ 10000) :
  Calls Tryz.prog 34 #[.agg #[.bool d.n, .string (bstr d.x), .int .i64 d.e], .int .i64 n, .int .i64 e] w fun r w' => r = .returned (.tuple #[.agg #[.bool R.1.n, .string (bstr R.1.x), .int .i64 R.1.e], .int .i64 R.2]) ∧ Below w.heap.size w w' := by
 have ok_p : p.1.ok := E_p ▸ mkD_ok _ _
 have h1 := fun W => rcof n e W (by omega) (by omega) (by omega) (by omega)
 rw [E_p] at h1
 have h2 := fun W => rcadd d p.1 W ok_d ok_p
 rw [E_R] at h2
 clear E_p E_R ok_p ok_d
 obtain ⟨dn, dX, de⟩ := d
 obtain ⟨⟨pn, pX, pe⟩, pr⟩ := p
 obtain ⟨⟨Rn, RX, Re⟩, Rr⟩ := R
 dsimp only at *
 generalize bstr dX = dS at *
 generalize bstr pX = pS at *
 generalize bstr RX = RS at *
 clear n1 n2 e1 e2
 go_enter Tryz.func34, Tryz.ntmps34
 have B0 := Below.refl w.heap.size w
 have F3 := Blk.put (w) #[.bool dn, .string dS, .int .i64 de] 24
 replace B0 := B0.alloc B0.size (.cells #[.bool dn, .string dS, .int .i64 de] 24)
 have q_w_F6 : Hid (w.heap.size ≤ w.heap.size + 1) := Lib.hid (by omega)
 replace F3 := F3.allocd (.cells #[.bool false, .string { data := #[] }, .int .i64 0] 24)
 have F6 := Blk.put ((w).alloc (.cells #[.bool dn, .string dS, .int .i64 de] 24)) #[.bool false, .string { data := #[] }, .int .i64 0] 24
 rw [show ((w).alloc (.cells #[.bool dn, .string dS, .int .i64 de] 24)).heap.size = w.heap.size + 1 by simp] at F6
 replace B0 := B0.alloc B0.size (.cells #[.bool false, .string { data := #[] }, .int .i64 0] 24)
 go_wp2_with fail
 (with_reducible refine (h1 _).mono ?_)
 rintro r w1 ⟨rfl, hb1⟩
 replace F3 := F3.keep hb1
 replace F6 := F6.keep hb1
 replace B0 := B0.trans (hb1.mono B0.size)
 clear hb1
 replace F3 := F3.allocd (.cells #[.bool pn, .string pS, .int .i64 pe] 24)
 replace F6 := F6.allocd (.cells #[.bool pn, .string pS, .int .i64 pe] 24)
 have F8 := Blk.put (w1) #[.bool pn, .string pS, .int .i64 pe] 24
 replace B0 := B0.alloc B0.size (.cells #[.bool pn, .string pS, .int .i64 pe] 24)
 obtain ⟨xF31_0, xF31_1, xF31_2⟩ := F3.ce3
 obtain ⟨xF81_0, xF81_1, xF81_2⟩ := F8.ce3
 go_wp2_with fail
 (with_reducible refine (h2 _).mono ?_)
 rintro r w2 ⟨rfl, hb2⟩
 clear xF31_0 xF31_1 xF31_2 xF81_0 xF81_1 xF81_2
 replace F3 := F3.keep hb2
 replace F6 := F6.keep hb2
 replace F8 := F8.keep hb2
 replace B0 := B0.trans (hb2.mono B0.size)
 clear hb2
 obtain ⟨xF62_0, xF62_1, xF62_2⟩ := F6.ce3
 obtain ⟨xF62_0f, xF62_1f, xF62_2f⟩ := F6.fr3
 clear F3
 clear F8
 replace F6 : Blk ((((w2).setCell ⟨w.heap.size + 1, 0, none⟩ (.bool Rn)).setCell ⟨w.heap.size + 1, 1, none⟩ (.string RS)).setCell ⟨w.heap.size + 1, 2, none⟩ (.int .i64 Re)) (w.heap.size + 1) #[.bool Rn, .string RS, .int .i64 Re] 24 := (((F6.setAt 0 (.bool Rn)).setAt 1 (.string RS)).setAt 2 (.int .i64 Re))
 replace B0 := (((B0.setCell (p := ⟨w.heap.size + 1, 0, none⟩) q_w_F6.out (.bool Rn)).setCell (p := ⟨w.heap.size + 1, 1, none⟩) q_w_F6.out (.string RS)).setCell (p := ⟨w.heap.size + 1, 2, none⟩) q_w_F6.out (.int .i64 Re))
 obtain ⟨xF63_0, xF63_1, xF63_2⟩ := F6.ce3
 go_wp2
 exact bodyPost_ret (v := .tuple #[.agg #[.bool Rn, .string RS, .int .i64 Re], .int .i64 Rr]) (by simp [results, Tryz.results34, go_sem, xF63_0, xF63_1, xF63_2]) rfl ⟨rfl, B0⟩

theorem ron (d : DY) (n e : Int) (w : World) (hd : d.ok) (n1 : -549755813888 ≤ n) (n2 : n ≤ 549755813888) (e1 : -10000 ≤ e) (e2 : e ≤ 10000) :
  Calls Tryz.prog 34 #[.agg #[.bool d.n, .string (bstr d.x), .int .i64 d.e], .int .i64 n, .int .i64 e] w fun r w' => r = .returned (.tuple #[.agg #[.bool (vM d n e).1.n, .string (bstr (vM d n e).1.x), .int .i64 (vM d n e).1.e], .int .i64 (vM d n e).2]) ∧ Below w.heap.size w w' :=
 ron_w d n e _ _ rfl rfl w hd n1 n2 e1 e2

end Go.Proofs.YtfbkopepkklkjaaGreatDoor
