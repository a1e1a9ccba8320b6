/- filigreelaw24.awake: a cell is told, found, covered. -/
import Derived.Test.YtfbkopepkklkjaaGreatDoorQ9
import Derived.Test.YtfbkopepkklkjaaGreatDoorV4
namespace Go.Proofs.YtfbkopepkklkjaaGreatDoor
open Go Go.RowKit Go.PlainAid Fil


set_option maxRecDepth 10000 in
set_option maxHeartbeats 4000000 in
theorem aw_make  (w : World)  (hT : Tab w) :
  Calls Tryz.prog 30 #[.complex .f64 0 0, .int .i64 (-1), .int .i64 4, .int .i64 2] w fun r w' => r = .returned (.tuple #[.agg #[.bool false, .string { data := #[] }, .int .i64 0, .bool false, .string { data := #[] }, .int .i64 0, .int .i64 (-1), .int .i64 4, .int .i64 2], .int .i64 0]) ∧ Below w.heap.size w w' := by
 have h1 := fun W hW => gcomplex_w 0 0 DY.zero DY.zero (by kernel_rfl) (by kernel_rfl) W (by omega) (by decide) (by omega) (by decide) hW
 have h2 := fun W => vside_any (-1) W
 have h3 := fun W => vcount_any 4 W
 have h4 := fun W => vcount_any 2 W
 rw [show bstr DY.zero.x = { data := #[] } from bstr_zero, show DY.zero.n = false from rfl, show DY.zero.e = 0 from rfl] at h1
 rw [show sideB (-1) = true from by decide] at h2
 rw [show countB 4 = true from by decide] at h3
 rw [show countB 2 = true from by decide] at h4
 go_enter Tryz.func30, Tryz.ntmps30
 have B0 := Below.refl w.heap.size w
 have q_w_F8 : Hid (w.heap.size ≤ w.heap.size) := Lib.hid (by omega)
 have F8 := Blk.put (w) #[.bool false, .string { data := #[] }, .int .i64 0, .bool false, .string { data := #[] }, .int .i64 0, .int .i64 0, .int .i64 0, .int .i64 0] 74
 replace B0 := B0.alloc B0.size (.cells #[.bool false, .string { data := #[] }, .int .i64 0, .bool false, .string { data := #[] }, .int .i64 0, .int .i64 0, .int .i64 0, .int .i64 0] 74)
 go_wp2_with fail
 (with_reducible refine (h1 _ (hT.below B0)).mono ?_)
 rintro r w1 ⟨rfl, hb1⟩
 replace F8 := F8.keep hb1
 replace B0 := B0.trans (hb1.mono B0.size)
 clear hb1
 have q_F8_F10 : Hid (w.heap.size < w1.heap.size) := Lib.hid (by have := F8.lt; first | exact this | omega | (simp; done) | simpa using this)
 replace F8 := F8.allocd (.cells #[.bool false, .string { data := #[] }, .int .i64 0, .bool false, .string { data := #[] }, .int .i64 0] 28)
 have F10 := Blk.put (w1) #[.bool false, .string { data := #[] }, .int .i64 0, .bool false, .string { data := #[] }, .int .i64 0] 28
 replace B0 := B0.alloc B0.size (.cells #[.bool false, .string { data := #[] }, .int .i64 0, .bool false, .string { data := #[] }, .int .i64 0] 28)
 go_wp2_with fail
 (with_reducible refine (h2 _).mono ?_)
 rintro r w2 ⟨rfl, hb2⟩
 replace F8 := F8.keep hb2
 replace F10 := F10.keep hb2
 replace B0 := B0.trans (hb2.mono B0.size)
 clear hb2
 go_wp2_with fail
 (with_reducible refine (h3 _).mono ?_)
 rintro r w3 ⟨rfl, hb3⟩
 replace F8 := F8.keep hb3
 replace F10 := F10.keep hb3
 replace B0 := B0.trans (hb3.mono B0.size)
 clear hb3
 go_wp2_with fail
 (with_reducible refine (h4 _).mono ?_)
 rintro r w4 ⟨rfl, hb4⟩
 replace F8 := F8.keep hb4
 replace F10 := F10.keep hb4
 replace B0 := B0.trans (hb4.mono B0.size)
 clear hb4
 obtain ⟨xF104_0, xF104_1, xF104_2, xF104_3, xF104_4, xF104_5⟩ := F10.ce6
 obtain ⟨xF84_0, xF84_1, xF84_2, xF84_3, xF84_4, xF84_5, xF84_6, xF84_7, xF84_8⟩ := F8.ce9
 obtain ⟨xF84_0f, xF84_1f, xF84_2f, xF84_3f, xF84_4f, xF84_5f, xF84_6f, xF84_7f, xF84_8f⟩ := F8.fr9
 replace F10 := (((((((((F10.far 0 (.bool false) (Nat.ne_of_gt q_F8_F10.out)).far 1 (.string { data := #[] }) (Nat.ne_of_gt q_F8_F10.out)).far 2 (.int .i64 0) (Nat.ne_of_gt q_F8_F10.out)).far 3 (.bool false) (Nat.ne_of_gt q_F8_F10.out)).far 4 (.string { data := #[] }) (Nat.ne_of_gt q_F8_F10.out)).far 5 (.int .i64 0) (Nat.ne_of_gt q_F8_F10.out)).far 6 (.int .i64 (-1)) (Nat.ne_of_gt q_F8_F10.out)).far 7 (.int .i64 4) (Nat.ne_of_gt q_F8_F10.out)).far 8 (.int .i64 2) (Nat.ne_of_gt q_F8_F10.out))
 replace F8 : Blk ((((((((((w4).setCell ⟨w.heap.size, 0, none⟩ (.bool false)).setCell ⟨w.heap.size, 1, none⟩ (.string { data := #[] })).setCell ⟨w.heap.size, 2, none⟩ (.int .i64 0)).setCell ⟨w.heap.size, 3, none⟩ (.bool false)).setCell ⟨w.heap.size, 4, none⟩ (.string { data := #[] })).setCell ⟨w.heap.size, 5, none⟩ (.int .i64 0)).setCell ⟨w.heap.size, 6, none⟩ (.int .i64 (-1))).setCell ⟨w.heap.size, 7, none⟩ (.int .i64 4)).setCell ⟨w.heap.size, 8, none⟩ (.int .i64 2)) (w.heap.size) #[.bool false, .string { data := #[] }, .int .i64 0, .bool false, .string { data := #[] }, .int .i64 0, .int .i64 (-1), .int .i64 4, .int .i64 2] 74 := (((((((((F8.setAt 0 (.bool false)).setAt 1 (.string { data := #[] })).setAt 2 (.int .i64 0)).setAt 3 (.bool false)).setAt 4 (.string { data := #[] })).setAt 5 (.int .i64 0)).setAt 6 (.int .i64 (-1))).setAt 7 (.int .i64 4)).setAt 8 (.int .i64 2))
 replace B0 := (((((((((B0.setCell (p := ⟨w.heap.size, 0, none⟩) q_w_F8.out (.bool false)).setCell (p := ⟨w.heap.size, 1, none⟩) q_w_F8.out (.string { data := #[] })).setCell (p := ⟨w.heap.size, 2, none⟩) q_w_F8.out (.int .i64 0)).setCell (p := ⟨w.heap.size, 3, none⟩) q_w_F8.out (.bool false)).setCell (p := ⟨w.heap.size, 4, none⟩) q_w_F8.out (.string { data := #[] })).setCell (p := ⟨w.heap.size, 5, none⟩) q_w_F8.out (.int .i64 0)).setCell (p := ⟨w.heap.size, 6, none⟩) q_w_F8.out (.int .i64 (-1))).setCell (p := ⟨w.heap.size, 7, none⟩) q_w_F8.out (.int .i64 4)).setCell (p := ⟨w.heap.size, 8, none⟩) q_w_F8.out (.int .i64 2))
 obtain ⟨xF85_0, xF85_1, xF85_2, xF85_3, xF85_4, xF85_5, xF85_6, xF85_7, xF85_8⟩ := F8.ce9
 go_wp2
 exact bodyPost_ret (v := .tuple #[.agg #[.bool false, .string { data := #[] }, .int .i64 0, .bool false, .string { data := #[] }, .int .i64 0, .int .i64 (-1), .int .i64 4, .int .i64 2], .int .i64 0]) (by simp [results, Tryz.results30, go_sem, xF85_0, xF85_1, xF85_2, xF85_3, xF85_4, xF85_5, xF85_6, xF85_7, xF85_8]) rfl ⟨rfl, B0⟩

theorem aw_cell (w : World) (hT : Tab w) :
  Calls Tryz.prog 31 #[.agg #[.bool false, .string { data := #[] }, .int .i64 0, .bool false, .string { data := #[] }, .int .i64 0, .int .i64 (-1), .int .i64 4, .int .i64 2], .int .i64 0, .int .i64 0] w fun r w' => r = .returned (.tuple #[.agg #[.bool true, .string (bstr 1), .int .i64 0, .bool false, .string { data := #[] }, .int .i64 0, .int .i64 (-1)], .int .i64 0]) ∧ Below w.heap.size w w' := by
 have h := vcell GY.zero (-1) 4 2 0 0 w GY.zero_ok (by omega) (by omega) (by omega) (by omega) (by omega) (by omega) (by omega) (by omega) (by omega) (by omega) hT
 rw [show sB (vM GY.zero.re (2 * 0 - 4) (-1 - 1)) (vM GY.zero.im (2 - 2 * 0 - 2) (-1 - 1)) (-1) = (⟨⟨true, 1, 0⟩, DY.zero, -1⟩, 0) from by kernel_rfl] at h
 rw [show bstr GY.zero.re.x = { data := #[] } from bstr_zero, show bstr GY.zero.im.x = { data := #[] } from bstr_zero, show bstr ((⟨⟨true, 1, 0⟩, DY.zero, -1⟩ : SQ), (0 : Int)).1.b.x = { data := #[] } from bstr_zero] at h
 exact h
def awS : SQ := ⟨⟨true, 1, 0⟩, DY.zero, -1⟩
theorem okD_lit {n : Bool} {x : Nat} {e : Int} (h1 : x % 2 = 1) (h2 : x < 256) (h3 : -1000 ≤ e) (h4 : e ≤ 1000) : okD n x e :=
 .inr ⟨h1, by have := dn_le (k := 8) (x := x) (n := 1) (by omega) (by rw [show (2 : Nat) ^ (8 * 1) = 256 from rfl]; exact h2); omega, by omega, by omega⟩
theorem awS_ok : awS.ok := ⟨okD_lit (by decide) (by decide) (by decide) (by decide), DY.zero_ok, by decide, by decide⟩
def awM : GY := ⟨⟨true, 3, -2⟩, ⟨false, 1, -2⟩⟩
theorem awM_ok : awM.ok := ⟨okD_lit (by decide) (by decide) (by decide) (by decide), okD_lit (by decide) (by decide) (by decide) (by decide)⟩
theorem aw_mid (w : World) (hT : Tab w) :
  Calls Tryz.prog 6 #[.agg #[.bool true, .string (bstr 1), .int .i64 0, .bool false, .string { data := #[] }, .int .i64 0, .int .i64 (-1)]] w fun r w' => r = .returned (.tuple #[.agg #[.bool true, .string (bstr 3), .int .i64 (-2), .bool false, .string (bstr 1), .int .i64 (-2)], .int .i64 0]) ∧ Below w.heap.size w w' := by
 have h := vmiddle awS w awS_ok hT
 rw [show sqMid awS = (awM, 0) from by kernel_rfl, show bstr awS.b.x = { data := #[] } from bstr_zero] at h
 exact h
theorem aw_find (w : World) (hT : Tab w) :
  Calls Tryz.prog 32 #[.agg #[.bool false, .string { data := #[] }, .int .i64 0, .bool false, .string { data := #[] }, .int .i64 0, .int .i64 (-1), .int .i64 4, .int .i64 2], .agg #[.bool true, .string (bstr 3), .int .i64 (-2), .bool false, .string (bstr 1), .int .i64 (-2)]] w fun r w' => r = .returned (.tuple #[.int .i64 0, .int .i64 0, .int .i64 0]) ∧ Below w.heap.size w w' := by
 have h := vfind_2 GY.zero (-1) 4 2 awM (awM, 0) 0 true (⟨true, 1, -2⟩ : DY) 0 true (by kernel_rfl) (by kernel_rfl) (by kernel_rfl) (by kernel_rfl) (by kernel_rfl) (by kernel_rfl) w GY.zero_ok awM_ok (by omega) (by omega) (by omega) (by omega) (by omega) (by omega) rfl hT
 rw [show bstr GY.zero.re.x = { data := #[] } from bstr_zero, show bstr GY.zero.im.x = { data := #[] } from bstr_zero] at h
 exact h
def awN : DY := ⟨false, 1, -3⟩
def awR : Nat := lst (rpB awN) 9218868437227405311
theorem awR_hi : awR < 4600156803381319434 := by
 by_cases h : awR ≤ 4600156803381319433
 ·omega
 ·have := lst_low (rpB awN) 9218868437227405311 4600156803381319433 (by unfold awR at h; omega)
  rw [show rpB awN 4600156803381319433 = true from by kernel_rfl] at this
  cases this
theorem awR_lo : 4599976659396224614 < awR := by
 by_cases h : awR ≤ 4599976659396224614
 ·have h1 := lst_at (rpB awN) 9218868437227405311 (by have := awR_hi; unfold awR at this; omega)
  have h2 := rpB_mono h (by omega) h1
  rw [show rpB awN 4599976659396224614 = false from by kernel_rfl] at h2
  cases h2
 ·omega
theorem aw_cover (w : World) (hT : Tab w) :
  Calls Tryz.prog 19 #[.agg #[.bool true, .string (bstr 1), .int .i64 0, .bool false, .string { data := #[] }, .int .i64 0, .int .i64 (-1)]] w fun r w' => r = .returned (.tuple #[.agg #[.complex .f64 13828302655841107968 4598175219545276416, .float .f64 awR], .int .i64 0]) ∧ Below w.heap.size w w' := by
 have h := vcover_a (⟨true, 1, 0⟩ : DY) DY.zero (-1) ⟨true, 1, -1⟩ ⟨false, 1, -1⟩ (awM, 0) 13828302655841107968 4598175219545276416 awM
  (⟨⟨true, 1, -2⟩, ⟨true, 1, -2⟩⟩, 0) (awN, 0) 1 (⟨⟨false, 1, -2⟩, ⟨true, 1, -2⟩⟩, 0) (awN, 0) 0 (⟨⟨true, 1, -2⟩, ⟨false, 1, -2⟩⟩, 0) (awN, 0) 0 (⟨⟨false, 1, -2⟩, ⟨false, 1, -2⟩⟩, 0) (awN, 0) 0 awR
  (by kernel_rfl) (by kernel_rfl) (by kernel_rfl) (by kernel_rfl) (by kernel_rfl) (by kernel_rfl) (by kernel_rfl) (by kernel_rfl) (by kernel_rfl) (by kernel_rfl) (by kernel_rfl) (by kernel_rfl) (by kernel_rfl) (by kernel_rfl) (by kernel_rfl) (by kernel_rfl) (by kernel_rfl) (by kernel_rfl) rfl
  w awS_ok.1 DY.zero_ok (by omega) (by omega) (by kernel_rfl) (by kernel_rfl) rfl (by omega) (by decide) (by omega) (by decide) rfl rfl rfl rfl rfl rfl rfl rfl (by omega) (by omega) (by omega) (by omega) (by kernel_rfl) hT
 rw [show bstr DY.zero.x = { data := #[] } from bstr_zero] at h
 exact h

set_option maxRecDepth 10000 in
set_option maxHeartbeats 4000000 in
theorem awake_w  (R : Nat) (E_R : awR = R) (w : World)  (hT : Tab w) :
  Calls Tryz.prog 12 #[] w fun r w' => r = .returned (.bool true) ∧ Below w.heap.size w w' := by
 have h1 := fun W hW => aw_make W hW
 have h2 := fun W hW => aw_cell W hW
 have h3 := fun W hW => aw_mid W hW
 have h4 := fun W hW => aw_find W hW
 have h5 := fun W hW => aw_cover W hW
 rw [E_R] at h5
 have r1 : R < 4600156803381319434 := E_R ▸ awR_hi
 have r2 : 4599976659396224614 < R := E_R ▸ awR_lo
 have fR : fr R ≤ 9218868437227405312 := by rw [fr_lt (by omega)]; omega
 have kR : fk R = R := by unfold fk; rw [fs_lt (by omega), fr_lt (by omega)]; rfl
 have e1 : (FloatKind.f64.format.order 13828302655841107968 13828302655841107968 == some .eq) = true := by kernel_rfl
 have e2 : (FloatKind.f64.format.order 4598175219545276416 4598175219545276416 == some .eq) = true := by kernel_rfl
 have e3 : (FloatKind.f64.format.order R 4599976659396224614 == some .gt) = true := by
  rw [ord_gt fR (by rw [fr_lt (by omega)]; omega), kR, show fk 4599976659396224614 = 4599976659396224614 from by unfold fk; rw [fs_lt (by omega), fr_lt (by omega)]; rfl]
  exact decide_eq_true (by omega)
 have e4 : (FloatKind.f64.format.order R 4600156803381319434 == some .lt) = true := by
  rw [ord_of fR (by rw [fr_lt (by omega)]; omega), kR, show fk 4600156803381319434 = 4600156803381319434 from by unfold fk; rw [fs_lt (by omega), fr_lt (by omega)]; rfl]
  rw [show compare (R : Int) 4600156803381319434 = .lt from Int.compare_eq_lt.2 (by omega)]
  rfl
 clear r1 r2 fR kR
 have hst1 := fun (a : Addr) (v : Nat) (m : Mode) (W : World) => (run_store Tryz.prog W a (.float .f64 v) m rfl : (store a (.float .f64 v) m).run Tryz.prog W = stored Tryz.prog W a (.float .f64 v) m)
 have hst2 := fun (a : Addr) (v u : Nat) (m : Mode) (W : World) => (run_store Tryz.prog W a (.complex .f64 v u) m rfl : (store a (.complex .f64 v u) m).run Tryz.prog W = stored Tryz.prog W a (.complex .f64 v u) m)
 clear E_R
 go_enter Tryz.func12, Tryz.ntmps12
 have B0 := Below.refl w.heap.size w
 go_wp2_with fail
 (with_reducible refine (h1 _ (hT.below B0)).mono ?_)
 rintro r w1 ⟨rfl, hb1⟩
 replace B0 := B0.trans (hb1.mono B0.size)
 clear hb1
 have F1 := Blk.put (w1) #[.bool false, .string { data := #[] }, .int .i64 0, .bool false, .string { data := #[] }, .int .i64 0, .int .i64 (-1), .int .i64 4, .int .i64 2] 74
 replace B0 := B0.alloc B0.size (.cells #[.bool false, .string { data := #[] }, .int .i64 0, .bool false, .string { data := #[] }, .int .i64 0, .int .i64 (-1), .int .i64 4, .int .i64 2] 74)
 obtain ⟨xF11_0, xF11_1, xF11_2, xF11_3, xF11_4, xF11_5, xF11_6, xF11_7, xF11_8⟩ := F1.ce9
 go_wp2_with fail
 (with_reducible refine (h2 _ (hT.below B0)).mono ?_)
 rintro r w2 ⟨rfl, hb2⟩
 clear xF11_0 xF11_1 xF11_2 xF11_3 xF11_4 xF11_5 xF11_6 xF11_7 xF11_8
 replace F1 := F1.keep hb2
 replace B0 := B0.trans (hb2.mono B0.size)
 clear hb2
 replace F1 := F1.allocd (.cells #[.bool true, .string (bstr 1), .int .i64 0, .bool false, .string { data := #[] }, .int .i64 0, .int .i64 (-1)] 26)
 have F3 := Blk.put (w2) #[.bool true, .string (bstr 1), .int .i64 0, .bool false, .string { data := #[] }, .int .i64 0, .int .i64 (-1)] 26
 replace B0 := B0.alloc B0.size (.cells #[.bool true, .string (bstr 1), .int .i64 0, .bool false, .string { data := #[] }, .int .i64 0, .int .i64 (-1)] 26)
 obtain ⟨xF32_0, xF32_1, xF32_2, xF32_3, xF32_4, xF32_5, xF32_6⟩ := F3.ce7
 go_wp2_with fail
 (with_reducible refine (h3 _ (hT.below B0)).mono ?_)
 rintro r w3 ⟨rfl, hb3⟩
 clear xF32_0 xF32_1 xF32_2 xF32_3 xF32_4 xF32_5 xF32_6
 replace F1 := F1.keep hb3
 replace F3 := F3.keep hb3
 replace B0 := B0.trans (hb3.mono B0.size)
 clear hb3
 replace F1 := F1.allocd (.cells #[.bool true, .string (bstr 3), .int .i64 (-2), .bool false, .string (bstr 1), .int .i64 (-2)] 28)
 replace F3 := F3.allocd (.cells #[.bool true, .string (bstr 3), .int .i64 (-2), .bool false, .string (bstr 1), .int .i64 (-2)] 28)
 have F5 := Blk.put (w3) #[.bool true, .string (bstr 3), .int .i64 (-2), .bool false, .string (bstr 1), .int .i64 (-2)] 28
 replace B0 := B0.alloc B0.size (.cells #[.bool true, .string (bstr 3), .int .i64 (-2), .bool false, .string (bstr 1), .int .i64 (-2)] 28)
 obtain ⟨xF13_0, xF13_1, xF13_2, xF13_3, xF13_4, xF13_5, xF13_6, xF13_7, xF13_8⟩ := F1.ce9
 obtain ⟨xF53_0, xF53_1, xF53_2, xF53_3, xF53_4, xF53_5⟩ := F5.ce6
 go_wp2_with fail
 (with_reducible refine (h4 _ (hT.below B0)).mono ?_)
 rintro r w4 ⟨rfl, hb4⟩
 clear xF13_0 xF13_1 xF13_2 xF13_3 xF13_4 xF13_5 xF13_6 xF13_7 xF13_8 xF53_0 xF53_1 xF53_2 xF53_3 xF53_4 xF53_5
 replace F1 := F1.keep hb4
 replace F3 := F3.keep hb4
 replace F5 := F5.keep hb4
 replace B0 := B0.trans (hb4.mono B0.size)
 clear hb4
 obtain ⟨xF34_0, xF34_1, xF34_2, xF34_3, xF34_4, xF34_5, xF34_6⟩ := F3.ce7
 go_wp2_with fail
 (with_reducible refine (h5 _ (hT.below B0)).mono ?_)
 rintro r w5 ⟨rfl, hb5⟩
 clear xF34_0 xF34_1 xF34_2 xF34_3 xF34_4 xF34_5 xF34_6
 clear F1
 replace F3 := F3.keep hb5
 clear F5
 replace B0 := B0.trans (hb5.mono B0.size)
 clear hb5
 replace F3 := F3.allocd (.cells #[.complex .f64 13828302655841107968 4598175219545276416, .float .f64 R] 59)
 have F10 := Blk.put (w5) #[.complex .f64 13828302655841107968 4598175219545276416, .float .f64 R] 59
 replace B0 := B0.alloc B0.size (.cells #[.complex .f64 13828302655841107968 4598175219545276416, .float .f64 R] 59)
 obtain ⟨xF35_0, xF35_1, xF35_2, xF35_3, xF35_4, xF35_5, xF35_6⟩ := F3.ce7
 obtain ⟨xF105_0, xF105_1⟩ := F10.ce2
 go_wp2
 go_ret
 exact ⟨rfl, B0⟩

theorem awake24 (w : World) (hT : Tab w) : Calls Tryz.prog 12 #[] w fun r w' => r = .returned (.bool true) ∧ Below w.heap.size w w' := awake_w _ rfl w hT
end Go.Proofs.YtfbkopepkklkjaaGreatDoor
