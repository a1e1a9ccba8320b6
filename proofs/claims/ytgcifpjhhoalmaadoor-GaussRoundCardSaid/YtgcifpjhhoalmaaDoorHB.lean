/- Walks of the layer of Gausses, by a program (walk.py): part HB. -/
import Derived.Test.YtgcifpjhhoalmaaDoorHA
namespace Go.Proofs.YtgcifpjhhoalmaaDoor
open Go Go.RowKit Go.PlainAid Fil

set_option maxRecDepth 10000 in
set_option maxHeartbeats 4000000 in
theorem gwithin_1 (c : GY) (r : DY) (d : GY) (s : DY) (M : Int) (E_M : yCmp r s = M) (w : World) (ok_c : c.ok) (ok_r : r.ok) (ok_d : d.ok) (ok_s : s.ok) (h_r : r.n = false) (h_s : s.n = false) (h_M : 0 < M) :
    Calls Tryd.prog 91 #[.agg #[.bool c.re.n, .string (bstr c.re.x), .int .i64 c.re.e, .bool c.im.n, .string (bstr c.im.x), .int .i64 c.im.e], .agg #[.bool r.n, .string (bstr r.x), .int .i64 r.e], .agg #[.bool d.re.n, .string (bstr d.re.x), .int .i64 d.re.e, .bool d.im.n, .string (bstr d.im.x), .int .i64 d.im.e], .agg #[.bool s.n, .string (bstr s.x), .int .i64 s.e]] w fun r w' => r = .returned (.tuple #[.bool false, .int .i64 0]) ∧ Below w.heap.size w w' := by
  have hall := fun Bk W h => gall2_ok c d Bk W h ok_c ok_d
  have hrad := fun Bk W h => grad2_ok r s Bk W h ok_r ok_s h_r h_s
  have h1 := fun W => ccmp r s W ok_r ok_s
  rw [E_M] at h1
  clear h_r h_s
  clear E_M ok_c ok_r ok_d ok_s
  obtain ⟨⟨cn, cX, ce⟩, ⟨cm, cY, cf⟩⟩ := c
  obtain ⟨rn, rX, re⟩ := r
  obtain ⟨⟨dn, dX, de⟩, ⟨dm, dY, df⟩⟩ := d
  obtain ⟨sn, sX, se⟩ := s
  dsimp only at *
  generalize bstr cX = cS at *
  generalize bstr cY = cT at *
  generalize bstr rX = rS at *
  generalize bstr dX = dS at *
  generalize bstr dY = dT at *
  generalize bstr sX = sS at *
  have hd_M : decide (0 < M) = true := decide_eq_true h_M
  clear h_M
  go_enter Tryd.func91, Tryd.ntmps91
  have B0 := Below.refl w.heap.size w
  have F4 := Blk.put (w) #[.bool cn, .string cS, .int .i64 ce, .bool cm, .string cT, .int .i64 cf] 49
  replace B0 := B0.alloc B0.size (.cells #[.bool cn, .string cS, .int .i64 ce, .bool cm, .string cT, .int .i64 cf] 49)
  replace F4 := F4.allocd (.cells #[.bool rn, .string rS, .int .i64 re] 24)
  have F5 := Blk.put ((w).alloc (.cells #[.bool cn, .string cS, .int .i64 ce, .bool cm, .string cT, .int .i64 cf] 49)) #[.bool rn, .string rS, .int .i64 re] 24
  rw [show ((w).alloc (.cells #[.bool cn, .string cS, .int .i64 ce, .bool cm, .string cT, .int .i64 cf] 49)).heap.size = w.heap.size + 1 by simp] at F5
  replace B0 := B0.alloc B0.size (.cells #[.bool rn, .string rS, .int .i64 re] 24)
  replace F4 := F4.allocd (.cells #[.bool dn, .string dS, .int .i64 de, .bool dm, .string dT, .int .i64 df] 49)
  replace F5 := F5.allocd (.cells #[.bool dn, .string dS, .int .i64 de, .bool dm, .string dT, .int .i64 df] 49)
  have F6 := Blk.put (((w).alloc (.cells #[.bool cn, .string cS, .int .i64 ce, .bool cm, .string cT, .int .i64 cf] 49)).alloc (.cells #[.bool rn, .string rS, .int .i64 re] 24)) #[.bool dn, .string dS, .int .i64 de, .bool dm, .string dT, .int .i64 df] 49
  rw [show (((w).alloc (.cells #[.bool cn, .string cS, .int .i64 ce, .bool cm, .string cT, .int .i64 cf] 49)).alloc (.cells #[.bool rn, .string rS, .int .i64 re] 24)).heap.size = w.heap.size + 1 + 1 by simp] at F6
  replace B0 := B0.alloc B0.size (.cells #[.bool dn, .string dS, .int .i64 de, .bool dm, .string dT, .int .i64 df] 49)
  replace F4 := F4.allocd (.cells #[.bool sn, .string sS, .int .i64 se] 24)
  replace F5 := F5.allocd (.cells #[.bool sn, .string sS, .int .i64 se] 24)
  replace F6 := F6.allocd (.cells #[.bool sn, .string sS, .int .i64 se] 24)
  have F7 := Blk.put ((((w).alloc (.cells #[.bool cn, .string cS, .int .i64 ce, .bool cm, .string cT, .int .i64 cf] 49)).alloc (.cells #[.bool rn, .string rS, .int .i64 re] 24)).alloc (.cells #[.bool dn, .string dS, .int .i64 de, .bool dm, .string dT, .int .i64 df] 49)) #[.bool sn, .string sS, .int .i64 se] 24
  rw [show ((((w).alloc (.cells #[.bool cn, .string cS, .int .i64 ce, .bool cm, .string cT, .int .i64 cf] 49)).alloc (.cells #[.bool rn, .string rS, .int .i64 re] 24)).alloc (.cells #[.bool dn, .string dS, .int .i64 de, .bool dm, .string dT, .int .i64 df] 49)).heap.size = w.heap.size + 1 + 1 + 1 by simp] at F7
  replace B0 := B0.alloc B0.size (.cells #[.bool sn, .string sS, .int .i64 se] 24)
  obtain ⟨xF40_0, xF40_1, xF40_2, xF40_3, xF40_4, xF40_5⟩ := F4.ce6
  obtain ⟨xF60_0, xF60_1, xF60_2, xF60_3, xF60_4, xF60_5⟩ := F6.ce6
  go_wp2_with fail
  (with_reducible refine (hall _ _ (by simp)).mono ?_)
  rintro r w1 ⟨rfl, hb1⟩
  clear xF40_0 xF40_1 xF40_2 xF40_3 xF40_4 xF40_5 xF60_0 xF60_1 xF60_2 xF60_3 xF60_4 xF60_5
  replace F4 := F4.keep hb1
  replace F5 := F5.keep hb1
  replace F6 := F6.keep hb1
  replace F7 := F7.keep hb1
  replace B0 := B0.trans (hb1.mono B0.size)
  clear hb1
  obtain ⟨xF51_0, xF51_1, xF51_2⟩ := F5.ce3
  obtain ⟨xF71_0, xF71_1, xF71_2⟩ := F7.ce3
  go_wp2_with fail
  (with_reducible refine (hrad _ _ (by simp)).mono ?_)
  rintro r w2 ⟨rfl, hb2⟩
  clear xF51_0 xF51_1 xF51_2 xF71_0 xF71_1 xF71_2
  clear F4
  replace F5 := F5.keep hb2
  clear F6
  replace F7 := F7.keep hb2
  replace B0 := B0.trans (hb2.mono B0.size)
  clear hb2
  obtain ⟨xF52_0, xF52_1, xF52_2⟩ := F5.ce3
  obtain ⟨xF72_0, xF72_1, xF72_2⟩ := F7.ce3
  go_wp2_with fail
  (with_reducible refine (h1 _).mono ?_)
  rintro r w3 ⟨rfl, hb3⟩
  clear xF52_0 xF52_1 xF52_2 xF72_0 xF72_1 xF72_2
  replace F5 := F5.keep hb3
  replace F7 := F7.keep hb3
  replace B0 := B0.trans (hb3.mono B0.size)
  clear hb3
  go_wp2
  go_ret2
  exact ⟨rfl, B0⟩

set_option maxRecDepth 10000 in
set_option maxHeartbeats 4000000 in
theorem gwithin_2 (c : GY) (r : DY) (d : GY) (s : DY) (M : Int) (p : DY × Int) (E_M : yCmp r s = M) (E_p : ySub s r = p) (w : World) (ok_c : c.ok) (ok_r : r.ok) (ok_d : d.ok) (ok_s : s.ok) (h_r : r.n = false) (h_s : s.n = false) (h_M : ¬ 0 < M) (h_p : ¬ p.2 = 0) (hT : Tab w) :
    Calls Tryd.prog 91 #[.agg #[.bool c.re.n, .string (bstr c.re.x), .int .i64 c.re.e, .bool c.im.n, .string (bstr c.im.x), .int .i64 c.im.e], .agg #[.bool r.n, .string (bstr r.x), .int .i64 r.e], .agg #[.bool d.re.n, .string (bstr d.re.x), .int .i64 d.re.e, .bool d.im.n, .string (bstr d.im.x), .int .i64 d.im.e], .agg #[.bool s.n, .string (bstr s.x), .int .i64 s.e]] w fun r w' => r = .returned (.tuple #[.bool false, .int .i64 p.2]) ∧ Below w.heap.size w w' := by
  have ok_p : p.1.ok := E_p ▸ ySub_ok _ _
  have hall := fun Bk W h => gall2_ok c d Bk W h ok_c ok_d
  have hrad := fun Bk W h => grad2_ok r s Bk W h ok_r ok_s h_r h_s
  have h1 := fun W => ccmp r s W ok_r ok_s
  rw [E_M] at h1
  have h2 := fun W hW => csub s r W ok_s ok_r hW
  rw [E_p] at h2
  clear h_r h_s
  clear E_M E_p ok_p ok_c ok_r ok_d ok_s
  obtain ⟨⟨cn, cX, ce⟩, ⟨cm, cY, cf⟩⟩ := c
  obtain ⟨rn, rX, re⟩ := r
  obtain ⟨⟨dn, dX, de⟩, ⟨dm, dY, df⟩⟩ := d
  obtain ⟨sn, sX, se⟩ := s
  obtain ⟨⟨pn, pX, pe⟩, pr⟩ := p
  dsimp only at *
  generalize bstr cX = cS at *
  generalize bstr cY = cT at *
  generalize bstr rX = rS at *
  generalize bstr dX = dS at *
  generalize bstr dY = dT at *
  generalize bstr sX = sS at *
  generalize bstr pX = pS at *
  have hd_M : decide (0 < M) = false := decide_eq_false h_M
  clear h_M
  have hb_p : (pr != 0) = true := by simpa using h_p
  clear h_p
  go_enter Tryd.func91, Tryd.ntmps91
  have B0 := Below.refl w.heap.size w
  have F4 := Blk.put (w) #[.bool cn, .string cS, .int .i64 ce, .bool cm, .string cT, .int .i64 cf] 49
  replace B0 := B0.alloc B0.size (.cells #[.bool cn, .string cS, .int .i64 ce, .bool cm, .string cT, .int .i64 cf] 49)
  replace F4 := F4.allocd (.cells #[.bool rn, .string rS, .int .i64 re] 24)
  have F5 := Blk.put ((w).alloc (.cells #[.bool cn, .string cS, .int .i64 ce, .bool cm, .string cT, .int .i64 cf] 49)) #[.bool rn, .string rS, .int .i64 re] 24
  rw [show ((w).alloc (.cells #[.bool cn, .string cS, .int .i64 ce, .bool cm, .string cT, .int .i64 cf] 49)).heap.size = w.heap.size + 1 by simp] at F5
  replace B0 := B0.alloc B0.size (.cells #[.bool rn, .string rS, .int .i64 re] 24)
  replace F4 := F4.allocd (.cells #[.bool dn, .string dS, .int .i64 de, .bool dm, .string dT, .int .i64 df] 49)
  replace F5 := F5.allocd (.cells #[.bool dn, .string dS, .int .i64 de, .bool dm, .string dT, .int .i64 df] 49)
  have F6 := Blk.put (((w).alloc (.cells #[.bool cn, .string cS, .int .i64 ce, .bool cm, .string cT, .int .i64 cf] 49)).alloc (.cells #[.bool rn, .string rS, .int .i64 re] 24)) #[.bool dn, .string dS, .int .i64 de, .bool dm, .string dT, .int .i64 df] 49
  rw [show (((w).alloc (.cells #[.bool cn, .string cS, .int .i64 ce, .bool cm, .string cT, .int .i64 cf] 49)).alloc (.cells #[.bool rn, .string rS, .int .i64 re] 24)).heap.size = w.heap.size + 1 + 1 by simp] at F6
  replace B0 := B0.alloc B0.size (.cells #[.bool dn, .string dS, .int .i64 de, .bool dm, .string dT, .int .i64 df] 49)
  replace F4 := F4.allocd (.cells #[.bool sn, .string sS, .int .i64 se] 24)
  replace F5 := F5.allocd (.cells #[.bool sn, .string sS, .int .i64 se] 24)
  replace F6 := F6.allocd (.cells #[.bool sn, .string sS, .int .i64 se] 24)
  have F7 := Blk.put ((((w).alloc (.cells #[.bool cn, .string cS, .int .i64 ce, .bool cm, .string cT, .int .i64 cf] 49)).alloc (.cells #[.bool rn, .string rS, .int .i64 re] 24)).alloc (.cells #[.bool dn, .string dS, .int .i64 de, .bool dm, .string dT, .int .i64 df] 49)) #[.bool sn, .string sS, .int .i64 se] 24
  rw [show ((((w).alloc (.cells #[.bool cn, .string cS, .int .i64 ce, .bool cm, .string cT, .int .i64 cf] 49)).alloc (.cells #[.bool rn, .string rS, .int .i64 re] 24)).alloc (.cells #[.bool dn, .string dS, .int .i64 de, .bool dm, .string dT, .int .i64 df] 49)).heap.size = w.heap.size + 1 + 1 + 1 by simp] at F7
  replace B0 := B0.alloc B0.size (.cells #[.bool sn, .string sS, .int .i64 se] 24)
  obtain ⟨xF40_0, xF40_1, xF40_2, xF40_3, xF40_4, xF40_5⟩ := F4.ce6
  obtain ⟨xF60_0, xF60_1, xF60_2, xF60_3, xF60_4, xF60_5⟩ := F6.ce6
  go_wp2_with fail
  (with_reducible refine (hall _ _ (by simp)).mono ?_)
  rintro r w1 ⟨rfl, hb1⟩
  clear xF40_0 xF40_1 xF40_2 xF40_3 xF40_4 xF40_5 xF60_0 xF60_1 xF60_2 xF60_3 xF60_4 xF60_5
  replace F4 := F4.keep hb1
  replace F5 := F5.keep hb1
  replace F6 := F6.keep hb1
  replace F7 := F7.keep hb1
  replace B0 := B0.trans (hb1.mono B0.size)
  clear hb1
  obtain ⟨xF51_0, xF51_1, xF51_2⟩ := F5.ce3
  obtain ⟨xF71_0, xF71_1, xF71_2⟩ := F7.ce3
  go_wp2_with fail
  (with_reducible refine (hrad _ _ (by simp)).mono ?_)
  rintro r w2 ⟨rfl, hb2⟩
  clear xF51_0 xF51_1 xF51_2 xF71_0 xF71_1 xF71_2
  clear F4
  replace F5 := F5.keep hb2
  clear F6
  replace F7 := F7.keep hb2
  replace B0 := B0.trans (hb2.mono B0.size)
  clear hb2
  obtain ⟨xF52_0, xF52_1, xF52_2⟩ := F5.ce3
  obtain ⟨xF72_0, xF72_1, xF72_2⟩ := F7.ce3
  go_wp2_with fail
  (with_reducible refine (h1 _).mono ?_)
  rintro r w3 ⟨rfl, hb3⟩
  clear xF52_0 xF52_1 xF52_2 xF72_0 xF72_1 xF72_2
  replace F5 := F5.keep hb3
  replace F7 := F7.keep hb3
  replace B0 := B0.trans (hb3.mono B0.size)
  clear hb3
  obtain ⟨xF73_0, xF73_1, xF73_2⟩ := F7.ce3
  obtain ⟨xF53_0, xF53_1, xF53_2⟩ := F5.ce3
  go_wp2_with fail
  (with_reducible refine (h2 _ (hT.below B0)).mono ?_)
  rintro r w4 ⟨rfl, hb4⟩
  clear xF73_0 xF73_1 xF73_2 xF53_0 xF53_1 xF53_2
  replace F5 := F5.keep hb4
  replace F7 := F7.keep hb4
  replace B0 := B0.trans (hb4.mono B0.size)
  clear hb4
  clear F5
  clear F7
  replace B0 := B0.alloc B0.size (.cells #[.bool pn, .string pS, .int .i64 pe] 24)
  go_wp2
  go_ret2
  exact ⟨rfl, B0⟩

set_option maxRecDepth 10000 in
set_option maxHeartbeats 4000000 in
theorem gwithin_3 (c : GY) (r : DY) (d : GY) (s : DY) (M : Int) (p : DY × Int) (F : Int × Int) (E_M : yCmp r s = M) (E_p : ySub s r = p) (E_F : gFar c d p.1 = F) (w : World) (ok_c : c.ok) (ok_r : r.ok) (ok_d : d.ok) (ok_s : s.ok) (h_r : r.n = false) (h_s : s.n = false) (h_M : ¬ 0 < M) (h_p : p.2 = 0) (h_F : F.2 = 0) (hT : Tab w) :
    Calls Tryd.prog 91 #[.agg #[.bool c.re.n, .string (bstr c.re.x), .int .i64 c.re.e, .bool c.im.n, .string (bstr c.im.x), .int .i64 c.im.e], .agg #[.bool r.n, .string (bstr r.x), .int .i64 r.e], .agg #[.bool d.re.n, .string (bstr d.re.x), .int .i64 d.re.e, .bool d.im.n, .string (bstr d.im.x), .int .i64 d.im.e], .agg #[.bool s.n, .string (bstr s.x), .int .i64 s.e]] w fun r w' => r = .returned (.tuple #[.bool (decide (F.1 ≤ 0)), .int .i64 0]) ∧ Below w.heap.size w w' := by
  have ok_p : p.1.ok := E_p ▸ ySub_ok _ _
  have hall := fun Bk W h => gall2_ok c d Bk W h ok_c ok_d
  have hrad := fun Bk W h => grad2_ok r s Bk W h ok_r ok_s h_r h_s
  have h1 := fun W => ccmp r s W ok_r ok_s
  rw [E_M] at h1
  have h2 := fun W hW => csub s r W ok_s ok_r hW
  rw [E_p] at h2
  have h3 := fun W hW => gfar c d p.1 W ok_c ok_d ok_p hW
  rw [E_F] at h3
  clear h_r h_s
  clear E_M E_p E_F ok_p ok_c ok_r ok_d ok_s
  obtain ⟨⟨cn, cX, ce⟩, ⟨cm, cY, cf⟩⟩ := c
  obtain ⟨rn, rX, re⟩ := r
  obtain ⟨⟨dn, dX, de⟩, ⟨dm, dY, df⟩⟩ := d
  obtain ⟨sn, sX, se⟩ := s
  obtain ⟨⟨pn, pX, pe⟩, pr⟩ := p
  obtain ⟨Fn, Fr⟩ := F
  dsimp only at *
  generalize bstr cX = cS at *
  generalize bstr cY = cT at *
  generalize bstr rX = rS at *
  generalize bstr dX = dS at *
  generalize bstr dY = dT at *
  generalize bstr sX = sS at *
  generalize bstr pX = pS at *
  have hd_M : decide (0 < M) = false := decide_eq_false h_M
  clear h_M
  have hb_p : (pr != 0) = false := by simp [h_p]
  clear h_p
  obtain rfl : Fr = 0 := h_F
  go_enter Tryd.func91, Tryd.ntmps91
  have B0 := Below.refl w.heap.size w
  have F4 := Blk.put (w) #[.bool cn, .string cS, .int .i64 ce, .bool cm, .string cT, .int .i64 cf] 49
  replace B0 := B0.alloc B0.size (.cells #[.bool cn, .string cS, .int .i64 ce, .bool cm, .string cT, .int .i64 cf] 49)
  replace F4 := F4.allocd (.cells #[.bool rn, .string rS, .int .i64 re] 24)
  have F5 := Blk.put ((w).alloc (.cells #[.bool cn, .string cS, .int .i64 ce, .bool cm, .string cT, .int .i64 cf] 49)) #[.bool rn, .string rS, .int .i64 re] 24
  rw [show ((w).alloc (.cells #[.bool cn, .string cS, .int .i64 ce, .bool cm, .string cT, .int .i64 cf] 49)).heap.size = w.heap.size + 1 by simp] at F5
  replace B0 := B0.alloc B0.size (.cells #[.bool rn, .string rS, .int .i64 re] 24)
  replace F4 := F4.allocd (.cells #[.bool dn, .string dS, .int .i64 de, .bool dm, .string dT, .int .i64 df] 49)
  replace F5 := F5.allocd (.cells #[.bool dn, .string dS, .int .i64 de, .bool dm, .string dT, .int .i64 df] 49)
  have F6 := Blk.put (((w).alloc (.cells #[.bool cn, .string cS, .int .i64 ce, .bool cm, .string cT, .int .i64 cf] 49)).alloc (.cells #[.bool rn, .string rS, .int .i64 re] 24)) #[.bool dn, .string dS, .int .i64 de, .bool dm, .string dT, .int .i64 df] 49
  rw [show (((w).alloc (.cells #[.bool cn, .string cS, .int .i64 ce, .bool cm, .string cT, .int .i64 cf] 49)).alloc (.cells #[.bool rn, .string rS, .int .i64 re] 24)).heap.size = w.heap.size + 1 + 1 by simp] at F6
  replace B0 := B0.alloc B0.size (.cells #[.bool dn, .string dS, .int .i64 de, .bool dm, .string dT, .int .i64 df] 49)
  replace F4 := F4.allocd (.cells #[.bool sn, .string sS, .int .i64 se] 24)
  replace F5 := F5.allocd (.cells #[.bool sn, .string sS, .int .i64 se] 24)
  replace F6 := F6.allocd (.cells #[.bool sn, .string sS, .int .i64 se] 24)
  have F7 := Blk.put ((((w).alloc (.cells #[.bool cn, .string cS, .int .i64 ce, .bool cm, .string cT, .int .i64 cf] 49)).alloc (.cells #[.bool rn, .string rS, .int .i64 re] 24)).alloc (.cells #[.bool dn, .string dS, .int .i64 de, .bool dm, .string dT, .int .i64 df] 49)) #[.bool sn, .string sS, .int .i64 se] 24
  rw [show ((((w).alloc (.cells #[.bool cn, .string cS, .int .i64 ce, .bool cm, .string cT, .int .i64 cf] 49)).alloc (.cells #[.bool rn, .string rS, .int .i64 re] 24)).alloc (.cells #[.bool dn, .string dS, .int .i64 de, .bool dm, .string dT, .int .i64 df] 49)).heap.size = w.heap.size + 1 + 1 + 1 by simp] at F7
  replace B0 := B0.alloc B0.size (.cells #[.bool sn, .string sS, .int .i64 se] 24)
  obtain ⟨xF40_0, xF40_1, xF40_2, xF40_3, xF40_4, xF40_5⟩ := F4.ce6
  obtain ⟨xF60_0, xF60_1, xF60_2, xF60_3, xF60_4, xF60_5⟩ := F6.ce6
  go_wp2_with fail
  (with_reducible refine (hall _ _ (by simp)).mono ?_)
  rintro r w1 ⟨rfl, hb1⟩
  clear xF40_0 xF40_1 xF40_2 xF40_3 xF40_4 xF40_5 xF60_0 xF60_1 xF60_2 xF60_3 xF60_4 xF60_5
  replace F4 := F4.keep hb1
  replace F5 := F5.keep hb1
  replace F6 := F6.keep hb1
  replace F7 := F7.keep hb1
  replace B0 := B0.trans (hb1.mono B0.size)
  clear hb1
  obtain ⟨xF51_0, xF51_1, xF51_2⟩ := F5.ce3
  obtain ⟨xF71_0, xF71_1, xF71_2⟩ := F7.ce3
  go_wp2_with fail
  (with_reducible refine (hrad _ _ (by simp)).mono ?_)
  rintro r w2 ⟨rfl, hb2⟩
  clear xF51_0 xF51_1 xF51_2 xF71_0 xF71_1 xF71_2
  replace F4 := F4.keep hb2
  replace F5 := F5.keep hb2
  replace F6 := F6.keep hb2
  replace F7 := F7.keep hb2
  replace B0 := B0.trans (hb2.mono B0.size)
  clear hb2
  obtain ⟨xF52_0, xF52_1, xF52_2⟩ := F5.ce3
  obtain ⟨xF72_0, xF72_1, xF72_2⟩ := F7.ce3
  go_wp2_with fail
  (with_reducible refine (h1 _).mono ?_)
  rintro r w3 ⟨rfl, hb3⟩
  clear xF52_0 xF52_1 xF52_2 xF72_0 xF72_1 xF72_2
  replace F4 := F4.keep hb3
  replace F5 := F5.keep hb3
  replace F6 := F6.keep hb3
  replace F7 := F7.keep hb3
  replace B0 := B0.trans (hb3.mono B0.size)
  clear hb3
  obtain ⟨xF73_0, xF73_1, xF73_2⟩ := F7.ce3
  obtain ⟨xF53_0, xF53_1, xF53_2⟩ := F5.ce3
  go_wp2_with fail
  (with_reducible refine (h2 _ (hT.below B0)).mono ?_)
  rintro r w4 ⟨rfl, hb4⟩
  clear xF73_0 xF73_1 xF73_2 xF53_0 xF53_1 xF53_2
  replace F4 := F4.keep hb4
  replace F5 := F5.keep hb4
  replace F6 := F6.keep hb4
  replace F7 := F7.keep hb4
  replace B0 := B0.trans (hb4.mono B0.size)
  clear hb4
  replace F4 := F4.allocd (.cells #[.bool pn, .string pS, .int .i64 pe] 24)
  clear F5
  replace F6 := F6.allocd (.cells #[.bool pn, .string pS, .int .i64 pe] 24)
  clear F7
  have F12 := Blk.put (w4) #[.bool pn, .string pS, .int .i64 pe] 24
  replace B0 := B0.alloc B0.size (.cells #[.bool pn, .string pS, .int .i64 pe] 24)
  obtain ⟨xF44_0, xF44_1, xF44_2, xF44_3, xF44_4, xF44_5⟩ := F4.ce6
  obtain ⟨xF64_0, xF64_1, xF64_2, xF64_3, xF64_4, xF64_5⟩ := F6.ce6
  obtain ⟨xF124_0, xF124_1, xF124_2⟩ := F12.ce3
  go_wp2_with fail
  (with_reducible refine (h3 _ (hT.below B0)).mono ?_)
  rintro r w5 ⟨rfl, hb5⟩
  clear xF44_0 xF44_1 xF44_2 xF44_3 xF44_4 xF44_5 xF64_0 xF64_1 xF64_2 xF64_3 xF64_4 xF64_5 xF124_0 xF124_1 xF124_2
  replace F4 := F4.keep hb5
  replace F6 := F6.keep hb5
  replace F12 := F12.keep hb5
  replace B0 := B0.trans (hb5.mono B0.size)
  clear hb5
  go_wp2
  go_ret2
  exact ⟨rfl, B0⟩

set_option maxRecDepth 10000 in
set_option maxHeartbeats 4000000 in
theorem gwithin_4 (c : GY) (r : DY) (d : GY) (s : DY) (M : Int) (p : DY × Int) (F : Int × Int) (E_M : yCmp r s = M) (E_p : ySub s r = p) (E_F : gFar c d p.1 = F) (w : World) (ok_c : c.ok) (ok_r : r.ok) (ok_d : d.ok) (ok_s : s.ok) (h_r : r.n = false) (h_s : s.n = false) (h_M : ¬ 0 < M) (h_p : p.2 = 0) (h_F : ¬ F.2 = 0) (hT : Tab w) :
    Calls Tryd.prog 91 #[.agg #[.bool c.re.n, .string (bstr c.re.x), .int .i64 c.re.e, .bool c.im.n, .string (bstr c.im.x), .int .i64 c.im.e], .agg #[.bool r.n, .string (bstr r.x), .int .i64 r.e], .agg #[.bool d.re.n, .string (bstr d.re.x), .int .i64 d.re.e, .bool d.im.n, .string (bstr d.im.x), .int .i64 d.im.e], .agg #[.bool s.n, .string (bstr s.x), .int .i64 s.e]] w fun r w' => r = .returned (.tuple #[.bool false, .int .i64 F.2]) ∧ Below w.heap.size w w' := by
  have ok_p : p.1.ok := E_p ▸ ySub_ok _ _
  have hall := fun Bk W h => gall2_ok c d Bk W h ok_c ok_d
  have hrad := fun Bk W h => grad2_ok r s Bk W h ok_r ok_s h_r h_s
  have h1 := fun W => ccmp r s W ok_r ok_s
  rw [E_M] at h1
  have h2 := fun W hW => csub s r W ok_s ok_r hW
  rw [E_p] at h2
  have h3 := fun W hW => gfar c d p.1 W ok_c ok_d ok_p hW
  rw [E_F] at h3
  clear h_r h_s
  clear E_M E_p E_F ok_p ok_c ok_r ok_d ok_s
  obtain ⟨⟨cn, cX, ce⟩, ⟨cm, cY, cf⟩⟩ := c
  obtain ⟨rn, rX, re⟩ := r
  obtain ⟨⟨dn, dX, de⟩, ⟨dm, dY, df⟩⟩ := d
  obtain ⟨sn, sX, se⟩ := s
  obtain ⟨⟨pn, pX, pe⟩, pr⟩ := p
  obtain ⟨Fn, Fr⟩ := F
  dsimp only at *
  generalize bstr cX = cS at *
  generalize bstr cY = cT at *
  generalize bstr rX = rS at *
  generalize bstr dX = dS at *
  generalize bstr dY = dT at *
  generalize bstr sX = sS at *
  generalize bstr pX = pS at *
  have hd_M : decide (0 < M) = false := decide_eq_false h_M
  clear h_M
  have hb_p : (pr != 0) = false := by simp [h_p]
  clear h_p
  have he_F : (Fr == 0) = false := by simpa using h_F
  clear h_F
  go_enter Tryd.func91, Tryd.ntmps91
  have B0 := Below.refl w.heap.size w
  have F4 := Blk.put (w) #[.bool cn, .string cS, .int .i64 ce, .bool cm, .string cT, .int .i64 cf] 49
  replace B0 := B0.alloc B0.size (.cells #[.bool cn, .string cS, .int .i64 ce, .bool cm, .string cT, .int .i64 cf] 49)
  replace F4 := F4.allocd (.cells #[.bool rn, .string rS, .int .i64 re] 24)
  have F5 := Blk.put ((w).alloc (.cells #[.bool cn, .string cS, .int .i64 ce, .bool cm, .string cT, .int .i64 cf] 49)) #[.bool rn, .string rS, .int .i64 re] 24
  rw [show ((w).alloc (.cells #[.bool cn, .string cS, .int .i64 ce, .bool cm, .string cT, .int .i64 cf] 49)).heap.size = w.heap.size + 1 by simp] at F5
  replace B0 := B0.alloc B0.size (.cells #[.bool rn, .string rS, .int .i64 re] 24)
  replace F4 := F4.allocd (.cells #[.bool dn, .string dS, .int .i64 de, .bool dm, .string dT, .int .i64 df] 49)
  replace F5 := F5.allocd (.cells #[.bool dn, .string dS, .int .i64 de, .bool dm, .string dT, .int .i64 df] 49)
  have F6 := Blk.put (((w).alloc (.cells #[.bool cn, .string cS, .int .i64 ce, .bool cm, .string cT, .int .i64 cf] 49)).alloc (.cells #[.bool rn, .string rS, .int .i64 re] 24)) #[.bool dn, .string dS, .int .i64 de, .bool dm, .string dT, .int .i64 df] 49
  rw [show (((w).alloc (.cells #[.bool cn, .string cS, .int .i64 ce, .bool cm, .string cT, .int .i64 cf] 49)).alloc (.cells #[.bool rn, .string rS, .int .i64 re] 24)).heap.size = w.heap.size + 1 + 1 by simp] at F6
  replace B0 := B0.alloc B0.size (.cells #[.bool dn, .string dS, .int .i64 de, .bool dm, .string dT, .int .i64 df] 49)
  replace F4 := F4.allocd (.cells #[.bool sn, .string sS, .int .i64 se] 24)
  replace F5 := F5.allocd (.cells #[.bool sn, .string sS, .int .i64 se] 24)
  replace F6 := F6.allocd (.cells #[.bool sn, .string sS, .int .i64 se] 24)
  have F7 := Blk.put ((((w).alloc (.cells #[.bool cn, .string cS, .int .i64 ce, .bool cm, .string cT, .int .i64 cf] 49)).alloc (.cells #[.bool rn, .string rS, .int .i64 re] 24)).alloc (.cells #[.bool dn, .string dS, .int .i64 de, .bool dm, .string dT, .int .i64 df] 49)) #[.bool sn, .string sS, .int .i64 se] 24
  rw [show ((((w).alloc (.cells #[.bool cn, .string cS, .int .i64 ce, .bool cm, .string cT, .int .i64 cf] 49)).alloc (.cells #[.bool rn, .string rS, .int .i64 re] 24)).alloc (.cells #[.bool dn, .string dS, .int .i64 de, .bool dm, .string dT, .int .i64 df] 49)).heap.size = w.heap.size + 1 + 1 + 1 by simp] at F7
  replace B0 := B0.alloc B0.size (.cells #[.bool sn, .string sS, .int .i64 se] 24)
  obtain ⟨xF40_0, xF40_1, xF40_2, xF40_3, xF40_4, xF40_5⟩ := F4.ce6
  obtain ⟨xF60_0, xF60_1, xF60_2, xF60_3, xF60_4, xF60_5⟩ := F6.ce6
  go_wp2_with fail
  (with_reducible refine (hall _ _ (by simp)).mono ?_)
  rintro r w1 ⟨rfl, hb1⟩
  clear xF40_0 xF40_1 xF40_2 xF40_3 xF40_4 xF40_5 xF60_0 xF60_1 xF60_2 xF60_3 xF60_4 xF60_5
  replace F4 := F4.keep hb1
  replace F5 := F5.keep hb1
  replace F6 := F6.keep hb1
  replace F7 := F7.keep hb1
  replace B0 := B0.trans (hb1.mono B0.size)
  clear hb1
  obtain ⟨xF51_0, xF51_1, xF51_2⟩ := F5.ce3
  obtain ⟨xF71_0, xF71_1, xF71_2⟩ := F7.ce3
  go_wp2_with fail
  (with_reducible refine (hrad _ _ (by simp)).mono ?_)
  rintro r w2 ⟨rfl, hb2⟩
  clear xF51_0 xF51_1 xF51_2 xF71_0 xF71_1 xF71_2
  replace F4 := F4.keep hb2
  replace F5 := F5.keep hb2
  replace F6 := F6.keep hb2
  replace F7 := F7.keep hb2
  replace B0 := B0.trans (hb2.mono B0.size)
  clear hb2
  obtain ⟨xF52_0, xF52_1, xF52_2⟩ := F5.ce3
  obtain ⟨xF72_0, xF72_1, xF72_2⟩ := F7.ce3
  go_wp2_with fail
  (with_reducible refine (h1 _).mono ?_)
  rintro r w3 ⟨rfl, hb3⟩
  clear xF52_0 xF52_1 xF52_2 xF72_0 xF72_1 xF72_2
  replace F4 := F4.keep hb3
  replace F5 := F5.keep hb3
  replace F6 := F6.keep hb3
  replace F7 := F7.keep hb3
  replace B0 := B0.trans (hb3.mono B0.size)
  clear hb3
  obtain ⟨xF73_0, xF73_1, xF73_2⟩ := F7.ce3
  obtain ⟨xF53_0, xF53_1, xF53_2⟩ := F5.ce3
  go_wp2_with fail
  (with_reducible refine (h2 _ (hT.below B0)).mono ?_)
  rintro r w4 ⟨rfl, hb4⟩
  clear xF73_0 xF73_1 xF73_2 xF53_0 xF53_1 xF53_2
  replace F4 := F4.keep hb4
  replace F5 := F5.keep hb4
  replace F6 := F6.keep hb4
  replace F7 := F7.keep hb4
  replace B0 := B0.trans (hb4.mono B0.size)
  clear hb4
  replace F4 := F4.allocd (.cells #[.bool pn, .string pS, .int .i64 pe] 24)
  clear F5
  replace F6 := F6.allocd (.cells #[.bool pn, .string pS, .int .i64 pe] 24)
  clear F7
  have F12 := Blk.put (w4) #[.bool pn, .string pS, .int .i64 pe] 24
  replace B0 := B0.alloc B0.size (.cells #[.bool pn, .string pS, .int .i64 pe] 24)
  obtain ⟨xF44_0, xF44_1, xF44_2, xF44_3, xF44_4, xF44_5⟩ := F4.ce6
  obtain ⟨xF64_0, xF64_1, xF64_2, xF64_3, xF64_4, xF64_5⟩ := F6.ce6
  obtain ⟨xF124_0, xF124_1, xF124_2⟩ := F12.ce3
  go_wp2_with fail
  (with_reducible refine (h3 _ (hT.below B0)).mono ?_)
  rintro r w5 ⟨rfl, hb5⟩
  clear xF44_0 xF44_1 xF44_2 xF44_3 xF44_4 xF44_5 xF64_0 xF64_1 xF64_2 xF64_3 xF64_4 xF64_5 xF124_0 xF124_1 xF124_2
  replace F4 := F4.keep hb5
  replace F6 := F6.keep hb5
  replace F12 := F12.keep hb5
  replace B0 := B0.trans (hb5.mono B0.size)
  clear hb5
  go_wp2
  go_ret2
  exact ⟨rfl, B0⟩

theorem gwithin (c : GY) (r : DY) (d : GY) (s : DY) (w : World) (hc : c.ok) (hr : r.ok) (hd : d.ok) (hs : s.ok) (h0 : r.n = false) (h1 : s.n = false) (hT : Tab w) :
    Calls Tryd.prog 91 #[.agg #[.bool c.re.n, .string (bstr c.re.x), .int .i64 c.re.e, .bool c.im.n, .string (bstr c.im.x), .int .i64 c.im.e], .agg #[.bool r.n, .string (bstr r.x), .int .i64 r.e], .agg #[.bool d.re.n, .string (bstr d.re.x), .int .i64 d.re.e, .bool d.im.n, .string (bstr d.im.x), .int .i64 d.im.e], .agg #[.bool s.n, .string (bstr s.x), .int .i64 s.e]] w fun r9 w' => r9 = .returned (.tuple #[.bool (gWithin c r d s).1, .int .i64 (gWithin c r d s).2]) ∧ Below w.heap.size w w' := by
  unfold gWithin
  by_cases hM : 0 < yCmp r s
  · rw [if_pos hM]
    exact gwithin_1 c r d s _ rfl w hc hr hd hs h0 h1 hM
  · rw [if_neg hM]
    by_cases hp : (ySub s r).2 = 0
    · rw [if_pos hp]
      unfold gIn
      by_cases h : (gFar c d (ySub s r).1).2 = 0
      · rw [if_pos h]
        exact gwithin_3 c r d s _ _ _ rfl rfl rfl w hc hr hd hs h0 h1 hM hp h hT
      · rw [if_neg h]
        exact gwithin_4 c r d s _ _ _ rfl rfl rfl w hc hr hd hs h0 h1 hM hp h hT
    · rw [if_neg hp]
      exact gwithin_2 c r d s _ _ rfl rfl w hc hr hd hs h0 h1 hM hp hT

set_option maxRecDepth 10000 in
set_option maxHeartbeats 4000000 in
theorem gapart_1 (c : GY) (r : DY) (d : GY) (s : DY) (p : DY × Int) (E_p : yAdd r s = p) (w : World) (ok_c : c.ok) (ok_r : r.ok) (ok_d : d.ok) (ok_s : s.ok) (h_r : r.n = false) (h_s : s.n = false) (h_p : ¬ p.2 = 0) (hT : Tab w) :
    Calls Tryd.prog 92 #[.agg #[.bool c.re.n, .string (bstr c.re.x), .int .i64 c.re.e, .bool c.im.n, .string (bstr c.im.x), .int .i64 c.im.e], .agg #[.bool r.n, .string (bstr r.x), .int .i64 r.e], .agg #[.bool d.re.n, .string (bstr d.re.x), .int .i64 d.re.e, .bool d.im.n, .string (bstr d.im.x), .int .i64 d.im.e], .agg #[.bool s.n, .string (bstr s.x), .int .i64 s.e]] w fun r w' => r = .returned (.tuple #[.bool false, .int .i64 p.2]) ∧ Below w.heap.size w w' := by
  have ok_p : p.1.ok := E_p ▸ yAdd_ok _ _
  have hall := fun Bk W h => gall2_ok c d Bk W h ok_c ok_d
  have hrad := fun Bk W h => grad2_ok r s Bk W h ok_r ok_s h_r h_s
  have h2 := fun W hW => cadd r s W ok_r ok_s hW
  rw [E_p] at h2
  clear h_r h_s
  clear E_p ok_p ok_c ok_r ok_d ok_s
  obtain ⟨⟨cn, cX, ce⟩, ⟨cm, cY, cf⟩⟩ := c
  obtain ⟨rn, rX, re⟩ := r
  obtain ⟨⟨dn, dX, de⟩, ⟨dm, dY, df⟩⟩ := d
  obtain ⟨sn, sX, se⟩ := s
  obtain ⟨⟨pn, pX, pe⟩, pr⟩ := p
  dsimp only at *
  generalize bstr cX = cS at *
  generalize bstr cY = cT at *
  generalize bstr rX = rS at *
  generalize bstr dX = dS at *
  generalize bstr dY = dT at *
  generalize bstr sX = sS at *
  generalize bstr pX = pS at *
  have hb_p : (pr != 0) = true := by simpa using h_p
  clear h_p
  go_enter Tryd.func92, Tryd.ntmps92
  have B0 := Below.refl w.heap.size w
  have F4 := Blk.put (w) #[.bool cn, .string cS, .int .i64 ce, .bool cm, .string cT, .int .i64 cf] 49
  replace B0 := B0.alloc B0.size (.cells #[.bool cn, .string cS, .int .i64 ce, .bool cm, .string cT, .int .i64 cf] 49)
  replace F4 := F4.allocd (.cells #[.bool rn, .string rS, .int .i64 re] 24)
  have F5 := Blk.put ((w).alloc (.cells #[.bool cn, .string cS, .int .i64 ce, .bool cm, .string cT, .int .i64 cf] 49)) #[.bool rn, .string rS, .int .i64 re] 24
  rw [show ((w).alloc (.cells #[.bool cn, .string cS, .int .i64 ce, .bool cm, .string cT, .int .i64 cf] 49)).heap.size = w.heap.size + 1 by simp] at F5
  replace B0 := B0.alloc B0.size (.cells #[.bool rn, .string rS, .int .i64 re] 24)
  replace F4 := F4.allocd (.cells #[.bool dn, .string dS, .int .i64 de, .bool dm, .string dT, .int .i64 df] 49)
  replace F5 := F5.allocd (.cells #[.bool dn, .string dS, .int .i64 de, .bool dm, .string dT, .int .i64 df] 49)
  have F6 := Blk.put (((w).alloc (.cells #[.bool cn, .string cS, .int .i64 ce, .bool cm, .string cT, .int .i64 cf] 49)).alloc (.cells #[.bool rn, .string rS, .int .i64 re] 24)) #[.bool dn, .string dS, .int .i64 de, .bool dm, .string dT, .int .i64 df] 49
  rw [show (((w).alloc (.cells #[.bool cn, .string cS, .int .i64 ce, .bool cm, .string cT, .int .i64 cf] 49)).alloc (.cells #[.bool rn, .string rS, .int .i64 re] 24)).heap.size = w.heap.size + 1 + 1 by simp] at F6
  replace B0 := B0.alloc B0.size (.cells #[.bool dn, .string dS, .int .i64 de, .bool dm, .string dT, .int .i64 df] 49)
  replace F4 := F4.allocd (.cells #[.bool sn, .string sS, .int .i64 se] 24)
  replace F5 := F5.allocd (.cells #[.bool sn, .string sS, .int .i64 se] 24)
  replace F6 := F6.allocd (.cells #[.bool sn, .string sS, .int .i64 se] 24)
  have F7 := Blk.put ((((w).alloc (.cells #[.bool cn, .string cS, .int .i64 ce, .bool cm, .string cT, .int .i64 cf] 49)).alloc (.cells #[.bool rn, .string rS, .int .i64 re] 24)).alloc (.cells #[.bool dn, .string dS, .int .i64 de, .bool dm, .string dT, .int .i64 df] 49)) #[.bool sn, .string sS, .int .i64 se] 24
  rw [show ((((w).alloc (.cells #[.bool cn, .string cS, .int .i64 ce, .bool cm, .string cT, .int .i64 cf] 49)).alloc (.cells #[.bool rn, .string rS, .int .i64 re] 24)).alloc (.cells #[.bool dn, .string dS, .int .i64 de, .bool dm, .string dT, .int .i64 df] 49)).heap.size = w.heap.size + 1 + 1 + 1 by simp] at F7
  replace B0 := B0.alloc B0.size (.cells #[.bool sn, .string sS, .int .i64 se] 24)
  obtain ⟨xF40_0, xF40_1, xF40_2, xF40_3, xF40_4, xF40_5⟩ := F4.ce6
  obtain ⟨xF60_0, xF60_1, xF60_2, xF60_3, xF60_4, xF60_5⟩ := F6.ce6
  go_wp2_with fail
  (with_reducible refine (hall _ _ (by simp)).mono ?_)
  rintro r w1 ⟨rfl, hb1⟩
  clear xF40_0 xF40_1 xF40_2 xF40_3 xF40_4 xF40_5 xF60_0 xF60_1 xF60_2 xF60_3 xF60_4 xF60_5
  replace F4 := F4.keep hb1
  replace F5 := F5.keep hb1
  replace F6 := F6.keep hb1
  replace F7 := F7.keep hb1
  replace B0 := B0.trans (hb1.mono B0.size)
  clear hb1
  obtain ⟨xF51_0, xF51_1, xF51_2⟩ := F5.ce3
  obtain ⟨xF71_0, xF71_1, xF71_2⟩ := F7.ce3
  go_wp2_with fail
  (with_reducible refine (hrad _ _ (by simp)).mono ?_)
  rintro r w2 ⟨rfl, hb2⟩
  clear xF51_0 xF51_1 xF51_2 xF71_0 xF71_1 xF71_2
  clear F4
  replace F5 := F5.keep hb2
  clear F6
  replace F7 := F7.keep hb2
  replace B0 := B0.trans (hb2.mono B0.size)
  clear hb2
  obtain ⟨xF52_0, xF52_1, xF52_2⟩ := F5.ce3
  obtain ⟨xF72_0, xF72_1, xF72_2⟩ := F7.ce3
  go_wp2_with fail
  (with_reducible refine (h2 _ (hT.below B0)).mono ?_)
  rintro r w3 ⟨rfl, hb3⟩
  clear xF52_0 xF52_1 xF52_2 xF72_0 xF72_1 xF72_2
  replace F5 := F5.keep hb3
  replace F7 := F7.keep hb3
  replace B0 := B0.trans (hb3.mono B0.size)
  clear hb3
  clear F5
  clear F7
  replace B0 := B0.alloc B0.size (.cells #[.bool pn, .string pS, .int .i64 pe] 24)
  go_wp2
  go_ret2
  exact ⟨rfl, B0⟩

set_option maxRecDepth 10000 in
set_option maxHeartbeats 4000000 in
theorem gapart_2 (c : GY) (r : DY) (d : GY) (s : DY) (p : DY × Int) (F : Int × Int) (E_p : yAdd r s = p) (E_F : gFar c d p.1 = F) (w : World) (ok_c : c.ok) (ok_r : r.ok) (ok_d : d.ok) (ok_s : s.ok) (h_r : r.n = false) (h_s : s.n = false) (h_p : p.2 = 0) (h_F : F.2 = 0) (hT : Tab w) :
    Calls Tryd.prog 92 #[.agg #[.bool c.re.n, .string (bstr c.re.x), .int .i64 c.re.e, .bool c.im.n, .string (bstr c.im.x), .int .i64 c.im.e], .agg #[.bool r.n, .string (bstr r.x), .int .i64 r.e], .agg #[.bool d.re.n, .string (bstr d.re.x), .int .i64 d.re.e, .bool d.im.n, .string (bstr d.im.x), .int .i64 d.im.e], .agg #[.bool s.n, .string (bstr s.x), .int .i64 s.e]] w fun r w' => r = .returned (.tuple #[.bool (decide (0 < F.1)), .int .i64 0]) ∧ Below w.heap.size w w' := by
  have ok_p : p.1.ok := E_p ▸ yAdd_ok _ _
  have hall := fun Bk W h => gall2_ok c d Bk W h ok_c ok_d
  have hrad := fun Bk W h => grad2_ok r s Bk W h ok_r ok_s h_r h_s
  have h2 := fun W hW => cadd r s W ok_r ok_s hW
  rw [E_p] at h2
  have h3 := fun W hW => gfar c d p.1 W ok_c ok_d ok_p hW
  rw [E_F] at h3
  clear h_r h_s
  clear E_p E_F ok_p ok_c ok_r ok_d ok_s
  obtain ⟨⟨cn, cX, ce⟩, ⟨cm, cY, cf⟩⟩ := c
  obtain ⟨rn, rX, re⟩ := r
  obtain ⟨⟨dn, dX, de⟩, ⟨dm, dY, df⟩⟩ := d
  obtain ⟨sn, sX, se⟩ := s
  obtain ⟨⟨pn, pX, pe⟩, pr⟩ := p
  obtain ⟨Fn, Fr⟩ := F
  dsimp only at *
  generalize bstr cX = cS at *
  generalize bstr cY = cT at *
  generalize bstr rX = rS at *
  generalize bstr dX = dS at *
  generalize bstr dY = dT at *
  generalize bstr sX = sS at *
  generalize bstr pX = pS at *
  have hb_p : (pr != 0) = false := by simp [h_p]
  clear h_p
  obtain rfl : Fr = 0 := h_F
  go_enter Tryd.func92, Tryd.ntmps92
  have B0 := Below.refl w.heap.size w
  have F4 := Blk.put (w) #[.bool cn, .string cS, .int .i64 ce, .bool cm, .string cT, .int .i64 cf] 49
  replace B0 := B0.alloc B0.size (.cells #[.bool cn, .string cS, .int .i64 ce, .bool cm, .string cT, .int .i64 cf] 49)
  replace F4 := F4.allocd (.cells #[.bool rn, .string rS, .int .i64 re] 24)
  have F5 := Blk.put ((w).alloc (.cells #[.bool cn, .string cS, .int .i64 ce, .bool cm, .string cT, .int .i64 cf] 49)) #[.bool rn, .string rS, .int .i64 re] 24
  rw [show ((w).alloc (.cells #[.bool cn, .string cS, .int .i64 ce, .bool cm, .string cT, .int .i64 cf] 49)).heap.size = w.heap.size + 1 by simp] at F5
  replace B0 := B0.alloc B0.size (.cells #[.bool rn, .string rS, .int .i64 re] 24)
  replace F4 := F4.allocd (.cells #[.bool dn, .string dS, .int .i64 de, .bool dm, .string dT, .int .i64 df] 49)
  replace F5 := F5.allocd (.cells #[.bool dn, .string dS, .int .i64 de, .bool dm, .string dT, .int .i64 df] 49)
  have F6 := Blk.put (((w).alloc (.cells #[.bool cn, .string cS, .int .i64 ce, .bool cm, .string cT, .int .i64 cf] 49)).alloc (.cells #[.bool rn, .string rS, .int .i64 re] 24)) #[.bool dn, .string dS, .int .i64 de, .bool dm, .string dT, .int .i64 df] 49
  rw [show (((w).alloc (.cells #[.bool cn, .string cS, .int .i64 ce, .bool cm, .string cT, .int .i64 cf] 49)).alloc (.cells #[.bool rn, .string rS, .int .i64 re] 24)).heap.size = w.heap.size + 1 + 1 by simp] at F6
  replace B0 := B0.alloc B0.size (.cells #[.bool dn, .string dS, .int .i64 de, .bool dm, .string dT, .int .i64 df] 49)
  replace F4 := F4.allocd (.cells #[.bool sn, .string sS, .int .i64 se] 24)
  replace F5 := F5.allocd (.cells #[.bool sn, .string sS, .int .i64 se] 24)
  replace F6 := F6.allocd (.cells #[.bool sn, .string sS, .int .i64 se] 24)
  have F7 := Blk.put ((((w).alloc (.cells #[.bool cn, .string cS, .int .i64 ce, .bool cm, .string cT, .int .i64 cf] 49)).alloc (.cells #[.bool rn, .string rS, .int .i64 re] 24)).alloc (.cells #[.bool dn, .string dS, .int .i64 de, .bool dm, .string dT, .int .i64 df] 49)) #[.bool sn, .string sS, .int .i64 se] 24
  rw [show ((((w).alloc (.cells #[.bool cn, .string cS, .int .i64 ce, .bool cm, .string cT, .int .i64 cf] 49)).alloc (.cells #[.bool rn, .string rS, .int .i64 re] 24)).alloc (.cells #[.bool dn, .string dS, .int .i64 de, .bool dm, .string dT, .int .i64 df] 49)).heap.size = w.heap.size + 1 + 1 + 1 by simp] at F7
  replace B0 := B0.alloc B0.size (.cells #[.bool sn, .string sS, .int .i64 se] 24)
  obtain ⟨xF40_0, xF40_1, xF40_2, xF40_3, xF40_4, xF40_5⟩ := F4.ce6
  obtain ⟨xF60_0, xF60_1, xF60_2, xF60_3, xF60_4, xF60_5⟩ := F6.ce6
  go_wp2_with fail
  (with_reducible refine (hall _ _ (by simp)).mono ?_)
  rintro r w1 ⟨rfl, hb1⟩
  clear xF40_0 xF40_1 xF40_2 xF40_3 xF40_4 xF40_5 xF60_0 xF60_1 xF60_2 xF60_3 xF60_4 xF60_5
  replace F4 := F4.keep hb1
  replace F5 := F5.keep hb1
  replace F6 := F6.keep hb1
  replace F7 := F7.keep hb1
  replace B0 := B0.trans (hb1.mono B0.size)
  clear hb1
  obtain ⟨xF51_0, xF51_1, xF51_2⟩ := F5.ce3
  obtain ⟨xF71_0, xF71_1, xF71_2⟩ := F7.ce3
  go_wp2_with fail
  (with_reducible refine (hrad _ _ (by simp)).mono ?_)
  rintro r w2 ⟨rfl, hb2⟩
  clear xF51_0 xF51_1 xF51_2 xF71_0 xF71_1 xF71_2
  replace F4 := F4.keep hb2
  replace F5 := F5.keep hb2
  replace F6 := F6.keep hb2
  replace F7 := F7.keep hb2
  replace B0 := B0.trans (hb2.mono B0.size)
  clear hb2
  obtain ⟨xF52_0, xF52_1, xF52_2⟩ := F5.ce3
  obtain ⟨xF72_0, xF72_1, xF72_2⟩ := F7.ce3
  go_wp2_with fail
  (with_reducible refine (h2 _ (hT.below B0)).mono ?_)
  rintro r w3 ⟨rfl, hb3⟩
  clear xF52_0 xF52_1 xF52_2 xF72_0 xF72_1 xF72_2
  replace F4 := F4.keep hb3
  replace F5 := F5.keep hb3
  replace F6 := F6.keep hb3
  replace F7 := F7.keep hb3
  replace B0 := B0.trans (hb3.mono B0.size)
  clear hb3
  replace F4 := F4.allocd (.cells #[.bool pn, .string pS, .int .i64 pe] 24)
  clear F5
  replace F6 := F6.allocd (.cells #[.bool pn, .string pS, .int .i64 pe] 24)
  clear F7
  have F10 := Blk.put (w3) #[.bool pn, .string pS, .int .i64 pe] 24
  replace B0 := B0.alloc B0.size (.cells #[.bool pn, .string pS, .int .i64 pe] 24)
  obtain ⟨xF43_0, xF43_1, xF43_2, xF43_3, xF43_4, xF43_5⟩ := F4.ce6
  obtain ⟨xF63_0, xF63_1, xF63_2, xF63_3, xF63_4, xF63_5⟩ := F6.ce6
  obtain ⟨xF103_0, xF103_1, xF103_2⟩ := F10.ce3
  go_wp2_with fail
  (with_reducible refine (h3 _ (hT.below B0)).mono ?_)
  rintro r w4 ⟨rfl, hb4⟩
  clear xF43_0 xF43_1 xF43_2 xF43_3 xF43_4 xF43_5 xF63_0 xF63_1 xF63_2 xF63_3 xF63_4 xF63_5 xF103_0 xF103_1 xF103_2
  replace F4 := F4.keep hb4
  replace F6 := F6.keep hb4
  replace F10 := F10.keep hb4
  replace B0 := B0.trans (hb4.mono B0.size)
  clear hb4
  go_wp2
  go_ret2
  exact ⟨rfl, B0⟩

set_option maxRecDepth 10000 in
set_option maxHeartbeats 4000000 in
theorem gapart_3 (c : GY) (r : DY) (d : GY) (s : DY) (p : DY × Int) (F : Int × Int) (E_p : yAdd r s = p) (E_F : gFar c d p.1 = F) (w : World) (ok_c : c.ok) (ok_r : r.ok) (ok_d : d.ok) (ok_s : s.ok) (h_r : r.n = false) (h_s : s.n = false) (h_p : p.2 = 0) (h_F : ¬ F.2 = 0) (hT : Tab w) :
    Calls Tryd.prog 92 #[.agg #[.bool c.re.n, .string (bstr c.re.x), .int .i64 c.re.e, .bool c.im.n, .string (bstr c.im.x), .int .i64 c.im.e], .agg #[.bool r.n, .string (bstr r.x), .int .i64 r.e], .agg #[.bool d.re.n, .string (bstr d.re.x), .int .i64 d.re.e, .bool d.im.n, .string (bstr d.im.x), .int .i64 d.im.e], .agg #[.bool s.n, .string (bstr s.x), .int .i64 s.e]] w fun r w' => r = .returned (.tuple #[.bool false, .int .i64 F.2]) ∧ Below w.heap.size w w' := by
  have ok_p : p.1.ok := E_p ▸ yAdd_ok _ _
  have hall := fun Bk W h => gall2_ok c d Bk W h ok_c ok_d
  have hrad := fun Bk W h => grad2_ok r s Bk W h ok_r ok_s h_r h_s
  have h2 := fun W hW => cadd r s W ok_r ok_s hW
  rw [E_p] at h2
  have h3 := fun W hW => gfar c d p.1 W ok_c ok_d ok_p hW
  rw [E_F] at h3
  clear h_r h_s
  clear E_p E_F ok_p ok_c ok_r ok_d ok_s
  obtain ⟨⟨cn, cX, ce⟩, ⟨cm, cY, cf⟩⟩ := c
  obtain ⟨rn, rX, re⟩ := r
  obtain ⟨⟨dn, dX, de⟩, ⟨dm, dY, df⟩⟩ := d
  obtain ⟨sn, sX, se⟩ := s
  obtain ⟨⟨pn, pX, pe⟩, pr⟩ := p
  obtain ⟨Fn, Fr⟩ := F
  dsimp only at *
  generalize bstr cX = cS at *
  generalize bstr cY = cT at *
  generalize bstr rX = rS at *
  generalize bstr dX = dS at *
  generalize bstr dY = dT at *
  generalize bstr sX = sS at *
  generalize bstr pX = pS at *
  have hb_p : (pr != 0) = false := by simp [h_p]
  clear h_p
  have he_F : (Fr == 0) = false := by simpa using h_F
  clear h_F
  go_enter Tryd.func92, Tryd.ntmps92
  have B0 := Below.refl w.heap.size w
  have F4 := Blk.put (w) #[.bool cn, .string cS, .int .i64 ce, .bool cm, .string cT, .int .i64 cf] 49
  replace B0 := B0.alloc B0.size (.cells #[.bool cn, .string cS, .int .i64 ce, .bool cm, .string cT, .int .i64 cf] 49)
  replace F4 := F4.allocd (.cells #[.bool rn, .string rS, .int .i64 re] 24)
  have F5 := Blk.put ((w).alloc (.cells #[.bool cn, .string cS, .int .i64 ce, .bool cm, .string cT, .int .i64 cf] 49)) #[.bool rn, .string rS, .int .i64 re] 24
  rw [show ((w).alloc (.cells #[.bool cn, .string cS, .int .i64 ce, .bool cm, .string cT, .int .i64 cf] 49)).heap.size = w.heap.size + 1 by simp] at F5
  replace B0 := B0.alloc B0.size (.cells #[.bool rn, .string rS, .int .i64 re] 24)
  replace F4 := F4.allocd (.cells #[.bool dn, .string dS, .int .i64 de, .bool dm, .string dT, .int .i64 df] 49)
  replace F5 := F5.allocd (.cells #[.bool dn, .string dS, .int .i64 de, .bool dm, .string dT, .int .i64 df] 49)
  have F6 := Blk.put (((w).alloc (.cells #[.bool cn, .string cS, .int .i64 ce, .bool cm, .string cT, .int .i64 cf] 49)).alloc (.cells #[.bool rn, .string rS, .int .i64 re] 24)) #[.bool dn, .string dS, .int .i64 de, .bool dm, .string dT, .int .i64 df] 49
  rw [show (((w).alloc (.cells #[.bool cn, .string cS, .int .i64 ce, .bool cm, .string cT, .int .i64 cf] 49)).alloc (.cells #[.bool rn, .string rS, .int .i64 re] 24)).heap.size = w.heap.size + 1 + 1 by simp] at F6
  replace B0 := B0.alloc B0.size (.cells #[.bool dn, .string dS, .int .i64 de, .bool dm, .string dT, .int .i64 df] 49)
  replace F4 := F4.allocd (.cells #[.bool sn, .string sS, .int .i64 se] 24)
  replace F5 := F5.allocd (.cells #[.bool sn, .string sS, .int .i64 se] 24)
  replace F6 := F6.allocd (.cells #[.bool sn, .string sS, .int .i64 se] 24)
  have F7 := Blk.put ((((w).alloc (.cells #[.bool cn, .string cS, .int .i64 ce, .bool cm, .string cT, .int .i64 cf] 49)).alloc (.cells #[.bool rn, .string rS, .int .i64 re] 24)).alloc (.cells #[.bool dn, .string dS, .int .i64 de, .bool dm, .string dT, .int .i64 df] 49)) #[.bool sn, .string sS, .int .i64 se] 24
  rw [show ((((w).alloc (.cells #[.bool cn, .string cS, .int .i64 ce, .bool cm, .string cT, .int .i64 cf] 49)).alloc (.cells #[.bool rn, .string rS, .int .i64 re] 24)).alloc (.cells #[.bool dn, .string dS, .int .i64 de, .bool dm, .string dT, .int .i64 df] 49)).heap.size = w.heap.size + 1 + 1 + 1 by simp] at F7
  replace B0 := B0.alloc B0.size (.cells #[.bool sn, .string sS, .int .i64 se] 24)
  obtain ⟨xF40_0, xF40_1, xF40_2, xF40_3, xF40_4, xF40_5⟩ := F4.ce6
  obtain ⟨xF60_0, xF60_1, xF60_2, xF60_3, xF60_4, xF60_5⟩ := F6.ce6
  go_wp2_with fail
  (with_reducible refine (hall _ _ (by simp)).mono ?_)
  rintro r w1 ⟨rfl, hb1⟩
  clear xF40_0 xF40_1 xF40_2 xF40_3 xF40_4 xF40_5 xF60_0 xF60_1 xF60_2 xF60_3 xF60_4 xF60_5
  replace F4 := F4.keep hb1
  replace F5 := F5.keep hb1
  replace F6 := F6.keep hb1
  replace F7 := F7.keep hb1
  replace B0 := B0.trans (hb1.mono B0.size)
  clear hb1
  obtain ⟨xF51_0, xF51_1, xF51_2⟩ := F5.ce3
  obtain ⟨xF71_0, xF71_1, xF71_2⟩ := F7.ce3
  go_wp2_with fail
  (with_reducible refine (hrad _ _ (by simp)).mono ?_)
  rintro r w2 ⟨rfl, hb2⟩
  clear xF51_0 xF51_1 xF51_2 xF71_0 xF71_1 xF71_2
  replace F4 := F4.keep hb2
  replace F5 := F5.keep hb2
  replace F6 := F6.keep hb2
  replace F7 := F7.keep hb2
  replace B0 := B0.trans (hb2.mono B0.size)
  clear hb2
  obtain ⟨xF52_0, xF52_1, xF52_2⟩ := F5.ce3
  obtain ⟨xF72_0, xF72_1, xF72_2⟩ := F7.ce3
  go_wp2_with fail
  (with_reducible refine (h2 _ (hT.below B0)).mono ?_)
  rintro r w3 ⟨rfl, hb3⟩
  clear xF52_0 xF52_1 xF52_2 xF72_0 xF72_1 xF72_2
  replace F4 := F4.keep hb3
  replace F5 := F5.keep hb3
  replace F6 := F6.keep hb3
  replace F7 := F7.keep hb3
  replace B0 := B0.trans (hb3.mono B0.size)
  clear hb3
  replace F4 := F4.allocd (.cells #[.bool pn, .string pS, .int .i64 pe] 24)
  clear F5
  replace F6 := F6.allocd (.cells #[.bool pn, .string pS, .int .i64 pe] 24)
  clear F7
  have F10 := Blk.put (w3) #[.bool pn, .string pS, .int .i64 pe] 24
  replace B0 := B0.alloc B0.size (.cells #[.bool pn, .string pS, .int .i64 pe] 24)
  obtain ⟨xF43_0, xF43_1, xF43_2, xF43_3, xF43_4, xF43_5⟩ := F4.ce6
  obtain ⟨xF63_0, xF63_1, xF63_2, xF63_3, xF63_4, xF63_5⟩ := F6.ce6
  obtain ⟨xF103_0, xF103_1, xF103_2⟩ := F10.ce3
  go_wp2_with fail
  (with_reducible refine (h3 _ (hT.below B0)).mono ?_)
  rintro r w4 ⟨rfl, hb4⟩
  clear xF43_0 xF43_1 xF43_2 xF43_3 xF43_4 xF43_5 xF63_0 xF63_1 xF63_2 xF63_3 xF63_4 xF63_5 xF103_0 xF103_1 xF103_2
  replace F4 := F4.keep hb4
  replace F6 := F6.keep hb4
  replace F10 := F10.keep hb4
  replace B0 := B0.trans (hb4.mono B0.size)
  clear hb4
  go_wp2
  go_ret2
  exact ⟨rfl, B0⟩

theorem gapart (c : GY) (r : DY) (d : GY) (s : DY) (w : World) (hc : c.ok) (hr : r.ok) (hd : d.ok) (hs : s.ok) (h0 : r.n = false) (h1 : s.n = false) (hT : Tab w) :
    Calls Tryd.prog 92 #[.agg #[.bool c.re.n, .string (bstr c.re.x), .int .i64 c.re.e, .bool c.im.n, .string (bstr c.im.x), .int .i64 c.im.e], .agg #[.bool r.n, .string (bstr r.x), .int .i64 r.e], .agg #[.bool d.re.n, .string (bstr d.re.x), .int .i64 d.re.e, .bool d.im.n, .string (bstr d.im.x), .int .i64 d.im.e], .agg #[.bool s.n, .string (bstr s.x), .int .i64 s.e]] w fun r9 w' => r9 = .returned (.tuple #[.bool (gApart c r d s).1, .int .i64 (gApart c r d s).2]) ∧ Below w.heap.size w w' := by
  unfold gApart
  by_cases hp : (yAdd r s).2 = 0
  · rw [if_pos hp]
    unfold gOut
    by_cases h : (gFar c d (yAdd r s).1).2 = 0
    · rw [if_pos h]
      exact gapart_2 c r d s _ _ rfl rfl w hc hr hd hs h0 h1 hp h hT
    · rw [if_neg h]
      exact gapart_3 c r d s _ _ rfl rfl w hc hr hd hs h0 h1 hp h hT
  · rw [if_neg hp]
    exact gapart_1 c r d s _ rfl w hc hr hd hs h0 h1 hp hT

end Go.Proofs.YtgcifpjhhoalmaaDoor
