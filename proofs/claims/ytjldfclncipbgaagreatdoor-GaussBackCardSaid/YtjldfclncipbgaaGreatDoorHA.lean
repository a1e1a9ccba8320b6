/- Walks of the layer of Gausses, by a program (walk.py): part HA. -/
import Derived.Test.YtjldfclncipbgaaGreatDoorH9
namespace Go.Proofs.YtjldfclncipbgaaGreatDoor
open Go Go.RowKit Go.PlainAid Fil

set_option maxRecDepth 10000 in
set_option maxHeartbeats 4000000 in
theorem gin_1 (a : GY) (c : GY) (r : DY) (F : Int × Int) (E_F : gFar a c r = F) (w : World) (ok_a : a.ok) (ok_c : c.ok) (ok_r : r.ok) (h_r : r.n = false) (h_F : F.2 = 0) (hT : Tab w) :
    Calls Tryz.prog 41 #[.agg #[.bool a.re.n, .string (bstr a.re.x), .int .i64 a.re.e, .bool a.im.n, .string (bstr a.im.x), .int .i64 a.im.e], .agg #[.bool c.re.n, .string (bstr c.re.x), .int .i64 c.re.e, .bool c.im.n, .string (bstr c.im.x), .int .i64 c.im.e], .agg #[.bool r.n, .string (bstr r.x), .int .i64 r.e]] w fun r w' => r = .returned (.tuple #[.bool (decide (F.1 ≤ 0)), .int .i64 0]) ∧ Below w.heap.size w w' := by
  have hall := fun Bk W h => gall2_ok a c Bk W h ok_a ok_c
  have hrad := fun Bk W h => grad1_ok r Bk W h ok_r h_r
  have h1 := fun W hW => gfar a c r W ok_a ok_c ok_r hW
  rw [E_F] at h1
  clear h_r
  clear E_F ok_a ok_c ok_r
  obtain ⟨⟨an, aX, ae⟩, ⟨am, aY, af⟩⟩ := a
  obtain ⟨⟨cn, cX, ce⟩, ⟨cm, cY, cf⟩⟩ := c
  obtain ⟨rn, rX, re⟩ := r
  obtain ⟨Fn, Fr⟩ := F
  dsimp only at *
  generalize bstr aX = aS at *
  generalize bstr aY = aT at *
  generalize bstr cX = cS at *
  generalize bstr cY = cT at *
  generalize bstr rX = rS at *
  obtain rfl : Fr = 0 := h_F
  go_enter Tryz.func41, Tryz.ntmps41
  have B0 := Below.refl w.heap.size w
  have F3 := Blk.put (w) #[.bool an, .string aS, .int .i64 ae, .bool am, .string aT, .int .i64 af] 38
  replace B0 := B0.alloc B0.size (.cells #[.bool an, .string aS, .int .i64 ae, .bool am, .string aT, .int .i64 af] 38)
  replace F3 := F3.allocd (.cells #[.bool cn, .string cS, .int .i64 ce, .bool cm, .string cT, .int .i64 cf] 38)
  have F4 := Blk.put ((w).alloc (.cells #[.bool an, .string aS, .int .i64 ae, .bool am, .string aT, .int .i64 af] 38)) #[.bool cn, .string cS, .int .i64 ce, .bool cm, .string cT, .int .i64 cf] 38
  rw [show ((w).alloc (.cells #[.bool an, .string aS, .int .i64 ae, .bool am, .string aT, .int .i64 af] 38)).heap.size = w.heap.size + 1 by simp] at F4
  replace B0 := B0.alloc B0.size (.cells #[.bool cn, .string cS, .int .i64 ce, .bool cm, .string cT, .int .i64 cf] 38)
  replace F3 := F3.allocd (.cells #[.bool rn, .string rS, .int .i64 re] 24)
  replace F4 := F4.allocd (.cells #[.bool rn, .string rS, .int .i64 re] 24)
  have F5 := Blk.put (((w).alloc (.cells #[.bool an, .string aS, .int .i64 ae, .bool am, .string aT, .int .i64 af] 38)).alloc (.cells #[.bool cn, .string cS, .int .i64 ce, .bool cm, .string cT, .int .i64 cf] 38)) #[.bool rn, .string rS, .int .i64 re] 24
  rw [show (((w).alloc (.cells #[.bool an, .string aS, .int .i64 ae, .bool am, .string aT, .int .i64 af] 38)).alloc (.cells #[.bool cn, .string cS, .int .i64 ce, .bool cm, .string cT, .int .i64 cf] 38)).heap.size = w.heap.size + 1 + 1 by simp] at F5
  replace B0 := B0.alloc B0.size (.cells #[.bool rn, .string rS, .int .i64 re] 24)
  obtain ⟨xF30_0, xF30_1, xF30_2, xF30_3, xF30_4, xF30_5⟩ := F3.ce6
  obtain ⟨xF40_0, xF40_1, xF40_2, xF40_3, xF40_4, xF40_5⟩ := F4.ce6
  go_wp2_with fail
  (with_reducible refine (hall _ _ (by simp)).mono ?_)
  rintro r w1 ⟨rfl, hb1⟩
  clear xF30_0 xF30_1 xF30_2 xF30_3 xF30_4 xF30_5 xF40_0 xF40_1 xF40_2 xF40_3 xF40_4 xF40_5
  replace F3 := F3.keep hb1
  replace F4 := F4.keep hb1
  replace F5 := F5.keep hb1
  replace B0 := B0.trans (hb1.mono B0.size)
  clear hb1
  obtain ⟨xF51_0, xF51_1, xF51_2⟩ := F5.ce3
  go_wp2_with fail
  (with_reducible refine (hrad _ _ (by simp)).mono ?_)
  rintro r w2 ⟨rfl, hb2⟩
  clear xF51_0 xF51_1 xF51_2
  replace F3 := F3.keep hb2
  replace F4 := F4.keep hb2
  replace F5 := F5.keep hb2
  replace B0 := B0.trans (hb2.mono B0.size)
  clear hb2
  obtain ⟨xF32_0, xF32_1, xF32_2, xF32_3, xF32_4, xF32_5⟩ := F3.ce6
  obtain ⟨xF42_0, xF42_1, xF42_2, xF42_3, xF42_4, xF42_5⟩ := F4.ce6
  obtain ⟨xF52_0, xF52_1, xF52_2⟩ := F5.ce3
  go_wp2_with fail
  (with_reducible refine (h1 _ (hT.below B0)).mono ?_)
  rintro r w3 ⟨rfl, hb3⟩
  clear xF32_0 xF32_1 xF32_2 xF32_3 xF32_4 xF32_5 xF42_0 xF42_1 xF42_2 xF42_3 xF42_4 xF42_5 xF52_0 xF52_1 xF52_2
  replace F3 := F3.keep hb3
  replace F4 := F4.keep hb3
  replace F5 := F5.keep hb3
  replace B0 := B0.trans (hb3.mono B0.size)
  clear hb3
  go_wp2
  go_ret2
  exact ⟨rfl, B0⟩

set_option maxRecDepth 10000 in
set_option maxHeartbeats 4000000 in
theorem gin_2 (a : GY) (c : GY) (r : DY) (F : Int × Int) (E_F : gFar a c r = F) (w : World) (ok_a : a.ok) (ok_c : c.ok) (ok_r : r.ok) (h_r : r.n = false) (h_F : ¬ F.2 = 0) (hT : Tab w) :
    Calls Tryz.prog 41 #[.agg #[.bool a.re.n, .string (bstr a.re.x), .int .i64 a.re.e, .bool a.im.n, .string (bstr a.im.x), .int .i64 a.im.e], .agg #[.bool c.re.n, .string (bstr c.re.x), .int .i64 c.re.e, .bool c.im.n, .string (bstr c.im.x), .int .i64 c.im.e], .agg #[.bool r.n, .string (bstr r.x), .int .i64 r.e]] w fun r w' => r = .returned (.tuple #[.bool false, .int .i64 F.2]) ∧ Below w.heap.size w w' := by
  have hall := fun Bk W h => gall2_ok a c Bk W h ok_a ok_c
  have hrad := fun Bk W h => grad1_ok r Bk W h ok_r h_r
  have h1 := fun W hW => gfar a c r W ok_a ok_c ok_r hW
  rw [E_F] at h1
  clear h_r
  clear E_F ok_a ok_c ok_r
  obtain ⟨⟨an, aX, ae⟩, ⟨am, aY, af⟩⟩ := a
  obtain ⟨⟨cn, cX, ce⟩, ⟨cm, cY, cf⟩⟩ := c
  obtain ⟨rn, rX, re⟩ := r
  obtain ⟨Fn, Fr⟩ := F
  dsimp only at *
  generalize bstr aX = aS at *
  generalize bstr aY = aT at *
  generalize bstr cX = cS at *
  generalize bstr cY = cT at *
  generalize bstr rX = rS at *
  have he_F : (Fr == 0) = false := by simpa using h_F
  clear h_F
  go_enter Tryz.func41, Tryz.ntmps41
  have B0 := Below.refl w.heap.size w
  have F3 := Blk.put (w) #[.bool an, .string aS, .int .i64 ae, .bool am, .string aT, .int .i64 af] 38
  replace B0 := B0.alloc B0.size (.cells #[.bool an, .string aS, .int .i64 ae, .bool am, .string aT, .int .i64 af] 38)
  replace F3 := F3.allocd (.cells #[.bool cn, .string cS, .int .i64 ce, .bool cm, .string cT, .int .i64 cf] 38)
  have F4 := Blk.put ((w).alloc (.cells #[.bool an, .string aS, .int .i64 ae, .bool am, .string aT, .int .i64 af] 38)) #[.bool cn, .string cS, .int .i64 ce, .bool cm, .string cT, .int .i64 cf] 38
  rw [show ((w).alloc (.cells #[.bool an, .string aS, .int .i64 ae, .bool am, .string aT, .int .i64 af] 38)).heap.size = w.heap.size + 1 by simp] at F4
  replace B0 := B0.alloc B0.size (.cells #[.bool cn, .string cS, .int .i64 ce, .bool cm, .string cT, .int .i64 cf] 38)
  replace F3 := F3.allocd (.cells #[.bool rn, .string rS, .int .i64 re] 24)
  replace F4 := F4.allocd (.cells #[.bool rn, .string rS, .int .i64 re] 24)
  have F5 := Blk.put (((w).alloc (.cells #[.bool an, .string aS, .int .i64 ae, .bool am, .string aT, .int .i64 af] 38)).alloc (.cells #[.bool cn, .string cS, .int .i64 ce, .bool cm, .string cT, .int .i64 cf] 38)) #[.bool rn, .string rS, .int .i64 re] 24
  rw [show (((w).alloc (.cells #[.bool an, .string aS, .int .i64 ae, .bool am, .string aT, .int .i64 af] 38)).alloc (.cells #[.bool cn, .string cS, .int .i64 ce, .bool cm, .string cT, .int .i64 cf] 38)).heap.size = w.heap.size + 1 + 1 by simp] at F5
  replace B0 := B0.alloc B0.size (.cells #[.bool rn, .string rS, .int .i64 re] 24)
  obtain ⟨xF30_0, xF30_1, xF30_2, xF30_3, xF30_4, xF30_5⟩ := F3.ce6
  obtain ⟨xF40_0, xF40_1, xF40_2, xF40_3, xF40_4, xF40_5⟩ := F4.ce6
  go_wp2_with fail
  (with_reducible refine (hall _ _ (by simp)).mono ?_)
  rintro r w1 ⟨rfl, hb1⟩
  clear xF30_0 xF30_1 xF30_2 xF30_3 xF30_4 xF30_5 xF40_0 xF40_1 xF40_2 xF40_3 xF40_4 xF40_5
  replace F3 := F3.keep hb1
  replace F4 := F4.keep hb1
  replace F5 := F5.keep hb1
  replace B0 := B0.trans (hb1.mono B0.size)
  clear hb1
  obtain ⟨xF51_0, xF51_1, xF51_2⟩ := F5.ce3
  go_wp2_with fail
  (with_reducible refine (hrad _ _ (by simp)).mono ?_)
  rintro r w2 ⟨rfl, hb2⟩
  clear xF51_0 xF51_1 xF51_2
  replace F3 := F3.keep hb2
  replace F4 := F4.keep hb2
  replace F5 := F5.keep hb2
  replace B0 := B0.trans (hb2.mono B0.size)
  clear hb2
  obtain ⟨xF32_0, xF32_1, xF32_2, xF32_3, xF32_4, xF32_5⟩ := F3.ce6
  obtain ⟨xF42_0, xF42_1, xF42_2, xF42_3, xF42_4, xF42_5⟩ := F4.ce6
  obtain ⟨xF52_0, xF52_1, xF52_2⟩ := F5.ce3
  go_wp2_with fail
  (with_reducible refine (h1 _ (hT.below B0)).mono ?_)
  rintro r w3 ⟨rfl, hb3⟩
  clear xF32_0 xF32_1 xF32_2 xF32_3 xF32_4 xF32_5 xF42_0 xF42_1 xF42_2 xF42_3 xF42_4 xF42_5 xF52_0 xF52_1 xF52_2
  replace F3 := F3.keep hb3
  replace F4 := F4.keep hb3
  replace F5 := F5.keep hb3
  replace B0 := B0.trans (hb3.mono B0.size)
  clear hb3
  go_wp2
  go_ret2
  exact ⟨rfl, B0⟩

theorem gin (a c : GY) (r : DY) (w : World) (ha : a.ok) (hc : c.ok) (hr : r.ok) (h0 : r.n = false) (hT : Tab w) :
    Calls Tryz.prog 41 #[.agg #[.bool a.re.n, .string (bstr a.re.x), .int .i64 a.re.e, .bool a.im.n, .string (bstr a.im.x), .int .i64 a.im.e], .agg #[.bool c.re.n, .string (bstr c.re.x), .int .i64 c.re.e, .bool c.im.n, .string (bstr c.im.x), .int .i64 c.im.e], .agg #[.bool r.n, .string (bstr r.x), .int .i64 r.e]] w fun r9 w' => r9 = .returned (.tuple #[.bool (gIn a c r).1, .int .i64 (gIn a c r).2]) ∧ Below w.heap.size w w' := by
  unfold gIn
  by_cases h : (gFar a c r).2 = 0
  · rw [if_pos h]
    exact gin_1 a c r _ rfl w ha hc hr h0 h hT
  · rw [if_neg h]
    exact gin_2 a c r _ rfl w ha hc hr h0 h hT

end Go.Proofs.YtjldfclncipbgaaGreatDoor
