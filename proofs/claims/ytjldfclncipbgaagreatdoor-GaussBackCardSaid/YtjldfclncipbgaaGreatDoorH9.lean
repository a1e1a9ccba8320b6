/- Walks of the layer of Gausses, by a program (walk.py): part H9. -/
import Derived.Test.YtjldfclncipbgaaGreatDoorG6
namespace Go.Proofs.YtjldfclncipbgaaGreatDoor
open Go Go.RowKit Go.PlainAid Fil

set_option maxRecDepth 10000 in
set_option maxHeartbeats 4000000 in
theorem gfar_1 (a : GY) (b : GY) (r : DY) (p : GY × Int) (E_p : gSub a b = p) (w : World) (ok_a : a.ok) (ok_b : b.ok) (h_p : ¬ p.2 = 0) (hT : Tab w) :
    Calls Tryz.prog 72 #[.agg #[.bool a.re.n, .string (bstr a.re.x), .int .i64 a.re.e, .bool a.im.n, .string (bstr a.im.x), .int .i64 a.im.e], .agg #[.bool b.re.n, .string (bstr b.re.x), .int .i64 b.re.e, .bool b.im.n, .string (bstr b.im.x), .int .i64 b.im.e], .agg #[.bool r.n, .string (bstr r.x), .int .i64 r.e]] w fun r w' => r = .returned (.tuple #[.int .i64 0, .int .i64 p.2]) ∧ Below w.heap.size w w' := by
  have ok_p : p.1.ok := E_p ▸ gSub_ok _ _
  have h1 := fun W hW => gsub a b W ok_a ok_b hW
  rw [E_p] at h1
  clear E_p ok_p ok_a ok_b
  obtain ⟨⟨an, aX, ae⟩, ⟨am, aY, af⟩⟩ := a
  obtain ⟨⟨bn, bX, be⟩, ⟨bm, bY, bf⟩⟩ := b
  obtain ⟨rn, rX, re⟩ := r
  obtain ⟨⟨⟨pn, pX, pe⟩, ⟨pm, pY, pf⟩⟩, pr⟩ := p
  dsimp only at *
  generalize bstr aX = aS at *
  generalize bstr aY = aT at *
  generalize bstr bX = bS at *
  generalize bstr bY = bT at *
  generalize bstr rX = rS at *
  generalize bstr pX = pS at *
  generalize bstr pY = pT at *
  have hb_p : (pr != 0) = true := by simpa using h_p
  clear h_p
  go_enter Tryz.func72, Tryz.ntmps72
  have B0 := Below.refl w.heap.size w
  have F3 := Blk.put (w) #[.bool an, .string aS, .int .i64 ae, .bool am, .string aT, .int .i64 af] 38
  replace B0 := B0.alloc B0.size (.cells #[.bool an, .string aS, .int .i64 ae, .bool am, .string aT, .int .i64 af] 38)
  replace F3 := F3.allocd (.cells #[.bool bn, .string bS, .int .i64 be, .bool bm, .string bT, .int .i64 bf] 38)
  have F4 := Blk.put ((w).alloc (.cells #[.bool an, .string aS, .int .i64 ae, .bool am, .string aT, .int .i64 af] 38)) #[.bool bn, .string bS, .int .i64 be, .bool bm, .string bT, .int .i64 bf] 38
  rw [show ((w).alloc (.cells #[.bool an, .string aS, .int .i64 ae, .bool am, .string aT, .int .i64 af] 38)).heap.size = w.heap.size + 1 by simp] at F4
  replace B0 := B0.alloc B0.size (.cells #[.bool bn, .string bS, .int .i64 be, .bool bm, .string bT, .int .i64 bf] 38)
  replace F3 := F3.allocd (.cells #[.bool rn, .string rS, .int .i64 re] 24)
  replace F4 := F4.allocd (.cells #[.bool rn, .string rS, .int .i64 re] 24)
  replace B0 := B0.alloc B0.size (.cells #[.bool rn, .string rS, .int .i64 re] 24)
  obtain ⟨xF30_0, xF30_1, xF30_2, xF30_3, xF30_4, xF30_5⟩ := F3.ce6
  obtain ⟨xF40_0, xF40_1, xF40_2, xF40_3, xF40_4, xF40_5⟩ := F4.ce6
  go_wp2_with fail
  (with_reducible refine (h1 _ (hT.below B0)).mono ?_)
  rintro r w1 ⟨rfl, hb1⟩
  clear xF30_0 xF30_1 xF30_2 xF30_3 xF30_4 xF30_5 xF40_0 xF40_1 xF40_2 xF40_3 xF40_4 xF40_5
  replace F3 := F3.keep hb1
  replace F4 := F4.keep hb1
  replace B0 := B0.trans (hb1.mono B0.size)
  clear hb1
  clear F3
  clear F4
  replace B0 := B0.alloc B0.size (.cells #[.bool pn, .string pS, .int .i64 pe, .bool pm, .string pT, .int .i64 pf] 38)
  go_wp2
  go_ret2
  exact ⟨rfl, B0⟩

set_option maxRecDepth 10000 in
set_option maxHeartbeats 4000000 in
theorem gfar_2 (a : GY) (b : GY) (r : DY) (p : GY × Int) (q : DY × Int) (E_p : gSub a b = p) (E_q : gNorm p.1 = q) (w : World) (ok_a : a.ok) (ok_b : b.ok) (h_p : p.2 = 0) (h_q : ¬ q.2 = 0) (hT : Tab w) :
    Calls Tryz.prog 72 #[.agg #[.bool a.re.n, .string (bstr a.re.x), .int .i64 a.re.e, .bool a.im.n, .string (bstr a.im.x), .int .i64 a.im.e], .agg #[.bool b.re.n, .string (bstr b.re.x), .int .i64 b.re.e, .bool b.im.n, .string (bstr b.im.x), .int .i64 b.im.e], .agg #[.bool r.n, .string (bstr r.x), .int .i64 r.e]] w fun r w' => r = .returned (.tuple #[.int .i64 0, .int .i64 q.2]) ∧ Below w.heap.size w w' := by
  have ok_p : p.1.ok := E_p ▸ gSub_ok _ _
  have ok_q : q.1.ok := E_q ▸ gNorm_ok _
  have h1 := fun W hW => gsub a b W ok_a ok_b hW
  rw [E_p] at h1
  have h2 := fun W hW => gnorm p.1 W ok_p hW
  rw [E_q] at h2
  clear E_p E_q ok_p ok_q ok_a ok_b
  obtain ⟨⟨an, aX, ae⟩, ⟨am, aY, af⟩⟩ := a
  obtain ⟨⟨bn, bX, be⟩, ⟨bm, bY, bf⟩⟩ := b
  obtain ⟨rn, rX, re⟩ := r
  obtain ⟨⟨⟨pn, pX, pe⟩, ⟨pm, pY, pf⟩⟩, pr⟩ := p
  obtain ⟨⟨qn, qX, qe⟩, qr⟩ := q
  dsimp only at *
  generalize bstr aX = aS at *
  generalize bstr aY = aT at *
  generalize bstr bX = bS at *
  generalize bstr bY = bT at *
  generalize bstr rX = rS at *
  generalize bstr pX = pS at *
  generalize bstr pY = pT at *
  generalize bstr qX = qS at *
  have hb_p : (pr != 0) = false := by simp [h_p]
  clear h_p
  have hb_q : (qr != 0) = true := by simpa using h_q
  clear h_q
  go_enter Tryz.func72, Tryz.ntmps72
  have B0 := Below.refl w.heap.size w
  have F3 := Blk.put (w) #[.bool an, .string aS, .int .i64 ae, .bool am, .string aT, .int .i64 af] 38
  replace B0 := B0.alloc B0.size (.cells #[.bool an, .string aS, .int .i64 ae, .bool am, .string aT, .int .i64 af] 38)
  replace F3 := F3.allocd (.cells #[.bool bn, .string bS, .int .i64 be, .bool bm, .string bT, .int .i64 bf] 38)
  have F4 := Blk.put ((w).alloc (.cells #[.bool an, .string aS, .int .i64 ae, .bool am, .string aT, .int .i64 af] 38)) #[.bool bn, .string bS, .int .i64 be, .bool bm, .string bT, .int .i64 bf] 38
  rw [show ((w).alloc (.cells #[.bool an, .string aS, .int .i64 ae, .bool am, .string aT, .int .i64 af] 38)).heap.size = w.heap.size + 1 by simp] at F4
  replace B0 := B0.alloc B0.size (.cells #[.bool bn, .string bS, .int .i64 be, .bool bm, .string bT, .int .i64 bf] 38)
  replace F3 := F3.allocd (.cells #[.bool rn, .string rS, .int .i64 re] 24)
  replace F4 := F4.allocd (.cells #[.bool rn, .string rS, .int .i64 re] 24)
  replace B0 := B0.alloc B0.size (.cells #[.bool rn, .string rS, .int .i64 re] 24)
  obtain ⟨xF30_0, xF30_1, xF30_2, xF30_3, xF30_4, xF30_5⟩ := F3.ce6
  obtain ⟨xF40_0, xF40_1, xF40_2, xF40_3, xF40_4, xF40_5⟩ := F4.ce6
  go_wp2_with fail
  (with_reducible refine (h1 _ (hT.below B0)).mono ?_)
  rintro r w1 ⟨rfl, hb1⟩
  clear xF30_0 xF30_1 xF30_2 xF30_3 xF30_4 xF30_5 xF40_0 xF40_1 xF40_2 xF40_3 xF40_4 xF40_5
  replace F3 := F3.keep hb1
  replace F4 := F4.keep hb1
  replace B0 := B0.trans (hb1.mono B0.size)
  clear hb1
  clear F3
  clear F4
  have F8 := Blk.put (w1) #[.bool pn, .string pS, .int .i64 pe, .bool pm, .string pT, .int .i64 pf] 38
  replace B0 := B0.alloc B0.size (.cells #[.bool pn, .string pS, .int .i64 pe, .bool pm, .string pT, .int .i64 pf] 38)
  obtain ⟨xF81_0, xF81_1, xF81_2, xF81_3, xF81_4, xF81_5⟩ := F8.ce6
  go_wp2_with fail
  (with_reducible refine (h2 _ (hT.below B0)).mono ?_)
  rintro r w2 ⟨rfl, hb2⟩
  clear xF81_0 xF81_1 xF81_2 xF81_3 xF81_4 xF81_5
  replace F8 := F8.keep hb2
  replace B0 := B0.trans (hb2.mono B0.size)
  clear hb2
  clear F8
  replace B0 := B0.alloc B0.size (.cells #[.bool qn, .string qS, .int .i64 qe] 24)
  go_wp2
  go_ret2
  exact ⟨rfl, B0⟩

set_option maxRecDepth 10000 in
set_option maxHeartbeats 4000000 in
theorem gfar_3 (a : GY) (b : GY) (r : DY) (p : GY × Int) (q : DY × Int) (s : DY × Int) (E_p : gSub a b = p) (E_q : gNorm p.1 = q) (E_s : yMul r r = s) (w : World) (ok_a : a.ok) (ok_b : b.ok) (ok_r : r.ok) (h_p : p.2 = 0) (h_q : q.2 = 0) (h_s : ¬ s.2 = 0) (hT : Tab w) :
    Calls Tryz.prog 72 #[.agg #[.bool a.re.n, .string (bstr a.re.x), .int .i64 a.re.e, .bool a.im.n, .string (bstr a.im.x), .int .i64 a.im.e], .agg #[.bool b.re.n, .string (bstr b.re.x), .int .i64 b.re.e, .bool b.im.n, .string (bstr b.im.x), .int .i64 b.im.e], .agg #[.bool r.n, .string (bstr r.x), .int .i64 r.e]] w fun r w' => r = .returned (.tuple #[.int .i64 0, .int .i64 s.2]) ∧ Below w.heap.size w w' := by
  have ok_p : p.1.ok := E_p ▸ gSub_ok _ _
  have ok_q : q.1.ok := E_q ▸ gNorm_ok _
  have ok_s : s.1.ok := E_s ▸ yMul_ok _ _
  have h1 := fun W hW => gsub a b W ok_a ok_b hW
  rw [E_p] at h1
  have h2 := fun W hW => gnorm p.1 W ok_p hW
  rw [E_q] at h2
  have h3 := fun W hW => cmul r r W ok_r ok_r hW
  rw [E_s] at h3
  clear E_p E_q E_s ok_p ok_q ok_s ok_a ok_b ok_r
  obtain ⟨⟨an, aX, ae⟩, ⟨am, aY, af⟩⟩ := a
  obtain ⟨⟨bn, bX, be⟩, ⟨bm, bY, bf⟩⟩ := b
  obtain ⟨rn, rX, re⟩ := r
  obtain ⟨⟨⟨pn, pX, pe⟩, ⟨pm, pY, pf⟩⟩, pr⟩ := p
  obtain ⟨⟨qn, qX, qe⟩, qr⟩ := q
  obtain ⟨⟨sn, sX, se⟩, sr⟩ := s
  dsimp only at *
  generalize bstr aX = aS at *
  generalize bstr aY = aT at *
  generalize bstr bX = bS at *
  generalize bstr bY = bT at *
  generalize bstr rX = rS at *
  generalize bstr pX = pS at *
  generalize bstr pY = pT at *
  generalize bstr qX = qS at *
  generalize bstr sX = sS at *
  have hb_p : (pr != 0) = false := by simp [h_p]
  clear h_p
  have hb_q : (qr != 0) = false := by simp [h_q]
  clear h_q
  have hb_s : (sr != 0) = true := by simpa using h_s
  clear h_s
  go_enter Tryz.func72, Tryz.ntmps72
  have B0 := Below.refl w.heap.size w
  have F3 := Blk.put (w) #[.bool an, .string aS, .int .i64 ae, .bool am, .string aT, .int .i64 af] 38
  replace B0 := B0.alloc B0.size (.cells #[.bool an, .string aS, .int .i64 ae, .bool am, .string aT, .int .i64 af] 38)
  replace F3 := F3.allocd (.cells #[.bool bn, .string bS, .int .i64 be, .bool bm, .string bT, .int .i64 bf] 38)
  have F4 := Blk.put ((w).alloc (.cells #[.bool an, .string aS, .int .i64 ae, .bool am, .string aT, .int .i64 af] 38)) #[.bool bn, .string bS, .int .i64 be, .bool bm, .string bT, .int .i64 bf] 38
  rw [show ((w).alloc (.cells #[.bool an, .string aS, .int .i64 ae, .bool am, .string aT, .int .i64 af] 38)).heap.size = w.heap.size + 1 by simp] at F4
  replace B0 := B0.alloc B0.size (.cells #[.bool bn, .string bS, .int .i64 be, .bool bm, .string bT, .int .i64 bf] 38)
  replace F3 := F3.allocd (.cells #[.bool rn, .string rS, .int .i64 re] 24)
  replace F4 := F4.allocd (.cells #[.bool rn, .string rS, .int .i64 re] 24)
  have F5 := Blk.put (((w).alloc (.cells #[.bool an, .string aS, .int .i64 ae, .bool am, .string aT, .int .i64 af] 38)).alloc (.cells #[.bool bn, .string bS, .int .i64 be, .bool bm, .string bT, .int .i64 bf] 38)) #[.bool rn, .string rS, .int .i64 re] 24
  rw [show (((w).alloc (.cells #[.bool an, .string aS, .int .i64 ae, .bool am, .string aT, .int .i64 af] 38)).alloc (.cells #[.bool bn, .string bS, .int .i64 be, .bool bm, .string bT, .int .i64 bf] 38)).heap.size = w.heap.size + 1 + 1 by simp] at F5
  replace B0 := B0.alloc B0.size (.cells #[.bool rn, .string rS, .int .i64 re] 24)
  obtain ⟨xF30_0, xF30_1, xF30_2, xF30_3, xF30_4, xF30_5⟩ := F3.ce6
  obtain ⟨xF40_0, xF40_1, xF40_2, xF40_3, xF40_4, xF40_5⟩ := F4.ce6
  go_wp2_with fail
  (with_reducible refine (h1 _ (hT.below B0)).mono ?_)
  rintro r w1 ⟨rfl, hb1⟩
  clear xF30_0 xF30_1 xF30_2 xF30_3 xF30_4 xF30_5 xF40_0 xF40_1 xF40_2 xF40_3 xF40_4 xF40_5
  replace F3 := F3.keep hb1
  replace F4 := F4.keep hb1
  replace F5 := F5.keep hb1
  replace B0 := B0.trans (hb1.mono B0.size)
  clear hb1
  clear F3
  clear F4
  replace F5 := F5.allocd (.cells #[.bool pn, .string pS, .int .i64 pe, .bool pm, .string pT, .int .i64 pf] 38)
  have F8 := Blk.put (w1) #[.bool pn, .string pS, .int .i64 pe, .bool pm, .string pT, .int .i64 pf] 38
  replace B0 := B0.alloc B0.size (.cells #[.bool pn, .string pS, .int .i64 pe, .bool pm, .string pT, .int .i64 pf] 38)
  obtain ⟨xF81_0, xF81_1, xF81_2, xF81_3, xF81_4, xF81_5⟩ := F8.ce6
  go_wp2_with fail
  (with_reducible refine (h2 _ (hT.below B0)).mono ?_)
  rintro r w2 ⟨rfl, hb2⟩
  clear xF81_0 xF81_1 xF81_2 xF81_3 xF81_4 xF81_5
  replace F5 := F5.keep hb2
  replace F8 := F8.keep hb2
  replace B0 := B0.trans (hb2.mono B0.size)
  clear hb2
  replace F5 := F5.allocd (.cells #[.bool qn, .string qS, .int .i64 qe] 24)
  clear F8
  replace B0 := B0.alloc B0.size (.cells #[.bool qn, .string qS, .int .i64 qe] 24)
  obtain ⟨xF52_0, xF52_1, xF52_2⟩ := F5.ce3
  go_wp2_with fail
  (with_reducible refine (h3 _ (hT.below B0)).mono ?_)
  rintro r w3 ⟨rfl, hb3⟩
  clear xF52_0 xF52_1 xF52_2
  replace F5 := F5.keep hb3
  replace B0 := B0.trans (hb3.mono B0.size)
  clear hb3
  clear F5
  replace B0 := B0.alloc B0.size (.cells #[.bool sn, .string sS, .int .i64 se] 24)
  go_wp2
  go_ret2
  exact ⟨rfl, B0⟩

set_option maxRecDepth 10000 in
set_option maxHeartbeats 4000000 in
theorem gfar_4 (a : GY) (b : GY) (r : DY) (p : GY × Int) (q : DY × Int) (s : DY × Int) (N : Int) (E_p : gSub a b = p) (E_q : gNorm p.1 = q) (E_s : yMul r r = s) (E_N : yCmp q.1 s.1 = N) (w : World) (ok_a : a.ok) (ok_b : b.ok) (ok_r : r.ok) (h_p : p.2 = 0) (h_q : q.2 = 0) (h_s : s.2 = 0) (hT : Tab w) :
    Calls Tryz.prog 72 #[.agg #[.bool a.re.n, .string (bstr a.re.x), .int .i64 a.re.e, .bool a.im.n, .string (bstr a.im.x), .int .i64 a.im.e], .agg #[.bool b.re.n, .string (bstr b.re.x), .int .i64 b.re.e, .bool b.im.n, .string (bstr b.im.x), .int .i64 b.im.e], .agg #[.bool r.n, .string (bstr r.x), .int .i64 r.e]] w fun r w' => r = .returned (.tuple #[.int .i64 N, .int .i64 0]) ∧ Below w.heap.size w w' := by
  have ok_p : p.1.ok := E_p ▸ gSub_ok _ _
  have ok_q : q.1.ok := E_q ▸ gNorm_ok _
  have ok_s : s.1.ok := E_s ▸ yMul_ok _ _
  have h1 := fun W hW => gsub a b W ok_a ok_b hW
  rw [E_p] at h1
  have h2 := fun W hW => gnorm p.1 W ok_p hW
  rw [E_q] at h2
  have h3 := fun W hW => cmul r r W ok_r ok_r hW
  rw [E_s] at h3
  have h4 := fun W => ccmp q.1 s.1 W ok_q ok_s
  rw [E_N] at h4
  clear E_p E_q E_s E_N ok_p ok_q ok_s ok_a ok_b ok_r
  obtain ⟨⟨an, aX, ae⟩, ⟨am, aY, af⟩⟩ := a
  obtain ⟨⟨bn, bX, be⟩, ⟨bm, bY, bf⟩⟩ := b
  obtain ⟨rn, rX, re⟩ := r
  obtain ⟨⟨⟨pn, pX, pe⟩, ⟨pm, pY, pf⟩⟩, pr⟩ := p
  obtain ⟨⟨qn, qX, qe⟩, qr⟩ := q
  obtain ⟨⟨sn, sX, se⟩, sr⟩ := s
  dsimp only at *
  generalize bstr aX = aS at *
  generalize bstr aY = aT at *
  generalize bstr bX = bS at *
  generalize bstr bY = bT at *
  generalize bstr rX = rS at *
  generalize bstr pX = pS at *
  generalize bstr pY = pT at *
  generalize bstr qX = qS at *
  generalize bstr sX = sS at *
  have hb_p : (pr != 0) = false := by simp [h_p]
  clear h_p
  have hb_q : (qr != 0) = false := by simp [h_q]
  clear h_q
  have hb_s : (sr != 0) = false := by simp [h_s]
  clear h_s
  go_enter Tryz.func72, Tryz.ntmps72
  have B0 := Below.refl w.heap.size w
  have F3 := Blk.put (w) #[.bool an, .string aS, .int .i64 ae, .bool am, .string aT, .int .i64 af] 38
  replace B0 := B0.alloc B0.size (.cells #[.bool an, .string aS, .int .i64 ae, .bool am, .string aT, .int .i64 af] 38)
  replace F3 := F3.allocd (.cells #[.bool bn, .string bS, .int .i64 be, .bool bm, .string bT, .int .i64 bf] 38)
  have F4 := Blk.put ((w).alloc (.cells #[.bool an, .string aS, .int .i64 ae, .bool am, .string aT, .int .i64 af] 38)) #[.bool bn, .string bS, .int .i64 be, .bool bm, .string bT, .int .i64 bf] 38
  rw [show ((w).alloc (.cells #[.bool an, .string aS, .int .i64 ae, .bool am, .string aT, .int .i64 af] 38)).heap.size = w.heap.size + 1 by simp] at F4
  replace B0 := B0.alloc B0.size (.cells #[.bool bn, .string bS, .int .i64 be, .bool bm, .string bT, .int .i64 bf] 38)
  replace F3 := F3.allocd (.cells #[.bool rn, .string rS, .int .i64 re] 24)
  replace F4 := F4.allocd (.cells #[.bool rn, .string rS, .int .i64 re] 24)
  have F5 := Blk.put (((w).alloc (.cells #[.bool an, .string aS, .int .i64 ae, .bool am, .string aT, .int .i64 af] 38)).alloc (.cells #[.bool bn, .string bS, .int .i64 be, .bool bm, .string bT, .int .i64 bf] 38)) #[.bool rn, .string rS, .int .i64 re] 24
  rw [show (((w).alloc (.cells #[.bool an, .string aS, .int .i64 ae, .bool am, .string aT, .int .i64 af] 38)).alloc (.cells #[.bool bn, .string bS, .int .i64 be, .bool bm, .string bT, .int .i64 bf] 38)).heap.size = w.heap.size + 1 + 1 by simp] at F5
  replace B0 := B0.alloc B0.size (.cells #[.bool rn, .string rS, .int .i64 re] 24)
  obtain ⟨xF30_0, xF30_1, xF30_2, xF30_3, xF30_4, xF30_5⟩ := F3.ce6
  obtain ⟨xF40_0, xF40_1, xF40_2, xF40_3, xF40_4, xF40_5⟩ := F4.ce6
  go_wp2_with fail
  (with_reducible refine (h1 _ (hT.below B0)).mono ?_)
  rintro r w1 ⟨rfl, hb1⟩
  clear xF30_0 xF30_1 xF30_2 xF30_3 xF30_4 xF30_5 xF40_0 xF40_1 xF40_2 xF40_3 xF40_4 xF40_5
  replace F3 := F3.keep hb1
  replace F4 := F4.keep hb1
  replace F5 := F5.keep hb1
  replace B0 := B0.trans (hb1.mono B0.size)
  clear hb1
  clear F3
  clear F4
  replace F5 := F5.allocd (.cells #[.bool pn, .string pS, .int .i64 pe, .bool pm, .string pT, .int .i64 pf] 38)
  have F8 := Blk.put (w1) #[.bool pn, .string pS, .int .i64 pe, .bool pm, .string pT, .int .i64 pf] 38
  replace B0 := B0.alloc B0.size (.cells #[.bool pn, .string pS, .int .i64 pe, .bool pm, .string pT, .int .i64 pf] 38)
  obtain ⟨xF81_0, xF81_1, xF81_2, xF81_3, xF81_4, xF81_5⟩ := F8.ce6
  go_wp2_with fail
  (with_reducible refine (h2 _ (hT.below B0)).mono ?_)
  rintro r w2 ⟨rfl, hb2⟩
  clear xF81_0 xF81_1 xF81_2 xF81_3 xF81_4 xF81_5
  replace F5 := F5.keep hb2
  replace F8 := F8.keep hb2
  replace B0 := B0.trans (hb2.mono B0.size)
  clear hb2
  replace F5 := F5.allocd (.cells #[.bool qn, .string qS, .int .i64 qe] 24)
  clear F8
  have F10 := Blk.put (w2) #[.bool qn, .string qS, .int .i64 qe] 24
  replace B0 := B0.alloc B0.size (.cells #[.bool qn, .string qS, .int .i64 qe] 24)
  obtain ⟨xF52_0, xF52_1, xF52_2⟩ := F5.ce3
  go_wp2_with fail
  (with_reducible refine (h3 _ (hT.below B0)).mono ?_)
  rintro r w3 ⟨rfl, hb3⟩
  clear xF52_0 xF52_1 xF52_2
  replace F5 := F5.keep hb3
  replace F10 := F10.keep hb3
  replace B0 := B0.trans (hb3.mono B0.size)
  clear hb3
  clear F5
  replace F10 := F10.allocd (.cells #[.bool sn, .string sS, .int .i64 se] 24)
  have F11 := Blk.put (w3) #[.bool sn, .string sS, .int .i64 se] 24
  replace B0 := B0.alloc B0.size (.cells #[.bool sn, .string sS, .int .i64 se] 24)
  obtain ⟨xF103_0, xF103_1, xF103_2⟩ := F10.ce3
  obtain ⟨xF113_0, xF113_1, xF113_2⟩ := F11.ce3
  go_wp2_with fail
  (with_reducible refine (h4 _).mono ?_)
  rintro r w4 ⟨rfl, hb4⟩
  clear xF103_0 xF103_1 xF103_2 xF113_0 xF113_1 xF113_2
  replace F10 := F10.keep hb4
  replace F11 := F11.keep hb4
  replace B0 := B0.trans (hb4.mono B0.size)
  clear hb4
  go_wp2
  go_ret2
  exact ⟨rfl, B0⟩

theorem gfar (a b : GY) (r : DY) (w : World) (ha : a.ok) (hb : b.ok) (hr : r.ok) (hT : Tab w) :
    Calls Tryz.prog 72 #[.agg #[.bool a.re.n, .string (bstr a.re.x), .int .i64 a.re.e, .bool a.im.n, .string (bstr a.im.x), .int .i64 a.im.e], .agg #[.bool b.re.n, .string (bstr b.re.x), .int .i64 b.re.e, .bool b.im.n, .string (bstr b.im.x), .int .i64 b.im.e], .agg #[.bool r.n, .string (bstr r.x), .int .i64 r.e]] w fun r9 w' => r9 = .returned (.tuple #[.int .i64 (gFar a b r).1, .int .i64 (gFar a b r).2]) ∧ Below w.heap.size w w' := by
  unfold gFar
  by_cases h1 : (gSub a b).2 = 0
  · rw [if_pos h1]
    by_cases h2 : (gNorm (gSub a b).1).2 = 0
    · rw [if_pos h2]
      by_cases h3 : (yMul r r).2 = 0
      · rw [if_pos h3]
        exact gfar_4 a b r _ _ _ _ rfl rfl rfl rfl w ha hb hr h1 h2 h3 hT
      · rw [if_neg h3, ← err4 (yMul_e _ _) h3]
        exact gfar_3 a b r _ _ _ rfl rfl rfl w ha hb hr h1 h2 h3 hT
    · rw [if_neg h2, ← err4 (yTwo_e _ _ _ _ _) h2]
      exact gfar_2 a b r _ _ rfl rfl w ha hb h1 h2 hT
  · rw [if_neg h1, ← err4 (gSub_e _ _) h1]
    exact gfar_1 a b r _ rfl w ha hb h1 hT

end Go.Proofs.YtjldfclncipbgaaGreatDoor
