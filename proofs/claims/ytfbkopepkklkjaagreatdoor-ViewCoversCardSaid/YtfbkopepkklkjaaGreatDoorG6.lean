/- Merged: H8 G6 -/
import Derived.Test.YtfbkopepkklkjaaGreatDoorH6

/- Walks of the layer of Gausses, by a program (walk.py): part H8. -/
namespace Go.Proofs.YtfbkopepkklkjaaGreatDoor
open Go Go.RowKit Go.PlainAid Fil

theorem gNorm_dot (a : GY) : gDot a a = gNorm a := rfl

set_option maxRecDepth 10000 in
set_option maxHeartbeats 4000000 in
theorem gnorm_w (a : GY) (p : DY × Int) (E_p : gNorm a = p) (w : World) (ok_a : a.ok)  (hT : Tab w) :
  Calls Tryz.prog 40 #[.agg #[.bool a.re.n, .string (bstr a.re.x), .int .i64 a.re.e, .bool a.im.n, .string (bstr a.im.x), .int .i64 a.im.e]] w fun r w' => r = .returned (.tuple #[.agg #[.bool p.1.n, .string (bstr p.1.x), .int .i64 p.1.e], .int .i64 p.2]) ∧ Below w.heap.size w w' := by
 have h1 := fun W hW => gdot a a W ok_a ok_a hW
 rw [gNorm_dot] at h1
 rw [E_p] at h1
 clear E_p ok_a
 obtain ⟨⟨an, aX, ae⟩, ⟨am, aY, af⟩⟩ := a
 obtain ⟨⟨pn, pX, pe⟩, pr⟩ := p
 dsimp only at *
 generalize bstr aX = aS at *
 generalize bstr aY = aT at *
 generalize bstr pX = pS at *
 go_enter Tryz.func40, Tryz.ntmps40
 have B0 := Below.refl w.heap.size w
 have F1 := Blk.put (w) #[.bool an, .string aS, .int .i64 ae, .bool am, .string aT, .int .i64 af] 28
 replace B0 := B0.alloc B0.size (.cells #[.bool an, .string aS, .int .i64 ae, .bool am, .string aT, .int .i64 af] 28)
 have q_w_F2 : Hid (w.heap.size ≤ w.heap.size + 1) := Lib.hid (by omega)
 replace F1 := F1.allocd (.cells #[.bool false, .string { data := #[] }, .int .i64 0] 24)
 have F2 := Blk.put ((w).alloc (.cells #[.bool an, .string aS, .int .i64 ae, .bool am, .string aT, .int .i64 af] 28)) #[.bool false, .string { data := #[] }, .int .i64 0] 24
 rw [show ((w).alloc (.cells #[.bool an, .string aS, .int .i64 ae, .bool am, .string aT, .int .i64 af] 28)).heap.size = w.heap.size + 1 by simp] at F2
 replace B0 := B0.alloc B0.size (.cells #[.bool false, .string { data := #[] }, .int .i64 0] 24)
 obtain ⟨xF10_0, xF10_1, xF10_2, xF10_3, xF10_4, xF10_5⟩ := F1.ce6
 go_wp2_with fail
 (with_reducible refine (h1 _ (hT.below B0)).mono ?_)
 rintro r w1 ⟨rfl, hb1⟩
 clear xF10_0 xF10_1 xF10_2 xF10_3 xF10_4 xF10_5
 replace F1 := F1.keep hb1
 replace F2 := F2.keep hb1
 replace B0 := B0.trans (hb1.mono B0.size)
 clear hb1
 obtain ⟨xF21_0, xF21_1, xF21_2⟩ := F2.ce3
 obtain ⟨xF21_0f, xF21_1f, xF21_2f⟩ := F2.fr3
 clear F1
 replace F2 : Blk ((((w1).setCell ⟨w.heap.size + 1, 0, none⟩ (.bool pn)).setCell ⟨w.heap.size + 1, 1, none⟩ (.string pS)).setCell ⟨w.heap.size + 1, 2, none⟩ (.int .i64 pe)) (w.heap.size + 1) #[.bool pn, .string pS, .int .i64 pe] 24 := (((F2.setAt 0 (.bool pn)).setAt 1 (.string pS)).setAt 2 (.int .i64 pe))
 replace B0 := (((B0.setCell (p := ⟨w.heap.size + 1, 0, none⟩) q_w_F2.out (.bool pn)).setCell (p := ⟨w.heap.size + 1, 1, none⟩) q_w_F2.out (.string pS)).setCell (p := ⟨w.heap.size + 1, 2, none⟩) q_w_F2.out (.int .i64 pe))
 obtain ⟨xF22_0, xF22_1, xF22_2⟩ := F2.ce3
 go_wp2
 exact bodyPost_ret (v := .tuple #[.agg #[.bool pn, .string pS, .int .i64 pe], .int .i64 pr]) (by simp [results, Tryz.results40, go_sem, xF22_0, xF22_1, xF22_2]) rfl ⟨rfl, B0⟩

theorem gnorm (a : GY) (w : World) (ha : a.ok) (hT : Tab w) :
  Calls Tryz.prog 40 #[.agg #[.bool a.re.n, .string (bstr a.re.x), .int .i64 a.re.e, .bool a.im.n, .string (bstr a.im.x), .int .i64 a.im.e]] w fun r w' => r = .returned (.tuple #[.agg #[.bool (gNorm a).1.n, .string (bstr (gNorm a).1.x), .int .i64 (gNorm a).1.e], .int .i64 (gNorm a).2]) ∧ Below w.heap.size w w' := gnorm_w a _ rfl w ha hT

theorem gB_e (p q : DY × Int) : (gB p q).2 = 0 ∨ gB p q = (GY.zero, 4) := by
 unfold gB; split
 ·exact .inl rfl
 ·exact .inr rfl
theorem gSub_e (a b : GY) : (gSub a b).2 = 0 ∨ gSub a b = (GY.zero, 4) := gB_e _ _
end Go.Proofs.YtfbkopepkklkjaaGreatDoor

/- package gauss: radii, far, In, Within, Apart; and each function where a number may not be. -/
namespace Go.Proofs.YtfbkopepkklkjaaGreatDoor
open Go Go.RowKit Go.PlainAid Fil

/-- a Dyad, that may be or not -/
structure DRw where
 n : Bool
 s : ByteArray
 e : Int
def DRw.may (d : DRw) : Bool := mayB d.n d.s d.e
def DRw.fit (d : DRw) : Prop := d.s.size ≤ 9223372036854775807
def DY.raw (a : DY) : DRw := ⟨a.n, bstr a.x, a.e⟩
theorem DY.raw_fit {a : DY} (h : a.ok) : a.raw.fit := bstr_len h
theorem DY.raw_may {a : DY} (h : a.ok) : a.raw.may = true := mayB_ok h
end Go.Proofs.YtfbkopepkklkjaaGreatDoor
