/- view.Holds where the square may not be. -/
import Derived.Test.YtfbkopepkklkjaaGreatDoorQ3
namespace Go.Proofs.YtfbkopepkklkjaaGreatDoor
open Go Go.RowKit Go.PlainAid Fil


set_option maxRecDepth 10000 in
set_option maxHeartbeats 4000000 in
theorem vholds_badq (l : DRw) (b : DRw) (e : Int) (j : GR) (w : World) (ok_l : l.fit) (ok_b : b.fit) (h : sqB l b e = false) :
    Calls Tryz.prog 7 #[.agg #[.bool l.n, .string l.s, .int .i64 l.e, .bool b.n, .string b.s, .int .i64 b.e, .int .i64 e], .agg #[.bool j.n, .string j.s, .int .i64 j.e, .bool j.m, .string j.t, .int .i64 j.f]] w fun r w' => r = .returned (.tuple #[.bool false, .int .i64 240]) ∧ Below w.heap.size w w' := by
  have h1 := fun W => vright_any l b e W ok_l ok_b
  rw [if_neg (by rw [h]; decide)] at h1
  clear ok_l ok_b
  obtain ⟨ln, lS, le⟩ := l
  obtain ⟨bn, bS, be⟩ := b
  obtain ⟨jn, jS, je, jm, jT, jf⟩ := j
  dsimp only at *
  clear h
  go_enter Tryz.func7, Tryz.ntmps7
  have B0 := Below.refl w.heap.size w
  have F2 := Blk.put (w) #[.bool ln, .string lS, .int .i64 le, .bool bn, .string bS, .int .i64 be, .int .i64 e] 26
  replace B0 := B0.alloc B0.size (.cells #[.bool ln, .string lS, .int .i64 le, .bool bn, .string bS, .int .i64 be, .int .i64 e] 26)
  replace F2 := F2.allocd (.cells #[.bool jn, .string jS, .int .i64 je, .bool jm, .string jT, .int .i64 jf] 28)
  replace B0 := B0.alloc B0.size (.cells #[.bool jn, .string jS, .int .i64 je, .bool jm, .string jT, .int .i64 jf] 28)
  obtain ⟨xF20_0, xF20_1, xF20_2, xF20_3, xF20_4, xF20_5, xF20_6⟩ := F2.ce7
  go_wp2_with fail
  (with_reducible refine (h1 _).mono ?_)
  rintro r w1 ⟨rfl, hb1⟩
  clear xF20_0 xF20_1 xF20_2 xF20_3 xF20_4 xF20_5 xF20_6
  replace F2 := F2.keep hb1
  replace B0 := B0.trans (hb1.mono B0.size)
  clear hb1
  go_wp2
  go_ret2
  exact ⟨rfl, B0⟩

end Go.Proofs.YtfbkopepkklkjaaGreatDoor
