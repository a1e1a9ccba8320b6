/- gauss.Pow and the reference's, over what may be. -/
import Derived.Test.YtgcifpjhhoalmaaDoorW1
namespace Go.Proofs.YtgcifpjhhoalmaaDoor
open Go Go.RowKit Go.PlainAid Fil

theorem of_1 : (mkD 1 0, mkR 1 0) = ((⟨false, 1, 0⟩ : DY), (0 : Int)) := by kernel_rfl
theorem bstr_1 : bstr 1 = { data := #[1] } := by
  apply ByteArray.ext
  apply Array.ext'
  show bs 1 = [1]
  decide

set_option maxRecDepth 10000 in
set_option maxHeartbeats 4000000 in
theorem gpow_ok (a : GY) (n : Nat) (w : World) (ha : a.ok) (hn : n ≤ 64) (hT : Tab w) :
    Calls Tryd.prog 86 #[.agg #[.bool a.re.n, .string (bstr a.re.x), .int .i64 a.re.e, .bool a.im.n, .string (bstr a.im.x), .int .i64 a.im.e], .int .i64 n] w fun r w' => r = .returned (.tuple #[.agg #[.bool (gPw a n).1.re.n, .string (bstr (gPw a n).1.re.x), .int .i64 (gPw a n).1.re.e, .bool (gPw a n).1.im.n, .string (bstr (gPw a n).1.im.x), .int .i64 (gPw a n).1.im.e], .int .i64 (gPw a n).2]) ∧ Below w.heap.size w w' := by
  have g0 : decide ((n : Int) < 0) = false := decide_eq_false (by omega)
  have g1 : decide (64 < (n : Int)) = false := decide_eq_false (by omega)
  have g2 : 0 ≤ (n : Int) := by omega
  have g3 : (n : Int) ≤ 64 := by omega
  have hmulA := fun (P : GY) (hP : P.ok) W hW => gmul P a W hP ha hW
  have hall := fun Bk W h => gall1_ok a Bk W h ha
  have hof := fun W hW => cof 1 0 W hW (by omega) (by omega) (by omega) (by omega)
  rw [of_1] at hof
  generalize a.re.n = an at *
  generalize bstr a.re.x = aS at *
  generalize a.re.e = ae at *
  generalize a.im.n = am at *
  generalize bstr a.im.x = aT at *
  generalize a.im.e = af at *
  go_enter Tryd.func86, Tryd.ntmps86
  have B0 := Below.refl w.heap.size w
  have F2 := Blk.put (w) #[.bool an, .string aS, .int .i64 ae, .bool am, .string aT, .int .i64 af] 49
  replace B0 := B0.alloc B0.size (.cells #[.bool an, .string aS, .int .i64 ae, .bool am, .string aT, .int .i64 af] 49)
  have q_w_F4 : Hid (w.heap.size ≤ w.heap.size + 1) := Lib.hid (by omega)
  replace F2 := F2.allocd (.cells #[.bool false, .string { data := #[] }, .int .i64 0, .bool false, .string { data := #[] }, .int .i64 0] 49)
  have F4 := Blk.put ((w).alloc (.cells #[.bool an, .string aS, .int .i64 ae, .bool am, .string aT, .int .i64 af] 49)) #[.bool false, .string { data := #[] }, .int .i64 0, .bool false, .string { data := #[] }, .int .i64 0] 49
  rw [show ((w).alloc (.cells #[.bool an, .string aS, .int .i64 ae, .bool am, .string aT, .int .i64 af] 49)).heap.size = w.heap.size + 1 by simp] at F4
  replace B0 := B0.alloc B0.size (.cells #[.bool false, .string { data := #[] }, .int .i64 0, .bool false, .string { data := #[] }, .int .i64 0] 49)
  obtain ⟨xF20_0, xF20_1, xF20_2, xF20_3, xF20_4, xF20_5⟩ := F2.ce6
  go_wp2_with fail
  (with_reducible refine (hall _ _ (by simp)).mono ?_)
  rintro r w1 ⟨rfl, hb1⟩
  clear xF20_0 xF20_1 xF20_2 xF20_3 xF20_4 xF20_5
  replace F2 := F2.keep hb1
  replace F4 := F4.keep hb1
  replace B0 := B0.trans (hb1.mono B0.size)
  clear hb1
  go_wp2_with fail
  (with_reducible refine (hof _ (hT.below B0)).mono ?_)
  rintro r w2 ⟨rfl, hb2⟩
  replace F2 := F2.keep hb2
  replace F4 := F4.keep hb2
  replace B0 := B0.trans (hb2.mono B0.size)
  clear hb2
  replace F2 := F2.allocd (.cells #[.bool false, .string (bstr 1), .int .i64 0] 24)
  replace F4 := F4.allocd (.cells #[.bool false, .string (bstr 1), .int .i64 0] 24)
  have F6 := Blk.put (w2) #[.bool false, .string (bstr 1), .int .i64 0] 24
  replace B0 := B0.alloc B0.size (.cells #[.bool false, .string (bstr 1), .int .i64 0] 24)
  obtain ⟨xF62_0, xF62_1, xF62_2⟩ := F6.ce3
  have q_F2_F8 : Hid (w.heap.size < w2.heap.size + 1) := Lib.hid (by have := F2.lt; first | exact this | omega | (simp; done) | simpa using this)
  have q_F4_F8 : Hid (w.heap.size + 1 < w2.heap.size + 1) := Lib.hid (by have := F4.lt; first | exact this | omega | (simp; done) | simpa using this)
  have q_w_F8 : Hid (w.heap.size ≤ w2.heap.size + 1) := Lib.hid (by have := B0.size; first | exact this | omega | (simp; done) | simpa using this)
  replace F2 := F2.allocd (.cells #[.bool false, .string (bstr 1), .int .i64 0, .bool false, .string { data := #[] }, .int .i64 0] 49)
  replace F4 := F4.allocd (.cells #[.bool false, .string (bstr 1), .int .i64 0, .bool false, .string { data := #[] }, .int .i64 0] 49)
  replace F6 := F6.allocd (.cells #[.bool false, .string (bstr 1), .int .i64 0, .bool false, .string { data := #[] }, .int .i64 0] 49)
  have F8 := Blk.put ((w2).alloc (.cells #[.bool false, .string (bstr 1), .int .i64 0] 24)) #[.bool false, .string (bstr 1), .int .i64 0, .bool false, .string { data := #[] }, .int .i64 0] 49
  rw [show ((w2).alloc (.cells #[.bool false, .string (bstr 1), .int .i64 0] 24)).heap.size = w2.heap.size + 1 by simp] at F8
  replace B0 := B0.alloc B0.size (.cells #[.bool false, .string (bstr 1), .int .i64 0, .bool false, .string { data := #[] }, .int .i64 0] 49)
  go_wp2_with fail
  clear xF62_0 xF62_1 xF62_2
  go_loopg [30] n (fun gh sc wr => ∃ i : Nat, i ≤ n ∧ gh = n - i ∧ sc = .int .i64 i ∧ (gPw a i).2 = 0 ∧ Blk wr (w.heap.size) #[.bool an, .string aS, .int .i64 ae, .bool am, .string aT, .int .i64 af] 49 ∧ Blk wr (w.heap.size + 1) #[.bool false, .string { data := #[] }, .int .i64 0, .bool false, .string { data := #[] }, .int .i64 0] 49 ∧ Blk wr (w2.heap.size + 1) #[.bool (gPw a i).1.re.n, .string (bstr (gPw a i).1.re.x), .int .i64 (gPw a i).1.re.e, .bool (gPw a i).1.im.n, .string (bstr (gPw a i).1.im.x), .int .i64 (gPw a i).1.im.e] 49 ∧ Below w.heap.size w wr)
  case atStart =>
    refine ⟨0, Nat.zero_le _, rfl, rfl, rfl, F2, F4, ?_, B0⟩
    show Blk _ _ #[.bool false, .string (bstr 1), .int .i64 0, .bool false, .string (bstr 0), .int .i64 0] _
    rw [bstr_zero]
    exact F8
  case round =>
    obtain ⟨i, hi, hg, rfl, hP, F2, F4, F8, B0⟩ := hrel
    have Hg := Lib.hid hg
    clear hg
    by_cases hin : i < n
    · have hmul := hmulA (gPw a i).1 (gPw_ok a i)
      have Hgo := Lib.hid (gPw_go hP)
      have hst := fun h => gPw_stop hin hP h
      have gi0 : 0 ≤ (i : Int) := by omega
      have gi1 : (i : Int) < (n : Int) := by omega
      clear hP
      generalize gMul (gPw a i).1 a = Q at *
      generalize gPw a i = P at *
      obtain ⟨⟨⟨Pn, PX, Pe⟩, ⟨Pm, PY, Pf⟩⟩, Pr⟩ := P
      obtain ⟨⟨⟨Qn, QX, Qe⟩, ⟨Qm, QY, Qf⟩⟩, Qr⟩ := Q
      dsimp only at *
      generalize bstr PX = PS at *
      generalize bstr PY = PT at *
      obtain ⟨QS, hS⟩ : ∃ s, s = bstr QX := ⟨_, rfl⟩
      obtain ⟨QT, hT9⟩ : ∃ s, s = bstr QY := ⟨_, rfl⟩
      rw [← hS, ← hT9] at hmul
      have HS := Lib.hid hS
      have HT := Lib.hid hT9
      clear hS hT9
      by_cases hq : Qr = 0
      · have Hq := Lib.hid hq
        have hb : (Qr != 0) = false := by simp [hq]
        clear hq hst
        obtain ⟨xF850_0, xF850_1, xF850_2, xF850_3, xF850_4, xF850_5⟩ := F8.ce6
        obtain ⟨xF250_0, xF250_1, xF250_2, xF250_3, xF250_4, xF250_5⟩ := F2.ce6
        go_wp2_with fail
        (with_reducible refine (hmul _ (hT.below B0)).mono ?_)
        rintro r w21 ⟨rfl, hb21⟩
        clear xF850_0 xF850_1 xF850_2 xF850_3 xF850_4 xF850_5 xF250_0 xF250_1 xF250_2 xF250_3 xF250_4 xF250_5
        replace F2 := F2.keep hb21
        replace F4 := F4.keep hb21
        replace F8 := F8.keep hb21
        replace B0 := B0.trans (hb21.mono B0.size)
        clear hb21
        obtain ⟨xF851_0, xF851_1, xF851_2, xF851_3, xF851_4, xF851_5⟩ := F8.ce6
        obtain ⟨xF851_0f, xF851_1f, xF851_2f, xF851_3f, xF851_4f, xF851_5f⟩ := F8.fr6
        replace F2 := ((((((F2.far 0 (.bool Qn) (Nat.ne_of_lt q_F2_F8.out)).far 1 (.string QS) (Nat.ne_of_lt q_F2_F8.out)).far 2 (.int .i64 Qe) (Nat.ne_of_lt q_F2_F8.out)).far 3 (.bool Qm) (Nat.ne_of_lt q_F2_F8.out)).far 4 (.string QT) (Nat.ne_of_lt q_F2_F8.out)).far 5 (.int .i64 Qf) (Nat.ne_of_lt q_F2_F8.out))
        replace F4 := ((((((F4.far 0 (.bool Qn) (Nat.ne_of_lt q_F4_F8.out)).far 1 (.string QS) (Nat.ne_of_lt q_F4_F8.out)).far 2 (.int .i64 Qe) (Nat.ne_of_lt q_F4_F8.out)).far 3 (.bool Qm) (Nat.ne_of_lt q_F4_F8.out)).far 4 (.string QT) (Nat.ne_of_lt q_F4_F8.out)).far 5 (.int .i64 Qf) (Nat.ne_of_lt q_F4_F8.out))
        replace F8 : Blk (((((((w21).setCell ⟨w2.heap.size + 1, 0, none⟩ (.bool Qn)).setCell ⟨w2.heap.size + 1, 1, none⟩ (.string QS)).setCell ⟨w2.heap.size + 1, 2, none⟩ (.int .i64 Qe)).setCell ⟨w2.heap.size + 1, 3, none⟩ (.bool Qm)).setCell ⟨w2.heap.size + 1, 4, none⟩ (.string QT)).setCell ⟨w2.heap.size + 1, 5, none⟩ (.int .i64 Qf)) (w2.heap.size + 1) #[.bool Qn, .string QS, .int .i64 Qe, .bool Qm, .string QT, .int .i64 Qf] 49 := ((((((F8.setAt 0 (.bool Qn)).setAt 1 (.string QS)).setAt 2 (.int .i64 Qe)).setAt 3 (.bool Qm)).setAt 4 (.string QT)).setAt 5 (.int .i64 Qf))
        replace B0 := ((((((B0.setCell (p := ⟨w2.heap.size + 1, 0, none⟩) q_w_F8.out (.bool Qn)).setCell (p := ⟨w2.heap.size + 1, 1, none⟩) q_w_F8.out (.string QS)).setCell (p := ⟨w2.heap.size + 1, 2, none⟩) q_w_F8.out (.int .i64 Qe)).setCell (p := ⟨w2.heap.size + 1, 3, none⟩) q_w_F8.out (.bool Qm)).setCell (p := ⟨w2.heap.size + 1, 4, none⟩) q_w_F8.out (.string QT)).setCell (p := ⟨w2.heap.size + 1, 5, none⟩) q_w_F8.out (.int .i64 Qf))
        go_wp2
        go_roundg (n - (i + 1))
        case measure => have := Hg.out; omega
        case rel => exact ⟨i + 1, by omega, rfl, by go_num, by rw [Hgo.out]; exact Hq.out, F2, F4, by rw [Hgo.out]; dsimp only; rw [← HS.out, ← HT.out]; exact F8, B0⟩
      · have Hv : Hid (Value.tuple #[.agg #[.bool false, .string { data := #[] }, .int .i64 0, .bool false, .string { data := #[] }, .int .i64 0], .int .i64 Qr] = .tuple #[.agg #[.bool (gPw a n).1.re.n, .string (bstr (gPw a n).1.re.x), .int .i64 (gPw a n).1.re.e, .bool (gPw a n).1.im.n, .string (bstr (gPw a n).1.im.x), .int .i64 (gPw a n).1.im.e], .int .i64 (gPw a n).2]) := Lib.hid (by
          have h8 := (hst hq).2
          try dsimp only at h8
          rw [(hst hq).1, h8, show bstr (GY.zero, (4 : Int)).1.re.x = { data := #[] } from bstr_zero, show bstr (GY.zero, (4 : Int)).1.im.x = { data := #[] } from bstr_zero]; rfl)
        have hb : (Qr != 0) = true := by simpa using hq
        clear hq hst
        obtain ⟨xF850_0, xF850_1, xF850_2, xF850_3, xF850_4, xF850_5⟩ := F8.ce6
        obtain ⟨xF250_0, xF250_1, xF250_2, xF250_3, xF250_4, xF250_5⟩ := F2.ce6
        go_wp2_with fail
        (with_reducible refine (hmul _ (hT.below B0)).mono ?_)
        rintro r w21 ⟨rfl, hb21⟩
        clear xF850_0 xF850_1 xF850_2 xF850_3 xF850_4 xF850_5 xF250_0 xF250_1 xF250_2 xF250_3 xF250_4 xF250_5
        replace F2 := F2.keep hb21
        replace F4 := F4.keep hb21
        replace F8 := F8.keep hb21
        replace B0 := B0.trans (hb21.mono B0.size)
        clear hb21
        obtain ⟨xF851_0, xF851_1, xF851_2, xF851_3, xF851_4, xF851_5⟩ := F8.ce6
        obtain ⟨xF851_0f, xF851_1f, xF851_2f, xF851_3f, xF851_4f, xF851_5f⟩ := F8.fr6
        clear F2
        replace F4 := ((((((F4.far 0 (.bool Qn) (Nat.ne_of_lt q_F4_F8.out)).far 1 (.string QS) (Nat.ne_of_lt q_F4_F8.out)).far 2 (.int .i64 Qe) (Nat.ne_of_lt q_F4_F8.out)).far 3 (.bool Qm) (Nat.ne_of_lt q_F4_F8.out)).far 4 (.string QT) (Nat.ne_of_lt q_F4_F8.out)).far 5 (.int .i64 Qf) (Nat.ne_of_lt q_F4_F8.out))
        replace F8 : Blk (((((((w21).setCell ⟨w2.heap.size + 1, 0, none⟩ (.bool Qn)).setCell ⟨w2.heap.size + 1, 1, none⟩ (.string QS)).setCell ⟨w2.heap.size + 1, 2, none⟩ (.int .i64 Qe)).setCell ⟨w2.heap.size + 1, 3, none⟩ (.bool Qm)).setCell ⟨w2.heap.size + 1, 4, none⟩ (.string QT)).setCell ⟨w2.heap.size + 1, 5, none⟩ (.int .i64 Qf)) (w2.heap.size + 1) #[.bool Qn, .string QS, .int .i64 Qe, .bool Qm, .string QT, .int .i64 Qf] 49 := ((((((F8.setAt 0 (.bool Qn)).setAt 1 (.string QS)).setAt 2 (.int .i64 Qe)).setAt 3 (.bool Qm)).setAt 4 (.string QT)).setAt 5 (.int .i64 Qf))
        replace B0 := ((((((B0.setCell (p := ⟨w2.heap.size + 1, 0, none⟩) q_w_F8.out (.bool Qn)).setCell (p := ⟨w2.heap.size + 1, 1, none⟩) q_w_F8.out (.string QS)).setCell (p := ⟨w2.heap.size + 1, 2, none⟩) q_w_F8.out (.int .i64 Qe)).setCell (p := ⟨w2.heap.size + 1, 3, none⟩) q_w_F8.out (.bool Qm)).setCell (p := ⟨w2.heap.size + 1, 4, none⟩) q_w_F8.out (.string QT)).setCell (p := ⟨w2.heap.size + 1, 5, none⟩) q_w_F8.out (.int .i64 Qf))
        go_upto_region 9 with fail
        clear xF851_0 xF851_1 xF851_2 xF851_3 xF851_4 xF851_5 xF851_0f xF851_1f xF851_2f xF851_3f xF851_4f xF851_5f
        generalize ((((((w21).setCell ⟨w2.heap.size + 1, 0, none⟩ (.bool Qn)).setCell ⟨w2.heap.size + 1, 1, none⟩ (.string QS)).setCell ⟨w2.heap.size + 1, 2, none⟩ (.int .i64 Qe)).setCell ⟨w2.heap.size + 1, 3, none⟩ (.bool Qm)).setCell ⟨w2.heap.size + 1, 4, none⟩ (.string QT)).setCell ⟨w2.heap.size + 1, 5, none⟩ (.int .i64 Qf) = w9 at *
        obtain ⟨xF453_0, xF453_1, xF453_2, xF453_3, xF453_4, xF453_5⟩ := F4.ce6
        obtain ⟨xF453_0f, xF453_1f, xF453_2f, xF453_3f, xF453_4f, xF453_5f⟩ := F4.fr6
        replace F8 := ((((((F8.far 0 (.bool false) (Nat.ne_of_gt q_F4_F8.out)).far 1 (.string { data := #[] }) (Nat.ne_of_gt q_F4_F8.out)).far 2 (.int .i64 0) (Nat.ne_of_gt q_F4_F8.out)).far 3 (.bool false) (Nat.ne_of_gt q_F4_F8.out)).far 4 (.string { data := #[] }) (Nat.ne_of_gt q_F4_F8.out)).far 5 (.int .i64 0) (Nat.ne_of_gt q_F4_F8.out))
        replace F4 : Blk (((((((w9).setCell ⟨w.heap.size + 1, 0, none⟩ (.bool false)).setCell ⟨w.heap.size + 1, 1, none⟩ (.string { data := #[] })).setCell ⟨w.heap.size + 1, 2, none⟩ (.int .i64 0)).setCell ⟨w.heap.size + 1, 3, none⟩ (.bool false)).setCell ⟨w.heap.size + 1, 4, none⟩ (.string { data := #[] })).setCell ⟨w.heap.size + 1, 5, none⟩ (.int .i64 0)) (w.heap.size + 1) #[.bool false, .string { data := #[] }, .int .i64 0, .bool false, .string { data := #[] }, .int .i64 0] 49 := ((((((F4.setAt 0 (.bool false)).setAt 1 (.string { data := #[] })).setAt 2 (.int .i64 0)).setAt 3 (.bool false)).setAt 4 (.string { data := #[] })).setAt 5 (.int .i64 0))
        replace B0 := ((((((B0.setCell (p := ⟨w.heap.size + 1, 0, none⟩) q_w_F4.out (.bool false)).setCell (p := ⟨w.heap.size + 1, 1, none⟩) q_w_F4.out (.string { data := #[] })).setCell (p := ⟨w.heap.size + 1, 2, none⟩) q_w_F4.out (.int .i64 0)).setCell (p := ⟨w.heap.size + 1, 3, none⟩) q_w_F4.out (.bool false)).setCell (p := ⟨w.heap.size + 1, 4, none⟩) q_w_F4.out (.string { data := #[] })).setCell (p := ⟨w.heap.size + 1, 5, none⟩) q_w_F4.out (.int .i64 0))
        obtain ⟨xF454_0, xF454_1, xF454_2, xF454_3, xF454_4, xF454_5⟩ := F4.ce6
        go_wp2
        exact bodyPost_ret (v := .tuple #[.agg #[.bool false, .string { data := #[] }, .int .i64 0, .bool false, .string { data := #[] }, .int .i64 0], .int .i64 Qr]) (by simp [results, Tryd.results86, go_sem, xF454_0, xF454_1, xF454_2, xF454_3, xF454_4, xF454_5]) rfl ⟨congrArg Ending.returned Hv.out, B0⟩
    · obtain rfl : i = n := by omega
      have Hv : Hid (Value.tuple #[.agg #[.bool (gPw a i).1.re.n, .string (bstr (gPw a i).1.re.x), .int .i64 (gPw a i).1.re.e, .bool (gPw a i).1.im.n, .string (bstr (gPw a i).1.im.x), .int .i64 (gPw a i).1.im.e], .int .i64 0] = .tuple #[.agg #[.bool (gPw a i).1.re.n, .string (bstr (gPw a i).1.re.x), .int .i64 (gPw a i).1.re.e, .bool (gPw a i).1.im.n, .string (bstr (gPw a i).1.im.x), .int .i64 (gPw a i).1.im.e], .int .i64 (gPw a i).2]) := Lib.hid (by rw [hP])
      clear hP hin
      obtain ⟨xF850_0, xF850_1, xF850_2, xF850_3, xF850_4, xF850_5⟩ := F8.ce6
      obtain ⟨xF450_0, xF450_1, xF450_2, xF450_3, xF450_4, xF450_5⟩ := F4.ce6
      obtain ⟨xF450_0f, xF450_1f, xF450_2f, xF450_3f, xF450_4f, xF450_5f⟩ := F4.fr6
      replace F8 := ((((((F8.far 0 (.bool (gPw a i).1.re.n) (Nat.ne_of_gt q_F4_F8.out)).far 1 (.string (bstr (gPw a i).1.re.x)) (Nat.ne_of_gt q_F4_F8.out)).far 2 (.int .i64 (gPw a i).1.re.e) (Nat.ne_of_gt q_F4_F8.out)).far 3 (.bool (gPw a i).1.im.n) (Nat.ne_of_gt q_F4_F8.out)).far 4 (.string (bstr (gPw a i).1.im.x)) (Nat.ne_of_gt q_F4_F8.out)).far 5 (.int .i64 (gPw a i).1.im.e) (Nat.ne_of_gt q_F4_F8.out))
      replace F4 : Blk (((((((wr).setCell ⟨w.heap.size + 1, 0, none⟩ (.bool (gPw a i).1.re.n)).setCell ⟨w.heap.size + 1, 1, none⟩ (.string (bstr (gPw a i).1.re.x))).setCell ⟨w.heap.size + 1, 2, none⟩ (.int .i64 (gPw a i).1.re.e)).setCell ⟨w.heap.size + 1, 3, none⟩ (.bool (gPw a i).1.im.n)).setCell ⟨w.heap.size + 1, 4, none⟩ (.string (bstr (gPw a i).1.im.x))).setCell ⟨w.heap.size + 1, 5, none⟩ (.int .i64 (gPw a i).1.im.e)) (w.heap.size + 1) #[.bool (gPw a i).1.re.n, .string (bstr (gPw a i).1.re.x), .int .i64 (gPw a i).1.re.e, .bool (gPw a i).1.im.n, .string (bstr (gPw a i).1.im.x), .int .i64 (gPw a i).1.im.e] 49 := ((((((F4.setAt 0 (.bool (gPw a i).1.re.n)).setAt 1 (.string (bstr (gPw a i).1.re.x))).setAt 2 (.int .i64 (gPw a i).1.re.e)).setAt 3 (.bool (gPw a i).1.im.n)).setAt 4 (.string (bstr (gPw a i).1.im.x))).setAt 5 (.int .i64 (gPw a i).1.im.e))
      replace B0 := ((((((B0.setCell (p := ⟨w.heap.size + 1, 0, none⟩) q_w_F4.out (.bool (gPw a i).1.re.n)).setCell (p := ⟨w.heap.size + 1, 1, none⟩) q_w_F4.out (.string (bstr (gPw a i).1.re.x))).setCell (p := ⟨w.heap.size + 1, 2, none⟩) q_w_F4.out (.int .i64 (gPw a i).1.re.e)).setCell (p := ⟨w.heap.size + 1, 3, none⟩) q_w_F4.out (.bool (gPw a i).1.im.n)).setCell (p := ⟨w.heap.size + 1, 4, none⟩) q_w_F4.out (.string (bstr (gPw a i).1.im.x))).setCell (p := ⟨w.heap.size + 1, 5, none⟩) q_w_F4.out (.int .i64 (gPw a i).1.im.e))
      obtain ⟨xF451_0, xF451_1, xF451_2, xF451_3, xF451_4, xF451_5⟩ := F4.ce6
      go_wp2
      exact bodyPost_ret (v := .tuple #[.agg #[.bool (gPw a i).1.re.n, .string (bstr (gPw a i).1.re.x), .int .i64 (gPw a i).1.re.e, .bool (gPw a i).1.im.n, .string (bstr (gPw a i).1.im.x), .int .i64 (gPw a i).1.im.e], .int .i64 0]) (by simp [results, Tryd.results86, go_sem, xF451_0, xF451_1, xF451_2, xF451_3, xF451_4, xF451_5]) rfl ⟨congrArg Ending.returned Hv.out, B0⟩

set_option maxRecDepth 10000 in
set_option maxHeartbeats 4000000 in
theorem qpow_ok (a : GY) (n : Nat) (w : World) (ha : a.ok) (hn : n ≤ 64) :
    Calls Tryd.prog 87 #[.agg #[.bool a.re.n, .string (bstr a.re.x), .int .i64 a.re.e, .bool a.im.n, .string (bstr a.im.x), .int .i64 a.im.e], .int .i64 n] w fun r w' => r = .returned (.tuple #[.agg #[.bool (gPw a n).1.re.n, .string (bstr (gPw a n).1.re.x), .int .i64 (gPw a n).1.re.e, .bool (gPw a n).1.im.n, .string (bstr (gPw a n).1.im.x), .int .i64 (gPw a n).1.im.e], .int .i64 (gPw a n).2]) ∧ Below w.heap.size w w' := by
  have g0 : decide ((n : Int) < 0) = false := decide_eq_false (by omega)
  have g1 : decide (64 < (n : Int)) = false := decide_eq_false (by omega)
  have g2 : 0 ≤ (n : Int) := by omega
  have g3 : (n : Int) ≤ 64 := by omega
  have hmulA := fun (P : GY) (hP : P.ok) W => qmul P a W hP ha
  have hone := fun W => qone_w W
  generalize a.re.n = an at *
  generalize bstr a.re.x = aS at *
  generalize a.re.e = ae at *
  generalize a.im.n = am at *
  generalize bstr a.im.x = aT at *
  generalize a.im.e = af at *
  go_enter Tryd.func87, Tryd.ntmps87
  have B0 := Below.refl w.heap.size w
  have F2 := Blk.put (w) #[.bool an, .string aS, .int .i64 ae, .bool am, .string aT, .int .i64 af] 49
  replace B0 := B0.alloc B0.size (.cells #[.bool an, .string aS, .int .i64 ae, .bool am, .string aT, .int .i64 af] 49)
  have q_w_F4 : Hid (w.heap.size ≤ w.heap.size + 1) := Lib.hid (by omega)
  replace F2 := F2.allocd (.cells #[.bool false, .string { data := #[] }, .int .i64 0, .bool false, .string { data := #[] }, .int .i64 0] 49)
  have F4 := Blk.put ((w).alloc (.cells #[.bool an, .string aS, .int .i64 ae, .bool am, .string aT, .int .i64 af] 49)) #[.bool false, .string { data := #[] }, .int .i64 0, .bool false, .string { data := #[] }, .int .i64 0] 49
  rw [show ((w).alloc (.cells #[.bool an, .string aS, .int .i64 ae, .bool am, .string aT, .int .i64 af] 49)).heap.size = w.heap.size + 1 by simp] at F4
  replace B0 := B0.alloc B0.size (.cells #[.bool false, .string { data := #[] }, .int .i64 0, .bool false, .string { data := #[] }, .int .i64 0] 49)
  go_wp2_with fail
  (with_reducible refine (hone _).mono ?_)
  rintro r w1 ⟨rfl, hb1⟩
  replace F2 := F2.keep hb1
  replace F4 := F4.keep hb1
  replace B0 := B0.trans (hb1.mono B0.size)
  clear hb1
  have q_F2_F6 : Hid (w.heap.size < w1.heap.size) := Lib.hid (by have := F2.lt; first | exact this | omega | (simp; done) | simpa using this)
  have q_F4_F6 : Hid (w.heap.size + 1 < w1.heap.size) := Lib.hid (by have := F4.lt; first | exact this | omega | (simp; done) | simpa using this)
  have q_w_F6 : Hid (w.heap.size ≤ w1.heap.size) := Lib.hid (by have := B0.size; first | exact this | omega | (simp; done) | simpa using this)
  replace F2 := F2.allocd (.cells #[.bool false, .string { data := #[1] }, .int .i64 0, .bool false, .string { data := #[] }, .int .i64 0] 49)
  replace F4 := F4.allocd (.cells #[.bool false, .string { data := #[1] }, .int .i64 0, .bool false, .string { data := #[] }, .int .i64 0] 49)
  have F6 := Blk.put (w1) #[.bool false, .string { data := #[1] }, .int .i64 0, .bool false, .string { data := #[] }, .int .i64 0] 49
  replace B0 := B0.alloc B0.size (.cells #[.bool false, .string { data := #[1] }, .int .i64 0, .bool false, .string { data := #[] }, .int .i64 0] 49)
  go_wp2_with fail
  go_loopg [7] n (fun gh sc wr => ∃ i : Nat, i ≤ n ∧ gh = n - i ∧ sc = .int .i64 i ∧ (gPw a i).2 = 0 ∧ Blk wr (w.heap.size) #[.bool an, .string aS, .int .i64 ae, .bool am, .string aT, .int .i64 af] 49 ∧ Blk wr (w.heap.size + 1) #[.bool false, .string { data := #[] }, .int .i64 0, .bool false, .string { data := #[] }, .int .i64 0] 49 ∧ Blk wr (w1.heap.size) #[.bool (gPw a i).1.re.n, .string (bstr (gPw a i).1.re.x), .int .i64 (gPw a i).1.re.e, .bool (gPw a i).1.im.n, .string (bstr (gPw a i).1.im.x), .int .i64 (gPw a i).1.im.e] 49 ∧ Below w.heap.size w wr)
  case atStart =>
    refine ⟨0, Nat.zero_le _, rfl, rfl, rfl, F2, F4, ?_, B0⟩
    show Blk _ _ #[.bool false, .string (bstr 1), .int .i64 0, .bool false, .string (bstr 0), .int .i64 0] _
    rw [bstr_zero, bstr_1]
    exact F6
  case round =>
    obtain ⟨i, hi, hg, rfl, hP, F2, F4, F6, B0⟩ := hrel
    have Hg := Lib.hid hg
    clear hg
    by_cases hin : i < n
    · have hmul := hmulA (gPw a i).1 (gPw_ok a i)
      have Hgo := Lib.hid (gPw_go hP)
      have hst := fun h => gPw_stop hin hP h
      have gi0 : 0 ≤ (i : Int) := by omega
      have gi1 : (i : Int) < (n : Int) := by omega
      clear hP
      generalize gMul (gPw a i).1 a = Q at *
      generalize gPw a i = P at *
      obtain ⟨⟨⟨Pn, PX, Pe⟩, ⟨Pm, PY, Pf⟩⟩, Pr⟩ := P
      obtain ⟨⟨⟨Qn, QX, Qe⟩, ⟨Qm, QY, Qf⟩⟩, Qr⟩ := Q
      dsimp only at *
      generalize bstr PX = PS at *
      generalize bstr PY = PT at *
      obtain ⟨QS, hS⟩ : ∃ s, s = bstr QX := ⟨_, rfl⟩
      obtain ⟨QT, hT9⟩ : ∃ s, s = bstr QY := ⟨_, rfl⟩
      rw [← hS, ← hT9] at hmul
      have HS := Lib.hid hS
      have HT := Lib.hid hT9
      clear hS hT9
      by_cases hq : Qr = 0
      · have Hq := Lib.hid hq
        have hb : (Qr != 0) = false := by simp [hq]
        clear hq hst
        obtain ⟨xF650_0, xF650_1, xF650_2, xF650_3, xF650_4, xF650_5⟩ := F6.ce6
        obtain ⟨xF250_0, xF250_1, xF250_2, xF250_3, xF250_4, xF250_5⟩ := F2.ce6
        go_wp2_with fail
        (with_reducible refine (hmul _).mono ?_)
        rintro r w21 ⟨rfl, hb21⟩
        clear xF650_0 xF650_1 xF650_2 xF650_3 xF650_4 xF650_5 xF250_0 xF250_1 xF250_2 xF250_3 xF250_4 xF250_5
        replace F2 := F2.keep hb21
        replace F4 := F4.keep hb21
        replace F6 := F6.keep hb21
        replace B0 := B0.trans (hb21.mono B0.size)
        clear hb21
        have q_F6_F8 : Hid (w1.heap.size < w21.heap.size) := Lib.hid (by have := F6.lt; first | exact this | omega | (simp; done) | simpa using this)
        replace F2 := F2.allocd (.cells #[.bool Qn, .string QS, .int .i64 Qe, .bool Qm, .string QT, .int .i64 Qf] 49)
        replace F4 := F4.allocd (.cells #[.bool Qn, .string QS, .int .i64 Qe, .bool Qm, .string QT, .int .i64 Qf] 49)
        replace F6 := F6.allocd (.cells #[.bool Qn, .string QS, .int .i64 Qe, .bool Qm, .string QT, .int .i64 Qf] 49)
        have F8 := Blk.put (w21) #[.bool Qn, .string QS, .int .i64 Qe, .bool Qm, .string QT, .int .i64 Qf] 49
        replace B0 := B0.alloc B0.size (.cells #[.bool Qn, .string QS, .int .i64 Qe, .bool Qm, .string QT, .int .i64 Qf] 49)
        obtain ⟨xF851_0, xF851_1, xF851_2, xF851_3, xF851_4, xF851_5⟩ := F8.ce6
        obtain ⟨xF651_0, xF651_1, xF651_2, xF651_3, xF651_4, xF651_5⟩ := F6.ce6
        obtain ⟨xF651_0f, xF651_1f, xF651_2f, xF651_3f, xF651_4f, xF651_5f⟩ := F6.fr6
        replace F2 := ((((((F2.far 0 (.bool Qn) (Nat.ne_of_lt q_F2_F6.out)).far 1 (.string QS) (Nat.ne_of_lt q_F2_F6.out)).far 2 (.int .i64 Qe) (Nat.ne_of_lt q_F2_F6.out)).far 3 (.bool Qm) (Nat.ne_of_lt q_F2_F6.out)).far 4 (.string QT) (Nat.ne_of_lt q_F2_F6.out)).far 5 (.int .i64 Qf) (Nat.ne_of_lt q_F2_F6.out))
        replace F4 := ((((((F4.far 0 (.bool Qn) (Nat.ne_of_lt q_F4_F6.out)).far 1 (.string QS) (Nat.ne_of_lt q_F4_F6.out)).far 2 (.int .i64 Qe) (Nat.ne_of_lt q_F4_F6.out)).far 3 (.bool Qm) (Nat.ne_of_lt q_F4_F6.out)).far 4 (.string QT) (Nat.ne_of_lt q_F4_F6.out)).far 5 (.int .i64 Qf) (Nat.ne_of_lt q_F4_F6.out))
        replace F8 := ((((((F8.far 0 (.bool Qn) (Nat.ne_of_gt q_F6_F8.out)).far 1 (.string QS) (Nat.ne_of_gt q_F6_F8.out)).far 2 (.int .i64 Qe) (Nat.ne_of_gt q_F6_F8.out)).far 3 (.bool Qm) (Nat.ne_of_gt q_F6_F8.out)).far 4 (.string QT) (Nat.ne_of_gt q_F6_F8.out)).far 5 (.int .i64 Qf) (Nat.ne_of_gt q_F6_F8.out))
        replace F6 : Blk ((((((((w21).alloc (.cells #[.bool Qn, .string QS, .int .i64 Qe, .bool Qm, .string QT, .int .i64 Qf] 49)).setCell ⟨w1.heap.size, 0, none⟩ (.bool Qn)).setCell ⟨w1.heap.size, 1, none⟩ (.string QS)).setCell ⟨w1.heap.size, 2, none⟩ (.int .i64 Qe)).setCell ⟨w1.heap.size, 3, none⟩ (.bool Qm)).setCell ⟨w1.heap.size, 4, none⟩ (.string QT)).setCell ⟨w1.heap.size, 5, none⟩ (.int .i64 Qf)) (w1.heap.size) #[.bool Qn, .string QS, .int .i64 Qe, .bool Qm, .string QT, .int .i64 Qf] 49 := ((((((F6.setAt 0 (.bool Qn)).setAt 1 (.string QS)).setAt 2 (.int .i64 Qe)).setAt 3 (.bool Qm)).setAt 4 (.string QT)).setAt 5 (.int .i64 Qf))
        replace B0 := ((((((B0.setCell (p := ⟨w1.heap.size, 0, none⟩) q_w_F6.out (.bool Qn)).setCell (p := ⟨w1.heap.size, 1, none⟩) q_w_F6.out (.string QS)).setCell (p := ⟨w1.heap.size, 2, none⟩) q_w_F6.out (.int .i64 Qe)).setCell (p := ⟨w1.heap.size, 3, none⟩) q_w_F6.out (.bool Qm)).setCell (p := ⟨w1.heap.size, 4, none⟩) q_w_F6.out (.string QT)).setCell (p := ⟨w1.heap.size, 5, none⟩) q_w_F6.out (.int .i64 Qf))
        go_wp2
        go_roundg (n - (i + 1))
        case measure => have := Hg.out; omega
        case rel => exact ⟨i + 1, by omega, rfl, by go_num, by rw [Hgo.out]; exact Hq.out, F2, F4, by rw [Hgo.out]; dsimp only; rw [← HS.out, ← HT.out]; exact F6, B0⟩
      · have Hv : Hid (Value.tuple #[.agg #[.bool false, .string { data := #[] }, .int .i64 0, .bool false, .string { data := #[] }, .int .i64 0], .int .i64 Qr] = .tuple #[.agg #[.bool (gPw a n).1.re.n, .string (bstr (gPw a n).1.re.x), .int .i64 (gPw a n).1.re.e, .bool (gPw a n).1.im.n, .string (bstr (gPw a n).1.im.x), .int .i64 (gPw a n).1.im.e], .int .i64 (gPw a n).2]) := Lib.hid (by
          have h8 := (hst hq).2
          try dsimp only at h8
          rw [(hst hq).1, h8, show bstr (GY.zero, (4 : Int)).1.re.x = { data := #[] } from bstr_zero, show bstr (GY.zero, (4 : Int)).1.im.x = { data := #[] } from bstr_zero]; rfl)
        have hb : (Qr != 0) = true := by simpa using hq
        clear hq hst
        obtain ⟨xF650_0, xF650_1, xF650_2, xF650_3, xF650_4, xF650_5⟩ := F6.ce6
        obtain ⟨xF250_0, xF250_1, xF250_2, xF250_3, xF250_4, xF250_5⟩ := F2.ce6
        go_wp2_with fail
        (with_reducible refine (hmul _).mono ?_)
        rintro r w21 ⟨rfl, hb21⟩
        clear xF650_0 xF650_1 xF650_2 xF650_3 xF650_4 xF650_5 xF250_0 xF250_1 xF250_2 xF250_3 xF250_4 xF250_5
        replace F2 := F2.keep hb21
        replace F4 := F4.keep hb21
        replace F6 := F6.keep hb21
        replace B0 := B0.trans (hb21.mono B0.size)
        clear hb21
        clear F2
        replace F4 := F4.allocd (.cells #[.bool Qn, .string QS, .int .i64 Qe, .bool Qm, .string QT, .int .i64 Qf] 49)
        clear F6
        replace B0 := B0.alloc B0.size (.cells #[.bool Qn, .string QS, .int .i64 Qe, .bool Qm, .string QT, .int .i64 Qf] 49)
        obtain ⟨xF451_0, xF451_1, xF451_2, xF451_3, xF451_4, xF451_5⟩ := F4.ce6
        obtain ⟨xF451_0f, xF451_1f, xF451_2f, xF451_3f, xF451_4f, xF451_5f⟩ := F4.fr6
        replace F4 : Blk ((((((((w21).alloc (.cells #[.bool Qn, .string QS, .int .i64 Qe, .bool Qm, .string QT, .int .i64 Qf] 49)).setCell ⟨w.heap.size + 1, 0, none⟩ (.bool false)).setCell ⟨w.heap.size + 1, 1, none⟩ (.string { data := #[] })).setCell ⟨w.heap.size + 1, 2, none⟩ (.int .i64 0)).setCell ⟨w.heap.size + 1, 3, none⟩ (.bool false)).setCell ⟨w.heap.size + 1, 4, none⟩ (.string { data := #[] })).setCell ⟨w.heap.size + 1, 5, none⟩ (.int .i64 0)) (w.heap.size + 1) #[.bool false, .string { data := #[] }, .int .i64 0, .bool false, .string { data := #[] }, .int .i64 0] 49 := ((((((F4.setAt 0 (.bool false)).setAt 1 (.string { data := #[] })).setAt 2 (.int .i64 0)).setAt 3 (.bool false)).setAt 4 (.string { data := #[] })).setAt 5 (.int .i64 0))
        replace B0 := ((((((B0.setCell (p := ⟨w.heap.size + 1, 0, none⟩) q_w_F4.out (.bool false)).setCell (p := ⟨w.heap.size + 1, 1, none⟩) q_w_F4.out (.string { data := #[] })).setCell (p := ⟨w.heap.size + 1, 2, none⟩) q_w_F4.out (.int .i64 0)).setCell (p := ⟨w.heap.size + 1, 3, none⟩) q_w_F4.out (.bool false)).setCell (p := ⟨w.heap.size + 1, 4, none⟩) q_w_F4.out (.string { data := #[] })).setCell (p := ⟨w.heap.size + 1, 5, none⟩) q_w_F4.out (.int .i64 0))
        obtain ⟨xF452_0, xF452_1, xF452_2, xF452_3, xF452_4, xF452_5⟩ := F4.ce6
        go_wp2
        exact bodyPost_ret (v := .tuple #[.agg #[.bool false, .string { data := #[] }, .int .i64 0, .bool false, .string { data := #[] }, .int .i64 0], .int .i64 Qr]) (by simp [results, Tryd.results87, go_sem, xF452_0, xF452_1, xF452_2, xF452_3, xF452_4, xF452_5]) rfl ⟨congrArg Ending.returned Hv.out, B0⟩
    · obtain rfl : i = n := by omega
      have Hv : Hid (Value.tuple #[.agg #[.bool (gPw a i).1.re.n, .string (bstr (gPw a i).1.re.x), .int .i64 (gPw a i).1.re.e, .bool (gPw a i).1.im.n, .string (bstr (gPw a i).1.im.x), .int .i64 (gPw a i).1.im.e], .int .i64 0] = .tuple #[.agg #[.bool (gPw a i).1.re.n, .string (bstr (gPw a i).1.re.x), .int .i64 (gPw a i).1.re.e, .bool (gPw a i).1.im.n, .string (bstr (gPw a i).1.im.x), .int .i64 (gPw a i).1.im.e], .int .i64 (gPw a i).2]) := Lib.hid (by rw [hP])
      clear hP hin
      obtain ⟨xF650_0, xF650_1, xF650_2, xF650_3, xF650_4, xF650_5⟩ := F6.ce6
      obtain ⟨xF450_0, xF450_1, xF450_2, xF450_3, xF450_4, xF450_5⟩ := F4.ce6
      obtain ⟨xF450_0f, xF450_1f, xF450_2f, xF450_3f, xF450_4f, xF450_5f⟩ := F4.fr6
      replace F6 := ((((((F6.far 0 (.bool (gPw a i).1.re.n) (Nat.ne_of_gt q_F4_F6.out)).far 1 (.string (bstr (gPw a i).1.re.x)) (Nat.ne_of_gt q_F4_F6.out)).far 2 (.int .i64 (gPw a i).1.re.e) (Nat.ne_of_gt q_F4_F6.out)).far 3 (.bool (gPw a i).1.im.n) (Nat.ne_of_gt q_F4_F6.out)).far 4 (.string (bstr (gPw a i).1.im.x)) (Nat.ne_of_gt q_F4_F6.out)).far 5 (.int .i64 (gPw a i).1.im.e) (Nat.ne_of_gt q_F4_F6.out))
      replace F4 : Blk (((((((wr).setCell ⟨w.heap.size + 1, 0, none⟩ (.bool (gPw a i).1.re.n)).setCell ⟨w.heap.size + 1, 1, none⟩ (.string (bstr (gPw a i).1.re.x))).setCell ⟨w.heap.size + 1, 2, none⟩ (.int .i64 (gPw a i).1.re.e)).setCell ⟨w.heap.size + 1, 3, none⟩ (.bool (gPw a i).1.im.n)).setCell ⟨w.heap.size + 1, 4, none⟩ (.string (bstr (gPw a i).1.im.x))).setCell ⟨w.heap.size + 1, 5, none⟩ (.int .i64 (gPw a i).1.im.e)) (w.heap.size + 1) #[.bool (gPw a i).1.re.n, .string (bstr (gPw a i).1.re.x), .int .i64 (gPw a i).1.re.e, .bool (gPw a i).1.im.n, .string (bstr (gPw a i).1.im.x), .int .i64 (gPw a i).1.im.e] 49 := ((((((F4.setAt 0 (.bool (gPw a i).1.re.n)).setAt 1 (.string (bstr (gPw a i).1.re.x))).setAt 2 (.int .i64 (gPw a i).1.re.e)).setAt 3 (.bool (gPw a i).1.im.n)).setAt 4 (.string (bstr (gPw a i).1.im.x))).setAt 5 (.int .i64 (gPw a i).1.im.e))
      replace B0 := ((((((B0.setCell (p := ⟨w.heap.size + 1, 0, none⟩) q_w_F4.out (.bool (gPw a i).1.re.n)).setCell (p := ⟨w.heap.size + 1, 1, none⟩) q_w_F4.out (.string (bstr (gPw a i).1.re.x))).setCell (p := ⟨w.heap.size + 1, 2, none⟩) q_w_F4.out (.int .i64 (gPw a i).1.re.e)).setCell (p := ⟨w.heap.size + 1, 3, none⟩) q_w_F4.out (.bool (gPw a i).1.im.n)).setCell (p := ⟨w.heap.size + 1, 4, none⟩) q_w_F4.out (.string (bstr (gPw a i).1.im.x))).setCell (p := ⟨w.heap.size + 1, 5, none⟩) q_w_F4.out (.int .i64 (gPw a i).1.im.e))
      obtain ⟨xF451_0, xF451_1, xF451_2, xF451_3, xF451_4, xF451_5⟩ := F4.ce6
      go_wp2
      exact bodyPost_ret (v := .tuple #[.agg #[.bool (gPw a i).1.re.n, .string (bstr (gPw a i).1.re.x), .int .i64 (gPw a i).1.re.e, .bool (gPw a i).1.im.n, .string (bstr (gPw a i).1.im.x), .int .i64 (gPw a i).1.im.e], .int .i64 0]) (by simp [results, Tryd.results87, go_sem, xF451_0, xF451_1, xF451_2, xF451_3, xF451_4, xF451_5]) rfl ⟨congrArg Ending.returned Hv.out, B0⟩

end Go.Proofs.YtgcifpjhhoalmaaDoor
