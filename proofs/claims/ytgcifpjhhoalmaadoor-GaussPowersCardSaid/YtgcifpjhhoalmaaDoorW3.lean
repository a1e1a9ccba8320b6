/- gauss.Sum and the reference's, over what may be. -/
import Derived.Test.YtgcifpjhhoalmaaDoorW4
namespace Go.Proofs.YtgcifpjhhoalmaaDoor
open Go Go.RowKit Go.PlainAid Fil

set_option maxRecDepth 10000 in
set_option maxHeartbeats 4000000 in
theorem gsum_ok (A : Option Addr) (n c : Nat) (D : Nat → GY) (w : World) (hn : n ≤ 2305843009213693951) (h : Gss w A n (fun i => (D i).raw)) (hok : ∀ i, i < n → (D i).ok) (hT : Tab w) :
    Calls Tryd.prog 88 #[.slice A n c] w fun r w' => r = .returned (.tuple #[.agg #[.bool (gSm D n).1.re.n, .string (bstr (gSm D n).1.re.x), .int .i64 (gSm D n).1.re.e, .bool (gSm D n).1.im.n, .string (bstr (gSm D n).1.im.x), .int .i64 (gSm D n).1.im.e], .int .i64 (gSm D n).2]) ∧ Below w.heap.size w w' := by
  have g2 : 0 ≤ (n : Int) := by omega
  have hall := fun W (hg : Gss W A n (fun i => (D i).raw)) => gall_any A n c (fun i => (D i).raw) W (by omega) hg (fun i hi => (GY.raw_fit (hok i hi)).1) (fun i hi => (GY.raw_fit (hok i hi)).2)
  have ht : (allB n fun i => ((fun i => (D i).raw) i).may) = true := allB_yes (fun i hi => GY.raw_may (hok i hi))
  rw [ht] at hall
  clear ht
  have haddA := fun (P : GY) (hP : P.ok) (d : GY) (hd : d.ok) W hW => gadd P d W hP hd hW
  go_enter Tryd.func88, Tryd.ntmps88
  have B0 := Below.refl w.heap.size w
  have q_w_F2 : Hid (w.heap.size ≤ w.heap.size) := Lib.hid (by omega)
  have F2 := Blk.put (w) #[.bool false, .string { data := #[] }, .int .i64 0, .bool false, .string { data := #[] }, .int .i64 0] 49
  replace B0 := B0.alloc B0.size (.cells #[.bool false, .string { data := #[] }, .int .i64 0, .bool false, .string { data := #[] }, .int .i64 0] 49)
  go_wp2_with fail
  (with_reducible refine (hall _ (Gss.below h B0)).mono ?_)
  rintro r w1 ⟨rfl, hb1⟩
  replace F2 := F2.keep hb1
  replace B0 := B0.trans (hb1.mono B0.size)
  clear hb1
  have q_F2_F4 : Hid (w.heap.size < w1.heap.size) := Lib.hid (by have := F2.lt; first | exact this | omega | (simp; done) | simpa using this)
  have q_w_F4 : Hid (w.heap.size ≤ w1.heap.size) := Lib.hid (by have := B0.size; first | exact this | omega | (simp; done) | simpa using this)
  replace F2 := F2.allocd (.cells #[.bool false, .string { data := #[] }, .int .i64 0, .bool false, .string { data := #[] }, .int .i64 0] 49)
  have F4 := Blk.put (w1) #[.bool false, .string { data := #[] }, .int .i64 0, .bool false, .string { data := #[] }, .int .i64 0] 49
  replace B0 := B0.alloc B0.size (.cells #[.bool false, .string { data := #[] }, .int .i64 0, .bool false, .string { data := #[] }, .int .i64 0] 49)
  go_wp2_with fail
  go_loopg [14] n (fun gh sc wr => ∃ i : Nat, i ≤ n ∧ gh = n - i ∧ sc = .int .i64 i ∧ (gSm D i).2 = 0 ∧ Blk wr (w.heap.size) #[.bool false, .string { data := #[] }, .int .i64 0, .bool false, .string { data := #[] }, .int .i64 0] 49 ∧ Blk wr (w1.heap.size) #[.bool (gSm D i).1.re.n, .string (bstr (gSm D i).1.re.x), .int .i64 (gSm D i).1.re.e, .bool (gSm D i).1.im.n, .string (bstr (gSm D i).1.im.x), .int .i64 (gSm D i).1.im.e] 49 ∧ Below w.heap.size w wr)
  case atStart =>
    refine ⟨0, Nat.zero_le _, rfl, rfl, rfl, F2, ?_, B0⟩
    show Blk _ _ #[.bool false, .string (bstr 0), .int .i64 0, .bool false, .string (bstr 0), .int .i64 0] _
    rw [bstr_zero]
    exact F4
  case round =>
    obtain ⟨i, hi, hg, rfl, hP, F2, F4, B0⟩ := hrel
    have Hg := Lib.hid hg
    clear hg
    by_cases hin : i < n
    · have hadd := haddA (gSm D i).1 (gSm_ok D i) (D i) (hok i hin)
      have Hgo := Lib.hid (gSm_go hP)
      have hst := fun h => gSm_stop hin hP h
      have gi0 : 0 ≤ (i : Int) := by omega
      have gi1 : (i : Int) < (n : Int) := by omega
      obtain ⟨b, o, rfl, hlt, hc⟩ := Gss.below h B0 (by omega)
      have E1 : El wr b (o + i * 6) (.bool (D i).raw.n) (.string (D i).raw.s) (.int .i64 (D i).raw.e) (.bool (D i).raw.m) (.string (D i).raw.t) (.int .i64 (D i).raw.f) := ⟨hlt, hc i hin⟩
      have H := Lib.hid h
      clear hP hc hlt h
      dsimp only [GY.raw] at E1
      generalize gAdd (gSm D i).1 (D i) = Q at *
      generalize gSm D i = P at *
      generalize D i = d at *
      obtain ⟨⟨⟨Pn, PX, Pe⟩, ⟨Pm, PY, Pf⟩⟩, Pr⟩ := P
      obtain ⟨⟨⟨Qn, QX, Qe⟩, ⟨Qm, QY, Qf⟩⟩, Qr⟩ := Q
      obtain ⟨⟨dn, dX, de⟩, ⟨dm, dY, df⟩⟩ := d
      dsimp only at *
      generalize bstr PX = PS at *
      generalize bstr PY = PT at *
      generalize bstr dX = dS at *
      generalize bstr dY = dT at *
      obtain ⟨QS, hS⟩ : ∃ s, s = bstr QX := ⟨_, rfl⟩
      obtain ⟨QT, hT9⟩ : ∃ s, s = bstr QY := ⟨_, rfl⟩
      rw [← hS, ← hT9] at hadd
      have HS := Lib.hid hS
      have HT := Lib.hid hT9
      clear hS hT9
      by_cases hq : Qr = 0
      · have Hq := Lib.hid hq
        have hb : (Qr != 0) = false := by simp [hq]
        clear hq hst
        obtain ⟨xE150_0, xE150_1, xE150_2, xE150_3, xE150_4, xE150_5⟩ := E1.ce6
        replace E1 := E1.allocd (.cells #[.bool dn, .string dS, .int .i64 de, .bool dm, .string dT, .int .i64 df] 49)
        replace F2 := F2.allocd (.cells #[.bool dn, .string dS, .int .i64 de, .bool dm, .string dT, .int .i64 df] 49)
        replace F4 := F4.allocd (.cells #[.bool dn, .string dS, .int .i64 de, .bool dm, .string dT, .int .i64 df] 49)
        have F6 := Blk.put (wr) #[.bool dn, .string dS, .int .i64 de, .bool dm, .string dT, .int .i64 df] 49
        replace B0 := B0.alloc B0.size (.cells #[.bool dn, .string dS, .int .i64 de, .bool dm, .string dT, .int .i64 df] 49)
        obtain ⟨xF450_0, xF450_1, xF450_2, xF450_3, xF450_4, xF450_5⟩ := F4.ce6
        obtain ⟨xF650_0, xF650_1, xF650_2, xF650_3, xF650_4, xF650_5⟩ := F6.ce6
        go_wp2_with fail
        (with_reducible refine (hadd _ (hT.below B0)).mono ?_)
        rintro r w21 ⟨rfl, hb21⟩
        clear xE150_0 xE150_1 xE150_2 xE150_3 xE150_4 xE150_5 xF450_0 xF450_1 xF450_2 xF450_3 xF450_4 xF450_5 xF650_0 xF650_1 xF650_2 xF650_3 xF650_4 xF650_5
        replace E1 := E1.keep hb21
        replace F2 := F2.keep hb21
        replace F4 := F4.keep hb21
        replace F6 := F6.keep hb21
        replace B0 := B0.trans (hb21.mono B0.size)
        clear hb21
        obtain ⟨xF451_0, xF451_1, xF451_2, xF451_3, xF451_4, xF451_5⟩ := F4.ce6
        obtain ⟨xF451_0f, xF451_1f, xF451_2f, xF451_3f, xF451_4f, xF451_5f⟩ := F4.fr6
        clear E1
        replace F2 := ((((((F2.far 0 (.bool Qn) (Nat.ne_of_lt q_F2_F4.out)).far 1 (.string QS) (Nat.ne_of_lt q_F2_F4.out)).far 2 (.int .i64 Qe) (Nat.ne_of_lt q_F2_F4.out)).far 3 (.bool Qm) (Nat.ne_of_lt q_F2_F4.out)).far 4 (.string QT) (Nat.ne_of_lt q_F2_F4.out)).far 5 (.int .i64 Qf) (Nat.ne_of_lt q_F2_F4.out))
        clear F6
        replace F4 : Blk (((((((w21).setCell ⟨w1.heap.size, 0, none⟩ (.bool Qn)).setCell ⟨w1.heap.size, 1, none⟩ (.string QS)).setCell ⟨w1.heap.size, 2, none⟩ (.int .i64 Qe)).setCell ⟨w1.heap.size, 3, none⟩ (.bool Qm)).setCell ⟨w1.heap.size, 4, none⟩ (.string QT)).setCell ⟨w1.heap.size, 5, none⟩ (.int .i64 Qf)) (w1.heap.size) #[.bool Qn, .string QS, .int .i64 Qe, .bool Qm, .string QT, .int .i64 Qf] 49 := ((((((F4.setAt 0 (.bool Qn)).setAt 1 (.string QS)).setAt 2 (.int .i64 Qe)).setAt 3 (.bool Qm)).setAt 4 (.string QT)).setAt 5 (.int .i64 Qf))
        replace B0 := ((((((B0.setCell (p := ⟨w1.heap.size, 0, none⟩) q_w_F4.out (.bool Qn)).setCell (p := ⟨w1.heap.size, 1, none⟩) q_w_F4.out (.string QS)).setCell (p := ⟨w1.heap.size, 2, none⟩) q_w_F4.out (.int .i64 Qe)).setCell (p := ⟨w1.heap.size, 3, none⟩) q_w_F4.out (.bool Qm)).setCell (p := ⟨w1.heap.size, 4, none⟩) q_w_F4.out (.string QT)).setCell (p := ⟨w1.heap.size, 5, none⟩) q_w_F4.out (.int .i64 Qf))
        go_wp2
        go_roundg (n - (i + 1))
        case measure => have := Hg.out; omega
        case rel => exact ⟨i + 1, by omega, rfl, by go_num, by rw [Hgo.out]; exact Hq.out, F2, by rw [Hgo.out]; dsimp only; rw [← HS.out, ← HT.out]; exact F4, B0⟩
      · have Hv : Hid (Value.tuple #[.agg #[.bool false, .string { data := #[] }, .int .i64 0, .bool false, .string { data := #[] }, .int .i64 0], .int .i64 Qr] = .tuple #[.agg #[.bool (gSm D n).1.re.n, .string (bstr (gSm D n).1.re.x), .int .i64 (gSm D n).1.re.e, .bool (gSm D n).1.im.n, .string (bstr (gSm D n).1.im.x), .int .i64 (gSm D n).1.im.e], .int .i64 (gSm D n).2]) := Lib.hid (by
          have h8 := (hst hq).2
          try dsimp only at h8
          rw [(hst hq).1, h8, show bstr (GY.zero, (4 : Int)).1.re.x = { data := #[] } from bstr_zero, show bstr (GY.zero, (4 : Int)).1.im.x = { data := #[] } from bstr_zero]; rfl)
        have hb : (Qr != 0) = true := by simpa using hq
        clear hq hst
        obtain ⟨xE150_0, xE150_1, xE150_2, xE150_3, xE150_4, xE150_5⟩ := E1.ce6
        replace E1 := E1.allocd (.cells #[.bool dn, .string dS, .int .i64 de, .bool dm, .string dT, .int .i64 df] 49)
        replace F2 := F2.allocd (.cells #[.bool dn, .string dS, .int .i64 de, .bool dm, .string dT, .int .i64 df] 49)
        replace F4 := F4.allocd (.cells #[.bool dn, .string dS, .int .i64 de, .bool dm, .string dT, .int .i64 df] 49)
        have F6 := Blk.put (wr) #[.bool dn, .string dS, .int .i64 de, .bool dm, .string dT, .int .i64 df] 49
        replace B0 := B0.alloc B0.size (.cells #[.bool dn, .string dS, .int .i64 de, .bool dm, .string dT, .int .i64 df] 49)
        obtain ⟨xF450_0, xF450_1, xF450_2, xF450_3, xF450_4, xF450_5⟩ := F4.ce6
        obtain ⟨xF650_0, xF650_1, xF650_2, xF650_3, xF650_4, xF650_5⟩ := F6.ce6
        go_wp2_with fail
        (with_reducible refine (hadd _ (hT.below B0)).mono ?_)
        rintro r w21 ⟨rfl, hb21⟩
        clear xE150_0 xE150_1 xE150_2 xE150_3 xE150_4 xE150_5 xF450_0 xF450_1 xF450_2 xF450_3 xF450_4 xF450_5 xF650_0 xF650_1 xF650_2 xF650_3 xF650_4 xF650_5
        replace E1 := E1.keep hb21
        replace F2 := F2.keep hb21
        replace F4 := F4.keep hb21
        replace F6 := F6.keep hb21
        replace B0 := B0.trans (hb21.mono B0.size)
        clear hb21
        obtain ⟨xF451_0, xF451_1, xF451_2, xF451_3, xF451_4, xF451_5⟩ := F4.ce6
        obtain ⟨xF451_0f, xF451_1f, xF451_2f, xF451_3f, xF451_4f, xF451_5f⟩ := F4.fr6
        clear E1
        replace F2 := ((((((F2.far 0 (.bool Qn) (Nat.ne_of_lt q_F2_F4.out)).far 1 (.string QS) (Nat.ne_of_lt q_F2_F4.out)).far 2 (.int .i64 Qe) (Nat.ne_of_lt q_F2_F4.out)).far 3 (.bool Qm) (Nat.ne_of_lt q_F2_F4.out)).far 4 (.string QT) (Nat.ne_of_lt q_F2_F4.out)).far 5 (.int .i64 Qf) (Nat.ne_of_lt q_F2_F4.out))
        clear F6
        replace F4 : Blk (((((((w21).setCell ⟨w1.heap.size, 0, none⟩ (.bool Qn)).setCell ⟨w1.heap.size, 1, none⟩ (.string QS)).setCell ⟨w1.heap.size, 2, none⟩ (.int .i64 Qe)).setCell ⟨w1.heap.size, 3, none⟩ (.bool Qm)).setCell ⟨w1.heap.size, 4, none⟩ (.string QT)).setCell ⟨w1.heap.size, 5, none⟩ (.int .i64 Qf)) (w1.heap.size) #[.bool Qn, .string QS, .int .i64 Qe, .bool Qm, .string QT, .int .i64 Qf] 49 := ((((((F4.setAt 0 (.bool Qn)).setAt 1 (.string QS)).setAt 2 (.int .i64 Qe)).setAt 3 (.bool Qm)).setAt 4 (.string QT)).setAt 5 (.int .i64 Qf))
        replace B0 := ((((((B0.setCell (p := ⟨w1.heap.size, 0, none⟩) q_w_F4.out (.bool Qn)).setCell (p := ⟨w1.heap.size, 1, none⟩) q_w_F4.out (.string QS)).setCell (p := ⟨w1.heap.size, 2, none⟩) q_w_F4.out (.int .i64 Qe)).setCell (p := ⟨w1.heap.size, 3, none⟩) q_w_F4.out (.bool Qm)).setCell (p := ⟨w1.heap.size, 4, none⟩) q_w_F4.out (.string QT)).setCell (p := ⟨w1.heap.size, 5, none⟩) q_w_F4.out (.int .i64 Qf))
        go_upto_region 9 with fail
        clear xF451_0 xF451_1 xF451_2 xF451_3 xF451_4 xF451_5 xF451_0f xF451_1f xF451_2f xF451_3f xF451_4f xF451_5f
        generalize ((((((w21).setCell ⟨w1.heap.size, 0, none⟩ (.bool Qn)).setCell ⟨w1.heap.size, 1, none⟩ (.string QS)).setCell ⟨w1.heap.size, 2, none⟩ (.int .i64 Qe)).setCell ⟨w1.heap.size, 3, none⟩ (.bool Qm)).setCell ⟨w1.heap.size, 4, none⟩ (.string QT)).setCell ⟨w1.heap.size, 5, none⟩ (.int .i64 Qf) = w9 at *
        obtain ⟨xF253_0, xF253_1, xF253_2, xF253_3, xF253_4, xF253_5⟩ := F2.ce6
        obtain ⟨xF253_0f, xF253_1f, xF253_2f, xF253_3f, xF253_4f, xF253_5f⟩ := F2.fr6
        replace F4 := ((((((F4.far 0 (.bool false) (Nat.ne_of_gt q_F2_F4.out)).far 1 (.string { data := #[] }) (Nat.ne_of_gt q_F2_F4.out)).far 2 (.int .i64 0) (Nat.ne_of_gt q_F2_F4.out)).far 3 (.bool false) (Nat.ne_of_gt q_F2_F4.out)).far 4 (.string { data := #[] }) (Nat.ne_of_gt q_F2_F4.out)).far 5 (.int .i64 0) (Nat.ne_of_gt q_F2_F4.out))
        replace F2 : Blk (((((((w9).setCell ⟨w.heap.size, 0, none⟩ (.bool false)).setCell ⟨w.heap.size, 1, none⟩ (.string { data := #[] })).setCell ⟨w.heap.size, 2, none⟩ (.int .i64 0)).setCell ⟨w.heap.size, 3, none⟩ (.bool false)).setCell ⟨w.heap.size, 4, none⟩ (.string { data := #[] })).setCell ⟨w.heap.size, 5, none⟩ (.int .i64 0)) (w.heap.size) #[.bool false, .string { data := #[] }, .int .i64 0, .bool false, .string { data := #[] }, .int .i64 0] 49 := ((((((F2.setAt 0 (.bool false)).setAt 1 (.string { data := #[] })).setAt 2 (.int .i64 0)).setAt 3 (.bool false)).setAt 4 (.string { data := #[] })).setAt 5 (.int .i64 0))
        replace B0 := ((((((B0.setCell (p := ⟨w.heap.size, 0, none⟩) q_w_F2.out (.bool false)).setCell (p := ⟨w.heap.size, 1, none⟩) q_w_F2.out (.string { data := #[] })).setCell (p := ⟨w.heap.size, 2, none⟩) q_w_F2.out (.int .i64 0)).setCell (p := ⟨w.heap.size, 3, none⟩) q_w_F2.out (.bool false)).setCell (p := ⟨w.heap.size, 4, none⟩) q_w_F2.out (.string { data := #[] })).setCell (p := ⟨w.heap.size, 5, none⟩) q_w_F2.out (.int .i64 0))
        obtain ⟨xF254_0, xF254_1, xF254_2, xF254_3, xF254_4, xF254_5⟩ := F2.ce6
        go_wp2
        exact bodyPost_ret (v := .tuple #[.agg #[.bool false, .string { data := #[] }, .int .i64 0, .bool false, .string { data := #[] }, .int .i64 0], .int .i64 Qr]) (by simp [results, Tryd.results88, go_sem, xF254_0, xF254_1, xF254_2, xF254_3, xF254_4, xF254_5]) rfl ⟨congrArg Ending.returned Hv.out, B0⟩
    · obtain rfl : i = n := by omega
      have Hv : Hid (Value.tuple #[.agg #[.bool (gSm D i).1.re.n, .string (bstr (gSm D i).1.re.x), .int .i64 (gSm D i).1.re.e, .bool (gSm D i).1.im.n, .string (bstr (gSm D i).1.im.x), .int .i64 (gSm D i).1.im.e], .int .i64 0] = .tuple #[.agg #[.bool (gSm D i).1.re.n, .string (bstr (gSm D i).1.re.x), .int .i64 (gSm D i).1.re.e, .bool (gSm D i).1.im.n, .string (bstr (gSm D i).1.im.x), .int .i64 (gSm D i).1.im.e], .int .i64 (gSm D i).2]) := Lib.hid (by rw [hP])
      clear hP hin
      obtain ⟨xF450_0, xF450_1, xF450_2, xF450_3, xF450_4, xF450_5⟩ := F4.ce6
      obtain ⟨xF250_0, xF250_1, xF250_2, xF250_3, xF250_4, xF250_5⟩ := F2.ce6
      obtain ⟨xF250_0f, xF250_1f, xF250_2f, xF250_3f, xF250_4f, xF250_5f⟩ := F2.fr6
      replace F4 := ((((((F4.far 0 (.bool (gSm D i).1.re.n) (Nat.ne_of_gt q_F2_F4.out)).far 1 (.string (bstr (gSm D i).1.re.x)) (Nat.ne_of_gt q_F2_F4.out)).far 2 (.int .i64 (gSm D i).1.re.e) (Nat.ne_of_gt q_F2_F4.out)).far 3 (.bool (gSm D i).1.im.n) (Nat.ne_of_gt q_F2_F4.out)).far 4 (.string (bstr (gSm D i).1.im.x)) (Nat.ne_of_gt q_F2_F4.out)).far 5 (.int .i64 (gSm D i).1.im.e) (Nat.ne_of_gt q_F2_F4.out))
      replace F2 : Blk (((((((wr).setCell ⟨w.heap.size, 0, none⟩ (.bool (gSm D i).1.re.n)).setCell ⟨w.heap.size, 1, none⟩ (.string (bstr (gSm D i).1.re.x))).setCell ⟨w.heap.size, 2, none⟩ (.int .i64 (gSm D i).1.re.e)).setCell ⟨w.heap.size, 3, none⟩ (.bool (gSm D i).1.im.n)).setCell ⟨w.heap.size, 4, none⟩ (.string (bstr (gSm D i).1.im.x))).setCell ⟨w.heap.size, 5, none⟩ (.int .i64 (gSm D i).1.im.e)) (w.heap.size) #[.bool (gSm D i).1.re.n, .string (bstr (gSm D i).1.re.x), .int .i64 (gSm D i).1.re.e, .bool (gSm D i).1.im.n, .string (bstr (gSm D i).1.im.x), .int .i64 (gSm D i).1.im.e] 49 := ((((((F2.setAt 0 (.bool (gSm D i).1.re.n)).setAt 1 (.string (bstr (gSm D i).1.re.x))).setAt 2 (.int .i64 (gSm D i).1.re.e)).setAt 3 (.bool (gSm D i).1.im.n)).setAt 4 (.string (bstr (gSm D i).1.im.x))).setAt 5 (.int .i64 (gSm D i).1.im.e))
      replace B0 := ((((((B0.setCell (p := ⟨w.heap.size, 0, none⟩) q_w_F2.out (.bool (gSm D i).1.re.n)).setCell (p := ⟨w.heap.size, 1, none⟩) q_w_F2.out (.string (bstr (gSm D i).1.re.x))).setCell (p := ⟨w.heap.size, 2, none⟩) q_w_F2.out (.int .i64 (gSm D i).1.re.e)).setCell (p := ⟨w.heap.size, 3, none⟩) q_w_F2.out (.bool (gSm D i).1.im.n)).setCell (p := ⟨w.heap.size, 4, none⟩) q_w_F2.out (.string (bstr (gSm D i).1.im.x))).setCell (p := ⟨w.heap.size, 5, none⟩) q_w_F2.out (.int .i64 (gSm D i).1.im.e))
      obtain ⟨xF251_0, xF251_1, xF251_2, xF251_3, xF251_4, xF251_5⟩ := F2.ce6
      go_wp2
      exact bodyPost_ret (v := .tuple #[.agg #[.bool (gSm D i).1.re.n, .string (bstr (gSm D i).1.re.x), .int .i64 (gSm D i).1.re.e, .bool (gSm D i).1.im.n, .string (bstr (gSm D i).1.im.x), .int .i64 (gSm D i).1.im.e], .int .i64 0]) (by simp [results, Tryd.results88, go_sem, xF251_0, xF251_1, xF251_2, xF251_3, xF251_4, xF251_5]) rfl ⟨congrArg Ending.returned Hv.out, B0⟩

end Go.Proofs.YtgcifpjhhoalmaaDoor
