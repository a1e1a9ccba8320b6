/- Walks of the layer of Gausses, by a program (walk.py): part W5. -/
import Derived.Test.YtgcifpjhhoalmaaDoorW4
namespace Go.Proofs.YtgcifpjhhoalmaaDoor
open Go Go.RowKit Go.PlainAid Fil

set_option maxRecDepth 10000 in
set_option maxHeartbeats 4000000 in
theorem qsum_ok (A : Option Addr) (n c : Nat) (D : Nat → GY) (w : World) (hn : n ≤ 2305843009213693951) (h : Gss w A n (fun i => (D i).raw)) (hok : ∀ i, i < n → (D i).ok) :
    Calls Tryd.prog 89 #[.slice A n c] w fun r w' => r = .returned (.tuple #[.agg #[.bool (gSm D n).1.re.n, .string (bstr (gSm D n).1.re.x), .int .i64 (gSm D n).1.re.e, .bool (gSm D n).1.im.n, .string (bstr (gSm D n).1.im.x), .int .i64 (gSm D n).1.im.e], .int .i64 (gSm D n).2]) ∧ Below w.heap.size w w' := by
  have g2 : 0 ≤ (n : Int) := by omega
  have haddA := fun (P : GY) (hP : P.ok) (d : GY) (hd : d.ok) W => qadd P d W hP hd
  go_enter Tryd.func89, Tryd.ntmps89
  have B0 := Below.refl w.heap.size w
  have q_w_F2 : Hid (w.heap.size ≤ w.heap.size) := Lib.hid (by omega)
  have F2 := Blk.put (w) #[.bool false, .string { data := #[] }, .int .i64 0, .bool false, .string { data := #[] }, .int .i64 0] 49
  replace B0 := B0.alloc B0.size (.cells #[.bool false, .string { data := #[] }, .int .i64 0, .bool false, .string { data := #[] }, .int .i64 0] 49)
  have q_F2_F4 := Lib.hid (show w.heap.size < w.heap.size + 1 by omega)
  have q_w_F4 : Hid (w.heap.size ≤ w.heap.size + 1) := Lib.hid (by omega)
  replace F2 := F2.allocd (.cells #[.bool false, .string { data := #[] }, .int .i64 0, .bool false, .string { data := #[] }, .int .i64 0] 49)
  have F4 := Blk.put ((w).alloc (.cells #[.bool false, .string { data := #[] }, .int .i64 0, .bool false, .string { data := #[] }, .int .i64 0] 49)) #[.bool false, .string { data := #[] }, .int .i64 0, .bool false, .string { data := #[] }, .int .i64 0] 49
  rw [show ((w).alloc (.cells #[.bool false, .string { data := #[] }, .int .i64 0, .bool false, .string { data := #[] }, .int .i64 0] 49)).heap.size = w.heap.size + 1 by simp] at F4
  replace B0 := B0.alloc B0.size (.cells #[.bool false, .string { data := #[] }, .int .i64 0, .bool false, .string { data := #[] }, .int .i64 0] 49)
  go_wp2_with fail
  go_loopg [5] n (fun gh sc wr => ∃ i : Nat, i ≤ n ∧ gh = n - i ∧ sc = .int .i64 i ∧ (gSm D i).2 = 0 ∧ Blk wr (w.heap.size) #[.bool false, .string { data := #[] }, .int .i64 0, .bool false, .string { data := #[] }, .int .i64 0] 49 ∧ Blk wr (w.heap.size + 1) #[.bool (gSm D i).1.re.n, .string (bstr (gSm D i).1.re.x), .int .i64 (gSm D i).1.re.e, .bool (gSm D i).1.im.n, .string (bstr (gSm D i).1.im.x), .int .i64 (gSm D i).1.im.e] 49 ∧ Below w.heap.size w wr)
  case atStart =>
    refine ⟨0, Nat.zero_le _, rfl, rfl, rfl, F2, ?_, B0⟩
    show Blk _ _ #[.bool false, .string (bstr 0), .int .i64 0, .bool false, .string (bstr 0), .int .i64 0] _
    rw [bstr_zero]
    exact F4
  case round =>
    obtain ⟨i, hi, hg, rfl, hP, F2, F4, B0⟩ := hrel
    have Hg := Lib.hid hg
    clear hg
    by_cases hin : i < n
    · have hadd := haddA (gSm D i).1 (gSm_ok D i) (D i) (hok i hin)
      have Hgo := Lib.hid (gSm_go hP)
      have hst := fun h => gSm_stop hin hP h
      have gi0 : 0 ≤ (i : Int) := by omega
      have gi1 : (i : Int) < (n : Int) := by omega
      obtain ⟨b, o, rfl, hlt, hc⟩ := Gss.below h B0 (by omega)
      have E1 : El wr b (o + i * 6) (.bool (D i).raw.n) (.string (D i).raw.s) (.int .i64 (D i).raw.e) (.bool (D i).raw.m) (.string (D i).raw.t) (.int .i64 (D i).raw.f) := ⟨hlt, hc i hin⟩
      have H := Lib.hid h
      clear hP hc hlt h
      dsimp only [GY.raw] at E1
      generalize gAdd (gSm D i).1 (D i) = Q at *
      generalize gSm D i = P at *
      generalize D i = d at *
      obtain ⟨⟨⟨Pn, PX, Pe⟩, ⟨Pm, PY, Pf⟩⟩, Pr⟩ := P
      obtain ⟨⟨⟨Qn, QX, Qe⟩, ⟨Qm, QY, Qf⟩⟩, Qr⟩ := Q
      obtain ⟨⟨dn, dX, de⟩, ⟨dm, dY, df⟩⟩ := d
      dsimp only at *
      generalize bstr PX = PS at *
      generalize bstr PY = PT at *
      generalize bstr dX = dS at *
      generalize bstr dY = dT at *
      obtain ⟨QS, hS⟩ : ∃ s, s = bstr QX := ⟨_, rfl⟩
      obtain ⟨QT, hT9⟩ : ∃ s, s = bstr QY := ⟨_, rfl⟩
      rw [← hS, ← hT9] at hadd
      have HS := Lib.hid hS
      have HT := Lib.hid hT9
      clear hS hT9
      by_cases hq : Qr = 0
      · have Hq := Lib.hid hq
        have hb : (Qr != 0) = false := by simp [hq]
        clear hq hst
        go_wp2_with fail
        refine wp_region_any (by kernel_rfl) ?_
        obtain ⟨xF450_0, xF450_1, xF450_2, xF450_3, xF450_4, xF450_5⟩ := F4.ce6
        obtain ⟨xE150_0, xE150_1, xE150_2, xE150_3, xE150_4, xE150_5⟩ := E1.ce6
        have hHeld : (fun w' : World => w'.cell? ⟨w.heap.size + 1, 0, none⟩ = some (.bool Pn) ∧ w'.cell? ⟨w.heap.size + 1, 1, none⟩ = some (.string PS) ∧ w'.cell? ⟨w.heap.size + 1, 2, none⟩ = some (.int .i64 Pe) ∧ w'.cell? ⟨w.heap.size + 1, 3, none⟩ = some (.bool Pm) ∧ w'.cell? ⟨w.heap.size + 1, 4, none⟩ = some (.string PT) ∧ w'.cell? ⟨w.heap.size + 1, 5, none⟩ = some (.int .i64 Pf) ∧ w'.cell? ⟨b, o + i * 6, none⟩ = some (.bool dn) ∧ w'.cell? ⟨b, o + i * 6 + 1, none⟩ = some (.string dS) ∧ w'.cell? ⟨b, o + i * 6 + 2, none⟩ = some (.int .i64 de) ∧ w'.cell? ⟨b, o + i * 6 + 3, none⟩ = some (.bool dm) ∧ w'.cell? ⟨b, o + i * 6 + 4, none⟩ = some (.string dT) ∧ w'.cell? ⟨b, o + i * 6 + 5, none⟩ = some (.int .i64 df)) (wr).drew := ⟨xF450_0, xF450_1, xF450_2, xF450_3, xF450_4, xF450_5, xE150_0, xE150_1, xE150_2, xE150_3, xE150_4, xE150_5⟩
        refine wpAny_of_held (S := fun w' : World => w'.cell? ⟨w.heap.size + 1, 0, none⟩ = some (.bool Pn) ∧ w'.cell? ⟨w.heap.size + 1, 1, none⟩ = some (.string PS) ∧ w'.cell? ⟨w.heap.size + 1, 2, none⟩ = some (.int .i64 Pe) ∧ w'.cell? ⟨w.heap.size + 1, 3, none⟩ = some (.bool Pm) ∧ w'.cell? ⟨w.heap.size + 1, 4, none⟩ = some (.string PT) ∧ w'.cell? ⟨w.heap.size + 1, 5, none⟩ = some (.int .i64 Pf) ∧ w'.cell? ⟨b, o + i * 6, none⟩ = some (.bool dn) ∧ w'.cell? ⟨b, o + i * 6 + 1, none⟩ = some (.string dS) ∧ w'.cell? ⟨b, o + i * 6 + 2, none⟩ = some (.int .i64 de) ∧ w'.cell? ⟨b, o + i * 6 + 3, none⟩ = some (.bool dm) ∧ w'.cell? ⟨b, o + i * 6 + 4, none⟩ = some (.string dT) ∧ w'.cell? ⟨b, o + i * 6 + 5, none⟩ = some (.int .i64 df)) _ _ _ _ ?_
        replace E1 := E1.drew
        replace F2 := F2.drew
        replace F4 := F4.drew
        replace B0 := B0.drew
        refine wpAnyH_take (i := 0) (v := _) (by first | (simp only [List.getElem?_toArray, List.getElem?_cons_zero]; rfl) | rfl) (by kernel_rfl) (by kernel_rfl) (by kernel_rfl) (by exact fun _ _ _ h => h) (Or.inl ⟨by rfl, by (intro w hSw; (try dsimp only at hSw); go_simp; try with_reducible rfl)⟩) (by assumption) ?_
        (try dsimp only [Act.put]); (try go_frame)
        refine wpAnyH_take (i := 1) (v := _) (by first | (simp only [List.getElem?_toArray, List.getElem?_cons_zero, List.getElem?_cons_succ]; rfl) | rfl) (by kernel_rfl) (by kernel_rfl) (by kernel_rfl) (by exact fun _ _ _ h => h) (Or.inl ⟨by rfl, by (intro w hSw; (try dsimp only at hSw); go_simp; try with_reducible rfl)⟩) (by assumption) ?_
        (try dsimp only [Act.put]); (try go_frame)
        refine wpAnyH_take (i := 2) (v := _) (by first | (simp only [List.getElem?_toArray, List.getElem?_cons_zero, List.getElem?_cons_succ]; rfl) | rfl) (by kernel_rfl) (by kernel_rfl) (by kernel_rfl) (by exact fun _ _ _ h => h) (Or.inl ⟨by rfl, by (intro w hSw; (try dsimp only at hSw); go_simp; try with_reducible rfl)⟩) (by assumption) ?_
        (try dsimp only [Act.put]); (try go_frame)
        refine wpAnyH_take (i := 3) (v := _) (by first | (simp only [List.getElem?_toArray, List.getElem?_cons_zero, List.getElem?_cons_succ]; rfl) | rfl) (by kernel_rfl) (by kernel_rfl) (by kernel_rfl) (by exact fun _ _ _ h => h) (Or.inl ⟨by rfl, by (intro w hSw; (try dsimp only at hSw); go_simp; try with_reducible rfl)⟩) (by assumption) ?_
        (try dsimp only [Act.put]); (try go_frame)
        refine wpAnyH_take (i := 4) (v := _) (by first | (simp only [List.getElem?_toArray, List.getElem?_cons_zero, List.getElem?_cons_succ]; rfl) | rfl) (by kernel_rfl) (by kernel_rfl) (by kernel_rfl) (by exact fun _ _ _ h => h) (Or.inl ⟨by rfl, by (intro w hSw; (try dsimp only at hSw); go_simp; try with_reducible rfl)⟩) (by assumption) ?_
        (try dsimp only [Act.put]); (try go_frame)
        refine wpAnyH_ready (rs := [5, 9]) (by kernel_rfl) (by simp) ?_
        refine AllReadyH.cons rfl (fun K hK => ?_) (AllReadyH.cons rfl (fun K hK => ?_) AllReadyH.nil)
        · go_simp
          (with_reducible refine (hadd _).mono ?_)
          rintro r w21 ⟨rfl, hb21⟩
          clear xF450_0 xF450_1 xF450_2 xF450_3 xF450_4 xF450_5 xE150_0 xE150_1 xE150_2 xE150_3 xE150_4 xE150_5
          replace E1 := E1.keep hb21
          replace F2 := F2.keep hb21
          replace F4 := F4.keep hb21
          replace B0 := B0.trans (hb21.mono B0.size)
          clear hb21
          obtain ⟨xF452_0, xF452_1, xF452_2, xF452_3, xF452_4, xF452_5⟩ := F4.ce6
          obtain ⟨xE152_0, xE152_1, xE152_2, xE152_3, xE152_4, xE152_5⟩ := E1.ce6
          refine hK.out _ _ ?_ (fun hHeld => ?_)
          · exact ⟨xF452_0, xF452_1, xF452_2, xF452_3, xF452_4, xF452_5, xE152_0, xE152_1, xE152_2, xE152_3, xE152_4, xE152_5⟩
          clear hK K
          (try dsimp only [Act.put]); (try go_frame)
          refine wpAnyH_take (i := 6) (v := _) (by first | (simp only [List.getElem?_toArray, List.getElem?_cons_zero, List.getElem?_cons_succ]; rfl) | rfl) (by kernel_rfl) (by kernel_rfl) (by kernel_rfl) (by exact fun _ _ _ h => h) (Or.inl ⟨by rfl, by (intro w hSw; (try dsimp only at hSw); go_simp; try with_reducible rfl)⟩) (by assumption) ?_
          (try dsimp only [Act.put]); (try go_frame)
          refine wpAnyH_take (i := 7) (v := _) (by first | (simp only [List.getElem?_toArray, List.getElem?_cons_zero, List.getElem?_cons_succ]; rfl) | rfl) (by kernel_rfl) (by kernel_rfl) (by kernel_rfl) (by exact fun _ _ _ h => h) (Or.inl ⟨by rfl, by (intro w hSw; (try dsimp only at hSw); go_simp; try with_reducible rfl)⟩) (by assumption) ?_
          (try dsimp only [Act.put]); (try go_frame)
          refine wpAnyH_take (i := 8) (v := _) (by first | (simp only [List.getElem?_toArray, List.getElem?_cons_zero, List.getElem?_cons_succ]; rfl) | rfl) (by kernel_rfl) (by kernel_rfl) (by kernel_rfl) (by exact fun _ _ _ h => h) (Or.inl ⟨by rfl, by (intro w hSw; (try dsimp only at hSw); go_simp; try with_reducible rfl)⟩) (by assumption) ?_
          (try dsimp only [Act.put]); (try go_frame)
          refine wpAnyH_ready (rs := [9]) (by kernel_rfl) (by simp) ?_
          refine AllReadyH.cons rfl (fun K hK => ?_) AllReadyH.nil
          go_simp
          obtain ⟨zF40, zF41, zF42, zF43, zF44, zF45⟩ := (F4.allocd (.cells #[.bool false, .string { data := #[] }, .int .i64 0, .bool false, .string { data := #[] }, .int .i64 0] 49)).ce6
          obtain ⟨zE10, zE11, zE12, zE13, zE14, zE15⟩ := (E1.allocd (.cells #[.bool false, .string { data := #[] }, .int .i64 0, .bool false, .string { data := #[] }, .int .i64 0] 49)).ce6
          clear xF452_0 xF452_1 xF452_2 xF452_3 xF452_4 xF452_5 xE152_0 xE152_1 xE152_2 xE152_3 xE152_4 xE152_5
          refine hK.out _ _ ?_ (fun hHeld => ?_)
          · exact ⟨zF40, zF41, zF42, zF43, zF44, zF45, zE10, zE11, zE12, zE13, zE14, zE15⟩
          clear hK K
          (try dsimp only [Act.put]); (try go_frame)
          clear zF40 zF41 zF42 zF43 zF44 zF45 zE10 zE11 zE12 zE13 zE14 zE15
          refine wpAnyH_ready (rs := [10]) (by kernel_rfl) (by simp) ?_
          refine AllReadyH.cons rfl (fun K hK => ?_) AllReadyH.nil
          go_simp
          have q_F4_F6 : Hid (w.heap.size + 1 < w21.heap.size) := Lib.hid (by have := F4.lt; first | exact this | omega | (simp; done) | simpa using this)
          have q_w_F6 : Hid (w.heap.size ≤ w21.heap.size) := Lib.hid (by have := B0.size; first | exact this | omega | (simp; done) | simpa using this)
          replace E1 := E1.allocd (.cells #[.bool Qn, .string QS, .int .i64 Qe, .bool Qm, .string QT, .int .i64 Qf] 49)
          replace F2 := F2.allocd (.cells #[.bool Qn, .string QS, .int .i64 Qe, .bool Qm, .string QT, .int .i64 Qf] 49)
          replace F4 := F4.allocd (.cells #[.bool Qn, .string QS, .int .i64 Qe, .bool Qm, .string QT, .int .i64 Qf] 49)
          have F6 := Blk.put (w21) #[.bool Qn, .string QS, .int .i64 Qe, .bool Qm, .string QT, .int .i64 Qf] 49
          replace B0 := B0.alloc B0.size (.cells #[.bool Qn, .string QS, .int .i64 Qe, .bool Qm, .string QT, .int .i64 Qf] 49)
          obtain ⟨xF453_0, xF453_1, xF453_2, xF453_3, xF453_4, xF453_5⟩ := F4.ce6
          obtain ⟨xE153_0, xE153_1, xE153_2, xE153_3, xE153_4, xE153_5⟩ := E1.ce6
          refine hK.out _ _ ?_ (fun hHeld => ?_)
          · exact ⟨xF453_0, xF453_1, xF453_2, xF453_3, xF453_4, xF453_5, xE153_0, xE153_1, xE153_2, xE153_3, xE153_4, xE153_5⟩
          clear hK K
          (try dsimp only [Act.put]); (try go_frame)
          refine wpAnyH_take (i := 11) (v := _) (by first | (simp only [List.getElem?_toArray, List.getElem?_cons_zero, List.getElem?_cons_succ]; rfl) | rfl) (by kernel_rfl) (by kernel_rfl) (by kernel_rfl) (by exact fun _ _ _ h => h) (Or.inl ⟨by rfl, by (intro w hSw; (try dsimp only at hSw); go_simp; try with_reducible rfl)⟩) (by assumption) ?_
          (try dsimp only [Act.put]); (try go_frame)
          refine wpAnyH_done (by kernel_rfl) ?_ _
          try simp only [QCut]
          clear hHeld
          clear xF453_0 xF453_1 xF453_2 xF453_3 xF453_4 xF453_5 xE153_0 xE153_1 xE153_2 xE153_3 xE153_4 xE153_5
          obtain ⟨xF653_0, xF653_1, xF653_2, xF653_3, xF653_4, xF653_5⟩ := F6.ce6
          obtain ⟨xF453_0, xF453_1, xF453_2, xF453_3, xF453_4, xF453_5⟩ := F4.ce6
          obtain ⟨xF453_0f, xF453_1f, xF453_2f, xF453_3f, xF453_4f, xF453_5f⟩ := F4.fr6
          clear E1
          replace F2 := ((((((F2.far 0 (.bool Qn) (Nat.ne_of_lt q_F2_F4.out)).far 1 (.string QS) (Nat.ne_of_lt q_F2_F4.out)).far 2 (.int .i64 Qe) (Nat.ne_of_lt q_F2_F4.out)).far 3 (.bool Qm) (Nat.ne_of_lt q_F2_F4.out)).far 4 (.string QT) (Nat.ne_of_lt q_F2_F4.out)).far 5 (.int .i64 Qf) (Nat.ne_of_lt q_F2_F4.out))
          replace F6 := ((((((F6.far 0 (.bool Qn) (Nat.ne_of_gt q_F4_F6.out)).far 1 (.string QS) (Nat.ne_of_gt q_F4_F6.out)).far 2 (.int .i64 Qe) (Nat.ne_of_gt q_F4_F6.out)).far 3 (.bool Qm) (Nat.ne_of_gt q_F4_F6.out)).far 4 (.string QT) (Nat.ne_of_gt q_F4_F6.out)).far 5 (.int .i64 Qf) (Nat.ne_of_gt q_F4_F6.out))
          replace F4 : Blk ((((((((w21).alloc (.cells #[.bool Qn, .string QS, .int .i64 Qe, .bool Qm, .string QT, .int .i64 Qf] 49)).setCell ⟨w.heap.size + 1, 0, none⟩ (.bool Qn)).setCell ⟨w.heap.size + 1, 1, none⟩ (.string QS)).setCell ⟨w.heap.size + 1, 2, none⟩ (.int .i64 Qe)).setCell ⟨w.heap.size + 1, 3, none⟩ (.bool Qm)).setCell ⟨w.heap.size + 1, 4, none⟩ (.string QT)).setCell ⟨w.heap.size + 1, 5, none⟩ (.int .i64 Qf)) (w.heap.size + 1) #[.bool Qn, .string QS, .int .i64 Qe, .bool Qm, .string QT, .int .i64 Qf] 49 := ((((((F4.setAt 0 (.bool Qn)).setAt 1 (.string QS)).setAt 2 (.int .i64 Qe)).setAt 3 (.bool Qm)).setAt 4 (.string QT)).setAt 5 (.int .i64 Qf))
          replace B0 := ((((((B0.setCell (p := ⟨w.heap.size + 1, 0, none⟩) q_w_F4.out (.bool Qn)).setCell (p := ⟨w.heap.size + 1, 1, none⟩) q_w_F4.out (.string QS)).setCell (p := ⟨w.heap.size + 1, 2, none⟩) q_w_F4.out (.int .i64 Qe)).setCell (p := ⟨w.heap.size + 1, 3, none⟩) q_w_F4.out (.bool Qm)).setCell (p := ⟨w.heap.size + 1, 4, none⟩) q_w_F4.out (.string QT)).setCell (p := ⟨w.heap.size + 1, 5, none⟩) q_w_F4.out (.int .i64 Qf))
          go_wp2
          go_roundg (n - (i + 1))
          case measure => have := Hg.out; omega
          case rel => exact ⟨i + 1, by omega, rfl, by go_num, by rw [Hgo.out]; exact Hq.out, F2, by rw [Hgo.out]; dsimp only; rw [← HS.out, ← HT.out]; exact F4, B0⟩
        · go_simp
          clear xF450_0 xF450_1 xF450_2 xF450_3 xF450_4 xF450_5 xE150_0 xE150_1 xE150_2 xE150_3 xE150_4 xE150_5
          have q_E1_F6 : Hid (b < wr.heap.size) := Lib.hid (by have := E1.lt; first | exact this | omega | (simp; done) | simpa using this)
          have q_F2_F6 : Hid (w.heap.size < wr.heap.size) := Lib.hid (by have := F2.lt; first | exact this | omega | (simp; done) | simpa using this)
          have q_F4_F6 : Hid (w.heap.size + 1 < wr.heap.size) := Lib.hid (by have := F4.lt; first | exact this | omega | (simp; done) | simpa using this)
          have q_w_F6 : Hid (w.heap.size ≤ wr.heap.size) := Lib.hid (by have := B0.size; first | exact this | omega | (simp; done) | simpa using this)
          replace E1 := E1.allocd (.cells #[.bool false, .string { data := #[] }, .int .i64 0, .bool false, .string { data := #[] }, .int .i64 0] 49)
          replace F2 := F2.allocd (.cells #[.bool false, .string { data := #[] }, .int .i64 0, .bool false, .string { data := #[] }, .int .i64 0] 49)
          replace F4 := F4.allocd (.cells #[.bool false, .string { data := #[] }, .int .i64 0, .bool false, .string { data := #[] }, .int .i64 0] 49)
          have F6 := Blk.put ((wr).drew) #[.bool false, .string { data := #[] }, .int .i64 0, .bool false, .string { data := #[] }, .int .i64 0] 49
          rw [show ((wr).drew).heap.size = wr.heap.size by simp] at F6
          replace B0 := B0.alloc B0.size (.cells #[.bool false, .string { data := #[] }, .int .i64 0, .bool false, .string { data := #[] }, .int .i64 0] 49)
          obtain ⟨xF452_0, xF452_1, xF452_2, xF452_3, xF452_4, xF452_5⟩ := F4.ce6
          obtain ⟨xE152_0, xE152_1, xE152_2, xE152_3, xE152_4, xE152_5⟩ := E1.ce6
          refine hK.out _ _ ?_ (fun hHeld => ?_)
          · exact ⟨xF452_0, xF452_1, xF452_2, xF452_3, xF452_4, xF452_5, xE152_0, xE152_1, xE152_2, xE152_3, xE152_4, xE152_5⟩
          clear hK K
          (try dsimp only [Act.put]); (try go_frame)
          refine wpAnyH_ready (rs := [5]) (by kernel_rfl) (by simp) ?_
          refine AllReadyH.cons rfl (fun K hK => ?_) AllReadyH.nil
          go_simp
          (with_reducible refine (hadd _).mono ?_)
          rintro r w21 ⟨rfl, hb21⟩
          clear xF452_0 xF452_1 xF452_2 xF452_3 xF452_4 xF452_5 xE152_0 xE152_1 xE152_2 xE152_3 xE152_4 xE152_5
          replace E1 := E1.keep hb21
          replace F2 := F2.keep hb21
          replace F4 := F4.keep hb21
          replace F6 := F6.keep hb21
          replace B0 := B0.trans (hb21.mono B0.size)
          clear hb21
          obtain ⟨xF453_0, xF453_1, xF453_2, xF453_3, xF453_4, xF453_5⟩ := F4.ce6
          obtain ⟨xE153_0, xE153_1, xE153_2, xE153_3, xE153_4, xE153_5⟩ := E1.ce6
          refine hK.out _ _ ?_ (fun hHeld => ?_)
          · exact ⟨xF453_0, xF453_1, xF453_2, xF453_3, xF453_4, xF453_5, xE153_0, xE153_1, xE153_2, xE153_3, xE153_4, xE153_5⟩
          clear hK K
          (try dsimp only [Act.put]); (try go_frame)
          refine wpAnyH_take (i := 6) (v := _) (by first | (simp only [List.getElem?_toArray, List.getElem?_cons_zero, List.getElem?_cons_succ]; rfl) | rfl) (by kernel_rfl) (by kernel_rfl) (by kernel_rfl) (by exact fun _ _ _ h => h) (Or.inl ⟨by rfl, by (intro w hSw; (try dsimp only at hSw); go_simp; try with_reducible rfl)⟩) (by assumption) ?_
          (try dsimp only [Act.put]); (try go_frame)
          refine wpAnyH_take (i := 7) (v := _) (by first | (simp only [List.getElem?_toArray, List.getElem?_cons_zero, List.getElem?_cons_succ]; rfl) | rfl) (by kernel_rfl) (by kernel_rfl) (by kernel_rfl) (by exact fun _ _ _ h => h) (Or.inl ⟨by rfl, by (intro w hSw; (try dsimp only at hSw); go_simp; try with_reducible rfl)⟩) (by assumption) ?_
          (try dsimp only [Act.put]); (try go_frame)
          refine wpAnyH_take (i := 8) (v := _) (by first | (simp only [List.getElem?_toArray, List.getElem?_cons_zero, List.getElem?_cons_succ]; rfl) | rfl) (by kernel_rfl) (by kernel_rfl) (by kernel_rfl) (by exact fun _ _ _ h => h) (Or.inl ⟨by rfl, by (intro w hSw; (try dsimp only at hSw); go_simp; try with_reducible rfl)⟩) (by assumption) ?_
          (try dsimp only [Act.put]); (try go_frame)
          obtain ⟨xF653_0, xF653_1, xF653_2, xF653_3, xF653_4, xF653_5⟩ := F6.ce6
          obtain ⟨xF653_0f, xF653_1f, xF653_2f, xF653_3f, xF653_4f, xF653_5f⟩ := F6.fr6
          refine wpAnyH_ready (rs := [10]) (by kernel_rfl) (by simp) ?_
          refine AllReadyH.cons rfl (fun K hK => ?_) AllReadyH.nil
          go_simp
          replace E1 := ((((((E1.far 0 (.bool Qn) (Nat.ne_of_lt q_E1_F6.out)).far 1 (.string QS) (Nat.ne_of_lt q_E1_F6.out)).far 2 (.int .i64 Qe) (Nat.ne_of_lt q_E1_F6.out)).far 3 (.bool Qm) (Nat.ne_of_lt q_E1_F6.out)).far 4 (.string QT) (Nat.ne_of_lt q_E1_F6.out)).far 5 (.int .i64 Qf) (Nat.ne_of_lt q_E1_F6.out))
          replace F2 := ((((((F2.far 0 (.bool Qn) (Nat.ne_of_lt q_F2_F6.out)).far 1 (.string QS) (Nat.ne_of_lt q_F2_F6.out)).far 2 (.int .i64 Qe) (Nat.ne_of_lt q_F2_F6.out)).far 3 (.bool Qm) (Nat.ne_of_lt q_F2_F6.out)).far 4 (.string QT) (Nat.ne_of_lt q_F2_F6.out)).far 5 (.int .i64 Qf) (Nat.ne_of_lt q_F2_F6.out))
          replace F4 := ((((((F4.far 0 (.bool Qn) (Nat.ne_of_lt q_F4_F6.out)).far 1 (.string QS) (Nat.ne_of_lt q_F4_F6.out)).far 2 (.int .i64 Qe) (Nat.ne_of_lt q_F4_F6.out)).far 3 (.bool Qm) (Nat.ne_of_lt q_F4_F6.out)).far 4 (.string QT) (Nat.ne_of_lt q_F4_F6.out)).far 5 (.int .i64 Qf) (Nat.ne_of_lt q_F4_F6.out))
          replace F6 : Blk (((((((w21).setCell ⟨wr.heap.size, 0, none⟩ (.bool Qn)).setCell ⟨wr.heap.size, 1, none⟩ (.string QS)).setCell ⟨wr.heap.size, 2, none⟩ (.int .i64 Qe)).setCell ⟨wr.heap.size, 3, none⟩ (.bool Qm)).setCell ⟨wr.heap.size, 4, none⟩ (.string QT)).setCell ⟨wr.heap.size, 5, none⟩ (.int .i64 Qf)) (wr.heap.size) #[.bool Qn, .string QS, .int .i64 Qe, .bool Qm, .string QT, .int .i64 Qf] 49 := ((((((F6.setAt 0 (.bool Qn)).setAt 1 (.string QS)).setAt 2 (.int .i64 Qe)).setAt 3 (.bool Qm)).setAt 4 (.string QT)).setAt 5 (.int .i64 Qf))
          replace B0 := ((((((B0.setCell (p := ⟨wr.heap.size, 0, none⟩) q_w_F6.out (.bool Qn)).setCell (p := ⟨wr.heap.size, 1, none⟩) q_w_F6.out (.string QS)).setCell (p := ⟨wr.heap.size, 2, none⟩) q_w_F6.out (.int .i64 Qe)).setCell (p := ⟨wr.heap.size, 3, none⟩) q_w_F6.out (.bool Qm)).setCell (p := ⟨wr.heap.size, 4, none⟩) q_w_F6.out (.string QT)).setCell (p := ⟨wr.heap.size, 5, none⟩) q_w_F6.out (.int .i64 Qf))
          clear xF453_0 xF453_1 xF453_2 xF453_3 xF453_4 xF453_5 xE153_0 xE153_1 xE153_2 xE153_3 xE153_4 xE153_5 xF653_0 xF653_1 xF653_2 xF653_3 xF653_4 xF653_5 xF653_0f xF653_1f xF653_2f xF653_3f xF653_4f xF653_5f
          obtain ⟨xF454_0, xF454_1, xF454_2, xF454_3, xF454_4, xF454_5⟩ := F4.ce6
          obtain ⟨xE154_0, xE154_1, xE154_2, xE154_3, xE154_4, xE154_5⟩ := E1.ce6
          refine hK.out _ _ ?_ (fun hHeld => ?_)
          · exact ⟨xF454_0, xF454_1, xF454_2, xF454_3, xF454_4, xF454_5, xE154_0, xE154_1, xE154_2, xE154_3, xE154_4, xE154_5⟩
          clear hK K
          (try dsimp only [Act.put]); (try go_frame)
          refine wpAnyH_take (i := 11) (v := _) (by first | (simp only [List.getElem?_toArray, List.getElem?_cons_zero, List.getElem?_cons_succ]; rfl) | rfl) (by kernel_rfl) (by kernel_rfl) (by kernel_rfl) (by exact fun _ _ _ h => h) (Or.inl ⟨by rfl, by (intro w hSw; (try dsimp only at hSw); go_simp; try with_reducible rfl)⟩) (by assumption) ?_
          (try dsimp only [Act.put]); (try go_frame)
          refine wpAnyH_done (by kernel_rfl) ?_ _
          try simp only [QCut]
          clear hHeld
          clear xF454_0 xF454_1 xF454_2 xF454_3 xF454_4 xF454_5 xE154_0 xE154_1 xE154_2 xE154_3 xE154_4 xE154_5
          obtain ⟨xF654_0, xF654_1, xF654_2, xF654_3, xF654_4, xF654_5⟩ := F6.ce6
          obtain ⟨xF454_0, xF454_1, xF454_2, xF454_3, xF454_4, xF454_5⟩ := F4.ce6
          obtain ⟨xF454_0f, xF454_1f, xF454_2f, xF454_3f, xF454_4f, xF454_5f⟩ := F4.fr6
          clear E1
          replace F2 := ((((((F2.far 0 (.bool Qn) (Nat.ne_of_lt q_F2_F4.out)).far 1 (.string QS) (Nat.ne_of_lt q_F2_F4.out)).far 2 (.int .i64 Qe) (Nat.ne_of_lt q_F2_F4.out)).far 3 (.bool Qm) (Nat.ne_of_lt q_F2_F4.out)).far 4 (.string QT) (Nat.ne_of_lt q_F2_F4.out)).far 5 (.int .i64 Qf) (Nat.ne_of_lt q_F2_F4.out))
          replace F6 := ((((((F6.far 0 (.bool Qn) (Nat.ne_of_gt q_F4_F6.out)).far 1 (.string QS) (Nat.ne_of_gt q_F4_F6.out)).far 2 (.int .i64 Qe) (Nat.ne_of_gt q_F4_F6.out)).far 3 (.bool Qm) (Nat.ne_of_gt q_F4_F6.out)).far 4 (.string QT) (Nat.ne_of_gt q_F4_F6.out)).far 5 (.int .i64 Qf) (Nat.ne_of_gt q_F4_F6.out))
          replace F4 : Blk (((((((((((((w21).setCell ⟨wr.heap.size, 0, none⟩ (.bool Qn)).setCell ⟨wr.heap.size, 1, none⟩ (.string QS)).setCell ⟨wr.heap.size, 2, none⟩ (.int .i64 Qe)).setCell ⟨wr.heap.size, 3, none⟩ (.bool Qm)).setCell ⟨wr.heap.size, 4, none⟩ (.string QT)).setCell ⟨wr.heap.size, 5, none⟩ (.int .i64 Qf)).setCell ⟨w.heap.size + 1, 0, none⟩ (.bool Qn)).setCell ⟨w.heap.size + 1, 1, none⟩ (.string QS)).setCell ⟨w.heap.size + 1, 2, none⟩ (.int .i64 Qe)).setCell ⟨w.heap.size + 1, 3, none⟩ (.bool Qm)).setCell ⟨w.heap.size + 1, 4, none⟩ (.string QT)).setCell ⟨w.heap.size + 1, 5, none⟩ (.int .i64 Qf)) (w.heap.size + 1) #[.bool Qn, .string QS, .int .i64 Qe, .bool Qm, .string QT, .int .i64 Qf] 49 := ((((((F4.setAt 0 (.bool Qn)).setAt 1 (.string QS)).setAt 2 (.int .i64 Qe)).setAt 3 (.bool Qm)).setAt 4 (.string QT)).setAt 5 (.int .i64 Qf))
          replace B0 := ((((((B0.setCell (p := ⟨w.heap.size + 1, 0, none⟩) q_w_F4.out (.bool Qn)).setCell (p := ⟨w.heap.size + 1, 1, none⟩) q_w_F4.out (.string QS)).setCell (p := ⟨w.heap.size + 1, 2, none⟩) q_w_F4.out (.int .i64 Qe)).setCell (p := ⟨w.heap.size + 1, 3, none⟩) q_w_F4.out (.bool Qm)).setCell (p := ⟨w.heap.size + 1, 4, none⟩) q_w_F4.out (.string QT)).setCell (p := ⟨w.heap.size + 1, 5, none⟩) q_w_F4.out (.int .i64 Qf))
          go_wp2
          go_roundg (n - (i + 1))
          case measure => have := Hg.out; omega
          case rel => exact ⟨i + 1, by omega, rfl, by go_num, by rw [Hgo.out]; exact Hq.out, F2, by rw [Hgo.out]; dsimp only; rw [← HS.out, ← HT.out]; exact F4, B0⟩
      · have Hv : Hid (Value.tuple #[.agg #[.bool false, .string { data := #[] }, .int .i64 0, .bool false, .string { data := #[] }, .int .i64 0], .int .i64 Qr] = .tuple #[.agg #[.bool (gSm D n).1.re.n, .string (bstr (gSm D n).1.re.x), .int .i64 (gSm D n).1.re.e, .bool (gSm D n).1.im.n, .string (bstr (gSm D n).1.im.x), .int .i64 (gSm D n).1.im.e], .int .i64 (gSm D n).2]) := Lib.hid (by
          have h8 := (hst hq).2
          try dsimp only at h8
          rw [(hst hq).1, h8, show bstr (GY.zero, (4 : Int)).1.re.x = { data := #[] } from bstr_zero, show bstr (GY.zero, (4 : Int)).1.im.x = { data := #[] } from bstr_zero]; rfl)
        have hb : (Qr != 0) = true := by simpa using hq
        clear hq hst
        go_wp2_with fail
        refine wp_region_any (by kernel_rfl) ?_
        obtain ⟨xF450_0, xF450_1, xF450_2, xF450_3, xF450_4, xF450_5⟩ := F4.ce6
        obtain ⟨xE150_0, xE150_1, xE150_2, xE150_3, xE150_4, xE150_5⟩ := E1.ce6
        have hHeld : (fun w' : World => w'.cell? ⟨w.heap.size + 1, 0, none⟩ = some (.bool Pn) ∧ w'.cell? ⟨w.heap.size + 1, 1, none⟩ = some (.string PS) ∧ w'.cell? ⟨w.heap.size + 1, 2, none⟩ = some (.int .i64 Pe) ∧ w'.cell? ⟨w.heap.size + 1, 3, none⟩ = some (.bool Pm) ∧ w'.cell? ⟨w.heap.size + 1, 4, none⟩ = some (.string PT) ∧ w'.cell? ⟨w.heap.size + 1, 5, none⟩ = some (.int .i64 Pf) ∧ w'.cell? ⟨b, o + i * 6, none⟩ = some (.bool dn) ∧ w'.cell? ⟨b, o + i * 6 + 1, none⟩ = some (.string dS) ∧ w'.cell? ⟨b, o + i * 6 + 2, none⟩ = some (.int .i64 de) ∧ w'.cell? ⟨b, o + i * 6 + 3, none⟩ = some (.bool dm) ∧ w'.cell? ⟨b, o + i * 6 + 4, none⟩ = some (.string dT) ∧ w'.cell? ⟨b, o + i * 6 + 5, none⟩ = some (.int .i64 df)) (wr).drew := ⟨xF450_0, xF450_1, xF450_2, xF450_3, xF450_4, xF450_5, xE150_0, xE150_1, xE150_2, xE150_3, xE150_4, xE150_5⟩
        refine wpAny_of_held (S := fun w' : World => w'.cell? ⟨w.heap.size + 1, 0, none⟩ = some (.bool Pn) ∧ w'.cell? ⟨w.heap.size + 1, 1, none⟩ = some (.string PS) ∧ w'.cell? ⟨w.heap.size + 1, 2, none⟩ = some (.int .i64 Pe) ∧ w'.cell? ⟨w.heap.size + 1, 3, none⟩ = some (.bool Pm) ∧ w'.cell? ⟨w.heap.size + 1, 4, none⟩ = some (.string PT) ∧ w'.cell? ⟨w.heap.size + 1, 5, none⟩ = some (.int .i64 Pf) ∧ w'.cell? ⟨b, o + i * 6, none⟩ = some (.bool dn) ∧ w'.cell? ⟨b, o + i * 6 + 1, none⟩ = some (.string dS) ∧ w'.cell? ⟨b, o + i * 6 + 2, none⟩ = some (.int .i64 de) ∧ w'.cell? ⟨b, o + i * 6 + 3, none⟩ = some (.bool dm) ∧ w'.cell? ⟨b, o + i * 6 + 4, none⟩ = some (.string dT) ∧ w'.cell? ⟨b, o + i * 6 + 5, none⟩ = some (.int .i64 df)) _ _ _ _ ?_
        replace E1 := E1.drew
        replace F2 := F2.drew
        replace F4 := F4.drew
        replace B0 := B0.drew
        refine wpAnyH_take (i := 0) (v := _) (by first | (simp only [List.getElem?_toArray, List.getElem?_cons_zero]; rfl) | rfl) (by kernel_rfl) (by kernel_rfl) (by kernel_rfl) (by exact fun _ _ _ h => h) (Or.inl ⟨by rfl, by (intro w hSw; (try dsimp only at hSw); go_simp; try with_reducible rfl)⟩) (by assumption) ?_
        (try dsimp only [Act.put]); (try go_frame)
        refine wpAnyH_take (i := 1) (v := _) (by first | (simp only [List.getElem?_toArray, List.getElem?_cons_zero, List.getElem?_cons_succ]; rfl) | rfl) (by kernel_rfl) (by kernel_rfl) (by kernel_rfl) (by exact fun _ _ _ h => h) (Or.inl ⟨by rfl, by (intro w hSw; (try dsimp only at hSw); go_simp; try with_reducible rfl)⟩) (by assumption) ?_
        (try dsimp only [Act.put]); (try go_frame)
        refine wpAnyH_take (i := 2) (v := _) (by first | (simp only [List.getElem?_toArray, List.getElem?_cons_zero, List.getElem?_cons_succ]; rfl) | rfl) (by kernel_rfl) (by kernel_rfl) (by kernel_rfl) (by exact fun _ _ _ h => h) (Or.inl ⟨by rfl, by (intro w hSw; (try dsimp only at hSw); go_simp; try with_reducible rfl)⟩) (by assumption) ?_
        (try dsimp only [Act.put]); (try go_frame)
        refine wpAnyH_take (i := 3) (v := _) (by first | (simp only [List.getElem?_toArray, List.getElem?_cons_zero, List.getElem?_cons_succ]; rfl) | rfl) (by kernel_rfl) (by kernel_rfl) (by kernel_rfl) (by exact fun _ _ _ h => h) (Or.inl ⟨by rfl, by (intro w hSw; (try dsimp only at hSw); go_simp; try with_reducible rfl)⟩) (by assumption) ?_
        (try dsimp only [Act.put]); (try go_frame)
        refine wpAnyH_take (i := 4) (v := _) (by first | (simp only [List.getElem?_toArray, List.getElem?_cons_zero, List.getElem?_cons_succ]; rfl) | rfl) (by kernel_rfl) (by kernel_rfl) (by kernel_rfl) (by exact fun _ _ _ h => h) (Or.inl ⟨by rfl, by (intro w hSw; (try dsimp only at hSw); go_simp; try with_reducible rfl)⟩) (by assumption) ?_
        (try dsimp only [Act.put]); (try go_frame)
        refine wpAnyH_ready (rs := [5, 9]) (by kernel_rfl) (by simp) ?_
        refine AllReadyH.cons rfl (fun K hK => ?_) (AllReadyH.cons rfl (fun K hK => ?_) AllReadyH.nil)
        · go_simp
          (with_reducible refine (hadd _).mono ?_)
          rintro r w21 ⟨rfl, hb21⟩
          clear xF450_0 xF450_1 xF450_2 xF450_3 xF450_4 xF450_5 xE150_0 xE150_1 xE150_2 xE150_3 xE150_4 xE150_5
          replace E1 := E1.keep hb21
          replace F2 := F2.keep hb21
          replace F4 := F4.keep hb21
          replace B0 := B0.trans (hb21.mono B0.size)
          clear hb21
          obtain ⟨xF452_0, xF452_1, xF452_2, xF452_3, xF452_4, xF452_5⟩ := F4.ce6
          obtain ⟨xE152_0, xE152_1, xE152_2, xE152_3, xE152_4, xE152_5⟩ := E1.ce6
          refine hK.out _ _ ?_ (fun hHeld => ?_)
          · exact ⟨xF452_0, xF452_1, xF452_2, xF452_3, xF452_4, xF452_5, xE152_0, xE152_1, xE152_2, xE152_3, xE152_4, xE152_5⟩
          clear hK K
          (try dsimp only [Act.put]); (try go_frame)
          refine wpAnyH_take (i := 6) (v := _) (by first | (simp only [List.getElem?_toArray, List.getElem?_cons_zero, List.getElem?_cons_succ]; rfl) | rfl) (by kernel_rfl) (by kernel_rfl) (by kernel_rfl) (by exact fun _ _ _ h => h) (Or.inl ⟨by rfl, by (intro w hSw; (try dsimp only at hSw); go_simp; try with_reducible rfl)⟩) (by assumption) ?_
          (try dsimp only [Act.put]); (try go_frame)
          refine wpAnyH_take (i := 7) (v := _) (by first | (simp only [List.getElem?_toArray, List.getElem?_cons_zero, List.getElem?_cons_succ]; rfl) | rfl) (by kernel_rfl) (by kernel_rfl) (by kernel_rfl) (by exact fun _ _ _ h => h) (Or.inl ⟨by rfl, by (intro w hSw; (try dsimp only at hSw); go_simp; try with_reducible rfl)⟩) (by assumption) ?_
          (try dsimp only [Act.put]); (try go_frame)
          refine wpAnyH_take (i := 8) (v := _) (by first | (simp only [List.getElem?_toArray, List.getElem?_cons_zero, List.getElem?_cons_succ]; rfl) | rfl) (by kernel_rfl) (by kernel_rfl) (by kernel_rfl) (by exact fun _ _ _ h => h) (Or.inl ⟨by rfl, by (intro w hSw; (try dsimp only at hSw); go_simp; try with_reducible rfl)⟩) (by assumption) ?_
          (try dsimp only [Act.put]); (try go_frame)
          refine wpAnyH_ready (rs := [9]) (by kernel_rfl) (by simp) ?_
          refine AllReadyH.cons rfl (fun K hK => ?_) AllReadyH.nil
          go_simp
          obtain ⟨zF40, zF41, zF42, zF43, zF44, zF45⟩ := (F4.allocd (.cells #[.bool false, .string { data := #[] }, .int .i64 0, .bool false, .string { data := #[] }, .int .i64 0] 49)).ce6
          obtain ⟨zE10, zE11, zE12, zE13, zE14, zE15⟩ := (E1.allocd (.cells #[.bool false, .string { data := #[] }, .int .i64 0, .bool false, .string { data := #[] }, .int .i64 0] 49)).ce6
          clear xF452_0 xF452_1 xF452_2 xF452_3 xF452_4 xF452_5 xE152_0 xE152_1 xE152_2 xE152_3 xE152_4 xE152_5
          refine hK.out _ _ ?_ (fun hHeld => ?_)
          · exact ⟨zF40, zF41, zF42, zF43, zF44, zF45, zE10, zE11, zE12, zE13, zE14, zE15⟩
          clear hK K
          (try dsimp only [Act.put]); (try go_frame)
          clear zF40 zF41 zF42 zF43 zF44 zF45 zE10 zE11 zE12 zE13 zE14 zE15
          refine wpAnyH_ready (rs := [10]) (by kernel_rfl) (by simp) ?_
          refine AllReadyH.cons rfl (fun K hK => ?_) AllReadyH.nil
          go_simp
          have q_w_F6 : Hid (w.heap.size ≤ w21.heap.size) := Lib.hid (by have := B0.size; first | exact this | omega | (simp; done) | simpa using this)
          replace E1 := E1.allocd (.cells #[.bool Qn, .string QS, .int .i64 Qe, .bool Qm, .string QT, .int .i64 Qf] 49)
          replace F2 := F2.allocd (.cells #[.bool Qn, .string QS, .int .i64 Qe, .bool Qm, .string QT, .int .i64 Qf] 49)
          replace F4 := F4.allocd (.cells #[.bool Qn, .string QS, .int .i64 Qe, .bool Qm, .string QT, .int .i64 Qf] 49)
          replace B0 := B0.alloc B0.size (.cells #[.bool Qn, .string QS, .int .i64 Qe, .bool Qm, .string QT, .int .i64 Qf] 49)
          obtain ⟨xF453_0, xF453_1, xF453_2, xF453_3, xF453_4, xF453_5⟩ := F4.ce6
          obtain ⟨xE153_0, xE153_1, xE153_2, xE153_3, xE153_4, xE153_5⟩ := E1.ce6
          refine hK.out _ _ ?_ (fun hHeld => ?_)
          · exact ⟨xF453_0, xF453_1, xF453_2, xF453_3, xF453_4, xF453_5, xE153_0, xE153_1, xE153_2, xE153_3, xE153_4, xE153_5⟩
          clear hK K
          (try dsimp only [Act.put]); (try go_frame)
          refine wpAnyH_take (i := 11) (v := _) (by first | (simp only [List.getElem?_toArray, List.getElem?_cons_zero, List.getElem?_cons_succ]; rfl) | rfl) (by kernel_rfl) (by kernel_rfl) (by kernel_rfl) (by exact fun _ _ _ h => h) (Or.inl ⟨by rfl, by (intro w hSw; (try dsimp only at hSw); go_simp; try with_reducible rfl)⟩) (by assumption) ?_
          (try dsimp only [Act.put]); (try go_frame)
          refine wpAnyH_done (by kernel_rfl) ?_ _
          try simp only [QCut]
          clear hHeld
          clear xF453_0 xF453_1 xF453_2 xF453_3 xF453_4 xF453_5 xE153_0 xE153_1 xE153_2 xE153_3 xE153_4 xE153_5
          go_upto_region 7 with fail
          generalize (w21).alloc (.cells #[.bool Qn, .string QS, .int .i64 Qe, .bool Qm, .string QT, .int .i64 Qf] 49) = w9 at *
          obtain ⟨xF254_0, xF254_1, xF254_2, xF254_3, xF254_4, xF254_5⟩ := F2.ce6
          obtain ⟨xF254_0f, xF254_1f, xF254_2f, xF254_3f, xF254_4f, xF254_5f⟩ := F2.fr6
          clear E1
          clear F4
          replace F2 : Blk (((((((w9).setCell ⟨w.heap.size, 0, none⟩ (.bool false)).setCell ⟨w.heap.size, 1, none⟩ (.string { data := #[] })).setCell ⟨w.heap.size, 2, none⟩ (.int .i64 0)).setCell ⟨w.heap.size, 3, none⟩ (.bool false)).setCell ⟨w.heap.size, 4, none⟩ (.string { data := #[] })).setCell ⟨w.heap.size, 5, none⟩ (.int .i64 0)) (w.heap.size) #[.bool false, .string { data := #[] }, .int .i64 0, .bool false, .string { data := #[] }, .int .i64 0] 49 := ((((((F2.setAt 0 (.bool false)).setAt 1 (.string { data := #[] })).setAt 2 (.int .i64 0)).setAt 3 (.bool false)).setAt 4 (.string { data := #[] })).setAt 5 (.int .i64 0))
          replace B0 := ((((((B0.setCell (p := ⟨w.heap.size, 0, none⟩) q_w_F2.out (.bool false)).setCell (p := ⟨w.heap.size, 1, none⟩) q_w_F2.out (.string { data := #[] })).setCell (p := ⟨w.heap.size, 2, none⟩) q_w_F2.out (.int .i64 0)).setCell (p := ⟨w.heap.size, 3, none⟩) q_w_F2.out (.bool false)).setCell (p := ⟨w.heap.size, 4, none⟩) q_w_F2.out (.string { data := #[] })).setCell (p := ⟨w.heap.size, 5, none⟩) q_w_F2.out (.int .i64 0))
          obtain ⟨xF255_0, xF255_1, xF255_2, xF255_3, xF255_4, xF255_5⟩ := F2.ce6
          go_wp2
          exact bodyPost_ret (v := .tuple #[.agg #[.bool false, .string { data := #[] }, .int .i64 0, .bool false, .string { data := #[] }, .int .i64 0], .int .i64 Qr]) (by simp [results, Tryd.results89, go_sem, xF255_0, xF255_1, xF255_2, xF255_3, xF255_4, xF255_5]) rfl ⟨congrArg Ending.returned Hv.out, B0⟩
        · go_simp
          clear xF450_0 xF450_1 xF450_2 xF450_3 xF450_4 xF450_5 xE150_0 xE150_1 xE150_2 xE150_3 xE150_4 xE150_5
          have q_E1_F6 : Hid (b < wr.heap.size) := Lib.hid (by have := E1.lt; first | exact this | omega | (simp; done) | simpa using this)
          have q_F2_F6 : Hid (w.heap.size < wr.heap.size) := Lib.hid (by have := F2.lt; first | exact this | omega | (simp; done) | simpa using this)
          have q_F4_F6 : Hid (w.heap.size + 1 < wr.heap.size) := Lib.hid (by have := F4.lt; first | exact this | omega | (simp; done) | simpa using this)
          have q_w_F6 : Hid (w.heap.size ≤ wr.heap.size) := Lib.hid (by have := B0.size; first | exact this | omega | (simp; done) | simpa using this)
          replace E1 := E1.allocd (.cells #[.bool false, .string { data := #[] }, .int .i64 0, .bool false, .string { data := #[] }, .int .i64 0] 49)
          replace F2 := F2.allocd (.cells #[.bool false, .string { data := #[] }, .int .i64 0, .bool false, .string { data := #[] }, .int .i64 0] 49)
          replace F4 := F4.allocd (.cells #[.bool false, .string { data := #[] }, .int .i64 0, .bool false, .string { data := #[] }, .int .i64 0] 49)
          have F6 := Blk.put ((wr).drew) #[.bool false, .string { data := #[] }, .int .i64 0, .bool false, .string { data := #[] }, .int .i64 0] 49
          rw [show ((wr).drew).heap.size = wr.heap.size by simp] at F6
          replace B0 := B0.alloc B0.size (.cells #[.bool false, .string { data := #[] }, .int .i64 0, .bool false, .string { data := #[] }, .int .i64 0] 49)
          obtain ⟨xF452_0, xF452_1, xF452_2, xF452_3, xF452_4, xF452_5⟩ := F4.ce6
          obtain ⟨xE152_0, xE152_1, xE152_2, xE152_3, xE152_4, xE152_5⟩ := E1.ce6
          refine hK.out _ _ ?_ (fun hHeld => ?_)
          · exact ⟨xF452_0, xF452_1, xF452_2, xF452_3, xF452_4, xF452_5, xE152_0, xE152_1, xE152_2, xE152_3, xE152_4, xE152_5⟩
          clear hK K
          (try dsimp only [Act.put]); (try go_frame)
          refine wpAnyH_ready (rs := [5]) (by kernel_rfl) (by simp) ?_
          refine AllReadyH.cons rfl (fun K hK => ?_) AllReadyH.nil
          go_simp
          (with_reducible refine (hadd _).mono ?_)
          rintro r w21 ⟨rfl, hb21⟩
          clear xF452_0 xF452_1 xF452_2 xF452_3 xF452_4 xF452_5 xE152_0 xE152_1 xE152_2 xE152_3 xE152_4 xE152_5
          replace E1 := E1.keep hb21
          replace F2 := F2.keep hb21
          replace F4 := F4.keep hb21
          replace F6 := F6.keep hb21
          replace B0 := B0.trans (hb21.mono B0.size)
          clear hb21
          obtain ⟨xF453_0, xF453_1, xF453_2, xF453_3, xF453_4, xF453_5⟩ := F4.ce6
          obtain ⟨xE153_0, xE153_1, xE153_2, xE153_3, xE153_4, xE153_5⟩ := E1.ce6
          refine hK.out _ _ ?_ (fun hHeld => ?_)
          · exact ⟨xF453_0, xF453_1, xF453_2, xF453_3, xF453_4, xF453_5, xE153_0, xE153_1, xE153_2, xE153_3, xE153_4, xE153_5⟩
          clear hK K
          (try dsimp only [Act.put]); (try go_frame)
          refine wpAnyH_take (i := 6) (v := _) (by first | (simp only [List.getElem?_toArray, List.getElem?_cons_zero, List.getElem?_cons_succ]; rfl) | rfl) (by kernel_rfl) (by kernel_rfl) (by kernel_rfl) (by exact fun _ _ _ h => h) (Or.inl ⟨by rfl, by (intro w hSw; (try dsimp only at hSw); go_simp; try with_reducible rfl)⟩) (by assumption) ?_
          (try dsimp only [Act.put]); (try go_frame)
          refine wpAnyH_take (i := 7) (v := _) (by first | (simp only [List.getElem?_toArray, List.getElem?_cons_zero, List.getElem?_cons_succ]; rfl) | rfl) (by kernel_rfl) (by kernel_rfl) (by kernel_rfl) (by exact fun _ _ _ h => h) (Or.inl ⟨by rfl, by (intro w hSw; (try dsimp only at hSw); go_simp; try with_reducible rfl)⟩) (by assumption) ?_
          (try dsimp only [Act.put]); (try go_frame)
          refine wpAnyH_take (i := 8) (v := _) (by first | (simp only [List.getElem?_toArray, List.getElem?_cons_zero, List.getElem?_cons_succ]; rfl) | rfl) (by kernel_rfl) (by kernel_rfl) (by kernel_rfl) (by exact fun _ _ _ h => h) (Or.inl ⟨by rfl, by (intro w hSw; (try dsimp only at hSw); go_simp; try with_reducible rfl)⟩) (by assumption) ?_
          (try dsimp only [Act.put]); (try go_frame)
          obtain ⟨xF653_0, xF653_1, xF653_2, xF653_3, xF653_4, xF653_5⟩ := F6.ce6
          obtain ⟨xF653_0f, xF653_1f, xF653_2f, xF653_3f, xF653_4f, xF653_5f⟩ := F6.fr6
          refine wpAnyH_ready (rs := [10]) (by kernel_rfl) (by simp) ?_
          refine AllReadyH.cons rfl (fun K hK => ?_) AllReadyH.nil
          go_simp
          replace E1 := ((((((E1.far 0 (.bool Qn) (Nat.ne_of_lt q_E1_F6.out)).far 1 (.string QS) (Nat.ne_of_lt q_E1_F6.out)).far 2 (.int .i64 Qe) (Nat.ne_of_lt q_E1_F6.out)).far 3 (.bool Qm) (Nat.ne_of_lt q_E1_F6.out)).far 4 (.string QT) (Nat.ne_of_lt q_E1_F6.out)).far 5 (.int .i64 Qf) (Nat.ne_of_lt q_E1_F6.out))
          replace F2 := ((((((F2.far 0 (.bool Qn) (Nat.ne_of_lt q_F2_F6.out)).far 1 (.string QS) (Nat.ne_of_lt q_F2_F6.out)).far 2 (.int .i64 Qe) (Nat.ne_of_lt q_F2_F6.out)).far 3 (.bool Qm) (Nat.ne_of_lt q_F2_F6.out)).far 4 (.string QT) (Nat.ne_of_lt q_F2_F6.out)).far 5 (.int .i64 Qf) (Nat.ne_of_lt q_F2_F6.out))
          replace F4 := ((((((F4.far 0 (.bool Qn) (Nat.ne_of_lt q_F4_F6.out)).far 1 (.string QS) (Nat.ne_of_lt q_F4_F6.out)).far 2 (.int .i64 Qe) (Nat.ne_of_lt q_F4_F6.out)).far 3 (.bool Qm) (Nat.ne_of_lt q_F4_F6.out)).far 4 (.string QT) (Nat.ne_of_lt q_F4_F6.out)).far 5 (.int .i64 Qf) (Nat.ne_of_lt q_F4_F6.out))
          replace F6 : Blk (((((((w21).setCell ⟨wr.heap.size, 0, none⟩ (.bool Qn)).setCell ⟨wr.heap.size, 1, none⟩ (.string QS)).setCell ⟨wr.heap.size, 2, none⟩ (.int .i64 Qe)).setCell ⟨wr.heap.size, 3, none⟩ (.bool Qm)).setCell ⟨wr.heap.size, 4, none⟩ (.string QT)).setCell ⟨wr.heap.size, 5, none⟩ (.int .i64 Qf)) (wr.heap.size) #[.bool Qn, .string QS, .int .i64 Qe, .bool Qm, .string QT, .int .i64 Qf] 49 := ((((((F6.setAt 0 (.bool Qn)).setAt 1 (.string QS)).setAt 2 (.int .i64 Qe)).setAt 3 (.bool Qm)).setAt 4 (.string QT)).setAt 5 (.int .i64 Qf))
          replace B0 := ((((((B0.setCell (p := ⟨wr.heap.size, 0, none⟩) q_w_F6.out (.bool Qn)).setCell (p := ⟨wr.heap.size, 1, none⟩) q_w_F6.out (.string QS)).setCell (p := ⟨wr.heap.size, 2, none⟩) q_w_F6.out (.int .i64 Qe)).setCell (p := ⟨wr.heap.size, 3, none⟩) q_w_F6.out (.bool Qm)).setCell (p := ⟨wr.heap.size, 4, none⟩) q_w_F6.out (.string QT)).setCell (p := ⟨wr.heap.size, 5, none⟩) q_w_F6.out (.int .i64 Qf))
          clear xF453_0 xF453_1 xF453_2 xF453_3 xF453_4 xF453_5 xE153_0 xE153_1 xE153_2 xE153_3 xE153_4 xE153_5 xF653_0 xF653_1 xF653_2 xF653_3 xF653_4 xF653_5 xF653_0f xF653_1f xF653_2f xF653_3f xF653_4f xF653_5f
          obtain ⟨xF454_0, xF454_1, xF454_2, xF454_3, xF454_4, xF454_5⟩ := F4.ce6
          obtain ⟨xE154_0, xE154_1, xE154_2, xE154_3, xE154_4, xE154_5⟩ := E1.ce6
          refine hK.out _ _ ?_ (fun hHeld => ?_)
          · exact ⟨xF454_0, xF454_1, xF454_2, xF454_3, xF454_4, xF454_5, xE154_0, xE154_1, xE154_2, xE154_3, xE154_4, xE154_5⟩
          clear hK K
          (try dsimp only [Act.put]); (try go_frame)
          refine wpAnyH_take (i := 11) (v := _) (by first | (simp only [List.getElem?_toArray, List.getElem?_cons_zero, List.getElem?_cons_succ]; rfl) | rfl) (by kernel_rfl) (by kernel_rfl) (by kernel_rfl) (by exact fun _ _ _ h => h) (Or.inl ⟨by rfl, by (intro w hSw; (try dsimp only at hSw); go_simp; try with_reducible rfl)⟩) (by assumption) ?_
          (try dsimp only [Act.put]); (try go_frame)
          refine wpAnyH_done (by kernel_rfl) ?_ _
          try simp only [QCut]
          clear hHeld
          clear xF454_0 xF454_1 xF454_2 xF454_3 xF454_4 xF454_5 xE154_0 xE154_1 xE154_2 xE154_3 xE154_4 xE154_5
          go_upto_region 7 with fail
          generalize ((((((w21).setCell ⟨wr.heap.size, 0, none⟩ (.bool Qn)).setCell ⟨wr.heap.size, 1, none⟩ (.string QS)).setCell ⟨wr.heap.size, 2, none⟩ (.int .i64 Qe)).setCell ⟨wr.heap.size, 3, none⟩ (.bool Qm)).setCell ⟨wr.heap.size, 4, none⟩ (.string QT)).setCell ⟨wr.heap.size, 5, none⟩ (.int .i64 Qf) = w9 at *
          obtain ⟨xF255_0, xF255_1, xF255_2, xF255_3, xF255_4, xF255_5⟩ := F2.ce6
          obtain ⟨xF255_0f, xF255_1f, xF255_2f, xF255_3f, xF255_4f, xF255_5f⟩ := F2.fr6
          clear E1
          clear F4
          clear F6
          replace F2 : Blk (((((((w9).setCell ⟨w.heap.size, 0, none⟩ (.bool false)).setCell ⟨w.heap.size, 1, none⟩ (.string { data := #[] })).setCell ⟨w.heap.size, 2, none⟩ (.int .i64 0)).setCell ⟨w.heap.size, 3, none⟩ (.bool false)).setCell ⟨w.heap.size, 4, none⟩ (.string { data := #[] })).setCell ⟨w.heap.size, 5, none⟩ (.int .i64 0)) (w.heap.size) #[.bool false, .string { data := #[] }, .int .i64 0, .bool false, .string { data := #[] }, .int .i64 0] 49 := ((((((F2.setAt 0 (.bool false)).setAt 1 (.string { data := #[] })).setAt 2 (.int .i64 0)).setAt 3 (.bool false)).setAt 4 (.string { data := #[] })).setAt 5 (.int .i64 0))
          replace B0 := ((((((B0.setCell (p := ⟨w.heap.size, 0, none⟩) q_w_F2.out (.bool false)).setCell (p := ⟨w.heap.size, 1, none⟩) q_w_F2.out (.string { data := #[] })).setCell (p := ⟨w.heap.size, 2, none⟩) q_w_F2.out (.int .i64 0)).setCell (p := ⟨w.heap.size, 3, none⟩) q_w_F2.out (.bool false)).setCell (p := ⟨w.heap.size, 4, none⟩) q_w_F2.out (.string { data := #[] })).setCell (p := ⟨w.heap.size, 5, none⟩) q_w_F2.out (.int .i64 0))
          obtain ⟨xF256_0, xF256_1, xF256_2, xF256_3, xF256_4, xF256_5⟩ := F2.ce6
          go_wp2
          exact bodyPost_ret (v := .tuple #[.agg #[.bool false, .string { data := #[] }, .int .i64 0, .bool false, .string { data := #[] }, .int .i64 0], .int .i64 Qr]) (by simp [results, Tryd.results89, go_sem, xF256_0, xF256_1, xF256_2, xF256_3, xF256_4, xF256_5]) rfl ⟨congrArg Ending.returned Hv.out, B0⟩
    · obtain rfl : i = n := by omega
      have Hv : Hid (Value.tuple #[.agg #[.bool (gSm D i).1.re.n, .string (bstr (gSm D i).1.re.x), .int .i64 (gSm D i).1.re.e, .bool (gSm D i).1.im.n, .string (bstr (gSm D i).1.im.x), .int .i64 (gSm D i).1.im.e], .int .i64 0] = .tuple #[.agg #[.bool (gSm D i).1.re.n, .string (bstr (gSm D i).1.re.x), .int .i64 (gSm D i).1.re.e, .bool (gSm D i).1.im.n, .string (bstr (gSm D i).1.im.x), .int .i64 (gSm D i).1.im.e], .int .i64 (gSm D i).2]) := Lib.hid (by rw [hP])
      clear hP hin
      obtain ⟨xF450_0, xF450_1, xF450_2, xF450_3, xF450_4, xF450_5⟩ := F4.ce6
      obtain ⟨xF250_0, xF250_1, xF250_2, xF250_3, xF250_4, xF250_5⟩ := F2.ce6
      obtain ⟨xF250_0f, xF250_1f, xF250_2f, xF250_3f, xF250_4f, xF250_5f⟩ := F2.fr6
      replace F4 := ((((((F4.far 0 (.bool (gSm D i).1.re.n) (Nat.ne_of_gt q_F2_F4.out)).far 1 (.string (bstr (gSm D i).1.re.x)) (Nat.ne_of_gt q_F2_F4.out)).far 2 (.int .i64 (gSm D i).1.re.e) (Nat.ne_of_gt q_F2_F4.out)).far 3 (.bool (gSm D i).1.im.n) (Nat.ne_of_gt q_F2_F4.out)).far 4 (.string (bstr (gSm D i).1.im.x)) (Nat.ne_of_gt q_F2_F4.out)).far 5 (.int .i64 (gSm D i).1.im.e) (Nat.ne_of_gt q_F2_F4.out))
      replace F2 : Blk (((((((wr).setCell ⟨w.heap.size, 0, none⟩ (.bool (gSm D i).1.re.n)).setCell ⟨w.heap.size, 1, none⟩ (.string (bstr (gSm D i).1.re.x))).setCell ⟨w.heap.size, 2, none⟩ (.int .i64 (gSm D i).1.re.e)).setCell ⟨w.heap.size, 3, none⟩ (.bool (gSm D i).1.im.n)).setCell ⟨w.heap.size, 4, none⟩ (.string (bstr (gSm D i).1.im.x))).setCell ⟨w.heap.size, 5, none⟩ (.int .i64 (gSm D i).1.im.e)) (w.heap.size) #[.bool (gSm D i).1.re.n, .string (bstr (gSm D i).1.re.x), .int .i64 (gSm D i).1.re.e, .bool (gSm D i).1.im.n, .string (bstr (gSm D i).1.im.x), .int .i64 (gSm D i).1.im.e] 49 := ((((((F2.setAt 0 (.bool (gSm D i).1.re.n)).setAt 1 (.string (bstr (gSm D i).1.re.x))).setAt 2 (.int .i64 (gSm D i).1.re.e)).setAt 3 (.bool (gSm D i).1.im.n)).setAt 4 (.string (bstr (gSm D i).1.im.x))).setAt 5 (.int .i64 (gSm D i).1.im.e))
      replace B0 := ((((((B0.setCell (p := ⟨w.heap.size, 0, none⟩) q_w_F2.out (.bool (gSm D i).1.re.n)).setCell (p := ⟨w.heap.size, 1, none⟩) q_w_F2.out (.string (bstr (gSm D i).1.re.x))).setCell (p := ⟨w.heap.size, 2, none⟩) q_w_F2.out (.int .i64 (gSm D i).1.re.e)).setCell (p := ⟨w.heap.size, 3, none⟩) q_w_F2.out (.bool (gSm D i).1.im.n)).setCell (p := ⟨w.heap.size, 4, none⟩) q_w_F2.out (.string (bstr (gSm D i).1.im.x))).setCell (p := ⟨w.heap.size, 5, none⟩) q_w_F2.out (.int .i64 (gSm D i).1.im.e))
      obtain ⟨xF251_0, xF251_1, xF251_2, xF251_3, xF251_4, xF251_5⟩ := F2.ce6
      go_wp2
      exact bodyPost_ret (v := .tuple #[.agg #[.bool (gSm D i).1.re.n, .string (bstr (gSm D i).1.re.x), .int .i64 (gSm D i).1.re.e, .bool (gSm D i).1.im.n, .string (bstr (gSm D i).1.im.x), .int .i64 (gSm D i).1.im.e], .int .i64 0]) (by simp [results, Tryd.results89, go_sem, xF251_0, xF251_1, xF251_2, xF251_3, xF251_4, xF251_5]) rfl ⟨congrArg Ending.returned Hv.out, B0⟩

end Go.Proofs.YtgcifpjhhoalmaaDoor
