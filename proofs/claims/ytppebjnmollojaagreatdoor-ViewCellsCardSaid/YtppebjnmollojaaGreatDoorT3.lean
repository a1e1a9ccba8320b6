/- Walks of the layer of Gausses, by a program (walk.py): part T3. -/
import Derived.Test.YtppebjnmollojaaGreatDoorT1
namespace Go.Proofs.YtppebjnmollojaaGreatDoor
open Go Go.RowKit Go.PlainAid Fil

set_option maxRecDepth 100000 in
set_option maxHeartbeats 8000000 in
theorem rfind_3 (g : GY) (e : Int) (a : Int) (d : Int) (j : GY) (Cc : Nat) (Rr : Nat) (S : GY × Int) (Y : DY) (P : DY) (Q : DY) (B1 : Bool) (B2 : Bool) (B3 : Bool) (B4 : Bool) (E_S : gSub j g = S) (E_Y : yNeg S.1.im = Y) (E_P : yNeg S.1.re = P) (E_Q : yNeg Y = Q) (E_B1 : decide (yCmp P (mkD a (e - 1)) ≤ 0) = B1) (E_B2 : decide (yCmp Q (mkD d (e - 1)) ≤ 0) = B2) (E_B3 : decide (yCmp S.1.re (mkD a (e - 1)) ≤ 0) = B3) (E_B4 : decide (yCmp Y (mkD d (e - 1)) ≤ 0) = B4) (w : World) (ok_g : g.ok) (ok_j : j.ok) (e1 : -4096 ≤ e) (e2 : e ≤ 4096) (a1 : 1 ≤ a) (a2 : a ≤ 65536) (d1 : 1 ≤ d) (d2 : d ≤ 65536) (h_S : S.2 = 0) (hB1 : B1 = true) (hB2 : B2 = true) (hB3 : B3 = true) (hB4 : B4 = true) (hCc : (Cc : Int) < a) (hRr : (Rr : Int) < d) (hX0 : ∀ k : Nat, k < Cc → decide (yCmp S.1.re (mkD (2 * (k : Int) + 2 - a) (e - 1)) ≤ 0) = false) (hX1 : decide (yCmp S.1.re (mkD (2 * (Cc : Int) + 2 - a) (e - 1)) ≤ 0) = true) (hY0 : ∀ k : Nat, k < Rr → decide (yCmp Y (mkD (2 * (k : Int) + 2 - d) (e - 1)) ≤ 0) = false) (hY1 : decide (yCmp Y (mkD (2 * (Rr : Int) + 2 - d) (e - 1)) ≤ 0) = true) :
    Calls Tryz.prog 16 #[.agg #[.bool g.re.n, .string (bstr g.re.x), .int .i64 g.re.e, .bool g.im.n, .string (bstr g.im.x), .int .i64 g.im.e, .int .i64 e, .int .i64 a, .int .i64 d], .agg #[.bool j.re.n, .string (bstr j.re.x), .int .i64 j.re.e, .bool j.im.n, .string (bstr j.im.x), .int .i64 j.im.e]] w fun r w' => r = .returned (.tuple #[.int .i64 (Cc : Int), .int .i64 (Rr : Int), .int .i64 0]) ∧ Below w.heap.size w w' := by
  have ok_S : S.1.ok := E_S ▸ gSub_ok _ _
  have ok_Y : Y.ok := E_Y ▸ yNeg_ok ok_S.2
  have ok_P : P.ok := E_P ▸ yNeg_ok ok_S.1
  have ok_Q : Q.ok := E_Q ▸ yNeg_ok ok_Y
  have h1 := fun W => qsub j g W ok_j ok_g
  rw [E_S] at h1
  have h2 := fun W => rcneg S.1.im W ok_S.2
  rw [E_Y] at h2
  have h3 := fun W => rcneg S.1.re W ok_S.1
  rw [E_P] at h3
  have h4 := fun W => rcneg Y W ok_Y
  rw [E_Q] at h4
  have b1 := fun W => rbelow P a (e - 1) W ok_P (by omega) (by omega) (by omega) (by omega)
  rw [E_B1] at b1
  have b2 := fun W => rbelow Q d (e - 1) W ok_Q (by omega) (by omega) (by omega) (by omega)
  rw [E_B2] at b2
  have b3 := fun W => rbelow S.1.re a (e - 1) W ok_S.1 (by omega) (by omega) (by omega) (by omega)
  rw [E_B3] at b3
  have b4 := fun W => rbelow Y d (e - 1) W ok_Y (by omega) (by omega) (by omega) (by omega)
  rw [E_B4] at b4
  have HXf : ∀ k : Nat, k < Cc → ∀ W : World, Calls Tryz.prog 57 #[.agg #[.bool S.1.re.n, .string (bstr S.1.re.x), .int .i64 S.1.re.e], .int .i64 (2 * (k : Int) + 2 - a), .int .i64 (e - 1)] W fun r w' => r = .returned (.bool false) ∧ Below W.heap.size W w' := fun k hk W => by
    have h := rbelow S.1.re (2 * (k : Int) + 2 - a) (e - 1) W ok_S.1 (by omega) (by omega) (by omega) (by omega)
    rw [hX0 k hk] at h
    exact h
  have HXt : ∀ W : World, Calls Tryz.prog 57 #[.agg #[.bool S.1.re.n, .string (bstr S.1.re.x), .int .i64 S.1.re.e], .int .i64 (2 * (Cc : Int) + 2 - a), .int .i64 (e - 1)] W fun r w' => r = .returned (.bool true) ∧ Below W.heap.size W w' := fun W => by
    have h := rbelow S.1.re (2 * (Cc : Int) + 2 - a) (e - 1) W ok_S.1 (by omega) (by omega) (by omega) (by omega)
    rw [hX1] at h
    exact h
  have HYf : ∀ k : Nat, k < Rr → ∀ W : World, Calls Tryz.prog 57 #[.agg #[.bool Y.n, .string (bstr Y.x), .int .i64 Y.e], .int .i64 (2 * (k : Int) + 2 - d), .int .i64 (e - 1)] W fun r w' => r = .returned (.bool false) ∧ Below W.heap.size W w' := fun k hk W => by
    have h := rbelow Y (2 * (k : Int) + 2 - d) (e - 1) W ok_Y (by omega) (by omega) (by omega) (by omega)
    rw [hY0 k hk] at h
    exact h
  have HYt : ∀ W : World, Calls Tryz.prog 57 #[.agg #[.bool Y.n, .string (bstr Y.x), .int .i64 Y.e], .int .i64 (2 * (Rr : Int) + 2 - d), .int .i64 (e - 1)] W fun r w' => r = .returned (.bool true) ∧ Below W.heap.size W w' := fun W => by
    have h := rbelow Y (2 * (Rr : Int) + 2 - d) (e - 1) W ok_Y (by omega) (by omega) (by omega) (by omega)
    rw [hY1] at h
    exact h
  subst hB1
  subst hB2
  subst hB3
  subst hB4
  clear hX0 hX1 hY0 hY1
  clear E_S E_Y E_P E_Q E_B1 E_B2 E_B3 E_B4 ok_S ok_Y ok_P ok_Q ok_g ok_j
  obtain ⟨⟨gn, gX, ge⟩, ⟨gm, gY, gf⟩⟩ := g
  obtain ⟨⟨jn, jX, je⟩, ⟨jm, jY, jf⟩⟩ := j
  obtain ⟨⟨⟨Sn, SX, Se⟩, ⟨Sm, SY, Sf⟩⟩, Sr⟩ := S
  obtain ⟨Yn, YX, Ye⟩ := Y
  obtain ⟨Pn, PX, Pe⟩ := P
  obtain ⟨Qn, QX, Qe⟩ := Q
  dsimp only at *
  generalize bstr gX = gS at *
  generalize bstr gY = gT at *
  generalize bstr jX = jS at *
  generalize bstr jY = jT at *
  generalize bstr SX = SS at *
  generalize bstr SY = ST at *
  generalize bstr YX = YS at *
  generalize bstr PX = PS at *
  generalize bstr QX = QS at *
  have hw1 : IntKind.i64.wrap (e - 1) = e - 1 := by rw [IntKind.wrap_i64]; omega
  have hu : (Sr != 0) = false := by simp [h_S]
  clear h_S
  go_enter Tryz.func16, Tryz.ntmps16
  have B0 := Below.refl w.heap.size w
  have F2 := Blk.put (w) #[.bool gn, .string gS, .int .i64 ge, .bool gm, .string gT, .int .i64 gf, .int .i64 e, .int .i64 a, .int .i64 d] 28
  replace B0 := B0.alloc B0.size (.cells #[.bool gn, .string gS, .int .i64 ge, .bool gm, .string gT, .int .i64 gf, .int .i64 e, .int .i64 a, .int .i64 d] 28)
  replace F2 := F2.allocd (.cells #[.bool jn, .string jS, .int .i64 je, .bool jm, .string jT, .int .i64 jf] 26)
  have F3 := Blk.put ((w).alloc (.cells #[.bool gn, .string gS, .int .i64 ge, .bool gm, .string gT, .int .i64 gf, .int .i64 e, .int .i64 a, .int .i64 d] 28)) #[.bool jn, .string jS, .int .i64 je, .bool jm, .string jT, .int .i64 jf] 26
  rw [show ((w).alloc (.cells #[.bool gn, .string gS, .int .i64 ge, .bool gm, .string gT, .int .i64 gf, .int .i64 e, .int .i64 a, .int .i64 d] 28)).heap.size = w.heap.size + 1 by simp] at F3
  replace B0 := B0.alloc B0.size (.cells #[.bool jn, .string jS, .int .i64 je, .bool jm, .string jT, .int .i64 jf] 26)
  obtain ⟨xF30_0, xF30_1, xF30_2, xF30_3, xF30_4, xF30_5⟩ := F3.ce6
  obtain ⟨xF20_0, xF20_1, xF20_2, xF20_3, xF20_4, xF20_5, xF20_6, xF20_7, xF20_8⟩ := F2.ce9
  go_wp2_with fail
  (with_reducible refine (h1 _).mono ?_)
  rintro r w1 ⟨rfl, hb1⟩
  clear xF30_0 xF30_1 xF30_2 xF30_3 xF30_4 xF30_5 xF20_0 xF20_1 xF20_2 xF20_3 xF20_4 xF20_5 xF20_6 xF20_7 xF20_8
  replace F2 := F2.keep hb1
  replace F3 := F3.keep hb1
  replace B0 := B0.trans (hb1.mono B0.size)
  clear hb1
  replace F2 := F2.allocd (.cells #[.bool Sn, .string SS, .int .i64 Se, .bool Sm, .string ST, .int .i64 Sf] 26)
  clear F3
  have F7 := Blk.put (w1) #[.bool Sn, .string SS, .int .i64 Se, .bool Sm, .string ST, .int .i64 Sf] 26
  replace B0 := B0.alloc B0.size (.cells #[.bool Sn, .string SS, .int .i64 Se, .bool Sm, .string ST, .int .i64 Sf] 26)
  go_upto_region 4 with fail
  go_cut [9, 10] (fun s9 s10 wx => ∃ S9 S10, s9 = .pointer (some ⟨S9, 0, none⟩) ∧ s10 = .pointer (some ⟨S10, 0, none⟩) ∧ Blk wx (w.heap.size) #[.bool gn, .string gS, .int .i64 ge, .bool gm, .string gT, .int .i64 gf, .int .i64 e, .int .i64 a, .int .i64 d] 28 ∧ Blk wx S9 #[.bool Sn, .string SS, .int .i64 Se] 24 ∧ Blk wx S10 #[.bool Yn, .string YS, .int .i64 Ye] 24 ∧ Below w.heap.size w wx)
  case first =>
    go_wp2_with fail
    refine wp_region_cut 7 (by kernel_rfl) (by kernel_rfl) ?_
    rintro W rfl
    simp only [List.take_succ_cons, List.take_zero, List.drop_succ_cons, List.drop_zero]
    obtain ⟨xF71_0, xF71_1, xF71_2, xF71_3, xF71_4, xF71_5⟩ := F7.ce6
    have hHeld : (fun w' : World => w'.cell? ⟨w1.heap.size, 0, none⟩ = some (.bool Sn) ∧ w'.cell? ⟨w1.heap.size, 1, none⟩ = some (.string SS) ∧ w'.cell? ⟨w1.heap.size, 2, none⟩ = some (.int .i64 Se) ∧ w'.cell? ⟨w1.heap.size, 3, none⟩ = some (.bool Sm) ∧ w'.cell? ⟨w1.heap.size, 4, none⟩ = some (.string ST) ∧ w'.cell? ⟨w1.heap.size, 5, none⟩ = some (.int .i64 Sf)) ((w1).alloc (.cells #[.bool Sn, .string SS, .int .i64 Se, .bool Sm, .string ST, .int .i64 Sf] 26)).drew := ⟨xF71_0, xF71_1, xF71_2, xF71_3, xF71_4, xF71_5⟩
    refine wpAny_of_held (S := fun w' : World => w'.cell? ⟨w1.heap.size, 0, none⟩ = some (.bool Sn) ∧ w'.cell? ⟨w1.heap.size, 1, none⟩ = some (.string SS) ∧ w'.cell? ⟨w1.heap.size, 2, none⟩ = some (.int .i64 Se) ∧ w'.cell? ⟨w1.heap.size, 3, none⟩ = some (.bool Sm) ∧ w'.cell? ⟨w1.heap.size, 4, none⟩ = some (.string ST) ∧ w'.cell? ⟨w1.heap.size, 5, none⟩ = some (.int .i64 Sf)) _ _ _ ((w1).alloc (.cells #[.bool Sn, .string SS, .int .i64 Se, .bool Sm, .string ST, .int .i64 Sf] 26)).drew ?_
    replace F2 := F2.drew
    replace F7 := F7.drew
    replace B0 := B0.drew
    generalize ((w1).alloc (.cells #[.bool Sn, .string SS, .int .i64 Se, .bool Sm, .string ST, .int .i64 Sf] 26)).drew = v1 at *
    refine wpAnyH_take (i := 0) (v := _) (by first | (simp only [List.getElem?_toArray, List.getElem?_cons_zero]; rfl) | rfl) (by kernel_rfl) (by kernel_rfl) (by kernel_rfl) (by exact fun _ _ _ h => h) (Or.inl ⟨by rfl, by (intro w hSw; (try dsimp only at hSw); go_simp; try with_reducible rfl)⟩) (by assumption) ?_
    (try dsimp only [Act.put]); (try go_frame)
    refine wpAnyH_take (i := 1) (v := _) (by first | (simp only [List.getElem?_toArray, List.getElem?_cons_zero, List.getElem?_cons_succ]; rfl) | rfl) (by kernel_rfl) (by kernel_rfl) (by kernel_rfl) (by exact fun _ _ _ h => h) (Or.inl ⟨by rfl, by (intro w hSw; (try dsimp only at hSw); go_simp; try with_reducible rfl)⟩) (by assumption) ?_
    (try dsimp only [Act.put]); (try go_frame)
    refine wpAnyH_take (i := 2) (v := _) (by first | (simp only [List.getElem?_toArray, List.getElem?_cons_zero, List.getElem?_cons_succ]; rfl) | rfl) (by kernel_rfl) (by kernel_rfl) (by kernel_rfl) (by exact fun _ _ _ h => h) (Or.inl ⟨by rfl, by (intro w hSw; (try dsimp only at hSw); go_simp; try with_reducible rfl)⟩) (by assumption) ?_
    (try dsimp only [Act.put]); (try go_frame)
    refine wpAnyH_take (i := 3) (v := _) (by first | (simp only [List.getElem?_toArray, List.getElem?_cons_zero, List.getElem?_cons_succ]; rfl) | rfl) (by kernel_rfl) (by kernel_rfl) (by kernel_rfl) (by exact fun _ _ _ h => h) (Or.inl ⟨by rfl, by (intro w hSw; (try dsimp only at hSw); go_simp; try with_reducible rfl)⟩) (by assumption) ?_
    (try dsimp only [Act.put]); (try go_frame)
    refine wpAnyH_ready (rs := [4, 5, 6]) (by kernel_rfl) (by simp) ?_
    refine AllReadyH.cons rfl (fun K hK => ?_) (AllReadyH.cons rfl (fun K hK => ?_) (AllReadyH.cons rfl (fun K hK => ?_) AllReadyH.nil))
    · go_simp
      (with_reducible refine (h2 _).mono ?_)
      rintro r w2 ⟨rfl, hb2⟩
      clear xF71_0 xF71_1 xF71_2 xF71_3 xF71_4 xF71_5
      replace F2 := F2.keep hb2
      replace F7 := F7.keep hb2
      replace B0 := B0.trans (hb2.mono B0.size)
      clear hb2
      obtain ⟨xF74_0, xF74_1, xF74_2, xF74_3, xF74_4, xF74_5⟩ := F7.ce6
      refine hK.out _ _ ?_ (fun hHeld => ?_)
      · exact ⟨xF74_0, xF74_1, xF74_2, xF74_3, xF74_4, xF74_5⟩
      clear hK K
      (try dsimp only [Act.put]); (try go_frame)
      refine wpAnyH_ready (rs := [5, 6]) (by kernel_rfl) (by simp) ?_
      refine AllReadyH.cons rfl (fun K hK => ?_) (AllReadyH.cons rfl (fun K hK => ?_) AllReadyH.nil)
      · go_simp
        clear xF74_0 xF74_1 xF74_2 xF74_3 xF74_4 xF74_5
        have q_F2_F9 : Hid (w.heap.size < w2.heap.size) := Lib.hid (by have := F2.lt; first | exact this | omega | (simp; done) | simpa using this)
        have q_F7_F9 : Hid (w1.heap.size < w2.heap.size) := Lib.hid (by have := F7.lt; first | exact this | omega | (simp; done) | simpa using this)
        have q_w_F9 : Hid (w.heap.size ≤ w2.heap.size) := Lib.hid (by have := B0.size; first | exact this | omega | (simp; done) | simpa using this)
        replace F2 := F2.allocd (.cells #[.bool false, .string { data := #[] }, .int .i64 0] 24)
        replace F7 := F7.allocd (.cells #[.bool false, .string { data := #[] }, .int .i64 0] 24)
        have F9 := Blk.put (w2) #[.bool false, .string { data := #[] }, .int .i64 0] 24
        replace B0 := B0.alloc B0.size (.cells #[.bool false, .string { data := #[] }, .int .i64 0] 24)
        obtain ⟨xF75_0, xF75_1, xF75_2, xF75_3, xF75_4, xF75_5⟩ := F7.ce6
        refine hK.out _ _ ?_ (fun hHeld => ?_)
        · exact ⟨xF75_0, xF75_1, xF75_2, xF75_3, xF75_4, xF75_5⟩
        clear hK K
        (try dsimp only [Act.put]); (try go_frame)
        refine wpAnyH_ready (rs := [6]) (by kernel_rfl) (by simp) ?_
        refine AllReadyH.cons rfl (fun K hK => ?_) AllReadyH.nil
        go_simp
        clear xF75_0 xF75_1 xF75_2 xF75_3 xF75_4 xF75_5
        have q_F2_F10 : Hid (w.heap.size < w2.heap.size + 1) := Lib.hid (by have := F2.lt; first | exact this | omega | (simp; done) | simpa using this)
        have q_F7_F10 : Hid (w1.heap.size < w2.heap.size + 1) := Lib.hid (by have := F7.lt; first | exact this | omega | (simp; done) | simpa using this)
        have q_F9_F10 : Hid (w2.heap.size < w2.heap.size + 1) := Lib.hid (by have := F9.lt; first | exact this | omega | (simp; done) | simpa using this)
        have q_w_F10 : Hid (w.heap.size ≤ w2.heap.size + 1) := Lib.hid (by have := B0.size; first | exact this | omega | (simp; done) | simpa using this)
        replace F2 := F2.allocd (.cells #[.bool false, .string { data := #[] }, .int .i64 0] 24)
        replace F7 := F7.allocd (.cells #[.bool false, .string { data := #[] }, .int .i64 0] 24)
        replace F9 := F9.allocd (.cells #[.bool false, .string { data := #[] }, .int .i64 0] 24)
        have F10 := Blk.put ((w2).alloc (.cells #[.bool false, .string { data := #[] }, .int .i64 0] 24)) #[.bool false, .string { data := #[] }, .int .i64 0] 24
        rw [show ((w2).alloc (.cells #[.bool false, .string { data := #[] }, .int .i64 0] 24)).heap.size = w2.heap.size + 1 by simp] at F10
        replace B0 := B0.alloc B0.size (.cells #[.bool false, .string { data := #[] }, .int .i64 0] 24)
        obtain ⟨xF76_0, xF76_1, xF76_2, xF76_3, xF76_4, xF76_5⟩ := F7.ce6
        refine hK.out _ _ ?_ (fun hHeld => ?_)
        · exact ⟨xF76_0, xF76_1, xF76_2, xF76_3, xF76_4, xF76_5⟩
        clear hK K
        (try dsimp only [Act.put]); (try go_frame)
        refine wpAnyH_done (by kernel_rfl) ?_ _
        try simp only [QCut]
        clear hHeld
        clear xF76_0 xF76_1 xF76_2 xF76_3 xF76_4 xF76_5
        generalize ((w2).alloc (.cells #[.bool false, .string { data := #[] }, .int .i64 0] 24)).alloc (.cells #[.bool false, .string { data := #[] }, .int .i64 0] 24) = v2 at *
        obtain ⟨xF97_0, xF97_1, xF97_2⟩ := F9.ce3
        obtain ⟨xF97_0f, xF97_1f, xF97_2f⟩ := F9.fr3
        replace F2 := (((F2.far 0 (.bool Sn) (Nat.ne_of_lt q_F2_F9.out)).far 1 (.string SS) (Nat.ne_of_lt q_F2_F9.out)).far 2 (.int .i64 Se) (Nat.ne_of_lt q_F2_F9.out))
        replace F7 := (((F7.far 0 (.bool Sn) (Nat.ne_of_lt q_F7_F9.out)).far 1 (.string SS) (Nat.ne_of_lt q_F7_F9.out)).far 2 (.int .i64 Se) (Nat.ne_of_lt q_F7_F9.out))
        replace F10 := (((F10.far 0 (.bool Sn) (Nat.ne_of_gt q_F9_F10.out)).far 1 (.string SS) (Nat.ne_of_gt q_F9_F10.out)).far 2 (.int .i64 Se) (Nat.ne_of_gt q_F9_F10.out))
        replace F9 : Blk ((((v2).setCell ⟨w2.heap.size, 0, none⟩ (.bool Sn)).setCell ⟨w2.heap.size, 1, none⟩ (.string SS)).setCell ⟨w2.heap.size, 2, none⟩ (.int .i64 Se)) (w2.heap.size) #[.bool Sn, .string SS, .int .i64 Se] 24 := (((F9.setAt 0 (.bool Sn)).setAt 1 (.string SS)).setAt 2 (.int .i64 Se))
        replace B0 := (((B0.setCell (p := ⟨w2.heap.size, 0, none⟩) q_w_F9.out (.bool Sn)).setCell (p := ⟨w2.heap.size, 1, none⟩) q_w_F9.out (.string SS)).setCell (p := ⟨w2.heap.size, 2, none⟩) q_w_F9.out (.int .i64 Se))
        obtain ⟨xF108_0, xF108_1, xF108_2⟩ := F10.ce3
        obtain ⟨xF108_0f, xF108_1f, xF108_2f⟩ := F10.fr3
        replace F2 := (((F2.far 0 (.bool Yn) (Nat.ne_of_lt q_F2_F10.out)).far 1 (.string YS) (Nat.ne_of_lt q_F2_F10.out)).far 2 (.int .i64 Ye) (Nat.ne_of_lt q_F2_F10.out))
        replace F7 := (((F7.far 0 (.bool Yn) (Nat.ne_of_lt q_F7_F10.out)).far 1 (.string YS) (Nat.ne_of_lt q_F7_F10.out)).far 2 (.int .i64 Ye) (Nat.ne_of_lt q_F7_F10.out))
        replace F9 := (((F9.far 0 (.bool Yn) (Nat.ne_of_lt q_F9_F10.out)).far 1 (.string YS) (Nat.ne_of_lt q_F9_F10.out)).far 2 (.int .i64 Ye) (Nat.ne_of_lt q_F9_F10.out))
        replace F10 : Blk (((((((v2).setCell ⟨w2.heap.size, 0, none⟩ (.bool Sn)).setCell ⟨w2.heap.size, 1, none⟩ (.string SS)).setCell ⟨w2.heap.size, 2, none⟩ (.int .i64 Se)).setCell ⟨w2.heap.size + 1, 0, none⟩ (.bool Yn)).setCell ⟨w2.heap.size + 1, 1, none⟩ (.string YS)).setCell ⟨w2.heap.size + 1, 2, none⟩ (.int .i64 Ye)) (w2.heap.size + 1) #[.bool Yn, .string YS, .int .i64 Ye] 24 := (((F10.setAt 0 (.bool Yn)).setAt 1 (.string YS)).setAt 2 (.int .i64 Ye))
        replace B0 := (((B0.setCell (p := ⟨w2.heap.size + 1, 0, none⟩) q_w_F10.out (.bool Yn)).setCell (p := ⟨w2.heap.size + 1, 1, none⟩) q_w_F10.out (.string YS)).setCell (p := ⟨w2.heap.size + 1, 2, none⟩) q_w_F10.out (.int .i64 Ye))
        go_wp2_with fail
        go_meet
        exact ⟨_, _, by first | rfl | simp, by first | rfl | simp, F2, F9, F10, B0⟩
      · go_simp
        clear xF74_0 xF74_1 xF74_2 xF74_3 xF74_4 xF74_5
        have q_F2_F10 : Hid (w.heap.size < w2.heap.size) := Lib.hid (by have := F2.lt; first | exact this | omega | (simp; done) | simpa using this)
        have q_F7_F10 : Hid (w1.heap.size < w2.heap.size) := Lib.hid (by have := F7.lt; first | exact this | omega | (simp; done) | simpa using this)
        have q_w_F10 : Hid (w.heap.size ≤ w2.heap.size) := Lib.hid (by have := B0.size; first | exact this | omega | (simp; done) | simpa using this)
        replace F2 := F2.allocd (.cells #[.bool false, .string { data := #[] }, .int .i64 0] 24)
        replace F7 := F7.allocd (.cells #[.bool false, .string { data := #[] }, .int .i64 0] 24)
        have F10 := Blk.put (w2) #[.bool false, .string { data := #[] }, .int .i64 0] 24
        replace B0 := B0.alloc B0.size (.cells #[.bool false, .string { data := #[] }, .int .i64 0] 24)
        obtain ⟨xF75_0, xF75_1, xF75_2, xF75_3, xF75_4, xF75_5⟩ := F7.ce6
        refine hK.out _ _ ?_ (fun hHeld => ?_)
        · exact ⟨xF75_0, xF75_1, xF75_2, xF75_3, xF75_4, xF75_5⟩
        clear hK K
        (try dsimp only [Act.put]); (try go_frame)
        refine wpAnyH_ready (rs := [5]) (by kernel_rfl) (by simp) ?_
        refine AllReadyH.cons rfl (fun K hK => ?_) AllReadyH.nil
        go_simp
        clear xF75_0 xF75_1 xF75_2 xF75_3 xF75_4 xF75_5
        have q_F2_F9 : Hid (w.heap.size < w2.heap.size + 1) := Lib.hid (by have := F2.lt; first | exact this | omega | (simp; done) | simpa using this)
        have q_F7_F9 : Hid (w1.heap.size < w2.heap.size + 1) := Lib.hid (by have := F7.lt; first | exact this | omega | (simp; done) | simpa using this)
        have q_F10_F9 : Hid (w2.heap.size < w2.heap.size + 1) := Lib.hid (by have := F10.lt; first | exact this | omega | (simp; done) | simpa using this)
        have q_w_F9 : Hid (w.heap.size ≤ w2.heap.size + 1) := Lib.hid (by have := B0.size; first | exact this | omega | (simp; done) | simpa using this)
        replace F2 := F2.allocd (.cells #[.bool false, .string { data := #[] }, .int .i64 0] 24)
        replace F7 := F7.allocd (.cells #[.bool false, .string { data := #[] }, .int .i64 0] 24)
        replace F10 := F10.allocd (.cells #[.bool false, .string { data := #[] }, .int .i64 0] 24)
        have F9 := Blk.put ((w2).alloc (.cells #[.bool false, .string { data := #[] }, .int .i64 0] 24)) #[.bool false, .string { data := #[] }, .int .i64 0] 24
        rw [show ((w2).alloc (.cells #[.bool false, .string { data := #[] }, .int .i64 0] 24)).heap.size = w2.heap.size + 1 by simp] at F9
        replace B0 := B0.alloc B0.size (.cells #[.bool false, .string { data := #[] }, .int .i64 0] 24)
        obtain ⟨xF76_0, xF76_1, xF76_2, xF76_3, xF76_4, xF76_5⟩ := F7.ce6
        refine hK.out _ _ ?_ (fun hHeld => ?_)
        · exact ⟨xF76_0, xF76_1, xF76_2, xF76_3, xF76_4, xF76_5⟩
        clear hK K
        (try dsimp only [Act.put]); (try go_frame)
        refine wpAnyH_done (by kernel_rfl) ?_ _
        try simp only [QCut]
        clear hHeld
        clear xF76_0 xF76_1 xF76_2 xF76_3 xF76_4 xF76_5
        generalize ((w2).alloc (.cells #[.bool false, .string { data := #[] }, .int .i64 0] 24)).alloc (.cells #[.bool false, .string { data := #[] }, .int .i64 0] 24) = v2 at *
        obtain ⟨xF97_0, xF97_1, xF97_2⟩ := F9.ce3
        obtain ⟨xF97_0f, xF97_1f, xF97_2f⟩ := F9.fr3
        replace F2 := (((F2.far 0 (.bool Sn) (Nat.ne_of_lt q_F2_F9.out)).far 1 (.string SS) (Nat.ne_of_lt q_F2_F9.out)).far 2 (.int .i64 Se) (Nat.ne_of_lt q_F2_F9.out))
        replace F7 := (((F7.far 0 (.bool Sn) (Nat.ne_of_lt q_F7_F9.out)).far 1 (.string SS) (Nat.ne_of_lt q_F7_F9.out)).far 2 (.int .i64 Se) (Nat.ne_of_lt q_F7_F9.out))
        replace F10 := (((F10.far 0 (.bool Sn) (Nat.ne_of_lt q_F10_F9.out)).far 1 (.string SS) (Nat.ne_of_lt q_F10_F9.out)).far 2 (.int .i64 Se) (Nat.ne_of_lt q_F10_F9.out))
        replace F9 : Blk ((((v2).setCell ⟨w2.heap.size + 1, 0, none⟩ (.bool Sn)).setCell ⟨w2.heap.size + 1, 1, none⟩ (.string SS)).setCell ⟨w2.heap.size + 1, 2, none⟩ (.int .i64 Se)) (w2.heap.size + 1) #[.bool Sn, .string SS, .int .i64 Se] 24 := (((F9.setAt 0 (.bool Sn)).setAt 1 (.string SS)).setAt 2 (.int .i64 Se))
        replace B0 := (((B0.setCell (p := ⟨w2.heap.size + 1, 0, none⟩) q_w_F9.out (.bool Sn)).setCell (p := ⟨w2.heap.size + 1, 1, none⟩) q_w_F9.out (.string SS)).setCell (p := ⟨w2.heap.size + 1, 2, none⟩) q_w_F9.out (.int .i64 Se))
        obtain ⟨xF108_0, xF108_1, xF108_2⟩ := F10.ce3
        obtain ⟨xF108_0f, xF108_1f, xF108_2f⟩ := F10.fr3
        replace F2 := (((F2.far 0 (.bool Yn) (Nat.ne_of_lt q_F2_F10.out)).far 1 (.string YS) (Nat.ne_of_lt q_F2_F10.out)).far 2 (.int .i64 Ye) (Nat.ne_of_lt q_F2_F10.out))
        replace F7 := (((F7.far 0 (.bool Yn) (Nat.ne_of_lt q_F7_F10.out)).far 1 (.string YS) (Nat.ne_of_lt q_F7_F10.out)).far 2 (.int .i64 Ye) (Nat.ne_of_lt q_F7_F10.out))
        replace F9 := (((F9.far 0 (.bool Yn) (Nat.ne_of_gt q_F10_F9.out)).far 1 (.string YS) (Nat.ne_of_gt q_F10_F9.out)).far 2 (.int .i64 Ye) (Nat.ne_of_gt q_F10_F9.out))
        replace F10 : Blk (((((((v2).setCell ⟨w2.heap.size + 1, 0, none⟩ (.bool Sn)).setCell ⟨w2.heap.size + 1, 1, none⟩ (.string SS)).setCell ⟨w2.heap.size + 1, 2, none⟩ (.int .i64 Se)).setCell ⟨w2.heap.size, 0, none⟩ (.bool Yn)).setCell ⟨w2.heap.size, 1, none⟩ (.string YS)).setCell ⟨w2.heap.size, 2, none⟩ (.int .i64 Ye)) (w2.heap.size) #[.bool Yn, .string YS, .int .i64 Ye] 24 := (((F10.setAt 0 (.bool Yn)).setAt 1 (.string YS)).setAt 2 (.int .i64 Ye))
        replace B0 := (((B0.setCell (p := ⟨w2.heap.size, 0, none⟩) q_w_F10.out (.bool Yn)).setCell (p := ⟨w2.heap.size, 1, none⟩) q_w_F10.out (.string YS)).setCell (p := ⟨w2.heap.size, 2, none⟩) q_w_F10.out (.int .i64 Ye))
        go_wp2_with fail
        go_meet
        exact ⟨_, _, by first | rfl | simp, by first | rfl | simp, F2, F9, F10, B0⟩
    · go_simp
      clear xF71_0 xF71_1 xF71_2 xF71_3 xF71_4 xF71_5
      have q_F2_F9 : Hid (w.heap.size < v1.heap.size) := Lib.hid (by have := F2.lt; first | exact this | omega | (simp; done) | simpa using this)
      have q_F7_F9 : Hid (w1.heap.size < v1.heap.size) := Lib.hid (by have := F7.lt; first | exact this | omega | (simp; done) | simpa using this)
      have q_w_F9 : Hid (w.heap.size ≤ v1.heap.size) := Lib.hid (by have := B0.size; first | exact this | omega | (simp; done) | simpa using this)
      replace F2 := F2.allocd (.cells #[.bool false, .string { data := #[] }, .int .i64 0] 24)
      replace F7 := F7.allocd (.cells #[.bool false, .string { data := #[] }, .int .i64 0] 24)
      have F9 := Blk.put (v1) #[.bool false, .string { data := #[] }, .int .i64 0] 24
      replace B0 := B0.alloc B0.size (.cells #[.bool false, .string { data := #[] }, .int .i64 0] 24)
      obtain ⟨xF74_0, xF74_1, xF74_2, xF74_3, xF74_4, xF74_5⟩ := F7.ce6
      refine hK.out _ _ ?_ (fun hHeld => ?_)
      · exact ⟨xF74_0, xF74_1, xF74_2, xF74_3, xF74_4, xF74_5⟩
      clear hK K
      (try dsimp only [Act.put]); (try go_frame)
      refine wpAnyH_ready (rs := [4, 6]) (by kernel_rfl) (by simp) ?_
      refine AllReadyH.cons rfl (fun K hK => ?_) (AllReadyH.cons rfl (fun K hK => ?_) AllReadyH.nil)
      · go_simp
        (with_reducible refine (h2 _).mono ?_)
        rintro r w2 ⟨rfl, hb2⟩
        clear xF74_0 xF74_1 xF74_2 xF74_3 xF74_4 xF74_5
        replace F2 := F2.keep hb2
        replace F7 := F7.keep hb2
        replace F9 := F9.keep hb2
        replace B0 := B0.trans (hb2.mono B0.size)
        clear hb2
        obtain ⟨xF75_0, xF75_1, xF75_2, xF75_3, xF75_4, xF75_5⟩ := F7.ce6
        refine hK.out _ _ ?_ (fun hHeld => ?_)
        · exact ⟨xF75_0, xF75_1, xF75_2, xF75_3, xF75_4, xF75_5⟩
        clear hK K
        (try dsimp only [Act.put]); (try go_frame)
        refine wpAnyH_ready (rs := [6]) (by kernel_rfl) (by simp) ?_
        refine AllReadyH.cons rfl (fun K hK => ?_) AllReadyH.nil
        go_simp
        clear xF75_0 xF75_1 xF75_2 xF75_3 xF75_4 xF75_5
        have q_F2_F10 : Hid (w.heap.size < w2.heap.size) := Lib.hid (by have := F2.lt; first | exact this | omega | (simp; done) | simpa using this)
        have q_F7_F10 : Hid (w1.heap.size < w2.heap.size) := Lib.hid (by have := F7.lt; first | exact this | omega | (simp; done) | simpa using this)
        have q_F9_F10 : Hid (v1.heap.size < w2.heap.size) := Lib.hid (by have := F9.lt; first | exact this | omega | (simp; done) | simpa using this)
        have q_w_F10 : Hid (w.heap.size ≤ w2.heap.size) := Lib.hid (by have := B0.size; first | exact this | omega | (simp; done) | simpa using this)
        replace F2 := F2.allocd (.cells #[.bool false, .string { data := #[] }, .int .i64 0] 24)
        replace F7 := F7.allocd (.cells #[.bool false, .string { data := #[] }, .int .i64 0] 24)
        replace F9 := F9.allocd (.cells #[.bool false, .string { data := #[] }, .int .i64 0] 24)
        have F10 := Blk.put (w2) #[.bool false, .string { data := #[] }, .int .i64 0] 24
        replace B0 := B0.alloc B0.size (.cells #[.bool false, .string { data := #[] }, .int .i64 0] 24)
        obtain ⟨xF76_0, xF76_1, xF76_2, xF76_3, xF76_4, xF76_5⟩ := F7.ce6
        refine hK.out _ _ ?_ (fun hHeld => ?_)
        · exact ⟨xF76_0, xF76_1, xF76_2, xF76_3, xF76_4, xF76_5⟩
        clear hK K
        (try dsimp only [Act.put]); (try go_frame)
        refine wpAnyH_done (by kernel_rfl) ?_ _
        try simp only [QCut]
        clear hHeld
        clear xF76_0 xF76_1 xF76_2 xF76_3 xF76_4 xF76_5
        generalize (w2).alloc (.cells #[.bool false, .string { data := #[] }, .int .i64 0] 24) = v2 at *
        obtain ⟨xF97_0, xF97_1, xF97_2⟩ := F9.ce3
        obtain ⟨xF97_0f, xF97_1f, xF97_2f⟩ := F9.fr3
        replace F2 := (((F2.far 0 (.bool Sn) (Nat.ne_of_lt q_F2_F9.out)).far 1 (.string SS) (Nat.ne_of_lt q_F2_F9.out)).far 2 (.int .i64 Se) (Nat.ne_of_lt q_F2_F9.out))
        replace F7 := (((F7.far 0 (.bool Sn) (Nat.ne_of_lt q_F7_F9.out)).far 1 (.string SS) (Nat.ne_of_lt q_F7_F9.out)).far 2 (.int .i64 Se) (Nat.ne_of_lt q_F7_F9.out))
        replace F10 := (((F10.far 0 (.bool Sn) (Nat.ne_of_gt q_F9_F10.out)).far 1 (.string SS) (Nat.ne_of_gt q_F9_F10.out)).far 2 (.int .i64 Se) (Nat.ne_of_gt q_F9_F10.out))
        replace F9 : Blk ((((v2).setCell ⟨v1.heap.size, 0, none⟩ (.bool Sn)).setCell ⟨v1.heap.size, 1, none⟩ (.string SS)).setCell ⟨v1.heap.size, 2, none⟩ (.int .i64 Se)) (v1.heap.size) #[.bool Sn, .string SS, .int .i64 Se] 24 := (((F9.setAt 0 (.bool Sn)).setAt 1 (.string SS)).setAt 2 (.int .i64 Se))
        replace B0 := (((B0.setCell (p := ⟨v1.heap.size, 0, none⟩) q_w_F9.out (.bool Sn)).setCell (p := ⟨v1.heap.size, 1, none⟩) q_w_F9.out (.string SS)).setCell (p := ⟨v1.heap.size, 2, none⟩) q_w_F9.out (.int .i64 Se))
        obtain ⟨xF108_0, xF108_1, xF108_2⟩ := F10.ce3
        obtain ⟨xF108_0f, xF108_1f, xF108_2f⟩ := F10.fr3
        replace F2 := (((F2.far 0 (.bool Yn) (Nat.ne_of_lt q_F2_F10.out)).far 1 (.string YS) (Nat.ne_of_lt q_F2_F10.out)).far 2 (.int .i64 Ye) (Nat.ne_of_lt q_F2_F10.out))
        replace F7 := (((F7.far 0 (.bool Yn) (Nat.ne_of_lt q_F7_F10.out)).far 1 (.string YS) (Nat.ne_of_lt q_F7_F10.out)).far 2 (.int .i64 Ye) (Nat.ne_of_lt q_F7_F10.out))
        replace F9 := (((F9.far 0 (.bool Yn) (Nat.ne_of_lt q_F9_F10.out)).far 1 (.string YS) (Nat.ne_of_lt q_F9_F10.out)).far 2 (.int .i64 Ye) (Nat.ne_of_lt q_F9_F10.out))
        replace F10 : Blk (((((((v2).setCell ⟨v1.heap.size, 0, none⟩ (.bool Sn)).setCell ⟨v1.heap.size, 1, none⟩ (.string SS)).setCell ⟨v1.heap.size, 2, none⟩ (.int .i64 Se)).setCell ⟨w2.heap.size, 0, none⟩ (.bool Yn)).setCell ⟨w2.heap.size, 1, none⟩ (.string YS)).setCell ⟨w2.heap.size, 2, none⟩ (.int .i64 Ye)) (w2.heap.size) #[.bool Yn, .string YS, .int .i64 Ye] 24 := (((F10.setAt 0 (.bool Yn)).setAt 1 (.string YS)).setAt 2 (.int .i64 Ye))
        replace B0 := (((B0.setCell (p := ⟨w2.heap.size, 0, none⟩) q_w_F10.out (.bool Yn)).setCell (p := ⟨w2.heap.size, 1, none⟩) q_w_F10.out (.string YS)).setCell (p := ⟨w2.heap.size, 2, none⟩) q_w_F10.out (.int .i64 Ye))
        go_wp2_with fail
        go_meet
        exact ⟨_, _, by first | rfl | simp, by first | rfl | simp, F2, F9, F10, B0⟩
      · go_simp
        clear xF74_0 xF74_1 xF74_2 xF74_3 xF74_4 xF74_5
        have q_F2_F10 : Hid (w.heap.size < v1.heap.size + 1) := Lib.hid (by have := F2.lt; first | exact this | omega | (simp; done) | simpa using this)
        have q_F7_F10 : Hid (w1.heap.size < v1.heap.size + 1) := Lib.hid (by have := F7.lt; first | exact this | omega | (simp; done) | simpa using this)
        have q_F9_F10 : Hid (v1.heap.size < v1.heap.size + 1) := Lib.hid (by have := F9.lt; first | exact this | omega | (simp; done) | simpa using this)
        have q_w_F10 : Hid (w.heap.size ≤ v1.heap.size + 1) := Lib.hid (by have := B0.size; first | exact this | omega | (simp; done) | simpa using this)
        replace F2 := F2.allocd (.cells #[.bool false, .string { data := #[] }, .int .i64 0] 24)
        replace F7 := F7.allocd (.cells #[.bool false, .string { data := #[] }, .int .i64 0] 24)
        replace F9 := F9.allocd (.cells #[.bool false, .string { data := #[] }, .int .i64 0] 24)
        have F10 := Blk.put ((v1).alloc (.cells #[.bool false, .string { data := #[] }, .int .i64 0] 24)) #[.bool false, .string { data := #[] }, .int .i64 0] 24
        rw [show ((v1).alloc (.cells #[.bool false, .string { data := #[] }, .int .i64 0] 24)).heap.size = v1.heap.size + 1 by simp] at F10
        replace B0 := B0.alloc B0.size (.cells #[.bool false, .string { data := #[] }, .int .i64 0] 24)
        obtain ⟨xF75_0, xF75_1, xF75_2, xF75_3, xF75_4, xF75_5⟩ := F7.ce6
        refine hK.out _ _ ?_ (fun hHeld => ?_)
        · exact ⟨xF75_0, xF75_1, xF75_2, xF75_3, xF75_4, xF75_5⟩
        clear hK K
        (try dsimp only [Act.put]); (try go_frame)
        refine wpAnyH_ready (rs := [4]) (by kernel_rfl) (by simp) ?_
        refine AllReadyH.cons rfl (fun K hK => ?_) AllReadyH.nil
        go_simp
        (with_reducible refine (h2 _).mono ?_)
        rintro r w2 ⟨rfl, hb2⟩
        clear xF75_0 xF75_1 xF75_2 xF75_3 xF75_4 xF75_5
        replace F2 := F2.keep hb2
        replace F7 := F7.keep hb2
        replace F9 := F9.keep hb2
        replace F10 := F10.keep hb2
        replace B0 := B0.trans (hb2.mono B0.size)
        clear hb2
        obtain ⟨xF76_0, xF76_1, xF76_2, xF76_3, xF76_4, xF76_5⟩ := F7.ce6
        refine hK.out _ _ ?_ (fun hHeld => ?_)
        · exact ⟨xF76_0, xF76_1, xF76_2, xF76_3, xF76_4, xF76_5⟩
        clear hK K
        (try dsimp only [Act.put]); (try go_frame)
        refine wpAnyH_done (by kernel_rfl) ?_ _
        try simp only [QCut]
        clear hHeld
        clear xF76_0 xF76_1 xF76_2 xF76_3 xF76_4 xF76_5
        generalize w2 = v2 at *
        obtain ⟨xF97_0, xF97_1, xF97_2⟩ := F9.ce3
        obtain ⟨xF97_0f, xF97_1f, xF97_2f⟩ := F9.fr3
        replace F2 := (((F2.far 0 (.bool Sn) (Nat.ne_of_lt q_F2_F9.out)).far 1 (.string SS) (Nat.ne_of_lt q_F2_F9.out)).far 2 (.int .i64 Se) (Nat.ne_of_lt q_F2_F9.out))
        clear F7
        replace F10 := (((F10.far 0 (.bool Sn) (Nat.ne_of_gt q_F9_F10.out)).far 1 (.string SS) (Nat.ne_of_gt q_F9_F10.out)).far 2 (.int .i64 Se) (Nat.ne_of_gt q_F9_F10.out))
        replace F9 : Blk ((((v2).setCell ⟨v1.heap.size, 0, none⟩ (.bool Sn)).setCell ⟨v1.heap.size, 1, none⟩ (.string SS)).setCell ⟨v1.heap.size, 2, none⟩ (.int .i64 Se)) (v1.heap.size) #[.bool Sn, .string SS, .int .i64 Se] 24 := (((F9.setAt 0 (.bool Sn)).setAt 1 (.string SS)).setAt 2 (.int .i64 Se))
        replace B0 := (((B0.setCell (p := ⟨v1.heap.size, 0, none⟩) q_w_F9.out (.bool Sn)).setCell (p := ⟨v1.heap.size, 1, none⟩) q_w_F9.out (.string SS)).setCell (p := ⟨v1.heap.size, 2, none⟩) q_w_F9.out (.int .i64 Se))
        obtain ⟨xF108_0, xF108_1, xF108_2⟩ := F10.ce3
        obtain ⟨xF108_0f, xF108_1f, xF108_2f⟩ := F10.fr3
        replace F2 := (((F2.far 0 (.bool Yn) (Nat.ne_of_lt q_F2_F10.out)).far 1 (.string YS) (Nat.ne_of_lt q_F2_F10.out)).far 2 (.int .i64 Ye) (Nat.ne_of_lt q_F2_F10.out))
        replace F9 := (((F9.far 0 (.bool Yn) (Nat.ne_of_lt q_F9_F10.out)).far 1 (.string YS) (Nat.ne_of_lt q_F9_F10.out)).far 2 (.int .i64 Ye) (Nat.ne_of_lt q_F9_F10.out))
        replace F10 : Blk (((((((v2).setCell ⟨v1.heap.size, 0, none⟩ (.bool Sn)).setCell ⟨v1.heap.size, 1, none⟩ (.string SS)).setCell ⟨v1.heap.size, 2, none⟩ (.int .i64 Se)).setCell ⟨v1.heap.size + 1, 0, none⟩ (.bool Yn)).setCell ⟨v1.heap.size + 1, 1, none⟩ (.string YS)).setCell ⟨v1.heap.size + 1, 2, none⟩ (.int .i64 Ye)) (v1.heap.size + 1) #[.bool Yn, .string YS, .int .i64 Ye] 24 := (((F10.setAt 0 (.bool Yn)).setAt 1 (.string YS)).setAt 2 (.int .i64 Ye))
        replace B0 := (((B0.setCell (p := ⟨v1.heap.size + 1, 0, none⟩) q_w_F10.out (.bool Yn)).setCell (p := ⟨v1.heap.size + 1, 1, none⟩) q_w_F10.out (.string YS)).setCell (p := ⟨v1.heap.size + 1, 2, none⟩) q_w_F10.out (.int .i64 Ye))
        go_wp2_with fail
        go_meet
        exact ⟨_, _, by first | rfl | simp, by first | rfl | simp, F2, F9, F10, B0⟩
    · go_simp
      clear xF71_0 xF71_1 xF71_2 xF71_3 xF71_4 xF71_5
      have q_F2_F10 : Hid (w.heap.size < v1.heap.size) := Lib.hid (by have := F2.lt; first | exact this | omega | (simp; done) | simpa using this)
      have q_F7_F10 : Hid (w1.heap.size < v1.heap.size) := Lib.hid (by have := F7.lt; first | exact this | omega | (simp; done) | simpa using this)
      have q_w_F10 : Hid (w.heap.size ≤ v1.heap.size) := Lib.hid (by have := B0.size; first | exact this | omega | (simp; done) | simpa using this)
      replace F2 := F2.allocd (.cells #[.bool false, .string { data := #[] }, .int .i64 0] 24)
      replace F7 := F7.allocd (.cells #[.bool false, .string { data := #[] }, .int .i64 0] 24)
      have F10 := Blk.put (v1) #[.bool false, .string { data := #[] }, .int .i64 0] 24
      replace B0 := B0.alloc B0.size (.cells #[.bool false, .string { data := #[] }, .int .i64 0] 24)
      obtain ⟨xF74_0, xF74_1, xF74_2, xF74_3, xF74_4, xF74_5⟩ := F7.ce6
      refine hK.out _ _ ?_ (fun hHeld => ?_)
      · exact ⟨xF74_0, xF74_1, xF74_2, xF74_3, xF74_4, xF74_5⟩
      clear hK K
      (try dsimp only [Act.put]); (try go_frame)
      refine wpAnyH_ready (rs := [4, 5]) (by kernel_rfl) (by simp) ?_
      refine AllReadyH.cons rfl (fun K hK => ?_) (AllReadyH.cons rfl (fun K hK => ?_) AllReadyH.nil)
      · go_simp
        (with_reducible refine (h2 _).mono ?_)
        rintro r w2 ⟨rfl, hb2⟩
        clear xF74_0 xF74_1 xF74_2 xF74_3 xF74_4 xF74_5
        replace F2 := F2.keep hb2
        replace F7 := F7.keep hb2
        replace F10 := F10.keep hb2
        replace B0 := B0.trans (hb2.mono B0.size)
        clear hb2
        obtain ⟨xF75_0, xF75_1, xF75_2, xF75_3, xF75_4, xF75_5⟩ := F7.ce6
        refine hK.out _ _ ?_ (fun hHeld => ?_)
        · exact ⟨xF75_0, xF75_1, xF75_2, xF75_3, xF75_4, xF75_5⟩
        clear hK K
        (try dsimp only [Act.put]); (try go_frame)
        refine wpAnyH_ready (rs := [5]) (by kernel_rfl) (by simp) ?_
        refine AllReadyH.cons rfl (fun K hK => ?_) AllReadyH.nil
        go_simp
        clear xF75_0 xF75_1 xF75_2 xF75_3 xF75_4 xF75_5
        have q_F2_F9 : Hid (w.heap.size < w2.heap.size) := Lib.hid (by have := F2.lt; first | exact this | omega | (simp; done) | simpa using this)
        have q_F7_F9 : Hid (w1.heap.size < w2.heap.size) := Lib.hid (by have := F7.lt; first | exact this | omega | (simp; done) | simpa using this)
        have q_F10_F9 : Hid (v1.heap.size < w2.heap.size) := Lib.hid (by have := F10.lt; first | exact this | omega | (simp; done) | simpa using this)
        have q_w_F9 : Hid (w.heap.size ≤ w2.heap.size) := Lib.hid (by have := B0.size; first | exact this | omega | (simp; done) | simpa using this)
        replace F2 := F2.allocd (.cells #[.bool false, .string { data := #[] }, .int .i64 0] 24)
        replace F7 := F7.allocd (.cells #[.bool false, .string { data := #[] }, .int .i64 0] 24)
        replace F10 := F10.allocd (.cells #[.bool false, .string { data := #[] }, .int .i64 0] 24)
        have F9 := Blk.put (w2) #[.bool false, .string { data := #[] }, .int .i64 0] 24
        replace B0 := B0.alloc B0.size (.cells #[.bool false, .string { data := #[] }, .int .i64 0] 24)
        obtain ⟨xF76_0, xF76_1, xF76_2, xF76_3, xF76_4, xF76_5⟩ := F7.ce6
        refine hK.out _ _ ?_ (fun hHeld => ?_)
        · exact ⟨xF76_0, xF76_1, xF76_2, xF76_3, xF76_4, xF76_5⟩
        clear hK K
        (try dsimp only [Act.put]); (try go_frame)
        refine wpAnyH_done (by kernel_rfl) ?_ _
        try simp only [QCut]
        clear hHeld
        clear xF76_0 xF76_1 xF76_2 xF76_3 xF76_4 xF76_5
        generalize (w2).alloc (.cells #[.bool false, .string { data := #[] }, .int .i64 0] 24) = v2 at *
        obtain ⟨xF97_0, xF97_1, xF97_2⟩ := F9.ce3
        obtain ⟨xF97_0f, xF97_1f, xF97_2f⟩ := F9.fr3
        replace F2 := (((F2.far 0 (.bool Sn) (Nat.ne_of_lt q_F2_F9.out)).far 1 (.string SS) (Nat.ne_of_lt q_F2_F9.out)).far 2 (.int .i64 Se) (Nat.ne_of_lt q_F2_F9.out))
        replace F7 := (((F7.far 0 (.bool Sn) (Nat.ne_of_lt q_F7_F9.out)).far 1 (.string SS) (Nat.ne_of_lt q_F7_F9.out)).far 2 (.int .i64 Se) (Nat.ne_of_lt q_F7_F9.out))
        replace F10 := (((F10.far 0 (.bool Sn) (Nat.ne_of_lt q_F10_F9.out)).far 1 (.string SS) (Nat.ne_of_lt q_F10_F9.out)).far 2 (.int .i64 Se) (Nat.ne_of_lt q_F10_F9.out))
        replace F9 : Blk ((((v2).setCell ⟨w2.heap.size, 0, none⟩ (.bool Sn)).setCell ⟨w2.heap.size, 1, none⟩ (.string SS)).setCell ⟨w2.heap.size, 2, none⟩ (.int .i64 Se)) (w2.heap.size) #[.bool Sn, .string SS, .int .i64 Se] 24 := (((F9.setAt 0 (.bool Sn)).setAt 1 (.string SS)).setAt 2 (.int .i64 Se))
        replace B0 := (((B0.setCell (p := ⟨w2.heap.size, 0, none⟩) q_w_F9.out (.bool Sn)).setCell (p := ⟨w2.heap.size, 1, none⟩) q_w_F9.out (.string SS)).setCell (p := ⟨w2.heap.size, 2, none⟩) q_w_F9.out (.int .i64 Se))
        obtain ⟨xF108_0, xF108_1, xF108_2⟩ := F10.ce3
        obtain ⟨xF108_0f, xF108_1f, xF108_2f⟩ := F10.fr3
        replace F2 := (((F2.far 0 (.bool Yn) (Nat.ne_of_lt q_F2_F10.out)).far 1 (.string YS) (Nat.ne_of_lt q_F2_F10.out)).far 2 (.int .i64 Ye) (Nat.ne_of_lt q_F2_F10.out))
        replace F7 := (((F7.far 0 (.bool Yn) (Nat.ne_of_lt q_F7_F10.out)).far 1 (.string YS) (Nat.ne_of_lt q_F7_F10.out)).far 2 (.int .i64 Ye) (Nat.ne_of_lt q_F7_F10.out))
        replace F9 := (((F9.far 0 (.bool Yn) (Nat.ne_of_gt q_F10_F9.out)).far 1 (.string YS) (Nat.ne_of_gt q_F10_F9.out)).far 2 (.int .i64 Ye) (Nat.ne_of_gt q_F10_F9.out))
        replace F10 : Blk (((((((v2).setCell ⟨w2.heap.size, 0, none⟩ (.bool Sn)).setCell ⟨w2.heap.size, 1, none⟩ (.string SS)).setCell ⟨w2.heap.size, 2, none⟩ (.int .i64 Se)).setCell ⟨v1.heap.size, 0, none⟩ (.bool Yn)).setCell ⟨v1.heap.size, 1, none⟩ (.string YS)).setCell ⟨v1.heap.size, 2, none⟩ (.int .i64 Ye)) (v1.heap.size) #[.bool Yn, .string YS, .int .i64 Ye] 24 := (((F10.setAt 0 (.bool Yn)).setAt 1 (.string YS)).setAt 2 (.int .i64 Ye))
        replace B0 := (((B0.setCell (p := ⟨v1.heap.size, 0, none⟩) q_w_F10.out (.bool Yn)).setCell (p := ⟨v1.heap.size, 1, none⟩) q_w_F10.out (.string YS)).setCell (p := ⟨v1.heap.size, 2, none⟩) q_w_F10.out (.int .i64 Ye))
        go_wp2_with fail
        go_meet
        exact ⟨_, _, by first | rfl | simp, by first | rfl | simp, F2, F9, F10, B0⟩
      · go_simp
        clear xF74_0 xF74_1 xF74_2 xF74_3 xF74_4 xF74_5
        have q_F2_F9 : Hid (w.heap.size < v1.heap.size + 1) := Lib.hid (by have := F2.lt; first | exact this | omega | (simp; done) | simpa using this)
        have q_F7_F9 : Hid (w1.heap.size < v1.heap.size + 1) := Lib.hid (by have := F7.lt; first | exact this | omega | (simp; done) | simpa using this)
        have q_F10_F9 : Hid (v1.heap.size < v1.heap.size + 1) := Lib.hid (by have := F10.lt; first | exact this | omega | (simp; done) | simpa using this)
        have q_w_F9 : Hid (w.heap.size ≤ v1.heap.size + 1) := Lib.hid (by have := B0.size; first | exact this | omega | (simp; done) | simpa using this)
        replace F2 := F2.allocd (.cells #[.bool false, .string { data := #[] }, .int .i64 0] 24)
        replace F7 := F7.allocd (.cells #[.bool false, .string { data := #[] }, .int .i64 0] 24)
        replace F10 := F10.allocd (.cells #[.bool false, .string { data := #[] }, .int .i64 0] 24)
        have F9 := Blk.put ((v1).alloc (.cells #[.bool false, .string { data := #[] }, .int .i64 0] 24)) #[.bool false, .string { data := #[] }, .int .i64 0] 24
        rw [show ((v1).alloc (.cells #[.bool false, .string { data := #[] }, .int .i64 0] 24)).heap.size = v1.heap.size + 1 by simp] at F9
        replace B0 := B0.alloc B0.size (.cells #[.bool false, .string { data := #[] }, .int .i64 0] 24)
        obtain ⟨xF75_0, xF75_1, xF75_2, xF75_3, xF75_4, xF75_5⟩ := F7.ce6
        refine hK.out _ _ ?_ (fun hHeld => ?_)
        · exact ⟨xF75_0, xF75_1, xF75_2, xF75_3, xF75_4, xF75_5⟩
        clear hK K
        (try dsimp only [Act.put]); (try go_frame)
        refine wpAnyH_ready (rs := [4]) (by kernel_rfl) (by simp) ?_
        refine AllReadyH.cons rfl (fun K hK => ?_) AllReadyH.nil
        go_simp
        (with_reducible refine (h2 _).mono ?_)
        rintro r w2 ⟨rfl, hb2⟩
        clear xF75_0 xF75_1 xF75_2 xF75_3 xF75_4 xF75_5
        replace F2 := F2.keep hb2
        replace F7 := F7.keep hb2
        replace F10 := F10.keep hb2
        replace F9 := F9.keep hb2
        replace B0 := B0.trans (hb2.mono B0.size)
        clear hb2
        obtain ⟨xF76_0, xF76_1, xF76_2, xF76_3, xF76_4, xF76_5⟩ := F7.ce6
        refine hK.out _ _ ?_ (fun hHeld => ?_)
        · exact ⟨xF76_0, xF76_1, xF76_2, xF76_3, xF76_4, xF76_5⟩
        clear hK K
        (try dsimp only [Act.put]); (try go_frame)
        refine wpAnyH_done (by kernel_rfl) ?_ _
        try simp only [QCut]
        clear hHeld
        clear xF76_0 xF76_1 xF76_2 xF76_3 xF76_4 xF76_5
        generalize w2 = v2 at *
        obtain ⟨xF97_0, xF97_1, xF97_2⟩ := F9.ce3
        obtain ⟨xF97_0f, xF97_1f, xF97_2f⟩ := F9.fr3
        replace F2 := (((F2.far 0 (.bool Sn) (Nat.ne_of_lt q_F2_F9.out)).far 1 (.string SS) (Nat.ne_of_lt q_F2_F9.out)).far 2 (.int .i64 Se) (Nat.ne_of_lt q_F2_F9.out))
        clear F7
        replace F10 := (((F10.far 0 (.bool Sn) (Nat.ne_of_lt q_F10_F9.out)).far 1 (.string SS) (Nat.ne_of_lt q_F10_F9.out)).far 2 (.int .i64 Se) (Nat.ne_of_lt q_F10_F9.out))
        replace F9 : Blk ((((v2).setCell ⟨v1.heap.size + 1, 0, none⟩ (.bool Sn)).setCell ⟨v1.heap.size + 1, 1, none⟩ (.string SS)).setCell ⟨v1.heap.size + 1, 2, none⟩ (.int .i64 Se)) (v1.heap.size + 1) #[.bool Sn, .string SS, .int .i64 Se] 24 := (((F9.setAt 0 (.bool Sn)).setAt 1 (.string SS)).setAt 2 (.int .i64 Se))
        replace B0 := (((B0.setCell (p := ⟨v1.heap.size + 1, 0, none⟩) q_w_F9.out (.bool Sn)).setCell (p := ⟨v1.heap.size + 1, 1, none⟩) q_w_F9.out (.string SS)).setCell (p := ⟨v1.heap.size + 1, 2, none⟩) q_w_F9.out (.int .i64 Se))
        obtain ⟨xF108_0, xF108_1, xF108_2⟩ := F10.ce3
        obtain ⟨xF108_0f, xF108_1f, xF108_2f⟩ := F10.fr3
        replace F2 := (((F2.far 0 (.bool Yn) (Nat.ne_of_lt q_F2_F10.out)).far 1 (.string YS) (Nat.ne_of_lt q_F2_F10.out)).far 2 (.int .i64 Ye) (Nat.ne_of_lt q_F2_F10.out))
        replace F9 := (((F9.far 0 (.bool Yn) (Nat.ne_of_gt q_F10_F9.out)).far 1 (.string YS) (Nat.ne_of_gt q_F10_F9.out)).far 2 (.int .i64 Ye) (Nat.ne_of_gt q_F10_F9.out))
        replace F10 : Blk (((((((v2).setCell ⟨v1.heap.size + 1, 0, none⟩ (.bool Sn)).setCell ⟨v1.heap.size + 1, 1, none⟩ (.string SS)).setCell ⟨v1.heap.size + 1, 2, none⟩ (.int .i64 Se)).setCell ⟨v1.heap.size, 0, none⟩ (.bool Yn)).setCell ⟨v1.heap.size, 1, none⟩ (.string YS)).setCell ⟨v1.heap.size, 2, none⟩ (.int .i64 Ye)) (v1.heap.size) #[.bool Yn, .string YS, .int .i64 Ye] 24 := (((F10.setAt 0 (.bool Yn)).setAt 1 (.string YS)).setAt 2 (.int .i64 Ye))
        replace B0 := (((B0.setCell (p := ⟨v1.heap.size, 0, none⟩) q_w_F10.out (.bool Yn)).setCell (p := ⟨v1.heap.size, 1, none⟩) q_w_F10.out (.string YS)).setCell (p := ⟨v1.heap.size, 2, none⟩) q_w_F10.out (.int .i64 Ye))
        go_wp2_with fail
        go_meet
        exact ⟨_, _, by first | rfl | simp, by first | rfl | simp, F2, F9, F10, B0⟩
  case rest =>
    clear B0
    clear F2
    clear F7
    obtain ⟨S9, S10, rfl, rfl, F2, F9, F10, B0⟩ := hcut
    generalize wc = v1 at *
    go_wp2_with fail
    refine wp_region_any (by kernel_rfl) ?_
    obtain ⟨xF92_0, xF92_1, xF92_2⟩ := F9.ce3
    obtain ⟨xF22_0, xF22_1, xF22_2, xF22_3, xF22_4, xF22_5, xF22_6, xF22_7, xF22_8⟩ := F2.ce9
    obtain ⟨xF102_0, xF102_1, xF102_2⟩ := F10.ce3
    have hHeld : (fun w' : World => w'.cell? ⟨S9, 0, none⟩ = some (.bool Sn) ∧ w'.cell? ⟨S9, 1, none⟩ = some (.string SS) ∧ w'.cell? ⟨S9, 2, none⟩ = some (.int .i64 Se) ∧ w'.cell? ⟨w.heap.size, 0, none⟩ = some (.bool gn) ∧ w'.cell? ⟨w.heap.size, 1, none⟩ = some (.string gS) ∧ w'.cell? ⟨w.heap.size, 2, none⟩ = some (.int .i64 ge) ∧ w'.cell? ⟨w.heap.size, 3, none⟩ = some (.bool gm) ∧ w'.cell? ⟨w.heap.size, 4, none⟩ = some (.string gT) ∧ w'.cell? ⟨w.heap.size, 5, none⟩ = some (.int .i64 gf) ∧ w'.cell? ⟨w.heap.size, 6, none⟩ = some (.int .i64 e) ∧ w'.cell? ⟨w.heap.size, 7, none⟩ = some (.int .i64 a) ∧ w'.cell? ⟨w.heap.size, 8, none⟩ = some (.int .i64 d) ∧ w'.cell? ⟨S10, 0, none⟩ = some (.bool Yn) ∧ w'.cell? ⟨S10, 1, none⟩ = some (.string YS) ∧ w'.cell? ⟨S10, 2, none⟩ = some (.int .i64 Ye)) (v1).drew := ⟨xF92_0, xF92_1, xF92_2, xF22_0, xF22_1, xF22_2, xF22_3, xF22_4, xF22_5, xF22_6, xF22_7, xF22_8, xF102_0, xF102_1, xF102_2⟩
    refine wpAny_of_held (S := fun w' : World => w'.cell? ⟨S9, 0, none⟩ = some (.bool Sn) ∧ w'.cell? ⟨S9, 1, none⟩ = some (.string SS) ∧ w'.cell? ⟨S9, 2, none⟩ = some (.int .i64 Se) ∧ w'.cell? ⟨w.heap.size, 0, none⟩ = some (.bool gn) ∧ w'.cell? ⟨w.heap.size, 1, none⟩ = some (.string gS) ∧ w'.cell? ⟨w.heap.size, 2, none⟩ = some (.int .i64 ge) ∧ w'.cell? ⟨w.heap.size, 3, none⟩ = some (.bool gm) ∧ w'.cell? ⟨w.heap.size, 4, none⟩ = some (.string gT) ∧ w'.cell? ⟨w.heap.size, 5, none⟩ = some (.int .i64 gf) ∧ w'.cell? ⟨w.heap.size, 6, none⟩ = some (.int .i64 e) ∧ w'.cell? ⟨w.heap.size, 7, none⟩ = some (.int .i64 a) ∧ w'.cell? ⟨w.heap.size, 8, none⟩ = some (.int .i64 d) ∧ w'.cell? ⟨S10, 0, none⟩ = some (.bool Yn) ∧ w'.cell? ⟨S10, 1, none⟩ = some (.string YS) ∧ w'.cell? ⟨S10, 2, none⟩ = some (.int .i64 Ye)) _ _ _ (v1).drew ?_
    replace F2 := F2.drew
    replace F9 := F9.drew
    replace F10 := F10.drew
    replace B0 := B0.drew
    generalize (v1).drew = v2 at *
    refine wpAnyH_take (i := 0) (v := _) (by first | (simp only [List.getElem?_toArray, List.getElem?_cons_zero]; rfl) | rfl) (by kernel_rfl) (by kernel_rfl) (by kernel_rfl) (by exact fun _ _ _ h => h) (Or.inl ⟨by rfl, by (intro w hSw; (try dsimp only at hSw); go_simp; try with_reducible rfl)⟩) (by assumption) ?_
    (try dsimp only [Act.put]); (try go_frame)
    refine wpAnyH_take (i := 2) (v := _) (by first | (simp only [List.getElem?_toArray, List.getElem?_cons_zero, List.getElem?_cons_succ]; rfl) | rfl) (by kernel_rfl) (by kernel_rfl) (by kernel_rfl) (by exact fun _ _ _ h => h) (Or.inl ⟨by rfl, by (intro w hSw; (try dsimp only at hSw); go_simp; try with_reducible rfl)⟩) (by assumption) ?_
    (try dsimp only [Act.put]); (try go_frame)
    refine wpAnyH_take (i := 3) (v := _) (by first | (simp only [List.getElem?_toArray, List.getElem?_cons_zero, List.getElem?_cons_succ]; rfl) | rfl) (by kernel_rfl) (by kernel_rfl) (by kernel_rfl) (by exact fun _ _ _ h => h) (Or.inl ⟨by rfl, by (intro w hSw; (try dsimp only at hSw); go_simp; try with_reducible rfl)⟩) (by assumption) ?_
    (try dsimp only [Act.put]); (try go_frame)
    refine wpAnyH_take (i := 4) (v := _) (by first | (simp only [List.getElem?_toArray, List.getElem?_cons_zero, List.getElem?_cons_succ]; rfl) | rfl) (by kernel_rfl) (by kernel_rfl) (by kernel_rfl) (by exact fun _ _ _ h => h) (Or.inl ⟨by rfl, by (intro w hSw; (try dsimp only at hSw); go_simp; try with_reducible rfl)⟩) (by assumption) ?_
    (try dsimp only [Act.put]); (try go_frame)
    refine wpAnyH_take (i := 5) (v := _) (by first | (simp only [List.getElem?_toArray, List.getElem?_cons_zero, List.getElem?_cons_succ]; rfl) | rfl) (by kernel_rfl) (by kernel_rfl) (by kernel_rfl) (by exact fun _ _ _ h => h) (Or.inl ⟨by rfl, by (intro w hSw; (try dsimp only at hSw); go_simp; try with_reducible rfl)⟩) (by assumption) ?_
    (try dsimp only [Act.put]); (try go_frame)
    refine wpAnyH_take (i := 6) (v := _) (by first | (simp only [List.getElem?_toArray, List.getElem?_cons_zero, List.getElem?_cons_succ]; rfl) | rfl) (by kernel_rfl) (by kernel_rfl) (by kernel_rfl) (by exact fun _ _ _ h => h) (Or.inl ⟨by rfl, by (intro w hSw; (try dsimp only at hSw); go_simp; try with_reducible rfl)⟩) (by assumption) ?_
    (try dsimp only [Act.put]); (try go_frame)
    refine wpAnyH_ready (rs := [1]) (by kernel_rfl) (by simp) ?_
    refine AllReadyH.cons rfl (fun K hK => ?_) AllReadyH.nil
    go_simp
    (with_reducible refine (h3 _).mono ?_)
    rintro r w2 ⟨rfl, hb2⟩
    clear xF92_0 xF92_1 xF92_2 xF22_0 xF22_1 xF22_2 xF22_3 xF22_4 xF22_5 xF22_6 xF22_7 xF22_8 xF102_0 xF102_1 xF102_2
    replace F2 := F2.keep hb2
    replace F9 := F9.keep hb2
    replace F10 := F10.keep hb2
    replace B0 := B0.trans (hb2.mono B0.size)
    clear hb2
    obtain ⟨xF95_0, xF95_1, xF95_2⟩ := F9.ce3
    obtain ⟨xF25_0, xF25_1, xF25_2, xF25_3, xF25_4, xF25_5, xF25_6, xF25_7, xF25_8⟩ := F2.ce9
    obtain ⟨xF105_0, xF105_1, xF105_2⟩ := F10.ce3
    refine hK.out _ _ ?_ (fun hHeld => ?_)
    · exact ⟨xF95_0, xF95_1, xF95_2, xF25_0, xF25_1, xF25_2, xF25_3, xF25_4, xF25_5, xF25_6, xF25_7, xF25_8, xF105_0, xF105_1, xF105_2⟩
    clear hK K
    (try dsimp only [Act.put]); (try go_frame)
    refine wpAnyH_ready (rs := [7]) (by kernel_rfl) (by simp) ?_
    refine AllReadyH.cons rfl (fun K hK => ?_) AllReadyH.nil
    go_simp
    (with_reducible refine (b1 _).mono ?_)
    rintro r w3 ⟨rfl, hb3⟩
    clear xF95_0 xF95_1 xF95_2 xF25_0 xF25_1 xF25_2 xF25_3 xF25_4 xF25_5 xF25_6 xF25_7 xF25_8 xF105_0 xF105_1 xF105_2
    replace F2 := F2.keep hb3
    replace F9 := F9.keep hb3
    replace F10 := F10.keep hb3
    replace B0 := B0.trans (hb3.mono B0.size)
    clear hb3
    obtain ⟨xF96_0, xF96_1, xF96_2⟩ := F9.ce3
    obtain ⟨xF26_0, xF26_1, xF26_2, xF26_3, xF26_4, xF26_5, xF26_6, xF26_7, xF26_8⟩ := F2.ce9
    obtain ⟨xF106_0, xF106_1, xF106_2⟩ := F10.ce3
    refine hK.out _ _ ?_ (fun hHeld => ?_)
    · exact ⟨xF96_0, xF96_1, xF96_2, xF26_0, xF26_1, xF26_2, xF26_3, xF26_4, xF26_5, xF26_6, xF26_7, xF26_8, xF106_0, xF106_1, xF106_2⟩
    clear hK K
    (try dsimp only [Act.put]); (try go_frame)
    refine wpAnyH_take (i := 8) (v := _) (by first | (simp only [List.getElem?_toArray, List.getElem?_cons_zero, List.getElem?_cons_succ]; rfl) | rfl) (by kernel_rfl) (by kernel_rfl) (by kernel_rfl) (by exact fun _ _ _ h => h) (Or.inl ⟨by rfl, by (intro w hSw; (try dsimp only at hSw); go_simp; try with_reducible rfl)⟩) (by assumption) ?_
    (try dsimp only [Act.put]); (try go_frame)
    refine wpAnyH_take (i := 9) (v := _) (by first | (simp only [List.getElem?_toArray, List.getElem?_cons_zero, List.getElem?_cons_succ]; rfl) | rfl) (by kernel_rfl) (by kernel_rfl) (by kernel_rfl) (by exact fun _ _ _ h => h) (Or.inl ⟨by rfl, by (intro w hSw; (try dsimp only at hSw); go_simp; try with_reducible rfl)⟩) (by assumption) ?_
    (try dsimp only [Act.put]); (try go_frame)
    refine wpAnyH_take (i := 10) (v := _) (by first | (simp only [List.getElem?_toArray, List.getElem?_cons_zero, List.getElem?_cons_succ]; rfl) | rfl) (by kernel_rfl) (by kernel_rfl) (by kernel_rfl) (by exact fun _ _ _ h => h) (Or.inl ⟨by rfl, by (intro w hSw; (try dsimp only at hSw); go_simp; try with_reducible rfl)⟩) (by assumption) ?_
    (try dsimp only [Act.put]); (try go_frame)
    refine wpAnyH_take (i := 12) (v := _) (by first | (simp only [List.getElem?_toArray, List.getElem?_cons_zero, List.getElem?_cons_succ]; rfl) | rfl) (by kernel_rfl) (by kernel_rfl) (by kernel_rfl) (by exact fun _ _ _ h => h) (Or.inl ⟨by rfl, by (intro w hSw; (try dsimp only at hSw); go_simp; try with_reducible rfl)⟩) (by assumption) ?_
    (try dsimp only [Act.put]); (try go_frame)
    refine wpAnyH_take (i := 13) (v := _) (by first | (simp only [List.getElem?_toArray, List.getElem?_cons_zero, List.getElem?_cons_succ]; rfl) | rfl) (by kernel_rfl) (by kernel_rfl) (by kernel_rfl) (by exact fun _ _ _ h => h) (Or.inl ⟨by rfl, by (intro w hSw; (try dsimp only at hSw); go_simp; try with_reducible rfl)⟩) (by assumption) ?_
    (try dsimp only [Act.put]); (try go_frame)
    refine wpAnyH_take (i := 14) (v := _) (by first | (simp only [List.getElem?_toArray, List.getElem?_cons_zero, List.getElem?_cons_succ]; rfl) | rfl) (by kernel_rfl) (by kernel_rfl) (by kernel_rfl) (by exact fun _ _ _ h => h) (Or.inl ⟨by rfl, by (intro w hSw; (try dsimp only at hSw); go_simp; try with_reducible rfl)⟩) (by assumption) ?_
    (try dsimp only [Act.put]); (try go_frame)
    refine wpAnyH_take (i := 15) (v := _) (by first | (simp only [List.getElem?_toArray, List.getElem?_cons_zero, List.getElem?_cons_succ]; rfl) | rfl) (by kernel_rfl) (by kernel_rfl) (by kernel_rfl) (by exact fun _ _ _ h => h) (Or.inl ⟨by rfl, by (intro w hSw; (try dsimp only at hSw); go_simp; try with_reducible rfl)⟩) (by assumption) ?_
    (try dsimp only [Act.put]); (try go_frame)
    refine wpAnyH_take (i := 16) (v := _) (by first | (simp only [List.getElem?_toArray, List.getElem?_cons_zero, List.getElem?_cons_succ]; rfl) | rfl) (by kernel_rfl) (by kernel_rfl) (by kernel_rfl) (by exact fun _ _ _ h => h) (Or.inl ⟨by rfl, by (intro w hSw; (try dsimp only at hSw); go_simp; try with_reducible rfl)⟩) (by assumption) ?_
    (try dsimp only [Act.put]); (try go_frame)
    refine wpAnyH_ready (rs := [11]) (by kernel_rfl) (by simp) ?_
    refine AllReadyH.cons rfl (fun K hK => ?_) AllReadyH.nil
    go_simp
    (with_reducible refine (h4 _).mono ?_)
    rintro r w4 ⟨rfl, hb4⟩
    clear xF96_0 xF96_1 xF96_2 xF26_0 xF26_1 xF26_2 xF26_3 xF26_4 xF26_5 xF26_6 xF26_7 xF26_8 xF106_0 xF106_1 xF106_2
    replace F2 := F2.keep hb4
    replace F9 := F9.keep hb4
    replace F10 := F10.keep hb4
    replace B0 := B0.trans (hb4.mono B0.size)
    clear hb4
    obtain ⟨xF97_0, xF97_1, xF97_2⟩ := F9.ce3
    obtain ⟨xF27_0, xF27_1, xF27_2, xF27_3, xF27_4, xF27_5, xF27_6, xF27_7, xF27_8⟩ := F2.ce9
    obtain ⟨xF107_0, xF107_1, xF107_2⟩ := F10.ce3
    refine hK.out _ _ ?_ (fun hHeld => ?_)
    · exact ⟨xF97_0, xF97_1, xF97_2, xF27_0, xF27_1, xF27_2, xF27_3, xF27_4, xF27_5, xF27_6, xF27_7, xF27_8, xF107_0, xF107_1, xF107_2⟩
    clear hK K
    (try dsimp only [Act.put]); (try go_frame)
    refine wpAnyH_ready (rs := [17]) (by kernel_rfl) (by simp) ?_
    refine AllReadyH.cons rfl (fun K hK => ?_) AllReadyH.nil
    go_simp
    (with_reducible refine (b2 _).mono ?_)
    rintro r w5 ⟨rfl, hb5⟩
    clear xF97_0 xF97_1 xF97_2 xF27_0 xF27_1 xF27_2 xF27_3 xF27_4 xF27_5 xF27_6 xF27_7 xF27_8 xF107_0 xF107_1 xF107_2
    replace F2 := F2.keep hb5
    replace F9 := F9.keep hb5
    replace F10 := F10.keep hb5
    replace B0 := B0.trans (hb5.mono B0.size)
    clear hb5
    obtain ⟨xF98_0, xF98_1, xF98_2⟩ := F9.ce3
    obtain ⟨xF28_0, xF28_1, xF28_2, xF28_3, xF28_4, xF28_5, xF28_6, xF28_7, xF28_8⟩ := F2.ce9
    obtain ⟨xF108_0, xF108_1, xF108_2⟩ := F10.ce3
    refine hK.out _ _ ?_ (fun hHeld => ?_)
    · exact ⟨xF98_0, xF98_1, xF98_2, xF28_0, xF28_1, xF28_2, xF28_3, xF28_4, xF28_5, xF28_6, xF28_7, xF28_8, xF108_0, xF108_1, xF108_2⟩
    clear hK K
    (try dsimp only [Act.put]); (try go_frame)
    refine wpAnyH_take (i := 18) (v := _) (by first | (simp only [List.getElem?_toArray, List.getElem?_cons_zero, List.getElem?_cons_succ]; rfl) | rfl) (by kernel_rfl) (by kernel_rfl) (by kernel_rfl) (by exact fun _ _ _ h => h) (Or.inl ⟨by rfl, by (intro w hSw; (try dsimp only at hSw); go_simp; try with_reducible rfl)⟩) (by assumption) ?_
    (try dsimp only [Act.put]); (try go_frame)
    refine wpAnyH_take (i := 19) (v := _) (by first | (simp only [List.getElem?_toArray, List.getElem?_cons_zero, List.getElem?_cons_succ]; rfl) | rfl) (by kernel_rfl) (by kernel_rfl) (by kernel_rfl) (by exact fun _ _ _ h => h) (Or.inl ⟨by rfl, by (intro w hSw; (try dsimp only at hSw); go_simp; try with_reducible rfl)⟩) (by assumption) ?_
    (try dsimp only [Act.put]); (try go_frame)
    refine wpAnyH_done (by kernel_rfl) ?_ _
    try simp only [QCut]
    clear hHeld
    clear xF98_0 xF98_1 xF98_2 xF28_0 xF28_1 xF28_2 xF28_3 xF28_4 xF28_5 xF28_6 xF28_7 xF28_8 xF108_0 xF108_1 xF108_2
    obtain ⟨xF98_0, xF98_1, xF98_2⟩ := F9.ce3
    obtain ⟨xF28_0, xF28_1, xF28_2, xF28_3, xF28_4, xF28_5, xF28_6, xF28_7, xF28_8⟩ := F2.ce9
    go_wp2_with fail
    (with_reducible refine (b3 _).mono ?_)
    rintro r w6 ⟨rfl, hb6⟩
    clear xF98_0 xF98_1 xF98_2 xF28_0 xF28_1 xF28_2 xF28_3 xF28_4 xF28_5 xF28_6 xF28_7 xF28_8
    replace F2 := F2.keep hb6
    replace F9 := F9.keep hb6
    replace F10 := F10.keep hb6
    replace B0 := B0.trans (hb6.mono B0.size)
    clear hb6
    obtain ⟨xF109_0, xF109_1, xF109_2⟩ := F10.ce3
    obtain ⟨xF29_0, xF29_1, xF29_2, xF29_3, xF29_4, xF29_5, xF29_6, xF29_7, xF29_8⟩ := F2.ce9
    go_wp2_with fail
    (with_reducible refine (b4 _).mono ?_)
    rintro r w7 ⟨rfl, hb7⟩
    clear xF109_0 xF109_1 xF109_2 xF29_0 xF29_1 xF29_2 xF29_3 xF29_4 xF29_5 xF29_6 xF29_7 xF29_8
    replace F2 := F2.keep hb7
    replace F9 := F9.keep hb7
    replace F10 := F10.keep hb7
    replace B0 := B0.trans (hb7.mono B0.size)
    clear hb7
    go_wp2_with fail
    go_loopg [11] Cc (fun gh sc wr => ∃ k : Nat, k ≤ Cc ∧ gh = Cc - k ∧ sc = .int .i64 k ∧ Blk wr (w.heap.size) #[.bool gn, .string gS, .int .i64 ge, .bool gm, .string gT, .int .i64 gf, .int .i64 e, .int .i64 a, .int .i64 d] 28 ∧ Blk wr (S9) #[.bool Sn, .string SS, .int .i64 Se] 24 ∧ Blk wr (S10) #[.bool Yn, .string YS, .int .i64 Ye] 24 ∧ Below w.heap.size w wr)
    case atStart => exact ⟨0, Nat.zero_le _, rfl, rfl, F2, F9, F10, B0⟩
    case round =>
      clear F2 F9 F10 B0
      obtain ⟨kCc, hkCc, hgCc, rfl, F2, F9, F10, B0⟩ := hrel
      have HgCc := Lib.hid hgCc
      clear hgCc
      generalize wr = rCc at *
      by_cases hlt : kCc < Cc
      · obtain ⟨xF911_0, xF911_1, xF911_2⟩ := F9.ce3
        obtain ⟨xF211_0, xF211_1, xF211_2, xF211_3, xF211_4, xF211_5, xF211_6, xF211_7, xF211_8⟩ := F2.ce9
        go_wp2_with fail
        (with_reducible refine (HXf kCc hlt _).mono ?_)
        rintro r w8 ⟨rfl, hb8⟩
        clear xF911_0 xF911_1 xF911_2 xF211_0 xF211_1 xF211_2 xF211_3 xF211_4 xF211_5 xF211_6 xF211_7 xF211_8
        replace F2 := F2.keep hb8
        replace F9 := F9.keep hb8
        replace F10 := F10.keep hb8
        replace B0 := B0.trans (hb8.mono B0.size)
        clear hb8
        go_wp2
        go_roundg (Cc - (kCc + 1))
        case measure => have := HgCc.out; omega
        case rel => exact ⟨kCc + 1, by omega, rfl, by go_num, F2, F9, F10, B0⟩
      · obtain rfl : kCc = Cc := by omega
        obtain ⟨xF911_0, xF911_1, xF911_2⟩ := F9.ce3
        obtain ⟨xF211_0, xF211_1, xF211_2, xF211_3, xF211_4, xF211_5, xF211_6, xF211_7, xF211_8⟩ := F2.ce9
        go_wp2_with fail
        (with_reducible refine (HXt _).mono ?_)
        rintro r w8 ⟨rfl, hb8⟩
        clear xF911_0 xF911_1 xF911_2 xF211_0 xF211_1 xF211_2 xF211_3 xF211_4 xF211_5 xF211_6 xF211_7 xF211_8
        replace F2 := F2.keep hb8
        replace F9 := F9.keep hb8
        replace F10 := F10.keep hb8
        replace B0 := B0.trans (hb8.mono B0.size)
        clear hb8
        go_wp2_with fail
        go_loopg [12] Rr (fun gh sc wr => ∃ k : Nat, k ≤ Rr ∧ gh = Rr - k ∧ sc = .int .i64 k ∧ Blk wr (w.heap.size) #[.bool gn, .string gS, .int .i64 ge, .bool gm, .string gT, .int .i64 gf, .int .i64 e, .int .i64 a, .int .i64 d] 28 ∧ Blk wr (S9) #[.bool Sn, .string SS, .int .i64 Se] 24 ∧ Blk wr (S10) #[.bool Yn, .string YS, .int .i64 Ye] 24 ∧ Below w.heap.size w wr)
        case atStart => exact ⟨0, Nat.zero_le _, rfl, rfl, F2, F9, F10, B0⟩
        case round =>
          clear F2 F9 F10 B0
          obtain ⟨kRr, hkRr, hgRr, rfl, F2, F9, F10, B0⟩ := hrel
          have HgRr := Lib.hid hgRr
          clear hgRr
          generalize wr = rRr at *
          by_cases hlt : kRr < Rr
          · obtain ⟨xF1013_0, xF1013_1, xF1013_2⟩ := F10.ce3
            obtain ⟨xF213_0, xF213_1, xF213_2, xF213_3, xF213_4, xF213_5, xF213_6, xF213_7, xF213_8⟩ := F2.ce9
            go_wp2_with fail
            (with_reducible refine (HYf kRr hlt _).mono ?_)
            rintro r w9 ⟨rfl, hb9⟩
            clear xF1013_0 xF1013_1 xF1013_2 xF213_0 xF213_1 xF213_2 xF213_3 xF213_4 xF213_5 xF213_6 xF213_7 xF213_8
            replace F2 := F2.keep hb9
            replace F9 := F9.keep hb9
            replace F10 := F10.keep hb9
            replace B0 := B0.trans (hb9.mono B0.size)
            clear hb9
            go_wp2
            go_roundg (Rr - (kRr + 1))
            case measure => have := HgRr.out; omega
            case rel => exact ⟨kRr + 1, by omega, rfl, by go_num, F2, F9, F10, B0⟩
          · obtain rfl : kRr = Rr := by omega
            obtain ⟨xF1013_0, xF1013_1, xF1013_2⟩ := F10.ce3
            obtain ⟨xF213_0, xF213_1, xF213_2, xF213_3, xF213_4, xF213_5, xF213_6, xF213_7, xF213_8⟩ := F2.ce9
            go_wp2_with fail
            (with_reducible refine (HYt _).mono ?_)
            rintro r w9 ⟨rfl, hb9⟩
            clear xF1013_0 xF1013_1 xF1013_2 xF213_0 xF213_1 xF213_2 xF213_3 xF213_4 xF213_5 xF213_6 xF213_7 xF213_8
            replace F2 := F2.keep hb9
            replace F9 := F9.keep hb9
            replace F10 := F10.keep hb9
            replace B0 := B0.trans (hb9.mono B0.size)
            clear hb9
            go_wp2
            go_ret3
            exact ⟨rfl, B0⟩

end Go.Proofs.YtppebjnmollojaaGreatDoor
