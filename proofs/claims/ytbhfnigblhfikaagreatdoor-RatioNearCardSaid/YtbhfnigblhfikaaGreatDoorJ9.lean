/- wide.Rat's functions, further ones. -/
import Derived.Test.YtbhfnigblhfikaaGreatDoorJ8
namespace Go.Proofs.YtbhfnigblhfikaaGreatDoor
open Go Go.RowKit Fil

theorem laid_at (b o : Nat) (neg : Bool) (A : Option Addr) (n c x : Nat) (w : World) (hr : Room w b o) (hn : n ≤ 4398046511104) (hd : Dig w A n c x) :
    Calls Tryz.prog 51 #[.pointer (some ⟨b, o, none⟩), .bool neg, .slice A n c] w fun e w' => e = .returned (.pointer (some ⟨b, o, none⟩)) ∧ IntAt w' b o (sz neg x) ∧ But w w' b o ∧ w'.cell? ⟨b, o + 1, none⟩ = some (.slice A n c) :=
  (laid_any b o neg A n c w hr hn).mono fun e w' ⟨he, hw⟩ => by
    subst hw
    rw [← sz_sg hd.1]
    refine ⟨he, IntAt.lay hr (by rw [sz_abs]; exact hd), But.lay hr _ _, ?_⟩
    obtain ⟨cs, t, h1, h2, h3⟩ := hr
    rw [setCell_eq_setRow w b o cs t (0, 0) _ h1, setCell_eq_setRow _ b (o + 1) _ t (0, 0) _ (setRow_heap _ _ _ _ _ _ h1)]
    have h4 := setRow_heap (w.setRow b (cs.setIfInBounds o (.bool (sg (sz neg x))))) b (cs.setIfInBounds o (.bool (sg (sz neg x)))) ((cs.setIfInBounds o (.bool (sg (sz neg x)))).setIfInBounds (o + 1) (.slice A n c)) t (0, 0) (setRow_heap _ _ _ _ _ _ h1)
    simp [World.cell?, h4, h3]

set_option maxRecDepth 100000 in
set_option maxHeartbeats 4000000 in
theorem ratneg_any (b bx : Nat) (x : Rat) (w : World) (hr : RRoom w b) (X : RatAt w bx x) (hx : Szd 100000000000 x) :
    Calls Tryz.prog 48 #[.pointer (some ⟨b, 0, none⟩), .pointer (some ⟨bx, 0, none⟩)] w fun e w' => e = .returned (.pointer (some ⟨b, 0, none⟩)) ∧ RatAt w' b (-x) ∧ Far w w' b := by
  have s1 : Hid (dn 32 x.num.natAbs ≤ 1099511627776) := Lib.hid (Nat.le_trans hx.1 (by omega))
  have s2 : Hid (dn 32 x.den ≤ 4398046511104) := Lib.hid (Nat.le_trans hx.2 (by omega))
  clear hx
  go_enter Tryz.func48, Tryz.ntmps48
  go_wp2_with fail
  refine wp_region_any (by kernel_rfl) ?_
  have hHeld : (fun _ : World => True) w.drew := trivial
  refine wpAny_of_held (S := fun _ : World => True) _ _ _ (w.drew) ?_
  refine wpAnyH_take (i := 0) (v := _) (by first | (simp only [List.getElem?_toArray, List.getElem?_cons_zero]; rfl) | rfl) (by kernel_rfl) (by kernel_rfl) (by kernel_rfl) (by exact fun _ _ _ h => h) (Or.inl ⟨by rfl, by (intro w hSw; (try dsimp only at hSw); go_simp; try with_reducible rfl)⟩) (by assumption) ?_
  (try dsimp only [Act.put]); (try go_frame)
  refine wpAnyH_take (i := 1) (v := _) (by first | (simp only [List.getElem?_toArray, List.getElem?_cons_zero, List.getElem?_cons_succ]; rfl) | rfl) (by kernel_rfl) (by kernel_rfl) (by kernel_rfl) (by exact fun _ _ _ h => h) (Or.inl ⟨by rfl, by (intro w hSw; (try dsimp only at hSw); go_simp; try with_reducible rfl)⟩) (by assumption) ?_
  (try dsimp only [Act.put]); (try go_frame)
  refine wpAnyH_take (i := 2) (v := _) (by first | (simp only [List.getElem?_toArray, List.getElem?_cons_zero, List.getElem?_cons_succ]; rfl) | rfl) (by kernel_rfl) (by kernel_rfl) (by kernel_rfl) (by exact fun _ _ _ h => h) (Or.inl ⟨by rfl, by (intro w hSw; (try dsimp only at hSw); go_simp; try with_reducible rfl)⟩) (by assumption) ?_
  (try dsimp only [Act.put]); (try go_frame)
  refine wpAnyH_take (i := 3) (v := _) (by first | (simp only [List.getElem?_toArray, List.getElem?_cons_zero, List.getElem?_cons_succ]; rfl) | rfl) (by kernel_rfl) (by kernel_rfl) (by kernel_rfl) (by exact fun _ _ _ h => h) (Or.inl ⟨by rfl, by (intro w hSw; (try dsimp only at hSw); go_simp; try with_reducible rfl)⟩) (by assumption) ?_
  (try dsimp only [Act.put]); (try go_frame)
  refine wpAnyH_take (i := 4) (v := _) (by first | (simp only [List.getElem?_toArray, List.getElem?_cons_zero, List.getElem?_cons_succ]; rfl) | rfl) (by kernel_rfl) (by kernel_rfl) (by kernel_rfl) (by exact fun _ _ _ h => h) (Or.inl ⟨by rfl, by (intro w hSw; (try dsimp only at hSw); go_simp; try with_reducible rfl)⟩) (by assumption) ?_
  (try dsimp only [Act.put]); (try go_frame)
  refine wpAnyH_take (i := 5) (v := _) (by first | (simp only [List.getElem?_toArray, List.getElem?_cons_zero, List.getElem?_cons_succ]; rfl) | rfl) (by kernel_rfl) (by kernel_rfl) (by kernel_rfl) (by exact fun _ _ _ h => h) (Or.inl ⟨by rfl, by (intro w hSw; (try dsimp only at hSw); go_simp; try with_reducible rfl)⟩) (by assumption) ?_
  (try dsimp only [Act.put]); (try go_frame)
  refine wpAnyH_ready (rs := [6]) (by kernel_rfl) (by simp) ?_
  refine AllReadyH.cons rfl (fun K hK => ?_) AllReadyH.nil
  go_simp
  refine (neg_any b 0 bx 0 x.num w.drew hr.1 X.1 s1.out).mono ?_
  rintro r w1 ⟨rfl, I1, B1⟩
  replace B1 : But w w1 b 0 := But.undrew B1
  have X2 : IntAt w1 bx 2 (x.den : Int) := X.2.but B1 (.inr ⟨by decide, by decide, by decide⟩)
  have R1 : Room w1 b 2 := hr.2.but B1
  refine hK.out _ _ ?_ (fun hHeld => ?_)
  · trivial
  clear hK K
  (try dsimp only [Act.put]); (try go_frame)
  refine wpAnyH_done (by kernel_rfl) ?_ _
  try simp only [QCut]
  go_wp2_with fail
  obtain ⟨A, n, c, xs, ys, D⟩ := X2.cells
  have l2 := X2.lt
  refine wp_region_any (by kernel_rfl) ?_
  have hHeld : (fun w' : World => w'.cell? ⟨bx, 3, none⟩ = some (.slice A n c)) w1.drew := ys
  refine wpAny_of_held (S := fun w' : World => w'.cell? ⟨bx, 3, none⟩ = some (.slice A n c)) _ _ _ (w1.drew) ?_
  refine wpAnyH_take (i := 0) (v := _) (by first | (simp only [List.getElem?_toArray, List.getElem?_cons_zero]; rfl) | rfl) (by kernel_rfl) (by kernel_rfl) (by kernel_rfl) (by exact fun _ _ _ h => h) (Or.inl ⟨by rfl, by (intro w hSw; (try dsimp only at hSw); go_simp; try with_reducible rfl)⟩) (by assumption) ?_
  (try dsimp only [Act.put]); (try go_frame)
  refine wpAnyH_take (i := 1) (v := _) (by first | (simp only [List.getElem?_toArray, List.getElem?_cons_zero, List.getElem?_cons_succ]; rfl) | rfl) (by kernel_rfl) (by kernel_rfl) (by kernel_rfl) (by exact fun _ _ _ h => h) (Or.inl ⟨by rfl, by (intro w hSw; (try dsimp only at hSw); go_simp; try with_reducible rfl)⟩) (by assumption) ?_
  (try dsimp only [Act.put]); (try go_frame)
  refine wpAnyH_take (i := 2) (v := _) (by first | (simp only [List.getElem?_toArray, List.getElem?_cons_zero, List.getElem?_cons_succ]; rfl) | rfl) (by kernel_rfl) (by kernel_rfl) (by kernel_rfl) (by exact fun _ _ _ h => h) (Or.inl ⟨by rfl, by (intro w hSw; (try dsimp only at hSw); go_simp; try with_reducible rfl)⟩) (by assumption) ?_
  (try dsimp only [Act.put]); (try go_frame)
  refine wpAnyH_take (i := 3) (v := _) (by first | (simp only [List.getElem?_toArray, List.getElem?_cons_zero, List.getElem?_cons_succ]; rfl) | rfl) (by kernel_rfl) (by kernel_rfl) (by kernel_rfl) (by exact fun _ _ _ h => h) (Or.inl ⟨by rfl, by (intro w hSw; (try dsimp only at hSw); go_simp; try with_reducible rfl)⟩) (by assumption) ?_
  (try dsimp only [Act.put]); (try go_frame)
  refine wpAnyH_take (i := 4) (v := _) (by first | (simp only [List.getElem?_toArray, List.getElem?_cons_zero, List.getElem?_cons_succ]; rfl) | rfl) (by kernel_rfl) (by kernel_rfl) (by kernel_rfl) (by exact fun _ _ _ h => h) (Or.inl ⟨by rfl, by (intro w hSw; (try dsimp only at hSw); go_simp; try with_reducible rfl)⟩) (by assumption) ?_
  (try dsimp only [Act.put]); (try go_frame)
  refine wpAnyH_take (i := 5) (v := _) (by first | (simp only [List.getElem?_toArray, List.getElem?_cons_zero, List.getElem?_cons_succ]; rfl) | rfl) (by kernel_rfl) (by kernel_rfl) (by kernel_rfl) (by exact fun _ _ _ h => h) (Or.inl ⟨by rfl, by (intro w hSw; (try dsimp only at hSw); go_simp; try with_reducible rfl)⟩) (by assumption) ?_
  (try dsimp only [Act.put]); (try go_frame)
  refine wpAnyH_take (i := 6) (v := _) (by first | (simp only [List.getElem?_toArray, List.getElem?_cons_zero, List.getElem?_cons_succ]; rfl) | rfl) (by kernel_rfl) (by kernel_rfl) (by kernel_rfl) (by exact fun _ _ _ h => h) (Or.inl ⟨by rfl, by (intro w hSw; (try dsimp only at hSw); go_simp; try with_reducible rfl)⟩) (by assumption) ?_
  (try dsimp only [Act.put]); (try go_frame)
  refine wpAnyH_take (i := 7) (v := _) (by first | (simp only [List.getElem?_toArray, List.getElem?_cons_zero, List.getElem?_cons_succ]; rfl) | rfl) (by kernel_rfl) (by kernel_rfl) (by kernel_rfl) (by exact fun _ _ _ h => h) (Or.inl ⟨by rfl, by (intro w hSw; (try dsimp only at hSw); go_simp; try with_reducible rfl)⟩) (by assumption) ?_
  (try dsimp only [Act.put]); (try go_frame)
  refine wpAnyH_ready (rs := [8]) (by kernel_rfl) (by simp) ?_
  refine AllReadyH.cons rfl (fun K hK => ?_) AllReadyH.nil
  go_simp
  have hnle : n ≤ 4398046511104 := by rw [D.1, Int.natAbs_natCast]; exact s2.out
  refine (laid_at b 2 false A n c _ w1.drew R1 hnle D).mono ?_
  rintro r w2 ⟨rfl, I2, B2, hc⟩
  replace B2 : But w1 w2 b 2 := But.undrew B2
  have I1' := I1.but B2 (.inr ⟨by decide, by decide, by decide⟩)
  have ys2 : w2.cell? ⟨bx, 3, none⟩ = some (.slice A n c) := by
    by_cases e : bx = b
    · subst e; exact hc
    · exact (B2.toFar.cellAt l2 e 3).trans ys
  have hF := B1.toFar.trans B2.toFar
  refine hK.out _ _ ?_ (fun hHeld => ?_)
  · exact ys2
  clear hK K
  (try dsimp only [Act.put]); (try go_frame)
  refine wpAnyH_done (by kernel_rfl) ?_ _
  try simp only [QCut]
  go_wp2
  go_ret
  refine ⟨rfl, ⟨I1', ?_⟩, hF⟩
  have e : sz false (x.den : Int).natAbs = ((-x).den : Int) := rfl
  rw [← e]; exact I2

set_option maxRecDepth 100000 in
set_option maxHeartbeats 4000000 in
theorem ratadd_any (b bx bY : Nat) (x y : Rat) (w : World) (hr : RRoom w b) (X : RatAt w bx x) (Y : RatAt w bY y) (nx0 : bx ≠ b) (ny0 : bY ≠ b) (hx : Szd 100000000000 x) (hy : Szd 100000000000 y) :
    Calls Tryz.prog 62 #[.pointer (some ⟨b, 0, none⟩), .pointer (some ⟨bx, 0, none⟩), .pointer (some ⟨bY, 0, none⟩)] w fun e w' => e = .returned (.pointer (some ⟨b, 0, none⟩)) ∧ RatAt w' b (x + y) ∧ Far w w' b := by
  have hr0 := Lib.hid hr
  have nx := Lib.hid nx0
  have ny := Lib.hid ny0
  clear nx0 ny0
  have s1 : Hid (dn 32 (x.num * (y.den : Int)).natAbs ≤ 200000000000) := Lib.hid (dn_mulI (j := 100000000000) (k := 100000000000) hx.1 hy.den)
  have s2 : Hid (dn 32 (y.num * (x.den : Int)).natAbs ≤ 200000000000) := Lib.hid (dn_mulI (j := 100000000000) (k := 100000000000) hy.1 hx.den)
  have s3 : Hid (dn 32 ((x.den : Int) * (y.den : Int)).natAbs ≤ 200000000000) := Lib.hid (dn_mulI (j := 100000000000) (k := 100000000000) hx.den hy.den)
  have s4 : Hid (dn 32 (x.num * (y.den : Int) + y.num * (x.den : Int)).natAbs ≤ 200000000001) := Lib.hid (dn_addI s1.out s2.out)
  have sx := Lib.hid hx
  have sy := Lib.hid hy
  clear hx hy
  have hb := Below.refl w.heap.size w
  have p_bx : Hid (bx < w.heap.size) := Lib.hid X.lt
  have p_bY : Hid (bY < w.heap.size) := Lib.hid Y.lt
  have p_b : Hid (b < w.heap.size) := Lib.hid hr.lt
  go_enter Tryz.func62, Tryz.ntmps62
  go_upto_region 1 with fail
  go_cut [7, 8] from 9 to 24 (fun s7 s8 wx => ∃ B1 B2 : Nat, s7 = .pointer (some ⟨B1, 0, none⟩) ∧ s8 = .pointer (some ⟨B2, 0, none⟩) ∧ IntAt wx B1 0 (x.num * (y.den : Int)) ∧ IntAt wx B2 0 (y.num * (x.den : Int)) ∧ w.heap.size ≤ B1 ∧ w.heap.size ≤ B2 ∧ (B1 < B2 ∨ B2 < B1) ∧ RatAt wx bx x ∧ RatAt wx bY y ∧ RRoom wx b ∧ Below w.heap.size w wx)
  case first =>
    go_wp2_with fail
    refine wp_region_any (by kernel_rfl) ?_
    have hHeld : (fun _ : World => True) w.drew := trivial
    refine wpAny_of_held (S := fun _ : World => True) _ _ _ (w.drew) ?_
    replace X : RatAt (w.drew) bx x := X
    replace Y : RatAt (w.drew) bY y := Y
    replace hr : RRoom (w.drew) b := hr
    replace hb : Below w.heap.size w w.drew := hb.drew
    generalize w.drew = v1 at *
    refine wpAnyH_take (i := 1) (v := _) (by first | (simp only [List.getElem?_toArray, List.getElem?_cons_zero, List.getElem?_cons_succ]; rfl) | rfl) (by kernel_rfl) (by kernel_rfl) (by kernel_rfl) (by exact fun _ _ _ h => h) (Or.inl ⟨by rfl, by (intro w hSw; (try dsimp only at hSw); go_simp; try with_reducible rfl)⟩) (by assumption) ?_
    (try dsimp only [Act.put]); (try go_frame)
    refine wpAnyH_take (i := 2) (v := _) (by first | (simp only [List.getElem?_toArray, List.getElem?_cons_zero, List.getElem?_cons_succ]; rfl) | rfl) (by kernel_rfl) (by kernel_rfl) (by kernel_rfl) (by exact fun _ _ _ h => h) (Or.inl ⟨by rfl, by (intro w hSw; (try dsimp only at hSw); go_simp; try with_reducible rfl)⟩) (by assumption) ?_
    (try dsimp only [Act.put]); (try go_frame)
    refine wpAnyH_take (i := 3) (v := _) (by first | (simp only [List.getElem?_toArray, List.getElem?_cons_zero, List.getElem?_cons_succ]; rfl) | rfl) (by kernel_rfl) (by kernel_rfl) (by kernel_rfl) (by exact fun _ _ _ h => h) (Or.inl ⟨by rfl, by (intro w hSw; (try dsimp only at hSw); go_simp; try with_reducible rfl)⟩) (by assumption) ?_
    (try dsimp only [Act.put]); (try go_frame)
    refine wpAnyH_take (i := 4) (v := _) (by first | (simp only [List.getElem?_toArray, List.getElem?_cons_zero, List.getElem?_cons_succ]; rfl) | rfl) (by kernel_rfl) (by kernel_rfl) (by kernel_rfl) (by exact fun _ _ _ h => h) (Or.inl ⟨by rfl, by (intro w hSw; (try dsimp only at hSw); go_simp; try with_reducible rfl)⟩) (by assumption) ?_
    (try dsimp only [Act.put]); (try go_frame)
    refine wpAnyH_take (i := 5) (v := _) (by first | (simp only [List.getElem?_toArray, List.getElem?_cons_zero, List.getElem?_cons_succ]; rfl) | rfl) (by kernel_rfl) (by kernel_rfl) (by kernel_rfl) (by exact fun _ _ _ h => h) (Or.inl ⟨by rfl, by (intro w hSw; (try dsimp only at hSw); go_simp; try with_reducible rfl)⟩) (by assumption) ?_
    (try dsimp only [Act.put]); (try go_frame)
    refine wpAnyH_take (i := 6) (v := _) (by first | (simp only [List.getElem?_toArray, List.getElem?_cons_zero, List.getElem?_cons_succ]; rfl) | rfl) (by kernel_rfl) (by kernel_rfl) (by kernel_rfl) (by exact fun _ _ _ h => h) (Or.inl ⟨by rfl, by (intro w hSw; (try dsimp only at hSw); go_simp; try with_reducible rfl)⟩) (by assumption) ?_
    (try dsimp only [Act.put]); (try go_frame)
    refine wpAnyH_take (i := 9) (v := _) (by first | (simp only [List.getElem?_toArray, List.getElem?_cons_zero, List.getElem?_cons_succ]; rfl) | rfl) (by kernel_rfl) (by kernel_rfl) (by kernel_rfl) (by exact fun _ _ _ h => h) (Or.inl ⟨by rfl, by (intro w hSw; (try dsimp only at hSw); go_simp; try with_reducible rfl)⟩) (by assumption) ?_
    (try dsimp only [Act.put]); (try go_frame)
    refine wpAnyH_take (i := 10) (v := _) (by first | (simp only [List.getElem?_toArray, List.getElem?_cons_zero, List.getElem?_cons_succ]; rfl) | rfl) (by kernel_rfl) (by kernel_rfl) (by kernel_rfl) (by exact fun _ _ _ h => h) (Or.inl ⟨by rfl, by (intro w hSw; (try dsimp only at hSw); go_simp; try with_reducible rfl)⟩) (by assumption) ?_
    (try dsimp only [Act.put]); (try go_frame)
    refine wpAnyH_take (i := 11) (v := _) (by first | (simp only [List.getElem?_toArray, List.getElem?_cons_zero, List.getElem?_cons_succ]; rfl) | rfl) (by kernel_rfl) (by kernel_rfl) (by kernel_rfl) (by exact fun _ _ _ h => h) (Or.inl ⟨by rfl, by (intro w hSw; (try dsimp only at hSw); go_simp; try with_reducible rfl)⟩) (by assumption) ?_
    (try dsimp only [Act.put]); (try go_frame)
    refine wpAnyH_take (i := 12) (v := _) (by first | (simp only [List.getElem?_toArray, List.getElem?_cons_zero, List.getElem?_cons_succ]; rfl) | rfl) (by kernel_rfl) (by kernel_rfl) (by kernel_rfl) (by exact fun _ _ _ h => h) (Or.inl ⟨by rfl, by (intro w hSw; (try dsimp only at hSw); go_simp; try with_reducible rfl)⟩) (by assumption) ?_
    (try dsimp only [Act.put]); (try go_frame)
    refine wpAnyH_take (i := 13) (v := _) (by first | (simp only [List.getElem?_toArray, List.getElem?_cons_zero, List.getElem?_cons_succ]; rfl) | rfl) (by kernel_rfl) (by kernel_rfl) (by kernel_rfl) (by exact fun _ _ _ h => h) (Or.inl ⟨by rfl, by (intro w hSw; (try dsimp only at hSw); go_simp; try with_reducible rfl)⟩) (by assumption) ?_
    (try dsimp only [Act.put]); (try go_frame)
    refine wpAnyH_take (i := 14) (v := _) (by first | (simp only [List.getElem?_toArray, List.getElem?_cons_zero, List.getElem?_cons_succ]; rfl) | rfl) (by kernel_rfl) (by kernel_rfl) (by kernel_rfl) (by exact fun _ _ _ h => h) (Or.inl ⟨by rfl, by (intro w hSw; (try dsimp only at hSw); go_simp; try with_reducible rfl)⟩) (by assumption) ?_
    (try dsimp only [Act.put]); (try go_frame)
    refine wpAnyH_ready (rs := [0, 8]) (by kernel_rfl) (by simp) ?_
    refine AllReadyH.cons rfl (fun K hK => ?_) (AllReadyH.cons rfl (fun K hK => ?_) AllReadyH.nil)
    · go_simp
      have I1 := IntAt.zero v1
      have q0 : Hid (w.heap.size ≤ v1.heap.size) := Lib.hid hb.size
      replace X := X.alloc (.cells #[.bool false, .slice none 0 0] 58)
      replace Y := Y.alloc (.cells #[.bool false, .slice none 0 0] 58)
      replace hr := hr.alloc (.cells #[.bool false, .slice none 0 0] 58)
      replace hb := hb.alloc hb.size (.cells #[.bool false, .slice none 0 0] 58)
      refine hK.out _ _ ?_ (fun hHeld => ?_)
      · trivial
      clear hK K
      generalize v1.alloc (.cells #[.bool false, .slice none 0 0] 58) = v2 at *
      generalize v1.heap.size = B1 at *
      have q_B1 := q0
      clear q0
      (try dsimp only [Act.put]); (try go_frame)
      refine wpAnyH_ready (rs := [7, 8]) (by kernel_rfl) (by simp) ?_
      refine AllReadyH.cons rfl (fun K hK => ?_) (AllReadyH.cons rfl (fun K hK => ?_) AllReadyH.nil)
      · go_simp
        refine (mul_any B1 0 bx 0 bY 2 (x.num) (y.den) v2 I1.room X.1 Y.2 (Nat.le_trans sx.out.1 (by omega)) (Nat.le_trans sy.out.den (by omega))).mono ?_
        rintro r wm1 ⟨rfl, I0, hB⟩
        replace X := X.but hB (by have := p_bx.out; have := q_B1.out; omega)
        replace Y := Y.but hB (by have := p_bY.out; have := q_B1.out; omega)
        replace hr := hr.but hB (by have := p_b.out; have := q_B1.out; omega)
        replace hb := hb.trans (hB.below q_B1.out hb.size)
        clear hB I1
        have I1 := I0
        clear I0
        refine hK.out _ _ ?_ (fun hHeld => ?_)
        · trivial
        clear hK K
        (try dsimp only [Act.put]); (try go_frame)
        refine wpAnyH_ready (rs := [8]) (by kernel_rfl) (by simp) ?_
        refine AllReadyH.cons rfl (fun K hK => ?_) AllReadyH.nil
        go_simp
        have I2 := IntAt.zero wm1
        have q0 : Hid (w.heap.size ≤ wm1.heap.size) := Lib.hid hb.size
        have q0_B1 : Hid (B1 < wm1.heap.size) := Lib.hid I1.lt
        replace X := X.alloc (.cells #[.bool false, .slice none 0 0] 58)
        replace Y := Y.alloc (.cells #[.bool false, .slice none 0 0] 58)
        replace hr := hr.alloc (.cells #[.bool false, .slice none 0 0] 58)
        replace I1 := I1.alloc (.cells #[.bool false, .slice none 0 0] 58)
        replace hb := hb.alloc hb.size (.cells #[.bool false, .slice none 0 0] 58)
        refine hK.out _ _ ?_ (fun hHeld => ?_)
        · trivial
        clear hK K
        generalize wm1.alloc (.cells #[.bool false, .slice none 0 0] 58) = v3 at *
        generalize wm1.heap.size = B2 at *
        have q_B2 := q0
        clear q0
        have q_B1_B2 := q0_B1
        clear q0_B1
        (try dsimp only [Act.put]); (try go_frame)
        refine wpAnyH_ready (rs := [15]) (by kernel_rfl) (by simp) ?_
        refine AllReadyH.cons rfl (fun K hK => ?_) AllReadyH.nil
        go_simp
        refine (mul_any B2 0 bY 0 bx 2 (y.num) (x.den) v3 I2.room Y.1 X.2 (Nat.le_trans sy.out.1 (by omega)) (Nat.le_trans sx.out.den (by omega))).mono ?_
        rintro r wm21 ⟨rfl, I0, hB⟩
        replace X := X.but hB (by have := p_bx.out; have := q_B2.out; omega)
        replace Y := Y.but hB (by have := p_bY.out; have := q_B2.out; omega)
        replace hr := hr.but hB (by have := p_b.out; have := q_B2.out; omega)
        replace I1 := I1.but hB (.inl (by have := q_B1_B2.out; omega))
        replace hb := hb.trans (hB.below q_B2.out hb.size)
        clear hB I2
        have I2 := I0
        clear I0
        refine hK.out _ _ ?_ (fun hHeld => ?_)
        · trivial
        clear hK K
        (try dsimp only [Act.put]); (try go_frame)
        refine wpAnyH_take (i := 16) (v := _) (by first | (simp only [List.getElem?_toArray, List.getElem?_cons_zero, List.getElem?_cons_succ]; rfl) | rfl) (by kernel_rfl) (by kernel_rfl) (by kernel_rfl) (by exact fun _ _ _ h => h) (Or.inl ⟨by rfl, by (intro w hSw; (try dsimp only at hSw); go_simp; try with_reducible rfl)⟩) (by assumption) ?_
        (try dsimp only [Act.put]); (try go_frame)
        refine wpAnyH_take (i := 17) (v := _) (by first | (simp only [List.getElem?_toArray, List.getElem?_cons_zero, List.getElem?_cons_succ]; rfl) | rfl) (by kernel_rfl) (by kernel_rfl) (by kernel_rfl) (by exact fun _ _ _ h => h) (Or.inl ⟨by rfl, by (intro w hSw; (try dsimp only at hSw); go_simp; try with_reducible rfl)⟩) (by assumption) ?_
        (try dsimp only [Act.put]); (try go_frame)
        refine wpAnyH_done (by kernel_rfl) ?_ _
        try simp only [QCut]
        go_wp2_with fail
        go_meet
        exact ⟨B1, B2, rfl, rfl, I1, I2, q_B1.out, q_B2.out, .inl q_B1_B2.out, X, Y, hr, hb⟩
      · go_simp
        have I2 := IntAt.zero v2
        have q0 : Hid (w.heap.size ≤ v2.heap.size) := Lib.hid hb.size
        have q0_B1 : Hid (B1 < v2.heap.size) := Lib.hid I1.lt
        replace X := X.alloc (.cells #[.bool false, .slice none 0 0] 58)
        replace Y := Y.alloc (.cells #[.bool false, .slice none 0 0] 58)
        replace hr := hr.alloc (.cells #[.bool false, .slice none 0 0] 58)
        replace I1 := I1.alloc (.cells #[.bool false, .slice none 0 0] 58)
        replace hb := hb.alloc hb.size (.cells #[.bool false, .slice none 0 0] 58)
        refine hK.out _ _ ?_ (fun hHeld => ?_)
        · trivial
        clear hK K
        generalize v2.alloc (.cells #[.bool false, .slice none 0 0] 58) = v3 at *
        generalize v2.heap.size = B2 at *
        have q_B2 := q0
        clear q0
        have q_B1_B2 := q0_B1
        clear q0_B1
        (try dsimp only [Act.put]); (try go_frame)
        refine wpAnyH_ready (rs := [7]) (by kernel_rfl) (by simp) ?_
        refine AllReadyH.cons rfl (fun K hK => ?_) AllReadyH.nil
        go_simp
        refine (mul_any B1 0 bx 0 bY 2 (x.num) (y.den) v3 I1.room X.1 Y.2 (Nat.le_trans sx.out.1 (by omega)) (Nat.le_trans sy.out.den (by omega))).mono ?_
        rintro r wm14 ⟨rfl, I0, hB⟩
        replace X := X.but hB (by have := p_bx.out; have := q_B1.out; omega)
        replace Y := Y.but hB (by have := p_bY.out; have := q_B1.out; omega)
        replace hr := hr.but hB (by have := p_b.out; have := q_B1.out; omega)
        replace I2 := I2.but hB (.inl (by have := q_B1_B2.out; omega))
        replace hb := hb.trans (hB.below q_B1.out hb.size)
        clear hB I1
        have I1 := I0
        clear I0
        refine hK.out _ _ ?_ (fun hHeld => ?_)
        · trivial
        clear hK K
        (try dsimp only [Act.put]); (try go_frame)
        refine wpAnyH_ready (rs := [15]) (by kernel_rfl) (by simp) ?_
        refine AllReadyH.cons rfl (fun K hK => ?_) AllReadyH.nil
        go_simp
        refine (mul_any B2 0 bY 0 bx 2 (y.num) (x.den) wm14 I2.room Y.1 X.2 (Nat.le_trans sy.out.1 (by omega)) (Nat.le_trans sx.out.den (by omega))).mono ?_
        rintro r wm22 ⟨rfl, I0, hB⟩
        replace X := X.but hB (by have := p_bx.out; have := q_B2.out; omega)
        replace Y := Y.but hB (by have := p_bY.out; have := q_B2.out; omega)
        replace hr := hr.but hB (by have := p_b.out; have := q_B2.out; omega)
        replace I1 := I1.but hB (.inl (by have := q_B1_B2.out; omega))
        replace hb := hb.trans (hB.below q_B2.out hb.size)
        clear hB I2
        have I2 := I0
        clear I0
        refine hK.out _ _ ?_ (fun hHeld => ?_)
        · trivial
        clear hK K
        (try dsimp only [Act.put]); (try go_frame)
        refine wpAnyH_take (i := 16) (v := _) (by first | (simp only [List.getElem?_toArray, List.getElem?_cons_zero, List.getElem?_cons_succ]; rfl) | rfl) (by kernel_rfl) (by kernel_rfl) (by kernel_rfl) (by exact fun _ _ _ h => h) (Or.inl ⟨by rfl, by (intro w hSw; (try dsimp only at hSw); go_simp; try with_reducible rfl)⟩) (by assumption) ?_
        (try dsimp only [Act.put]); (try go_frame)
        refine wpAnyH_take (i := 17) (v := _) (by first | (simp only [List.getElem?_toArray, List.getElem?_cons_zero, List.getElem?_cons_succ]; rfl) | rfl) (by kernel_rfl) (by kernel_rfl) (by kernel_rfl) (by exact fun _ _ _ h => h) (Or.inl ⟨by rfl, by (intro w hSw; (try dsimp only at hSw); go_simp; try with_reducible rfl)⟩) (by assumption) ?_
        (try dsimp only [Act.put]); (try go_frame)
        refine wpAnyH_done (by kernel_rfl) ?_ _
        try simp only [QCut]
        go_wp2_with fail
        go_meet
        exact ⟨B1, B2, rfl, rfl, I1, I2, q_B1.out, q_B2.out, .inl q_B1_B2.out, X, Y, hr, hb⟩
    · go_simp
      have I2 := IntAt.zero v1
      have q0 : Hid (w.heap.size ≤ v1.heap.size) := Lib.hid hb.size
      replace X := X.alloc (.cells #[.bool false, .slice none 0 0] 58)
      replace Y := Y.alloc (.cells #[.bool false, .slice none 0 0] 58)
      replace hr := hr.alloc (.cells #[.bool false, .slice none 0 0] 58)
      replace hb := hb.alloc hb.size (.cells #[.bool false, .slice none 0 0] 58)
      refine hK.out _ _ ?_ (fun hHeld => ?_)
      · trivial
      clear hK K
      generalize v1.alloc (.cells #[.bool false, .slice none 0 0] 58) = v2 at *
      generalize v1.heap.size = B2 at *
      have q_B2 := q0
      clear q0
      (try dsimp only [Act.put]); (try go_frame)
      refine wpAnyH_ready (rs := [0]) (by kernel_rfl) (by simp) ?_
      refine AllReadyH.cons rfl (fun K hK => ?_) AllReadyH.nil
      go_simp
      have I1 := IntAt.zero v2
      have q0 : Hid (w.heap.size ≤ v2.heap.size) := Lib.hid hb.size
      have q0_B2 : Hid (B2 < v2.heap.size) := Lib.hid I2.lt
      replace X := X.alloc (.cells #[.bool false, .slice none 0 0] 58)
      replace Y := Y.alloc (.cells #[.bool false, .slice none 0 0] 58)
      replace hr := hr.alloc (.cells #[.bool false, .slice none 0 0] 58)
      replace I2 := I2.alloc (.cells #[.bool false, .slice none 0 0] 58)
      replace hb := hb.alloc hb.size (.cells #[.bool false, .slice none 0 0] 58)
      refine hK.out _ _ ?_ (fun hHeld => ?_)
      · trivial
      clear hK K
      generalize v2.alloc (.cells #[.bool false, .slice none 0 0] 58) = v3 at *
      generalize v2.heap.size = B1 at *
      have q_B1 := q0
      clear q0
      have q_B2_B1 := q0_B2
      clear q0_B2
      (try dsimp only [Act.put]); (try go_frame)
      refine wpAnyH_ready (rs := [7]) (by kernel_rfl) (by simp) ?_
      refine AllReadyH.cons rfl (fun K hK => ?_) AllReadyH.nil
      go_simp
      refine (mul_any B1 0 bx 0 bY 2 (x.num) (y.den) v3 I1.room X.1 Y.2 (Nat.le_trans sx.out.1 (by omega)) (Nat.le_trans sy.out.den (by omega))).mono ?_
      rintro r wm24 ⟨rfl, I0, hB⟩
      replace X := X.but hB (by have := p_bx.out; have := q_B1.out; omega)
      replace Y := Y.but hB (by have := p_bY.out; have := q_B1.out; omega)
      replace hr := hr.but hB (by have := p_b.out; have := q_B1.out; omega)
      replace I2 := I2.but hB (.inl (by have := q_B2_B1.out; omega))
      replace hb := hb.trans (hB.below q_B1.out hb.size)
      clear hB I1
      have I1 := I0
      clear I0
      refine hK.out _ _ ?_ (fun hHeld => ?_)
      · trivial
      clear hK K
      (try dsimp only [Act.put]); (try go_frame)
      refine wpAnyH_ready (rs := [15]) (by kernel_rfl) (by simp) ?_
      refine AllReadyH.cons rfl (fun K hK => ?_) AllReadyH.nil
      go_simp
      refine (mul_any B2 0 bY 0 bx 2 (y.num) (x.den) wm24 I2.room Y.1 X.2 (Nat.le_trans sy.out.1 (by omega)) (Nat.le_trans sx.out.den (by omega))).mono ?_
      rintro r wm32 ⟨rfl, I0, hB⟩
      replace X := X.but hB (by have := p_bx.out; have := q_B2.out; omega)
      replace Y := Y.but hB (by have := p_bY.out; have := q_B2.out; omega)
      replace hr := hr.but hB (by have := p_b.out; have := q_B2.out; omega)
      replace I1 := I1.but hB (.inl (by have := q_B2_B1.out; omega))
      replace hb := hb.trans (hB.below q_B2.out hb.size)
      clear hB I2
      have I2 := I0
      clear I0
      refine hK.out _ _ ?_ (fun hHeld => ?_)
      · trivial
      clear hK K
      (try dsimp only [Act.put]); (try go_frame)
      refine wpAnyH_take (i := 16) (v := _) (by first | (simp only [List.getElem?_toArray, List.getElem?_cons_zero, List.getElem?_cons_succ]; rfl) | rfl) (by kernel_rfl) (by kernel_rfl) (by kernel_rfl) (by exact fun _ _ _ h => h) (Or.inl ⟨by rfl, by (intro w hSw; (try dsimp only at hSw); go_simp; try with_reducible rfl)⟩) (by assumption) ?_
      (try dsimp only [Act.put]); (try go_frame)
      refine wpAnyH_take (i := 17) (v := _) (by first | (simp only [List.getElem?_toArray, List.getElem?_cons_zero, List.getElem?_cons_succ]; rfl) | rfl) (by kernel_rfl) (by kernel_rfl) (by kernel_rfl) (by exact fun _ _ _ h => h) (Or.inl ⟨by rfl, by (intro w hSw; (try dsimp only at hSw); go_simp; try with_reducible rfl)⟩) (by assumption) ?_
      (try dsimp only [Act.put]); (try go_frame)
      refine wpAnyH_done (by kernel_rfl) ?_ _
      try simp only [QCut]
      go_wp2_with fail
      go_meet
      exact ⟨B1, B2, rfl, rfl, I1, I2, q_B1.out, q_B2.out, .inr q_B2_B1.out, X, Y, hr, hb⟩
  case rest =>
    clear X Y hr hb
    obtain ⟨B1, B2, rfl, rfl, I1, I2, q_B10, q_B20, nB0, X, Y, hr, hb⟩ := hcut
    have q_B1 := Lib.hid q_B10
    have q_B2 := Lib.hid q_B20
    have nB : Hid (B1 ≠ B2) := Lib.hid (by omega)
    clear q_B10 q_B20 nB0
    go_wp2_with fail
    refine wp_region_any (by kernel_rfl) ?_
    have hHeld : (fun _ : World => True) wc.drew := trivial
    refine wpAny_of_held (S := fun _ : World => True) _ _ _ (wc.drew) ?_
    replace X : RatAt (wc.drew) bx x := X
    replace Y : RatAt (wc.drew) bY y := Y
    replace hr : RRoom (wc.drew) b := hr
    replace I1 : IntAt (wc.drew) B1 0 (x.num * (y.den : Int)) := I1
    replace I2 : IntAt (wc.drew) B2 0 (y.num * (x.den : Int)) := I2
    replace hb : Below w.heap.size w wc.drew := hb.drew
    generalize wc.drew = v1 at *
    refine wpAnyH_take (i := 0) (v := _) (by first | (simp only [List.getElem?_toArray, List.getElem?_cons_zero]; rfl) | rfl) (by kernel_rfl) (by kernel_rfl) (by kernel_rfl) (by exact fun _ _ _ h => h) (Or.inl ⟨by rfl, by (intro w hSw; (try dsimp only at hSw); go_simp; try with_reducible rfl)⟩) (by assumption) ?_
    (try dsimp only [Act.put]); (try go_frame)
    refine wpAnyH_take (i := 1) (v := _) (by first | (simp only [List.getElem?_toArray, List.getElem?_cons_zero, List.getElem?_cons_succ]; rfl) | rfl) (by kernel_rfl) (by kernel_rfl) (by kernel_rfl) (by exact fun _ _ _ h => h) (Or.inl ⟨by rfl, by (intro w hSw; (try dsimp only at hSw); go_simp; try with_reducible rfl)⟩) (by assumption) ?_
    (try dsimp only [Act.put]); (try go_frame)
    refine wpAnyH_take (i := 2) (v := _) (by first | (simp only [List.getElem?_toArray, List.getElem?_cons_zero, List.getElem?_cons_succ]; rfl) | rfl) (by kernel_rfl) (by kernel_rfl) (by kernel_rfl) (by exact fun _ _ _ h => h) (Or.inl ⟨by rfl, by (intro w hSw; (try dsimp only at hSw); go_simp; try with_reducible rfl)⟩) (by assumption) ?_
    (try dsimp only [Act.put]); (try go_frame)
    refine wpAnyH_take (i := 3) (v := _) (by first | (simp only [List.getElem?_toArray, List.getElem?_cons_zero, List.getElem?_cons_succ]; rfl) | rfl) (by kernel_rfl) (by kernel_rfl) (by kernel_rfl) (by exact fun _ _ _ h => h) (Or.inl ⟨by rfl, by (intro w hSw; (try dsimp only at hSw); go_simp; try with_reducible rfl)⟩) (by assumption) ?_
    (try dsimp only [Act.put]); (try go_frame)
    refine wpAnyH_take (i := 6) (v := _) (by first | (simp only [List.getElem?_toArray, List.getElem?_cons_zero, List.getElem?_cons_succ]; rfl) | rfl) (by kernel_rfl) (by kernel_rfl) (by kernel_rfl) (by exact fun _ _ _ h => h) (Or.inl ⟨by rfl, by (intro w hSw; (try dsimp only at hSw); go_simp; try with_reducible rfl)⟩) (by assumption) ?_
    (try dsimp only [Act.put]); (try go_frame)
    refine wpAnyH_take (i := 7) (v := _) (by first | (simp only [List.getElem?_toArray, List.getElem?_cons_zero, List.getElem?_cons_succ]; rfl) | rfl) (by kernel_rfl) (by kernel_rfl) (by kernel_rfl) (by exact fun _ _ _ h => h) (Or.inl ⟨by rfl, by (intro w hSw; (try dsimp only at hSw); go_simp; try with_reducible rfl)⟩) (by assumption) ?_
    (try dsimp only [Act.put]); (try go_frame)
    refine wpAnyH_take (i := 8) (v := _) (by first | (simp only [List.getElem?_toArray, List.getElem?_cons_zero, List.getElem?_cons_succ]; rfl) | rfl) (by kernel_rfl) (by kernel_rfl) (by kernel_rfl) (by exact fun _ _ _ h => h) (Or.inl ⟨by rfl, by (intro w hSw; (try dsimp only at hSw); go_simp; try with_reducible rfl)⟩) (by assumption) ?_
    (try dsimp only [Act.put]); (try go_frame)
    refine wpAnyH_take (i := 9) (v := _) (by first | (simp only [List.getElem?_toArray, List.getElem?_cons_zero, List.getElem?_cons_succ]; rfl) | rfl) (by kernel_rfl) (by kernel_rfl) (by kernel_rfl) (by exact fun _ _ _ h => h) (Or.inl ⟨by rfl, by (intro w hSw; (try dsimp only at hSw); go_simp; try with_reducible rfl)⟩) (by assumption) ?_
    (try dsimp only [Act.put]); (try go_frame)
    refine wpAnyH_take (i := 10) (v := _) (by first | (simp only [List.getElem?_toArray, List.getElem?_cons_zero, List.getElem?_cons_succ]; rfl) | rfl) (by kernel_rfl) (by kernel_rfl) (by kernel_rfl) (by exact fun _ _ _ h => h) (Or.inl ⟨by rfl, by (intro w hSw; (try dsimp only at hSw); go_simp; try with_reducible rfl)⟩) (by assumption) ?_
    (try dsimp only [Act.put]); (try go_frame)
    refine wpAnyH_take (i := 11) (v := _) (by first | (simp only [List.getElem?_toArray, List.getElem?_cons_zero, List.getElem?_cons_succ]; rfl) | rfl) (by kernel_rfl) (by kernel_rfl) (by kernel_rfl) (by exact fun _ _ _ h => h) (Or.inl ⟨by rfl, by (intro w hSw; (try dsimp only at hSw); go_simp; try with_reducible rfl)⟩) (by assumption) ?_
    (try dsimp only [Act.put]); (try go_frame)
    refine wpAnyH_ready (rs := [4, 5]) (by kernel_rfl) (by simp) ?_
    refine AllReadyH.cons rfl (fun K hK => ?_) (AllReadyH.cons rfl (fun K hK => ?_) AllReadyH.nil)
    · go_simp
      refine (add_any B1 0 B1 0 B2 0 (x.num * (y.den : Int)) (y.num * (x.den : Int)) v1 I1.room I1 I2 (Nat.le_trans s1.out (by omega)) (Nat.le_trans s2.out (by omega))).mono ?_
      rintro r wa1 ⟨rfl, I0, hB⟩
      replace X := X.but hB (by have := p_bx.out; have := q_B1.out; omega)
      replace Y := Y.but hB (by have := p_bY.out; have := q_B1.out; omega)
      replace hr := hr.but hB (by have := p_b.out; have := q_B1.out; omega)
      replace I2 := I2.but hB (.inl (Ne.symm nB.out))
      replace hb := hb.trans (hB.below q_B1.out hb.size)
      clear hB I1
      have I1 := I0
      clear I0
      refine hK.out _ _ ?_ (fun hHeld => ?_)
      · trivial
      clear hK K
      (try dsimp only [Act.put]); (try go_frame)
      refine wpAnyH_ready (rs := [5]) (by kernel_rfl) (by simp) ?_
      refine AllReadyH.cons rfl (fun K hK => ?_) AllReadyH.nil
      go_simp
      have I3 := IntAt.zero wa1
      have q0 : Hid (w.heap.size ≤ wa1.heap.size) := Lib.hid hb.size
      have q0_B1 : Hid (B1 < wa1.heap.size) := Lib.hid I1.lt
      have q0_B2 : Hid (B2 < wa1.heap.size) := Lib.hid I2.lt
      replace X := X.alloc (.cells #[.bool false, .slice none 0 0] 58)
      replace Y := Y.alloc (.cells #[.bool false, .slice none 0 0] 58)
      replace hr := hr.alloc (.cells #[.bool false, .slice none 0 0] 58)
      replace I1 := I1.alloc (.cells #[.bool false, .slice none 0 0] 58)
      replace I2 := I2.alloc (.cells #[.bool false, .slice none 0 0] 58)
      replace hb := hb.alloc hb.size (.cells #[.bool false, .slice none 0 0] 58)
      refine hK.out _ _ ?_ (fun hHeld => ?_)
      · trivial
      clear hK K
      generalize wa1.alloc (.cells #[.bool false, .slice none 0 0] 58) = v2 at *
      generalize wa1.heap.size = B3 at *
      have q_B3 := q0
      clear q0
      have q_B1_B3 := q0_B1
      clear q0_B1
      have q_B2_B3 := q0_B2
      clear q0_B2
      (try dsimp only [Act.put]); (try go_frame)
      refine wpAnyH_ready (rs := [12]) (by kernel_rfl) (by simp) ?_
      refine AllReadyH.cons rfl (fun K hK => ?_) AllReadyH.nil
      go_simp
      refine (mul_any B3 0 bx 2 bY 2 (x.den) (y.den) v2 I3.room X.2 Y.2 (Nat.le_trans sx.out.den (by omega)) (Nat.le_trans sy.out.den (by omega))).mono ?_
      rintro r wm25 ⟨rfl, I0, hB⟩
      replace X := X.but hB (by have := p_bx.out; have := q_B3.out; omega)
      replace Y := Y.but hB (by have := p_bY.out; have := q_B3.out; omega)
      replace hr := hr.but hB (by have := p_b.out; have := q_B3.out; omega)
      replace I1 := I1.but hB (.inl (by have := q_B1_B3.out; omega))
      replace I2 := I2.but hB (.inl (by have := q_B2_B3.out; omega))
      replace hb := hb.trans (hB.below q_B3.out hb.size)
      clear hB I3
      have I3 := I0
      clear I0
      refine hK.out _ _ ?_ (fun hHeld => ?_)
      · trivial
      clear hK K
      (try dsimp only [Act.put]); (try go_frame)
      refine wpAnyH_ready (rs := [13]) (by kernel_rfl) (by simp) ?_
      refine AllReadyH.cons rfl (fun K hK => ?_) AllReadyH.nil
      go_simp
      refine (norm_any b B1 0 B3 0 (x.num * (y.den : Int) + y.num * (x.den : Int)) ((x.den : Int) * (y.den : Int)) wm25 hr I1 I3 (by have := q_B1.out; have := p_b.out; omega) (by have := q_B3.out; have := p_b.out; omega) (den_mul_ne x y) (Nat.le_trans s4.out (by omega)) (Nat.le_trans s3.out (by omega))).mono ?_
      rintro r wz ⟨rfl, R0, hF⟩
      have hFF := Far.after hb hF hr0.out
      refine hK.out _ _ ?_ (fun hHeld => ?_)
      · trivial
      clear hK K I1 I2 I3 X Y hr hb hF
      (try dsimp only [Act.put]); (try go_frame)
      refine wpAnyH_take (i := 14) (v := _) (by first | (simp only [List.getElem?_toArray, List.getElem?_cons_zero, List.getElem?_cons_succ]; rfl) | rfl) (by kernel_rfl) (by kernel_rfl) (by kernel_rfl) (by exact fun _ _ _ h => h) (Or.inl ⟨by rfl, by (intro w hSw; (try dsimp only at hSw); go_simp; try with_reducible rfl)⟩) (by assumption) ?_
      (try dsimp only [Act.put]); (try go_frame)
      refine wpAnyH_done (by kernel_rfl) ?_ _
      try simp only [QCut]
      go_wp2
      go_ret
      exact ⟨rfl, by rw [← divInt_add]; exact R0, hFF⟩
    · go_simp
      have I3 := IntAt.zero v1
      have q0 : Hid (w.heap.size ≤ v1.heap.size) := Lib.hid hb.size
      have q0_B1 : Hid (B1 < v1.heap.size) := Lib.hid I1.lt
      have q0_B2 : Hid (B2 < v1.heap.size) := Lib.hid I2.lt
      replace X := X.alloc (.cells #[.bool false, .slice none 0 0] 58)
      replace Y := Y.alloc (.cells #[.bool false, .slice none 0 0] 58)
      replace hr := hr.alloc (.cells #[.bool false, .slice none 0 0] 58)
      replace I1 := I1.alloc (.cells #[.bool false, .slice none 0 0] 58)
      replace I2 := I2.alloc (.cells #[.bool false, .slice none 0 0] 58)
      replace hb := hb.alloc hb.size (.cells #[.bool false, .slice none 0 0] 58)
      refine hK.out _ _ ?_ (fun hHeld => ?_)
      · trivial
      clear hK K
      generalize v1.alloc (.cells #[.bool false, .slice none 0 0] 58) = v2 at *
      generalize v1.heap.size = B3 at *
      have q_B3 := q0
      clear q0
      have q_B1_B3 := q0_B1
      clear q0_B1
      have q_B2_B3 := q0_B2
      clear q0_B2
      (try dsimp only [Act.put]); (try go_frame)
      refine wpAnyH_ready (rs := [4]) (by kernel_rfl) (by simp) ?_
      refine AllReadyH.cons rfl (fun K hK => ?_) AllReadyH.nil
      go_simp
      refine (add_any B1 0 B1 0 B2 0 (x.num * (y.den : Int)) (y.num * (x.den : Int)) v2 I1.room I1 I2 (Nat.le_trans s1.out (by omega)) (Nat.le_trans s2.out (by omega))).mono ?_
      rintro r wa17 ⟨rfl, I0, hB⟩
      replace X := X.but hB (by have := p_bx.out; have := q_B1.out; omega)
      replace Y := Y.but hB (by have := p_bY.out; have := q_B1.out; omega)
      replace hr := hr.but hB (by have := p_b.out; have := q_B1.out; omega)
      replace I2 := I2.but hB (.inl (Ne.symm nB.out))
      replace I3 := I3.but hB (.inl (by have := q_B1_B3.out; omega))
      replace hb := hb.trans (hB.below q_B1.out hb.size)
      clear hB I1
      have I1 := I0
      clear I0
      refine hK.out _ _ ?_ (fun hHeld => ?_)
      · trivial
      clear hK K
      (try dsimp only [Act.put]); (try go_frame)
      refine wpAnyH_ready (rs := [12]) (by kernel_rfl) (by simp) ?_
      refine AllReadyH.cons rfl (fun K hK => ?_) AllReadyH.nil
      go_simp
      refine (mul_any B3 0 bx 2 bY 2 (x.den) (y.den) wa17 I3.room X.2 Y.2 (Nat.le_trans sx.out.den (by omega)) (Nat.le_trans sy.out.den (by omega))).mono ?_
      rintro r wm26 ⟨rfl, I0, hB⟩
      replace X := X.but hB (by have := p_bx.out; have := q_B3.out; omega)
      replace Y := Y.but hB (by have := p_bY.out; have := q_B3.out; omega)
      replace hr := hr.but hB (by have := p_b.out; have := q_B3.out; omega)
      replace I1 := I1.but hB (.inl (by have := q_B1_B3.out; omega))
      replace I2 := I2.but hB (.inl (by have := q_B2_B3.out; omega))
      replace hb := hb.trans (hB.below q_B3.out hb.size)
      clear hB I3
      have I3 := I0
      clear I0
      refine hK.out _ _ ?_ (fun hHeld => ?_)
      · trivial
      clear hK K
      (try dsimp only [Act.put]); (try go_frame)
      refine wpAnyH_ready (rs := [13]) (by kernel_rfl) (by simp) ?_
      refine AllReadyH.cons rfl (fun K hK => ?_) AllReadyH.nil
      go_simp
      refine (norm_any b B1 0 B3 0 (x.num * (y.den : Int) + y.num * (x.den : Int)) ((x.den : Int) * (y.den : Int)) wm26 hr I1 I3 (by have := q_B1.out; have := p_b.out; omega) (by have := q_B3.out; have := p_b.out; omega) (den_mul_ne x y) (Nat.le_trans s4.out (by omega)) (Nat.le_trans s3.out (by omega))).mono ?_
      rintro r wz ⟨rfl, R0, hF⟩
      have hFF := Far.after hb hF hr0.out
      refine hK.out _ _ ?_ (fun hHeld => ?_)
      · trivial
      clear hK K I1 I2 I3 X Y hr hb hF
      (try dsimp only [Act.put]); (try go_frame)
      refine wpAnyH_take (i := 14) (v := _) (by first | (simp only [List.getElem?_toArray, List.getElem?_cons_zero, List.getElem?_cons_succ]; rfl) | rfl) (by kernel_rfl) (by kernel_rfl) (by kernel_rfl) (by exact fun _ _ _ h => h) (Or.inl ⟨by rfl, by (intro w hSw; (try dsimp only at hSw); go_simp; try with_reducible rfl)⟩) (by assumption) ?_
      (try dsimp only [Act.put]); (try go_frame)
      refine wpAnyH_done (by kernel_rfl) ?_ _
      try simp only [QCut]
      go_wp2
      go_ret
      exact ⟨rfl, by rw [← divInt_add]; exact R0, hFF⟩

set_option maxRecDepth 100000 in
set_option maxHeartbeats 4000000 in
theorem ratcmp_any (bx bY : Nat) (x y : Rat) (w : World) (X : RatAt w bx x) (Y : RatAt w bY y) (hx : Szd 100000000000 x) (hy : Szd 100000000000 y) :
    Calls Tryz.prog 35 #[.pointer (some ⟨bx, 0, none⟩), .pointer (some ⟨bY, 0, none⟩)] w fun e w' => e = .returned (.int .i64 (cmpR x y)) ∧ Below w.heap.size w w' := by
  have s1 : Hid (dn 32 (x.num * (y.den : Int)).natAbs ≤ 200000000000) := Lib.hid (dn_mulI (j := 100000000000) (k := 100000000000) hx.1 hy.den)
  have s2 : Hid (dn 32 (y.num * (x.den : Int)).natAbs ≤ 200000000000) := Lib.hid (dn_mulI (j := 100000000000) (k := 100000000000) hy.1 hx.den)
  have sx := Lib.hid hx
  have sy := Lib.hid hy
  clear hx hy
  have hb := Below.refl w.heap.size w
  have p_bx : Hid (bx < w.heap.size) := Lib.hid X.lt
  have p_bY : Hid (bY < w.heap.size) := Lib.hid Y.lt
  go_enter Tryz.func35, Tryz.ntmps35
  go_wp2_with fail
  refine wp_region_any (by kernel_rfl) ?_
  have hHeld : (fun _ : World => True) w.drew := trivial
  refine wpAny_of_held (S := fun _ : World => True) _ _ _ (w.drew) ?_
  replace X : RatAt (w.drew) bx x := X
  replace Y : RatAt (w.drew) bY y := Y
  replace hb : Below w.heap.size w w.drew := hb.drew
  generalize w.drew = v1 at *
  refine wpAnyH_take (i := 1) (v := _) (by first | (simp only [List.getElem?_toArray, List.getElem?_cons_zero, List.getElem?_cons_succ]; rfl) | rfl) (by kernel_rfl) (by kernel_rfl) (by kernel_rfl) (by exact fun _ _ _ h => h) (Or.inl ⟨by rfl, by (intro w hSw; (try dsimp only at hSw); go_simp; try with_reducible rfl)⟩) (by assumption) ?_
  (try dsimp only [Act.put]); (try go_frame)
  refine wpAnyH_take (i := 2) (v := _) (by first | (simp only [List.getElem?_toArray, List.getElem?_cons_zero, List.getElem?_cons_succ]; rfl) | rfl) (by kernel_rfl) (by kernel_rfl) (by kernel_rfl) (by exact fun _ _ _ h => h) (Or.inl ⟨by rfl, by (intro w hSw; (try dsimp only at hSw); go_simp; try with_reducible rfl)⟩) (by assumption) ?_
  (try dsimp only [Act.put]); (try go_frame)
  refine wpAnyH_take (i := 3) (v := _) (by first | (simp only [List.getElem?_toArray, List.getElem?_cons_zero, List.getElem?_cons_succ]; rfl) | rfl) (by kernel_rfl) (by kernel_rfl) (by kernel_rfl) (by exact fun _ _ _ h => h) (Or.inl ⟨by rfl, by (intro w hSw; (try dsimp only at hSw); go_simp; try with_reducible rfl)⟩) (by assumption) ?_
  (try dsimp only [Act.put]); (try go_frame)
  refine wpAnyH_take (i := 4) (v := _) (by first | (simp only [List.getElem?_toArray, List.getElem?_cons_zero, List.getElem?_cons_succ]; rfl) | rfl) (by kernel_rfl) (by kernel_rfl) (by kernel_rfl) (by exact fun _ _ _ h => h) (Or.inl ⟨by rfl, by (intro w hSw; (try dsimp only at hSw); go_simp; try with_reducible rfl)⟩) (by assumption) ?_
  (try dsimp only [Act.put]); (try go_frame)
  refine wpAnyH_take (i := 5) (v := _) (by first | (simp only [List.getElem?_toArray, List.getElem?_cons_zero, List.getElem?_cons_succ]; rfl) | rfl) (by kernel_rfl) (by kernel_rfl) (by kernel_rfl) (by exact fun _ _ _ h => h) (Or.inl ⟨by rfl, by (intro w hSw; (try dsimp only at hSw); go_simp; try with_reducible rfl)⟩) (by assumption) ?_
  (try dsimp only [Act.put]); (try go_frame)
  refine wpAnyH_take (i := 6) (v := _) (by first | (simp only [List.getElem?_toArray, List.getElem?_cons_zero, List.getElem?_cons_succ]; rfl) | rfl) (by kernel_rfl) (by kernel_rfl) (by kernel_rfl) (by exact fun _ _ _ h => h) (Or.inl ⟨by rfl, by (intro w hSw; (try dsimp only at hSw); go_simp; try with_reducible rfl)⟩) (by assumption) ?_
  (try dsimp only [Act.put]); (try go_frame)
  refine wpAnyH_take (i := 9) (v := _) (by first | (simp only [List.getElem?_toArray, List.getElem?_cons_zero, List.getElem?_cons_succ]; rfl) | rfl) (by kernel_rfl) (by kernel_rfl) (by kernel_rfl) (by exact fun _ _ _ h => h) (Or.inl ⟨by rfl, by (intro w hSw; (try dsimp only at hSw); go_simp; try with_reducible rfl)⟩) (by assumption) ?_
  (try dsimp only [Act.put]); (try go_frame)
  refine wpAnyH_take (i := 10) (v := _) (by first | (simp only [List.getElem?_toArray, List.getElem?_cons_zero, List.getElem?_cons_succ]; rfl) | rfl) (by kernel_rfl) (by kernel_rfl) (by kernel_rfl) (by exact fun _ _ _ h => h) (Or.inl ⟨by rfl, by (intro w hSw; (try dsimp only at hSw); go_simp; try with_reducible rfl)⟩) (by assumption) ?_
  (try dsimp only [Act.put]); (try go_frame)
  refine wpAnyH_take (i := 11) (v := _) (by first | (simp only [List.getElem?_toArray, List.getElem?_cons_zero, List.getElem?_cons_succ]; rfl) | rfl) (by kernel_rfl) (by kernel_rfl) (by kernel_rfl) (by exact fun _ _ _ h => h) (Or.inl ⟨by rfl, by (intro w hSw; (try dsimp only at hSw); go_simp; try with_reducible rfl)⟩) (by assumption) ?_
  (try dsimp only [Act.put]); (try go_frame)
  refine wpAnyH_take (i := 12) (v := _) (by first | (simp only [List.getElem?_toArray, List.getElem?_cons_zero, List.getElem?_cons_succ]; rfl) | rfl) (by kernel_rfl) (by kernel_rfl) (by kernel_rfl) (by exact fun _ _ _ h => h) (Or.inl ⟨by rfl, by (intro w hSw; (try dsimp only at hSw); go_simp; try with_reducible rfl)⟩) (by assumption) ?_
  (try dsimp only [Act.put]); (try go_frame)
  refine wpAnyH_take (i := 13) (v := _) (by first | (simp only [List.getElem?_toArray, List.getElem?_cons_zero, List.getElem?_cons_succ]; rfl) | rfl) (by kernel_rfl) (by kernel_rfl) (by kernel_rfl) (by exact fun _ _ _ h => h) (Or.inl ⟨by rfl, by (intro w hSw; (try dsimp only at hSw); go_simp; try with_reducible rfl)⟩) (by assumption) ?_
  (try dsimp only [Act.put]); (try go_frame)
  refine wpAnyH_take (i := 14) (v := _) (by first | (simp only [List.getElem?_toArray, List.getElem?_cons_zero, List.getElem?_cons_succ]; rfl) | rfl) (by kernel_rfl) (by kernel_rfl) (by kernel_rfl) (by exact fun _ _ _ h => h) (Or.inl ⟨by rfl, by (intro w hSw; (try dsimp only at hSw); go_simp; try with_reducible rfl)⟩) (by assumption) ?_
  (try dsimp only [Act.put]); (try go_frame)
  refine wpAnyH_ready (rs := [0, 8]) (by kernel_rfl) (by simp) ?_
  refine AllReadyH.cons rfl (fun K hK => ?_) (AllReadyH.cons rfl (fun K hK => ?_) AllReadyH.nil)
  · go_simp
    have I1 := IntAt.zero v1
    have q0 : Hid (w.heap.size ≤ v1.heap.size) := Lib.hid hb.size
    replace X := X.alloc (.cells #[.bool false, .slice none 0 0] 58)
    replace Y := Y.alloc (.cells #[.bool false, .slice none 0 0] 58)
    replace hb := hb.alloc hb.size (.cells #[.bool false, .slice none 0 0] 58)
    refine hK.out _ _ ?_ (fun hHeld => ?_)
    · trivial
    clear hK K
    generalize v1.alloc (.cells #[.bool false, .slice none 0 0] 58) = v2 at *
    generalize v1.heap.size = B1 at *
    have q_B1 := q0
    clear q0
    (try dsimp only [Act.put]); (try go_frame)
    refine wpAnyH_ready (rs := [7, 8]) (by kernel_rfl) (by simp) ?_
    refine AllReadyH.cons rfl (fun K hK => ?_) (AllReadyH.cons rfl (fun K hK => ?_) AllReadyH.nil)
    · go_simp
      refine (mul_any B1 0 bx 0 bY 2 (x.num) (y.den) v2 I1.room X.1 Y.2 (Nat.le_trans sx.out.1 (by omega)) (Nat.le_trans sy.out.den (by omega))).mono ?_
      rintro r wm1 ⟨rfl, I0, hB⟩
      replace X := X.but hB (by have := p_bx.out; have := q_B1.out; omega)
      replace Y := Y.but hB (by have := p_bY.out; have := q_B1.out; omega)
      replace hb := hb.trans (hB.below q_B1.out hb.size)
      clear hB I1
      have I1 := I0
      clear I0
      refine hK.out _ _ ?_ (fun hHeld => ?_)
      · trivial
      clear hK K
      (try dsimp only [Act.put]); (try go_frame)
      refine wpAnyH_ready (rs := [8]) (by kernel_rfl) (by simp) ?_
      refine AllReadyH.cons rfl (fun K hK => ?_) AllReadyH.nil
      go_simp
      have I2 := IntAt.zero wm1
      have q0 : Hid (w.heap.size ≤ wm1.heap.size) := Lib.hid hb.size
      have q0_B1 : Hid (B1 < wm1.heap.size) := Lib.hid I1.lt
      replace X := X.alloc (.cells #[.bool false, .slice none 0 0] 58)
      replace Y := Y.alloc (.cells #[.bool false, .slice none 0 0] 58)
      replace I1 := I1.alloc (.cells #[.bool false, .slice none 0 0] 58)
      replace hb := hb.alloc hb.size (.cells #[.bool false, .slice none 0 0] 58)
      refine hK.out _ _ ?_ (fun hHeld => ?_)
      · trivial
      clear hK K
      generalize wm1.alloc (.cells #[.bool false, .slice none 0 0] 58) = v3 at *
      generalize wm1.heap.size = B2 at *
      have q_B2 := q0
      clear q0
      have q_B1_B2 := q0_B1
      clear q0_B1
      (try dsimp only [Act.put]); (try go_frame)
      refine wpAnyH_ready (rs := [15]) (by kernel_rfl) (by simp) ?_
      refine AllReadyH.cons rfl (fun K hK => ?_) AllReadyH.nil
      go_simp
      refine (mul_any B2 0 bY 0 bx 2 (y.num) (x.den) v3 I2.room Y.1 X.2 (Nat.le_trans sy.out.1 (by omega)) (Nat.le_trans sx.out.den (by omega))).mono ?_
      rintro r wm19 ⟨rfl, I0, hB⟩
      replace X := X.but hB (by have := p_bx.out; have := q_B2.out; omega)
      replace Y := Y.but hB (by have := p_bY.out; have := q_B2.out; omega)
      replace I1 := I1.but hB (.inl (by have := q_B1_B2.out; omega))
      replace hb := hb.trans (hB.below q_B2.out hb.size)
      clear hB I2
      have I2 := I0
      clear I0
      refine hK.out _ _ ?_ (fun hHeld => ?_)
      · trivial
      clear hK K
      (try dsimp only [Act.put]); (try go_frame)
      refine wpAnyH_ready (rs := [16]) (by kernel_rfl) (by simp) ?_
      refine AllReadyH.cons rfl (fun K hK => ?_) AllReadyH.nil
      go_simp
      refine (icmp_any B1 0 B2 0 (x.num * (y.den : Int)) (y.num * (x.den : Int)) wm19 I1 I2 (Nat.le_trans s1.out (by omega)) (Nat.le_trans s2.out (by omega))).mono ?_
      rintro r wz ⟨rfl, kz, rfl⟩
      replace hb := Below.drewN' hb kz
      refine hK.out _ _ ?_ (fun hHeld => ?_)
      · trivial
      clear hK K I1 I2 X Y
      (try dsimp only [Act.put]); (try go_frame)
      refine wpAnyH_take (i := 17) (v := _) (by first | (simp only [List.getElem?_toArray, List.getElem?_cons_zero, List.getElem?_cons_succ]; rfl) | rfl) (by kernel_rfl) (by kernel_rfl) (by kernel_rfl) (by exact fun _ _ _ h => h) (Or.inl ⟨by rfl, by (intro w hSw; (try dsimp only at hSw); go_simp; try with_reducible rfl)⟩) (by assumption) ?_
      (try dsimp only [Act.put]); (try go_frame)
      refine wpAnyH_done (by kernel_rfl) ?_ _
      try simp only [QCut]
      go_wp2
      go_ret
      exact ⟨by rw [← cmpR_eq]; rfl, hb⟩
    · go_simp
      have I2 := IntAt.zero v2
      have q0 : Hid (w.heap.size ≤ v2.heap.size) := Lib.hid hb.size
      have q0_B1 : Hid (B1 < v2.heap.size) := Lib.hid I1.lt
      replace X := X.alloc (.cells #[.bool false, .slice none 0 0] 58)
      replace Y := Y.alloc (.cells #[.bool false, .slice none 0 0] 58)
      replace I1 := I1.alloc (.cells #[.bool false, .slice none 0 0] 58)
      replace hb := hb.alloc hb.size (.cells #[.bool false, .slice none 0 0] 58)
      refine hK.out _ _ ?_ (fun hHeld => ?_)
      · trivial
      clear hK K
      generalize v2.alloc (.cells #[.bool false, .slice none 0 0] 58) = v3 at *
      generalize v2.heap.size = B2 at *
      have q_B2 := q0
      clear q0
      have q_B1_B2 := q0_B1
      clear q0_B1
      (try dsimp only [Act.put]); (try go_frame)
      refine wpAnyH_ready (rs := [7]) (by kernel_rfl) (by simp) ?_
      refine AllReadyH.cons rfl (fun K hK => ?_) AllReadyH.nil
      go_simp
      refine (mul_any B1 0 bx 0 bY 2 (x.num) (y.den) v3 I1.room X.1 Y.2 (Nat.le_trans sx.out.1 (by omega)) (Nat.le_trans sy.out.den (by omega))).mono ?_
      rintro r wm13 ⟨rfl, I0, hB⟩
      replace X := X.but hB (by have := p_bx.out; have := q_B1.out; omega)
      replace Y := Y.but hB (by have := p_bY.out; have := q_B1.out; omega)
      replace I2 := I2.but hB (.inl (by have := q_B1_B2.out; omega))
      replace hb := hb.trans (hB.below q_B1.out hb.size)
      clear hB I1
      have I1 := I0
      clear I0
      refine hK.out _ _ ?_ (fun hHeld => ?_)
      · trivial
      clear hK K
      (try dsimp only [Act.put]); (try go_frame)
      refine wpAnyH_ready (rs := [15]) (by kernel_rfl) (by simp) ?_
      refine AllReadyH.cons rfl (fun K hK => ?_) AllReadyH.nil
      go_simp
      refine (mul_any B2 0 bY 0 bx 2 (y.num) (x.den) wm13 I2.room Y.1 X.2 (Nat.le_trans sy.out.1 (by omega)) (Nat.le_trans sx.out.den (by omega))).mono ?_
      rintro r wm20 ⟨rfl, I0, hB⟩
      replace X := X.but hB (by have := p_bx.out; have := q_B2.out; omega)
      replace Y := Y.but hB (by have := p_bY.out; have := q_B2.out; omega)
      replace I1 := I1.but hB (.inl (by have := q_B1_B2.out; omega))
      replace hb := hb.trans (hB.below q_B2.out hb.size)
      clear hB I2
      have I2 := I0
      clear I0
      refine hK.out _ _ ?_ (fun hHeld => ?_)
      · trivial
      clear hK K
      (try dsimp only [Act.put]); (try go_frame)
      refine wpAnyH_ready (rs := [16]) (by kernel_rfl) (by simp) ?_
      refine AllReadyH.cons rfl (fun K hK => ?_) AllReadyH.nil
      go_simp
      refine (icmp_any B1 0 B2 0 (x.num * (y.den : Int)) (y.num * (x.den : Int)) wm20 I1 I2 (Nat.le_trans s1.out (by omega)) (Nat.le_trans s2.out (by omega))).mono ?_
      rintro r wz ⟨rfl, kz, rfl⟩
      replace hb := Below.drewN' hb kz
      refine hK.out _ _ ?_ (fun hHeld => ?_)
      · trivial
      clear hK K I1 I2 X Y
      (try dsimp only [Act.put]); (try go_frame)
      refine wpAnyH_take (i := 17) (v := _) (by first | (simp only [List.getElem?_toArray, List.getElem?_cons_zero, List.getElem?_cons_succ]; rfl) | rfl) (by kernel_rfl) (by kernel_rfl) (by kernel_rfl) (by exact fun _ _ _ h => h) (Or.inl ⟨by rfl, by (intro w hSw; (try dsimp only at hSw); go_simp; try with_reducible rfl)⟩) (by assumption) ?_
      (try dsimp only [Act.put]); (try go_frame)
      refine wpAnyH_done (by kernel_rfl) ?_ _
      try simp only [QCut]
      go_wp2
      go_ret
      exact ⟨by rw [← cmpR_eq]; rfl, hb⟩
  · go_simp
    have I2 := IntAt.zero v1
    have q0 : Hid (w.heap.size ≤ v1.heap.size) := Lib.hid hb.size
    replace X := X.alloc (.cells #[.bool false, .slice none 0 0] 58)
    replace Y := Y.alloc (.cells #[.bool false, .slice none 0 0] 58)
    replace hb := hb.alloc hb.size (.cells #[.bool false, .slice none 0 0] 58)
    refine hK.out _ _ ?_ (fun hHeld => ?_)
    · trivial
    clear hK K
    generalize v1.alloc (.cells #[.bool false, .slice none 0 0] 58) = v2 at *
    generalize v1.heap.size = B2 at *
    have q_B2 := q0
    clear q0
    (try dsimp only [Act.put]); (try go_frame)
    refine wpAnyH_ready (rs := [0]) (by kernel_rfl) (by simp) ?_
    refine AllReadyH.cons rfl (fun K hK => ?_) AllReadyH.nil
    go_simp
    have I1 := IntAt.zero v2
    have q0 : Hid (w.heap.size ≤ v2.heap.size) := Lib.hid hb.size
    have q0_B2 : Hid (B2 < v2.heap.size) := Lib.hid I2.lt
    replace X := X.alloc (.cells #[.bool false, .slice none 0 0] 58)
    replace Y := Y.alloc (.cells #[.bool false, .slice none 0 0] 58)
    replace I2 := I2.alloc (.cells #[.bool false, .slice none 0 0] 58)
    replace hb := hb.alloc hb.size (.cells #[.bool false, .slice none 0 0] 58)
    refine hK.out _ _ ?_ (fun hHeld => ?_)
    · trivial
    clear hK K
    generalize v2.alloc (.cells #[.bool false, .slice none 0 0] 58) = v3 at *
    generalize v2.heap.size = B1 at *
    have q_B1 := q0
    clear q0
    have q_B2_B1 := q0_B2
    clear q0_B2
    (try dsimp only [Act.put]); (try go_frame)
    refine wpAnyH_ready (rs := [7]) (by kernel_rfl) (by simp) ?_
    refine AllReadyH.cons rfl (fun K hK => ?_) AllReadyH.nil
    go_simp
    refine (mul_any B1 0 bx 0 bY 2 (x.num) (y.den) v3 I1.room X.1 Y.2 (Nat.le_trans sx.out.1 (by omega)) (Nat.le_trans sy.out.den (by omega))).mono ?_
    rintro r wm22 ⟨rfl, I0, hB⟩
    replace X := X.but hB (by have := p_bx.out; have := q_B1.out; omega)
    replace Y := Y.but hB (by have := p_bY.out; have := q_B1.out; omega)
    replace I2 := I2.but hB (.inl (by have := q_B2_B1.out; omega))
    replace hb := hb.trans (hB.below q_B1.out hb.size)
    clear hB I1
    have I1 := I0
    clear I0
    refine hK.out _ _ ?_ (fun hHeld => ?_)
    · trivial
    clear hK K
    (try dsimp only [Act.put]); (try go_frame)
    refine wpAnyH_ready (rs := [15]) (by kernel_rfl) (by simp) ?_
    refine AllReadyH.cons rfl (fun K hK => ?_) AllReadyH.nil
    go_simp
    refine (mul_any B2 0 bY 0 bx 2 (y.num) (x.den) wm22 I2.room Y.1 X.2 (Nat.le_trans sy.out.1 (by omega)) (Nat.le_trans sx.out.den (by omega))).mono ?_
    rintro r wm29 ⟨rfl, I0, hB⟩
    replace X := X.but hB (by have := p_bx.out; have := q_B2.out; omega)
    replace Y := Y.but hB (by have := p_bY.out; have := q_B2.out; omega)
    replace I1 := I1.but hB (.inl (by have := q_B2_B1.out; omega))
    replace hb := hb.trans (hB.below q_B2.out hb.size)
    clear hB I2
    have I2 := I0
    clear I0
    refine hK.out _ _ ?_ (fun hHeld => ?_)
    · trivial
    clear hK K
    (try dsimp only [Act.put]); (try go_frame)
    refine wpAnyH_ready (rs := [16]) (by kernel_rfl) (by simp) ?_
    refine AllReadyH.cons rfl (fun K hK => ?_) AllReadyH.nil
    go_simp
    refine (icmp_any B1 0 B2 0 (x.num * (y.den : Int)) (y.num * (x.den : Int)) wm29 I1 I2 (Nat.le_trans s1.out (by omega)) (Nat.le_trans s2.out (by omega))).mono ?_
    rintro r wz ⟨rfl, kz, rfl⟩
    replace hb := Below.drewN' hb kz
    refine hK.out _ _ ?_ (fun hHeld => ?_)
    · trivial
    clear hK K I1 I2 X Y
    (try dsimp only [Act.put]); (try go_frame)
    refine wpAnyH_take (i := 17) (v := _) (by first | (simp only [List.getElem?_toArray, List.getElem?_cons_zero, List.getElem?_cons_succ]; rfl) | rfl) (by kernel_rfl) (by kernel_rfl) (by kernel_rfl) (by exact fun _ _ _ h => h) (Or.inl ⟨by rfl, by (intro w hSw; (try dsimp only at hSw); go_simp; try with_reducible rfl)⟩) (by assumption) ?_
    (try dsimp only [Act.put]); (try go_frame)
    refine wpAnyH_done (by kernel_rfl) ?_ _
    try simp only [QCut]
    go_wp2
    go_ret
    exact ⟨by rw [← cmpR_eq]; rfl, hb⟩

theorem ratsign_any (b : Nat) (x : Rat) (w : World) (X : RatAt w b x) : Calls Tryz.prog 46 #[.pointer (some ⟨b, 0, none⟩)] w fun e w' => e = .returned (.int .i64 x.num.sign) ∧ w = w' := by
  have hs := fun W h => sign_any b 0 x.num W h
  have X1 := X.1
  clear X
  go_enter Tryz.func46, Tryz.ntmps46
  go_wp2_with fail
  refine (hs _ X1).mono ?_
  rintro r w1 ⟨rfl, rfl⟩
  go_wp2
  go_ret
  exact ⟨rfl, rfl⟩
theorem ratsetfrac_any (b b1 b2 : Nat) (p q : Int) (w : World) (hr : RRoom w b) (h1 : IntAt w b1 0 p) (h2 : IntAt w b2 0 q) (n1 : b1 ≠ b) (n2 : b2 ≠ b) (hq : q ≠ 0) (sp : dn 32 p.natAbs ≤ 1099511627000) (sq : dn 32 q.natAbs ≤ 1099511627000) :
    Calls Tryz.prog 44 #[.pointer (some ⟨b, 0, none⟩), .pointer (some ⟨b1, 0, none⟩), .pointer (some ⟨b2, 0, none⟩)] w fun e w' => e = .returned (.pointer (some ⟨b, 0, none⟩)) ∧ RatAt w' b (Rat.divInt p q) ∧ Far w w' b := by
  have hn := fun W a b' c => norm_any b b1 0 b2 0 p q W a b' c n1 n2 hq sp sq
  clear n1 n2 hq sp sq
  go_enter Tryz.func44, Tryz.ntmps44
  go_wp2_with fail
  refine (hn _ hr h1 h2).mono ?_
  rintro r w1 ⟨rfl, R, hF⟩
  clear hn hr h1 h2
  go_wp2
  go_ret
  exact ⟨rfl, R, hF⟩
set_option maxHeartbeats 1000000 in
theorem ratsub_any (b bx bY : Nat) (x y : Rat) (w : World) (hr : RRoom w b) (X : RatAt w bx x) (Y : RatAt w bY y) (nx0 : bx ≠ b) (hx : Szd 100000000000 x) (hy : Szd 100000000000 y) :
    Calls Tryz.prog 37 #[.pointer (some ⟨b, 0, none⟩), .pointer (some ⟨bx, 0, none⟩), .pointer (some ⟨bY, 0, none⟩)] w fun e w' => e = .returned (.pointer (some ⟨b, 0, none⟩)) ∧ RatAt w' b (x - y) ∧ Far w w' b := by
  have lb := hr.lt
  have lx := X.lt
  have ly := Y.lt
  have hng := fun W a c => ratneg_any w.heap.size bY y W a c hy
  have had := fun W a c d => ratadd_any b bx w.heap.size x (-y) W a c d nx0 (by omega) hx hy.neg
  have hL := Lib.hid (And.intro lb (And.intro lx ly))
  have hr0 := Lib.hid hr
  clear hx hy lb lx ly nx0
  go_enter Tryz.func37, Tryz.ntmps37
  go_wp2_with fail
  refine (hng _ (RRoom.new w) (Y.alloc _)).mono ?_
  rintro r w1 ⟨rfl, N, hF⟩
  have hr1 := (hr.alloc (.cells #[.bool false, .slice none 0 0, .bool false, .slice none 0 0] 80)).far hF (by have := hL.out.1; omega)
  have X1 := (X.alloc (.cells #[.bool false, .slice none 0 0, .bool false, .slice none 0 0] 80)).far hF (by have := hL.out.2.1; omega)
  have hb : Below w.heap.size w w1 := ((Below.refl _ _).alloc (Nat.le_refl _) _).trans (hF.below (Nat.le_refl _) (by simp))
  clear hng hr X Y hF
  go_wp2_with fail
  refine (had _ hr1 X1 N).mono ?_
  rintro r w2 ⟨rfl, R, hF⟩
  have hFF := Far.after hb hF hr0.out
  clear had hr1 X1 N hb hF
  go_wp2
  go_ret
  exact ⟨rfl, by rw [Rat.sub_eq_add_neg]; exact R, hFF⟩
end Go.Proofs.YtbhfnigblhfikaaGreatDoor
