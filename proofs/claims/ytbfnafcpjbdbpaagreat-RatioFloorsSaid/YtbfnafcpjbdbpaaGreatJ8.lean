/- wide.Rat's functions. -/
import Derived.Test.YtbfnafcpjbdbpaaGreatJ7
namespace Go.Proofs.YtbfnafcpjbdbpaaGreat
open Go Go.RowKit Fil

/-- a fraction whose parts have not too many digits -/
def Szd (K : Nat) (r : Rat) : Prop := dn 32 r.num.natAbs ≤ K ∧ dn 32 r.den ≤ K
theorem dn_mul {x y j k : Nat} (hx : dn 32 x ≤ j) (hy : dn 32 y ≤ k) : dn 32 (x * y) ≤ j + k := dn_le (by omega) (by rw [padd]; exact Nat.mul_lt_mul'' (lt_of_dn (by omega) hx) (lt_of_dn (by omega) hy))
theorem dn_add {x y k : Nat} (hx : dn 32 x ≤ k) (hy : dn 32 y ≤ k) : dn 32 (x + y) ≤ k + 1 := dn_le (by omega) (add_lt_succ (by omega) (lt_of_dn (by omega) hx) (lt_of_dn (by omega) hy))
theorem dn_mulI {x y : Int} {j k : Nat} (hx : dn 32 x.natAbs ≤ j) (hy : dn 32 y.natAbs ≤ k) : dn 32 (x * y).natAbs ≤ j + k := by rw [Int.natAbs_mul]; exact dn_mul hx hy
theorem dn_addI {x y : Int} {k : Nat} (hx : dn 32 x.natAbs ≤ k) (hy : dn 32 y.natAbs ≤ k) : dn 32 (x + y).natAbs ≤ k + 1 :=
  Nat.le_trans (dn_mono (by omega) (Int.natAbs_add_le x y)) (dn_add hx hy)
theorem Szd.den {K : Nat} {r : Rat} (h : Szd K r) : dn 32 (r.den : Int).natAbs ≤ K := by rw [Int.natAbs_natCast]; exact h.2
theorem Szd.neg {K : Nat} {r : Rat} (h : Szd K r) : Szd K (-r) := ⟨by rw [Rat.neg_num, Int.natAbs_neg]; exact h.1, h.2⟩
theorem den_mul_ne (x y : Rat) : (x.den : Int) * (y.den : Int) ≠ 0 := Int.mul_ne_zero (den_ne x) (den_ne y)

set_option maxRecDepth 100000 in
set_option maxHeartbeats 4000000 in
theorem ratmul_any (b bx bY : Nat) (x y : Rat) (w : World) (hr : RRoom w b) (X : RatAt w bx x) (Y : RatAt w bY y) (nx0 : bx ≠ b) (ny0 : bY ≠ b) (hx : Szd 100000000000 x) (hy : Szd 100000000000 y) :
    Calls Tryz.prog 43 #[.pointer (some ⟨b, 0, none⟩), .pointer (some ⟨bx, 0, none⟩), .pointer (some ⟨bY, 0, none⟩)] w fun e w' => e = .returned (.pointer (some ⟨b, 0, none⟩)) ∧ RatAt w' b (x * y) ∧ Far w w' b := by
  have hr0 := Lib.hid hr
  have nx := Lib.hid nx0
  have ny := Lib.hid ny0
  clear nx0 ny0
  have s1 : Hid (dn 32 (x.num * y.num).natAbs ≤ 200000000000) := Lib.hid (dn_mulI (j := 100000000000) (k := 100000000000) hx.1 hy.1)
  have s2 : Hid (dn 32 ((x.den : Int) * (y.den : Int)).natAbs ≤ 200000000000) := Lib.hid (dn_mulI (j := 100000000000) (k := 100000000000) hx.den hy.den)
  have sx := Lib.hid hx
  have sy := Lib.hid hy
  clear hx hy
  have hb := Below.refl w.heap.size w
  have p_bx : Hid (bx < w.heap.size) := Lib.hid X.lt
  have p_bY : Hid (bY < w.heap.size) := Lib.hid Y.lt
  have p_b : Hid (b < w.heap.size) := Lib.hid hr.lt
  go_enter Tryz.func43, Tryz.ntmps43
  go_wp2_with fail
  refine wp_region_any (by kernel_rfl) ?_
  have hHeld : (fun _ : World => True) w.drew := trivial
  refine wpAny_of_held (S := fun _ : World => True) _ _ _ (w.drew) ?_
  replace X : RatAt (w.drew) bx x := X
  replace Y : RatAt (w.drew) bY y := Y
  replace hr : RRoom (w.drew) b := hr
  replace hb : Below w.heap.size w w.drew := hb.drew
  generalize w.drew = v1 at *
  refine wpAnyH_take (i := 0) (v := _) (by first | (simp only [List.getElem?_toArray, List.getElem?_cons_zero]; rfl) | rfl) (by kernel_rfl) (by kernel_rfl) (by kernel_rfl) (by exact fun _ _ _ h => h) (Or.inl ⟨by rfl, by (intro w hSw; (try dsimp only at hSw); go_simp; try with_reducible rfl)⟩) (by assumption) ?_
  (try dsimp only [Act.put]); (try go_frame)
  refine wpAnyH_take (i := 2) (v := _) (by first | (simp only [List.getElem?_toArray, List.getElem?_cons_zero, List.getElem?_cons_succ]; rfl) | rfl) (by kernel_rfl) (by kernel_rfl) (by kernel_rfl) (by exact fun _ _ _ h => h) (Or.inl ⟨by rfl, by (intro w hSw; (try dsimp only at hSw); go_simp; try with_reducible rfl)⟩) (by assumption) ?_
  (try dsimp only [Act.put]); (try go_frame)
  refine wpAnyH_take (i := 3) (v := _) (by first | (simp only [List.getElem?_toArray, List.getElem?_cons_zero, List.getElem?_cons_succ]; rfl) | rfl) (by kernel_rfl) (by kernel_rfl) (by kernel_rfl) (by exact fun _ _ _ h => h) (Or.inl ⟨by rfl, by (intro w hSw; (try dsimp only at hSw); go_simp; try with_reducible rfl)⟩) (by assumption) ?_
  (try dsimp only [Act.put]); (try go_frame)
  refine wpAnyH_take (i := 4) (v := _) (by first | (simp only [List.getElem?_toArray, List.getElem?_cons_zero, List.getElem?_cons_succ]; rfl) | rfl) (by kernel_rfl) (by kernel_rfl) (by kernel_rfl) (by exact fun _ _ _ h => h) (Or.inl ⟨by rfl, by (intro w hSw; (try dsimp only at hSw); go_simp; try with_reducible rfl)⟩) (by assumption) ?_
  (try dsimp only [Act.put]); (try go_frame)
  refine wpAnyH_take (i := 5) (v := _) (by first | (simp only [List.getElem?_toArray, List.getElem?_cons_zero, List.getElem?_cons_succ]; rfl) | rfl) (by kernel_rfl) (by kernel_rfl) (by kernel_rfl) (by exact fun _ _ _ h => h) (Or.inl ⟨by rfl, by (intro w hSw; (try dsimp only at hSw); go_simp; try with_reducible rfl)⟩) (by assumption) ?_
  (try dsimp only [Act.put]); (try go_frame)
  refine wpAnyH_take (i := 6) (v := _) (by first | (simp only [List.getElem?_toArray, List.getElem?_cons_zero, List.getElem?_cons_succ]; rfl) | rfl) (by kernel_rfl) (by kernel_rfl) (by kernel_rfl) (by exact fun _ _ _ h => h) (Or.inl ⟨by rfl, by (intro w hSw; (try dsimp only at hSw); go_simp; try with_reducible rfl)⟩) (by assumption) ?_
  (try dsimp only [Act.put]); (try go_frame)
  refine wpAnyH_take (i := 7) (v := _) (by first | (simp only [List.getElem?_toArray, List.getElem?_cons_zero, List.getElem?_cons_succ]; rfl) | rfl) (by kernel_rfl) (by kernel_rfl) (by kernel_rfl) (by exact fun _ _ _ h => h) (Or.inl ⟨by rfl, by (intro w hSw; (try dsimp only at hSw); go_simp; try with_reducible rfl)⟩) (by assumption) ?_
  (try dsimp only [Act.put]); (try go_frame)
  refine wpAnyH_take (i := 10) (v := _) (by first | (simp only [List.getElem?_toArray, List.getElem?_cons_zero, List.getElem?_cons_succ]; rfl) | rfl) (by kernel_rfl) (by kernel_rfl) (by kernel_rfl) (by exact fun _ _ _ h => h) (Or.inl ⟨by rfl, by (intro w hSw; (try dsimp only at hSw); go_simp; try with_reducible rfl)⟩) (by assumption) ?_
  (try dsimp only [Act.put]); (try go_frame)
  refine wpAnyH_take (i := 11) (v := _) (by first | (simp only [List.getElem?_toArray, List.getElem?_cons_zero, List.getElem?_cons_succ]; rfl) | rfl) (by kernel_rfl) (by kernel_rfl) (by kernel_rfl) (by exact fun _ _ _ h => h) (Or.inl ⟨by rfl, by (intro w hSw; (try dsimp only at hSw); go_simp; try with_reducible rfl)⟩) (by assumption) ?_
  (try dsimp only [Act.put]); (try go_frame)
  refine wpAnyH_take (i := 12) (v := _) (by first | (simp only [List.getElem?_toArray, List.getElem?_cons_zero, List.getElem?_cons_succ]; rfl) | rfl) (by kernel_rfl) (by kernel_rfl) (by kernel_rfl) (by exact fun _ _ _ h => h) (Or.inl ⟨by rfl, by (intro w hSw; (try dsimp only at hSw); go_simp; try with_reducible rfl)⟩) (by assumption) ?_
  (try dsimp only [Act.put]); (try go_frame)
  refine wpAnyH_take (i := 13) (v := _) (by first | (simp only [List.getElem?_toArray, List.getElem?_cons_zero, List.getElem?_cons_succ]; rfl) | rfl) (by kernel_rfl) (by kernel_rfl) (by kernel_rfl) (by exact fun _ _ _ h => h) (Or.inl ⟨by rfl, by (intro w hSw; (try dsimp only at hSw); go_simp; try with_reducible rfl)⟩) (by assumption) ?_
  (try dsimp only [Act.put]); (try go_frame)
  refine wpAnyH_take (i := 14) (v := _) (by first | (simp only [List.getElem?_toArray, List.getElem?_cons_zero, List.getElem?_cons_succ]; rfl) | rfl) (by kernel_rfl) (by kernel_rfl) (by kernel_rfl) (by exact fun _ _ _ h => h) (Or.inl ⟨by rfl, by (intro w hSw; (try dsimp only at hSw); go_simp; try with_reducible rfl)⟩) (by assumption) ?_
  (try dsimp only [Act.put]); (try go_frame)
  refine wpAnyH_take (i := 15) (v := _) (by first | (simp only [List.getElem?_toArray, List.getElem?_cons_zero, List.getElem?_cons_succ]; rfl) | rfl) (by kernel_rfl) (by kernel_rfl) (by kernel_rfl) (by exact fun _ _ _ h => h) (Or.inl ⟨by rfl, by (intro w hSw; (try dsimp only at hSw); go_simp; try with_reducible rfl)⟩) (by assumption) ?_
  (try dsimp only [Act.put]); (try go_frame)
  refine wpAnyH_ready (rs := [1, 9]) (by kernel_rfl) (by simp) ?_
  refine AllReadyH.cons rfl (fun K hK => ?_) (AllReadyH.cons rfl (fun K hK => ?_) AllReadyH.nil)
  · go_simp
    have I1 := IntAt.zero v1
    have q0 : Hid (w.heap.size ≤ v1.heap.size) := Lib.hid hb.size
    replace X := X.alloc (.cells #[.bool false, .slice none 0 0] 90)
    replace Y := Y.alloc (.cells #[.bool false, .slice none 0 0] 90)
    replace hr := hr.alloc (.cells #[.bool false, .slice none 0 0] 90)
    replace hb := hb.alloc hb.size (.cells #[.bool false, .slice none 0 0] 90)
    refine hK.out _ _ ?_ (fun hHeld => ?_)
    · exact trivial
    clear hK K
    generalize v1.alloc (.cells #[.bool false, .slice none 0 0] 90) = v2 at *
    generalize v1.heap.size = B1 at *
    have q_B1 := q0
    clear q0
    (try dsimp only [Act.put]); (try go_frame)
    refine wpAnyH_ready (rs := [8, 9]) (by kernel_rfl) (by simp) ?_
    refine AllReadyH.cons rfl (fun K hK => ?_) (AllReadyH.cons rfl (fun K hK => ?_) AllReadyH.nil)
    · go_simp
      refine (mul_any B1 0 bx 0 bY 0 (x.num) (y.num) v2 I1.room X.1 Y.1 (Nat.le_trans sx.out.1 (by omega)) (Nat.le_trans sy.out.1 (by omega))).mono ?_
      rintro r wm1 ⟨rfl, I0, hB⟩
      replace X := X.but hB (by have := p_bx.out; have := q_B1.out; omega)
      replace Y := Y.but hB (by have := p_bY.out; have := q_B1.out; omega)
      replace hr := hr.but hB (by have := p_b.out; have := q_B1.out; omega)
      replace hb := hb.trans (hB.below q_B1.out hb.size)
      clear hB I1
      have I1 := I0
      clear I0
      refine hK.out _ _ ?_ (fun hHeld => ?_)
      · exact trivial
      clear hK K
      (try dsimp only [Act.put]); (try go_frame)
      refine wpAnyH_ready (rs := [9]) (by kernel_rfl) (by simp) ?_
      refine AllReadyH.cons rfl (fun K hK => ?_) AllReadyH.nil
      go_simp
      have I2 := IntAt.zero wm1
      have q0 : Hid (w.heap.size ≤ wm1.heap.size) := Lib.hid hb.size
      have q0_B1 : Hid (B1 < wm1.heap.size) := Lib.hid I1.lt
      replace X := X.alloc (.cells #[.bool false, .slice none 0 0] 90)
      replace Y := Y.alloc (.cells #[.bool false, .slice none 0 0] 90)
      replace hr := hr.alloc (.cells #[.bool false, .slice none 0 0] 90)
      replace I1 := I1.alloc (.cells #[.bool false, .slice none 0 0] 90)
      replace hb := hb.alloc hb.size (.cells #[.bool false, .slice none 0 0] 90)
      refine hK.out _ _ ?_ (fun hHeld => ?_)
      · exact trivial
      clear hK K
      generalize wm1.alloc (.cells #[.bool false, .slice none 0 0] 90) = v3 at *
      generalize wm1.heap.size = B2 at *
      have q_B2 := q0
      clear q0
      have q_B1_B2 := q0_B1
      clear q0_B1
      (try dsimp only [Act.put]); (try go_frame)
      refine wpAnyH_ready (rs := [16]) (by kernel_rfl) (by simp) ?_
      refine AllReadyH.cons rfl (fun K hK => ?_) AllReadyH.nil
      go_simp
      refine (mul_any B2 0 bx 2 bY 2 (x.den) (y.den) v3 I2.room X.2 Y.2 (Nat.le_trans sx.out.den (by omega)) (Nat.le_trans sy.out.den (by omega))).mono ?_
      rintro r wm21 ⟨rfl, I0, hB⟩
      replace X := X.but hB (by have := p_bx.out; have := q_B2.out; omega)
      replace Y := Y.but hB (by have := p_bY.out; have := q_B2.out; omega)
      replace hr := hr.but hB (by have := p_b.out; have := q_B2.out; omega)
      replace I1 := I1.but hB (.inl (by have := q_B1_B2.out; omega))
      replace hb := hb.trans (hB.below q_B2.out hb.size)
      clear hB I2
      have I2 := I0
      clear I0
      refine hK.out _ _ ?_ (fun hHeld => ?_)
      · exact trivial
      clear hK K
      (try dsimp only [Act.put]); (try go_frame)
      refine wpAnyH_ready (rs := [17]) (by kernel_rfl) (by simp) ?_
      refine AllReadyH.cons rfl (fun K hK => ?_) AllReadyH.nil
      go_simp
      refine (norm_any b B1 0 B2 0 (x.num * y.num) ((x.den : Int) * (y.den : Int)) wm21 hr I1 I2 (by have := q_B1.out; have := p_b.out; omega) (by have := q_B2.out; have := p_b.out; omega) (den_mul_ne x y) (Nat.le_trans s1.out (by omega)) (Nat.le_trans s2.out (by omega))).mono ?_
      rintro r wz ⟨rfl, R0, hF⟩
      have hFF := Far.after hb hF hr0.out
      refine hK.out _ _ ?_ (fun hHeld => ?_)
      · trivial
      clear hK K I1 I2 X Y hr hb hF
      (try dsimp only [Act.put]); (try go_frame)
      refine wpAnyH_take (i := 18) (v := _) (by first | (simp only [List.getElem?_toArray, List.getElem?_cons_zero, List.getElem?_cons_succ]; rfl) | rfl) (by kernel_rfl) (by kernel_rfl) (by kernel_rfl) (by exact fun _ _ _ h => h) (Or.inl ⟨by rfl, by (intro w hSw; (try dsimp only at hSw); go_simp; try with_reducible rfl)⟩) (by assumption) ?_
      (try dsimp only [Act.put]); (try go_frame)
      refine wpAnyH_done (by kernel_rfl) ?_ _
      try simp only [QCut]
      go_wp2
      go_ret
      exact ⟨rfl, by rw [← divInt_mul]; exact R0, hFF⟩
    · go_simp
      have I2 := IntAt.zero v2
      have q0 : Hid (w.heap.size ≤ v2.heap.size) := Lib.hid hb.size
      have q0_B1 : Hid (B1 < v2.heap.size) := Lib.hid I1.lt
      replace X := X.alloc (.cells #[.bool false, .slice none 0 0] 90)
      replace Y := Y.alloc (.cells #[.bool false, .slice none 0 0] 90)
      replace hr := hr.alloc (.cells #[.bool false, .slice none 0 0] 90)
      replace I1 := I1.alloc (.cells #[.bool false, .slice none 0 0] 90)
      replace hb := hb.alloc hb.size (.cells #[.bool false, .slice none 0 0] 90)
      refine hK.out _ _ ?_ (fun hHeld => ?_)
      · exact trivial
      clear hK K
      generalize v2.alloc (.cells #[.bool false, .slice none 0 0] 90) = v3 at *
      generalize v2.heap.size = B2 at *
      have q_B2 := q0
      clear q0
      have q_B1_B2 := q0_B1
      clear q0_B1
      (try dsimp only [Act.put]); (try go_frame)
      refine wpAnyH_ready (rs := [8]) (by kernel_rfl) (by simp) ?_
      refine AllReadyH.cons rfl (fun K hK => ?_) AllReadyH.nil
      go_simp
      refine (mul_any B1 0 bx 0 bY 0 (x.num) (y.num) v3 I1.room X.1 Y.1 (Nat.le_trans sx.out.1 (by omega)) (Nat.le_trans sy.out.1 (by omega))).mono ?_
      rintro r wm14 ⟨rfl, I0, hB⟩
      replace X := X.but hB (by have := p_bx.out; have := q_B1.out; omega)
      replace Y := Y.but hB (by have := p_bY.out; have := q_B1.out; omega)
      replace hr := hr.but hB (by have := p_b.out; have := q_B1.out; omega)
      replace I2 := I2.but hB (.inl (by have := q_B1_B2.out; omega))
      replace hb := hb.trans (hB.below q_B1.out hb.size)
      clear hB I1
      have I1 := I0
      clear I0
      refine hK.out _ _ ?_ (fun hHeld => ?_)
      · exact trivial
      clear hK K
      (try dsimp only [Act.put]); (try go_frame)
      refine wpAnyH_ready (rs := [16]) (by kernel_rfl) (by simp) ?_
      refine AllReadyH.cons rfl (fun K hK => ?_) AllReadyH.nil
      go_simp
      refine (mul_any B2 0 bx 2 bY 2 (x.den) (y.den) wm14 I2.room X.2 Y.2 (Nat.le_trans sx.out.den (by omega)) (Nat.le_trans sy.out.den (by omega))).mono ?_
      rintro r wm22 ⟨rfl, I0, hB⟩
      replace X := X.but hB (by have := p_bx.out; have := q_B2.out; omega)
      replace Y := Y.but hB (by have := p_bY.out; have := q_B2.out; omega)
      replace hr := hr.but hB (by have := p_b.out; have := q_B2.out; omega)
      replace I1 := I1.but hB (.inl (by have := q_B1_B2.out; omega))
      replace hb := hb.trans (hB.below q_B2.out hb.size)
      clear hB I2
      have I2 := I0
      clear I0
      refine hK.out _ _ ?_ (fun hHeld => ?_)
      · exact trivial
      clear hK K
      (try dsimp only [Act.put]); (try go_frame)
      refine wpAnyH_ready (rs := [17]) (by kernel_rfl) (by simp) ?_
      refine AllReadyH.cons rfl (fun K hK => ?_) AllReadyH.nil
      go_simp
      refine (norm_any b B1 0 B2 0 (x.num * y.num) ((x.den : Int) * (y.den : Int)) wm22 hr I1 I2 (by have := q_B1.out; have := p_b.out; omega) (by have := q_B2.out; have := p_b.out; omega) (den_mul_ne x y) (Nat.le_trans s1.out (by omega)) (Nat.le_trans s2.out (by omega))).mono ?_
      rintro r wz ⟨rfl, R0, hF⟩
      have hFF := Far.after hb hF hr0.out
      refine hK.out _ _ ?_ (fun hHeld => ?_)
      · trivial
      clear hK K I1 I2 X Y hr hb hF
      (try dsimp only [Act.put]); (try go_frame)
      refine wpAnyH_take (i := 18) (v := _) (by first | (simp only [List.getElem?_toArray, List.getElem?_cons_zero, List.getElem?_cons_succ]; rfl) | rfl) (by kernel_rfl) (by kernel_rfl) (by kernel_rfl) (by exact fun _ _ _ h => h) (Or.inl ⟨by rfl, by (intro w hSw; (try dsimp only at hSw); go_simp; try with_reducible rfl)⟩) (by assumption) ?_
      (try dsimp only [Act.put]); (try go_frame)
      refine wpAnyH_done (by kernel_rfl) ?_ _
      try simp only [QCut]
      go_wp2
      go_ret
      exact ⟨rfl, by rw [← divInt_mul]; exact R0, hFF⟩
  · go_simp
    have I2 := IntAt.zero v1
    have q0 : Hid (w.heap.size ≤ v1.heap.size) := Lib.hid hb.size
    replace X := X.alloc (.cells #[.bool false, .slice none 0 0] 90)
    replace Y := Y.alloc (.cells #[.bool false, .slice none 0 0] 90)
    replace hr := hr.alloc (.cells #[.bool false, .slice none 0 0] 90)
    replace hb := hb.alloc hb.size (.cells #[.bool false, .slice none 0 0] 90)
    refine hK.out _ _ ?_ (fun hHeld => ?_)
    · exact trivial
    clear hK K
    generalize v1.alloc (.cells #[.bool false, .slice none 0 0] 90) = v2 at *
    generalize v1.heap.size = B2 at *
    have q_B2 := q0
    clear q0
    (try dsimp only [Act.put]); (try go_frame)
    refine wpAnyH_ready (rs := [1]) (by kernel_rfl) (by simp) ?_
    refine AllReadyH.cons rfl (fun K hK => ?_) AllReadyH.nil
    go_simp
    have I1 := IntAt.zero v2
    have q0 : Hid (w.heap.size ≤ v2.heap.size) := Lib.hid hb.size
    have q0_B2 : Hid (B2 < v2.heap.size) := Lib.hid I2.lt
    replace X := X.alloc (.cells #[.bool false, .slice none 0 0] 90)
    replace Y := Y.alloc (.cells #[.bool false, .slice none 0 0] 90)
    replace hr := hr.alloc (.cells #[.bool false, .slice none 0 0] 90)
    replace I2 := I2.alloc (.cells #[.bool false, .slice none 0 0] 90)
    replace hb := hb.alloc hb.size (.cells #[.bool false, .slice none 0 0] 90)
    refine hK.out _ _ ?_ (fun hHeld => ?_)
    · exact trivial
    clear hK K
    generalize v2.alloc (.cells #[.bool false, .slice none 0 0] 90) = v3 at *
    generalize v2.heap.size = B1 at *
    have q_B1 := q0
    clear q0
    have q_B2_B1 := q0_B2
    clear q0_B2
    (try dsimp only [Act.put]); (try go_frame)
    refine wpAnyH_ready (rs := [8]) (by kernel_rfl) (by simp) ?_
    refine AllReadyH.cons rfl (fun K hK => ?_) AllReadyH.nil
    go_simp
    refine (mul_any B1 0 bx 0 bY 0 (x.num) (y.num) v3 I1.room X.1 Y.1 (Nat.le_trans sx.out.1 (by omega)) (Nat.le_trans sy.out.1 (by omega))).mono ?_
    rintro r wm24 ⟨rfl, I0, hB⟩
    replace X := X.but hB (by have := p_bx.out; have := q_B1.out; omega)
    replace Y := Y.but hB (by have := p_bY.out; have := q_B1.out; omega)
    replace hr := hr.but hB (by have := p_b.out; have := q_B1.out; omega)
    replace I2 := I2.but hB (.inl (by have := q_B2_B1.out; omega))
    replace hb := hb.trans (hB.below q_B1.out hb.size)
    clear hB I1
    have I1 := I0
    clear I0
    refine hK.out _ _ ?_ (fun hHeld => ?_)
    · exact trivial
    clear hK K
    (try dsimp only [Act.put]); (try go_frame)
    refine wpAnyH_ready (rs := [16]) (by kernel_rfl) (by simp) ?_
    refine AllReadyH.cons rfl (fun K hK => ?_) AllReadyH.nil
    go_simp
    refine (mul_any B2 0 bx 2 bY 2 (x.den) (y.den) wm24 I2.room X.2 Y.2 (Nat.le_trans sx.out.den (by omega)) (Nat.le_trans sy.out.den (by omega))).mono ?_
    rintro r wm32 ⟨rfl, I0, hB⟩
    replace X := X.but hB (by have := p_bx.out; have := q_B2.out; omega)
    replace Y := Y.but hB (by have := p_bY.out; have := q_B2.out; omega)
    replace hr := hr.but hB (by have := p_b.out; have := q_B2.out; omega)
    replace I1 := I1.but hB (.inl (by have := q_B2_B1.out; omega))
    replace hb := hb.trans (hB.below q_B2.out hb.size)
    clear hB I2
    have I2 := I0
    clear I0
    refine hK.out _ _ ?_ (fun hHeld => ?_)
    · exact trivial
    clear hK K
    (try dsimp only [Act.put]); (try go_frame)
    refine wpAnyH_ready (rs := [17]) (by kernel_rfl) (by simp) ?_
    refine AllReadyH.cons rfl (fun K hK => ?_) AllReadyH.nil
    go_simp
    refine (norm_any b B1 0 B2 0 (x.num * y.num) ((x.den : Int) * (y.den : Int)) wm32 hr I1 I2 (by have := q_B1.out; have := p_b.out; omega) (by have := q_B2.out; have := p_b.out; omega) (den_mul_ne x y) (Nat.le_trans s1.out (by omega)) (Nat.le_trans s2.out (by omega))).mono ?_
    rintro r wz ⟨rfl, R0, hF⟩
    have hFF := Far.after hb hF hr0.out
    refine hK.out _ _ ?_ (fun hHeld => ?_)
    · trivial
    clear hK K I1 I2 X Y hr hb hF
    (try dsimp only [Act.put]); (try go_frame)
    refine wpAnyH_take (i := 18) (v := _) (by first | (simp only [List.getElem?_toArray, List.getElem?_cons_zero, List.getElem?_cons_succ]; rfl) | rfl) (by kernel_rfl) (by kernel_rfl) (by kernel_rfl) (by exact fun _ _ _ h => h) (Or.inl ⟨by rfl, by (intro w hSw; (try dsimp only at hSw); go_simp; try with_reducible rfl)⟩) (by assumption) ?_
    (try dsimp only [Act.put]); (try go_frame)
    refine wpAnyH_done (by kernel_rfl) ?_ _
    try simp only [QCut]
    go_wp2
    go_ret
    exact ⟨rfl, by rw [← divInt_mul]; exact R0, hFF⟩

set_option maxRecDepth 100000 in
set_option maxHeartbeats 4000000 in
theorem ratquo_any (b bx bY : Nat) (x y : Rat) (w : World) (hr : RRoom w b) (X : RatAt w bx x) (Y : RatAt w bY y) (nx0 : bx ≠ b) (ny0 : bY ≠ b) (hx : Szd 100000000000 x) (hy : Szd 100000000000 y) (hy0 : y ≠ 0) :
    Calls Tryz.prog 44 #[.pointer (some ⟨b, 0, none⟩), .pointer (some ⟨bx, 0, none⟩), .pointer (some ⟨bY, 0, none⟩)] w fun e w' => e = .returned (.pointer (some ⟨b, 0, none⟩)) ∧ RatAt w' b (x / y) ∧ Far w w' b := by
  have hr0 := Lib.hid hr
  have nx := Lib.hid nx0
  have ny := Lib.hid ny0
  clear nx0 ny0
  have s1 : Hid (dn 32 (x.num * (y.den : Int)).natAbs ≤ 200000000000) := Lib.hid (dn_mulI (j := 100000000000) (k := 100000000000) hx.1 hy.den)
  have s2 : Hid (dn 32 ((x.den : Int) * y.num).natAbs ≤ 200000000000) := Lib.hid (dn_mulI (j := 100000000000) (k := 100000000000) hx.den hy.1)
  have sx := Lib.hid hx
  have sy := Lib.hid hy
  clear hx hy
  have hy1 : Hid ((x.den : Int) * y.num ≠ 0) := Lib.hid (Int.mul_ne_zero (den_ne x) (num_ne hy0))
  clear hy0
  have hb := Below.refl w.heap.size w
  have p_bx : Hid (bx < w.heap.size) := Lib.hid X.lt
  have p_bY : Hid (bY < w.heap.size) := Lib.hid Y.lt
  have p_b : Hid (b < w.heap.size) := Lib.hid hr.lt
  go_enter Tryz.func44, Tryz.ntmps44
  go_wp2_with fail
  refine wp_region_any (by kernel_rfl) ?_
  have hHeld : (fun _ : World => True) w.drew := trivial
  refine wpAny_of_held (S := fun _ : World => True) _ _ _ (w.drew) ?_
  replace X : RatAt (w.drew) bx x := X
  replace Y : RatAt (w.drew) bY y := Y
  replace hr : RRoom (w.drew) b := hr
  replace hb : Below w.heap.size w w.drew := hb.drew
  generalize w.drew = v1 at *
  refine wpAnyH_take (i := 0) (v := _) (by first | (simp only [List.getElem?_toArray, List.getElem?_cons_zero]; rfl) | rfl) (by kernel_rfl) (by kernel_rfl) (by kernel_rfl) (by exact fun _ _ _ h => h) (Or.inl ⟨by rfl, by (intro w hSw; (try dsimp only at hSw); go_simp; try with_reducible rfl)⟩) (by assumption) ?_
  (try dsimp only [Act.put]); (try go_frame)
  refine wpAnyH_take (i := 2) (v := _) (by first | (simp only [List.getElem?_toArray, List.getElem?_cons_zero, List.getElem?_cons_succ]; rfl) | rfl) (by kernel_rfl) (by kernel_rfl) (by kernel_rfl) (by exact fun _ _ _ h => h) (Or.inl ⟨by rfl, by (intro w hSw; (try dsimp only at hSw); go_simp; try with_reducible rfl)⟩) (by assumption) ?_
  (try dsimp only [Act.put]); (try go_frame)
  refine wpAnyH_take (i := 3) (v := _) (by first | (simp only [List.getElem?_toArray, List.getElem?_cons_zero, List.getElem?_cons_succ]; rfl) | rfl) (by kernel_rfl) (by kernel_rfl) (by kernel_rfl) (by exact fun _ _ _ h => h) (Or.inl ⟨by rfl, by (intro w hSw; (try dsimp only at hSw); go_simp; try with_reducible rfl)⟩) (by assumption) ?_
  (try dsimp only [Act.put]); (try go_frame)
  refine wpAnyH_take (i := 4) (v := _) (by first | (simp only [List.getElem?_toArray, List.getElem?_cons_zero, List.getElem?_cons_succ]; rfl) | rfl) (by kernel_rfl) (by kernel_rfl) (by kernel_rfl) (by exact fun _ _ _ h => h) (Or.inl ⟨by rfl, by (intro w hSw; (try dsimp only at hSw); go_simp; try with_reducible rfl)⟩) (by assumption) ?_
  (try dsimp only [Act.put]); (try go_frame)
  refine wpAnyH_take (i := 5) (v := _) (by first | (simp only [List.getElem?_toArray, List.getElem?_cons_zero, List.getElem?_cons_succ]; rfl) | rfl) (by kernel_rfl) (by kernel_rfl) (by kernel_rfl) (by exact fun _ _ _ h => h) (Or.inl ⟨by rfl, by (intro w hSw; (try dsimp only at hSw); go_simp; try with_reducible rfl)⟩) (by assumption) ?_
  (try dsimp only [Act.put]); (try go_frame)
  refine wpAnyH_take (i := 6) (v := _) (by first | (simp only [List.getElem?_toArray, List.getElem?_cons_zero, List.getElem?_cons_succ]; rfl) | rfl) (by kernel_rfl) (by kernel_rfl) (by kernel_rfl) (by exact fun _ _ _ h => h) (Or.inl ⟨by rfl, by (intro w hSw; (try dsimp only at hSw); go_simp; try with_reducible rfl)⟩) (by assumption) ?_
  (try dsimp only [Act.put]); (try go_frame)
  refine wpAnyH_take (i := 7) (v := _) (by first | (simp only [List.getElem?_toArray, List.getElem?_cons_zero, List.getElem?_cons_succ]; rfl) | rfl) (by kernel_rfl) (by kernel_rfl) (by kernel_rfl) (by exact fun _ _ _ h => h) (Or.inl ⟨by rfl, by (intro w hSw; (try dsimp only at hSw); go_simp; try with_reducible rfl)⟩) (by assumption) ?_
  (try dsimp only [Act.put]); (try go_frame)
  refine wpAnyH_take (i := 10) (v := _) (by first | (simp only [List.getElem?_toArray, List.getElem?_cons_zero, List.getElem?_cons_succ]; rfl) | rfl) (by kernel_rfl) (by kernel_rfl) (by kernel_rfl) (by exact fun _ _ _ h => h) (Or.inl ⟨by rfl, by (intro w hSw; (try dsimp only at hSw); go_simp; try with_reducible rfl)⟩) (by assumption) ?_
  (try dsimp only [Act.put]); (try go_frame)
  refine wpAnyH_take (i := 11) (v := _) (by first | (simp only [List.getElem?_toArray, List.getElem?_cons_zero, List.getElem?_cons_succ]; rfl) | rfl) (by kernel_rfl) (by kernel_rfl) (by kernel_rfl) (by exact fun _ _ _ h => h) (Or.inl ⟨by rfl, by (intro w hSw; (try dsimp only at hSw); go_simp; try with_reducible rfl)⟩) (by assumption) ?_
  (try dsimp only [Act.put]); (try go_frame)
  refine wpAnyH_take (i := 12) (v := _) (by first | (simp only [List.getElem?_toArray, List.getElem?_cons_zero, List.getElem?_cons_succ]; rfl) | rfl) (by kernel_rfl) (by kernel_rfl) (by kernel_rfl) (by exact fun _ _ _ h => h) (Or.inl ⟨by rfl, by (intro w hSw; (try dsimp only at hSw); go_simp; try with_reducible rfl)⟩) (by assumption) ?_
  (try dsimp only [Act.put]); (try go_frame)
  refine wpAnyH_take (i := 13) (v := _) (by first | (simp only [List.getElem?_toArray, List.getElem?_cons_zero, List.getElem?_cons_succ]; rfl) | rfl) (by kernel_rfl) (by kernel_rfl) (by kernel_rfl) (by exact fun _ _ _ h => h) (Or.inl ⟨by rfl, by (intro w hSw; (try dsimp only at hSw); go_simp; try with_reducible rfl)⟩) (by assumption) ?_
  (try dsimp only [Act.put]); (try go_frame)
  refine wpAnyH_take (i := 14) (v := _) (by first | (simp only [List.getElem?_toArray, List.getElem?_cons_zero, List.getElem?_cons_succ]; rfl) | rfl) (by kernel_rfl) (by kernel_rfl) (by kernel_rfl) (by exact fun _ _ _ h => h) (Or.inl ⟨by rfl, by (intro w hSw; (try dsimp only at hSw); go_simp; try with_reducible rfl)⟩) (by assumption) ?_
  (try dsimp only [Act.put]); (try go_frame)
  refine wpAnyH_take (i := 15) (v := _) (by first | (simp only [List.getElem?_toArray, List.getElem?_cons_zero, List.getElem?_cons_succ]; rfl) | rfl) (by kernel_rfl) (by kernel_rfl) (by kernel_rfl) (by exact fun _ _ _ h => h) (Or.inl ⟨by rfl, by (intro w hSw; (try dsimp only at hSw); go_simp; try with_reducible rfl)⟩) (by assumption) ?_
  (try dsimp only [Act.put]); (try go_frame)
  refine wpAnyH_ready (rs := [1, 9]) (by kernel_rfl) (by simp) ?_
  refine AllReadyH.cons rfl (fun K hK => ?_) (AllReadyH.cons rfl (fun K hK => ?_) AllReadyH.nil)
  · go_simp
    have I1 := IntAt.zero v1
    have q0 : Hid (w.heap.size ≤ v1.heap.size) := Lib.hid hb.size
    replace X := X.alloc (.cells #[.bool false, .slice none 0 0] 90)
    replace Y := Y.alloc (.cells #[.bool false, .slice none 0 0] 90)
    replace hr := hr.alloc (.cells #[.bool false, .slice none 0 0] 90)
    replace hb := hb.alloc hb.size (.cells #[.bool false, .slice none 0 0] 90)
    refine hK.out _ _ ?_ (fun hHeld => ?_)
    · exact trivial
    clear hK K
    generalize v1.alloc (.cells #[.bool false, .slice none 0 0] 90) = v2 at *
    generalize v1.heap.size = B1 at *
    have q_B1 := q0
    clear q0
    (try dsimp only [Act.put]); (try go_frame)
    refine wpAnyH_ready (rs := [8, 9]) (by kernel_rfl) (by simp) ?_
    refine AllReadyH.cons rfl (fun K hK => ?_) (AllReadyH.cons rfl (fun K hK => ?_) AllReadyH.nil)
    · go_simp
      refine (mul_any B1 0 bx 0 bY 2 (x.num) (y.den) v2 I1.room X.1 Y.2 (Nat.le_trans sx.out.1 (by omega)) (Nat.le_trans sy.out.den (by omega))).mono ?_
      rintro r wm1 ⟨rfl, I0, hB⟩
      replace X := X.but hB (by have := p_bx.out; have := q_B1.out; omega)
      replace Y := Y.but hB (by have := p_bY.out; have := q_B1.out; omega)
      replace hr := hr.but hB (by have := p_b.out; have := q_B1.out; omega)
      replace hb := hb.trans (hB.below q_B1.out hb.size)
      clear hB I1
      have I1 := I0
      clear I0
      refine hK.out _ _ ?_ (fun hHeld => ?_)
      · exact trivial
      clear hK K
      (try dsimp only [Act.put]); (try go_frame)
      refine wpAnyH_ready (rs := [9]) (by kernel_rfl) (by simp) ?_
      refine AllReadyH.cons rfl (fun K hK => ?_) AllReadyH.nil
      go_simp
      have I2 := IntAt.zero wm1
      have q0 : Hid (w.heap.size ≤ wm1.heap.size) := Lib.hid hb.size
      have q0_B1 : Hid (B1 < wm1.heap.size) := Lib.hid I1.lt
      replace X := X.alloc (.cells #[.bool false, .slice none 0 0] 90)
      replace Y := Y.alloc (.cells #[.bool false, .slice none 0 0] 90)
      replace hr := hr.alloc (.cells #[.bool false, .slice none 0 0] 90)
      replace I1 := I1.alloc (.cells #[.bool false, .slice none 0 0] 90)
      replace hb := hb.alloc hb.size (.cells #[.bool false, .slice none 0 0] 90)
      refine hK.out _ _ ?_ (fun hHeld => ?_)
      · exact trivial
      clear hK K
      generalize wm1.alloc (.cells #[.bool false, .slice none 0 0] 90) = v3 at *
      generalize wm1.heap.size = B2 at *
      have q_B2 := q0
      clear q0
      have q_B1_B2 := q0_B1
      clear q0_B1
      (try dsimp only [Act.put]); (try go_frame)
      refine wpAnyH_ready (rs := [16]) (by kernel_rfl) (by simp) ?_
      refine AllReadyH.cons rfl (fun K hK => ?_) AllReadyH.nil
      go_simp
      refine (mul_any B2 0 bx 2 bY 0 (x.den) (y.num) v3 I2.room X.2 Y.1 (Nat.le_trans sx.out.den (by omega)) (Nat.le_trans sy.out.1 (by omega))).mono ?_
      rintro r wm21 ⟨rfl, I0, hB⟩
      replace X := X.but hB (by have := p_bx.out; have := q_B2.out; omega)
      replace Y := Y.but hB (by have := p_bY.out; have := q_B2.out; omega)
      replace hr := hr.but hB (by have := p_b.out; have := q_B2.out; omega)
      replace I1 := I1.but hB (.inl (by have := q_B1_B2.out; omega))
      replace hb := hb.trans (hB.below q_B2.out hb.size)
      clear hB I2
      have I2 := I0
      clear I0
      refine hK.out _ _ ?_ (fun hHeld => ?_)
      · exact trivial
      clear hK K
      (try dsimp only [Act.put]); (try go_frame)
      refine wpAnyH_ready (rs := [17]) (by kernel_rfl) (by simp) ?_
      refine AllReadyH.cons rfl (fun K hK => ?_) AllReadyH.nil
      go_simp
      refine (norm_any b B1 0 B2 0 (x.num * (y.den : Int)) ((x.den : Int) * y.num) wm21 hr I1 I2 (by have := q_B1.out; have := p_b.out; omega) (by have := q_B2.out; have := p_b.out; omega) hy1.out (Nat.le_trans s1.out (by omega)) (Nat.le_trans s2.out (by omega))).mono ?_
      rintro r wz ⟨rfl, R0, hF⟩
      have hFF := Far.after hb hF hr0.out
      refine hK.out _ _ ?_ (fun hHeld => ?_)
      · trivial
      clear hK K I1 I2 X Y hr hb hF
      (try dsimp only [Act.put]); (try go_frame)
      refine wpAnyH_take (i := 18) (v := _) (by first | (simp only [List.getElem?_toArray, List.getElem?_cons_zero, List.getElem?_cons_succ]; rfl) | rfl) (by kernel_rfl) (by kernel_rfl) (by kernel_rfl) (by exact fun _ _ _ h => h) (Or.inl ⟨by rfl, by (intro w hSw; (try dsimp only at hSw); go_simp; try with_reducible rfl)⟩) (by assumption) ?_
      (try dsimp only [Act.put]); (try go_frame)
      refine wpAnyH_done (by kernel_rfl) ?_ _
      try simp only [QCut]
      go_wp2
      go_ret
      exact ⟨rfl, by rw [← divInt_quo]; exact R0, hFF⟩
    · go_simp
      have I2 := IntAt.zero v2
      have q0 : Hid (w.heap.size ≤ v2.heap.size) := Lib.hid hb.size
      have q0_B1 : Hid (B1 < v2.heap.size) := Lib.hid I1.lt
      replace X := X.alloc (.cells #[.bool false, .slice none 0 0] 90)
      replace Y := Y.alloc (.cells #[.bool false, .slice none 0 0] 90)
      replace hr := hr.alloc (.cells #[.bool false, .slice none 0 0] 90)
      replace I1 := I1.alloc (.cells #[.bool false, .slice none 0 0] 90)
      replace hb := hb.alloc hb.size (.cells #[.bool false, .slice none 0 0] 90)
      refine hK.out _ _ ?_ (fun hHeld => ?_)
      · exact trivial
      clear hK K
      generalize v2.alloc (.cells #[.bool false, .slice none 0 0] 90) = v3 at *
      generalize v2.heap.size = B2 at *
      have q_B2 := q0
      clear q0
      have q_B1_B2 := q0_B1
      clear q0_B1
      (try dsimp only [Act.put]); (try go_frame)
      refine wpAnyH_ready (rs := [8]) (by kernel_rfl) (by simp) ?_
      refine AllReadyH.cons rfl (fun K hK => ?_) AllReadyH.nil
      go_simp
      refine (mul_any B1 0 bx 0 bY 2 (x.num) (y.den) v3 I1.room X.1 Y.2 (Nat.le_trans sx.out.1 (by omega)) (Nat.le_trans sy.out.den (by omega))).mono ?_
      rintro r wm14 ⟨rfl, I0, hB⟩
      replace X := X.but hB (by have := p_bx.out; have := q_B1.out; omega)
      replace Y := Y.but hB (by have := p_bY.out; have := q_B1.out; omega)
      replace hr := hr.but hB (by have := p_b.out; have := q_B1.out; omega)
      replace I2 := I2.but hB (.inl (by have := q_B1_B2.out; omega))
      replace hb := hb.trans (hB.below q_B1.out hb.size)
      clear hB I1
      have I1 := I0
      clear I0
      refine hK.out _ _ ?_ (fun hHeld => ?_)
      · exact trivial
      clear hK K
      (try dsimp only [Act.put]); (try go_frame)
      refine wpAnyH_ready (rs := [16]) (by kernel_rfl) (by simp) ?_
      refine AllReadyH.cons rfl (fun K hK => ?_) AllReadyH.nil
      go_simp
      refine (mul_any B2 0 bx 2 bY 0 (x.den) (y.num) wm14 I2.room X.2 Y.1 (Nat.le_trans sx.out.den (by omega)) (Nat.le_trans sy.out.1 (by omega))).mono ?_
      rintro r wm22 ⟨rfl, I0, hB⟩
      replace X := X.but hB (by have := p_bx.out; have := q_B2.out; omega)
      replace Y := Y.but hB (by have := p_bY.out; have := q_B2.out; omega)
      replace hr := hr.but hB (by have := p_b.out; have := q_B2.out; omega)
      replace I1 := I1.but hB (.inl (by have := q_B1_B2.out; omega))
      replace hb := hb.trans (hB.below q_B2.out hb.size)
      clear hB I2
      have I2 := I0
      clear I0
      refine hK.out _ _ ?_ (fun hHeld => ?_)
      · exact trivial
      clear hK K
      (try dsimp only [Act.put]); (try go_frame)
      refine wpAnyH_ready (rs := [17]) (by kernel_rfl) (by simp) ?_
      refine AllReadyH.cons rfl (fun K hK => ?_) AllReadyH.nil
      go_simp
      refine (norm_any b B1 0 B2 0 (x.num * (y.den : Int)) ((x.den : Int) * y.num) wm22 hr I1 I2 (by have := q_B1.out; have := p_b.out; omega) (by have := q_B2.out; have := p_b.out; omega) hy1.out (Nat.le_trans s1.out (by omega)) (Nat.le_trans s2.out (by omega))).mono ?_
      rintro r wz ⟨rfl, R0, hF⟩
      have hFF := Far.after hb hF hr0.out
      refine hK.out _ _ ?_ (fun hHeld => ?_)
      · trivial
      clear hK K I1 I2 X Y hr hb hF
      (try dsimp only [Act.put]); (try go_frame)
      refine wpAnyH_take (i := 18) (v := _) (by first | (simp only [List.getElem?_toArray, List.getElem?_cons_zero, List.getElem?_cons_succ]; rfl) | rfl) (by kernel_rfl) (by kernel_rfl) (by kernel_rfl) (by exact fun _ _ _ h => h) (Or.inl ⟨by rfl, by (intro w hSw; (try dsimp only at hSw); go_simp; try with_reducible rfl)⟩) (by assumption) ?_
      (try dsimp only [Act.put]); (try go_frame)
      refine wpAnyH_done (by kernel_rfl) ?_ _
      try simp only [QCut]
      go_wp2
      go_ret
      exact ⟨rfl, by rw [← divInt_quo]; exact R0, hFF⟩
  · go_simp
    have I2 := IntAt.zero v1
    have q0 : Hid (w.heap.size ≤ v1.heap.size) := Lib.hid hb.size
    replace X := X.alloc (.cells #[.bool false, .slice none 0 0] 90)
    replace Y := Y.alloc (.cells #[.bool false, .slice none 0 0] 90)
    replace hr := hr.alloc (.cells #[.bool false, .slice none 0 0] 90)
    replace hb := hb.alloc hb.size (.cells #[.bool false, .slice none 0 0] 90)
    refine hK.out _ _ ?_ (fun hHeld => ?_)
    · exact trivial
    clear hK K
    generalize v1.alloc (.cells #[.bool false, .slice none 0 0] 90) = v2 at *
    generalize v1.heap.size = B2 at *
    have q_B2 := q0
    clear q0
    (try dsimp only [Act.put]); (try go_frame)
    refine wpAnyH_ready (rs := [1]) (by kernel_rfl) (by simp) ?_
    refine AllReadyH.cons rfl (fun K hK => ?_) AllReadyH.nil
    go_simp
    have I1 := IntAt.zero v2
    have q0 : Hid (w.heap.size ≤ v2.heap.size) := Lib.hid hb.size
    have q0_B2 : Hid (B2 < v2.heap.size) := Lib.hid I2.lt
    replace X := X.alloc (.cells #[.bool false, .slice none 0 0] 90)
    replace Y := Y.alloc (.cells #[.bool false, .slice none 0 0] 90)
    replace hr := hr.alloc (.cells #[.bool false, .slice none 0 0] 90)
    replace I2 := I2.alloc (.cells #[.bool false, .slice none 0 0] 90)
    replace hb := hb.alloc hb.size (.cells #[.bool false, .slice none 0 0] 90)
    refine hK.out _ _ ?_ (fun hHeld => ?_)
    · exact trivial
    clear hK K
    generalize v2.alloc (.cells #[.bool false, .slice none 0 0] 90) = v3 at *
    generalize v2.heap.size = B1 at *
    have q_B1 := q0
    clear q0
    have q_B2_B1 := q0_B2
    clear q0_B2
    (try dsimp only [Act.put]); (try go_frame)
    refine wpAnyH_ready (rs := [8]) (by kernel_rfl) (by simp) ?_
    refine AllReadyH.cons rfl (fun K hK => ?_) AllReadyH.nil
    go_simp
    refine (mul_any B1 0 bx 0 bY 2 (x.num) (y.den) v3 I1.room X.1 Y.2 (Nat.le_trans sx.out.1 (by omega)) (Nat.le_trans sy.out.den (by omega))).mono ?_
    rintro r wm24 ⟨rfl, I0, hB⟩
    replace X := X.but hB (by have := p_bx.out; have := q_B1.out; omega)
    replace Y := Y.but hB (by have := p_bY.out; have := q_B1.out; omega)
    replace hr := hr.but hB (by have := p_b.out; have := q_B1.out; omega)
    replace I2 := I2.but hB (.inl (by have := q_B2_B1.out; omega))
    replace hb := hb.trans (hB.below q_B1.out hb.size)
    clear hB I1
    have I1 := I0
    clear I0
    refine hK.out _ _ ?_ (fun hHeld => ?_)
    · exact trivial
    clear hK K
    (try dsimp only [Act.put]); (try go_frame)
    refine wpAnyH_ready (rs := [16]) (by kernel_rfl) (by simp) ?_
    refine AllReadyH.cons rfl (fun K hK => ?_) AllReadyH.nil
    go_simp
    refine (mul_any B2 0 bx 2 bY 0 (x.den) (y.num) wm24 I2.room X.2 Y.1 (Nat.le_trans sx.out.den (by omega)) (Nat.le_trans sy.out.1 (by omega))).mono ?_
    rintro r wm32 ⟨rfl, I0, hB⟩
    replace X := X.but hB (by have := p_bx.out; have := q_B2.out; omega)
    replace Y := Y.but hB (by have := p_bY.out; have := q_B2.out; omega)
    replace hr := hr.but hB (by have := p_b.out; have := q_B2.out; omega)
    replace I1 := I1.but hB (.inl (by have := q_B2_B1.out; omega))
    replace hb := hb.trans (hB.below q_B2.out hb.size)
    clear hB I2
    have I2 := I0
    clear I0
    refine hK.out _ _ ?_ (fun hHeld => ?_)
    · exact trivial
    clear hK K
    (try dsimp only [Act.put]); (try go_frame)
    refine wpAnyH_ready (rs := [17]) (by kernel_rfl) (by simp) ?_
    refine AllReadyH.cons rfl (fun K hK => ?_) AllReadyH.nil
    go_simp
    refine (norm_any b B1 0 B2 0 (x.num * (y.den : Int)) ((x.den : Int) * y.num) wm32 hr I1 I2 (by have := q_B1.out; have := p_b.out; omega) (by have := q_B2.out; have := p_b.out; omega) hy1.out (Nat.le_trans s1.out (by omega)) (Nat.le_trans s2.out (by omega))).mono ?_
    rintro r wz ⟨rfl, R0, hF⟩
    have hFF := Far.after hb hF hr0.out
    refine hK.out _ _ ?_ (fun hHeld => ?_)
    · trivial
    clear hK K I1 I2 X Y hr hb hF
    (try dsimp only [Act.put]); (try go_frame)
    refine wpAnyH_take (i := 18) (v := _) (by first | (simp only [List.getElem?_toArray, List.getElem?_cons_zero, List.getElem?_cons_succ]; rfl) | rfl) (by kernel_rfl) (by kernel_rfl) (by kernel_rfl) (by exact fun _ _ _ h => h) (Or.inl ⟨by rfl, by (intro w hSw; (try dsimp only at hSw); go_simp; try with_reducible rfl)⟩) (by assumption) ?_
    (try dsimp only [Act.put]); (try go_frame)
    refine wpAnyH_done (by kernel_rfl) ?_ _
    try simp only [QCut]
    go_wp2
    go_ret
    exact ⟨rfl, by rw [← divInt_quo]; exact R0, hFF⟩

end Go.Proofs.YtbfnafcpjbdbpaaGreat
