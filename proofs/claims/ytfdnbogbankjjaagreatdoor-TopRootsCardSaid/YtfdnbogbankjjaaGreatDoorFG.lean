/- Merged: FE FF FG -/
import Derived.Test.YtfdnbogbankjjaaGreatDoorFD

/- poly.At, SlopeAt. -/
namespace Go.Proofs.YtfdnbogbankjjaaGreatDoor
open Go Go.RowKit Go.PlainAid Fil

set_option maxRecDepth 100000 in
theorem c_pyAt {B : Nat} {v : Value} {L : List CV} {a b : Nat} {Z : CV} (w : World) (h : PL B w v L) (G : GP L) (ha : Fl a Z.1) (hb : Fl b Z.2) :
  Calls Tryz.prog 26 #[v, .complex .f64 a b] w fun r w' => (∃ z y, r = .returned (.tuple #[.complex .f64 z y, .int .i64 0]) ∧ Fl z (atF L Z).1 ∧ Fl y (atF L Z).2) ∧ Below w.heap.size w w' := by
 obtain ⟨a', c, rfl, hc, hm⟩ := h.slc
 have B0 := Below.refl w.heap.size w
 have F := Blk.put w #[.slice a' L.length c] 29
 replace B0 := B0.alloc B0.size (.cells #[.slice a' L.length c] 29)
 have hz := c_pyall _ (h.keep B0) G F.ce1
 have hy := fun W hW => c_pyat W (PL.keep h hW) G.pos G.len ha hb
 clear h G F
 go_enter Tryz.func26, Tryz.ntmps26
 go_wp2_with fail
 refine hz.mono ?_
 rintro r w1 ⟨rfl, hb1⟩
 replace B0 := B0.trans (hb1.mono B0.size)
 clear hb1 hz
 go_wp2_with fail
 refine (hy _ B0).mono ?_
 rintro r w2 ⟨⟨z2, y2, rfl, a2, b2⟩, hb1⟩
 replace B0 := B0.trans (hb1.mono B0.size)
 clear hb1 hy
 go_wp2
 go_ret2
 exact ⟨⟨_, _, rfl, a2, b2⟩, B0⟩
theorem stF_len (L : List CV) : (stF L).length = L.length - 1 := len_range _ _
set_option maxRecDepth 100000 in
theorem c_pySlopeAt {B : Nat} {v : Value} {L : List CV} {a b : Nat} {Z : CV} (w : World) (h : PL B w v L) (G : GP L) (h2 : 1 < L.length) (ha : Fl a Z.1) (hb : Fl b Z.2) :
  Calls Tryz.prog 27 #[v, .complex .f64 a b] w fun r w' => (∃ z y, r = .returned (.tuple #[.complex .f64 z y, .int .i64 0]) ∧ Fl z (atF (stF L) Z).1 ∧ Fl y (atF (stF L) Z).2) ∧ Below w.heap.size w w' := by
 obtain ⟨a', c, rfl, hc, hm⟩ := h.slc
 have B0 := Below.refl w.heap.size w
 have F := Blk.put w #[.slice a' L.length c] 29
 replace B0 := B0.alloc B0.size (.cells #[.slice a' L.length c] 29)
 have hz := c_pyall _ (h.keep B0) G F.ce1
 have hs := fun W hW => c_pysteep W (PL.keep h hW) G.pos G.len
 have hl1 : 0 < (stF L).length := by rw [stF_len]; omega
 have hl2 : (stF L).length ≤ 17 := by rw [stF_len]; have := G.len; omega
 clear h G F
 go_enter Tryz.func27, Tryz.ntmps27
 go_wp2_with fail
 refine hz.mono ?_
 rintro r w1 ⟨rfl, hb1⟩
 replace B0 := B0.trans (hb1.mono B0.size)
 clear hb1 hz
 go_wp2_with fail
 refine (hs _ B0).mono ?_
 rintro r w2 ⟨⟨v2, rfl, hp⟩, hb1⟩
 replace B0 := B0.trans (hb1.mono B0.size)
 clear hb1 hs
 go_wp2_with fail
 refine (c_pyat _ hp hl1 hl2 ha hb).mono ?_
 rintro r w3 ⟨⟨z2, y2, rfl, a2, b2⟩, hb1⟩
 replace B0 := B0.trans (hb1.mono B0.size)
 clear hb1
 go_wp2
 go_ret2
 exact ⟨⟨_, _, rfl, a2, b2⟩, B0⟩
set_option maxRecDepth 100000 in
theorem c_pyon {B : Nat} {v : Value} {L : List BV} {x y r : Nat} {Z : BV} (w : World) (h : BS B w v L) (h0 : 0 < L.length) (hn : L.length ≤ 17) (hZ : Fb x y r Z) :
  Calls Tryz.prog 67 #[v, .agg #[.complex .f64 x y, .float .f64 r]] w fun e w' => (∃ z y t, e = .returned (.agg #[.complex .f64 z y, .float .f64 t]) ∧ Fb z y t (onF L Z)) ∧ Below w.heap.size w w' := by
 have hst1 := fun (a : Addr) (v : Nat) (m : Mode) (W : World) => (run_store Tryz.prog W a (.float .f64 v) m rfl : (store a (.float .f64 v) m).run Tryz.prog W = stored Tryz.prog W a (.float .f64 v) m)
 have hst2 := fun (a : Addr) (u v : Nat) (m : Mode) (W : World) => (run_store Tryz.prog W a (.complex .f64 u v) m rfl : (store a (.complex .f64 u v) m).run Tryz.prog W = stored Tryz.prog W a (.complex .f64 u v) m)
 have B0 := Below.refl w.heap.size w
 have F3 := Blk.put w #[.complex .f64 x y, .float .f64 r] 32
 replace B0 := B0.alloc B0.size (.cells #[.complex .f64 x y, .float .f64 r] 32)
 have F4 := Blk.put (w.alloc (.cells #[.complex .f64 x y, .float .f64 r] 32)) #[.complex .f64 0 0, .float .f64 0] 32
 rw [show (w.alloc (.cells #[.complex .f64 x y, .float .f64 r] 32)).heap.size = w.heap.size + 1 by simp] at F4
 replace F3 := F3.allocd (.cells #[.complex .f64 0 0, .float .f64 0] 32)
 replace B0 := B0.alloc B0.size (.cells #[.complex .f64 0 0, .float .f64 0] 32)
 obtain ⟨a', c, rfl, hc, hm⟩ := h.slc
 have hy := fun W hW xn yn rn G => c_pywalkB (xn := xn) (yn := yn) (rn := rn) (xg := x) (yg := y) (rg := r) (g := w.heap.size) W (BS.keep h hW) h0 hn hZ G
 clear h
 go_enter Tryz.func67, Tryz.ntmps67
 go_wp2_with fail
 refine (c_blPoint _ fl_zero fl_zero).mono ?_
 rintro e w1 ⟨⟨z1, y1, t1, rfl, a1, b1, d1⟩, hb1⟩
 replace F3 := F3.keep hb1
 replace F4 := F4.keep hb1
 replace B0 := B0.trans (hb1.mono B0.size)
 clear hb1
 go_wp2_with fail
 refine (hy _ B0 z1 y1 t1 F3).mono ?_
 rintro e w2 ⟨⟨z2, y2, t2, rfl, hR⟩, hb1⟩
 replace F4 := F4.keep hb1
 replace B0 := B0.trans (hb1.mono B0.size)
 clear hb1 hy F3
 obtain ⟨xF8_0, xF8_1⟩ := F4.ce2
 obtain ⟨xF8_0f, xF8_1f⟩ := F4.fr2
 replace F4 : Blk ((w2.setCell ⟨w.heap.size + 1, 0, none⟩ (.complex .f64 z2 y2)).setCell ⟨w.heap.size + 1, 1, none⟩ (.float .f64 t2)) (w.heap.size + 1) #[.complex .f64 z2 y2, .float .f64 t2] 32 := ((F4.setAt 0 (.complex .f64 z2 y2)).setAt 1 (.float .f64 t2))
 replace B0 := ((B0.setCell (p := ⟨w.heap.size + 1, 0, none⟩) (Nat.le_succ _) (.complex .f64 z2 y2)).setCell (p := ⟨w.heap.size + 1, 1, none⟩) (Nat.le_succ _) (.float .f64 t2))
 obtain ⟨yF8_0, yF8_1⟩ := F4.ce2
 go_wp2
 exact bodyPost_ret (v := .agg #[.complex .f64 z2 y2, .float .f64 t2]) (by simp [results, Tryz.results67, go_sem, yF8_0, yF8_1]) rfl ⟨⟨_, _, _, rfl, hR⟩, B0⟩
end Go.Proofs.YtfdnbogbankjjaaGreatDoor

/- poly.On. (printed by gen_ff.py) -/
namespace Go.Proofs.YtfdnbogbankjjaaGreatDoor
open Go Go.RowKit Go.PlainAid Fil

def ptsF (L : List CV) : List BV := (List.range L.length).map fun j => bPoint (L.getD j C00)
theorem ptsF_len (L : List CV) : (ptsF L).length = L.length := len_range _ _
set_option maxRecDepth 100000 in
set_option maxHeartbeats 4000000 in
theorem c_pyOn {B : Nat} {v : Value} {L : List CV} {x y r : Nat} {Z : BV} (w : World) (h : PL B w v L) (G : GP L) (hZ : Fb x y r Z) (hM : bMay Z = true) :
  Calls Tryz.prog 30 #[v, .agg #[.complex .f64 x y, .float .f64 r]] w fun e w' => (∃ z y t, e = .returned (.tuple #[.agg #[.complex .f64 z y, .float .f64 t], .int .i64 0]) ∧ Fb z y t (onF (ptsF L) Z)) ∧ Below w.heap.size w w' := by
 obtain ⟨a', c, rfl, hc, hm⟩ := h.slc
 have hmay := fun W => c_blMay W hZ.1 hZ.2.1 hZ.2.2
 rw [show ((Z.1.1, Z.1.2), Z.2) = Z from rfl, hM] at hmay
 have hl0 : 0 < (ptsF L).length := by rw [ptsF_len]; exact G.pos
 have hl1 : (ptsF L).length ≤ 17 := by rw [ptsF_len]; exact G.len
 go_enter Tryz.func30, Tryz.ntmps30
 have B0 := Below.refl w.heap.size w
 have hst1 := fun (a : Addr) (v : Nat) (m : Mode) (W : World) => (run_store Tryz.prog W a (.float .f64 v) m rfl : (store a (.float .f64 v) m).run Tryz.prog W = stored Tryz.prog W a (.float .f64 v) m)
 have hst2 := fun (a : Addr) (u v : Nat) (m : Mode) (W : World) => (run_store Tryz.prog W a (.complex .f64 u v) m rfl : (store a (.complex .f64 u v) m).run Tryz.prog W = stored Tryz.prog W a (.complex .f64 u v) m)
 have F3 := Blk.put (w) #[.complex .f64 x y, .float .f64 r] 32
 replace B0 := B0.alloc B0.size (.cells #[.complex .f64 x y, .float .f64 r] 32)
 have q_w_F4 : Hid (w.heap.size ≤ w.heap.size + 1) := Lib.hid (by omega)
 replace F3 := F3.allocd (.cells #[.complex .f64 0 0, .float .f64 0] 32)
 have F4 := Blk.put ((w).alloc (.cells #[.complex .f64 x y, .float .f64 r] 32)) #[.complex .f64 0 0, .float .f64 0] 32
 rw [show ((w).alloc (.cells #[.complex .f64 x y, .float .f64 r] 32)).heap.size = w.heap.size + 1 by simp] at F4
 replace B0 := B0.alloc B0.size (.cells #[.complex .f64 0 0, .float .f64 0] 32)
 replace F3 := F3.allocd (.cells #[.slice a' L.length c] 29)
 replace F4 := F4.allocd (.cells #[.slice a' L.length c] 29)
 have F7 := Blk.put (((w).alloc (.cells #[.complex .f64 x y, .float .f64 r] 32)).alloc (.cells #[.complex .f64 0 0, .float .f64 0] 32)) #[.slice a' L.length c] 29
 rw [show (((w).alloc (.cells #[.complex .f64 x y, .float .f64 r] 32)).alloc (.cells #[.complex .f64 0 0, .float .f64 0] 32)).heap.size = w.heap.size + 1 + 1 by simp] at F7
 replace B0 := B0.alloc B0.size (.cells #[.slice a' L.length c] 29)
 go_wp2_with fail
 (with_reducible refine (c_pyall _ (h.keep B0) G F7.ce1).mono ?_)
 rintro r w1 ⟨rfl, hb1⟩
 replace F3 := F3.keep hb1
 replace F4 := F4.keep hb1
 replace F7 := F7.keep hb1
 replace B0 := B0.trans (hb1.mono B0.size)
 clear hb1
 obtain ⟨xF31_0, xF31_1⟩ := F3.ce2
 go_wp2_with fail
 (with_reducible refine (hmay _).mono ?_)
 rintro r w2 ⟨rfl, hb2⟩
 clear xF31_0 xF31_1
 replace F3 := F3.keep hb2
 replace F4 := F4.keep hb2
 clear F7
 replace B0 := B0.trans (hb2.mono B0.size)
 clear hb2
 go_wp2_with fail
 refine wp_region_cut 4 (by kernel_rfl) (by kernel_rfl) ?_
 rintro W rfl
 simp only [List.take_succ_cons, List.take_zero, List.drop_succ_cons, List.drop_zero]
 obtain ⟨xF32_0, xF32_1⟩ := F3.ce2
 have hHeld : (fun w' : World => w'.cell? ⟨w.heap.size, 0, none⟩ = some (.complex .f64 x y) ∧ w'.cell? ⟨w.heap.size, 1, none⟩ = some (.float .f64 r)) (w2).drew := ⟨xF32_0, xF32_1⟩
 refine wpAny_of_held (S := fun w' : World => w'.cell? ⟨w.heap.size, 0, none⟩ = some (.complex .f64 x y) ∧ w'.cell? ⟨w.heap.size, 1, none⟩ = some (.float .f64 r)) _ _ _ (w2).drew ?_
 replace F3 := F3.drew
 replace F4 := F4.drew
 replace B0 := B0.drew
 generalize (w2).drew = v1 at *
 refine tkA 0 ?_
 (try dsimp only [Act.put]); (try go_frame)
 refine tkA 2 ?_
 (try dsimp only [Act.put]); (try go_frame)
 refine wpAnyH_ready (rs := [1]) (by kernel_rfl) (by simp) ?_
 refine AllReadyH.cons rfl (fun K hK => ?_) AllReadyH.nil
 go_simp
 (with_reducible refine (c_pypoints _ (h.keep B0) G.len).mono ?_)
 rintro r w3 ⟨⟨v3, rfl, hp3⟩, hb3⟩
 clear xF32_0 xF32_1
 replace F3 := F3.keep hb3
 replace F4 := F4.keep hb3
 replace B0 := B0.trans (hb3.mono B0.size)
 clear hb3
 replace hp3 : BS _ _ _ (ptsF L) := hp3
 obtain ⟨xF35_0, xF35_1⟩ := F3.ce2
 refine hK.out _ _ ?_ (fun hHeld => ?_)
 ·exact ⟨xF35_0, xF35_1⟩
 clear hK K
 (try dsimp only [Act.put]); (try go_frame)
 refine wpAnyH_ready (rs := [3]) (by kernel_rfl) (by simp) ?_
 refine AllReadyH.cons rfl (fun K hK => ?_) AllReadyH.nil
 go_simp
 (with_reducible refine (c_pyon _ hp3 hl0 hl1 hZ).mono ?_)
 rintro r w4 ⟨⟨z4, j4, t4, rfl, hR4⟩, hb4⟩
 clear xF35_0 xF35_1
 replace F3 := F3.keep hb4
 replace F4 := F4.keep hb4
 replace B0 := B0.trans (hb4.mono B0.size)
 clear hb4
 obtain ⟨xF36_0, xF36_1⟩ := F3.ce2
 refine hK.out _ _ ?_ (fun hHeld => ?_)
 ·exact ⟨xF36_0, xF36_1⟩
 clear hK K
 (try dsimp only [Act.put]); (try go_frame)
 refine wpAnyH_done (by kernel_rfl) ?_ _
 try simp only [QCut]
 clear hHeld
 clear xF36_0 xF36_1
 obtain ⟨xF46_0, xF46_1⟩ := F4.ce2
 obtain ⟨xF46_0f, xF46_1f⟩ := F4.fr2
 clear F3
 replace F4 : Blk (((w4).setCell ⟨w.heap.size + 1, 0, none⟩ (.complex .f64 z4 j4)).setCell ⟨w.heap.size + 1, 1, none⟩ (.float .f64 t4)) (w.heap.size + 1) #[.complex .f64 z4 j4, .float .f64 t4] 32 := ((F4.setAt 0 (.complex .f64 z4 j4)).setAt 1 (.float .f64 t4))
 replace B0 := ((B0.setCell (p := ⟨w.heap.size + 1, 0, none⟩) q_w_F4.out (.complex .f64 z4 j4)).setCell (p := ⟨w.heap.size + 1, 1, none⟩) q_w_F4.out (.float .f64 t4))
 obtain ⟨xF47_0, xF47_1⟩ := F4.ce2
 go_wp2
 exact bodyPost_ret (v := .tuple #[.agg #[.complex .f64 z4 j4, .float .f64 t4], .int .i64 0]) (by simp [results, Tryz.results30, go_sem, xF47_0, xF47_1]) rfl ⟨⟨_, _, _, rfl, hR4⟩, B0⟩
end Go.Proofs.YtfdnbogbankjjaaGreatDoor

/- poly.SlopeOn. (printed by gen_fg.py) -/
namespace Go.Proofs.YtfdnbogbankjjaaGreatDoor
open Go Go.RowKit Go.PlainAid Fil

theorem El.of_cell {w : World} {b o : Nat} {v : Value} (hb : b < w.heap.size) (h : w.cell? ⟨b, o, none⟩ = some v) : El w b o #[v] := ⟨hb, fun i hi => by
 match i, hi with
 | 0, _ => exact h⟩
theorem Blk.grown {w w' : World} {b : Nat} {cs : Array Value} {t : TypeId} {row : Option Nat} (h : Blk w b cs t) (hg : w.grownBy w' row) (hne : ∀ k, row = some k → b ≠ k) : Blk w' b cs t :=
 (hg.block b h.lt (fun e => hne b e.symm rfl)).trans h
theorem eta3 (Z : BV) : ((Z.1.1, Z.1.2), Z.2) = Z := rfl
theorem BS.drew {B : Nat} {w : World} {v : Value} {L : List BV} (h : BS B w v L) : BS B w.drew v L := h
theorem BS.allocd {B : Nat} {w : World} {v : Value} {L : List BV} (h : BS B w v L) (o : Obj) : BS B (w.alloc o) v L := h.keep ((Below.refl _ _).alloc (Nat.le_refl _) _)
def slT (L : List CV) (j : Nat) : BV := bMul (bPoint (fint (j + 1), some 0)) (bPoint (L.getD (j + 1) C00))
theorem slT_eq {L : List CV} {k : Nat} {U V : FV} (h : L.getD (k + 1) C00 = (U, V)) : slT L k = bMul (((bPoint (fint (k + 1), some 0)).1.1, (bPoint (fint (k + 1), some 0)).1.2), (bPoint (fint (k + 1), some 0)).2) (((bPoint (U, V)).1.1, (bPoint (U, V)).1.2), (bPoint (U, V)).2) := by
 rw [eta3 (bPoint (fint (k + 1), some 0)), eta3 (bPoint (U, V)), ← h]
 exact (rfl : slT L k = slT L k)
theorem BS.push_range {B : Nat} {w : World} {v : Value} {f : Nat → BV} {k : Nat} {ps : List (Nat × Nat × Nat)} {x y r : Nat} (hl : ps.length = ((List.range k).map f).length) (hp : ∀ i (h : i < ((List.range k).map f).length) (h' : i < ps.length), Fl ps[i].1 ((List.range k).map f)[i].1.1 ∧ Fl ps[i].2.1 ((List.range k).map f)[i].1.2 ∧ Fl ps[i].2.2 ((List.range k).map f)[i].2)
  (h : w.ownsRow B 32 2 v (((List.range k).map f).length + 1) (ps.flatMap BPv ++ [.complex .f64 x y, .float .f64 r])) (hx : Fl x (f k).1.1) (hy : Fl y (f k).1.2) (hr : Fl r (f k).2) : BS B w v ((List.range (k + 1)).map f) := by
 rw [List.range_succ, List.map_append]
 exact BS.push h hl hp hx hy hr
def slF (L : List CV) : List BV := (List.range (L.length - 1)).map (slT L)
theorem slF_len (L : List CV) : (slF L).length = L.length - 1 := len_range _ _
set_option maxRecDepth 100000 in
set_option maxHeartbeats 8000000 in
theorem c_pySlopeOn {B : Nat} {v : Value} {L : List CV} {x y r : Nat} {Z : BV} (w : World) (h : PL B w v L) (G : GP L) (hL : 1 < L.length) (hZ : Fb x y r Z) (hM : bMay Z = true) :
  Calls Tryz.prog 36 #[v, .agg #[.complex .f64 x y, .float .f64 r]] w fun e w' => (∃ z y t, e = .returned (.tuple #[.agg #[.complex .f64 z y, .float .f64 t], .int .i64 0]) ∧ Fb z y t (onF (slF L) Z)) ∧ Below w.heap.size w w' := by
 obtain ⟨i0, hi, hp⟩ := Option.map_eq_some_iff.1 Tryz.info32
 have hz0 : i0.zero = some (.agg #[.complex .f64 0 0, .float .f64 0]) := congrArg Prod.fst hp
 have hz1 : i0.size = 2 := congrArg (fun q => q.2.1) hp
 have hz2 : i0.bytes = 24 := congrArg (fun q => q.2.2) hp
 obtain ⟨a', c, rfl, hc, hm⟩ := h.slc
 have hmay := fun W => c_blMay W hZ.1 hZ.2.1 hZ.2.2
 rw [show ((Z.1.1, Z.1.2), Z.2) = Z from rfl, hM] at hmay
 have hl0 : 0 < (slF L).length := by rw [slF_len]; omega
 have hl1 : (slF L).length ≤ 17 := by rw [slF_len]; have := G.len; omega
 obtain ⟨n, en⟩ : ∃ n, n = L.length := ⟨_, rfl⟩
 have HF := Lib.hid (And.intro en h)
 have hn := G.len
 go_enter Tryz.func36, Tryz.ntmps36
 have B0 := Below.refl w.heap.size w
 have hst1 := fun (a : Addr) (v : Nat) (m : Mode) (W : World) => (run_store Tryz.prog W a (.float .f64 v) m rfl : (store a (.float .f64 v) m).run Tryz.prog W = stored Tryz.prog W a (.float .f64 v) m)
 have hst2 := fun (a : Addr) (u v : Nat) (m : Mode) (W : World) => (run_store Tryz.prog W a (.complex .f64 u v) m rfl : (store a (.complex .f64 u v) m).run Tryz.prog W = stored Tryz.prog W a (.complex .f64 u v) m)
 have F3 := Blk.put (w) #[.complex .f64 x y, .float .f64 r] 32
 replace B0 := B0.alloc B0.size (.cells #[.complex .f64 x y, .float .f64 r] 32)
 replace F3 := F3.allocd (.cells #[.complex .f64 0 0, .float .f64 0] 32)
 have F4 := Blk.put ((w).alloc (.cells #[.complex .f64 x y, .float .f64 r] 32)) #[.complex .f64 0 0, .float .f64 0] 32
 rw [show ((w).alloc (.cells #[.complex .f64 x y, .float .f64 r] 32)).heap.size = w.heap.size + 1 by simp] at F4
 replace B0 := B0.alloc B0.size (.cells #[.complex .f64 0 0, .float .f64 0] 32)
 replace F3 := F3.allocd (.cells #[.slice a' L.length c] 29)
 replace F4 := F4.allocd (.cells #[.slice a' L.length c] 29)
 have F9 := Blk.put (((w).alloc (.cells #[.complex .f64 x y, .float .f64 r] 32)).alloc (.cells #[.complex .f64 0 0, .float .f64 0] 32)) #[.slice a' L.length c] 29
 rw [show (((w).alloc (.cells #[.complex .f64 x y, .float .f64 r] 32)).alloc (.cells #[.complex .f64 0 0, .float .f64 0] 32)).heap.size = w.heap.size + 1 + 1 by simp] at F9
 replace B0 := B0.alloc B0.size (.cells #[.slice a' L.length c] 29)
 go_wp2_with fail
 (with_reducible refine (c_pyall _ (h.keep B0) G F9.ce1).mono ?_)
 rintro r w1 ⟨rfl, hb1⟩
 replace F3 := F3.keep hb1
 replace F4 := F4.keep hb1
 replace F9 := F9.keep hb1
 replace B0 := B0.trans (hb1.mono B0.size)
 clear hb1
 obtain ⟨xF31_0, xF31_1⟩ := F3.ce2
 go_wp2_with fail
 (with_reducible refine (hmay _).mono ?_)
 rintro r w2 ⟨rfl, hb2⟩
 clear xF31_0 xF31_1
 replace F3 := F3.keep hb2
 replace F4 := F4.keep hb2
 clear F9
 replace B0 := B0.trans (hb2.mono B0.size)
 clear hb2
 go_wp2_with fail
 go_wp2
 rw [← en]
 rw [← en] at hn hL hc
 clear h G hp en
 have q_w_F4 := Lib.hid (Nat.le_succ w.heap.size)
 go_loopg [6, 7] (n - 1) (fun g s6 s7 wr => ∃ k : Nat, k + 1 ≤ n ∧ g = n - 1 - k ∧ s7 = .int .i64 ((k : Int) + 1) ∧ BS (w.heap.size + 2) wr s6 ((List.range k).map (slT L)) ∧ Blk wr w.heap.size #[.complex .f64 x y, .float .f64 r] 32 ∧ Blk wr (w.heap.size + 1) #[.complex .f64 0 0, .float .f64 0] 32 ∧ Below w.heap.size w wr)
 case atStart => exact ⟨0, by omega, by omega, rfl, BS.nil _ _, F3, F4, B0⟩
 case round =>
  clear F3 F4 B0
  obtain ⟨k, hk, hg, rfl, hpl, F3, F4, B0⟩ := hrel
  by_cases hkn : k + 1 < n
  ·obtain ⟨en, h⟩ := HF.out
   have hkL : k + 1 < L.length := by omega
   obtain ⟨b', u, v, e, _, hb', hcell, hu, hv⟩ := (h.keep B0).get (k + 1) hkL
   cases e
   have S := El.of_cell hb' hcell
   have hfk : Fl (floatOfInt .f64 ((k : Int) + 1)) (fint (k + 1)) := fint_fl (k + 1)
   have hLk : L.getD (k + 1) C00 = (L[k + 1].1, L[k + 1].2) := getD_get hkL
   have HG := Lib.hid (And.intro hg en)
   have hin : (k : Int) + 1 < (n : Int) := by omega
   have h0k : (0 : Int) ≤ (k : Int) + 1 := by omega
   clear hg en h hcell
   generalize L[k + 1].1 = U at *
   generalize L[k + 1].2 = V at *
   go_wp2_with fail
   refine wp_region_cut 12 (by kernel_rfl) (by kernel_rfl) ?_
   rintro W rfl
   simp only [List.take_succ_cons, List.take_zero, List.drop_succ_cons, List.drop_zero]
   have xS50_0 := S.ce1
   have hHeld : (fun w' : World => w'.cell? ⟨b', k + 1, none⟩ = some (.complex .f64 u v)) (wr).drew := xS50_0
   refine wpAny_of_held (S := fun w' : World => w'.cell? ⟨b', k + 1, none⟩ = some (.complex .f64 u v)) _ _ _ (wr).drew ?_
   replace F3 := F3.drew
   replace hpl := hpl.drew
   replace F4 := F4.drew
   replace S := S.drew
   replace B0 := B0.drew
   generalize (wr).drew = v1 at *
   refine tkA 0 ?_
   (try dsimp only [Act.put]); (try go_frame)
   refine tkA 1 ?_
   (try dsimp only [Act.put]); (try go_frame)
   refine tkA 2 ?_
   (try dsimp only [Act.put]); (try go_frame)
   refine tkA 3 ?_
   (try dsimp only [Act.put]); (try go_frame)
   refine tkA 5 ?_
   (try dsimp only [Act.put]); (try go_frame)
   refine tkA 6 ?_
   (try dsimp only [Act.put]); (try go_frame)
   refine tkA 7 ?_
   (try dsimp only [Act.put]); (try go_frame)
   refine tkA 8 ?_
   (try dsimp only [Act.put]); (try go_frame)
   refine wpAnyH_ready (rs := [4]) (by kernel_rfl) (by simp) ?_
   refine AllReadyH.cons rfl (fun K hK => ?_) AllReadyH.nil
   go_simp
   (with_reducible refine (c_blPoint _ hfk (fl_some (b := 0) (by decide) (by decide))).mono ?_)
   rintro r w21 ⟨⟨z21, j21, t21, rfl, a21, b21, d21⟩, hb21⟩
   clear xS50_0
   replace hpl := hpl.keep hb21
   replace F3 := F3.keep hb21
   replace F4 := F4.keep hb21
   replace S := S.keep hb21
   replace B0 := B0.trans (hb21.mono B0.size)
   clear hb21
   have xS53_0 := S.ce1
   refine hK.out _ _ ?_ (fun hHeld => ?_)
   ·exact xS53_0
   clear hK K
   (try dsimp only [Act.put]); (try go_frame)
   refine wpAnyH_ready (rs := [9]) (by kernel_rfl) (by simp) ?_
   refine AllReadyH.cons rfl (fun K hK => ?_) AllReadyH.nil
   go_simp
   (with_reducible refine (c_blPoint _ hu hv).mono ?_)
   rintro r w22 ⟨⟨z22, j22, t22, rfl, a22, b22, d22⟩, hb22⟩
   clear xS53_0
   replace hpl := hpl.keep hb22
   replace F3 := F3.keep hb22
   replace F4 := F4.keep hb22
   replace S := S.keep hb22
   replace B0 := B0.trans (hb22.mono B0.size)
   clear hb22
   have xS54_0 := S.ce1
   refine hK.out _ _ ?_ (fun hHeld => ?_)
   ·exact xS54_0
   clear hK K
   (try dsimp only [Act.put]); (try go_frame)
   refine wpAnyH_ready (rs := [10]) (by kernel_rfl) (by simp) ?_
   refine AllReadyH.cons rfl (fun K hK => ?_) AllReadyH.nil
   go_simp
   (with_reducible refine (c_blMul _ a21 b21 d21 a22 b22 d22).mono ?_)
   rintro r w23 ⟨⟨z23, j23, t23, rfl, a23, b23, d23⟩, hb23⟩
   clear xS54_0
   replace hpl := hpl.keep hb23
   replace F3 := F3.keep hb23
   replace F4 := F4.keep hb23
   replace S := S.keep hb23
   replace B0 := B0.trans (hb23.mono B0.size)
   clear hb23
   have xS55_0 := S.ce1
   refine hK.out _ _ ?_ (fun hHeld => ?_)
   ·exact xS55_0
   clear hK K
   (try dsimp only [Act.put]); (try go_frame)
   refine wpAnyH_ready (rs := [11]) (by kernel_rfl) (by simp) ?_
   refine AllReadyH.cons rfl (fun K hK => ?_) AllReadyH.nil
   go_simp
   clear xS55_0
   replace F3 := F3.allocd (.cells #[.complex .f64 z23 j23, .float .f64 t23] 32)
   replace hpl := hpl.allocd (.cells #[.complex .f64 z23 j23, .float .f64 t23] 32)
   replace F4 := F4.allocd (.cells #[.complex .f64 z23 j23, .float .f64 t23] 32)
   replace S := S.allocd (.cells #[.complex .f64 z23 j23, .float .f64 t23] 32)
   replace B0 := B0.alloc B0.size (.cells #[.complex .f64 z23 j23, .float .f64 t23] 32)
   have xS56_0 := S.ce1
   refine hK.out _ _ ?_ (fun hHeld => ?_)
   ·exact xS56_0
   clear hK K
   (try dsimp only [Act.put]); (try go_frame)
   refine wpAnyH_done (by kernel_rfl) ?_ _
   try simp only [QCut]
   clear hHeld
   clear xS56_0
   obtain ⟨ps, hown, hlen, hps⟩ := hpl
   rw [len_range] at hown
   have HP := Lib.hid (And.intro hlen (And.intro hps (And.intro a23 (And.intro b23 d23))))
   have hbz := B0.size
   have h4 := F4.lt
   clear hlen hps a23 b23 d23
   go_wp2_with (at_builtin; refine wpList_append_own _ rfl _ _ 52 rfl (w.heap.size + 2) 32 i0 (.agg #[.complex .f64 0 0, .float .f64 0]) 2 24 Tryz.underlying52 hi hz0 hz1 hz2 rfl (by decide) _ _ _ rfl (by exact hown) ⟨w23.heap.size, 0, none⟩ 1 1 [.complex .f64 z23 j23, .float .f64 t23] rfl rfl ?c1 ?c2 ?c3 ?c4 ?c5 ?_)
   case c1 =>
    intro j u hj
    match j, hj with
    | 0, hj => simp at hj; subst hj; simp [Addr.add]
    | 1, hj => simp at hj; subst hj; simp [Addr.add]
   case c2 => intro u hu; simp at hu; rcases hu with rfl | rfl <;> rfl
   case c3 => unfold maxLen; omega
   case c4 => omega
   case c5 => first | omega | (simp; omega)
   ·intro v' w3 hown' hgrow _
    obtain ⟨hlen, hps, a23, b23, d23⟩ := HP.out
    have hne : ∀ b, b < w.heap.size + 2 → ∀ k, u6.ownBlock = some k → b ≠ k := fun b hb k hk => by have := (hown.lt k hk).1; omega
    replace F3 := F3.grown hgrow (hne _ (by omega))
    replace F4 := F4.grown hgrow (hne _ (by omega))
    have hb1 := B0.grown hgrow (by omega) (fun k hk => by have := (hown.lt k hk).1; omega)
    have hq : BS (w.heap.size + 2) w3 v' ((List.range (k + 1)).map (slT L)) := by
     have hT := slT_eq hLk
     refine BS.push_range hlen hps (by rw [len_range]; exact hown') ?_ ?_ ?_
     ·rw [hT]; exact a23
     ·rw [hT]; exact b23
     ·rw [hT]; exact d23
    clear hown hown' hgrow hps a23 b23 d23
    go_wp2
    go_roundg (n - 1 - (k + 1))
    case measure => have := HG.out.1; omega
    case rel => exact ⟨k + 1, by omega, rfl, by go_num, hq, F3, F4, hb1⟩
  ·obtain rfl : n = k + 1 := by omega
   replace hpl : BS (w.heap.size + 2) wr u6 (slF L) := by
    have e : slF L = (List.range k).map (slT L) := by unfold slF; rw [← HF.out.1]; rfl
    rw [e]; exact hpl
   obtain ⟨xF350_0, xF350_1⟩ := F3.ce2
   go_wp2_with fail
   (with_reducible refine (c_pyon _ hpl hl0 hl1 hZ).mono ?_)
   rintro r w21 ⟨⟨z21, j21, t21, rfl, hR21⟩, hb21⟩
   clear xF350_0 xF350_1
   replace F3 := F3.keep hb21
   replace F4 := F4.keep hb21
   replace B0 := B0.trans (hb21.mono B0.size)
   clear hb21
   obtain ⟨xF451_0, xF451_1⟩ := F4.ce2
   obtain ⟨xF451_0f, xF451_1f⟩ := F4.fr2
   clear F3
   replace F4 : Blk (((w21).setCell ⟨w.heap.size + 1, 0, none⟩ (.complex .f64 z21 j21)).setCell ⟨w.heap.size + 1, 1, none⟩ (.float .f64 t21)) (w.heap.size + 1) #[.complex .f64 z21 j21, .float .f64 t21] 32 := ((F4.setAt 0 (.complex .f64 z21 j21)).setAt 1 (.float .f64 t21))
   replace B0 := ((B0.setCell (p := ⟨w.heap.size + 1, 0, none⟩) q_w_F4.out (.complex .f64 z21 j21)).setCell (p := ⟨w.heap.size + 1, 1, none⟩) q_w_F4.out (.float .f64 t21))
   obtain ⟨xF452_0, xF452_1⟩ := F4.ce2
   go_wp2
   exact bodyPost_ret (v := .tuple #[.agg #[.complex .f64 z21 j21, .float .f64 t21], .int .i64 0]) (by simp [results, Tryz.results36, go_sem, xF452_0, xF452_1]) rfl ⟨⟨_, _, _, rfl, hR21⟩, B0⟩
end Go.Proofs.YtfdnbogbankjjaaGreatDoor
