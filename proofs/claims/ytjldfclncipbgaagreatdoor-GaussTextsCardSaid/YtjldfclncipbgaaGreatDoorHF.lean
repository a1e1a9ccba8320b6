/- filigreelaw06.awake. -/
import Derived.Test.YtjldfclncipbgaaGreatDoorHA
import Derived.Test.YtjldfclncipbgaaGreatDoorH4
namespace Go.Proofs.YtjldfclncipbgaaGreatDoor
open Go Go.RowKit Go.PlainAid Fil

def smG (x y : Int) : GY := ⟨mkD x 0, mkD y 0⟩
theorem smG_ok (x y : Int) : (smG x y).ok := ⟨mkD_ok _ _, mkD_ok _ _⟩

theorem l6small (x y : Int) (w : World) (x0 : -9223372036854775808 ≤ x) (x1 : x ≤ 9223372036854775807) (y0 : -9223372036854775808 ≤ y) (y1 : y ≤ 9223372036854775807) :
    Calls Tryz.prog 40 #[.int .i64 x, .int .i64 y] w fun r w' => r = .returned (.agg #[.bool (smG x y).re.n, .string (bstr (smG x y).re.x), .int .i64 (smG x y).re.e, .bool (smG x y).im.n, .string (bstr (smG x y).im.x), .int .i64 (smG x y).im.e]) ∧ Below w.heap.size w w' := l6small_w x y _ _ w rfl rfl x0 x1 y0 y1
theorem gin_zero (d : GY) (r : DY) (w : World) (hd : d.ok) (hr : r.ok) (h0 : r.n = false) (hT : Tab w) :
    Calls Tryz.prog 41 #[.agg #[.bool d.re.n, .string (bstr d.re.x), .int .i64 d.re.e, .bool d.im.n, .string (bstr d.im.x), .int .i64 d.im.e], .agg #[.bool false, .string { data := #[] }, .int .i64 0, .bool false, .string { data := #[] }, .int .i64 0], .agg #[.bool r.n, .string (bstr r.x), .int .i64 r.e]] w fun r9 w' => r9 = .returned (.tuple #[.bool (gIn d GY.zero r).1, .int .i64 (gIn d GY.zero r).2]) ∧ Below w.heap.size w w' := by
  have h := gin d GY.zero r w hd GY.zero_ok hr h0 hT
  rw [show bstr GY.zero.re.x = { data := #[] } from bstr_zero, show bstr GY.zero.im.x = { data := #[] } from bstr_zero] at h
  exact h
theorem aw1 : gMul (smG 1 2) (smG 3 (-1)) = (smG 5 5, 0) := by kernel_rfl
theorem aw2 : gIn (smG 3 4) GY.zero (smG 5 0).re = (true, 0) := by kernel_rfl
theorem aw3 : gIn (smG 3 4) GY.zero (smG 4 0).re = (false, 0) := by kernel_rfl
theorem aw5 : (smG 5 0).re.n = false := by kernel_rfl
theorem aw4 : (smG 4 0).re.n = false := by kernel_rfl

set_option maxRecDepth 10000 in
set_option maxHeartbeats 4000000 in
theorem l6awake_w  (a : GY) (b : GY) (c : GY) (d : GY) (k : GY) (m : GY) (E_a : smG 1 2 = a) (E_b : smG 3 (-1) = b) (E_c : smG 5 5 = c) (E_d : smG 3 4 = d) (E_k : smG 5 0 = k) (E_m : smG 4 0 = m) (w : World)  (hT : Tab w) :
    Calls Tryz.prog 19 #[] w fun r w' => r = .returned (.bool true) ∧ Below w.heap.size w w' := by
  have s1 := fun W => l6small 1 2 W (by omega) (by omega) (by omega) (by omega)
  rw [E_a] at s1
  have s2 := fun W => l6small 3 (-1) W (by omega) (by omega) (by omega) (by omega)
  rw [E_b] at s2
  have h1 := fun W hW => gmul (smG 1 2) (smG 3 (-1)) W (smG_ok _ _) (smG_ok _ _) hW
  rw [aw1] at h1
  rw [E_a] at h1
  rw [E_b] at h1
  rw [E_c] at h1
  have s3 := fun W => l6small 3 4 W (by omega) (by omega) (by omega) (by omega)
  rw [E_d] at s3
  have s4 := fun W => l6small 5 0 W (by omega) (by omega) (by omega) (by omega)
  rw [E_k] at s4
  have h2 := fun W hW => gin_zero (smG 3 4) (smG 5 0).re W (smG_ok _ _) (smG_ok _ _).1 aw5 hW
  rw [aw2] at h2
  rw [E_d] at h2
  rw [E_k] at h2
  have s5 := fun W => l6small 4 0 W (by omega) (by omega) (by omega) (by omega)
  rw [E_m] at s5
  have h3 := fun W hW => gin_zero (smG 3 4) (smG 4 0).re W (smG_ok _ _) (smG_ok _ _).1 aw4 hW
  rw [aw3] at h3
  rw [E_d] at h3
  rw [E_m] at h3
  have s6 := fun W => l6small 5 5 W (by omega) (by omega) (by omega) (by omega)
  rw [E_c] at s6
  clear E_a E_b E_c E_d E_k E_m
  obtain ⟨⟨an, aX, ae⟩, ⟨am, aY, af⟩⟩ := a
  obtain ⟨⟨bn, bX, be⟩, ⟨bm, bY, bf⟩⟩ := b
  obtain ⟨⟨cn, cX, ce⟩, ⟨cm, cY, cf⟩⟩ := c
  obtain ⟨⟨dn, dX, de⟩, ⟨dm, dY, df⟩⟩ := d
  obtain ⟨⟨kn, kX, ke⟩, ⟨km, kY, kf⟩⟩ := k
  obtain ⟨⟨mn, mX, me⟩, ⟨mm, mY, mf⟩⟩ := m
  dsimp only at *
  generalize bstr aX = aS at *
  generalize bstr aY = aT at *
  generalize bstr bX = bS at *
  generalize bstr bY = bT at *
  generalize bstr cX = cS at *
  generalize bstr cY = cT at *
  generalize bstr dX = dS at *
  generalize bstr dY = dT at *
  generalize bstr kX = kS at *
  generalize bstr kY = kT at *
  generalize bstr mX = mS at *
  generalize bstr mY = mT at *
  have hf_k : ∀ w : World, (Instr.field 38 (.agg #[.bool kn, .string kS, .int .i64 ke, .bool km, .string kT, .int .i64 kf]) 0).run Tryz.prog w = .ok (.agg #[.bool kn, .string kS, .int .i64 ke]) w := fun w => by first | rfl | kernel_rfl
  have hf_m : ∀ w : World, (Instr.field 38 (.agg #[.bool mn, .string mS, .int .i64 me, .bool mm, .string mT, .int .i64 mf]) 0).run Tryz.prog w = .ok (.agg #[.bool mn, .string mS, .int .i64 me]) w := fun w => by first | rfl | kernel_rfl
  go_enter Tryz.func19, Tryz.ntmps19
  have B0 := Below.refl w.heap.size w
  go_wp2_with fail
  (with_reducible refine (s1 _).mono ?_)
  rintro r w1 ⟨rfl, hb1⟩
  replace B0 := B0.trans (hb1.mono B0.size)
  clear hb1
  go_wp2_with fail
  (with_reducible refine (s2 _).mono ?_)
  rintro r w2 ⟨rfl, hb2⟩
  replace B0 := B0.trans (hb2.mono B0.size)
  clear hb2
  go_wp2_with fail
  (with_reducible refine (h1 _ (hT.below B0)).mono ?_)
  rintro r w3 ⟨rfl, hb3⟩
  replace B0 := B0.trans (hb3.mono B0.size)
  clear hb3
  have F1 := Blk.put (w3) #[.bool cn, .string cS, .int .i64 ce, .bool cm, .string cT, .int .i64 cf] 38
  replace B0 := B0.alloc B0.size (.cells #[.bool cn, .string cS, .int .i64 ce, .bool cm, .string cT, .int .i64 cf] 38)
  go_wp2_with fail
  (with_reducible refine (s3 _).mono ?_)
  rintro r w4 ⟨rfl, hb4⟩
  replace F1 := F1.keep hb4
  replace B0 := B0.trans (hb4.mono B0.size)
  clear hb4
  go_wp2_with fail
  (with_reducible refine (s4 _).mono ?_)
  rintro r w5 ⟨rfl, hb5⟩
  replace F1 := F1.keep hb5
  replace B0 := B0.trans (hb5.mono B0.size)
  clear hb5
  go_wp2_with fail
  (with_reducible refine (h2 _ (hT.below B0)).mono ?_)
  rintro r w6 ⟨rfl, hb6⟩
  replace F1 := F1.keep hb6
  replace B0 := B0.trans (hb6.mono B0.size)
  clear hb6
  go_wp2_with fail
  (with_reducible refine (s3 _).mono ?_)
  rintro r w7 ⟨rfl, hb7⟩
  replace F1 := F1.keep hb7
  replace B0 := B0.trans (hb7.mono B0.size)
  clear hb7
  go_wp2_with fail
  (with_reducible refine (s5 _).mono ?_)
  rintro r w8 ⟨rfl, hb8⟩
  replace F1 := F1.keep hb8
  replace B0 := B0.trans (hb8.mono B0.size)
  clear hb8
  go_wp2_with fail
  (with_reducible refine (h3 _ (hT.below B0)).mono ?_)
  rintro r w9 ⟨rfl, hb9⟩
  replace F1 := F1.keep hb9
  replace B0 := B0.trans (hb9.mono B0.size)
  clear hb9
  go_wp2_with fail
  refine wp_region_any (by kernel_rfl) ?_
  obtain ⟨xF19_0, xF19_1, xF19_2, xF19_3, xF19_4, xF19_5⟩ := F1.ce6
  have hHeld : (fun w' : World => w'.cell? ⟨w3.heap.size, 0, none⟩ = some (.bool cn) ∧ w'.cell? ⟨w3.heap.size, 1, none⟩ = some (.string cS) ∧ w'.cell? ⟨w3.heap.size, 2, none⟩ = some (.int .i64 ce) ∧ w'.cell? ⟨w3.heap.size, 3, none⟩ = some (.bool cm) ∧ w'.cell? ⟨w3.heap.size, 4, none⟩ = some (.string cT) ∧ w'.cell? ⟨w3.heap.size, 5, none⟩ = some (.int .i64 cf)) (w9).drew := ⟨xF19_0, xF19_1, xF19_2, xF19_3, xF19_4, xF19_5⟩
  refine wpAny_of_held (S := fun w' : World => w'.cell? ⟨w3.heap.size, 0, none⟩ = some (.bool cn) ∧ w'.cell? ⟨w3.heap.size, 1, none⟩ = some (.string cS) ∧ w'.cell? ⟨w3.heap.size, 2, none⟩ = some (.int .i64 ce) ∧ w'.cell? ⟨w3.heap.size, 3, none⟩ = some (.bool cm) ∧ w'.cell? ⟨w3.heap.size, 4, none⟩ = some (.string cT) ∧ w'.cell? ⟨w3.heap.size, 5, none⟩ = some (.int .i64 cf)) _ _ _ _ ?_
  replace F1 := F1.drew
  replace B0 := B0.drew
  refine wpAnyH_take (i := 0) (v := _) (by first | (simp only [List.getElem?_toArray, List.getElem?_cons_zero]; rfl) | rfl) (by kernel_rfl) (by kernel_rfl) (by kernel_rfl) (by exact fun _ _ _ h => h) (Or.inl ⟨by rfl, by (intro w hSw; (try dsimp only at hSw); go_simp; (try with_reducible rfl); (try (refine (if_neg ?_).trans rfl; omega)))⟩) (by assumption) ?_
  (try dsimp only [Act.put]); (try go_frame)
  refine wpAnyH_ready (rs := [1]) (by kernel_rfl) (by simp) ?_
  refine AllReadyH.cons rfl (fun K hK => ?_) AllReadyH.nil
  go_simp
  (with_reducible refine (s6 _).mono ?_)
  rintro r w10 ⟨rfl, hb10⟩
  clear xF19_0 xF19_1 xF19_2 xF19_3 xF19_4 xF19_5
  replace F1 := F1.keep hb10
  replace B0 := B0.trans (hb10.mono B0.size)
  clear hb10
  obtain ⟨xF111_0, xF111_1, xF111_2, xF111_3, xF111_4, xF111_5⟩ := F1.ce6
  refine hK.out _ _ ?_ (fun hHeld => ?_)
  · exact ⟨xF111_0, xF111_1, xF111_2, xF111_3, xF111_4, xF111_5⟩
  clear hK K
  (try dsimp only [Act.put]); (try go_frame)
  refine wpAnyH_take (i := 2) (v := _) (by first | (simp only [List.getElem?_toArray, List.getElem?_cons_zero, List.getElem?_cons_succ]; rfl) | rfl) (by kernel_rfl) (by kernel_rfl) (by kernel_rfl) (by exact fun _ _ _ h => h) (Or.inl ⟨by rfl, by (intro w hSw; (try dsimp only at hSw); go_simp; (try with_reducible rfl); (try (refine (if_neg ?_).trans rfl; omega)))⟩) (by assumption) ?_
  (try dsimp only [Act.put]); (try go_frame)
  refine wpAnyH_take (i := 3) (v := _) (by first | (simp only [List.getElem?_toArray, List.getElem?_cons_zero, List.getElem?_cons_succ]; rfl) | rfl) (by kernel_rfl) (by kernel_rfl) (by kernel_rfl) (by exact fun _ _ _ h => h) (Or.inl ⟨by rfl, by (intro w hSw; (try dsimp only at hSw); go_simp; (try with_reducible rfl); (try (refine (if_neg ?_).trans rfl; omega)))⟩) (by assumption) ?_
  (try dsimp only [Act.put]); (try go_frame)
  refine wpAnyH_take (i := 4) (v := _) (by first | (simp only [List.getElem?_toArray, List.getElem?_cons_zero, List.getElem?_cons_succ]; rfl) | rfl) (by kernel_rfl) (by kernel_rfl) (by kernel_rfl) (by exact fun _ _ _ h => h) (Or.inl ⟨by rfl, by (intro w hSw; (try dsimp only at hSw); go_simp; (try with_reducible rfl); (try (refine (if_neg ?_).trans rfl; omega)))⟩) (by assumption) ?_
  (try dsimp only [Act.put]); (try go_frame)
  refine wpAnyH_take (i := 5) (v := _) (by first | (simp only [List.getElem?_toArray, List.getElem?_cons_zero, List.getElem?_cons_succ]; rfl) | rfl) (by kernel_rfl) (by kernel_rfl) (by kernel_rfl) (by exact fun _ _ _ h => h) (Or.inl ⟨by rfl, by (intro w hSw; (try dsimp only at hSw); go_simp; (try with_reducible rfl); (try (refine (if_neg ?_).trans rfl; omega)))⟩) (by assumption) ?_
  (try dsimp only [Act.put]); (try go_frame)
  refine wpAnyH_take (i := 6) (v := _) (by first | (simp only [List.getElem?_toArray, List.getElem?_cons_zero, List.getElem?_cons_succ]; rfl) | rfl) (by kernel_rfl) (by kernel_rfl) (by kernel_rfl) (by exact fun _ _ _ h => h) (Or.inl ⟨by rfl, by (intro w hSw; (try dsimp only at hSw); go_simp; (try with_reducible rfl); (try (refine (if_neg ?_).trans rfl; omega)))⟩) (by assumption) ?_
  (try dsimp only [Act.put]); (try go_frame)
  refine wpAnyH_take (i := 7) (v := _) (by first | (simp only [List.getElem?_toArray, List.getElem?_cons_zero, List.getElem?_cons_succ]; rfl) | rfl) (by kernel_rfl) (by kernel_rfl) (by kernel_rfl) (by exact fun _ _ _ h => h) (Or.inl ⟨by rfl, by (intro w hSw; (try dsimp only at hSw); go_simp; (try with_reducible rfl); (try (refine (if_neg ?_).trans rfl; omega)))⟩) (by assumption) ?_
  (try dsimp only [Act.put]); (try go_frame)
  refine wpAnyH_take (i := 8) (v := _) (by first | (simp only [List.getElem?_toArray, List.getElem?_cons_zero, List.getElem?_cons_succ]; rfl) | rfl) (by kernel_rfl) (by kernel_rfl) (by kernel_rfl) (by exact fun _ _ _ h => h) (Or.inl ⟨by rfl, by (intro w hSw; (try dsimp only at hSw); go_simp; (try with_reducible rfl); (try (refine (if_neg ?_).trans rfl; omega)))⟩) (by assumption) ?_
  (try dsimp only [Act.put]); (try go_frame)
  refine wpAnyH_take (i := 9) (v := _) (by first | (simp only [List.getElem?_toArray, List.getElem?_cons_zero, List.getElem?_cons_succ]; rfl) | rfl) (by kernel_rfl) (by kernel_rfl) (by kernel_rfl) (by exact fun _ _ _ h => h) (Or.inl ⟨by rfl, by (intro w hSw; (try dsimp only at hSw); go_simp; (try with_reducible rfl); (try (refine (if_neg ?_).trans rfl; omega)))⟩) (by assumption) ?_
  (try dsimp only [Act.put]); (try go_frame)
  refine wpAnyH_take (i := 10) (v := _) (by first | (simp only [List.getElem?_toArray, List.getElem?_cons_zero, List.getElem?_cons_succ]; rfl) | rfl) (by kernel_rfl) (by kernel_rfl) (by kernel_rfl) (by exact fun _ _ _ h => h) (Or.inl ⟨by rfl, by (intro w hSw; (try dsimp only at hSw); go_simp; (try with_reducible rfl); (try (refine (if_neg ?_).trans rfl; omega)))⟩) (by assumption) ?_
  (try dsimp only [Act.put]); (try go_frame)
  refine wpAnyH_take (i := 11) (v := _) (by first | (simp only [List.getElem?_toArray, List.getElem?_cons_zero, List.getElem?_cons_succ]; rfl) | rfl) (by kernel_rfl) (by kernel_rfl) (by kernel_rfl) (by exact fun _ _ _ h => h) (Or.inl ⟨by rfl, by (intro w hSw; (try dsimp only at hSw); go_simp; (try with_reducible rfl); (try (refine (if_neg ?_).trans rfl; omega)))⟩) (by assumption) ?_
  (try dsimp only [Act.put]); (try go_frame)
  refine wpAnyH_take (i := 12) (v := _) (by first | (simp only [List.getElem?_toArray, List.getElem?_cons_zero, List.getElem?_cons_succ]; rfl) | rfl) (by kernel_rfl) (by kernel_rfl) (by kernel_rfl) (by exact fun _ _ _ h => h) (Or.inl ⟨by rfl, by (intro w hSw; (try dsimp only at hSw); go_simp; (try with_reducible rfl); (try (refine (if_neg ?_).trans rfl; omega)))⟩) (by assumption) ?_
  (try dsimp only [Act.put]); (try go_frame)
  refine wpAnyH_take (i := 13) (v := _) (by first | (simp only [List.getElem?_toArray, List.getElem?_cons_zero, List.getElem?_cons_succ]; rfl) | rfl) (by kernel_rfl) (by kernel_rfl) (by kernel_rfl) (by exact fun _ _ _ h => h) (Or.inl ⟨by rfl, by (intro w hSw; (try dsimp only at hSw); go_simp; (try with_reducible rfl); (try (refine (if_neg ?_).trans rfl; omega)))⟩) (by assumption) ?_
  (try dsimp only [Act.put]); (try go_frame)
  refine wpAnyH_take (i := 14) (v := _) (by first | (simp only [List.getElem?_toArray, List.getElem?_cons_zero, List.getElem?_cons_succ]; rfl) | rfl) (by kernel_rfl) (by kernel_rfl) (by kernel_rfl) (by exact fun _ _ _ h => h) (Or.inl ⟨by rfl, by (intro w hSw; (try dsimp only at hSw); go_simp; (try with_reducible rfl); (try (refine (if_neg ?_).trans rfl; omega)))⟩) (by assumption) ?_
  (try dsimp only [Act.put]); (try go_frame)
  refine wpAnyH_take (i := 15) (v := _) (by first | (simp only [List.getElem?_toArray, List.getElem?_cons_zero, List.getElem?_cons_succ]; rfl) | rfl) (by kernel_rfl) (by kernel_rfl) (by kernel_rfl) (by exact fun _ _ _ h => h) (Or.inl ⟨by rfl, by (intro w hSw; (try dsimp only at hSw); go_simp; (try with_reducible rfl); (try (refine (if_neg ?_).trans rfl; omega)))⟩) (by assumption) ?_
  (try dsimp only [Act.put]); (try go_frame)
  refine wpAnyH_take (i := 16) (v := _) (by first | (simp only [List.getElem?_toArray, List.getElem?_cons_zero, List.getElem?_cons_succ]; rfl) | rfl) (by kernel_rfl) (by kernel_rfl) (by kernel_rfl) (by exact fun _ _ _ h => h) (Or.inl ⟨by rfl, by (intro w hSw; (try dsimp only at hSw); go_simp; (try with_reducible rfl); (try (refine (if_neg ?_).trans rfl; omega)))⟩) (by assumption) ?_
  (try dsimp only [Act.put]); (try go_frame)
  refine wpAnyH_take (i := 17) (v := _) (by first | (simp only [List.getElem?_toArray, List.getElem?_cons_zero, List.getElem?_cons_succ]; rfl) | rfl) (by kernel_rfl) (by kernel_rfl) (by kernel_rfl) (by exact fun _ _ _ h => h) (Or.inl ⟨by rfl, by (intro w hSw; (try dsimp only at hSw); go_simp; (try with_reducible rfl); (try (refine (if_neg ?_).trans rfl; omega)))⟩) (by assumption) ?_
  (try dsimp only [Act.put]); (try go_frame)
  refine wpAnyH_take (i := 18) (v := _) (by first | (simp only [List.getElem?_toArray, List.getElem?_cons_zero, List.getElem?_cons_succ]; rfl) | rfl) (by kernel_rfl) (by kernel_rfl) (by kernel_rfl) (by exact fun _ _ _ h => h) (Or.inl ⟨by rfl, by (intro w hSw; (try dsimp only at hSw); go_simp; (try with_reducible rfl); (try (refine (if_neg ?_).trans rfl; omega)))⟩) (by assumption) ?_
  (try dsimp only [Act.put]); (try go_frame)
  refine wpAnyH_take (i := 19) (v := _) (by first | (simp only [List.getElem?_toArray, List.getElem?_cons_zero, List.getElem?_cons_succ]; rfl) | rfl) (by kernel_rfl) (by kernel_rfl) (by kernel_rfl) (by exact fun _ _ _ h => h) (Or.inl ⟨by rfl, by (intro w hSw; (try dsimp only at hSw); go_simp; (try with_reducible rfl); (try (refine (if_neg ?_).trans rfl; omega)))⟩) (by assumption) ?_
  (try dsimp only [Act.put]); (try go_frame)
  refine wpAnyH_take (i := 20) (v := _) (by first | (simp only [List.getElem?_toArray, List.getElem?_cons_zero, List.getElem?_cons_succ]; rfl) | rfl) (by kernel_rfl) (by kernel_rfl) (by kernel_rfl) (by exact fun _ _ _ h => h) (Or.inl ⟨by rfl, by (intro w hSw; (try dsimp only at hSw); go_simp; (try with_reducible rfl); (try (refine (if_neg ?_).trans rfl; omega)))⟩) (by assumption) ?_
  (try dsimp only [Act.put]); (try go_frame)
  refine wpAnyH_take (i := 21) (v := _) (by first | (simp only [List.getElem?_toArray, List.getElem?_cons_zero, List.getElem?_cons_succ]; rfl) | rfl) (by kernel_rfl) (by kernel_rfl) (by kernel_rfl) (by exact fun _ _ _ h => h) (Or.inl ⟨by rfl, by (intro w hSw; (try dsimp only at hSw); go_simp; (try with_reducible rfl); (try (refine (if_neg ?_).trans rfl; omega)))⟩) (by assumption) ?_
  (try dsimp only [Act.put]); (try go_frame)
  refine wpAnyH_take (i := 22) (v := _) (by first | (simp only [List.getElem?_toArray, List.getElem?_cons_zero, List.getElem?_cons_succ]; rfl) | rfl) (by kernel_rfl) (by kernel_rfl) (by kernel_rfl) (by exact fun _ _ _ h => h) (Or.inl ⟨by rfl, by (intro w hSw; (try dsimp only at hSw); go_simp; (try with_reducible rfl); (try (refine (if_neg ?_).trans rfl; omega)))⟩) (by assumption) ?_
  (try dsimp only [Act.put]); (try go_frame)
  refine wpAnyH_done (by kernel_rfl) ?_ _
  try simp only [QCut]
  clear hHeld
  clear xF111_0 xF111_1 xF111_2 xF111_3 xF111_4 xF111_5
  go_wp2
  go_ret
  exact ⟨rfl, B0⟩

theorem l6awake_any (w : World) (hT : Tab w) :
    Calls Tryz.prog 19 #[] w fun r w' => r = .returned (.bool true) ∧ Below w.heap.size w w' := l6awake_w _ _ _ _ _ _ rfl rfl rfl rfl rfl rfl w hT
end Go.Proofs.YtjldfclncipbgaaGreatDoor
