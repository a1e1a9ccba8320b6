/- Exact numbers of package ball: less, times. (printed by gen_fn.py) -/
import Derived.Test.YtfdnbogbankjjaaGreatDoorFO
namespace Go.Proofs.YtfdnbogbankjjaaGreatDoor
open Go Go.RowKit Go.PlainAid Fil

set_option maxRecDepth 100000 in
set_option maxHeartbeats 8000000 in
theorem c_blnless {b1 b2 KK : Nat} {z1 z2 e1 e2 : Int} (w : World) (I1 : IntAt w b1 0 z1) (I2 : IntAt w b2 0 z2) (hz1 : z1.natAbs < 2 ^ KK) (hz2 : z2.natAbs < 2 ^ KK) (hKK : KK ≤ 1000000) (h1 : -1000000 ≤ e1) (h1' : e1 ≤ 1000000) (h2 : -1000000 ≤ e2) (h2' : e2 ≤ 1000000) :
  Calls Tryz.prog 42 #[.agg #[.pointer (some ⟨b1, 0, none⟩), .int .i64 e1], .agg #[.pointer (some ⟨b2, 0, none⟩), .int .i64 e2]] w fun r w' => (∃ (b : Nat) (z e : Int), r = .returned (.agg #[.pointer (some ⟨b, 0, none⟩), .int .i64 e]) ∧ IntAt w' b 0 z ∧ (z, e) = nAdd (z1, e1) (-z2, e2)) ∧ Below w.heap.size w w' := by
 have hd2' := dn_plain hz2 (by omega)
 have hd2 : dn 32 z2.natAbs ≤ 1099511627776 := by omega
 have hz2n : (-z2).natAbs < 2 ^ KK := by rw [Int.natAbs_neg]; exact hz2
 go_enter Tryz.func42, Tryz.ntmps42
 have B0 := Below.refl w.heap.size w
 have hst3 := fun (a : Addr) (v : Option Addr) (m : Mode) (W : World) => (run_store Tryz.prog W a (.pointer v) m rfl : (store a (.pointer v) m).run Tryz.prog W = stored Tryz.prog W a (.pointer v) m)
 replace I1 := I1.allocd (.cells #[.pointer (some ⟨b1, 0, none⟩), .int .i64 e1] 89)
 replace I2 := I2.allocd (.cells #[.pointer (some ⟨b1, 0, none⟩), .int .i64 e1] 89)
 have F2 := Blk.put (w) #[.pointer (some ⟨b1, 0, none⟩), .int .i64 e1] 89
 replace B0 := B0.alloc B0.size (.cells #[.pointer (some ⟨b1, 0, none⟩), .int .i64 e1] 89)
 replace I1 := I1.allocd (.cells #[.pointer (some ⟨b2, 0, none⟩), .int .i64 e2] 89)
 replace I2 := I2.allocd (.cells #[.pointer (some ⟨b2, 0, none⟩), .int .i64 e2] 89)
 replace F2 := F2.allocd (.cells #[.pointer (some ⟨b2, 0, none⟩), .int .i64 e2] 89)
 have F3 := Blk.put ((w).alloc (.cells #[.pointer (some ⟨b1, 0, none⟩), .int .i64 e1] 89)) #[.pointer (some ⟨b2, 0, none⟩), .int .i64 e2] 89
 rw [show ((w).alloc (.cells #[.pointer (some ⟨b1, 0, none⟩), .int .i64 e1] 89)).heap.size = w.heap.size + 1 by simp] at F3
 replace B0 := B0.alloc B0.size (.cells #[.pointer (some ⟨b2, 0, none⟩), .int .i64 e2] 89)
 have q_w_F4 : Hid (w.heap.size ≤ w.heap.size + 1 + 1) := Lib.hid (by omega)
 replace I1 := I1.allocd (.cells #[.pointer none, .int .i64 0] 89)
 replace I2 := I2.allocd (.cells #[.pointer none, .int .i64 0] 89)
 replace F2 := F2.allocd (.cells #[.pointer none, .int .i64 0] 89)
 replace F3 := F3.allocd (.cells #[.pointer none, .int .i64 0] 89)
 have F4 := Blk.put (((w).alloc (.cells #[.pointer (some ⟨b1, 0, none⟩), .int .i64 e1] 89)).alloc (.cells #[.pointer (some ⟨b2, 0, none⟩), .int .i64 e2] 89)) #[.pointer none, .int .i64 0] 89
 rw [show (((w).alloc (.cells #[.pointer (some ⟨b1, 0, none⟩), .int .i64 e1] 89)).alloc (.cells #[.pointer (some ⟨b2, 0, none⟩), .int .i64 e2] 89)).heap.size = w.heap.size + 1 + 1 by simp] at F4
 replace B0 := B0.alloc B0.size (.cells #[.pointer none, .int .i64 0] 89)
 go_wp2_with fail
 refine wp_region_cut 9 (by kernel_rfl) (by kernel_rfl) ?_
 rintro W rfl
 simp only [List.take_succ_cons, List.take_zero, List.drop_succ_cons, List.drop_zero]
 obtain ⟨xF23_0, xF23_1⟩ := F2.ce2
 obtain ⟨xF33_0, xF33_1⟩ := F3.ce2
 have hHeld : (fun w' : World => w'.cell? ⟨w.heap.size, 0, none⟩ = some (.pointer (some ⟨b1, 0, none⟩)) ∧ w'.cell? ⟨w.heap.size, 1, none⟩ = some (.int .i64 e1) ∧ w'.cell? ⟨w.heap.size + 1, 0, none⟩ = some (.pointer (some ⟨b2, 0, none⟩)) ∧ w'.cell? ⟨w.heap.size + 1, 1, none⟩ = some (.int .i64 e2)) ((((w).alloc (.cells #[.pointer (some ⟨b1, 0, none⟩), .int .i64 e1] 89)).alloc (.cells #[.pointer (some ⟨b2, 0, none⟩), .int .i64 e2] 89)).alloc (.cells #[.pointer none, .int .i64 0] 89)).drew := ⟨xF23_0, xF23_1, xF33_0, xF33_1⟩
 refine wpAny_of_held (S := fun w' : World => w'.cell? ⟨w.heap.size, 0, none⟩ = some (.pointer (some ⟨b1, 0, none⟩)) ∧ w'.cell? ⟨w.heap.size, 1, none⟩ = some (.int .i64 e1) ∧ w'.cell? ⟨w.heap.size + 1, 0, none⟩ = some (.pointer (some ⟨b2, 0, none⟩)) ∧ w'.cell? ⟨w.heap.size + 1, 1, none⟩ = some (.int .i64 e2)) _ _ _ ((((w).alloc (.cells #[.pointer (some ⟨b1, 0, none⟩), .int .i64 e1] 89)).alloc (.cells #[.pointer (some ⟨b2, 0, none⟩), .int .i64 e2] 89)).alloc (.cells #[.pointer none, .int .i64 0] 89)).drew ?_
 replace I1 := I1.drew
 replace I2 := I2.drew
 replace F2 := F2.drew
 replace F3 := F3.drew
 replace F4 := F4.drew
 replace B0 := B0.drew
 generalize ((((w).alloc (.cells #[.pointer (some ⟨b1, 0, none⟩), .int .i64 e1] 89)).alloc (.cells #[.pointer (some ⟨b2, 0, none⟩), .int .i64 e2] 89)).alloc (.cells #[.pointer none, .int .i64 0] 89)).drew = v1 at *
 refine tkA 0 ?_
 (try dsimp only [Act.put]); (try go_frame)
 refine tkA 2 ?_
 (try dsimp only [Act.put]); (try go_frame)
 refine tkA 3 ?_
 (try dsimp only [Act.put]); (try go_frame)
 refine tkA 5 ?_
 (try dsimp only [Act.put]); (try go_frame)
 refine tkA 6 ?_
 (try dsimp only [Act.put]); (try go_frame)
 refine wpAnyH_ready (rs := [1]) (by kernel_rfl) (by simp) ?_
 refine AllReadyH.cons rfl (fun K hK => ?_) AllReadyH.nil
 go_simp
 clear xF23_0 xF23_1 xF33_0 xF33_1
 have q_I1_F6 : Hid (b1 < v1.heap.size) := Lib.hid (by have := I1.lt; first | exact this | omega | (simp; done) | simpa using this)
 have q_I2_F6 : Hid (b2 < v1.heap.size) := Lib.hid (by have := I2.lt; first | exact this | omega | (simp; done) | simpa using this)
 have q_F2_F6 : Hid (w.heap.size < v1.heap.size) := Lib.hid (by have := F2.lt; first | exact this | omega | (simp; done) | simpa using this)
 have q_F3_F6 : Hid (w.heap.size + 1 < v1.heap.size) := Lib.hid (by have := F3.lt; first | exact this | omega | (simp; done) | simpa using this)
 have q_F4_F6 : Hid (w.heap.size + 1 + 1 < v1.heap.size) := Lib.hid (by have := F4.lt; first | exact this | omega | (simp; done) | simpa using this)
 have q_w_F6 : Hid (w.heap.size ≤ v1.heap.size) := Lib.hid (by have := B0.size; first | exact this | omega | (simp; done) | simpa using this)
 replace I1 := I1.allocd (.cells #[.bool false, .slice none 0 0] 134)
 replace I2 := I2.allocd (.cells #[.bool false, .slice none 0 0] 134)
 replace F2 := F2.allocd (.cells #[.bool false, .slice none 0 0] 134)
 replace F3 := F3.allocd (.cells #[.bool false, .slice none 0 0] 134)
 replace F4 := F4.allocd (.cells #[.bool false, .slice none 0 0] 134)
 have F6 := Blk.put (v1) #[.bool false, .slice none 0 0] 134
 replace B0 := B0.alloc B0.size (.cells #[.bool false, .slice none 0 0] 134)
 generalize (v1).alloc (.cells #[.bool false, .slice none 0 0] 134) = v2 at *
 obtain ⟨xF27_0, xF27_1⟩ := F2.ce2
 obtain ⟨xF37_0, xF37_1⟩ := F3.ce2
 refine hK.out _ _ ?_ (fun hHeld => ?_)
 ·exact ⟨xF27_0, xF27_1, xF37_0, xF37_1⟩
 clear hK K
 (try dsimp only [Act.put]); (try go_frame)
 refine wpAnyH_ready (rs := [4]) (by kernel_rfl) (by simp) ?_
 refine AllReadyH.cons rfl (fun K hK => ?_) AllReadyH.nil
 go_simp
 (with_reducible refine (neg_any (v1.heap.size) 0 b2 0 _ _ (F6.rm (by decide) (by decide)) I2 hd2).mono ?_)
 rintro r w1 ⟨rfl, hI, hb1⟩
 clear xF27_0 xF27_1 xF37_0 xF37_1
 replace I1 := I1.but hb1 (.inl (Nat.ne_of_lt q_I1_F6.out))
 replace I2 := I2.but hb1 (.inl (Nat.ne_of_lt q_I2_F6.out))
 replace F2 := F2.but hb1 (Nat.ne_of_lt q_F2_F6.out)
 replace F3 := F3.but hb1 (Nat.ne_of_lt q_F3_F6.out)
 replace F4 := F4.but hb1 (Nat.ne_of_lt q_F4_F6.out)
 replace B0 := B0.trans (hb1.below q_w_F6.out B0.size)
 clear F6
 have F6 := hI
 clear hI hb1
 obtain ⟨xF28_0, xF28_1⟩ := F2.ce2
 obtain ⟨xF38_0, xF38_1⟩ := F3.ce2
 refine hK.out _ _ ?_ (fun hHeld => ?_)
 ·exact ⟨xF28_0, xF28_1, xF38_0, xF38_1⟩
 clear hK K
 (try dsimp only [Act.put]); (try go_frame)
 refine tkA 7 ?_
 (try dsimp only [Act.put]); (try go_frame)
 refine wpAnyH_ready (rs := [8]) (by kernel_rfl) (by simp) ?_
 refine AllReadyH.cons rfl (fun K hK => ?_) AllReadyH.nil
 go_simp
 (with_reducible refine (c_blnplus (K := KK) _ I1 F6 hz1 hz2n hKK h1 h1' h2 h2').mono ?_)
 rintro r w2 ⟨⟨d2, z2, e2, rfl, hI, hE2⟩, hb2⟩
 clear xF28_0 xF28_1 xF38_0 xF38_1
 replace I1 := I1.keep hb2
 clear I2
 replace F2 := F2.keep hb2
 replace F3 := F3.keep hb2
 replace F4 := F4.keep hb2
 replace F6 := F6.keep hb2
 replace B0 := B0.trans (hb2.mono B0.size)
 clear hb2
 have J2 := hI
 clear hI
 obtain ⟨xF29_0, xF29_1⟩ := F2.ce2
 obtain ⟨xF39_0, xF39_1⟩ := F3.ce2
 refine hK.out _ _ ?_ (fun hHeld => ?_)
 ·exact ⟨xF29_0, xF29_1, xF39_0, xF39_1⟩
 clear hK K
 (try dsimp only [Act.put]); (try go_frame)
 refine wpAnyH_done (by kernel_rfl) ?_ _
 try simp only [QCut]
 clear hHeld
 clear xF29_0 xF29_1 xF39_0 xF39_1
 obtain ⟨xF49_0, xF49_1⟩ := F4.ce2
 obtain ⟨xF49_0f, xF49_1f⟩ := F4.fr2
 have hL3 := But.lay (b := w.heap.size + 1 + 1) (o := 0) ⟨_, _, F4, by decide, by simp⟩ (.pointer (some ⟨d2, 0, none⟩)) (.int .i64 e2)
 clear I1
 clear F2
 clear F3
 clear F6
 replace J2 := J2.but hL3 (.inl (intat_ne J2 F4))
 replace F4 : Blk (((w2).setCell ⟨w.heap.size + 1 + 1, 0, none⟩ (.pointer (some ⟨d2, 0, none⟩))).setCell ⟨w.heap.size + 1 + 1, 1, none⟩ (.int .i64 e2)) (w.heap.size + 1 + 1) #[.pointer (some ⟨d2, 0, none⟩), .int .i64 e2] 89 := ((F4.setAt 0 (.pointer (some ⟨d2, 0, none⟩))).setAt 1 (.int .i64 e2))
 replace B0 := B0.trans (hL3.below q_w_F4.out B0.size)
 clear hL3
 obtain ⟨xF410_0, xF410_1⟩ := F4.ce2
 go_wp2
 exact bodyPost_ret (v := .agg #[.pointer (some ⟨d2, 0, none⟩), .int .i64 e2]) (by simp [results, Tryz.results42, go_sem, xF410_0, xF410_1]) rfl ⟨⟨_, _, _, rfl, J2, hE2⟩, B0⟩
set_option maxRecDepth 100000 in
set_option maxHeartbeats 8000000 in
theorem c_blntimes {b1 b2 KK : Nat} {z1 z2 e1 e2 : Int} (w : World) (I1 : IntAt w b1 0 z1) (I2 : IntAt w b2 0 z2) (hz1 : z1.natAbs < 2 ^ KK) (hz2 : z2.natAbs < 2 ^ KK) (hKK : KK ≤ 1000000) (h1 : -1000000 ≤ e1) (h1' : e1 ≤ 1000000) (h2 : -1000000 ≤ e2) (h2' : e2 ≤ 1000000) :
  Calls Tryz.prog 82 #[.agg #[.pointer (some ⟨b1, 0, none⟩), .int .i64 e1], .agg #[.pointer (some ⟨b2, 0, none⟩), .int .i64 e2]] w fun r w' => (∃ b : Nat, r = .returned (.agg #[.pointer (some ⟨b, 0, none⟩), .int .i64 (e1 + e2)]) ∧ IntAt w' b 0 (z1 * z2)) ∧ Below w.heap.size w w' := by
 have hd1' := dn_plain hz1 (by omega)
 have hd2' := dn_plain hz2 (by omega)
 have hd1 : dn 32 z1.natAbs ≤ 1099511627776 := by omega
 have hd2 : dn 32 z2.natAbs ≤ 1099511627776 := by omega
 have hse : IntKind.i64.wrap (e1 + e2) = e1 + e2 := IntWalk.i64_in _ ⟨by omega, by omega⟩
 go_enter Tryz.func82, Tryz.ntmps82
 have B0 := Below.refl w.heap.size w
 have hst3 := fun (a : Addr) (v : Option Addr) (m : Mode) (W : World) => (run_store Tryz.prog W a (.pointer v) m rfl : (store a (.pointer v) m).run Tryz.prog W = stored Tryz.prog W a (.pointer v) m)
 replace I1 := I1.allocd (.cells #[.pointer (some ⟨b1, 0, none⟩), .int .i64 e1] 89)
 replace I2 := I2.allocd (.cells #[.pointer (some ⟨b1, 0, none⟩), .int .i64 e1] 89)
 have F2 := Blk.put (w) #[.pointer (some ⟨b1, 0, none⟩), .int .i64 e1] 89
 replace B0 := B0.alloc B0.size (.cells #[.pointer (some ⟨b1, 0, none⟩), .int .i64 e1] 89)
 replace I1 := I1.allocd (.cells #[.pointer (some ⟨b2, 0, none⟩), .int .i64 e2] 89)
 replace I2 := I2.allocd (.cells #[.pointer (some ⟨b2, 0, none⟩), .int .i64 e2] 89)
 replace F2 := F2.allocd (.cells #[.pointer (some ⟨b2, 0, none⟩), .int .i64 e2] 89)
 have F3 := Blk.put ((w).alloc (.cells #[.pointer (some ⟨b1, 0, none⟩), .int .i64 e1] 89)) #[.pointer (some ⟨b2, 0, none⟩), .int .i64 e2] 89
 rw [show ((w).alloc (.cells #[.pointer (some ⟨b1, 0, none⟩), .int .i64 e1] 89)).heap.size = w.heap.size + 1 by simp] at F3
 replace B0 := B0.alloc B0.size (.cells #[.pointer (some ⟨b2, 0, none⟩), .int .i64 e2] 89)
 have q_w_F4 : Hid (w.heap.size ≤ w.heap.size + 1 + 1) := Lib.hid (by omega)
 replace I1 := I1.allocd (.cells #[.pointer none, .int .i64 0] 89)
 replace I2 := I2.allocd (.cells #[.pointer none, .int .i64 0] 89)
 replace F2 := F2.allocd (.cells #[.pointer none, .int .i64 0] 89)
 replace F3 := F3.allocd (.cells #[.pointer none, .int .i64 0] 89)
 have F4 := Blk.put (((w).alloc (.cells #[.pointer (some ⟨b1, 0, none⟩), .int .i64 e1] 89)).alloc (.cells #[.pointer (some ⟨b2, 0, none⟩), .int .i64 e2] 89)) #[.pointer none, .int .i64 0] 89
 rw [show (((w).alloc (.cells #[.pointer (some ⟨b1, 0, none⟩), .int .i64 e1] 89)).alloc (.cells #[.pointer (some ⟨b2, 0, none⟩), .int .i64 e2] 89)).heap.size = w.heap.size + 1 + 1 by simp] at F4
 replace B0 := B0.alloc B0.size (.cells #[.pointer none, .int .i64 0] 89)
 go_wp2_with fail
 refine wp_region_cut 12 (by kernel_rfl) (by kernel_rfl) ?_
 rintro W rfl
 simp only [List.take_succ_cons, List.take_zero, List.drop_succ_cons, List.drop_zero]
 obtain ⟨xF23_0, xF23_1⟩ := F2.ce2
 obtain ⟨xF33_0, xF33_1⟩ := F3.ce2
 have hHeld : (fun w' : World => w'.cell? ⟨w.heap.size, 0, none⟩ = some (.pointer (some ⟨b1, 0, none⟩)) ∧ w'.cell? ⟨w.heap.size, 1, none⟩ = some (.int .i64 e1) ∧ w'.cell? ⟨w.heap.size + 1, 0, none⟩ = some (.pointer (some ⟨b2, 0, none⟩)) ∧ w'.cell? ⟨w.heap.size + 1, 1, none⟩ = some (.int .i64 e2)) ((((w).alloc (.cells #[.pointer (some ⟨b1, 0, none⟩), .int .i64 e1] 89)).alloc (.cells #[.pointer (some ⟨b2, 0, none⟩), .int .i64 e2] 89)).alloc (.cells #[.pointer none, .int .i64 0] 89)).drew := ⟨xF23_0, xF23_1, xF33_0, xF33_1⟩
 refine wpAny_of_held (S := fun w' : World => w'.cell? ⟨w.heap.size, 0, none⟩ = some (.pointer (some ⟨b1, 0, none⟩)) ∧ w'.cell? ⟨w.heap.size, 1, none⟩ = some (.int .i64 e1) ∧ w'.cell? ⟨w.heap.size + 1, 0, none⟩ = some (.pointer (some ⟨b2, 0, none⟩)) ∧ w'.cell? ⟨w.heap.size + 1, 1, none⟩ = some (.int .i64 e2)) _ _ _ ((((w).alloc (.cells #[.pointer (some ⟨b1, 0, none⟩), .int .i64 e1] 89)).alloc (.cells #[.pointer (some ⟨b2, 0, none⟩), .int .i64 e2] 89)).alloc (.cells #[.pointer none, .int .i64 0] 89)).drew ?_
 replace I1 := I1.drew
 replace I2 := I2.drew
 replace F2 := F2.drew
 replace F3 := F3.drew
 replace F4 := F4.drew
 replace B0 := B0.drew
 generalize ((((w).alloc (.cells #[.pointer (some ⟨b1, 0, none⟩), .int .i64 e1] 89)).alloc (.cells #[.pointer (some ⟨b2, 0, none⟩), .int .i64 e2] 89)).alloc (.cells #[.pointer none, .int .i64 0] 89)).drew = v1 at *
 refine tkA 1 ?_
 (try dsimp only [Act.put]); (try go_frame)
 refine tkA 2 ?_
 (try dsimp only [Act.put]); (try go_frame)
 refine tkA 3 ?_
 (try dsimp only [Act.put]); (try go_frame)
 refine tkA 4 ?_
 (try dsimp only [Act.put]); (try go_frame)
 refine tkA 6 ?_
 (try dsimp only [Act.put]); (try go_frame)
 refine tkA 7 ?_
 (try dsimp only [Act.put]); (try go_frame)
 refine tkA 8 ?_
 (try dsimp only [Act.put]); (try go_frame)
 refine tkA 9 ?_
 (try dsimp only [Act.put]); (try go_frame)
 refine tkA 10 ?_
 (try dsimp only [Act.put]); (try go_frame)
 refine wpAnyH_ready (rs := [0]) (by kernel_rfl) (by simp) ?_
 refine AllReadyH.cons rfl (fun K hK => ?_) AllReadyH.nil
 go_simp
 clear xF23_0 xF23_1 xF33_0 xF33_1
 have q_I1_F5 : Hid (b1 < v1.heap.size) := Lib.hid (by have := I1.lt; first | exact this | omega | (simp; done) | simpa using this)
 have q_I2_F5 : Hid (b2 < v1.heap.size) := Lib.hid (by have := I2.lt; first | exact this | omega | (simp; done) | simpa using this)
 have q_F2_F5 : Hid (w.heap.size < v1.heap.size) := Lib.hid (by have := F2.lt; first | exact this | omega | (simp; done) | simpa using this)
 have q_F3_F5 : Hid (w.heap.size + 1 < v1.heap.size) := Lib.hid (by have := F3.lt; first | exact this | omega | (simp; done) | simpa using this)
 have q_F4_F5 : Hid (w.heap.size + 1 + 1 < v1.heap.size) := Lib.hid (by have := F4.lt; first | exact this | omega | (simp; done) | simpa using this)
 have q_w_F5 : Hid (w.heap.size ≤ v1.heap.size) := Lib.hid (by have := B0.size; first | exact this | omega | (simp; done) | simpa using this)
 replace I1 := I1.allocd (.cells #[.bool false, .slice none 0 0] 134)
 replace I2 := I2.allocd (.cells #[.bool false, .slice none 0 0] 134)
 replace F2 := F2.allocd (.cells #[.bool false, .slice none 0 0] 134)
 replace F3 := F3.allocd (.cells #[.bool false, .slice none 0 0] 134)
 replace F4 := F4.allocd (.cells #[.bool false, .slice none 0 0] 134)
 have F5 := Blk.put (v1) #[.bool false, .slice none 0 0] 134
 replace B0 := B0.alloc B0.size (.cells #[.bool false, .slice none 0 0] 134)
 generalize (v1).alloc (.cells #[.bool false, .slice none 0 0] 134) = v2 at *
 obtain ⟨xF27_0, xF27_1⟩ := F2.ce2
 obtain ⟨xF37_0, xF37_1⟩ := F3.ce2
 refine hK.out _ _ ?_ (fun hHeld => ?_)
 ·exact ⟨xF27_0, xF27_1, xF37_0, xF37_1⟩
 clear hK K
 (try dsimp only [Act.put]); (try go_frame)
 refine wpAnyH_ready (rs := [5]) (by kernel_rfl) (by simp) ?_
 refine AllReadyH.cons rfl (fun K hK => ?_) AllReadyH.nil
 go_simp
 (with_reducible refine (mul_any (v1.heap.size) 0 b1 0 b2 0 _ _ _ (F5.rm (by decide) (by decide)) I1 I2 hd1 hd2).mono ?_)
 rintro r w1 ⟨rfl, hI, hb1⟩
 clear xF27_0 xF27_1 xF37_0 xF37_1
 replace I1 := I1.but hb1 (.inl (Nat.ne_of_lt q_I1_F5.out))
 replace I2 := I2.but hb1 (.inl (Nat.ne_of_lt q_I2_F5.out))
 replace F2 := F2.but hb1 (Nat.ne_of_lt q_F2_F5.out)
 replace F3 := F3.but hb1 (Nat.ne_of_lt q_F3_F5.out)
 replace F4 := F4.but hb1 (Nat.ne_of_lt q_F4_F5.out)
 replace B0 := B0.trans (hb1.below q_w_F5.out B0.size)
 clear F5
 have F5 := hI
 clear hI hb1
 obtain ⟨xF28_0, xF28_1⟩ := F2.ce2
 obtain ⟨xF38_0, xF38_1⟩ := F3.ce2
 refine hK.out _ _ ?_ (fun hHeld => ?_)
 ·exact ⟨xF28_0, xF28_1, xF38_0, xF38_1⟩
 clear hK K
 (try dsimp only [Act.put]); (try go_frame)
 refine tkA 11 ?_
 (try dsimp only [Act.put]); (try go_frame)
 refine wpAnyH_done (by kernel_rfl) ?_ _
 try simp only [QCut]
 clear hHeld
 clear xF28_0 xF28_1 xF38_0 xF38_1
 obtain ⟨xF48_0, xF48_1⟩ := F4.ce2
 obtain ⟨xF48_0f, xF48_1f⟩ := F4.fr2
 have hL2 := But.lay (b := w.heap.size + 1 + 1) (o := 0) ⟨_, _, F4, by decide, by simp⟩ (.pointer (some ⟨v1.heap.size, 0, none⟩)) (.int .i64 (e1 + e2))
 clear I1
 clear I2
 clear F2
 clear F3
 replace F5 := F5.but hL2 (.inl (intat_ne F5 F4))
 replace F4 : Blk (((w1).setCell ⟨w.heap.size + 1 + 1, 0, none⟩ (.pointer (some ⟨v1.heap.size, 0, none⟩))).setCell ⟨w.heap.size + 1 + 1, 1, none⟩ (.int .i64 (e1 + e2))) (w.heap.size + 1 + 1) #[.pointer (some ⟨v1.heap.size, 0, none⟩), .int .i64 (e1 + e2)] 89 := ((F4.setAt 0 (.pointer (some ⟨v1.heap.size, 0, none⟩))).setAt 1 (.int .i64 (e1 + e2)))
 replace B0 := B0.trans (hL2.below q_w_F4.out B0.size)
 clear hL2
 obtain ⟨xF49_0, xF49_1⟩ := F4.ce2
 go_wp2
 exact bodyPost_ret (v := .agg #[.pointer (some ⟨v1.heap.size, 0, none⟩), .int .i64 (e1 + e2)]) (by simp [results, Tryz.results82, go_sem, xF49_0, xF49_1]) rfl ⟨⟨_, rfl, F5⟩, B0⟩
end Go.Proofs.YtfdnbogbankjjaaGreatDoor
