/- Exact numbers of package ball: plus. (printed by gen_fn.py) -/
import Derived.Test.YtfdnbogbankjjaaGreatDoorFN
namespace Go.Proofs.YtfdnbogbankjjaaGreatDoor
open Go Go.RowKit Go.PlainAid Fil

theorem sign_below {b o : Nat} {z : Int} {w : World} (h : IntAt w b o z) : Calls Tryz.prog 81 #[.pointer (some ⟨b, o, none⟩)] w fun e w' => e = .returned (.int .i64 z.sign) ∧ Below w.heap.size w w' :=
 (sign_any b o z w h).mono fun _ _ ⟨h1, h2⟩ => ⟨h1, h2 ▸ Below.refl _ _⟩
theorem intat_ne {w : World} {b b' : Nat} {z : Int} {p : Option Addr} {v : Value} {t : TypeId} (h : IntAt w b 0 z) (k : Blk w b' #[.pointer p, v] t) : b ≠ b' := by
 rintro rfl
 obtain ⟨cs, t', A, n, c, h1, h2, h3, _⟩ := h
 have e := h1.symm.trans k
 injection e with e
 injection e with e1 e2
 rw [e1] at h3
 simp at h3
def nAdd (p q : Int × Int) : Int × Int := if p.1 = 0 then q else if q.1 = 0 then p else if p.2 < q.2 then (q.1 * 2 ^ (q.2 - p.2).toNat + p.1, p.2) else (p.1 * 2 ^ (p.2 - q.2).toNat + q.1, q.2)
theorem nAdd_1 {z1 e1 z2 e2 : Int} (h : z1 = 0) : nAdd (z1, e1) (z2, e2) = (z2, e2) := if_pos h
theorem nAdd_2 {z1 e1 z2 e2 : Int} (h : z2 = 0) (k : ¬ z1 = 0) : nAdd (z1, e1) (z2, e2) = (z1, e1) := (if_neg k).trans (if_pos h)
theorem nAdd_lt {z1 e1 z2 e2 : Int} {k : Nat} (h1 : ¬ z1 = 0) (h2 : ¬ z2 = 0) (h : e1 < e2) (hk : e2 - e1 = (k : Int)) : nAdd (z1, e1) (z2, e2) = (z2 * 2 ^ k + z1, e1) := by
 have e : (e2 - e1).toNat = k := by omega
 rw [← e]; exact ((if_neg h1).trans (if_neg h2)).trans (if_pos h)
theorem nAdd_ge {z1 e1 z2 e2 : Int} {k : Nat} (h1 : ¬ z1 = 0) (h2 : ¬ z2 = 0) (h : ¬ e1 < e2) (hk : e1 - e2 = (k : Int)) : nAdd (z1, e1) (z2, e2) = (z1 * 2 ^ k + z2, e2) := by
 have e : (e1 - e2).toNat = k := by omega
 rw [← e]; exact ((if_neg h1).trans (if_neg h2)).trans (if_neg h)
theorem dn_shift {z : Int} {K k : Nat} (h : z.natAbs < 2 ^ K) (hK : K + k ≤ 32000000000) : dn 32 (z * 2 ^ k).natAbs ≤ 1099511627775 := by
 have e : (z * 2 ^ k).natAbs = z.natAbs * 2 ^ k := by rw [Int.natAbs_mul, Int.natAbs_pow]; rfl
 rw [e]
 obtain ⟨n, hn⟩ : ∃ n, n = 1000000000 := ⟨_, rfl⟩
 refine Nat.le_trans (dn_le (k := 32) (n := n) (by omega) ?_) (by omega)
 refine Nat.lt_of_lt_of_le (Nat.mul_lt_mul_of_pos_right h (Nat.two_pow_pos k)) ?_
 rw [← Nat.pow_add]
 exact Nat.pow_le_pow_right (by omega) (by omega)
theorem dn_plain {z : Int} {K : Nat} (h : z.natAbs < 2 ^ K) (hK : K ≤ 32000000000) : dn 32 z.natAbs ≤ 1099511627775 := by
 obtain ⟨n, hn⟩ : ∃ n, n = 1000000000 := ⟨_, rfl⟩
 exact Nat.le_trans (dn_le (k := 32) (n := n) (by omega) (Nat.lt_of_lt_of_le h (Nat.pow_le_pow_right (by omega) (by omega)))) (by omega)
set_option maxRecDepth 100000 in
set_option maxHeartbeats 8000000 in
theorem c_blnplus {b1 b2 K : Nat} {z1 z2 e1 e2 : Int} (w : World) (I1 : IntAt w b1 0 z1) (I2 : IntAt w b2 0 z2) (hz1 : z1.natAbs < 2 ^ K) (hz2 : z2.natAbs < 2 ^ K) (hK : K ≤ 1000000) (h1 : -1000000 ≤ e1) (h1' : e1 ≤ 1000000) (h2 : -1000000 ≤ e2) (h2' : e2 ≤ 1000000) :
  Calls Tryz.prog 43 #[.agg #[.pointer (some ⟨b1, 0, none⟩), .int .i64 e1], .agg #[.pointer (some ⟨b2, 0, none⟩), .int .i64 e2]] w fun r w' => (∃ (b : Nat) (z e : Int), r = .returned (.agg #[.pointer (some ⟨b, 0, none⟩), .int .i64 e]) ∧ IntAt w' b 0 z ∧ (z, e) = nAdd (z1, e1) (z2, e2)) ∧ Below w.heap.size w w' := by
 have hd1' := dn_plain hz1 (by omega)
 have hd2' := dn_plain hz2 (by omega)
 have hd1 : dn 32 z1.natAbs ≤ 1099511627776 := by omega
 have hd2 : dn 32 z2.natAbs ≤ 1099511627776 := by omega
 go_enter Tryz.func43, Tryz.ntmps43
 have B0 := Below.refl w.heap.size w
 have hst3 := fun (a : Addr) (v : Option Addr) (m : Mode) (W : World) => (run_store Tryz.prog W a (.pointer v) m rfl : (store a (.pointer v) m).run Tryz.prog W = stored Tryz.prog W a (.pointer v) m)
 have q_w_F2 : Hid (w.heap.size ≤ w.heap.size) := Lib.hid (by omega)
 replace I1 := I1.allocd (.cells #[.pointer (some ⟨b1, 0, none⟩), .int .i64 e1] 89)
 replace I2 := I2.allocd (.cells #[.pointer (some ⟨b1, 0, none⟩), .int .i64 e1] 89)
 have F2 := Blk.put (w) #[.pointer (some ⟨b1, 0, none⟩), .int .i64 e1] 89
 replace B0 := B0.alloc B0.size (.cells #[.pointer (some ⟨b1, 0, none⟩), .int .i64 e1] 89)
 have q_F2_F3 := Lib.hid (show w.heap.size < w.heap.size + 1 by omega)
 have q_w_F3 : Hid (w.heap.size ≤ w.heap.size + 1) := Lib.hid (by omega)
 replace I1 := I1.allocd (.cells #[.pointer (some ⟨b2, 0, none⟩), .int .i64 e2] 89)
 replace I2 := I2.allocd (.cells #[.pointer (some ⟨b2, 0, none⟩), .int .i64 e2] 89)
 replace F2 := F2.allocd (.cells #[.pointer (some ⟨b2, 0, none⟩), .int .i64 e2] 89)
 have F3 := Blk.put ((w).alloc (.cells #[.pointer (some ⟨b1, 0, none⟩), .int .i64 e1] 89)) #[.pointer (some ⟨b2, 0, none⟩), .int .i64 e2] 89
 rw [show ((w).alloc (.cells #[.pointer (some ⟨b1, 0, none⟩), .int .i64 e1] 89)).heap.size = w.heap.size + 1 by simp] at F3
 replace B0 := B0.alloc B0.size (.cells #[.pointer (some ⟨b2, 0, none⟩), .int .i64 e2] 89)
 have q_F2_F4 := Lib.hid (show w.heap.size < w.heap.size + 1 + 1 by omega)
 have q_F3_F4 := Lib.hid (show w.heap.size + 1 < w.heap.size + 1 + 1 by omega)
 have q_w_F4 : Hid (w.heap.size ≤ w.heap.size + 1 + 1) := Lib.hid (by omega)
 replace I1 := I1.allocd (.cells #[.pointer none, .int .i64 0] 89)
 replace I2 := I2.allocd (.cells #[.pointer none, .int .i64 0] 89)
 replace F2 := F2.allocd (.cells #[.pointer none, .int .i64 0] 89)
 replace F3 := F3.allocd (.cells #[.pointer none, .int .i64 0] 89)
 have F4 := Blk.put (((w).alloc (.cells #[.pointer (some ⟨b1, 0, none⟩), .int .i64 e1] 89)).alloc (.cells #[.pointer (some ⟨b2, 0, none⟩), .int .i64 e2] 89)) #[.pointer none, .int .i64 0] 89
 rw [show (((w).alloc (.cells #[.pointer (some ⟨b1, 0, none⟩), .int .i64 e1] 89)).alloc (.cells #[.pointer (some ⟨b2, 0, none⟩), .int .i64 e2] 89)).heap.size = w.heap.size + 1 + 1 by simp] at F4
 replace B0 := B0.alloc B0.size (.cells #[.pointer none, .int .i64 0] 89)
 obtain ⟨xF23_0, xF23_1⟩ := F2.ce2
 go_wp2_with fail
 (with_reducible refine (sign_below I1).mono ?_)
 rintro r w1 ⟨rfl, hb1⟩
 clear xF23_0 xF23_1
 replace I1 := I1.keep hb1
 replace I2 := I2.keep hb1
 replace F2 := F2.keep hb1
 replace F3 := F3.keep hb1
 replace F4 := F4.keep hb1
 replace B0 := B0.trans (hb1.mono B0.size)
 clear hb1
 by_cases hk6 : z1 = 0
 ·have hs1 : (z1.sign == 0) = true := by simp [hk6]
  obtain ⟨xF34_0, xF34_1⟩ := F3.ce2
  obtain ⟨xF44_0, xF44_1⟩ := F4.ce2
  obtain ⟨xF44_0f, xF44_1f⟩ := F4.fr2
  have hL3 := But.lay (b := w.heap.size + 1 + 1) (o := 0) ⟨_, _, F4, by decide, by simp⟩ (.pointer (some ⟨b2, 0, none⟩)) (.int .i64 e2)
  clear I1
  replace I2 := I2.but hL3 (.inl (intat_ne I2 F4))
  clear F2
  replace F3 := F3.but hL3 (Nat.ne_of_lt q_F3_F4.out)
  replace F4 : Blk (((w1).setCell ⟨w.heap.size + 1 + 1, 0, none⟩ (.pointer (some ⟨b2, 0, none⟩))).setCell ⟨w.heap.size + 1 + 1, 1, none⟩ (.int .i64 e2)) (w.heap.size + 1 + 1) #[.pointer (some ⟨b2, 0, none⟩), .int .i64 e2] 89 := ((F4.setAt 0 (.pointer (some ⟨b2, 0, none⟩))).setAt 1 (.int .i64 e2))
  replace B0 := B0.trans (hL3.below q_w_F4.out B0.size)
  clear hL3
  obtain ⟨xF45_0, xF45_1⟩ := F4.ce2
  go_wp2
  exact bodyPost_ret (v := .agg #[.pointer (some ⟨b2, 0, none⟩), .int .i64 e2]) (by simp [results, Tryz.results43, go_sem, xF45_0, xF45_1]) rfl ⟨⟨_, _, _, rfl, I2, (nAdd_1 hk6).symm⟩, B0⟩
 ·have hs1 : (z1.sign == 0) = false := by simpa using hk6
  obtain ⟨xF34_0, xF34_1⟩ := F3.ce2
  go_wp2_with fail
  (with_reducible refine (sign_below I2).mono ?_)
  rintro r w2 ⟨rfl, hb2⟩
  clear xF34_0 xF34_1
  replace I1 := I1.keep hb2
  replace I2 := I2.keep hb2
  replace F2 := F2.keep hb2
  replace F3 := F3.keep hb2
  replace F4 := F4.keep hb2
  replace B0 := B0.trans (hb2.mono B0.size)
  clear hb2
  by_cases hk12 : z2 = 0
  ·have hs2 : (z2.sign == 0) = true := by simp [hk12]
   obtain ⟨xF25_0, xF25_1⟩ := F2.ce2
   obtain ⟨xF45_0, xF45_1⟩ := F4.ce2
   obtain ⟨xF45_0f, xF45_1f⟩ := F4.fr2
   have hL5 := But.lay (b := w.heap.size + 1 + 1) (o := 0) ⟨_, _, F4, by decide, by simp⟩ (.pointer (some ⟨b1, 0, none⟩)) (.int .i64 e1)
   replace I1 := I1.but hL5 (.inl (intat_ne I1 F4))
   clear I2
   replace F2 := F2.but hL5 (Nat.ne_of_lt q_F2_F4.out)
   clear F3
   replace F4 : Blk (((w2).setCell ⟨w.heap.size + 1 + 1, 0, none⟩ (.pointer (some ⟨b1, 0, none⟩))).setCell ⟨w.heap.size + 1 + 1, 1, none⟩ (.int .i64 e1)) (w.heap.size + 1 + 1) #[.pointer (some ⟨b1, 0, none⟩), .int .i64 e1] 89 := ((F4.setAt 0 (.pointer (some ⟨b1, 0, none⟩))).setAt 1 (.int .i64 e1))
   replace B0 := B0.trans (hL5.below q_w_F4.out B0.size)
   clear hL5
   obtain ⟨xF46_0, xF46_1⟩ := F4.ce2
   go_wp2
   exact bodyPost_ret (v := .agg #[.pointer (some ⟨b1, 0, none⟩), .int .i64 e1]) (by simp [results, Tryz.results43, go_sem, xF46_0, xF46_1]) rfl ⟨⟨_, _, _, rfl, I1, (nAdd_2 hk12 hk6).symm⟩, B0⟩
  ·have hs2 : (z2.sign == 0) = false := by simpa using hk12
   obtain ⟨xF25_0, xF25_1⟩ := F2.ce2
   obtain ⟨xF35_0, xF35_1⟩ := F3.ce2
   by_cases hk18 : e1 < e2
   ·obtain ⟨k, hk⟩ : ∃ k : Nat, e2 - e1 = (k : Int) := ⟨(e2 - e1).toNat, by omega⟩
    have hkl : k ≤ 2000000 := by omega
    have hk2 : k ≤ 1099511627776 := by omega
    have hw1 : IntKind.i64.wrap (e2 - e1) = (k : Int) := by rw [hk]; exact IntWalk.i64_in _ ⟨by omega, by omega⟩
    have hw2 : IntKind.u64.wrap (k : Int) = (k : Int) := IntWalk.u64_in _ ⟨by omega, by omega⟩
    have hsh := dn_shift (k := k) hz2 (by omega)
    obtain ⟨xF25_0f, xF25_1f⟩ := F2.fr2
    have hL6 := But.lay (b := w.heap.size) (o := 0) ⟨_, _, F2, by decide, by simp⟩ (.pointer (some ⟨b2, 0, none⟩)) (.int .i64 e2)
    replace I1 := I1.but hL6 (.inl (intat_ne I1 F2))
    replace I2 := I2.but hL6 (.inl (intat_ne I2 F2))
    replace F3 := F3.but hL6 (Nat.ne_of_gt q_F2_F3.out)
    replace F4 := F4.but hL6 (Nat.ne_of_gt q_F2_F4.out)
    replace F2 : Blk (((w2).setCell ⟨w.heap.size, 0, none⟩ (.pointer (some ⟨b2, 0, none⟩))).setCell ⟨w.heap.size, 1, none⟩ (.int .i64 e2)) (w.heap.size) #[.pointer (some ⟨b2, 0, none⟩), .int .i64 e2] 89 := ((F2.setAt 0 (.pointer (some ⟨b2, 0, none⟩))).setAt 1 (.int .i64 e2))
    replace B0 := B0.trans (hL6.below q_w_F2.out B0.size)
    clear hL6
    obtain ⟨xF36_0, xF36_1⟩ := F3.ce2
    obtain ⟨xF36_0f, xF36_1f⟩ := F3.fr2
    have hL7 := But.lay (b := w.heap.size + 1) (o := 0) ⟨_, _, F3, by decide, by simp⟩ (.pointer (some ⟨b1, 0, none⟩)) (.int .i64 e1)
    replace I1 := I1.but hL7 (.inl (intat_ne I1 F3))
    replace I2 := I2.but hL7 (.inl (intat_ne I2 F3))
    replace F2 := F2.but hL7 (Nat.ne_of_lt q_F2_F3.out)
    replace F4 := F4.but hL7 (Nat.ne_of_gt q_F3_F4.out)
    replace F3 : Blk (((((w2).setCell ⟨w.heap.size, 0, none⟩ (.pointer (some ⟨b2, 0, none⟩))).setCell ⟨w.heap.size, 1, none⟩ (.int .i64 e2)).setCell ⟨w.heap.size + 1, 0, none⟩ (.pointer (some ⟨b1, 0, none⟩))).setCell ⟨w.heap.size + 1, 1, none⟩ (.int .i64 e1)) (w.heap.size + 1) #[.pointer (some ⟨b1, 0, none⟩), .int .i64 e1] 89 := ((F3.setAt 0 (.pointer (some ⟨b1, 0, none⟩))).setAt 1 (.int .i64 e1))
    replace B0 := B0.trans (hL7.below q_w_F3.out B0.size)
    clear hL7
    have q_I1_F26 : Hid (b1 < w2.heap.size) := Lib.hid (by have := I1.lt; first | exact this | omega | (simp; done) | simpa using this)
    have q_I2_F26 : Hid (b2 < w2.heap.size) := Lib.hid (by have := I2.lt; first | exact this | omega | (simp; done) | simpa using this)
    have q_F2_F26 : Hid (w.heap.size < w2.heap.size) := Lib.hid (by have := F2.lt; first | exact this | omega | (simp; done) | simpa using this)
    have q_F3_F26 : Hid (w.heap.size + 1 < w2.heap.size) := Lib.hid (by have := F3.lt; first | exact this | omega | (simp; done) | simpa using this)
    have q_F4_F26 : Hid (w.heap.size + 1 + 1 < w2.heap.size) := Lib.hid (by have := F4.lt; first | exact this | omega | (simp; done) | simpa using this)
    have q_w_F26 : Hid (w.heap.size ≤ w2.heap.size) := Lib.hid (by have := B0.size; first | exact this | omega | (simp; done) | simpa using this)
    replace I1 := I1.allocd (.cells #[.bool false, .slice none 0 0] 134)
    replace I2 := I2.allocd (.cells #[.bool false, .slice none 0 0] 134)
    replace F2 := F2.allocd (.cells #[.bool false, .slice none 0 0] 134)
    replace F3 := F3.allocd (.cells #[.bool false, .slice none 0 0] 134)
    replace F4 := F4.allocd (.cells #[.bool false, .slice none 0 0] 134)
    have F26 := Blk.put (((((w2).setCell ⟨w.heap.size, 0, none⟩ (.pointer (some ⟨b2, 0, none⟩))).setCell ⟨w.heap.size, 1, none⟩ (.int .i64 e2)).setCell ⟨w.heap.size + 1, 0, none⟩ (.pointer (some ⟨b1, 0, none⟩))).setCell ⟨w.heap.size + 1, 1, none⟩ (.int .i64 e1)) #[.bool false, .slice none 0 0] 134
    rw [show (((((w2).setCell ⟨w.heap.size, 0, none⟩ (.pointer (some ⟨b2, 0, none⟩))).setCell ⟨w.heap.size, 1, none⟩ (.int .i64 e2)).setCell ⟨w.heap.size + 1, 0, none⟩ (.pointer (some ⟨b1, 0, none⟩))).setCell ⟨w.heap.size + 1, 1, none⟩ (.int .i64 e1)).heap.size = w2.heap.size by simp] at F26
    replace B0 := B0.alloc B0.size (.cells #[.bool false, .slice none 0 0] 134)
    obtain ⟨xF28_0, xF28_1⟩ := F2.ce2
    obtain ⟨xF38_0, xF38_1⟩ := F3.ce2
    go_wp2_with fail
    (with_reducible refine (lsh_any w2.heap.size 0 b2 0 k _ _ (F26.rm (by decide) (by decide)) I2 hd2 hk2).mono ?_)
    rintro r w3 ⟨rfl, hI, hb3⟩
    clear xF25_0 xF25_1 xF35_0 xF35_1 xF25_0f xF25_1f xF36_0 xF36_1 xF36_0f xF36_1f xF28_0 xF28_1 xF38_0 xF38_1
    replace I1 := I1.but hb3 (.inl (Nat.ne_of_lt q_I1_F26.out))
    replace I2 := I2.but hb3 (.inl (Nat.ne_of_lt q_I2_F26.out))
    replace F2 := F2.but hb3 (Nat.ne_of_lt q_F2_F26.out)
    replace F3 := F3.but hb3 (Nat.ne_of_lt q_F3_F26.out)
    replace F4 := F4.but hb3 (Nat.ne_of_lt q_F4_F26.out)
    replace B0 := B0.trans (hb3.below q_w_F26.out B0.size)
    clear F26
    have F26 := hI
    clear hI hb3
    go_wp2_with fail
    refine wp_region_cut 8 (by kernel_rfl) (by kernel_rfl) ?_
    rintro W rfl
    simp only [List.take_succ_cons, List.take_zero, List.drop_succ_cons, List.drop_zero]
    obtain ⟨xF39_0, xF39_1⟩ := F3.ce2
    have hHeld : (fun w' : World => w'.cell? ⟨w.heap.size + 1, 0, none⟩ = some (.pointer (some ⟨b1, 0, none⟩)) ∧ w'.cell? ⟨w.heap.size + 1, 1, none⟩ = some (.int .i64 e1)) (w3).drew := ⟨xF39_0, xF39_1⟩
    refine wpAny_of_held (S := fun w' : World => w'.cell? ⟨w.heap.size + 1, 0, none⟩ = some (.pointer (some ⟨b1, 0, none⟩)) ∧ w'.cell? ⟨w.heap.size + 1, 1, none⟩ = some (.int .i64 e1)) _ _ _ (w3).drew ?_
    replace I1 := I1.drew
    clear I2
    clear F2
    replace F3 := F3.drew
    replace F4 := F4.drew
    replace F26 := F26.drew
    replace B0 := B0.drew
    generalize (w3).drew = v1 at *
    refine tkA 0 ?_
    (try dsimp only [Act.put]); (try go_frame)
    refine tkA 1 ?_
    (try dsimp only [Act.put]); (try go_frame)
    refine tkA 2 ?_
    (try dsimp only [Act.put]); (try go_frame)
    refine tkA 3 ?_
    (try dsimp only [Act.put]); (try go_frame)
    refine tkA 5 ?_
    (try dsimp only [Act.put]); (try go_frame)
    refine tkA 6 ?_
    (try dsimp only [Act.put]); (try go_frame)
    refine wpAnyH_ready (rs := [4]) (by kernel_rfl) (by simp) ?_
    refine AllReadyH.cons rfl (fun K hK => ?_) AllReadyH.nil
    go_simp
    (with_reducible refine (add_any w2.heap.size 0 w2.heap.size 0 b1 0 _ _ _ F26.room F26 I1 hsh hd1').mono ?_)
    rintro r w4 ⟨rfl, hI, hb4⟩
    clear xF39_0 xF39_1
    replace I1 := I1.but hb4 (.inl (Nat.ne_of_lt q_I1_F26.out))
    replace F3 := F3.but hb4 (Nat.ne_of_lt q_F3_F26.out)
    replace F4 := F4.but hb4 (Nat.ne_of_lt q_F4_F26.out)
    replace B0 := B0.trans (hb4.below q_w_F26.out B0.size)
    replace F26 := hI
    clear hI hb4
    obtain ⟨xF312_0, xF312_1⟩ := F3.ce2
    refine hK.out _ _ ?_ (fun hHeld => ?_)
    ·exact ⟨xF312_0, xF312_1⟩
    clear hK K
    (try dsimp only [Act.put]); (try go_frame)
    refine tkA 7 ?_
    (try dsimp only [Act.put]); (try go_frame)
    refine wpAnyH_done (by kernel_rfl) ?_ _
    try simp only [QCut]
    clear hHeld
    clear xF312_0 xF312_1
    obtain ⟨xF412_0, xF412_1⟩ := F4.ce2
    obtain ⟨xF412_0f, xF412_1f⟩ := F4.fr2
    have hL10 := But.lay (b := w.heap.size + 1 + 1) (o := 0) ⟨_, _, F4, by decide, by simp⟩ (.pointer (some ⟨w2.heap.size, 0, none⟩)) (.int .i64 e1)
    clear I1
    clear F3
    replace F26 := F26.but hL10 (.inl (intat_ne F26 F4))
    replace F4 : Blk (((w4).setCell ⟨w.heap.size + 1 + 1, 0, none⟩ (.pointer (some ⟨w2.heap.size, 0, none⟩))).setCell ⟨w.heap.size + 1 + 1, 1, none⟩ (.int .i64 e1)) (w.heap.size + 1 + 1) #[.pointer (some ⟨w2.heap.size, 0, none⟩), .int .i64 e1] 89 := ((F4.setAt 0 (.pointer (some ⟨w2.heap.size, 0, none⟩))).setAt 1 (.int .i64 e1))
    replace B0 := B0.trans (hL10.below q_w_F4.out B0.size)
    clear hL10
    obtain ⟨xF413_0, xF413_1⟩ := F4.ce2
    go_wp2
    exact bodyPost_ret (v := .agg #[.pointer (some ⟨w2.heap.size, 0, none⟩), .int .i64 e1]) (by simp [results, Tryz.results43, go_sem, xF413_0, xF413_1]) rfl ⟨⟨_, _, _, rfl, F26, (nAdd_lt hk6 hk12 hk18 hk).symm⟩, B0⟩
   ·obtain ⟨k, hk⟩ : ∃ k : Nat, e1 - e2 = (k : Int) := ⟨(e1 - e2).toNat, by omega⟩
    have hkl : k ≤ 2000000 := by omega
    have hk2 : k ≤ 1099511627776 := by omega
    have hw1 : IntKind.i64.wrap (e1 - e2) = (k : Int) := by rw [hk]; exact IntWalk.i64_in _ ⟨by omega, by omega⟩
    have hw2 : IntKind.u64.wrap (k : Int) = (k : Int) := IntWalk.u64_in _ ⟨by omega, by omega⟩
    have hsh := dn_shift (k := k) hz1 (by omega)
    have q_I1_F26 : Hid (b1 < w2.heap.size) := Lib.hid (by have := I1.lt; first | exact this | omega | (simp; done) | simpa using this)
    have q_I2_F26 : Hid (b2 < w2.heap.size) := Lib.hid (by have := I2.lt; first | exact this | omega | (simp; done) | simpa using this)
    have q_F2_F26 : Hid (w.heap.size < w2.heap.size) := Lib.hid (by have := F2.lt; first | exact this | omega | (simp; done) | simpa using this)
    have q_F3_F26 : Hid (w.heap.size + 1 < w2.heap.size) := Lib.hid (by have := F3.lt; first | exact this | omega | (simp; done) | simpa using this)
    have q_F4_F26 : Hid (w.heap.size + 1 + 1 < w2.heap.size) := Lib.hid (by have := F4.lt; first | exact this | omega | (simp; done) | simpa using this)
    have q_w_F26 : Hid (w.heap.size ≤ w2.heap.size) := Lib.hid (by have := B0.size; first | exact this | omega | (simp; done) | simpa using this)
    replace I1 := I1.allocd (.cells #[.bool false, .slice none 0 0] 134)
    replace I2 := I2.allocd (.cells #[.bool false, .slice none 0 0] 134)
    replace F2 := F2.allocd (.cells #[.bool false, .slice none 0 0] 134)
    replace F3 := F3.allocd (.cells #[.bool false, .slice none 0 0] 134)
    replace F4 := F4.allocd (.cells #[.bool false, .slice none 0 0] 134)
    have F26 := Blk.put (w2) #[.bool false, .slice none 0 0] 134
    replace B0 := B0.alloc B0.size (.cells #[.bool false, .slice none 0 0] 134)
    obtain ⟨xF26_0, xF26_1⟩ := F2.ce2
    obtain ⟨xF36_0, xF36_1⟩ := F3.ce2
    go_wp2_with fail
    (with_reducible refine (lsh_any w2.heap.size 0 b1 0 k _ _ (F26.rm (by decide) (by decide)) I1 hd1 hk2).mono ?_)
    rintro r w3 ⟨rfl, hI, hb3⟩
    clear xF25_0 xF25_1 xF35_0 xF35_1 xF26_0 xF26_1 xF36_0 xF36_1
    replace I1 := I1.but hb3 (.inl (Nat.ne_of_lt q_I1_F26.out))
    replace I2 := I2.but hb3 (.inl (Nat.ne_of_lt q_I2_F26.out))
    replace F2 := F2.but hb3 (Nat.ne_of_lt q_F2_F26.out)
    replace F3 := F3.but hb3 (Nat.ne_of_lt q_F3_F26.out)
    replace F4 := F4.but hb3 (Nat.ne_of_lt q_F4_F26.out)
    replace B0 := B0.trans (hb3.below q_w_F26.out B0.size)
    clear F26
    have F26 := hI
    clear hI hb3
    go_wp2_with fail
    refine wp_region_cut 8 (by kernel_rfl) (by kernel_rfl) ?_
    rintro W rfl
    simp only [List.take_succ_cons, List.take_zero, List.drop_succ_cons, List.drop_zero]
    obtain ⟨xF37_0, xF37_1⟩ := F3.ce2
    have hHeld : (fun w' : World => w'.cell? ⟨w.heap.size + 1, 0, none⟩ = some (.pointer (some ⟨b2, 0, none⟩)) ∧ w'.cell? ⟨w.heap.size + 1, 1, none⟩ = some (.int .i64 e2)) (w3).drew := ⟨xF37_0, xF37_1⟩
    refine wpAny_of_held (S := fun w' : World => w'.cell? ⟨w.heap.size + 1, 0, none⟩ = some (.pointer (some ⟨b2, 0, none⟩)) ∧ w'.cell? ⟨w.heap.size + 1, 1, none⟩ = some (.int .i64 e2)) _ _ _ (w3).drew ?_
    clear I1
    replace I2 := I2.drew
    clear F2
    replace F3 := F3.drew
    replace F4 := F4.drew
    replace F26 := F26.drew
    replace B0 := B0.drew
    generalize (w3).drew = v1 at *
    refine tkA 0 ?_
    (try dsimp only [Act.put]); (try go_frame)
    refine tkA 1 ?_
    (try dsimp only [Act.put]); (try go_frame)
    refine tkA 2 ?_
    (try dsimp only [Act.put]); (try go_frame)
    refine tkA 3 ?_
    (try dsimp only [Act.put]); (try go_frame)
    refine tkA 5 ?_
    (try dsimp only [Act.put]); (try go_frame)
    refine tkA 6 ?_
    (try dsimp only [Act.put]); (try go_frame)
    refine wpAnyH_ready (rs := [4]) (by kernel_rfl) (by simp) ?_
    refine AllReadyH.cons rfl (fun K hK => ?_) AllReadyH.nil
    go_simp
    (with_reducible refine (add_any w2.heap.size 0 w2.heap.size 0 b2 0 _ _ _ F26.room F26 I2 hsh hd2').mono ?_)
    rintro r w4 ⟨rfl, hI, hb4⟩
    clear xF37_0 xF37_1
    replace I2 := I2.but hb4 (.inl (Nat.ne_of_lt q_I2_F26.out))
    replace F3 := F3.but hb4 (Nat.ne_of_lt q_F3_F26.out)
    replace F4 := F4.but hb4 (Nat.ne_of_lt q_F4_F26.out)
    replace B0 := B0.trans (hb4.below q_w_F26.out B0.size)
    replace F26 := hI
    clear hI hb4
    obtain ⟨xF310_0, xF310_1⟩ := F3.ce2
    refine hK.out _ _ ?_ (fun hHeld => ?_)
    ·exact ⟨xF310_0, xF310_1⟩
    clear hK K
    (try dsimp only [Act.put]); (try go_frame)
    refine tkA 7 ?_
    (try dsimp only [Act.put]); (try go_frame)
    refine wpAnyH_done (by kernel_rfl) ?_ _
    try simp only [QCut]
    clear hHeld
    clear xF310_0 xF310_1
    obtain ⟨xF410_0, xF410_1⟩ := F4.ce2
    obtain ⟨xF410_0f, xF410_1f⟩ := F4.fr2
    have hL8 := But.lay (b := w.heap.size + 1 + 1) (o := 0) ⟨_, _, F4, by decide, by simp⟩ (.pointer (some ⟨w2.heap.size, 0, none⟩)) (.int .i64 e2)
    clear I2
    clear F3
    replace F26 := F26.but hL8 (.inl (intat_ne F26 F4))
    replace F4 : Blk (((w4).setCell ⟨w.heap.size + 1 + 1, 0, none⟩ (.pointer (some ⟨w2.heap.size, 0, none⟩))).setCell ⟨w.heap.size + 1 + 1, 1, none⟩ (.int .i64 e2)) (w.heap.size + 1 + 1) #[.pointer (some ⟨w2.heap.size, 0, none⟩), .int .i64 e2] 89 := ((F4.setAt 0 (.pointer (some ⟨w2.heap.size, 0, none⟩))).setAt 1 (.int .i64 e2))
    replace B0 := B0.trans (hL8.below q_w_F4.out B0.size)
    clear hL8
    obtain ⟨xF411_0, xF411_1⟩ := F4.ce2
    go_wp2
    exact bodyPost_ret (v := .agg #[.pointer (some ⟨w2.heap.size, 0, none⟩), .int .i64 e2]) (by simp [results, Tryz.results43, go_sem, xF411_0, xF411_1]) rfl ⟨⟨_, _, _, rfl, F26, (nAdd_ge hk6 hk12 (by omega) hk).symm⟩, B0⟩
end Go.Proofs.YtfdnbogbankjjaaGreatDoor
