/- The walks over wide's Int, fourth part: Sub, Cmp, SetUint64, NewInt, Uint64. -/
import Derived.Test.YtgcifpjhhoalmaaDoorId
namespace Go.Proofs.YtgcifpjhhoalmaaDoor
open Go Go.RowKit Fil

set_option maxHeartbeats 1000000 in
theorem sub_any (b o b1 o1 b2 o2 : Nat) (x y : Int) (w : World) (hr : Room w b o) (h1 : IntAt w b1 o1 x) (h2 : IntAt w b2 o2 y) (hx : dn 32 x.natAbs ≤ 1099511627775) (hy : dn 32 y.natAbs ≤ 1099511627775) :
    Calls Tryd.prog 171 #[.pointer (some ⟨b, o, none⟩), .pointer (some ⟨b1, o1, none⟩), .pointer (some ⟨b2, o2, none⟩)] w fun e w' => e = .returned (.pointer (some ⟨b, o, none⟩)) ∧ IntAt w' b o (x - y) ∧ But w w' b o := by
  have l1 := h1.lt
  have l2 := h2.lt
  have l0 := hr.lt
  go_enter Tryd.func171, Tryd.ntmps171
  go_wp2_with (go_at_call 127; go_must (refine (neg_any w.heap.size 0 b2 o2 y _ (Room.new w 146 _ (by decide) (by simp)) (h2.alloc _) (Nat.le_trans hy (by omega))).mono ?_); rintro e w1 ⟨rfl, hI1, hB1⟩)
  have hb1 : Below w.heap.size w w1 := ((Below.refl _ _).alloc (Nat.le_refl _) _).trans (hB1.below (Nat.le_refl _) (by simp))
  go_wp2_with (go_at_call 123; go_must (refine (add_any b o b1 o1 w.heap.size 0 x (-y) _ (hr.below hb1) (h1.below hb1) hI1 hx (by rw [Int.natAbs_neg]; exact hy)).mono ?_); rintro e w2 ⟨rfl, hI2, hB2⟩)
  go_ret
  exact ⟨rfl, by rw [Int.sub_eq_add_neg]; exact hI2, But.after hb1 hB2 hr⟩

/-- -1, 0 or 1 -/
def cmpI (x y : Int) : Int := if x < y then -1 else if y < x then 1 else 0
theorem cmpI_sign {x y : Int} (h : (x.sign == y.sign) = false) : cmpI x y = if x.sign < y.sign then -1 else 1 := by
  unfold cmpI
  rcases Int.lt_trichotomy x 0 with h1 | h1 | h1 <;> rcases Int.lt_trichotomy y 0 with h2 | h2 | h2 <;>
    simp [Int.sign_eq_neg_one_of_neg, Int.sign_eq_one_of_pos, h1, h2] at h ⊢ <;> omega
theorem cmpI_neg {x y : Int} (h : x.sign = y.sign) (hx : x < 0) : cmpI x y = cmpZ y.natAbs x.natAbs := by
  have hy : y < 0 := by rw [Int.sign_eq_neg_one_of_neg hx] at h; exact Int.sign_eq_neg_one_iff_neg.1 h.symm
  unfold cmpI cmpZ
  repeat' split
  all_goals omega
theorem cmpI_pos {x y : Int} (h : x.sign = y.sign) (hx : ¬ x < 0) : cmpI x y = cmpZ x.natAbs y.natAbs := by
  have hy : ¬ y < 0 := by
    intro h2; rw [Int.sign_eq_neg_one_of_neg h2] at h; exact hx (Int.sign_eq_neg_one_iff_neg.1 h)
  unfold cmpI cmpZ
  repeat' split
  all_goals omega

set_option maxHeartbeats 1000000 in
theorem icmp_any (b1 o1 b2 o2 : Nat) (x y : Int) (w : World) (h1 : IntAt w b1 o1 x) (h2 : IntAt w b2 o2 y) (hx : dn 32 x.natAbs ≤ 1099511627776) (hy : dn 32 y.natAbs ≤ 1099511627776) :
    Calls Tryd.prog 138 #[.pointer (some ⟨b1, o1, none⟩), .pointer (some ⟨b2, o2, none⟩)] w fun e w' => e = .returned (.int .i64 (cmpI x y)) ∧ ∃ k, w' = w.drewN k := by
  obtain ⟨A1, n1, c1, hn1, hd1, hD1⟩ := h1.cells
  obtain ⟨A2, n2, c2, hn2, hd2, hD2⟩ := h2.cells
  rw [← hD1.1] at hx
  rw [← hD2.1] at hy
  have H1 := Lib.hid h1
  have H2 := Lib.hid h2
  clear h1 h2
  cases hs : (x.sign == y.sign)
  · have t0 : (x.sign != y.sign) = true := by simp [bne, hs]
    have HC := Lib.hid (cmpI_sign hs)
    clear hs
    by_cases hlt : x.sign < y.sign
    · have HL := Lib.hid hlt
      go_enter Tryd.func138, Tryd.ntmps138
      go_wp2_with fail
      refine (sign_any b1 o1 x _ H1.out).mono ?_
      rintro e w' ⟨rfl, rfl⟩
      go_wp2_with fail
      refine (sign_any b2 o2 y _ H2.out).mono ?_
      rintro e w' ⟨rfl, rfl⟩
      go_wp2
      go_ret
      exact ⟨by rw [HC.out, if_pos HL.out]; rfl, 0, rfl⟩
    · have HL := Lib.hid hlt
      go_enter Tryd.func138, Tryd.ntmps138
      go_wp2_with fail
      refine (sign_any b1 o1 x _ H1.out).mono ?_
      rintro e w' ⟨rfl, rfl⟩
      go_wp2_with fail
      refine (sign_any b2 o2 y _ H2.out).mono ?_
      rintro e w' ⟨rfl, rfl⟩
      go_wp2
      go_ret
      exact ⟨by rw [HC.out, if_neg (Int.not_lt.2 HL.out)]; rfl, 0, rfl⟩
  · have t0 : (x.sign != y.sign) = false := by simp [bne, hs]
    have hs' : x.sign = y.sign := by simpa using hs
    clear hs
    by_cases hneg : x < 0
    · have e1 : sg x = true := by simp [sg, hneg]
      rw [e1] at hn1
      have HC := Lib.hid (cmpI_neg hs' hneg)
      clear hs' e1 hneg
      go_enter Tryd.func138, Tryd.ntmps138
      go_wp2_with fail
      refine (sign_any b1 o1 x _ H1.out).mono ?_
      rintro e w' ⟨rfl, rfl⟩
      go_wp2_with fail
      refine (sign_any b2 o2 y _ H2.out).mono ?_
      rintro e w' ⟨rfl, rfl⟩
      go_wp2
      go_quiet ((go_at_call 164; exact Calls.quiet_of (cmp_any A2 A1 n2 c2 y.natAbs n1 c1 x.natAbs _ hD2.1 hD1.1 (by omega) (by omega) (by exact hD2.2.2) (by exact hD1.2.2))))
      go_wp2
      go_ret
      exact ⟨by rw [HC.out]; rfl, _, rfl⟩
    · have e1 : sg x = false := by simp [sg]; omega
      rw [e1] at hn1
      have HC := Lib.hid (cmpI_pos hs' hneg)
      clear hs' e1 hneg
      go_enter Tryd.func138, Tryd.ntmps138
      go_wp2_with fail
      refine (sign_any b1 o1 x _ H1.out).mono ?_
      rintro e w' ⟨rfl, rfl⟩
      go_wp2_with fail
      refine (sign_any b2 o2 y _ H2.out).mono ?_
      rintro e w' ⟨rfl, rfl⟩
      go_wp2
      go_quiet ((go_at_call 164; exact Calls.quiet_of (cmp_any A1 A2 n1 c1 x.natAbs n2 c2 y.natAbs _ hD1.1 hD2.1 (by omega) (by omega) (by exact hD1.2.2) (by exact hD2.2.2))))
      go_wp2
      go_ret
      exact ⟨by rw [HC.out]; rfl, _, rfl⟩

set_option maxHeartbeats 1000000 in
theorem setu_any (b o x : Nat) (w : World) (hr : Room w b o) (hx : x < 18446744073709551616) :
    Calls Tryd.prog 166 #[.pointer (some ⟨b, o, none⟩), .int .u64 x] w fun e w' => e = .returned (.pointer (some ⟨b, o, none⟩)) ∧ IntAt w' b o x ∧ But w w' b o := by
  have hb : Below w.heap.size w (w.alloc (Obj.cells #[Value.int .u32 ((x : Int) % 4294967296), Value.int .u32 ((x : Int) / 4294967296 % 4294967296)] 169)) := (Below.refl _ _).alloc (Nat.le_refl _) _
  have hs : Slc (w.alloc (Obj.cells #[Value.int .u32 ((x : Int) % 4294967296), Value.int .u32 ((x : Int) / 4294967296 % 4294967296)] 169)) 169 (some ⟨w.heap.size, 0, none⟩) 2 (d32 x) := fun _ =>
    ⟨w.heap.size, 0, _, _, rfl, heap_alloc_new w _, fun j hj => by
      rcases (show j = 0 ∨ j = 1 by omega) with rfl | rfl
      · simp [d32, dg]
      · simp [d32, dg]⟩
  have hlt : Hid (x < 2 ^ (32 * 2)) := Lib.hid (by omega)
  have hle : Hid (dn 32 x ≤ 2) := Lib.hid (dn_le (by omega) hlt.out)
  have Hx := Lib.hid hx
  clear hx
  go_enter Tryd.func166, Tryd.ntmps166
  go_wp2_with fail
  refine (cut_any (some ⟨w.heap.size, 0, none⟩) 2 2 x _ hlt.out (by omega) (by omega) hs).mono ?_
  rintro e w' ⟨rfl, rfl⟩
  have hd : Dig (w.alloc (Obj.cells #[Value.int .u32 ((x : Int) % 4294967296), Value.int .u32 ((x : Int) / 4294967296 % 4294967296)] 169)) (some ⟨w.heap.size, 0, none⟩) (dn 32 x) 2 x := ⟨rfl, hle.out, hs.le hle.out⟩
  have hr1 := hr.below hb
  go_wp2_with (go_at_call 157; go_must (refine (laid_int b o _ _ _ _ x _ hr1 (Nat.le_trans hle.out (by omega)) hd).mono ?_); rintro e w' ⟨rfl, hI, hB⟩)
  go_ret
  exact ⟨rfl, hI, But.after hb hB hr⟩

theorem setu_z (b o : Nat) (z : Int) (w : World) (hr : Room w b o) (h0 : 0 ≤ z) (h1 : z < 18446744073709551616) :
    Calls Tryd.prog 166 #[.pointer (some ⟨b, o, none⟩), .int .u64 z] w fun e w' => e = .returned (.pointer (some ⟨b, o, none⟩)) ∧ IntAt w' b o z ∧ But w w' b o := by
  obtain ⟨x, rfl⟩ := Int.eq_ofNat_of_zero_le h0
  exact setu_any b o x w hr (by omega)

theorem IntAt.signed {w : World} {b o : Nat} {z : Int} (h : IntAt w b o (-z)) (hz : z < 0) : IntAt (w.setCell ⟨b, o, none⟩ (.bool true)) b o z := by
  obtain ⟨cs, t, A, n, c, h1, h2, h3, h4, h5⟩ := h
  have hs : sg z = true := by simp [sg, hz]
  refine ⟨cs.setIfInBounds o (.bool true), t, A, n, c, by simp [World.setCell, Array.getElem?_modify, h1], h2, ?_, ?_, ?_⟩
  · rw [Array.getElem?_setIfInBounds, hs]; simp
    have := (Array.getElem?_eq_some_iff.1 h3).1; omega
  · rw [Array.getElem?_setIfInBounds_ne (by omega)]; exact h4
  · rw [Int.natAbs_neg] at h5
    exact ⟨h5.1, h5.2.1, h5.2.2.setCell (p := ⟨b, o, none⟩) h1 (fun e => h2 e.symm) _⟩

set_option maxHeartbeats 1000000 in
theorem newint_any (z : Int) (w : World) (h0 : -9223372036854775808 ≤ z) (h1 : z ≤ 9223372036854775807) :
    Calls Tryd.prog 124 #[.int .i64 z] w fun e w' => e = .returned (.pointer (some ⟨w.heap.size, 0, none⟩)) ∧ IntAt w' w.heap.size 0 z ∧ Below w.heap.size w w' := by
  have hr : Room (w.alloc (Obj.cells #[.bool false, .slice none 0 0] 146)) w.heap.size 0 := Room.new w 146 _ (by decide) (by simp)
  have hb : Below w.heap.size w (w.alloc (Obj.cells #[.bool false, .slice none 0 0] 146)) := (Below.refl _ _).alloc (Nat.le_refl _) _
  by_cases hz : z < 0
  · have e1 : IntKind.u64.wrap z = z + 18446744073709551616 := by rw [IntKind.wrap_u64]; omega
    have e2 : IntKind.u64.wrap (-(z + 18446744073709551616)) = -z := by rw [IntKind.wrap_u64]; omega
    have E1 := Lib.hid e1
    have E2 := Lib.hid e2
    have H0 := Lib.hid h0
    clear e1 e2 h0 h1
    go_enter Tryd.func124, Tryd.ntmps124
    go_wp2_with fail
    refine (setu_z w.heap.size 0 (IntKind.u64.wrap z) _ hr (by have := E1.out; have := H0.out; omega) (by have := E1.out; have := H0.out; omega)).mono ?_
    rintro e w1 ⟨rfl, hI1, hB1⟩
    have hr1 := hI1.room
    go_wp2_with fail
    refine (setu_z w.heap.size 0 (IntKind.u64.wrap (-IntKind.u64.wrap z)) _ hr1 (by rw [E1.out, E2.out]; omega) (by rw [E1.out, E2.out]; have := H0.out; omega)).mono ?_
    rintro e w2 ⟨rfl, hI2, hB2⟩
    obtain ⟨u, v, g1, g2, g3, g4⟩ := hI2.room.cells
    have hb2 : Below w.heap.size w w2 := hb.trans ((hB1.trans hB2).below (Nat.le_refl _) (by simp))
    rw [E1.out, E2.out] at hI2
    have hz' := Lib.hid hz
    clear g2 g4 hz
    go_wp2
    go_ret
    exact ⟨rfl, hI2.signed hz'.out, hb2.setCell (Nat.le_refl _) _⟩
  · have e1 : IntKind.u64.wrap z = z := by rw [IntKind.wrap_u64]; omega
    have E1 := Lib.hid e1
    have H1 := Lib.hid h1
    clear e1 h0 h1
    go_enter Tryd.func124, Tryd.ntmps124
    go_wp2_with fail
    refine (setu_z w.heap.size 0 (IntKind.u64.wrap z) _ hr (by rw [E1.out]; omega) (by rw [E1.out]; have := H1.out; omega)).mono ?_
    rintro e w1 ⟨rfl, hI1, hB1⟩
    rw [E1.out] at hI1
    go_wp2
    go_ret
    exact ⟨rfl, hI1, hb.trans (hB1.below (Nat.le_refl _) (by simp))⟩

theorem or_low {a b : Nat} (hb : b < 4294967296) : a * 4294967296 ||| b = a * 4294967296 + b := or_add (s := 32) hb
set_option maxHeartbeats 1000000 in
theorem uint64_any (b o : Nat) (z : Int) (w : World) (h : IntAt w b o z) (hz : z.natAbs < 18446744073709551616) :
    Calls Tryd.prog 170 #[.pointer (some ⟨b, o, none⟩)] w fun e w' => e = .returned (.int .u64 z.natAbs) ∧ w = w' := by
  obtain ⟨A, n, c, h1, h2, h3, h4, h5⟩ := h.cells
  have hn : n ≤ 2 := by rw [h3]; exact dn_le (by omega) (by omega)
  have hx := lt_dn (k := 32) (by omega) z.natAbs
  rw [← h3] at hx
  generalize z.natAbs = x at *
  clear h h3 h1 h4
  rcases (show n = 0 ∨ n = 1 ∨ n = 2 by omega) with rfl | rfl | rfl
  · have hx0 : x = 0 := by simpa using hx
    subst hx0
    clear hx h5 hn hz
    go_enter Tryd.func170, Tryd.ntmps170
    go_wp2
    refine wp_loop_rounds 1 ?_
    rw [rounds_succ]
    go_wp2
    go_ret
    exact ⟨rfl, rfl⟩
  · obtain ⟨b1, o1, rfl, _, hc1⟩ := h5.cell (by omega)
    have k0 := hc1 0 (by omega)
    have e0 : dg 32 x 0 = x := by unfold dg; simp; omega
    simp only [d32, e0, Nat.add_zero] at k0
    have hlt : x < 4294967296 := by omega
    have e1 : bits BinOp.or .u64 0 (x : Int) = x := by
      have := u64_or_nat 0 x (by omega) (by omega)
      simpa using this
    have hm : min (1 : Int) 2 = 1 := by decide
    clear hc1 h5 hx hn hz e0
    go_enter Tryd.func170, Tryd.ntmps170
    go_wp2
    refine wp_loop_rounds 2 ?_
    rw [rounds_succ]
    go_wp2
    rw [rounds_succ]
    go_wp2
    go_ret
    exact ⟨rfl, rfl⟩
  · obtain ⟨b1, o1, rfl, _, hc1⟩ := h5.cell (by omega)
    have k0 := hc1 0 (by omega)
    have k1 := hc1 1 (by omega)
    have e0 : dg 32 x 0 = x % 4294967296 := by unfold dg; simp
    have e1 : dg 32 x 1 = x / 4294967296 := by unfold dg; simp; omega
    simp only [d32, e0, e1, Nat.add_zero] at k0 k1
    obtain ⟨p, hp⟩ : ∃ p, p = x / 4294967296 := ⟨_, rfl⟩
    obtain ⟨q, hq⟩ : ∃ q, q = x % 4294967296 := ⟨_, rfl⟩
    rw [← hq] at k0
    rw [← hp] at k1
    have hpl : p < 4294967296 := by omega
    have hql : q < 4294967296 := by omega
    have f1 : bits BinOp.or .u64 0 (p : Int) = p := by
      have := u64_or_nat 0 p (by omega) (by omega)
      simpa using this
    have f2 : bits BinOp.or .u64 ((p : Int) * 4294967296) (q : Int) = x := by
      have := u64_or_nat (p * 4294967296) q (by omega) (by omega)
      rw [or_low hql] at this
      have e : (p : Int) * 4294967296 = ((p * 4294967296 : Nat) : Int) := by omega
      rw [e]
      refine this.trans ?_
      congr 1; omega
    clear hc1 h5 hx hn hz e0 e1 hp hq
    go_enter Tryd.func170, Tryd.ntmps170
    go_wp2
    refine wp_loop_rounds 3 ?_
    rw [rounds_succ]
    go_wp2
    rw [rounds_succ]
    go_wp2
    rw [rounds_succ]
    go_wp2
    go_ret
    exact ⟨rfl, rfl⟩
end Go.Proofs.YtgcifpjhhoalmaaDoor
