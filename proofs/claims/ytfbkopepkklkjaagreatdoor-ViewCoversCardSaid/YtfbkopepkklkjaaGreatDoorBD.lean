/- dyad.cut, round, Near, Below, Above. -/
import Derived.Test.YtfbkopepkklkjaaGreatDoorB7
import Derived.Test.YtfbkopepkklkjaaGreatDoorBA

/- The walk over dyad.cut, where something is cut off. -/
namespace Go.Proofs.YtfbkopepkklkjaaGreatDoor
open Go Go.RowKit Go.PlainAid Fil

/-- how what is cut off stands against a half of the last place -/
def cutA (x k : Nat) : Int := cmpI ((x % 2 ^ k : Nat) : Int) ((2 ^ (k - 1) : Nat) : Int)
theorem cutA_of {x k k' : Nat} (h : k = k' + 1) : cmpI ((x : Int) - ((x / 2 ^ k : Nat) : Int) * 2 ^ k) (1 * 2 ^ k') = cutA x k := by
 unfold cutA
 have hd := Nat.div_add_mod x (2 ^ k)
 have hc : (2 : Int) ^ k = ((2 ^ k : Nat) : Int) := by push_cast; rfl
 have e1 : ((x / 2 ^ k : Nat) : Int) * ((2 ^ k : Nat) : Int) = ((2 ^ k * (x / 2 ^ k) : Nat) : Int) := by rw [Nat.mul_comm (2 ^ k), Int.natCast_mul]
 rw [hc, e1, show (x : Int) - ((2 ^ k * (x / 2 ^ k) : Nat) : Int) = ((x % 2 ^ k : Nat) : Int) by omega, Int.one_mul, show k - 1 = k' by omega]
 congr 1
theorem cutA_far {x k : Nat} (h : bl x < k) : cutA x k = -1 := by
 unfold cutA
 have h1 := lt_bl x
 have h2 : 2 ^ bl x ≤ 2 ^ (k - 1) := pmono (by omega)
 have h3 : 2 ^ (k - 1) ≤ 2 ^ k := pmono (by omega)
 rw [Nat.mod_eq_of_lt (by omega)]
 unfold cmpI
 rw [if_pos (by omega)]

set_option maxHeartbeats 2000000 in
theorem dcut_far (neg : Bool) (x : Nat) (e top : Int) (last : Int) (k : Nat) (w : World) (h : okD neg x e) (ht1 : -1200000 ≤ top) (ht2 : top ≤ 1200000) (hl : last = max (top - 52) (-1074)) (hk : last - e = (k : Int)) (hb : bl x < k) :
  Calls Tryz.prog 136 #[.agg #[.bool neg, .string (bstr x), .int .i64 e], .int .i64 top] w fun r w' => r = .returned (.tuple #[.int .u64 0, .int .i64 last, .int .i64 (-1), .bool false]) ∧ Below w.heap.size w w' := by
 have hsz := bstr_size x
 have hdn := h.dn
 have hrc := run_conv
 have e1 := h.e1
 have e2 := h.e2
 have hl' := hl.symm
 have k0 : 0 ≤ (k : Int) := by omega
 have k1 : (k : Int) ≤ 2300000 := by omega
 have hd1 : decide (last ≤ e) = false := by rw [decide_eq_false_iff_not]; omega
 have hd2 : decide (bl x < k) = true := by rw [decide_eq_true_eq]; omega
 have hl1 : -1074 ≤ last := by omega
 have hl2 : last ≤ 1200000 := by omega
 have hd32 : Fil.dn 32 ((x : Int)).natAbs ≤ 16384 := by have := dn32_shl (k := 0) hdn (by omega); simpa using this
 have H := Lib.hid h
 have Hl := Lib.hid hl
 clear h hl
 go_enter Tryz.func136, Tryz.ntmps136
 go_wp2_with fail
 refine (set_new neg x e w hdn).mono ?_
 rintro r w1 ⟨rfl, hI, hb1⟩
 obtain ⟨c0, c1, c2, -, -, -⟩ := DyAt.new w w.heap.size neg (bstr x) e rfl hb1
 have hB : Below w.heap.size w w1 := ((Below.refl _ _).alloc (Nat.le_refl _) _).trans (hb1.mono (by omega))
 clear hb1
 go_wp2_with fail
 refine (bitlen_any (w.heap.size + 1) 0 (x : Int) _ hI (by omega)).mono ?_
 rintro r w2 ⟨rfl, rfl⟩
 rw [Int.natAbs_natCast]
 go_wp2
 go_returns
 exact ⟨rfl, hB⟩

set_option maxHeartbeats 4000000 in
theorem dcut_part (neg : Bool) (x : Nat) (e top : Int) (last : Int) (k k' : Nat) (w : World) (h : okD neg x e) (ht1 : -1200000 ≤ top) (ht2 : top ≤ 1200000) (hl : last = max (top - 52) (-1074)) (hk : last - e = (k : Int)) (hkk : k = k' + 1) (hb : k ≤ bl x) (hf : x / 2 ^ k < 18446744073709551616) (hT : Tab w) :
  Calls Tryz.prog 136 #[.agg #[.bool neg, .string (bstr x), .int .i64 e], .int .i64 top] w fun r w' => r = .returned (.tuple #[.int .u64 ((x / 2 ^ k : Nat) : Int), .int .i64 last, .int .i64 (cutA x k), .bool false]) ∧ Below w.heap.size w w' := by
 have hsz := bstr_size x
 have hdn := h.dn
 have hrc := run_conv
 have e1 := h.e1
 have e2 := h.e2
 have hl' := hl.symm
 have k0 : 0 ≤ (k : Int) := by omega
 have k1 : (k : Int) ≤ 2300000 := by omega
 have k2 : (k : Int) - 1 = (k' : Int) := by omega
 have k3 : 0 ≤ (k' : Int) := by omega
 have k4 : (k' : Int) ≤ 2300000 := by omega
 have hd1 : decide (last ≤ e) = false := by rw [decide_eq_false_iff_not]; omega
 have hd2 : decide (bl x < k) = false := by rw [decide_eq_false_iff_not]; omega
 have hl1 : -1074 ≤ last := by omega
 have hl2 : last ≤ 1200000 := by omega
 have hd32 : Fil.dn 32 ((x : Int)).natAbs ≤ 16384 := by have := dn32_shl (k := 0) hdn (by omega); simpa using this
 have hdm : Fil.dn 32 (((x / 2 ^ k : Nat) : Int)).natAbs ≤ 16384 := by
  rw [Int.natAbs_natCast] at hd32 ⊢; exact Nat.le_trans (dn_mono (by omega) (Nat.div_le_self _ _)) hd32
 have hdl : Fil.dn 32 (((x / 2 ^ k : Nat) : Int) * 2 ^ k).natAbs ≤ 16384 := by
  rw [abs_shl, Int.natAbs_natCast]; rw [Int.natAbs_natCast] at hd32; exact Nat.le_trans (dn_mono (by omega) (Nat.div_mul_le_self _ _)) hd32
 have hdr : Fil.dn 32 ((x : Int) - ((x / 2 ^ k : Nat) : Int) * 2 ^ k).natAbs ≤ 16384 := by
  have hc : (2 : Int) ^ k = ((2 ^ k : Nat) : Int) := by push_cast; rfl
  have h0 := Nat.div_mul_le_self x (2 ^ k)
  have h1 : ((x : Int) - ((x / 2 ^ k : Nat) : Int) * 2 ^ k).natAbs ≤ (x : Int).natAbs := by
   rw [hc, ← Int.natCast_mul]; omega
  exact Nat.le_trans (dn_mono (by omega) h1) hd32
 have hdh : Fil.dn 32 (1 * (2 : Int) ^ k').natAbs ≤ 16384 := by
  rw [abs_shl]
  have hx : x ≠ 0 := by rintro rfl; rw [bl_zero] at hb; omega
  have h0 := le_bl hx
  have h1 : (1 : Int).natAbs * 2 ^ k' ≤ x := by
   rw [show (1 : Int).natAbs = 1 by rfl, Nat.one_mul]
   exact Nat.le_trans (pmono (by omega)) h0
  rw [Int.natAbs_natCast] at hd32
  exact Nat.le_trans (dn_mono (by omega) h1) hd32
 have hcmp := cutA_of (x := x) hkk
 obtain ⟨m, hm⟩ : ∃ m, m = x / 2 ^ k := ⟨_, rfl⟩
 rw [← hm] at hf hdm hdl hdr hcmp ⊢
 have hsh : ((x / 2 ^ k : Nat) : Int) = (m : Int) := by rw [hm]
 have hrs := shrZ_nat x k
 rw [hsh] at hrs
 obtain ⟨c, hc⟩ : ∃ c, c = cutA x k := ⟨_, rfl⟩
 rw [← hc] at hcmp ⊢
 have Hd := Lib.hid (And.intro hdm (And.intro hdl (And.intro hdr (And.intro hdh (And.intro hcmp (And.intro hrs hf))))))
 clear h hl hb hkk hm hsh hc hdm hdl hdr hdh hcmp hrs hf
 go_enter Tryz.func136, Tryz.ntmps136
 go_wp2_with fail
 refine (set_new neg x e w hdn).mono ?_
 rintro r w1 ⟨rfl, hI, hb1⟩
 obtain ⟨c0, c1, c2, -, -, -⟩ := DyAt.new w w.heap.size neg (bstr x) e rfl hb1
 have hB : Below w.heap.size w w1 := ((Below.refl _ _).alloc (Nat.le_refl _) _).trans (hb1.mono (by omega))
 clear hb1
 go_wp2_with fail
 refine (bitlen_any (w.heap.size + 1) 0 (x : Int) _ hI (by omega)).mono ?_
 rintro r w2 ⟨rfl, rfl⟩
 rw [Int.natAbs_natCast]
 go_wp2_with fail
 clear c0 c1 c2
 have l1 := hI.lt
 have HI := hI.alloc (.cells #[.bool false, .slice none 0 0] 155)
 have HR := Room.new (o := 0) w1 155 #[.bool false, .slice none 0 0] (by decide) (by simp)
 have HB := hB.alloc hB.size (.cells #[.bool false, .slice none 0 0] 155)
 refine (rsh_any w1.heap.size 0 (w.heap.size + 1) 0 k (x : Int) _ HR HI (by omega) (by omega) (hT.below HB)).mono ?_
 rintro r w2 ⟨rfl, hM, hB2⟩
 rw [Hd.out.2.2.2.2.2.1] at hM
 replace HI := HI.but hB2 (.inl (by omega))
 replace HB := HB.trans (hB2.below hB.size (by simp; omega))
 clear hI hB HR hB2
 have l2 := hM.lt
 go_wp2_with fail
 have HR1 := (Room.new (o := 0) w2 155 #[.bool false, .slice none 0 0] (by decide) (by simp)).alloc (.cells #[.bool false, .slice none 0 0] 155)
 have HR2 := Room.new (o := 0) (w2.alloc (.cells #[.bool false, .slice none 0 0] 155)) 155 #[.bool false, .slice none 0 0] (by decide) (by simp)
 rw [show (w2.alloc (.cells #[.bool false, .slice none 0 0] 155)).heap.size = w2.heap.size + 1 by simp] at HR2
 replace HI := (HI.alloc (.cells #[.bool false, .slice none 0 0] 155)).alloc (.cells #[.bool false, .slice none 0 0] 155)
 replace hM := (hM.alloc (.cells #[.bool false, .slice none 0 0] 155)).alloc (.cells #[.bool false, .slice none 0 0] 155)
 replace HB := (HB.alloc HB.size (.cells #[.bool false, .slice none 0 0] 155)).alloc (by have := HB.size; simp; omega) (.cells #[.bool false, .slice none 0 0] 155)
 refine (lsh_any (w2.heap.size + 1) 0 w1.heap.size 0 k (m : Int) _ HR2 hM (by have := Hd.out.1; omega) (by omega)).mono ?_
 rintro r w3 ⟨rfl, hL, hB3⟩
 replace HI := HI.but hB3 (.inl (by omega))
 replace hM := hM.but hB3 (.inl (by omega))
 replace HR1 := HR1.but hB3
 replace HB := HB.trans (hB3.below (by omega) (by have := HB.size; simp at this ⊢; omega))
 clear HR2 hB3
 have l3 := hL.lt
 go_wp2_with fail
 refine (sub_any w2.heap.size 0 (w.heap.size + 1) 0 (w2.heap.size + 1) 0 (x : Int) _ w3 HR1 HI hL (by omega) (by have := Hd.out.2.1; omega)).mono ?_
 rintro r w4 ⟨rfl, hS, hB4⟩
 replace hM := hM.but hB4 (.inl (by omega))
 replace HB := HB.trans (hB4.below (by omega) HB.size)
 clear HI HR1 hL hB4
 have l4 := hS.lt
 go_wp2_with fail
 have HR3 := Room.new (o := 0) w4 155 #[.bool false, .slice none 0 0] (by decide) (by simp)
 replace hM := hM.alloc (.cells #[.bool false, .slice none 0 0] 155)
 replace hS := hS.alloc (.cells #[.bool false, .slice none 0 0] 155)
 replace HB := HB.alloc HB.size (.cells #[.bool false, .slice none 0 0] 155)
 refine (newint_any 1 _ (by omega) (by omega)).mono ?_
 rintro r w5 ⟨rfl, hN, hb5⟩
 rw [show (w4.alloc (.cells #[.bool false, .slice none 0 0] 155)).heap.size = w4.heap.size + 1 by simp] at hN
 replace hM := hM.below hb5
 replace hS := hS.below hb5
 replace HR3 := HR3.below hb5
 replace HB := HB.trans (hb5.mono HB.size)
 clear hb5
 go_wp2_with fail
 refine (lsh_any w4.heap.size 0 (w4.heap.size + 1) 0 k' 1 w5 HR3 hN (by rw [show Fil.dn 32 (1 : Int).natAbs = 1 by decide]; omega) (by omega)).mono ?_
 rintro r w6 ⟨rfl, hH, hB6⟩
 replace hM := hM.but hB6 (.inl (by omega))
 replace hS := hS.but hB6 (.inl (by omega))
 replace HB := HB.trans (hB6.below (by omega) HB.size)
 clear HR3 hN hB6
 go_wp2_with fail
 refine (uint64_any w1.heap.size 0 (m : Int) w6 hM (by rw [Int.natAbs_natCast]; exact Hd.out.2.2.2.2.2.2)).mono ?_
 rintro r w7 ⟨rfl, rfl⟩
 rw [Int.natAbs_natCast]
 go_wp2_with fail
 refine (icmp_any w2.heap.size 0 w4.heap.size 0 _ _ w6 hS hH (by have := Hd.out.2.2.1; omega) (by have := Hd.out.2.2.2.1; omega)).mono ?_
 rintro r w8 ⟨rfl, n8, rfl⟩
 rw [Hd.out.2.2.2.2.1]
 go_wp2
 go_returns
 exact ⟨rfl, Below.drewN' HB n8⟩
end Go.Proofs.YtfbkopepkklkjaaGreatDoor

/- The walks over dyad.round with its three closures, dyad.Near, Below, Above. -/
namespace Go.Proofs.YtfbkopepkklkjaaGreatDoor
open Go Go.RowKit Go.PlainAid Fil

/-- does the magnitude go on to the next float? -/
def onN (A : Int) (o : Bool) : Bool := decide (0 < A) || ((A == 0) && o)

set_option maxHeartbeats 1000000 in
theorem near1_any (A : Int) (o : Bool) (w : World) : Calls Tryz.prog 117 #[.int .i64 A, .bool o] w fun r w' => r = .returned (.bool (onN A o)) ∧ w = w' := by
 unfold onN
 by_cases h1 : 0 < A
 ·have d1 : decide (0 < A) = true := decide_eq_true h1
  go_enter Tryz.func117, Tryz.ntmps117
  go_wp2
  go_ret
  exact ⟨by simp [h1], rfl⟩
 ·have d1 : decide (0 < A) = false := decide_eq_false h1
  by_cases h2 : A = 0
  ·subst h2
   go_enter Tryz.func117, Tryz.ntmps117
   go_wp2
   all_goals (go_ret; exact ⟨by simp, rfl⟩)
  ·have d2 : (A == 0) = false := by simpa using h2
   go_enter Tryz.func117, Tryz.ntmps117
   go_wp2
   go_ret
   exact ⟨by simp, rfl⟩
/-- what dyad.cut gives -/
def cutR (M : Nat) (Q A : Int) (X : Bool) : Value := .tuple #[.int .u64 M, .int .i64 Q, .int .i64 A, .bool X]
theorem and_one (M : Nat) (h : M < 18446744073709551616) : bits BinOp.and IntKind.u64 (M : Int) 1 = ((M % 2 : Nat) : Int) := by
 have h1 := u64_and_nat M 1 h (by omega)
 rw [show ((1 : Nat) : Int) = 1 from rfl] at h1
 rw [h1, Nat.and_one_is_mod]
theorem ldexp_more (M : Nat) (Q : Int) (w : World) (hM : M ≤ 9007199254740991) (hq0 : -1074 ≤ Q) (hq1 : Q ≤ 971) (hq : -1074 < Q → 4503599627370496 ≤ M) :
  Calls Tryz.prog 137 #[.float .f64 (floatOfInt .f64 ((M : Int) + 1)), .int .i64 Q] w fun r w' => r = .returned (.float .f64 ((Q + 1074).toNat * 4503599627370496 + (M + 1))) ∧ w = w' := by
 have h := mldexp_fin (M + 1) Q w (by omega) hq0 hq1 (fun h => by have := hq h; omega)
 rw [show ((M + 1 : Nat) : Int) = (M : Int) + 1 by omega] at h
 exact h

set_option maxHeartbeats 8000000 in
theorem dround_near_small (neg : Bool) (x : Nat) (e : Int) (M : Nat) (Q A : Int) (X U : Bool) (w : World) (h : okD neg x e) (hx : x ≠ 0) (ht : topZ x e < 1024) (hU : U = onN A (decide (M % 2 = 1))) (hM : M ≤ 9007199254740991) (hq0 : -1074 ≤ Q) (hq1 : Q ≤ 971) (hq : -1074 < Q → 4503599627370496 ≤ M)
  (hcut : ∀ W, Tab W → Calls Tryz.prog 136 #[.agg #[.bool neg, .string (bstr x), .int .i64 e], .int .i64 (topZ x e)] W fun r w' => r = .returned (cutR M Q A X) ∧ Below W.heap.size W w') (hT : Tab w) :
  Calls Tryz.prog 116 #[.agg #[.bool neg, .string (bstr x), .int .i64 e], .func (.func 117) #[] #[]] w fun r w' => r = .returned (.tuple #[.float .f64 (Ieee.double.word neg ((Q + 1074).toNat * 4503599627370496 + (M + (!X && U).toNat))), .int .i64 0]) ∧ Below w.heap.size w w' := by
 have hc := fun V => check_any neg (bstr x) e V (bstr_len h)
 rw [mayB_ok h, okE_t] at hc
 have htop := fun V => dtop_ok neg x e V h
 rw [decide_eq_true hx] at htop
 have cc := fun (w1 : World) hb => box_cells w neg (bstr x) e (w' := w1) hb
 generalize topZ x e = T at *
 have hdT : decide (T < 1024) = true := decide_eq_true ht
 obtain ⟨z, hz⟩ : ∃ z, z = (Q + 1074).toNat * 4503599627370496 + (M + (!X && U).toNat) := ⟨_, rfl⟩
 rw [← hz]
 have hzb : z < 9223372036854775808 := by
  have : (!X && U).toNat ≤ 1 := by cases (!X && U) <;> simp
  omega
 have hcp := fun V => copysign_neg z V hzb
 have hld1 := fun V => mldexp_fin M Q V (by omega) hq0 hq1 hq
 have hld2 := fun V => ldexp_more M Q V hM hq0 hq1 hq
 have hm1 : (M : Int) ≤ 9007199254740991 := by omega
 obtain ⟨t, htt⟩ : ∃ t, t = M % 2 := ⟨_, rfl⟩
 have hbit := and_one M (by omega)
 rw [← htt] at hbit
 unfold cutR at hcut
 have hon := fun V => near1_any A ((t : Int) == 1) V
 rw [show ((t : Int) == 1) = decide (M % 2 = 1) by rw [Bool.eq_iff_iff, beq_iff_eq, decide_eq_true_eq]; omega, ← hU] at hon
 rw [show decide (M % 2 = 1) = ((t : Int) == 1) by rw [Bool.eq_iff_iff, beq_iff_eq, decide_eq_true_eq]; omega] at hon
 clear h hx ht hzb htt hM hq
 clear hU
 cases X <;> cases U <;> cases neg
 ·have hld := hld1
  rw [show (Q + 1074).toNat * 4503599627370496 + M = z by rw [hz]; rfl] at hld
  clear hld1 hld2 hz
  go_enter Tryz.func116, Tryz.ntmps116
  go_wp2_with fail
  (with_reducible refine (hc _).mono ?_)
  rintro r w1 ⟨rfl, hb1⟩
  have hB1 : Below w.heap.size w w1 := ((Below.refl _ _).alloc (Nat.le_refl _) _).trans (hb1.mono (by simp))
  have hs1 := hb1.size
  obtain ⟨c0, c1, c2⟩ := cc _ hb1
  go_wp2_with fail
  (with_reducible refine (htop _).mono ?_)
  rintro r w2 ⟨rfl, hb2⟩
  have hb2' := hb1.trans (hb2.mono hs1)
  have hs2 := hb2'.size
  have hB2 : Below w.heap.size w w2 := hB1.trans (hb2.mono hB1.size)
  clear c0 c1 c2 hb1 hb2 hB1 hs1
  obtain ⟨c0, c1, c2⟩ := cc _ hb2'
  go_wp2_with fail
  (with_reducible refine (hcut _ (hT.below hB2)).mono ?_)
  rintro r w3 ⟨rfl, hb3⟩
  have hb3' := hb2'.trans (hb3.mono hs2)
  have hB3 : Below w.heap.size w w3 := hB2.trans (hb3.mono hB2.size)
  clear c0 c1 c2 hb2' hb3 hB2 hs2
  obtain ⟨c0, c1, c2⟩ := cc _ hb3'
  clear hb3' cc hc htop hcut
  go_wp2_with (first
   | (go_at_call 117; go_must (refine (hon _).mono ?_); rintro r w4 ⟨rfl, rfl⟩)
   | (go_at_call 137; go_must (refine (hld _).mono ?_); rintro r w5 ⟨rfl, rfl⟩)
   | (go_at_call 138; go_must (refine (hcp _).mono ?_); rintro r w6 ⟨rfl, rfl⟩))
  go_returns
  exact ⟨rfl, hB3⟩
 ·have hld := hld1
  rw [show (Q + 1074).toNat * 4503599627370496 + M = z by rw [hz]; rfl] at hld
  clear hld1 hld2 hz
  go_enter Tryz.func116, Tryz.ntmps116
  go_wp2_with fail
  (with_reducible refine (hc _).mono ?_)
  rintro r w1 ⟨rfl, hb1⟩
  have hB1 : Below w.heap.size w w1 := ((Below.refl _ _).alloc (Nat.le_refl _) _).trans (hb1.mono (by simp))
  have hs1 := hb1.size
  obtain ⟨c0, c1, c2⟩ := cc _ hb1
  go_wp2_with fail
  (with_reducible refine (htop _).mono ?_)
  rintro r w2 ⟨rfl, hb2⟩
  have hb2' := hb1.trans (hb2.mono hs1)
  have hs2 := hb2'.size
  have hB2 : Below w.heap.size w w2 := hB1.trans (hb2.mono hB1.size)
  clear c0 c1 c2 hb1 hb2 hB1 hs1
  obtain ⟨c0, c1, c2⟩ := cc _ hb2'
  go_wp2_with fail
  (with_reducible refine (hcut _ (hT.below hB2)).mono ?_)
  rintro r w3 ⟨rfl, hb3⟩
  have hb3' := hb2'.trans (hb3.mono hs2)
  have hB3 : Below w.heap.size w w3 := hB2.trans (hb3.mono hB2.size)
  clear c0 c1 c2 hb2' hb3 hB2 hs2
  obtain ⟨c0, c1, c2⟩ := cc _ hb3'
  clear hb3' cc hc htop hcut
  go_wp2_with (first
   | (go_at_call 117; go_must (refine (hon _).mono ?_); rintro r w4 ⟨rfl, rfl⟩)
   | (go_at_call 137; go_must (refine (hld _).mono ?_); rintro r w5 ⟨rfl, rfl⟩)
   | (go_at_call 138; go_must (refine (hcp _).mono ?_); rintro r w6 ⟨rfl, rfl⟩))
  go_returns
  exact ⟨rfl, hB3⟩
 ·have hld := hld2
  rw [show (Q + 1074).toNat * 4503599627370496 + (M + 1) = z by rw [hz]; rfl] at hld
  clear hld1 hld2 hz
  go_enter Tryz.func116, Tryz.ntmps116
  go_wp2_with fail
  (with_reducible refine (hc _).mono ?_)
  rintro r w1 ⟨rfl, hb1⟩
  have hB1 : Below w.heap.size w w1 := ((Below.refl _ _).alloc (Nat.le_refl _) _).trans (hb1.mono (by simp))
  have hs1 := hb1.size
  obtain ⟨c0, c1, c2⟩ := cc _ hb1
  go_wp2_with fail
  (with_reducible refine (htop _).mono ?_)
  rintro r w2 ⟨rfl, hb2⟩
  have hb2' := hb1.trans (hb2.mono hs1)
  have hs2 := hb2'.size
  have hB2 : Below w.heap.size w w2 := hB1.trans (hb2.mono hB1.size)
  clear c0 c1 c2 hb1 hb2 hB1 hs1
  obtain ⟨c0, c1, c2⟩ := cc _ hb2'
  go_wp2_with fail
  (with_reducible refine (hcut _ (hT.below hB2)).mono ?_)
  rintro r w3 ⟨rfl, hb3⟩
  have hb3' := hb2'.trans (hb3.mono hs2)
  have hB3 : Below w.heap.size w w3 := hB2.trans (hb3.mono hB2.size)
  clear c0 c1 c2 hb2' hb3 hB2 hs2
  obtain ⟨c0, c1, c2⟩ := cc _ hb3'
  clear hb3' cc hc htop hcut
  go_wp2_with (first
   | (go_at_call 117; go_must (refine (hon _).mono ?_); rintro r w4 ⟨rfl, rfl⟩)
   | (go_at_call 137; go_must (refine (hld _).mono ?_); rintro r w5 ⟨rfl, rfl⟩)
   | (go_at_call 138; go_must (refine (hcp _).mono ?_); rintro r w6 ⟨rfl, rfl⟩))
  go_returns
  exact ⟨rfl, hB3⟩
 ·have hld := hld2
  rw [show (Q + 1074).toNat * 4503599627370496 + (M + 1) = z by rw [hz]; rfl] at hld
  clear hld1 hld2 hz
  go_enter Tryz.func116, Tryz.ntmps116
  go_wp2_with fail
  (with_reducible refine (hc _).mono ?_)
  rintro r w1 ⟨rfl, hb1⟩
  have hB1 : Below w.heap.size w w1 := ((Below.refl _ _).alloc (Nat.le_refl _) _).trans (hb1.mono (by simp))
  have hs1 := hb1.size
  obtain ⟨c0, c1, c2⟩ := cc _ hb1
  go_wp2_with fail
  (with_reducible refine (htop _).mono ?_)
  rintro r w2 ⟨rfl, hb2⟩
  have hb2' := hb1.trans (hb2.mono hs1)
  have hs2 := hb2'.size
  have hB2 : Below w.heap.size w w2 := hB1.trans (hb2.mono hB1.size)
  clear c0 c1 c2 hb1 hb2 hB1 hs1
  obtain ⟨c0, c1, c2⟩ := cc _ hb2'
  go_wp2_with fail
  (with_reducible refine (hcut _ (hT.below hB2)).mono ?_)
  rintro r w3 ⟨rfl, hb3⟩
  have hb3' := hb2'.trans (hb3.mono hs2)
  have hB3 : Below w.heap.size w w3 := hB2.trans (hb3.mono hB2.size)
  clear c0 c1 c2 hb2' hb3 hB2 hs2
  obtain ⟨c0, c1, c2⟩ := cc _ hb3'
  clear hb3' cc hc htop hcut
  go_wp2_with (first
   | (go_at_call 117; go_must (refine (hon _).mono ?_); rintro r w4 ⟨rfl, rfl⟩)
   | (go_at_call 137; go_must (refine (hld _).mono ?_); rintro r w5 ⟨rfl, rfl⟩)
   | (go_at_call 138; go_must (refine (hcp _).mono ?_); rintro r w6 ⟨rfl, rfl⟩))
  go_returns
  exact ⟨rfl, hB3⟩
 ·have hld := hld1
  rw [show (Q + 1074).toNat * 4503599627370496 + M = z by rw [hz]; rfl] at hld
  clear hld1 hld2 hz
  go_enter Tryz.func116, Tryz.ntmps116
  go_wp2_with fail
  (with_reducible refine (hc _).mono ?_)
  rintro r w1 ⟨rfl, hb1⟩
  have hB1 : Below w.heap.size w w1 := ((Below.refl _ _).alloc (Nat.le_refl _) _).trans (hb1.mono (by simp))
  have hs1 := hb1.size
  obtain ⟨c0, c1, c2⟩ := cc _ hb1
  go_wp2_with fail
  (with_reducible refine (htop _).mono ?_)
  rintro r w2 ⟨rfl, hb2⟩
  have hb2' := hb1.trans (hb2.mono hs1)
  have hs2 := hb2'.size
  have hB2 : Below w.heap.size w w2 := hB1.trans (hb2.mono hB1.size)
  clear c0 c1 c2 hb1 hb2 hB1 hs1
  obtain ⟨c0, c1, c2⟩ := cc _ hb2'
  go_wp2_with fail
  (with_reducible refine (hcut _ (hT.below hB2)).mono ?_)
  rintro r w3 ⟨rfl, hb3⟩
  have hb3' := hb2'.trans (hb3.mono hs2)
  have hB3 : Below w.heap.size w w3 := hB2.trans (hb3.mono hB2.size)
  clear c0 c1 c2 hb2' hb3 hB2 hs2
  obtain ⟨c0, c1, c2⟩ := cc _ hb3'
  clear hb3' cc hc htop hcut
  go_wp2_with (first
   | (go_at_call 137; go_must (refine (hld _).mono ?_); rintro r w5 ⟨rfl, rfl⟩)
   | (go_at_call 138; go_must (refine (hcp _).mono ?_); rintro r w6 ⟨rfl, rfl⟩))
  go_returns
  exact ⟨rfl, hB3⟩
 ·have hld := hld1
  rw [show (Q + 1074).toNat * 4503599627370496 + M = z by rw [hz]; rfl] at hld
  clear hld1 hld2 hz
  go_enter Tryz.func116, Tryz.ntmps116
  go_wp2_with fail
  (with_reducible refine (hc _).mono ?_)
  rintro r w1 ⟨rfl, hb1⟩
  have hB1 : Below w.heap.size w w1 := ((Below.refl _ _).alloc (Nat.le_refl _) _).trans (hb1.mono (by simp))
  have hs1 := hb1.size
  obtain ⟨c0, c1, c2⟩ := cc _ hb1
  go_wp2_with fail
  (with_reducible refine (htop _).mono ?_)
  rintro r w2 ⟨rfl, hb2⟩
  have hb2' := hb1.trans (hb2.mono hs1)
  have hs2 := hb2'.size
  have hB2 : Below w.heap.size w w2 := hB1.trans (hb2.mono hB1.size)
  clear c0 c1 c2 hb1 hb2 hB1 hs1
  obtain ⟨c0, c1, c2⟩ := cc _ hb2'
  go_wp2_with fail
  (with_reducible refine (hcut _ (hT.below hB2)).mono ?_)
  rintro r w3 ⟨rfl, hb3⟩
  have hb3' := hb2'.trans (hb3.mono hs2)
  have hB3 : Below w.heap.size w w3 := hB2.trans (hb3.mono hB2.size)
  clear c0 c1 c2 hb2' hb3 hB2 hs2
  obtain ⟨c0, c1, c2⟩ := cc _ hb3'
  clear hb3' cc hc htop hcut
  go_wp2_with (first
   | (go_at_call 137; go_must (refine (hld _).mono ?_); rintro r w5 ⟨rfl, rfl⟩)
   | (go_at_call 138; go_must (refine (hcp _).mono ?_); rintro r w6 ⟨rfl, rfl⟩))
  go_returns
  exact ⟨rfl, hB3⟩
 ·have hld := hld1
  rw [show (Q + 1074).toNat * 4503599627370496 + M = z by rw [hz]; rfl] at hld
  clear hld1 hld2 hz
  go_enter Tryz.func116, Tryz.ntmps116
  go_wp2_with fail
  (with_reducible refine (hc _).mono ?_)
  rintro r w1 ⟨rfl, hb1⟩
  have hB1 : Below w.heap.size w w1 := ((Below.refl _ _).alloc (Nat.le_refl _) _).trans (hb1.mono (by simp))
  have hs1 := hb1.size
  obtain ⟨c0, c1, c2⟩ := cc _ hb1
  go_wp2_with fail
  (with_reducible refine (htop _).mono ?_)
  rintro r w2 ⟨rfl, hb2⟩
  have hb2' := hb1.trans (hb2.mono hs1)
  have hs2 := hb2'.size
  have hB2 : Below w.heap.size w w2 := hB1.trans (hb2.mono hB1.size)
  clear c0 c1 c2 hb1 hb2 hB1 hs1
  obtain ⟨c0, c1, c2⟩ := cc _ hb2'
  go_wp2_with fail
  (with_reducible refine (hcut _ (hT.below hB2)).mono ?_)
  rintro r w3 ⟨rfl, hb3⟩
  have hb3' := hb2'.trans (hb3.mono hs2)
  have hB3 : Below w.heap.size w w3 := hB2.trans (hb3.mono hB2.size)
  clear c0 c1 c2 hb2' hb3 hB2 hs2
  obtain ⟨c0, c1, c2⟩ := cc _ hb3'
  clear hb3' cc hc htop hcut
  go_wp2_with (first
   | (go_at_call 137; go_must (refine (hld _).mono ?_); rintro r w5 ⟨rfl, rfl⟩)
   | (go_at_call 138; go_must (refine (hcp _).mono ?_); rintro r w6 ⟨rfl, rfl⟩))
  go_returns
  exact ⟨rfl, hB3⟩
 ·have hld := hld1
  rw [show (Q + 1074).toNat * 4503599627370496 + M = z by rw [hz]; rfl] at hld
  clear hld1 hld2 hz
  go_enter Tryz.func116, Tryz.ntmps116
  go_wp2_with fail
  (with_reducible refine (hc _).mono ?_)
  rintro r w1 ⟨rfl, hb1⟩
  have hB1 : Below w.heap.size w w1 := ((Below.refl _ _).alloc (Nat.le_refl _) _).trans (hb1.mono (by simp))
  have hs1 := hb1.size
  obtain ⟨c0, c1, c2⟩ := cc _ hb1
  go_wp2_with fail
  (with_reducible refine (htop _).mono ?_)
  rintro r w2 ⟨rfl, hb2⟩
  have hb2' := hb1.trans (hb2.mono hs1)
  have hs2 := hb2'.size
  have hB2 : Below w.heap.size w w2 := hB1.trans (hb2.mono hB1.size)
  clear c0 c1 c2 hb1 hb2 hB1 hs1
  obtain ⟨c0, c1, c2⟩ := cc _ hb2'
  go_wp2_with fail
  (with_reducible refine (hcut _ (hT.below hB2)).mono ?_)
  rintro r w3 ⟨rfl, hb3⟩
  have hb3' := hb2'.trans (hb3.mono hs2)
  have hB3 : Below w.heap.size w w3 := hB2.trans (hb3.mono hB2.size)
  clear c0 c1 c2 hb2' hb3 hB2 hs2
  obtain ⟨c0, c1, c2⟩ := cc _ hb3'
  clear hb3' cc hc htop hcut
  go_wp2_with (first
   | (go_at_call 137; go_must (refine (hld _).mono ?_); rintro r w5 ⟨rfl, rfl⟩)
   | (go_at_call 138; go_must (refine (hcp _).mono ?_); rintro r w6 ⟨rfl, rfl⟩))
  go_returns
  exact ⟨rfl, hB3⟩

set_option maxHeartbeats 8000000 in
theorem dround_near_big (neg : Bool) (x : Nat) (e : Int) (U : Bool) (w : World) (h : okD neg x e) (hx : x ≠ 0) (ht : 1024 ≤ topZ x e) (hU : U = true) :
  Calls Tryz.prog 116 #[.agg #[.bool neg, .string (bstr x), .int .i64 e], .func (.func 117) #[] #[]] w fun r w' => r = .returned (.tuple #[.float .f64 (Ieee.double.word neg (9218868437227405311 + U.toNat)), .int .i64 0]) ∧ Below w.heap.size w w' := by
 have hc := fun V => check_any neg (bstr x) e V (bstr_len h)
 rw [mayB_ok h, okE_t] at hc
 have htop := fun V => dtop_ok neg x e V h
 rw [decide_eq_true hx] at htop
 have cc := fun (w1 : World) hb => box_cells w neg (bstr x) e (w' := w1) hb
 generalize topZ x e = T at *
 have hdT : decide (T < 1024) = false := decide_eq_false (by omega)
 obtain ⟨z, hz⟩ : ∃ z, z = 9218868437227405311 + U.toNat := ⟨_, rfl⟩
 rw [← hz]
 have hzb : z < 9223372036854775808 := by cases U <;> simp at hz <;> omega
 have hcp := fun V => copysign_neg z V hzb
 have hld1 := fun V => mldexp_fin 9007199254740991 971 V (by omega) (by omega) (by omega) (by omega)
 have hld2 := fun V => mldexp_fin 9007199254740992 971 V (by omega) (by omega) (by omega) (by omega)
 rw [show ((9007199254740991 : Nat) : Int) = 9007199254740991 from rfl] at hld1
 rw [show ((9007199254740992 : Nat) : Int) = 9007199254740992 from rfl] at hld2
 have hbit : bits BinOp.and IntKind.u64 9007199254740991 1 = 1 := by kernel_rfl
 have hon := fun V => near1_any 1 true V
 rw [show onN 1 true = true from rfl] at hon
 clear h hx ht hzb
 subst hU
 cases neg
 ·have Hz : Hid (z = 9218868437227405312) := Lib.hid (by rw [hz]; rfl)
  have hld := hld2
  rw [show ((971 : Int) + 1074).toNat * 4503599627370496 + 9007199254740992 = z by rw [Hz.out]; rfl] at hld
  clear hld1 hld2 hz
  go_enter Tryz.func116, Tryz.ntmps116
  go_wp2_with fail
  (with_reducible refine (hc _).mono ?_)
  rintro r w1 ⟨rfl, hb1⟩
  have hB1 : Below w.heap.size w w1 := ((Below.refl _ _).alloc (Nat.le_refl _) _).trans (hb1.mono (by simp))
  have hs1 := hb1.size
  obtain ⟨c0, c1, c2⟩ := cc _ hb1
  go_wp2_with fail
  (with_reducible refine (htop _).mono ?_)
  rintro r w2 ⟨rfl, hb2⟩
  have hb2' := hb1.trans (hb2.mono hs1)
  have hs2 := hb2'.size
  have hB2 : Below w.heap.size w w2 := hB1.trans (hb2.mono hB1.size)
  clear c0 c1 c2 hb1 hb2 hB1 hs1
  obtain ⟨c0, c1, c2⟩ := cc _ hb2'
  clear hb2' cc hc htop hs2
  go_wp2_with (first
   | (go_at_call 117; go_must (refine (hon _).mono ?_); rintro r w4 ⟨rfl, rfl⟩)
   | (go_at_call 137; go_must (refine (hld _).mono ?_); rintro r w5 ⟨rfl, rfl⟩)
   | (go_at_call 138; go_must (refine (hcp _).mono ?_); rintro r w6 ⟨rfl, rfl⟩))
  go_returns
  exact ⟨rfl, hB2⟩
 ·have Hz : Hid (z = 9218868437227405312) := Lib.hid (by rw [hz]; rfl)
  have hld := hld2
  rw [show ((971 : Int) + 1074).toNat * 4503599627370496 + 9007199254740992 = z by rw [Hz.out]; rfl] at hld
  clear hld1 hld2 hz
  go_enter Tryz.func116, Tryz.ntmps116
  go_wp2_with fail
  (with_reducible refine (hc _).mono ?_)
  rintro r w1 ⟨rfl, hb1⟩
  have hB1 : Below w.heap.size w w1 := ((Below.refl _ _).alloc (Nat.le_refl _) _).trans (hb1.mono (by simp))
  have hs1 := hb1.size
  obtain ⟨c0, c1, c2⟩ := cc _ hb1
  go_wp2_with fail
  (with_reducible refine (htop _).mono ?_)
  rintro r w2 ⟨rfl, hb2⟩
  have hb2' := hb1.trans (hb2.mono hs1)
  have hs2 := hb2'.size
  have hB2 : Below w.heap.size w w2 := hB1.trans (hb2.mono hB1.size)
  clear c0 c1 c2 hb1 hb2 hB1 hs1
  obtain ⟨c0, c1, c2⟩ := cc _ hb2'
  clear hb2' cc hc htop hs2
  go_wp2_with (first
   | (go_at_call 117; go_must (refine (hon _).mono ?_); rintro r w4 ⟨rfl, rfl⟩)
   | (go_at_call 137; go_must (refine (hld _).mono ?_); rintro r w5 ⟨rfl, rfl⟩)
   | (go_at_call 138; go_must (refine (hcp _).mono ?_); rintro r w6 ⟨rfl, rfl⟩))
  go_returns
  exact ⟨rfl, hB2⟩

end Go.Proofs.YtfbkopepkklkjaaGreatDoor

/- The walks over dyad.Near, Below, Above. -/
namespace Go.Proofs.YtfbkopepkklkjaaGreatDoor
open Go Go.RowKit Go.PlainAid Fil

/-- the nearest float's bits, those of the greatest one not above, of the least one not below -/
def nearF (neg : Bool) (x : Nat) (e : Int) : Nat := if x = 0 then 0 else Ieee.double.word neg (rgN x e)
theorem bl_log {x : Nat} (h : x ≠ 0) : bl x = x.log2 + 1 := if_neg h
theorem topZ_tpI {x : Nat} (h : x ≠ 0) (e : Int) : topZ x e = tpI x e := by
 rw [topZ_pos h, bl_log h]; unfold tpI; omega
theorem onN_upB {x k : Nat} (hk : 0 < k) : onN (cutA x k) (decide (x / 2 ^ k % 2 = 1)) = upB x k := by
 unfold onN cutA upB cmpI
 have hp : 2 ^ k = 2 * 2 ^ (k - 1) := by
  have := Nat.pow_succ (n := 2) (m := k - 1)
  rw [show (k - 1).succ = k by omega] at this
  omega
 rw [hp]
 generalize 2 ^ (k - 1) = h
 generalize x % (2 * h) = r
 generalize decide (x / (2 * h) % 2 = 1) = o
 rcases Nat.lt_trichotomy r h with h1 | h1 | h1
 ·rw [if_pos (by omega), decide_eq_false (show ¬ 2 * h < 2 * r by omega), decide_eq_false (show ¬ 2 * h = 2 * r by omega)]
  rfl
 ·subst h1
  rw [if_neg (by omega), if_neg (by omega), decide_eq_false (show ¬ 2 * r < 2 * r by omega), decide_eq_true (show 2 * r = 2 * r from rfl)]
  rfl
 ·rw [if_neg (by omega), if_pos (by omega), decide_eq_true (show 2 * h < 2 * r by omega)]
  rfl
/-- how what is cut off stands -/
def cutAx (x : Nat) (e : Int) : Int := if rdX x e = true then 0 else cutA x (rdQ x e - e).toNat
theorem rdX_yes {x : Nat} {e : Int} (h : rdQ x e ≤ e) : rdX x e = true := decide_eq_true h
theorem rdX_no {x : Nat} {e : Int} (h : ¬ rdQ x e ≤ e) : rdX x e = false := decide_eq_false h
theorem dcut_any (neg : Bool) (x : Nat) (e : Int) (w : World) (h : okD neg x e) (hx : x ≠ 0) (ht : topZ x e < 1024) (hT : Tab w) :
  Calls Tryz.prog 136 #[.agg #[.bool neg, .string (bstr x), .int .i64 e], .int .i64 (topZ x e)] w fun r w' => r = .returned (cutR (rdM x e) (rdQ x e) (cutAx x e) (rdX x e)) ∧ Below w.heap.size w w' := by
 have he1 := h.e1
 have he2 := h.e2
 have hm := rdM_lt hx e
 have htp := topZ_tpI hx e
 have hq : rdQ x e = max (tpI x e - 52) (-1074) := rfl
 have htb : -1200000 ≤ topZ x e := by rw [topZ_pos hx]; omega
 by_cases hc : rdQ x e ≤ e
 ·have hM : rdM x e = x * 2 ^ (e - rdQ x e).toNat := by unfold rdM; rw [if_pos hc]
  have hX := rdX_yes hc
  have := dcut_exact neg x e (topZ x e) (rdQ x e) (e - rdQ x e).toNat w h htb (by omega) (by rw [htp, hq]) (by omega) (by omega)
  refine this.mono fun r w' ⟨hr, hb⟩ => ⟨?_, hb⟩
  rw [hr]; unfold cutR cutAx
  rw [if_pos hX, hX, hM]
 ·have hM : rdM x e = x / 2 ^ (rdQ x e - e).toNat := by unfold rdM; rw [if_neg hc]
  have hX := rdX_no hc
  obtain ⟨k, hk⟩ : ∃ k, k = (rdQ x e - e).toNat := ⟨_, rfl⟩
  have hA : cutAx x e = cutA x k := by unfold cutAx; rw [hX, if_neg (by decide), hk]
  rw [← hk] at hM
  by_cases hb : bl x < k
  ·have := dcut_far neg x e (topZ x e) (rdQ x e) k w h htb (by omega) (by rw [htp, hq]) (by omega) hb
   refine this.mono fun r w' ⟨hr, hb'⟩ => ⟨?_, hb'⟩
   rw [hr]; unfold cutR
   rw [hA, hX, hM, cutA_far hb, Nat.div_eq_of_lt (Nat.lt_of_lt_of_le (lt_bl x) (pmono (by omega)))]
   rfl
  ·have := dcut_part neg x e (topZ x e) (rdQ x e) k (k - 1) w h htb (by omega) (by rw [htp, hq]) (by omega) (by omega) (by omega) (by omega) hT
   refine this.mono fun r w' ⟨hr, hb'⟩ => ⟨?_, hb'⟩
   rw [hr]; unfold cutR
   rw [hA, hX, hM]

set_option maxHeartbeats 1000000 in
theorem dround_zero (fv : Value) (w : World) : Calls Tryz.prog 116 #[.agg #[.bool false, .string (bstr 0), .int .i64 0], fv] w fun r w' => r = .returned (.tuple #[.float .f64 0, .int .i64 0]) ∧ Below w.heap.size w w' := by
 have hc := fun V => check_any false (bstr 0) 0 V (bstr_len okD.zero)
 rw [mayB_ok okD.zero, okE_t] at hc
 have htop := fun V => dtop_ok false 0 0 V okD.zero
 rw [show decide ((0 : Nat) ≠ 0) = false from rfl] at htop
 have cc := fun (w1 : World) hb => box_cells w false (bstr 0) 0 (w' := w1) hb
 generalize topZ 0 0 = T at *
 go_enter Tryz.func116, Tryz.ntmps116
 go_wp2_with fail
 (with_reducible refine (hc _).mono ?_)
 rintro r w1 ⟨rfl, hb1⟩
 have hB1 : Below w.heap.size w w1 := ((Below.refl _ _).alloc (Nat.le_refl _) _).trans (hb1.mono (by simp))
 obtain ⟨c0, c1, c2⟩ := cc _ hb1
 go_wp2_with fail
 (with_reducible refine (htop _).mono ?_)
 rintro r w2 ⟨rfl, hb2⟩
 have hB2 : Below w.heap.size w w2 := hB1.trans (hb2.mono hB1.size)
 clear c0 c1 c2 cc hb1 hb2
 go_wp2
 go_returns
 exact ⟨rfl, hB2⟩
theorem rgX_small {x : Nat} {e : Int} (h : tpI x e < 1024) : rgX x e = rdX x e := by unfold rgX; rw [decide_eq_true h]; rfl
theorem rgX_big {x : Nat} {e : Int} (h : 1024 ≤ tpI x e) : rgX x e = false := by unfold rgX; rw [decide_eq_false (by omega)]; rfl
theorem rgL_small {x : Nat} {e : Int} (h : tpI x e < 1024) : rgL x e = rdR x e := by unfold rgL; rw [if_neg (by omega)]
theorem rgL_big {x : Nat} {e : Int} (h : 1024 ≤ tpI x e) : rgL x e = 9218868437227405311 := by unfold rgL; rw [if_pos h]

theorem round_near (neg : Bool) (x : Nat) (e : Int) (w : World) (h : okD neg x e) (hT : Tab w) :
  Calls Tryz.prog 116 #[.agg #[.bool neg, .string (bstr x), .int .i64 e], .func (.func 117) #[] #[]] w fun r w' => r = .returned (.tuple #[.float .f64 (nearF neg x e), .int .i64 0]) ∧ Below w.heap.size w w' := by
 by_cases hx : x = 0
 ·subst hx
  obtain ⟨rfl, rfl⟩ := okD.nil h
  exact dround_zero _ w
 ·have htp := topZ_tpI hx e
  unfold nearF
  rw [if_neg hx]
  by_cases ht : topZ x e < 1024
  ·have := dround_near_small neg x e (rdM x e) (rdQ x e) (cutAx x e) (rdX x e) _ w h hx ht rfl (by have := rdM_lt hx e; omega) (rdQ_lo x e) (rdQ_hi (by omega)) (fun hq => rdM_ge hx hq) (fun W hW => dcut_any neg x e W h hx ht hW) hT
   refine this.mono fun r w' ⟨hr, hb⟩ => ⟨?_, hb⟩
   rw [hr]
   have hg : rgN x e = (rdQ x e + 1074).toNat * 4503599627370496 + (rdM x e + (!rdX x e && onN (cutAx x e) (decide (rdM x e % 2 = 1))).toNat) := by
    unfold rgN
    rw [if_neg (by omega), ← Nat.add_assoc]
    unfold rdR
    congr 2
    unfold rdUp cutAx rdM
    by_cases hc : rdQ x e ≤ e
    ·rw [rdX_yes hc]; rfl
    ·rw [rdX_no hc, if_neg hc, if_neg (by decide), onN_upB (by omega)]
   rw [hg]
  ·have := dround_near_big neg x e true w h hx (by omega) rfl
   refine this.mono fun r w' ⟨hr, hb⟩ => ⟨?_, hb⟩
   rw [hr]
   unfold rgN
   rw [if_pos (by omega)]
   rfl
set_option maxHeartbeats 1000000 in
theorem dnear_ok (neg : Bool) (x : Nat) (e : Int) (w : World) (h : okD neg x e) (hT : Tab w) :
  Calls Tryz.prog 75 #[.agg #[.bool neg, .string (bstr x), .int .i64 e]] w fun r w' => r = .returned (.tuple #[.float .f64 (nearF neg x e), .int .i64 0]) ∧ Below w.heap.size w w' := by
 have hr := round_near neg x e _ h (hT.alloc (.cells #[.bool neg, .string (bstr x), .int .i64 e] 24))
 generalize nearF neg x e = z at *
 clear h hT
 go_enter Tryz.func75, Tryz.ntmps75
 go_wp2_with fail
 (with_reducible refine hr.mono ?_)
 rintro r w1 ⟨rfl, hb1⟩
 have hB1 : Below w.heap.size w w1 := ((Below.refl _ _).alloc (Nat.le_refl _) _).trans (hb1.mono (by simp))
 clear hr hb1
 go_wp2
 go_returns
 exact ⟨rfl, hB1⟩
end Go.Proofs.YtfbkopepkklkjaaGreatDoor
