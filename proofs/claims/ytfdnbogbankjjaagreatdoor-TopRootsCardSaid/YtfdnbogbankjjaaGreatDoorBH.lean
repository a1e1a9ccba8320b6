/- Merged: BC BH -/
import Derived.Test.YtfdnbogbankjjaaGreatDoorBB

/- The ring's, the order's and Floor's laws: plain arithmetic. -/
/- A ring's laws over Dyads: plain arithmetic, no program in sight. -/
namespace Go.Proofs.YtfdnbogbankjjaaGreatDoor
open Go Go.RowKit Go.PlainAid Fil

theorem mkR_zero {z e : Int} (h : mkR z e = 0) : mkOk z e = true := by
 rw [mkR_eq] at h
 cases hk : mkOk z e
 ·rw [hk] at h; simp at h
 ·rfl
theorem mkR_ok {z e : Int} (h : mkOk z e = true) : mkR z e = 0 := by rw [mkR_eq, h]; rfl
theorem yNeg_ok {a : DY} (h : a.ok) : (yNeg a).ok := okD.neg h
theorem yNeg_z (a : DY) : (yNeg a).z = -a.z := sz_neg
theorem yNeg_v (a : DY) : (yNeg a).v = -a.v := by
 unfold DY.v
 rw [yNeg_z, W_neg]; rfl
theorem yAdd_ok (a b : DY) : (yAdd a b).1.ok := mkD_ok _ _
theorem yMul_ok (a b : DY) : (yMul a b).1.ok := mkD_ok _ _
theorem ySub_ok (a b : DY) : (ySub a b).1.ok := mkD_ok _ _
theorem lo_min {a b : DY} (ha : a.ok) (hb : b.ok) : -(lowM : Int) ≤ min a.e b.e := by
 have h1 := ha.lo; have h2 := hb.lo; omega
theorem lo_sum {a b : DY} (ha : a.ok) (hb : b.ok) : -(lowM : Int) ≤ a.e + b.e := by
 have h1 := okD.e1 ha; have h2 := okD.e1 hb; have := lowM_ge; omega
theorem yAdd_v {a b : DY} (ha : a.ok) (hb : b.ok) (h : (yAdd a b).2 = 0) : (yAdd a b).1.v = a.v + b.v := by
 unfold yAdd at *
 rw [mkD_v (mkR_zero h) (lo_min ha hb), W_add _ _ ha.lo hb.lo]; rfl
theorem ySub_v {a b : DY} (ha : a.ok) (hb : b.ok) (h : (ySub a b).2 = 0) : (ySub a b).1.v = a.v - b.v := by
 unfold ySub at *
 rw [yAdd_v ha (yNeg_ok hb) h, yNeg_v]; omega
theorem yMul_v {a b : DY} (ha : a.ok) (hb : b.ok) (h : (yMul a b).2 = 0) : (yMul a b).1.v * 2 ^ lowM = a.v * b.v := by
 unfold yMul at *
 rw [mkD_v (mkR_zero h) (lo_sum ha hb), W_mul _ _ ha.lo hb.lo (lo_sum ha hb)]; rfl
/-- the order -/
def yCmp (a b : DY) : Int := (a.v - b.v).sign
theorem pow_cancel {a b : Int} (h : a * 2 ^ lowM = b * 2 ^ lowM) : a = b := Int.eq_of_mul_eq_mul_right (by have := ppi lowM; omega) h
theorem yCmp_gt {a b : DY} : 0 < yCmp a b ↔ b.v < a.v := by
 unfold yCmp
 rcases Int.lt_trichotomy (a.v - b.v) 0 with h | h | h
 ·rw [Int.sign_eq_neg_one_of_neg h]; omega
 ·rw [h, Int.sign_zero]; omega
 ·rw [Int.sign_eq_one_of_pos h]; omega

end Go.Proofs.YtfdnbogbankjjaaGreatDoor

/- The order of Dyads: plain arithmetic, no program in sight. -/
namespace Go.Proofs.YtfdnbogbankjjaaGreatDoor
open Go Go.RowKit Go.PlainAid Fil

theorem sign_cases (a : Int) : (a < 0 ∧ a.sign = -1) ∨ (a = 0 ∧ a.sign = 0) ∨ (0 < a ∧ a.sign = 1) := by
 rcases Int.lt_trichotomy a 0 with h | h | h
 ·exact .inl ⟨h, Int.sign_eq_neg_one_of_neg h⟩
 ·exact .inr (.inl ⟨h, by rw [h]; rfl⟩)
 ·exact .inr (.inr ⟨h, Int.sign_eq_one_of_pos h⟩)
/-- the order of two numbers times a power of 2 -/
def cmpD (za ea zb eb : Int) : Int := (W za ea - W zb eb).sign
theorem sign_mul_pos {a p : Int} (hp : 0 < p) : (a * p).sign = a.sign := by rw [Int.sign_mul, Int.sign_eq_one_of_pos hp, Int.mul_one]
theorem W_at (z : Int) {e lo : Int} (h : lo ≤ e) (hl : -(lowM : Int) ≤ lo) : W z e = z * 2 ^ (e - lo).toNat * 2 ^ (lo + lowM).toNat := by
 unfold W
 rw [Int.mul_assoc, ← ipow_add]
 congr 2
 omega
theorem cmpD_at {za ea zb eb lo : Int} (ha : lo ≤ ea) (hb : lo ≤ eb) (hl : -(lowM : Int) ≤ lo) : cmpD za ea zb eb = (za * 2 ^ (ea - lo).toNat - zb * 2 ^ (eb - lo).toNat).sign := by
 unfold cmpD
 rw [W_at za ha hl, W_at zb hb hl, ← Int.sub_mul, sign_mul_pos (ppi _)]
theorem sign_diff {A B : Int} (h : A.sign ≠ B.sign ∨ A.sign = 0) : (A.sign - B.sign).sign = (A - B).sign := by
 rcases sign_cases A with ⟨h1, h2⟩ | ⟨h1, h2⟩ | ⟨h1, h2⟩ <;> rcases sign_cases B with ⟨k1, k2⟩ | ⟨k1, k2⟩ | ⟨k1, k2⟩ <;> rw [h2, k2] at h ⊢ <;>
  first
  | (exfalso; omega)
  | (rcases sign_cases (A - B) with ⟨g1, g2⟩ | ⟨g1, g2⟩ | ⟨g1, g2⟩ <;> first | (exfalso; omega) | (rw [g2]; decide))
theorem cmpD_sign {za ea zb eb : Int} (h : za.sign ≠ zb.sign ∨ za.sign = 0) : (za.sign - zb.sign).sign = cmpD za ea zb eb := by
 unfold cmpD
 rw [← W_sign za ea, ← W_sign zb eb] at *
 exact sign_diff h
theorem sign_lt {a b : Int} (h : a < b) : (a - b).sign = -1 := Int.sign_eq_neg_one_of_neg (by omega)
theorem sign_gt {a b : Int} (h : b < a) : (a - b).sign = 1 := Int.sign_eq_one_of_pos (by omega)
theorem mag_lt {A B : Int} {p q : Nat} (hA : A.natAbs < 2 ^ (p + 1)) (hB : 2 ^ q ≤ B.natAbs) (h : p < q) : A.natAbs < B.natAbs := by
 have := pmono (show p + 1 ≤ q by omega); omega
theorem W_abs (neg : Bool) (x : Nat) (e : Int) : (W (sz neg x) e).natAbs = x * 2 ^ (e + lowM).toNat := by
 unfold W; rw [abs_shl, sz_abs]
theorem W_mag (neg : Bool) {x : Nat} (hx : x ≠ 0) (e : Int) : 2 ^ (bl x - 1 + (e + lowM).toNat) ≤ (W (sz neg x) e).natAbs ∧ (W (sz neg x) e).natAbs < 2 ^ (bl x - 1 + (e + lowM).toNat + 1) := by
 rw [W_abs]
 have h1 := le_bl hx
 have h2 := lt_bl x
 have h3 : 0 < bl x := by unfold bl; rw [if_neg hx]; omega
 have hp := pp (e + lowM).toNat
 rw [show bl x - 1 + (e + lowM).toNat + 1 = bl x + (e + lowM).toNat by omega, Nat.pow_add, Nat.pow_add]
 exact ⟨Nat.mul_le_mul_right _ h1, Nat.mul_lt_mul_of_pos_right h2 hp⟩
theorem abs_cmp {A B : Int} (hs : A.sign = B.sign) (_h0 : A.sign ≠ 0) (h : A.natAbs < B.natAbs) : (A - B).sign = -A.sign := by
 rcases sign_cases A with ⟨h1, h2⟩ | ⟨h1, h2⟩ | ⟨h1, h2⟩ <;> rcases sign_cases B with ⟨k1, k2⟩ | ⟨k1, k2⟩ | ⟨k1, k2⟩ <;> rw [h2, k2] at hs <;> rw [h2] at _h0 ⊢ <;> try (exfalso; omega)
 ·exact (sign_gt (by omega)).trans (by decide)
 ·exact (sign_lt (by omega)).trans (by decide)
theorem abs_cmp' {A B : Int} (hs : A.sign = B.sign) (_h0 : A.sign ≠ 0) (h : B.natAbs < A.natAbs) : (A - B).sign = A.sign := by
 rcases sign_cases A with ⟨h1, h2⟩ | ⟨h1, h2⟩ | ⟨h1, h2⟩ <;> rcases sign_cases B with ⟨k1, k2⟩ | ⟨k1, k2⟩ | ⟨k1, k2⟩ <;> rw [h2, k2] at hs <;> rw [h2] at _h0 ⊢ <;> try (exfalso; omega)
 ·exact sign_lt (by omega)
 ·exact sign_gt (by omega)
theorem topZ_of {x : Nat} (hx : x ≠ 0) (e : Int) : topZ x e = (bl x : Int) - 1 + e := by unfold topZ; rw [if_neg hx]
/-- the tops tell -/
theorem cmpD_top {na nb : Bool} {xa xb : Nat} {ea eb : Int} (hxa : xa ≠ 0) (hxb : xb ≠ 0) (ha : -(lowM : Int) ≤ ea) (hb : -(lowM : Int) ≤ eb) (hs : (sz na xa).sign = (sz nb xb).sign) (h : topZ xa ea ≠ topZ xb eb) :
  cmpD (sz na xa) ea (sz nb xb) eb = (sz na xa).sign * (topZ xa ea - topZ xb eb).sign := by
 obtain ⟨a1, a2⟩ := W_mag na hxa ea
 obtain ⟨b1, b2⟩ := W_mag nb hxb eb
 have h3 : 0 < bl xa := by unfold bl; rw [if_neg hxa]; omega
 have h4 : 0 < bl xb := by unfold bl; rw [if_neg hxb]; omega
 have hs' : (W (sz na xa) ea).sign = (W (sz nb xb) eb).sign := by rw [W_sign, W_sign, hs]
 have h0 : (W (sz na xa) ea).sign ≠ 0 := by rw [W_sign, Ne, Int.sign_eq_zero_iff_zero]; exact fun e => hxa (by rw [← sz_abs na xa, e]; rfl)
 unfold cmpD
 rw [topZ_of hxa, topZ_of hxb] at *
 rcases Int.lt_or_gt_of_ne h with h | h
 ·rw [sign_lt h, abs_cmp hs' h0 (mag_lt a2 b1 (by omega)), W_sign]; omega
 ·rw [sign_gt h, abs_cmp' hs' h0 (mag_lt b2 a1 (by omega)), W_sign]; omega
theorem cmpZ_sz {n : Bool} {x y : Nat} : (sz n x - sz n y).sign = (if n then -1 else 1) * cmpZ x y := by
 rcases Nat.lt_trichotomy x y with h | h | h
 ·rw [cmpZ_lt h]
  cases n
  ·show ((x : Int) - (y : Int)).sign = 1 * -1
   exact sign_lt (by omega)
  ·show (-(x : Int) - -(y : Int)).sign = -1 * -1
   exact sign_gt (by omega)
 ·subst h
  rw [cmpZ_eq, Int.mul_zero, Int.sub_self]; rfl
 ·rw [cmpZ_gt h]
  cases n
  ·show ((x : Int) - (y : Int)).sign = 1 * 1
   exact sign_gt (by omega)
  ·show (-(x : Int) - -(y : Int)).sign = -1 * 1
   exact sign_lt (by omega)
theorem sz_sign {n : Bool} {x : Nat} (h : x ≠ 0) : (sz n x).sign = if n then -1 else 1 := by
 unfold sz
 cases n
 ·simp only [Bool.false_eq_true, if_false]; exact Int.sign_eq_one_of_pos (by omega)
 ·simp only [if_true]; exact Int.sign_eq_neg_one_of_neg (by omega)
/-- of one sign the magnitudes tell -/
theorem cmpD_mag {na nb : Bool} {xa xb : Nat} {ea eb lo : Int} (hxa : xa ≠ 0) (hxb : xb ≠ 0) (ha : lo ≤ ea) (hb : lo ≤ eb) (hl : -(lowM : Int) ≤ lo) (hs : (sz na xa).sign = (sz nb xb).sign) :
  cmpD (sz na xa) ea (sz nb xb) eb = (sz na xa).sign * cmpZ (xa * 2 ^ (ea - lo).toNat) (xb * 2 ^ (eb - lo).toNat) := by
 have hn : na = nb := by
  rw [sz_sign hxa, sz_sign hxb] at hs
  cases na <;> cases nb <;> first | rfl | (exfalso; revert hs; decide)
 subst hn
 rw [cmpD_at ha hb hl, sz_shl, sz_shl, cmpZ_sz, sz_sign hxa]
end Go.Proofs.YtfdnbogbankjjaaGreatDoor

/- Floor's law over Dyads: plain arithmetic, no program in sight. -/
namespace Go.Proofs.YtfdnbogbankjjaaGreatDoor
open Go Go.RowKit Go.PlainAid Fil

end Go.Proofs.YtfdnbogbankjjaaGreatDoor

/- The walks over dyad.sign, dyad.Cmp, the reference's Cmp. -/
namespace Go.Proofs.YtfdnbogbankjjaaGreatDoor
open Go Go.RowKit Go.PlainAid Fil

/-- the blocks of a call of two Dyads -/
theorem dy_pair (w : World) (na : Bool) (sa : ByteArray) (ea : Int) (nb : Bool) (sb : ByteArray) (eb : Int) {w' : World}
  (h : Below (w.heap.size + 1 + 1) ((w.alloc (.cells #[.bool na, .string sa, .int .i64 ea] 38)).alloc (.cells #[.bool nb, .string sb, .int .i64 eb] 38)) w') :
  DyAt w' w.heap.size na sa ea ∧ DyAt w' (w.heap.size + 1) nb sb eb ∧ Below w.heap.size w w' ∧ w.heap.size + 1 + 1 ≤ w'.heap.size := by
 have s1 : (w.alloc (.cells #[.bool na, .string sa, .int .i64 ea] 38)).heap.size = w.heap.size + 1 := by simp
 have s2 : ((w.alloc (.cells #[.bool na, .string sa, .int .i64 ea] 38)).alloc (.cells #[.bool nb, .string sb, .int .i64 eb] 38)).heap.size = w.heap.size + 1 + 1 := by simp
 have h3 := ((Below.refl (w.heap.size + 1) _).alloc (by rw [s1]; exact Nat.le_refl _) (.cells #[.bool nb, .string sb, .int .i64 eb] 38)).trans (h.mono (by omega))
 have hs := h.size
 rw [s2] at hs
 exact ⟨DyAt.new w _ na sa ea rfl h3, DyAt.new _ _ nb sb eb s1 h, ((Below.refl _ _).alloc (Nat.le_refl _) _).trans (h3.mono (by omega)), hs⟩
/-- of one sign and one highest bit the powers are not far apart -/
theorem near_tops {na nb : Bool} {xa xb : Nat} {ea eb : Int} (ha : okD na xa ea) (hb : okD nb xb eb) (hxa : xa ≠ 0) (hxb : xb ≠ 0) (h : topZ xa ea = topZ xb eb) : (ea - min ea eb).toNat ≤ 131072 ∧ (eb - min ea eb).toNat ≤ 131072 := by
 rw [topZ_of hxa, topZ_of hxb] at h
 have h1 := dn8_bl xa
 have h2 := dn8_bl xb
 have h3 := ha.dn
 have h4 := hb.dn
 have h5 : 0 < bl xa := by unfold bl; rw [if_neg hxa]; omega
 have h6 : 0 < bl xb := by unfold bl; rw [if_neg hxb]; omega
 omega
theorem sgn_or (z : Int) : -1 ≤ z.sign ∧ z.sign ≤ 1 := by
 rcases sign_cases z with ⟨_, h⟩ | ⟨_, h⟩ | ⟨_, h⟩ <;> rw [h] <;> omega
end Go.Proofs.YtfdnbogbankjjaaGreatDoor
