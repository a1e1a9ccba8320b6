/- The ring's, the order's and Floor's laws: plain arithmetic. -/
import Derived.Test.YtppebjnmollojaaGreatDoorBB

/- A ring's laws over Dyads: plain arithmetic, no program in sight. -/
namespace Go.Proofs.YtppebjnmollojaaGreatDoor
open Go Go.RowKit Go.PlainAid Fil

theorem mkR_zero {z e : Int} (h : mkR z e = 0) : mkOk z e = true := by
  rw [mkR_eq] at h
  cases hk : mkOk z e
  · rw [hk] at h; simp at h
  · rfl
theorem mkR_ok {z e : Int} (h : mkOk z e = true) : mkR z e = 0 := by rw [mkR_eq, h]; rfl
theorem mkR_or (z e : Int) : mkR z e = 0 ∨ mkR z e = 4 := by
  rw [mkR_eq]; cases mkOk z e
  · exact .inr rfl
  · exact .inl rfl
theorem yNeg_ok {a : DY} (h : a.ok) : (yNeg a).ok := okD.neg h
theorem yNeg_z (a : DY) : (yNeg a).z = -a.z := sz_neg
theorem yNeg_v (a : DY) : (yNeg a).v = -a.v := by
  unfold DY.v
  rw [yNeg_z, W_neg]; rfl
theorem yNeg_neg {a : DY} (h : a.ok) : yNeg (yNeg a) = a := DY.inj (yNeg_ok (yNeg_ok h)) h (by rw [yNeg_v, yNeg_v, Int.neg_neg])

theorem yAdd_ok (a b : DY) : (yAdd a b).1.ok := mkD_ok _ _
theorem yMul_ok (a b : DY) : (yMul a b).1.ok := mkD_ok _ _
theorem ySub_ok (a b : DY) : (ySub a b).1.ok := mkD_ok _ _
theorem yAdd_comm (a b : DY) : yAdd a b = yAdd b a := by
  unfold yAdd
  rw [addZ_comm, show min a.e b.e = min b.e a.e by omega]
theorem yMul_comm (a b : DY) : yMul a b = yMul b a := by
  unfold yMul
  rw [Int.mul_comm, Int.add_comm]
theorem lo_min {a b : DY} (ha : a.ok) (hb : b.ok) : -(lowM : Int) ≤ min a.e b.e := by
  have h1 := ha.lo; have h2 := hb.lo; omega
theorem lo_sum {a b : DY} (ha : a.ok) (hb : b.ok) : -(lowM : Int) ≤ a.e + b.e := by
  have h1 := okD.e1 ha; have h2 := okD.e1 hb; have := lowM_ge; omega
theorem yAdd_v {a b : DY} (ha : a.ok) (hb : b.ok) (h : (yAdd a b).2 = 0) : (yAdd a b).1.v = a.v + b.v := by
  unfold yAdd at *
  rw [mkD_v (mkR_zero h) (lo_min ha hb), W_add _ _ ha.lo hb.lo]; rfl
theorem ySub_v {a b : DY} (ha : a.ok) (hb : b.ok) (h : (ySub a b).2 = 0) : (ySub a b).1.v = a.v - b.v := by
  unfold ySub at *
  rw [yAdd_v ha (yNeg_ok hb) h, yNeg_v]; omega
theorem yMul_v {a b : DY} (ha : a.ok) (hb : b.ok) (h : (yMul a b).2 = 0) : (yMul a b).1.v * 2 ^ lowM = a.v * b.v := by
  unfold yMul at *
  rw [mkD_v (mkR_zero h) (lo_sum ha hb), W_mul _ _ ha.lo hb.lo (lo_sum ha hb)]; rfl
/-- what has the sum's value is the sum -/
theorem yAdd_is {a b c : DY} (ha : a.ok) (hb : b.ok) (hc : c.ok) (h : c.v = a.v + b.v) : yAdd a b = (c, 0) := by
  have h1 : c.v = W (addZ a.z a.e b.z b.e) (min a.e b.e) := by rw [W_add _ _ ha.lo hb.lo]; exact h
  obtain ⟨h2, h3⟩ := mkOk_of_v hc h1 (lo_min ha hb)
  unfold yAdd
  rw [h3, mkR_ok h2]
theorem ySub_is {a b c : DY} (ha : a.ok) (hb : b.ok) (hc : c.ok) (h : c.v = a.v - b.v) : ySub a b = (c, 0) :=
  yAdd_is ha (yNeg_ok hb) hc (by rw [yNeg_v, h]; omega)
theorem yMul_is {a b c : DY} (ha : a.ok) (hb : b.ok) (hc : c.ok) (h : c.v * 2 ^ lowM = a.v * b.v) : yMul a b = (c, 0) := by
  have h0 : W (a.z * b.z) (a.e + b.e) = c.v := by
    have h1 := W_mul a.z b.z ha.lo hb.lo (lo_sum ha hb)
    have h2 : W (a.z * b.z) (a.e + b.e) * 2 ^ lowM = c.v * 2 ^ lowM := by rw [h1, h]; rfl
    exact Int.eq_of_mul_eq_mul_right (by have := ppi lowM; omega) h2
  obtain ⟨h2, h3⟩ := mkOk_of_v hc h0.symm (lo_sum ha hb)
  unfold yMul
  rw [h3, mkR_ok h2]
theorem ySub_back {a b : DY} (ha : a.ok) (hb : b.ok) (h : (yAdd a b).2 = 0) : ySub (yAdd a b).1 b = (a, 0) :=
  ySub_is (yAdd_ok a b) hb ha (by rw [yAdd_v ha hb h]; omega)
theorem v_zero {a : DY} : a.v = 0 ↔ a.z = 0 := W_eq_zero
theorem z_zero {a : DY} : a.z = 0 ↔ a.x = 0 := by
  constructor
  · intro h; rw [← sz_abs a.n a.x]; unfold DY.z at h; rw [h]; rfl
  · intro h; unfold DY.z; rw [h]; cases a.n <;> rfl
theorem yMul_zero {a b : DY} (ha : a.ok) (hb : b.ok) (h : (yMul a b).2 = 0) : (yMul a b).1.z.sign = 0 ↔ a.z.sign = 0 ∨ b.z.sign = 0 := by
  rw [Int.sign_eq_zero_iff_zero, Int.sign_eq_zero_iff_zero, Int.sign_eq_zero_iff_zero, ← v_zero, ← v_zero, ← v_zero, ← Int.mul_eq_zero, ← yMul_v ha hb h]
  have hp := ppi lowM
  constructor
  · intro h; rw [h, Int.zero_mul]
  · intro h
    rcases Int.mul_eq_zero.1 h with h | h
    · exact h
    · omega
/-- the order -/
def yCmp (a b : DY) : Int := (a.v - b.v).sign
theorem ySub_sign {a b : DY} (ha : a.ok) (hb : b.ok) (h : (ySub a b).2 = 0) : (ySub a b).1.z.sign = yCmp a b := by
  rw [← DY.v_sign, ySub_v ha hb h]; rfl
theorem pow_cancel {a b : Int} (h : a * 2 ^ lowM = b * 2 ^ lowM) : a = b := Int.eq_of_mul_eq_mul_right (by have := ppi lowM; omega) h
theorem yDistr {a b c : DY} (ha : a.ok) (hb : b.ok) (hc : c.ok) (h1 : (yAdd a b).2 = 0) (h2 : (yMul (yAdd a b).1 c).2 = 0) (h3 : (yMul a c).2 = 0) (h4 : (yMul b c).2 = 0) (h5 : (yAdd (yMul a c).1 (yMul b c).1).2 = 0) :
    (yMul (yAdd a b).1 c).1 = (yAdd (yMul a c).1 (yMul b c).1).1 := by
  refine DY.inj (yMul_ok _ _) (yAdd_ok _ _) (pow_cancel ?_)
  rw [yMul_v (yAdd_ok a b) hc h2, yAdd_v ha hb h1, yAdd_v (yMul_ok a c) (yMul_ok b c) h5, Int.add_mul, Int.add_mul, yMul_v ha hc h3, yMul_v hb hc h4]
theorem yCmp_or (a b : DY) : yCmp a b = -1 ∨ yCmp a b = 0 ∨ yCmp a b = 1 := by
  unfold yCmp
  rcases Int.lt_trichotomy (a.v - b.v) 0 with h | h | h
  · exact .inl (Int.sign_eq_neg_one_of_neg h)
  · rw [h]; exact .inr (.inl rfl)
  · exact .inr (.inr (Int.sign_eq_one_of_pos h))
theorem yCmp_lt {a b : DY} : yCmp a b < 0 ↔ a.v < b.v := by
  unfold yCmp
  rcases Int.lt_trichotomy (a.v - b.v) 0 with h | h | h
  · rw [Int.sign_eq_neg_one_of_neg h]; omega
  · rw [h, Int.sign_zero]; omega
  · rw [Int.sign_eq_one_of_pos h]; omega
theorem yCmp_gt {a b : DY} : 0 < yCmp a b ↔ b.v < a.v := by
  unfold yCmp
  rcases Int.lt_trichotomy (a.v - b.v) 0 with h | h | h
  · rw [Int.sign_eq_neg_one_of_neg h]; omega
  · rw [h, Int.sign_zero]; omega
  · rw [Int.sign_eq_one_of_pos h]; omega

/-- a product's grouping -/
theorem W_low (z : Int) {e f : Int} (h : -(lowM : Int) ≤ f) (hf : f ≤ e) : W z e = z * 2 ^ (e - f).toNat * 2 ^ (f + lowM).toNat := by
  unfold W
  rw [Int.mul_assoc, ← ipow_add]
  congr 2
  omega
end Go.Proofs.YtppebjnmollojaaGreatDoor

/- The order of Dyads: plain arithmetic, no program in sight. -/
namespace Go.Proofs.YtppebjnmollojaaGreatDoor
open Go Go.RowKit Go.PlainAid Fil

theorem sign_cases (a : Int) : (a < 0 ∧ a.sign = -1) ∨ (a = 0 ∧ a.sign = 0) ∨ (0 < a ∧ a.sign = 1) := by
  rcases Int.lt_trichotomy a 0 with h | h | h
  · exact .inl ⟨h, Int.sign_eq_neg_one_of_neg h⟩
  · exact .inr (.inl ⟨h, by rw [h]; rfl⟩)
  · exact .inr (.inr ⟨h, Int.sign_eq_one_of_pos h⟩)
/-- the order of two numbers times a power of 2 -/
def cmpD (za ea zb eb : Int) : Int := (W za ea - W zb eb).sign
theorem sign_mul_pos {a p : Int} (hp : 0 < p) : (a * p).sign = a.sign := by rw [Int.sign_mul, Int.sign_eq_one_of_pos hp, Int.mul_one]
theorem W_at (z : Int) {e lo : Int} (h : lo ≤ e) (hl : -(lowM : Int) ≤ lo) : W z e = z * 2 ^ (e - lo).toNat * 2 ^ (lo + lowM).toNat := by
  unfold W
  rw [Int.mul_assoc, ← ipow_add]
  congr 2
  omega
theorem cmpD_at {za ea zb eb lo : Int} (ha : lo ≤ ea) (hb : lo ≤ eb) (hl : -(lowM : Int) ≤ lo) : cmpD za ea zb eb = (za * 2 ^ (ea - lo).toNat - zb * 2 ^ (eb - lo).toNat).sign := by
  unfold cmpD
  rw [W_at za ha hl, W_at zb hb hl, ← Int.sub_mul, sign_mul_pos (ppi _)]
theorem sign_diff {A B : Int} (h : A.sign ≠ B.sign ∨ A.sign = 0) : (A.sign - B.sign).sign = (A - B).sign := by
  rcases sign_cases A with ⟨h1, h2⟩ | ⟨h1, h2⟩ | ⟨h1, h2⟩ <;> rcases sign_cases B with ⟨k1, k2⟩ | ⟨k1, k2⟩ | ⟨k1, k2⟩ <;> rw [h2, k2] at h ⊢ <;>
    first
    | (exfalso; omega)
    | (rcases sign_cases (A - B) with ⟨g1, g2⟩ | ⟨g1, g2⟩ | ⟨g1, g2⟩ <;> first | (exfalso; omega) | (rw [g2]; decide))
theorem cmpD_sign {za ea zb eb : Int} (h : za.sign ≠ zb.sign ∨ za.sign = 0) : (za.sign - zb.sign).sign = cmpD za ea zb eb := by
  unfold cmpD
  rw [← W_sign za ea, ← W_sign zb eb] at *
  exact sign_diff h
theorem sign_lt {a b : Int} (h : a < b) : (a - b).sign = -1 := Int.sign_eq_neg_one_of_neg (by omega)
theorem sign_gt {a b : Int} (h : b < a) : (a - b).sign = 1 := Int.sign_eq_one_of_pos (by omega)
theorem mag_lt {A B : Int} {p q : Nat} (hA : A.natAbs < 2 ^ (p + 1)) (hB : 2 ^ q ≤ B.natAbs) (h : p < q) : A.natAbs < B.natAbs := by
  have := pmono (show p + 1 ≤ q by omega); omega
theorem W_abs (neg : Bool) (x : Nat) (e : Int) : (W (sz neg x) e).natAbs = x * 2 ^ (e + lowM).toNat := by
  unfold W; rw [abs_shl, sz_abs]
theorem W_mag (neg : Bool) {x : Nat} (hx : x ≠ 0) (e : Int) : 2 ^ (bl x - 1 + (e + lowM).toNat) ≤ (W (sz neg x) e).natAbs ∧ (W (sz neg x) e).natAbs < 2 ^ (bl x - 1 + (e + lowM).toNat + 1) := by
  rw [W_abs]
  have h1 := le_bl hx
  have h2 := lt_bl x
  have h3 : 0 < bl x := by unfold bl; rw [if_neg hx]; omega
  have hp := pp (e + lowM).toNat
  rw [show bl x - 1 + (e + lowM).toNat + 1 = bl x + (e + lowM).toNat by omega, Nat.pow_add, Nat.pow_add]
  exact ⟨Nat.mul_le_mul_right _ h1, Nat.mul_lt_mul_of_pos_right h2 hp⟩
theorem abs_cmp {A B : Int} (hs : A.sign = B.sign) (_h0 : A.sign ≠ 0) (h : A.natAbs < B.natAbs) : (A - B).sign = -A.sign := by
  rcases sign_cases A with ⟨h1, h2⟩ | ⟨h1, h2⟩ | ⟨h1, h2⟩ <;> rcases sign_cases B with ⟨k1, k2⟩ | ⟨k1, k2⟩ | ⟨k1, k2⟩ <;> rw [h2, k2] at hs <;> rw [h2] at _h0 ⊢ <;> try (exfalso; omega)
  · exact (sign_gt (by omega)).trans (by decide)
  · exact (sign_lt (by omega)).trans (by decide)
theorem abs_cmp' {A B : Int} (hs : A.sign = B.sign) (_h0 : A.sign ≠ 0) (h : B.natAbs < A.natAbs) : (A - B).sign = A.sign := by
  rcases sign_cases A with ⟨h1, h2⟩ | ⟨h1, h2⟩ | ⟨h1, h2⟩ <;> rcases sign_cases B with ⟨k1, k2⟩ | ⟨k1, k2⟩ | ⟨k1, k2⟩ <;> rw [h2, k2] at hs <;> rw [h2] at _h0 ⊢ <;> try (exfalso; omega)
  · exact sign_lt (by omega)
  · exact sign_gt (by omega)
theorem topZ_of {x : Nat} (hx : x ≠ 0) (e : Int) : topZ x e = (bl x : Int) - 1 + e := by unfold topZ; rw [if_neg hx]
/-- the tops tell -/
theorem cmpD_top {na nb : Bool} {xa xb : Nat} {ea eb : Int} (hxa : xa ≠ 0) (hxb : xb ≠ 0) (ha : -(lowM : Int) ≤ ea) (hb : -(lowM : Int) ≤ eb) (hs : (sz na xa).sign = (sz nb xb).sign) (h : topZ xa ea ≠ topZ xb eb) :
    cmpD (sz na xa) ea (sz nb xb) eb = (sz na xa).sign * (topZ xa ea - topZ xb eb).sign := by
  obtain ⟨a1, a2⟩ := W_mag na hxa ea
  obtain ⟨b1, b2⟩ := W_mag nb hxb eb
  have h3 : 0 < bl xa := by unfold bl; rw [if_neg hxa]; omega
  have h4 : 0 < bl xb := by unfold bl; rw [if_neg hxb]; omega
  have hs' : (W (sz na xa) ea).sign = (W (sz nb xb) eb).sign := by rw [W_sign, W_sign, hs]
  have h0 : (W (sz na xa) ea).sign ≠ 0 := by rw [W_sign, Ne, Int.sign_eq_zero_iff_zero]; exact fun e => hxa (by rw [← sz_abs na xa, e]; rfl)
  unfold cmpD
  rw [topZ_of hxa, topZ_of hxb] at *
  rcases Int.lt_or_gt_of_ne h with h | h
  · rw [sign_lt h, abs_cmp hs' h0 (mag_lt a2 b1 (by omega)), W_sign]; omega
  · rw [sign_gt h, abs_cmp' hs' h0 (mag_lt b2 a1 (by omega)), W_sign]; omega
theorem cmpI_sgn (x y : Int) : cmpI x y = (x - y).sign := by
  unfold cmpI
  rcases Int.lt_trichotomy x y with h | h | h
  · rw [if_pos h, sign_lt h]
  · subst h; rw [if_neg (by omega), if_neg (by omega), Int.sub_self]; rfl
  · rw [if_neg (by omega), if_pos h, sign_gt h]
theorem cmpZ_sz {n : Bool} {x y : Nat} : (sz n x - sz n y).sign = (if n then -1 else 1) * cmpZ x y := by
  rcases Nat.lt_trichotomy x y with h | h | h
  · rw [cmpZ_lt h]
    cases n
    · show ((x : Int) - (y : Int)).sign = 1 * -1
      exact sign_lt (by omega)
    · show (-(x : Int) - -(y : Int)).sign = -1 * -1
      exact sign_gt (by omega)
  · subst h
    rw [cmpZ_eq, Int.mul_zero, Int.sub_self]; rfl
  · rw [cmpZ_gt h]
    cases n
    · show ((x : Int) - (y : Int)).sign = 1 * 1
      exact sign_gt (by omega)
    · show (-(x : Int) - -(y : Int)).sign = -1 * 1
      exact sign_lt (by omega)
theorem sz_sign {n : Bool} {x : Nat} (h : x ≠ 0) : (sz n x).sign = if n then -1 else 1 := by
  unfold sz
  cases n
  · simp only [Bool.false_eq_true, if_false]; exact Int.sign_eq_one_of_pos (by omega)
  · simp only [if_true]; exact Int.sign_eq_neg_one_of_neg (by omega)
/-- of one sign the magnitudes tell -/
theorem cmpD_mag {na nb : Bool} {xa xb : Nat} {ea eb lo : Int} (hxa : xa ≠ 0) (hxb : xb ≠ 0) (ha : lo ≤ ea) (hb : lo ≤ eb) (hl : -(lowM : Int) ≤ lo) (hs : (sz na xa).sign = (sz nb xb).sign) :
    cmpD (sz na xa) ea (sz nb xb) eb = (sz na xa).sign * cmpZ (xa * 2 ^ (ea - lo).toNat) (xb * 2 ^ (eb - lo).toNat) := by
  have hn : na = nb := by
    rw [sz_sign hxa, sz_sign hxb] at hs
    cases na <;> cases nb <;> first | rfl | (exfalso; revert hs; decide)
  subst hn
  rw [cmpD_at ha hb hl, sz_shl, sz_shl, cmpZ_sz, sz_sign hxa]
end Go.Proofs.YtppebjnmollojaaGreatDoor

/- Floor's law over Dyads: plain arithmetic, no program in sight. -/
namespace Go.Proofs.YtppebjnmollojaaGreatDoor
open Go Go.RowKit Go.PlainAid Fil

/-- Floor's Dyad and error -/
def yFloor (a : DY) (f : Int) : DY × Int :=
  if f < -1048576 ∨ 1048576 < f then (DY.zero, 2) else if f ≤ a.e ∨ a.x = 0 then (a, 0) else (mkD (sz a.n (flX a.n a.x (f - a.e).toNat)) f, mkR (sz a.n (flX a.n a.x (f - a.e).toNat)) f)
theorem flV_y (a : DY) (f : Int) : flV a.n a.x a.e f = dyR (yFloor a f).1.n (yFloor a f).1.x (yFloor a f).1.e (yFloor a f).2 := by
  unfold flV yFloor
  split
  · rfl
  · split
    · rfl
    · rfl
theorem yFloor_ok {a : DY} (h : a.ok) (f : Int) : (yFloor a f).1.ok := by
  unfold yFloor
  split
  · exact DY.zero_ok
  · split
    · exact h
    · exact mkD_ok _ _
theorem fl_bounds {n : Bool} {x k : Nat} (ho : x % 2 = 1) (hk : 0 < k) : sz n (flX n x k) * 2 ^ k ≤ sz n x ∧ sz n x < sz n (flX n x k) * 2 ^ k + 2 ^ k := by
  have hc : (2 : Int) ^ k = ((2 ^ k : Nat) : Int) := by push_cast; rfl
  have h2 : 2 ^ k % 2 = 0 := by
    rw [show k = k - 1 + 1 by omega, Nat.pow_succ]; omega
  have hp := pp k
  have hd := Nat.div_add_mod x (2 ^ k)
  have hm := Nat.mod_lt x hp
  rw [hc]
  unfold sz flX
  generalize 2 ^ k = p at *
  have hne : x % p ≠ 0 := by
    intro h0
    rw [h0, Nat.add_zero] at hd
    have : x % 2 = 0 := by
      rw [← hd, Nat.mul_mod, h2, Nat.zero_mul]
    omega
  generalize x % p = r at *
  have hq : p * (x / p) = x / p * p := Nat.mul_comm _ _
  rw [hq] at hd
  have e1 : ((x / p : Nat) : Int) * (p : Int) = ((x / p * p : Nat) : Int) := by push_cast; rfl
  generalize ht : x / p * p = t at *
  cases n
  · simp only [Bool.false_eq_true, if_false]
    rw [e1]; omega
  · simp only [if_true]
    rw [Int.neg_mul, show (((x / p + 1 : Nat) : Int)) = ((x / p : Nat) : Int) + 1 by push_cast; rfl, Int.add_mul, e1, Int.one_mul]
    omega
theorem W_mono {z z' : Int} (h : z ≤ z') (e : Int) : W z e ≤ W z' e := Int.mul_le_mul_of_nonneg_right h (Int.le_of_lt (ppi _))
theorem W_lt {z z' : Int} (h : z < z') (e : Int) : W z e < W z' e := Int.mul_lt_mul_of_pos_right h (ppi _)
theorem mkE_ge {z e : Int} : mkD z e = DY.zero ∨ e ≤ (mkD z e).e := by
  by_cases hk : mkOk z e = true
  · by_cases hz : z = 0
    · subst hz; left
      obtain ⟨_, h1, h2, h3, _⟩ := mk_zero e
      exact DY.eta h1 h2 h3
    · right
      obtain ⟨_, _, h3, _⟩ := mk_good hk hz
      show e ≤ mkE z e
      rw [h3]; omega
  · left; exact mkD_bad (by simpa using hk)
/-- Floor lies below, by less than one multiple -/
theorem yFloor_law {a : DY} (ha : a.ok) {f : Int} (h : (yFloor a f).2 = 0) :
    -1048576 ≤ f ∧ f ≤ 1048576 ∧ (yFloor a f).1.v ≤ a.v ∧ a.v < (yFloor a f).1.v + W 1 f ∧ ((yFloor a f).1 = DY.zero ∨ f ≤ (yFloor a f).1.e) := by
  have hl := lowM_ge
  unfold yFloor at h ⊢
  by_cases h1 : f < -1048576 ∨ 1048576 < f
  · rw [if_pos h1] at h; exact absurd h (by decide)
  · rw [if_neg h1] at h ⊢
    have hp : 0 < W 1 f := by unfold W; rw [Int.one_mul]; exact ppi _
    by_cases h2 : f ≤ a.e ∨ a.x = 0
    · rw [if_pos h2]
      refine ⟨by omega, by omega, Int.le_refl _, by show a.v < a.v + _; omega, ?_⟩
      rcases h2 with h2 | h2
      · exact .inr h2
      · left
        rcases (show okD a.n a.x a.e from ha) with ⟨k1, k2, k3⟩ | k
        · exact DY.eta k2 k1 k3
        · omega
    · rw [if_neg h2] at h ⊢
      obtain ⟨k, hk⟩ : ∃ k, k = (f - a.e).toNat := ⟨_, rfl⟩
      rw [← hk] at h ⊢
      have ho := okD.odd (show okD a.n a.x a.e from ha) (by omega)
      obtain ⟨b1, b2⟩ := fl_bounds (n := a.n) (k := k) ho (by omega)
      have he := DY.ok.lo ha
      have hz := mkR_zero h
      have hv : (mkD (sz a.n (flX a.n a.x k)) f).v = W (sz a.n (flX a.n a.x k)) f := mkD_v hz (by omega)
      have hs : W (sz a.n (flX a.n a.x k)) f = W (sz a.n (flX a.n a.x k) * 2 ^ k) a.e := by
        rw [W_shl _ _ he, show a.e + (k : Int) = f by omega]
      have h1' : W 1 f = W (2 ^ k) a.e := by
        have := W_shl 1 k he
        rw [Int.one_mul, show a.e + (k : Int) = f by omega] at this
        exact this.symm
      refine ⟨by omega, by omega, ?_, ?_, mkE_ge⟩
      · show (mkD _ f).v ≤ a.v
        rw [hv, hs]; exact W_mono b1 _
      · show a.v < (mkD _ f).v + _
        rw [hv, hs, h1']
        have := W_lt b2 a.e
        unfold W at this ⊢
        rw [← Int.add_mul]; exact this
theorem of_one {f : Int} (h1 : -1048576 ≤ f) (h2 : f ≤ 1048576) : mkOk 1 f = true ∧ (mkD 1 f).v = W 1 f := by
  have hk : okD false 1 f := .inr ⟨rfl, by rw [dn8_one]; omega, h1, h2⟩
  have := mkOk_id hk
  exact ⟨this, mkD_v this (by have := lowM_ge; omega)⟩
/-- the last of the ring's laws -/
theorem yFloor_end {a : DY} (ha : a.ok) {f : Int} (h : (yFloor a f).2 = 0) (hs : (yAdd (yFloor a f).1 (mkD 1 f)).2 = 0) :
    yCmp (yFloor a f).1 a ≤ 0 ∧ 0 < yCmp (yAdd (yFloor a f).1 (mkD 1 f)).1 a ∧ ((yFloor a f).1 = DY.zero ∨ f ≤ (yFloor a f).1.e) := by
  obtain ⟨i1, i2, i3, i4, i5⟩ := yFloor_law ha h
  have hv := yAdd_v (yFloor_ok ha f) (mkD_ok 1 f) hs
  refine ⟨?_, ?_, i5⟩
  · have := @yCmp_gt (yFloor a f).1 a
    omega
  · rw [yCmp_gt, hv, (of_one i1 i2).2]; exact i4
end Go.Proofs.YtppebjnmollojaaGreatDoor
