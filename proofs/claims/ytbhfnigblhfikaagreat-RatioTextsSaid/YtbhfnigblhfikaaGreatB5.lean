/- made's law, Dyads' values, dyad.Of, Add, cut where nothing is cut off. -/
import Derived.Test.YtbhfnigblhfikaaGreatB4

/- made's answer, as a law of numbers: no program in sight. -/
namespace Go.Proofs.YtbhfnigblhfikaaGreat
open Go Go.RowKit Go.PlainAid Fil

/-- made's answer as a value -/
def mkV (z e : Int) : Value := dyR (mkN z e) (mkX z e) (mkE z e) (mkR z e)

theorem abs_shl (z : Int) (k : Nat) : (z * 2 ^ k).natAbs = z.natAbs * 2 ^ k := by
  rw [Int.natAbs_mul]
  congr 1
theorem ppi (k : Nat) : (0 : Int) < 2 ^ k := by
  have : ((2 : Int) ^ k) = ((2 ^ k : Nat) : Int) := by push_cast; rfl
  rw [this]; have := pp k; omega
theorem sg_shl (z : Int) (k : Nat) : sg (z * 2 ^ k) = sg z := by
  unfold sg
  have h2 := ppi k
  by_cases h : z < 0
  · rw [decide_eq_true h, decide_eq_true (Int.mul_neg_of_neg_of_pos h h2)]
  · have : ¬ z * 2 ^ k < 0 := by
      have := Int.mul_nonneg (show 0 ≤ z by omega) (Int.le_of_lt h2)
      omega
    rw [decide_eq_false h, decide_eq_false this]
theorem shl_ne (z : Int) (k : Nat) : z * 2 ^ k = 0 ↔ z = 0 := by
  constructor
  · intro h
    rcases Int.mul_eq_zero.1 h with h | h
    · exact h
    · have := ppi k; omega
  · rintro rfl; rw [Int.zero_mul]
theorem odd_part_shl {x : Nat} (k : Nat) (h : x ≠ 0) : x * 2 ^ k / 2 ^ tz (x * 2 ^ k) = x / 2 ^ tz x := by
  rw [tz_shift h, Nat.add_comm, Nat.pow_add, ← Nat.div_div_eq_div_mul, Nat.mul_div_cancel _ (pp k)]
theorem mkOk_shl (z : Int) (k : Nat) (e : Int) : mkOk (z * 2 ^ k) e = mkOk z (e + k) := by
  by_cases h : z = 0
  · subst h; rw [Int.zero_mul]; simp [mkOk]
  · have hx : z.natAbs ≠ 0 := by omega
    have h2 : ¬ z * 2 ^ k = 0 := fun h3 => h ((shl_ne z k).1 h3)
    unfold mkOk
    rw [decide_eq_false h, decide_eq_false h2, abs_shl, odd_part_shl k hx, tz_shift hx, show e + ((tz z.natAbs + k : Nat) : Int) = e + k + tz z.natAbs by omega]
theorem mkN_shl (z : Int) (k : Nat) (e : Int) : mkN (z * 2 ^ k) e = mkN z (e + k) := by unfold mkN; rw [mkOk_shl, sg_shl]
theorem mkX_shl (z : Int) (k : Nat) (e : Int) : mkX (z * 2 ^ k) e = mkX z (e + k) := by
  unfold mkX; rw [mkOk_shl, abs_shl]
  by_cases h : z = 0
  · subst h; simp
  · rw [odd_part_shl k (by omega)]
theorem mkE_shl (z : Int) (k : Nat) (e : Int) : mkE (z * 2 ^ k) e = mkE z (e + k) := by
  unfold mkE; rw [mkOk_shl, abs_shl]
  by_cases h : z = 0
  · subst h; simp
  · have h2 : z * 2 ^ k ≠ 0 := fun h3 => h ((shl_ne z k).1 h3)
    rw [tz_shift (by omega), decide_eq_true h, decide_eq_true h2, show e + ((tz z.natAbs + k : Nat) : Int) = e + k + tz z.natAbs by omega]
theorem mkR_shl (z : Int) (k : Nat) (e : Int) : mkR (z * 2 ^ k) e = mkR z (e + k) := by unfold mkR; rw [mkOk_shl]
theorem mkV_shl (z : Int) (k : Nat) (e : Int) : mkV (z * 2 ^ k) e = mkV z (e + k) := by
  unfold mkV; rw [mkN_shl, mkX_shl, mkE_shl, mkR_shl]
theorem mkV_zero (e : Int) : mkV 0 e = dyR false 0 0 0 := by
  obtain ⟨_, h1, h2, h3, h4⟩ := mk_zero e
  unfold mkV; rw [h1, h2, h3, h4]
theorem mkV_bad {z e : Int} (h : mkOk z e = false) : mkV z e = dyR false 0 0 4 := by
  obtain ⟨h1, h2, h3, h4⟩ := mk_bad h
  unfold mkV; rw [h1, h2, h3, h4]

theorem sg_sz {neg : Bool} {x : Nat} (h : x ≠ 0) : sg (sz neg x) = neg := by
  unfold sg sz; cases neg <;> simp <;> omega
theorem mkOk_id {neg : Bool} {x : Nat} {e : Int} (h : okD neg x e) : mkOk (sz neg x) e = true := by
  rcases h with ⟨rfl, rfl, rfl⟩ | ⟨h1, h2, h3, h4⟩
  · exact (mk_zero 0).1
  · refine mkOk_yes ?_ ?_ ?_ <;> rw [sz_abs, tz_odd h1]
    · simpa using h2
    · simpa using h3
    · simpa using h4
/-- a Dyad that may be is made's answer of itself -/
theorem mkV_id {neg : Bool} {x : Nat} {e : Int} (h : okD neg x e) : mkV (sz neg x) e = dyR neg x e 0 := by
  have hk := mkOk_id h
  rcases h with ⟨rfl, rfl, rfl⟩ | ⟨h1, h2, h3, h4⟩
  · exact mkV_zero 0
  · have hx : x ≠ 0 := by omega
    have hz : sz neg x ≠ 0 := fun h => hx (by rw [← sz_abs neg x, h]; rfl)
    obtain ⟨m1, m2, m3, m4⟩ := mk_good hk hz
    unfold mkV
    rw [m1, m2, m3, m4, sz_abs, tz_odd h1, sg_sz hx, Nat.pow_zero, Nat.div_one]
    simp

/-- two Dyads' sum, to the lower power -/
def addZ (za ea zb eb : Int) : Int := za * 2 ^ (ea - min ea eb).toNat + zb * 2 ^ (eb - min ea eb).toNat

theorem far_lt {M g a b : Nat} (hg : M + 9 ≤ g) (ha : 1 ≤ a) (hb : b < 2 ^ M) : 2 ^ (M + 8) + b < a * 2 ^ g := by
  have h1 : 2 ^ (M + 8) + 2 ^ M ≤ 2 ^ (M + 9) := by rw [Nat.pow_add, Nat.pow_add]; omega
  have h2 := pmono hg
  have h3 : 1 * 2 ^ g ≤ a * 2 ^ g := Nat.mul_le_mul_right _ ha
  omega
theorem far_abs {M g : Nat} {a b : Int} (hg : M + 9 ≤ g) (ha : a ≠ 0) (hb : b.natAbs < 2 ^ M) : 2 ^ (M + 8) ≤ (a * 2 ^ g + b).natAbs := by
  have h1 := far_lt hg (show 1 ≤ a.natAbs by omega) hb
  rw [← abs_shl] at h1
  omega
theorem far_bad {g : Nat} {a b e : Int} (hg : 131081 ≤ g) (ha : a ≠ 0) (hb : b.natAbs % 2 = 1) (hd : Fil.dn 8 b.natAbs ≤ 16384) : mkOk (a * 2 ^ g + b) e = false := by
  have h0 := lt_of_dn (k := 8) (by omega) hd
  have h1 : ∃ M : Nat, M = 8 * 16384 := ⟨_, rfl⟩
  obtain ⟨M, hM⟩ := h1
  rw [← hM] at h0
  have h2 := far_abs (M := M) (g := g) (a := a) (by omega) ha h0
  have hz : a * 2 ^ g + b ≠ 0 := by have := pp (M + 8); omega
  have h3 : (a * 2 ^ g + b).natAbs % 2 = 1 := by
    have : ((2 : Int) ^ g) = 2 * 2 ^ (g - 1) := by
      rw [show g = g - 1 + 1 by omega, Int.pow_succ]; rw [Int.mul_comm]; simp
    have h4 : a * 2 ^ g = 2 * (a * 2 ^ (g - 1)) := by rw [this, Int.mul_left_comm]
    omega
  refine mkOk_no1 hz ?_
  rw [tz_odd h3, Nat.pow_zero, Nat.div_one]
  obtain ⟨n, hn⟩ : ∃ n : Nat, n = 16385 := ⟨_, rfl⟩
  have h5 : n < Fil.dn 8 (a * 2 ^ g + b).natAbs := dn_ge (by omega) (Nat.le_trans (pmono (by omega)) h2)
  omega
theorem add_far {na nb : Bool} {xa xb : Nat} {ea eb : Int} (ha : okD na xa ea) (hb : okD nb xb eb) (hxa : xa ≠ 0) (hxb : xb ≠ 0) (hg : 131080 < max ea eb - min ea eb) (e : Int) :
    mkOk (addZ (sz na xa) ea (sz nb xb) eb) e = false := by
  have oa : xa % 2 = 1 := by rcases ha with ⟨h, _⟩ | h; exact absurd h hxa; exact h.1
  have ob : xb % 2 = 1 := by rcases hb with ⟨h, _⟩ | h; exact absurd h hxb; exact h.1
  have za : sz na xa ≠ 0 := fun h => hxa (by rw [← sz_abs na xa, h]; rfl)
  have zb : sz nb xb ≠ 0 := fun h => hxb (by rw [← sz_abs nb xb, h]; rfl)
  unfold addZ
  rcases Int.le_total ea eb with h | h
  · rw [show min ea eb = ea by omega, Int.sub_self, Int.toNat_zero, Int.pow_zero, Int.mul_one, Int.add_comm]
    exact far_bad (by omega) zb (by rw [sz_abs]; exact oa) (by rw [sz_abs]; exact ha.dn)
  · rw [show min ea eb = eb by omega, Int.sub_self, Int.toNat_zero, Int.pow_zero, Int.mul_one]
    exact far_bad (by omega) za (by rw [sz_abs]; exact ob) (by rw [sz_abs]; exact hb.dn)
theorem add_zero_left {ea : Int} {nb : Bool} {xb : Nat} {eb : Int} (hb : okD nb xb eb) : mkV (addZ 0 ea (sz nb xb) eb) (min ea eb) = dyR nb xb eb 0 := by
  unfold addZ
  rw [Int.zero_mul, Int.zero_add, mkV_shl, show min ea eb + ((eb - min ea eb).toNat : Int) = eb by omega, mkV_id hb]
theorem add_zero_right {eb : Int} {na : Bool} {xa : Nat} {ea : Int} (ha : okD na xa ea) : mkV (addZ (sz na xa) ea 0 eb) (min ea eb) = dyR na xa ea 0 := by
  unfold addZ
  rw [Int.zero_mul, Int.add_zero, mkV_shl, show min ea eb + ((ea - min ea eb).toNat : Int) = ea by omega, mkV_id ha]

theorem dn32_shl {x k : Nat} (h : Fil.dn 8 x ≤ 16384) (hk : k ≤ 200000) : Fil.dn 32 (x * 2 ^ k) ≤ 16384 := by
  have h0 := lt_of_dn (k := 8) (by omega) h
  obtain ⟨M, hM⟩ : ∃ M : Nat, M = 8 * 16384 := ⟨_, rfl⟩
  rw [← hM] at h0
  obtain ⟨n, hn⟩ : ∃ n : Nat, n = 16384 := ⟨_, rfl⟩
  rw [← hn]
  refine dn_le (by omega) (Nat.lt_of_lt_of_le (Nat.mul_lt_mul_of_pos_right h0 (pp k)) ?_)
  rw [← Nat.pow_add]
  exact pmono (by omega)
theorem dn32_sum {a b : Int} {n : Nat} (ha : Fil.dn 32 a.natAbs ≤ n) (hb : Fil.dn 32 b.natAbs ≤ n) : Fil.dn 32 (a + b).natAbs ≤ n + 1 := by
  have h1 := lt_of_dn (k := 32) (by omega) ha
  have h2 := lt_of_dn (k := 32) (by omega) hb
  refine dn_le (by omega) ?_
  rw [pstep]
  omega
end Go.Proofs.YtbhfnigblhfikaaGreat

/- Dyads' values at one low power: plain arithmetic, no program in sight. -/
namespace Go.Proofs.YtbhfnigblhfikaaGreat
open Go Go.RowKit Go.PlainAid Fil

/-- a power below all that are met -/
def lowM : Nat := 8388608
theorem lowM_ge : (8388608 : Int) ≤ (lowM : Int) := by unfold lowM; omega
/-- the number z times 2^e, as a multiple of the low power -/
def W (z e : Int) : Int := z * 2 ^ (e + lowM).toNat

theorem ipow_add (a b : Nat) : (2 : Int) ^ (a + b) = 2 ^ a * 2 ^ b := Int.pow_add 2 a b
theorem W_shl (z : Int) (k : Nat) {e : Int} (h : -(lowM : Int) ≤ e) : W (z * 2 ^ k) e = W z (e + k) := by
  unfold W
  rw [show (e + k + lowM).toNat = k + (e + lowM).toNat by omega, ipow_add, Int.mul_assoc]
theorem mkV_W (z : Int) {e : Int} (h : -(lowM : Int) ≤ e) : mkV z e = mkV (W z e) (-(lowM : Int)) := by
  unfold W; rw [mkV_shl]; congr 1; omega
theorem mkOk_W (z : Int) {e : Int} (h : -(lowM : Int) ≤ e) : mkOk z e = mkOk (W z e) (-(lowM : Int)) := by
  unfold W; rw [mkOk_shl]; congr 1; omega
theorem mkV_congr {z z' e e' : Int} (h : W z e = W z' e') (he : -(lowM : Int) ≤ e) (he' : -(lowM : Int) ≤ e') : mkV z e = mkV z' e' := by
  rw [mkV_W z he, mkV_W z' he', h]
theorem W_zero_left (e : Int) : W 0 e = 0 := Int.zero_mul _
theorem W_eq_zero {z e : Int} : W z e = 0 ↔ z = 0 := shl_ne z _
theorem W_neg (z e : Int) : W (-z) e = -W z e := Int.neg_mul _ _
theorem W_sign (z e : Int) : (W z e).sign = z.sign := by
  unfold W
  rw [Int.sign_mul, Int.sign_eq_one_of_pos (ppi _), Int.mul_one]
theorem W_add (za zb : Int) {ea eb : Int} (ha : -(lowM : Int) ≤ ea) (hb : -(lowM : Int) ≤ eb) : W (addZ za ea zb eb) (min ea eb) = W za ea + W zb eb := by
  have h1 : W (za * 2 ^ (ea - min ea eb).toNat) (min ea eb) = W za ea := by
    rw [W_shl _ _ (by omega)]; congr 1; omega
  have h2 : W (zb * 2 ^ (eb - min ea eb).toNat) (min ea eb) = W zb eb := by
    rw [W_shl _ _ (by omega)]; congr 1; omega
  rw [← h1, ← h2]
  unfold addZ W
  rw [Int.add_mul]
theorem W_mul (z z' : Int) {e e' : Int} (h : -(lowM : Int) ≤ e) (h' : -(lowM : Int) ≤ e') (hs : -(lowM : Int) ≤ e + e') : W (z * z') (e + e') * 2 ^ lowM = W z e * W z' e' := by
  unfold W
  have h1 : (2 : Int) ^ (e + e' + lowM).toNat * 2 ^ lowM = 2 ^ (e + lowM).toNat * 2 ^ (e' + lowM).toNat := by
    rw [← ipow_add, ← ipow_add]; congr 1; omega
  rw [Int.mul_assoc, h1]
  generalize (2 : Int) ^ (e + lowM).toNat = p
  generalize (2 : Int) ^ (e' + lowM).toNat = q
  rw [Int.mul_assoc, Int.mul_assoc, Int.mul_left_comm z' p q]

theorem sz_shl (n : Bool) (x k : Nat) : sz n x * 2 ^ k = sz n (x * 2 ^ k) := by
  unfold sz
  cases n
  · simp
  · simp [Int.neg_mul]

/-- a Dyad as it stands -/
structure DY where
  n : Bool
  x : Nat
  e : Int
namespace DY
def ok (a : DY) : Prop := okD a.n a.x a.e
def z (a : DY) : Int := sz a.n a.x
/-- the value at the low power -/
def v (a : DY) : Int := W a.z a.e
def val (a : DY) : Value := .agg #[.bool a.n, .string (bstr a.x), .int .i64 a.e]
def zero : DY := ⟨false, 0, 0⟩
end DY
theorem DY.zero_ok : DY.zero.ok := okD.zero
theorem DY.zero_v : DY.zero.v = 0 := W_zero_left _
theorem DY.ok.lo {a : DY} (h : a.ok) : -(lowM : Int) ≤ a.e := by have h1 := okD.e1 h; have := lowM_ge; omega
/-- made's Dyad -/
def mkD (z e : Int) : DY := ⟨mkN z e, mkX z e, mkE z e⟩
theorem mkD_ok (z e : Int) : (mkD z e).ok := mk_ok z e
theorem mkD_bad {z e : Int} (h : mkOk z e = false) : mkD z e = DY.zero := by
  obtain ⟨h1, h2, h3, _⟩ := mk_bad h
  unfold mkD; rw [h1, h2, h3]; rfl
theorem mkR_eq (z e : Int) : mkR z e = if mkOk z e then 0 else 4 := rfl
/-- its value -/
theorem mkD_v {z e : Int} (h : mkOk z e = true) (he : -(lowM : Int) ≤ e) : (mkD z e).v = W z e := by
  by_cases hz : z = 0
  · subst hz
    obtain ⟨_, h1, h2, h3, _⟩ := mk_zero e
    unfold mkD DY.v DY.z; rw [h1, h2, h3, W_zero_left]; exact W_zero_left 0
  · obtain ⟨h1, h2, h3, _⟩ := mk_good h hz
    unfold mkD DY.v DY.z
    simp only [h1, h2, h3]
    rw [← W_shl _ _ he, sz_shl, tz_mul, sz_self]
theorem DY.eta {a b : DY} (h1 : a.n = b.n) (h2 : a.x = b.x) (h3 : a.e = b.e) : a = b := by
  cases a; cases b; simp only at h1 h2 h3; subst h1; subst h2; subst h3; rfl
theorem mkD_id {a : DY} (h : a.ok) : mkD a.z a.e = a := by
  have hk := mkOk_id h
  by_cases hz : a.z = 0
  · have hx : a.x = 0 := by rw [← sz_abs a.n a.x]; unfold DY.z at hz; rw [hz]; rfl
    obtain ⟨_, m1, m2, m3, _⟩ := mk_zero a.e
    rcases h with ⟨h1, h2, h3⟩ | h
    · refine DY.eta ?_ ?_ ?_ <;> simp only [mkD, hz]
      · rw [m1, h2]
      · rw [m2, h1]
      · rw [m3, h3]
    · omega
  · have hx : a.x ≠ 0 := fun h0 => hz (by unfold DY.z; rw [h0]; cases a.n <;> rfl)
    rcases h with ⟨h1, _⟩ | ⟨h1, h2, h3, h4⟩
    · exact absurd h1 hx
    · obtain ⟨m1, m2, m3, _⟩ := mk_good hk hz
      refine DY.eta ?_ ?_ ?_ <;> unfold mkD <;> simp only [DY.z] at *
      · rw [m1, sg_sz hx]
      · rw [m2, sz_abs, tz_odd h1]; simp
      · rw [m3, sz_abs, tz_odd h1]; simp
theorem mkD_W (z : Int) {e : Int} (h : -(lowM : Int) ≤ e) : mkD z e = mkD (W z e) (-(lowM : Int)) := by
  have h1 : -(lowM : Int) + ((e + lowM).toNat : Int) = e := by omega
  unfold mkD W
  rw [mkN_shl, mkX_shl, mkE_shl, h1]
theorem mkD_congr {z z' e e' : Int} (h : W z e = W z' e') (he : -(lowM : Int) ≤ e) (he' : -(lowM : Int) ≤ e') : mkD z e = mkD z' e' := by
  rw [mkD_W z he, mkD_W z' he', h]
theorem mkOk_congr {z z' e e' : Int} (h : W z e = W z' e') (he : -(lowM : Int) ≤ e) (he' : -(lowM : Int) ≤ e') : mkOk z e = mkOk z' e' := by
  rw [mkOk_W z he, mkOk_W z' he', h]
/-- one value, one Dyad -/
theorem DY.inj {a b : DY} (ha : a.ok) (hb : b.ok) (h : a.v = b.v) : a = b := by
  rw [← mkD_id ha, ← mkD_id hb]; exact mkD_congr h ha.lo hb.lo
/-- what has a Dyad's value is made -/
theorem mkOk_of_v {a : DY} {z e : Int} (ha : a.ok) (h : a.v = W z e) (he : -(lowM : Int) ≤ e) : mkOk z e = true ∧ mkD z e = a := by
  have h1 := mkOk_id ha
  exact ⟨by rw [← mkOk_congr h ha.lo he]; exact h1, by rw [← mkD_congr h ha.lo he]; exact mkD_id ha⟩
theorem DY.v_sign (a : DY) : a.v.sign = a.z.sign := W_sign _ _
/-- sum, difference, product: the Dyad, the error -/
def yAdd (a b : DY) : DY × Int := (mkD (addZ a.z a.e b.z b.e) (min a.e b.e), mkR (addZ a.z a.e b.z b.e) (min a.e b.e))
def yNeg (a : DY) : DY := ⟨!a.n && decide (a.x ≠ 0), a.x, a.e⟩
def yMul (a b : DY) : DY × Int := (mkD (a.z * b.z) (a.e + b.e), mkR (a.z * b.z) (a.e + b.e))
def ySub (a b : DY) : DY × Int := yAdd a (yNeg b)
end Go.Proofs.YtbhfnigblhfikaaGreat

/- The walks over dyad.Of, Add. -/
namespace Go.Proofs.YtbhfnigblhfikaaGreat
open Go Go.RowKit Go.PlainAid Fil

theorem allB_two (f : Nat → Bool) : allB 2 f = (f 0 && f 1) := by
  show (f 0 && (f 1 && true)) = _
  rw [Bool.and_true]
theorem sz_zero (neg : Bool) : sz neg 0 = 0 := by cases neg <;> rfl

end Go.Proofs.YtbhfnigblhfikaaGreat

/- The walk over dyad.cut, where nothing is cut off. -/
namespace Go.Proofs.YtbhfnigblhfikaaGreat
open Go Go.RowKit Go.PlainAid Fil

end Go.Proofs.YtbhfnigblhfikaaGreat
