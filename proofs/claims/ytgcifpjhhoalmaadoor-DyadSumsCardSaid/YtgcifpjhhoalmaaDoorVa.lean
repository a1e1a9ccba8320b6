/- Dyads' values at one low power: plain arithmetic, no program in sight. -/
import Derived.Test.YtgcifpjhhoalmaaDoorMk
namespace Go.Proofs.YtgcifpjhhoalmaaDoor
open Go Go.RowKit Go.PlainAid Fil

/-- a power below all that are met -/
def lowM : Nat := 8388608
theorem lowM_ge : (8388608 : Int) ≤ (lowM : Int) := by unfold lowM; omega
/-- the number z times 2^e, as a multiple of the low power -/
def W (z e : Int) : Int := z * 2 ^ (e + lowM).toNat

theorem ipow_add (a b : Nat) : (2 : Int) ^ (a + b) = 2 ^ a * 2 ^ b := Int.pow_add 2 a b
theorem W_shl (z : Int) (k : Nat) {e : Int} (h : -(lowM : Int) ≤ e) : W (z * 2 ^ k) e = W z (e + k) := by
  unfold W
  rw [show (e + k + lowM).toNat = k + (e + lowM).toNat by omega, ipow_add, Int.mul_assoc]
theorem mkV_W (z : Int) {e : Int} (h : -(lowM : Int) ≤ e) : mkV z e = mkV (W z e) (-(lowM : Int)) := by
  unfold W; rw [mkV_shl]; congr 1; omega
theorem mkOk_W (z : Int) {e : Int} (h : -(lowM : Int) ≤ e) : mkOk z e = mkOk (W z e) (-(lowM : Int)) := by
  unfold W; rw [mkOk_shl]; congr 1; omega
theorem mkV_congr {z z' e e' : Int} (h : W z e = W z' e') (he : -(lowM : Int) ≤ e) (he' : -(lowM : Int) ≤ e') : mkV z e = mkV z' e' := by
  rw [mkV_W z he, mkV_W z' he', h]
theorem W_zero_left (e : Int) : W 0 e = 0 := Int.zero_mul _
theorem W_eq_zero {z e : Int} : W z e = 0 ↔ z = 0 := shl_ne z _
theorem W_neg (z e : Int) : W (-z) e = -W z e := Int.neg_mul _ _
theorem W_sign (z e : Int) : (W z e).sign = z.sign := by
  unfold W
  rw [Int.sign_mul, Int.sign_eq_one_of_pos (ppi _), Int.mul_one]
theorem W_add (za zb : Int) {ea eb : Int} (ha : -(lowM : Int) ≤ ea) (hb : -(lowM : Int) ≤ eb) : W (addZ za ea zb eb) (min ea eb) = W za ea + W zb eb := by
  have h1 : W (za * 2 ^ (ea - min ea eb).toNat) (min ea eb) = W za ea := by
    rw [W_shl _ _ (by omega)]; congr 1; omega
  have h2 : W (zb * 2 ^ (eb - min ea eb).toNat) (min ea eb) = W zb eb := by
    rw [W_shl _ _ (by omega)]; congr 1; omega
  rw [← h1, ← h2]
  unfold addZ W
  rw [Int.add_mul]
theorem W_mul (z z' : Int) {e e' : Int} (h : -(lowM : Int) ≤ e) (h' : -(lowM : Int) ≤ e') (hs : -(lowM : Int) ≤ e + e') : W (z * z') (e + e') * 2 ^ lowM = W z e * W z' e' := by
  unfold W
  have h1 : (2 : Int) ^ (e + e' + lowM).toNat * 2 ^ lowM = 2 ^ (e + lowM).toNat * 2 ^ (e' + lowM).toNat := by
    rw [← ipow_add, ← ipow_add]; congr 1; omega
  rw [Int.mul_assoc, h1]
  generalize (2 : Int) ^ (e + lowM).toNat = p
  generalize (2 : Int) ^ (e' + lowM).toNat = q
  rw [Int.mul_assoc, Int.mul_assoc, Int.mul_left_comm z' p q]

theorem sz_shl (n : Bool) (x k : Nat) : sz n x * 2 ^ k = sz n (x * 2 ^ k) := by
  unfold sz
  cases n
  · simp
  · simp [Int.neg_mul]

/-- a Dyad as it stands -/
structure DY where
  n : Bool
  x : Nat
  e : Int
namespace DY
def ok (a : DY) : Prop := okD a.n a.x a.e
def z (a : DY) : Int := sz a.n a.x
/-- the value at the low power -/
def v (a : DY) : Int := W a.z a.e
def val (a : DY) : Value := .agg #[.bool a.n, .string (bstr a.x), .int .i64 a.e]
def zero : DY := ⟨false, 0, 0⟩
end DY
theorem DY.zero_ok : DY.zero.ok := okD.zero
theorem DY.zero_v : DY.zero.v = 0 := W_zero_left _
theorem DY.ok.lo {a : DY} (h : a.ok) : -(lowM : Int) ≤ a.e := by have h1 := okD.e1 h; have := lowM_ge; omega
/-- made's Dyad -/
def mkD (z e : Int) : DY := ⟨mkN z e, mkX z e, mkE z e⟩
theorem mkD_ok (z e : Int) : (mkD z e).ok := mk_ok z e
theorem mkD_bad {z e : Int} (h : mkOk z e = false) : mkD z e = DY.zero := by
  obtain ⟨h1, h2, h3, _⟩ := mk_bad h
  unfold mkD; rw [h1, h2, h3]; rfl
theorem mkR_eq (z e : Int) : mkR z e = if mkOk z e then 0 else 4 := rfl
/-- its value -/
theorem mkD_v {z e : Int} (h : mkOk z e = true) (he : -(lowM : Int) ≤ e) : (mkD z e).v = W z e := by
  by_cases hz : z = 0
  · subst hz
    obtain ⟨_, h1, h2, h3, _⟩ := mk_zero e
    unfold mkD DY.v DY.z; rw [h1, h2, h3, W_zero_left]; exact W_zero_left 0
  · obtain ⟨h1, h2, h3, _⟩ := mk_good h hz
    unfold mkD DY.v DY.z
    simp only [h1, h2, h3]
    rw [← W_shl _ _ he, sz_shl, tz_mul, sz_self]
theorem DY.eta {a b : DY} (h1 : a.n = b.n) (h2 : a.x = b.x) (h3 : a.e = b.e) : a = b := by
  cases a; cases b; simp only at h1 h2 h3; subst h1; subst h2; subst h3; rfl
theorem mkD_id {a : DY} (h : a.ok) : mkD a.z a.e = a := by
  have hk := mkOk_id h
  by_cases hz : a.z = 0
  · have hx : a.x = 0 := by rw [← sz_abs a.n a.x]; unfold DY.z at hz; rw [hz]; rfl
    obtain ⟨_, m1, m2, m3, _⟩ := mk_zero a.e
    rcases h with ⟨h1, h2, h3⟩ | h
    · refine DY.eta ?_ ?_ ?_ <;> simp only [mkD, hz]
      · rw [m1, h2]
      · rw [m2, h1]
      · rw [m3, h3]
    · omega
  · have hx : a.x ≠ 0 := fun h0 => hz (by unfold DY.z; rw [h0]; cases a.n <;> rfl)
    rcases h with ⟨h1, _⟩ | ⟨h1, h2, h3, h4⟩
    · exact absurd h1 hx
    · obtain ⟨m1, m2, m3, _⟩ := mk_good hk hz
      refine DY.eta ?_ ?_ ?_ <;> unfold mkD <;> simp only [DY.z] at *
      · rw [m1, sg_sz hx]
      · rw [m2, sz_abs, tz_odd h1]; simp
      · rw [m3, sz_abs, tz_odd h1]; simp
theorem mkD_W (z : Int) {e : Int} (h : -(lowM : Int) ≤ e) : mkD z e = mkD (W z e) (-(lowM : Int)) := by
  have h1 : -(lowM : Int) + ((e + lowM).toNat : Int) = e := by omega
  unfold mkD W
  rw [mkN_shl, mkX_shl, mkE_shl, h1]
theorem mkD_congr {z z' e e' : Int} (h : W z e = W z' e') (he : -(lowM : Int) ≤ e) (he' : -(lowM : Int) ≤ e') : mkD z e = mkD z' e' := by
  rw [mkD_W z he, mkD_W z' he', h]
theorem mkOk_congr {z z' e e' : Int} (h : W z e = W z' e') (he : -(lowM : Int) ≤ e) (he' : -(lowM : Int) ≤ e') : mkOk z e = mkOk z' e' := by
  rw [mkOk_W z he, mkOk_W z' he', h]
/-- one value, one Dyad -/
theorem DY.inj {a b : DY} (ha : a.ok) (hb : b.ok) (h : a.v = b.v) : a = b := by
  rw [← mkD_id ha, ← mkD_id hb]; exact mkD_congr h ha.lo hb.lo
/-- what has a Dyad's value is made -/
theorem mkOk_of_v {a : DY} {z e : Int} (ha : a.ok) (h : a.v = W z e) (he : -(lowM : Int) ≤ e) : mkOk z e = true ∧ mkD z e = a := by
  have h1 := mkOk_id ha
  exact ⟨by rw [← mkOk_congr h ha.lo he]; exact h1, by rw [← mkD_congr h ha.lo he]; exact mkD_id ha⟩
theorem DY.v_sign (a : DY) : a.v.sign = a.z.sign := W_sign _ _
/-- sum, difference, product: the Dyad, the error -/
def yAdd (a b : DY) : DY × Int := (mkD (addZ a.z a.e b.z b.e) (min a.e b.e), mkR (addZ a.z a.e b.z b.e) (min a.e b.e))
def yNeg (a : DY) : DY := ⟨!a.n && decide (a.x ≠ 0), a.x, a.e⟩
def yMul (a b : DY) : DY × Int := (mkD (a.z * b.z) (a.e + b.e), mkR (a.z * b.z) (a.e + b.e))
def ySub (a b : DY) : DY × Int := yAdd a (yNeg b)
end Go.Proofs.YtgcifpjhhoalmaaDoor
