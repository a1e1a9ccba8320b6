/- made's law, Dyads' values, dyad.Of, Add, cut where nothing is cut off. -/
import Derived.Test.YtbfnafcpjbdbpaaB4

/- made's answer, as a law of numbers: no program in sight. -/
namespace Go.Proofs.Ytbfnafcpjbdbpaa
open Go Go.RowKit Go.PlainAid Fil

theorem abs_shl (z : Int) (k : Nat) : (z * 2 ^ k).natAbs = z.natAbs * 2 ^ k := by
  rw [Int.natAbs_mul]
  congr 1
theorem ppi (k : Nat) : (0 : Int) < 2 ^ k := by
  have : ((2 : Int) ^ k) = ((2 ^ k : Nat) : Int) := by push_cast; rfl
  rw [this]; have := pp k; omega
theorem sg_shl (z : Int) (k : Nat) : sg (z * 2 ^ k) = sg z := by
  unfold sg
  have h2 := ppi k
  by_cases h : z < 0
  · rw [decide_eq_true h, decide_eq_true (Int.mul_neg_of_neg_of_pos h h2)]
  · have : ¬ z * 2 ^ k < 0 := by
      have := Int.mul_nonneg (show 0 ≤ z by omega) (Int.le_of_lt h2)
      omega
    rw [decide_eq_false h, decide_eq_false this]
theorem shl_ne (z : Int) (k : Nat) : z * 2 ^ k = 0 ↔ z = 0 := by
  constructor
  · intro h
    rcases Int.mul_eq_zero.1 h with h | h
    · exact h
    · have := ppi k; omega
  · rintro rfl; rw [Int.zero_mul]
theorem odd_part_shl {x : Nat} (k : Nat) (h : x ≠ 0) : x * 2 ^ k / 2 ^ tz (x * 2 ^ k) = x / 2 ^ tz x := by
  rw [tz_shift h, Nat.add_comm, Nat.pow_add, ← Nat.div_div_eq_div_mul, Nat.mul_div_cancel _ (pp k)]
theorem mkOk_shl (z : Int) (k : Nat) (e : Int) : mkOk (z * 2 ^ k) e = mkOk z (e + k) := by
  by_cases h : z = 0
  · subst h; rw [Int.zero_mul]; simp [mkOk]
  · have hx : z.natAbs ≠ 0 := by omega
    have h2 : ¬ z * 2 ^ k = 0 := fun h3 => h ((shl_ne z k).1 h3)
    unfold mkOk
    rw [decide_eq_false h, decide_eq_false h2, abs_shl, odd_part_shl k hx, tz_shift hx, show e + ((tz z.natAbs + k : Nat) : Int) = e + k + tz z.natAbs by omega]
theorem mkN_shl (z : Int) (k : Nat) (e : Int) : mkN (z * 2 ^ k) e = mkN z (e + k) := by unfold mkN; rw [mkOk_shl, sg_shl]
theorem mkX_shl (z : Int) (k : Nat) (e : Int) : mkX (z * 2 ^ k) e = mkX z (e + k) := by
  unfold mkX; rw [mkOk_shl, abs_shl]
  by_cases h : z = 0
  · subst h; simp
  · rw [odd_part_shl k (by omega)]
theorem mkE_shl (z : Int) (k : Nat) (e : Int) : mkE (z * 2 ^ k) e = mkE z (e + k) := by
  unfold mkE; rw [mkOk_shl, abs_shl]
  by_cases h : z = 0
  · subst h; simp
  · have h2 : z * 2 ^ k ≠ 0 := fun h3 => h ((shl_ne z k).1 h3)
    rw [tz_shift (by omega), decide_eq_true h, decide_eq_true h2, show e + ((tz z.natAbs + k : Nat) : Int) = e + k + tz z.natAbs by omega]
theorem sg_sz {neg : Bool} {x : Nat} (h : x ≠ 0) : sg (sz neg x) = neg := by
  unfold sg sz; cases neg <;> simp <;> omega
theorem mkOk_id {neg : Bool} {x : Nat} {e : Int} (h : okD neg x e) : mkOk (sz neg x) e = true := by
  rcases h with ⟨rfl, rfl, rfl⟩ | ⟨h1, h2, h3, h4⟩
  · exact (mk_zero 0).1
  · refine mkOk_yes ?_ ?_ ?_ <;> rw [sz_abs, tz_odd h1]
    · simpa using h2
    · simpa using h3
    · simpa using h4
end Go.Proofs.Ytbfnafcpjbdbpaa

/- Dyads' values at one low power: plain arithmetic, no program in sight. -/
namespace Go.Proofs.Ytbfnafcpjbdbpaa
open Go Go.RowKit Go.PlainAid Fil

/-- a power below all that are met -/
def lowM : Nat := 8388608
theorem lowM_ge : (8388608 : Int) ≤ (lowM : Int) := by unfold lowM; omega
/-- the number z times 2^e, as a multiple of the low power -/
def W (z e : Int) : Int := z * 2 ^ (e + lowM).toNat

/-- a Dyad as it stands -/
structure DY where
  n : Bool
  x : Nat
  e : Int
namespace DY
def ok (a : DY) : Prop := okD a.n a.x a.e
def z (a : DY) : Int := sz a.n a.x
/-- the value at the low power -/
def v (a : DY) : Int := W a.z a.e
def zero : DY := ⟨false, 0, 0⟩
end DY
theorem DY.ok.lo {a : DY} (h : a.ok) : -(lowM : Int) ≤ a.e := by have h1 := okD.e1 h; have := lowM_ge; omega
/-- made's Dyad -/
def mkD (z e : Int) : DY := ⟨mkN z e, mkX z e, mkE z e⟩
theorem DY.eta {a b : DY} (h1 : a.n = b.n) (h2 : a.x = b.x) (h3 : a.e = b.e) : a = b := by
  cases a; cases b; simp only at h1 h2 h3; subst h1; subst h2; subst h3; rfl
theorem mkD_id {a : DY} (h : a.ok) : mkD a.z a.e = a := by
  have hk := mkOk_id h
  by_cases hz : a.z = 0
  · have hx : a.x = 0 := by rw [← sz_abs a.n a.x]; unfold DY.z at hz; rw [hz]; rfl
    obtain ⟨_, m1, m2, m3, _⟩ := mk_zero a.e
    rcases h with ⟨h1, h2, h3⟩ | h
    · refine DY.eta ?_ ?_ ?_ <;> simp only [mkD, hz]
      · rw [m1, h2]
      · rw [m2, h1]
      · rw [m3, h3]
    · omega
  · have hx : a.x ≠ 0 := fun h0 => hz (by unfold DY.z; rw [h0]; cases a.n <;> rfl)
    rcases h with ⟨h1, _⟩ | ⟨h1, h2, h3, h4⟩
    · exact absurd h1 hx
    · obtain ⟨m1, m2, m3, _⟩ := mk_good hk hz
      refine DY.eta ?_ ?_ ?_ <;> unfold mkD <;> simp only [DY.z] at *
      · rw [m1, sg_sz hx]
      · rw [m2, sz_abs, tz_odd h1]; simp
      · rw [m3, sz_abs, tz_odd h1]; simp
theorem mkD_W (z : Int) {e : Int} (h : -(lowM : Int) ≤ e) : mkD z e = mkD (W z e) (-(lowM : Int)) := by
  have h1 : -(lowM : Int) + ((e + lowM).toNat : Int) = e := by omega
  unfold mkD W
  rw [mkN_shl, mkX_shl, mkE_shl, h1]
theorem mkD_congr {z z' e e' : Int} (h : W z e = W z' e') (he : -(lowM : Int) ≤ e) (he' : -(lowM : Int) ≤ e') : mkD z e = mkD z' e' := by
  rw [mkD_W z he, mkD_W z' he', h]
/-- one value, one Dyad -/
theorem DY.inj {a b : DY} (ha : a.ok) (hb : b.ok) (h : a.v = b.v) : a = b := by
  rw [← mkD_id ha, ← mkD_id hb]; exact mkD_congr h ha.lo hb.lo
end Go.Proofs.Ytbfnafcpjbdbpaa

/- The walks over dyad.Of, Add. -/
namespace Go.Proofs.Ytbfnafcpjbdbpaa
open Go Go.RowKit Go.PlainAid Fil

theorem sz_zero (neg : Bool) : sz neg 0 = 0 := by cases neg <;> rfl

end Go.Proofs.Ytbfnafcpjbdbpaa

/- The walk over dyad.cut, where nothing is cut off. -/
namespace Go.Proofs.Ytbfnafcpjbdbpaa
open Go Go.RowKit Go.PlainAid Fil

end Go.Proofs.Ytbfnafcpjbdbpaa
