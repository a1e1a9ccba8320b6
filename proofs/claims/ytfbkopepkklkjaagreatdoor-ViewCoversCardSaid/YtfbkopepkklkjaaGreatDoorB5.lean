/- made's law, Dyads' values, dyad.Of, Add, cut where nothing is cut off. -/
import Derived.Test.YtfbkopepkklkjaaGreatDoorB4

/- made's answer, as a law of numbers: no program in sight. -/
namespace Go.Proofs.YtfbkopepkklkjaaGreatDoor
open Go Go.RowKit Go.PlainAid Fil

/-- made's answer as a value -/
def mkV (z e : Int) : Value := dyR (mkN z e) (mkX z e) (mkE z e) (mkR z e)

theorem abs_shl (z : Int) (k : Nat) : (z * 2 ^ k).natAbs = z.natAbs * 2 ^ k := by
 rw [Int.natAbs_mul]
 congr 1
theorem ppi (k : Nat) : (0 : Int) < 2 ^ k := by
 have : ((2 : Int) ^ k) = ((2 ^ k : Nat) : Int) := by push_cast; rfl
 rw [this]; have := pp k; omega
theorem sg_shl (z : Int) (k : Nat) : sg (z * 2 ^ k) = sg z := by
 unfold sg
 have h2 := ppi k
 by_cases h : z < 0
 ·rw [decide_eq_true h, decide_eq_true (Int.mul_neg_of_neg_of_pos h h2)]
 ·have : ¬ z * 2 ^ k < 0 := by
   have := Int.mul_nonneg (show 0 ≤ z by omega) (Int.le_of_lt h2)
   omega
  rw [decide_eq_false h, decide_eq_false this]
theorem shl_ne (z : Int) (k : Nat) : z * 2 ^ k = 0 ↔ z = 0 := by
 constructor
 ·intro h
  rcases Int.mul_eq_zero.1 h with h | h
  ·exact h
  ·have := ppi k; omega
 ·rintro rfl; rw [Int.zero_mul]
theorem odd_part_shl {x : Nat} (k : Nat) (h : x ≠ 0) : x * 2 ^ k / 2 ^ tz (x * 2 ^ k) = x / 2 ^ tz x := by
 rw [tz_shift h, Nat.add_comm, Nat.pow_add, ← Nat.div_div_eq_div_mul, Nat.mul_div_cancel _ (pp k)]
theorem mkOk_shl (z : Int) (k : Nat) (e : Int) : mkOk (z * 2 ^ k) e = mkOk z (e + k) := by
 by_cases h : z = 0
 ·subst h; rw [Int.zero_mul]; simp [mkOk]
 ·have hx : z.natAbs ≠ 0 := by omega
  have h2 : ¬ z * 2 ^ k = 0 := fun h3 => h ((shl_ne z k).1 h3)
  unfold mkOk
  rw [decide_eq_false h, decide_eq_false h2, abs_shl, odd_part_shl k hx, tz_shift hx, show e + ((tz z.natAbs + k : Nat) : Int) = e + k + tz z.natAbs by omega]
theorem mkN_shl (z : Int) (k : Nat) (e : Int) : mkN (z * 2 ^ k) e = mkN z (e + k) := by unfold mkN; rw [mkOk_shl, sg_shl]
theorem mkX_shl (z : Int) (k : Nat) (e : Int) : mkX (z * 2 ^ k) e = mkX z (e + k) := by
 unfold mkX; rw [mkOk_shl, abs_shl]
 by_cases h : z = 0
 ·subst h; simp
 ·rw [odd_part_shl k (by omega)]
theorem mkE_shl (z : Int) (k : Nat) (e : Int) : mkE (z * 2 ^ k) e = mkE z (e + k) := by
 unfold mkE; rw [mkOk_shl, abs_shl]
 by_cases h : z = 0
 ·subst h; simp
 ·have h2 : z * 2 ^ k ≠ 0 := fun h3 => h ((shl_ne z k).1 h3)
  rw [tz_shift (by omega), decide_eq_true h, decide_eq_true h2, show e + ((tz z.natAbs + k : Nat) : Int) = e + k + tz z.natAbs by omega]
theorem mkR_shl (z : Int) (k : Nat) (e : Int) : mkR (z * 2 ^ k) e = mkR z (e + k) := by unfold mkR; rw [mkOk_shl]
theorem mkV_shl (z : Int) (k : Nat) (e : Int) : mkV (z * 2 ^ k) e = mkV z (e + k) := by
 unfold mkV; rw [mkN_shl, mkX_shl, mkE_shl, mkR_shl]
theorem mkV_zero (e : Int) : mkV 0 e = dyR false 0 0 0 := by
 obtain ⟨_, h1, h2, h3, h4⟩ := mk_zero e
 unfold mkV; rw [h1, h2, h3, h4]
theorem mkV_bad {z e : Int} (h : mkOk z e = false) : mkV z e = dyR false 0 0 4 := by
 obtain ⟨h1, h2, h3, h4⟩ := mk_bad h
 unfold mkV; rw [h1, h2, h3, h4]

theorem sg_sz {neg : Bool} {x : Nat} (h : x ≠ 0) : sg (sz neg x) = neg := by
 unfold sg sz; cases neg <;> simp <;> omega
theorem mkOk_id {neg : Bool} {x : Nat} {e : Int} (h : okD neg x e) : mkOk (sz neg x) e = true := by
 rcases h with ⟨rfl, rfl, rfl⟩ | ⟨h1, h2, h3, h4⟩
 ·exact (mk_zero 0).1
 ·refine mkOk_yes ?_ ?_ ?_ <;> rw [sz_abs, tz_odd h1]
  ·simpa using h2
  ·simpa using h3
  ·simpa using h4
/-- a Dyad that may be is made's answer of itself -/
theorem mkV_id {neg : Bool} {x : Nat} {e : Int} (h : okD neg x e) : mkV (sz neg x) e = dyR neg x e 0 := by
 have hk := mkOk_id h
 rcases h with ⟨rfl, rfl, rfl⟩ | ⟨h1, h2, h3, h4⟩
 ·exact mkV_zero 0
 ·have hx : x ≠ 0 := by omega
  have hz : sz neg x ≠ 0 := fun h => hx (by rw [← sz_abs neg x, h]; rfl)
  obtain ⟨m1, m2, m3, m4⟩ := mk_good hk hz
  unfold mkV
  rw [m1, m2, m3, m4, sz_abs, tz_odd h1, sg_sz hx, Nat.pow_zero, Nat.div_one]
  simp

/-- two Dyads' sum, to the lower power -/
def addZ (za ea zb eb : Int) : Int := za * 2 ^ (ea - min ea eb).toNat + zb * 2 ^ (eb - min ea eb).toNat

theorem far_lt {M g a b : Nat} (hg : M + 9 ≤ g) (ha : 1 ≤ a) (hb : b < 2 ^ M) : 2 ^ (M + 8) + b < a * 2 ^ g := by
 have h1 : 2 ^ (M + 8) + 2 ^ M ≤ 2 ^ (M + 9) := by rw [Nat.pow_add, Nat.pow_add]; omega
 have h2 := pmono hg
 have h3 : 1 * 2 ^ g ≤ a * 2 ^ g := Nat.mul_le_mul_right _ ha
 omega
theorem far_abs {M g : Nat} {a b : Int} (hg : M + 9 ≤ g) (ha : a ≠ 0) (hb : b.natAbs < 2 ^ M) : 2 ^ (M + 8) ≤ (a * 2 ^ g + b).natAbs := by
 have h1 := far_lt hg (show 1 ≤ a.natAbs by omega) hb
 rw [← abs_shl] at h1
 omega
theorem far_bad {g : Nat} {a b e : Int} (hg : 131081 ≤ g) (ha : a ≠ 0) (hb : b.natAbs % 2 = 1) (hd : Fil.dn 8 b.natAbs ≤ 16384) : mkOk (a * 2 ^ g + b) e = false := by
 have h0 := lt_of_dn (k := 8) (by omega) hd
 have h1 : ∃ M : Nat, M = 8 * 16384 := ⟨_, rfl⟩
 obtain ⟨M, hM⟩ := h1
 rw [← hM] at h0
 have h2 := far_abs (M := M) (g := g) (a := a) (by omega) ha h0
 have hz : a * 2 ^ g + b ≠ 0 := by have := pp (M + 8); omega
 have h3 : (a * 2 ^ g + b).natAbs % 2 = 1 := by
  have : ((2 : Int) ^ g) = 2 * 2 ^ (g - 1) := by
   rw [show g = g - 1 + 1 by omega, Int.pow_succ]; rw [Int.mul_comm]; simp
  have h4 : a * 2 ^ g = 2 * (a * 2 ^ (g - 1)) := by rw [this, Int.mul_left_comm]
  omega
 refine mkOk_no1 hz ?_
 rw [tz_odd h3, Nat.pow_zero, Nat.div_one]
 obtain ⟨n, hn⟩ : ∃ n : Nat, n = 16385 := ⟨_, rfl⟩
 have h5 : n < Fil.dn 8 (a * 2 ^ g + b).natAbs := dn_ge (by omega) (Nat.le_trans (pmono (by omega)) h2)
 omega
theorem add_far {na nb : Bool} {xa xb : Nat} {ea eb : Int} (ha : okD na xa ea) (hb : okD nb xb eb) (hxa : xa ≠ 0) (hxb : xb ≠ 0) (hg : 131080 < max ea eb - min ea eb) (e : Int) :
  mkOk (addZ (sz na xa) ea (sz nb xb) eb) e = false := by
 have oa : xa % 2 = 1 := by rcases ha with ⟨h, _⟩ | h; exact absurd h hxa; exact h.1
 have ob : xb % 2 = 1 := by rcases hb with ⟨h, _⟩ | h; exact absurd h hxb; exact h.1
 have za : sz na xa ≠ 0 := fun h => hxa (by rw [← sz_abs na xa, h]; rfl)
 have zb : sz nb xb ≠ 0 := fun h => hxb (by rw [← sz_abs nb xb, h]; rfl)
 unfold addZ
 rcases Int.le_total ea eb with h | h
 ·rw [show min ea eb = ea by omega, Int.sub_self, Int.toNat_zero, Int.pow_zero, Int.mul_one, Int.add_comm]
  exact far_bad (by omega) zb (by rw [sz_abs]; exact oa) (by rw [sz_abs]; exact ha.dn)
 ·rw [show min ea eb = eb by omega, Int.sub_self, Int.toNat_zero, Int.pow_zero, Int.mul_one]
  exact far_bad (by omega) za (by rw [sz_abs]; exact ob) (by rw [sz_abs]; exact hb.dn)
theorem add_zero_left {ea : Int} {nb : Bool} {xb : Nat} {eb : Int} (hb : okD nb xb eb) : mkV (addZ 0 ea (sz nb xb) eb) (min ea eb) = dyR nb xb eb 0 := by
 unfold addZ
 rw [Int.zero_mul, Int.zero_add, mkV_shl, show min ea eb + ((eb - min ea eb).toNat : Int) = eb by omega, mkV_id hb]
theorem add_zero_right {eb : Int} {na : Bool} {xa : Nat} {ea : Int} (ha : okD na xa ea) : mkV (addZ (sz na xa) ea 0 eb) (min ea eb) = dyR na xa ea 0 := by
 unfold addZ
 rw [Int.zero_mul, Int.add_zero, mkV_shl, show min ea eb + ((ea - min ea eb).toNat : Int) = ea by omega, mkV_id ha]

theorem dn32_shl {x k : Nat} (h : Fil.dn 8 x ≤ 16384) (hk : k ≤ 200000) : Fil.dn 32 (x * 2 ^ k) ≤ 16384 := by
 have h0 := lt_of_dn (k := 8) (by omega) h
 obtain ⟨M, hM⟩ : ∃ M : Nat, M = 8 * 16384 := ⟨_, rfl⟩
 rw [← hM] at h0
 obtain ⟨n, hn⟩ : ∃ n : Nat, n = 16384 := ⟨_, rfl⟩
 rw [← hn]
 refine dn_le (by omega) (Nat.lt_of_lt_of_le (Nat.mul_lt_mul_of_pos_right h0 (pp k)) ?_)
 rw [← Nat.pow_add]
 exact pmono (by omega)
theorem dn32_sum {a b : Int} {n : Nat} (ha : Fil.dn 32 a.natAbs ≤ n) (hb : Fil.dn 32 b.natAbs ≤ n) : Fil.dn 32 (a + b).natAbs ≤ n + 1 := by
 have h1 := lt_of_dn (k := 32) (by omega) ha
 have h2 := lt_of_dn (k := 32) (by omega) hb
 refine dn_le (by omega) ?_
 rw [pstep]
 omega
end Go.Proofs.YtfbkopepkklkjaaGreatDoor

/- Dyads' values at one low power: plain arithmetic, no program in sight. -/
namespace Go.Proofs.YtfbkopepkklkjaaGreatDoor
open Go Go.RowKit Go.PlainAid Fil

/-- a power below all that are met -/
def lowM : Nat := 8388608
theorem lowM_ge : (8388608 : Int) ≤ (lowM : Int) := by unfold lowM; omega
/-- the number z times 2^e, as a multiple of the low power -/
def W (z e : Int) : Int := z * 2 ^ (e + lowM).toNat

theorem ipow_add (a b : Nat) : (2 : Int) ^ (a + b) = 2 ^ a * 2 ^ b := Int.pow_add 2 a b
theorem W_shl (z : Int) (k : Nat) {e : Int} (h : -(lowM : Int) ≤ e) : W (z * 2 ^ k) e = W z (e + k) := by
 unfold W
 rw [show (e + k + lowM).toNat = k + (e + lowM).toNat by omega, ipow_add, Int.mul_assoc]
theorem mkV_W (z : Int) {e : Int} (h : -(lowM : Int) ≤ e) : mkV z e = mkV (W z e) (-(lowM : Int)) := by
 unfold W; rw [mkV_shl]; congr 1; omega
theorem mkOk_W (z : Int) {e : Int} (h : -(lowM : Int) ≤ e) : mkOk z e = mkOk (W z e) (-(lowM : Int)) := by
 unfold W; rw [mkOk_shl]; congr 1; omega
theorem W_zero_left (e : Int) : W 0 e = 0 := Int.zero_mul _
theorem W_neg (z e : Int) : W (-z) e = -W z e := Int.neg_mul _ _
theorem W_sign (z e : Int) : (W z e).sign = z.sign := by
 unfold W
 rw [Int.sign_mul, Int.sign_eq_one_of_pos (ppi _), Int.mul_one]
theorem W_add (za zb : Int) {ea eb : Int} (ha : -(lowM : Int) ≤ ea) (hb : -(lowM : Int) ≤ eb) : W (addZ za ea zb eb) (min ea eb) = W za ea + W zb eb := by
 have h1 : W (za * 2 ^ (ea - min ea eb).toNat) (min ea eb) = W za ea := by
  rw [W_shl _ _ (by omega)]; congr 1; omega
 have h2 : W (zb * 2 ^ (eb - min ea eb).toNat) (min ea eb) = W zb eb := by
  rw [W_shl _ _ (by omega)]; congr 1; omega
 rw [← h1, ← h2]
 unfold addZ W
 rw [Int.add_mul]
theorem W_mul (z z' : Int) {e e' : Int} (h : -(lowM : Int) ≤ e) (h' : -(lowM : Int) ≤ e') (hs : -(lowM : Int) ≤ e + e') : W (z * z') (e + e') * 2 ^ lowM = W z e * W z' e' := by
 unfold W
 have h1 : (2 : Int) ^ (e + e' + lowM).toNat * 2 ^ lowM = 2 ^ (e + lowM).toNat * 2 ^ (e' + lowM).toNat := by
  rw [← ipow_add, ← ipow_add]; congr 1; omega
 rw [Int.mul_assoc, h1]
 generalize (2 : Int) ^ (e + lowM).toNat = p
 generalize (2 : Int) ^ (e' + lowM).toNat = q
 rw [Int.mul_assoc, Int.mul_assoc, Int.mul_left_comm z' p q]

theorem sz_shl (n : Bool) (x k : Nat) : sz n x * 2 ^ k = sz n (x * 2 ^ k) := by
 unfold sz
 cases n
 ·simp
 ·simp [Int.neg_mul]

/-- a Dyad as it stands -/
structure DY where
 n : Bool
 x : Nat
 e : Int
namespace DY
def ok (a : DY) : Prop := okD a.n a.x a.e
def z (a : DY) : Int := sz a.n a.x
/-- the value at the low power -/
def v (a : DY) : Int := W a.z a.e
def zero : DY := ⟨false, 0, 0⟩
end DY
theorem DY.zero_ok : DY.zero.ok := okD.zero
theorem DY.zero_v : DY.zero.v = 0 := W_zero_left _
theorem DY.ok.lo {a : DY} (h : a.ok) : -(lowM : Int) ≤ a.e := by have h1 := okD.e1 h; have := lowM_ge; omega
/-- made's Dyad -/
def mkD (z e : Int) : DY := ⟨mkN z e, mkX z e, mkE z e⟩
theorem mkD_ok (z e : Int) : (mkD z e).ok := mk_ok z e
theorem mkD_bad {z e : Int} (h : mkOk z e = false) : mkD z e = DY.zero := by
 obtain ⟨h1, h2, h3, _⟩ := mk_bad h
 unfold mkD; rw [h1, h2, h3]; rfl
theorem mkR_eq (z e : Int) : mkR z e = if mkOk z e then 0 else 4 := rfl
/-- its value -/
theorem mkD_v {z e : Int} (h : mkOk z e = true) (he : -(lowM : Int) ≤ e) : (mkD z e).v = W z e := by
 by_cases hz : z = 0
 ·subst hz
  obtain ⟨_, h1, h2, h3, _⟩ := mk_zero e
  unfold mkD DY.v DY.z; rw [h1, h2, h3, W_zero_left]; exact W_zero_left 0
 ·obtain ⟨h1, h2, h3, _⟩ := mk_good h hz
  unfold mkD DY.v DY.z
  simp only [h1, h2, h3]
  rw [← W_shl _ _ he, sz_shl, tz_mul, sz_self]
theorem DY.eta {a b : DY} (h1 : a.n = b.n) (h2 : a.x = b.x) (h3 : a.e = b.e) : a = b := by
 cases a; cases b; simp only at h1 h2 h3; subst h1; subst h2; subst h3; rfl
theorem mkD_id {a : DY} (h : a.ok) : mkD a.z a.e = a := by
 have hk := mkOk_id h
 by_cases hz : a.z = 0
 ·have hx : a.x = 0 := by rw [← sz_abs a.n a.x]; unfold DY.z at hz; rw [hz]; rfl
  obtain ⟨_, m1, m2, m3, _⟩ := mk_zero a.e
  rcases h with ⟨h1, h2, h3⟩ | h
  ·refine DY.eta ?_ ?_ ?_ <;> simp only [mkD, hz]
   ·rw [m1, h2]
   ·rw [m2, h1]
   ·rw [m3, h3]
  ·omega
 ·have hx : a.x ≠ 0 := fun h0 => hz (by unfold DY.z; rw [h0]; cases a.n <;> rfl)
  rcases h with ⟨h1, _⟩ | ⟨h1, h2, h3, h4⟩
  ·exact absurd h1 hx
  ·obtain ⟨m1, m2, m3, _⟩ := mk_good hk hz
   refine DY.eta ?_ ?_ ?_ <;> unfold mkD <;> simp only [DY.z] at *
   ·rw [m1, sg_sz hx]
   ·rw [m2, sz_abs, tz_odd h1]; simp
   ·rw [m3, sz_abs, tz_odd h1]; simp
theorem mkD_W (z : Int) {e : Int} (h : -(lowM : Int) ≤ e) : mkD z e = mkD (W z e) (-(lowM : Int)) := by
 have h1 : -(lowM : Int) + ((e + lowM).toNat : Int) = e := by omega
 unfold mkD W
 rw [mkN_shl, mkX_shl, mkE_shl, h1]
theorem mkD_congr {z z' e e' : Int} (h : W z e = W z' e') (he : -(lowM : Int) ≤ e) (he' : -(lowM : Int) ≤ e') : mkD z e = mkD z' e' := by
 rw [mkD_W z he, mkD_W z' he', h]
theorem mkOk_congr {z z' e e' : Int} (h : W z e = W z' e') (he : -(lowM : Int) ≤ e) (he' : -(lowM : Int) ≤ e') : mkOk z e = mkOk z' e' := by
 rw [mkOk_W z he, mkOk_W z' he', h]
theorem DY.v_sign (a : DY) : a.v.sign = a.z.sign := W_sign _ _
/-- sum, difference, product: the Dyad, the error -/
def yAdd (a b : DY) : DY × Int := (mkD (addZ a.z a.e b.z b.e) (min a.e b.e), mkR (addZ a.z a.e b.z b.e) (min a.e b.e))
def yNeg (a : DY) : DY := ⟨!a.n && decide (a.x ≠ 0), a.x, a.e⟩
def yMul (a b : DY) : DY × Int := (mkD (a.z * b.z) (a.e + b.e), mkR (a.z * b.z) (a.e + b.e))
def ySub (a b : DY) : DY × Int := yAdd a (yNeg b)
end Go.Proofs.YtfbkopepkklkjaaGreatDoor

/- The walks over dyad.Of, Add. -/
namespace Go.Proofs.YtfbkopepkklkjaaGreatDoor
open Go Go.RowKit Go.PlainAid Fil

set_option maxHeartbeats 1000000 in
theorem dof_any (z e : Int) (w : World) (hT : Tab w) (h0 : -9223372036854775808 ≤ z) (h1 : z ≤ 9223372036854775807) (he1 : -9223372036854775808 ≤ e) (he2 : e ≤ 9223372036854775807) :
  Calls Tryz.prog 25 #[.int .i64 z, .int .i64 e] w fun r w' => r = .returned (mkV z e) ∧ Below w.heap.size w w' := by
 have hT' := hT.alloc (Obj.cells #[.bool false, .string { data := #[] }, .int .i64 0] 24)
 have hd : Fil.dn 32 z.natAbs ≤ 2 := dn_le (by omega) (by omega)
 go_enter Tryz.func25, Tryz.ntmps25
 go_wp2_with fail
 refine (newint_any z _ h0 h1).mono ?_
 rintro r w1 ⟨rfl, hI, hb1⟩
 have hs1 : (w.alloc (Obj.cells #[.bool false, .string { data := #[] }, .int .i64 0] 24)).heap.size = w.heap.size + 1 := by simp
 have hT1 := hT'.below hb1
 rw [hs1] at hI hb1
 go_wp2_with fail
 refine (made_any _ 0 z e w1 hI (by omega) hT1 he1 he2).mono ?_
 rintro r w2 ⟨rfl, hb2⟩
 obtain ⟨c0, c1, c2, f0, f1, f2⟩ := DyAt.new w w.heap.size false { data := #[] } 0 rfl (hb1.trans (hb2.mono hb1.size |>.mono (by omega)))
 have hB : Below w.heap.size w w2 := ((Below.refl _ _).alloc (Nat.le_refl _) _).trans ((hb1.mono (by omega)).trans (hb2.mono (by have := hb1.size; omega)))
 have hbZ : Below w.heap.size w (((w2.setCell ⟨w.heap.size, 0, none⟩ (.bool (mkN z e))).setCell ⟨w.heap.size, 1, none⟩ (.string (bstr (mkX z e)))).setCell ⟨w.heap.size, 2, none⟩ (.int .i64 (mkE z e))) := ((hB.setCell (Nat.le_refl _) _).setCell (Nat.le_refl _) _).setCell (Nat.le_refl _) _
 clear hb1 hb2 hB hI hT1 hT' hd
 unfold dyR
 go_wp2
 exact bodyPost_ret (v := .tuple #[.agg #[.bool (mkN z e), .string (bstr (mkX z e)), .int .i64 (mkE z e)], .int .i64 (mkR z e)]) (by simp [results, Tryz.results25, go_sem, c0, c1, c2]) rfl ⟨rfl, hbZ⟩

/-- the blocks of a call of two Dyads and one to answer -/
theorem dy_three (w : World) (na : Bool) (sa : ByteArray) (ea : Int) (nb : Bool) (sb : ByteArray) (eb : Int) {w' : World}
  (h : Below (w.heap.size + 1 + 1 + 1) (((w.alloc (.cells #[.bool na, .string sa, .int .i64 ea] 24)).alloc (.cells #[.bool nb, .string sb, .int .i64 eb] 24)).alloc (.cells #[.bool false, .string { data := #[] }, .int .i64 0] 24)) w') :
  DyAt w' w.heap.size na sa ea ∧ DyAt w' (w.heap.size + 1) nb sb eb ∧ DyAt w' (w.heap.size + 1 + 1) false { data := #[] } 0 ∧ Below w.heap.size w w' ∧ w.heap.size + 1 + 1 + 1 ≤ w'.heap.size := by
 have s1 : (w.alloc (.cells #[.bool na, .string sa, .int .i64 ea] 24)).heap.size = w.heap.size + 1 := by simp
 have s2 : ((w.alloc (.cells #[.bool na, .string sa, .int .i64 ea] 24)).alloc (.cells #[.bool nb, .string sb, .int .i64 eb] 24)).heap.size = w.heap.size + 1 + 1 := by simp
 have s3 : (((w.alloc (.cells #[.bool na, .string sa, .int .i64 ea] 24)).alloc (.cells #[.bool nb, .string sb, .int .i64 eb] 24)).alloc (.cells #[.bool false, .string { data := #[] }, .int .i64 0] 24)).heap.size = w.heap.size + 1 + 1 + 1 := by simp
 have h2 := ((Below.refl (w.heap.size + 1 + 1) _).alloc (by rw [s2]; exact Nat.le_refl _) (.cells #[.bool false, .string { data := #[] }, .int .i64 0] 24)).trans (h.mono (by omega))
 have h3 := ((Below.refl (w.heap.size + 1) _).alloc (by rw [s1]; exact Nat.le_refl _) (.cells #[.bool nb, .string sb, .int .i64 eb] 24)).trans (h2.mono (by omega))
 have hs := h.size
 rw [s3] at hs
 exact ⟨DyAt.new w _ na sa ea rfl h3, DyAt.new _ _ nb sb eb s1 h2, DyAt.new _ _ false _ 0 s2 h, ((Below.refl _ _).alloc (Nat.le_refl _) _).trans (h3.mono (by omega)), hs⟩

/-- two Dyads in a slice -/
theorem dys_two (W : World) (B : Nat) (hB : W.heap.size = B) (na : Bool) (sa : ByteArray) (ea : Int) (nb : Bool) (sb : ByteArray) (eb : Int) :
  Dys (W.alloc (.cells #[.bool na, .string sa, .int .i64 ea, .bool nb, .string sb, .int .i64 eb] 24)) (some ⟨B, 0, none⟩) 2 (fun i => if i = 0 then na else nb) (fun i => if i = 0 then sa else sb) (fun i => if i = 0 then ea else eb) := fun _ => by
 subst hB
 refine ⟨W.heap.size, 0, rfl, by simp, fun i hi => ?_⟩
 have hc := heap_alloc_new W (.cells #[.bool na, .string sa, .int .i64 ea, .bool nb, .string sb, .int .i64 eb] 24)
 rcases (show i = 0 ∨ i = 1 by omega) with rfl | rfl
 ·exact ⟨by rw [cell_of_row _ W.heap.size _ _ 24 (0, 0) hc]; rfl, by rw [cell_of_row _ W.heap.size _ _ 24 (0, 0) hc]; rfl, by rw [cell_of_row _ W.heap.size _ _ 24 (0, 0) hc]; rfl⟩
 ·exact ⟨by rw [cell_of_row _ W.heap.size _ _ 24 (0, 0) hc]; rfl, by rw [cell_of_row _ W.heap.size _ _ 24 (0, 0) hc]; rfl, by rw [cell_of_row _ W.heap.size _ _ 24 (0, 0) hc]; rfl⟩
theorem allB_two (f : Nat → Bool) : allB 2 f = (f 0 && f 1) := by
 show (f 0 && (f 1 && true)) = _
 rw [Bool.and_true]
/-- the call of all over two Dyads in blocks of their own, behind a call's opening -/
theorem all_two (w : World) (na : Bool) (sa : ByteArray) (ea : Int) (nb : Bool) (sb : ByteArray) (eb : Int) (hsa : sa.size ≤ 9223372036854775807) (hsb : sb.size ≤ 9223372036854775807) :
  Calls Tryz.prog 53 #[.slice (some ⟨w.heap.size + 1 + 1 + 1, 0, none⟩) 2 2] ((((w.alloc (.cells #[.bool na, .string sa, .int .i64 ea] 24)).alloc (.cells #[.bool nb, .string sb, .int .i64 eb] 24)).alloc (.cells #[.bool false, .string { data := #[] }, .int .i64 0] 24)).alloc (.cells #[.bool na, .string sa, .int .i64 ea, .bool nb, .string sb, .int .i64 eb] 24)) fun r w' =>
   r = .returned (.bool (mayB na sa ea && mayB nb sb eb)) ∧ Below (w.heap.size + 1 + 1 + 1) (((w.alloc (.cells #[.bool na, .string sa, .int .i64 ea] 24)).alloc (.cells #[.bool nb, .string sb, .int .i64 eb] 24)).alloc (.cells #[.bool false, .string { data := #[] }, .int .i64 0] 24)) w' := by
 have s3 : (((w.alloc (.cells #[.bool na, .string sa, .int .i64 ea] 24)).alloc (.cells #[.bool nb, .string sb, .int .i64 eb] 24)).alloc (.cells #[.bool false, .string { data := #[] }, .int .i64 0] 24)).heap.size = w.heap.size + 1 + 1 + 1 := by simp
 have h := all_any _ 2 2 _ _ _ _ (by omega) (dys_two _ _ s3 na sa ea nb sb eb) (fun i _ => by by_cases e : i = 0 <;> simp only [e, if_true, if_false] <;> assumption)
 refine h.mono ?_
 rintro r w' ⟨rfl, hb⟩
 refine ⟨?_, ((Below.refl _ _).alloc (by omega) _).trans (hb.mono (by simp))⟩
 rw [allB_two]; rfl

theorem sz_zero (neg : Bool) : sz neg 0 = 0 := by cases neg <;> rfl

set_option maxHeartbeats 1000000 in
theorem dadd_ok (na : Bool) (xa : Nat) (ea : Int) (nb : Bool) (xb : Nat) (eb : Int) (w : World) (ha : okD na xa ea) (hb : okD nb xb eb) (hT : Tab w) :
  Calls Tryz.prog 94 #[.agg #[.bool na, .string (bstr xa), .int .i64 ea], .agg #[.bool nb, .string (bstr xb), .int .i64 eb]] w fun r w' => r = .returned (mkV (addZ (sz na xa) ea (sz nb xb) eb) (min ea eb)) ∧ Below w.heap.size w w' := by
 have Hall := all_two w na (bstr xa) ea nb (bstr xb) eb (bstr_len ha) (bstr_len hb)
 rw [mayB_ok ha, mayB_ok hb] at Hall
 by_cases hxa : xa = 0
 ·have HS := fun W => dsign_ok na xa ea W ha
  have H := Lib.hid (add_zero_left (ea := ea) hb)
  have hz := sz_sign_zero na
  subst hxa
  rw [hz] at HS
  rw [sz_zero na]
  go_enter Tryz.func94, Tryz.ntmps94
  go_wp2_with fail
  refine Hall.mono ?_
  rintro r w1 ⟨rfl, hb1⟩
  obtain ⟨⟨a0, a1, a2, -, -, -⟩, -, -, -, hs1⟩ := dy_three w na (bstr 0) ea nb (bstr xb) eb hb1
  go_wp2_with fail
  refine (HS _).mono ?_
  rintro r w2 ⟨rfl, hb2⟩
  obtain ⟨-, ⟨b0, b1, b2, -, -, -⟩, ⟨c0, c1, c2, f0, f1, f2⟩, hB, -⟩ := dy_three w na (bstr 0) ea nb (bstr xb) eb (hb1.trans (hb2.mono hs1))
  have hbZ : Below w.heap.size w (((w2.setCell ⟨w.heap.size + 1 + 1, 0, none⟩ (.bool nb)).setCell ⟨w.heap.size + 1 + 1, 1, none⟩ (.string (bstr xb))).setCell ⟨w.heap.size + 1 + 1, 2, none⟩ (.int .i64 eb)) := ((hB.setCell (by simp; omega) _).setCell (by simp; omega) _).setCell (by simp; omega) _
  clear hb1 hb2 hB Hall HS hs1 a0 a1 a2 hz hT
  go_wp2
  exact bodyPost_ret (v := .tuple #[.agg #[.bool nb, .string (bstr xb), .int .i64 eb], .int .i64 0]) (by simp [results, Tryz.results94, go_sem, c0, c1, c2]) rfl ⟨by rw [H.out]; rfl, hbZ⟩
 ·by_cases hxb : xb = 0
  ·have HS := fun W => dsign_ok na xa ea W ha
   have HS2 := fun W => dsign_ok nb xb eb W hb
   have H := Lib.hid (add_zero_right (eb := eb) ha)
   have hz := sz_sign_zero nb
   have hzn := sz_sign_ne (neg := na) hxa
   subst hxb
   rw [hz] at HS2
   rw [sz_zero nb]
   go_enter Tryz.func94, Tryz.ntmps94
   go_wp2_with fail
   refine Hall.mono ?_
   rintro r w1 ⟨rfl, hb1⟩
   obtain ⟨⟨a0, a1, a2, -, -, -⟩, -, -, -, hs1⟩ := dy_three w na (bstr xa) ea nb (bstr 0) eb hb1
   go_wp2_with fail
   refine (HS _).mono ?_
   rintro r w2 ⟨rfl, hb2⟩
   have hb2' := hb1.trans (hb2.mono hs1)
   obtain ⟨-, ⟨b0, b1, b2, -, -, -⟩, -, -, hs2⟩ := dy_three w na (bstr xa) ea nb (bstr 0) eb hb2'
   clear a0 a1 a2
   go_wp2_with fail
   refine (HS2 _).mono ?_
   rintro r w3 ⟨rfl, hb3⟩
   obtain ⟨⟨a0, a1, a2, -, -, -⟩, -, ⟨c0, c1, c2, f0, f1, f2⟩, hB, -⟩ := dy_three w na (bstr xa) ea nb (bstr 0) eb (hb2'.trans (hb3.mono hs2))
   have hbZ : Below w.heap.size w (((w3.setCell ⟨w.heap.size + 1 + 1, 0, none⟩ (.bool na)).setCell ⟨w.heap.size + 1 + 1, 1, none⟩ (.string (bstr xa))).setCell ⟨w.heap.size + 1 + 1, 2, none⟩ (.int .i64 ea)) := ((hB.setCell (by simp; omega) _).setCell (by simp; omega) _).setCell (by simp; omega) _
   clear hb1 hb2 hb2' hb3 hB Hall HS HS2 hs1 hs2 b0 b1 b2 hz hT
   go_wp2
   exact bodyPost_ret (v := .tuple #[.agg #[.bool na, .string (bstr xa), .int .i64 ea], .int .i64 0]) (by simp [results, Tryz.results94, go_sem, c0, c1, c2]) rfl ⟨by rw [H.out]; rfl, hbZ⟩
  ·have HS := fun W => dsign_ok na xa ea W ha
   have HS2 := fun W => dsign_ok nb xb eb W hb
   have hzn := sz_sign_ne (neg := na) hxa
   have hzn2 := sz_sign_ne (neg := nb) hxb
   have ia1 := ha.e1
   have ia2 := ha.e2
   have ib1 := hb.e1
   have ib2 := hb.e2
   by_cases hg : 131080 < max ea eb - min ea eb
   ·have H := Lib.hid (mkV_bad (add_far ha hb hxa hxb hg (min ea eb)))
    obtain ⟨lo, hlo⟩ : ∃ lo, lo = min ea eb := ⟨_, rfl⟩
    obtain ⟨hi, hhi⟩ : ∃ hi, hi = max ea eb := ⟨_, rfl⟩
    have hlo' := hlo.symm
    have hhi' := hhi.symm
    have i1 : -1048576 ≤ lo := by omega
    have i2 : lo ≤ 1048576 := by omega
    have i3 : -1048576 ≤ hi := by omega
    have i4 : hi ≤ 1048576 := by omega
    have hg2 : decide (131080 < hi - lo) = true := by rw [decide_eq_true_eq]; omega
    have hg3 : 131080 < hi - lo := by omega
    have Hm := Lib.hid (And.intro hlo hhi)
    clear hlo hhi hg hxa hxb
    go_enter Tryz.func94, Tryz.ntmps94
    go_wp2_with fail
    refine Hall.mono ?_
    rintro r w1 ⟨rfl, hb1⟩
    obtain ⟨⟨a0, a1, a2, -, -, -⟩, -, -, -, hs1⟩ := dy_three w na (bstr xa) ea nb (bstr xb) eb hb1
    go_wp2_with fail
    refine (HS _).mono ?_
    rintro r w2 ⟨rfl, hb2⟩
    have hb2' := hb1.trans (hb2.mono hs1)
    obtain ⟨-, ⟨b0, b1, b2, -, -, -⟩, -, -, hs2⟩ := dy_three w na (bstr xa) ea nb (bstr xb) eb hb2'
    clear a0 a1 a2
    go_wp2_with fail
    refine (HS2 _).mono ?_
    rintro r w3 ⟨rfl, hb3⟩
    clear b0 b1 b2
    obtain ⟨⟨a0, a1, a2, -, -, -⟩, ⟨b0, b1, b2, -, -, -⟩, ⟨c0, c1, c2, f0, f1, f2⟩, hB, -⟩ := dy_three w na (bstr xa) ea nb (bstr xb) eb (hb2'.trans (hb3.mono hs2))
    have hbZ : Below w.heap.size w (((w3.setCell ⟨w.heap.size + 1 + 1, 0, none⟩ (.bool false)).setCell ⟨w.heap.size + 1 + 1, 1, none⟩ (.string { data := #[] })).setCell ⟨w.heap.size + 1 + 1, 2, none⟩ (.int .i64 0)) := ((hB.setCell (by simp; omega) _).setCell (by simp; omega) _).setCell (by simp; omega) _
    clear hb1 hb2 hb2' hb3 hB Hall HS HS2 hs1 hs2 hT ia1 ia2 ib1 ib2 ha hb
    go_wp2
    exact bodyPost_ret (v := .tuple #[.agg #[.bool false, .string { data := #[] }, .int .i64 0], .int .i64 4]) (by simp [results, Tryz.results94, go_sem, c0, c1, c2]) rfl ⟨by rw [H.out]; exact dyR_none ⟨rfl, rfl, rfl, rfl⟩, hbZ⟩
   ·obtain ⟨lo, hlo⟩ : ∃ lo, lo = min ea eb := ⟨_, rfl⟩
    obtain ⟨hi, hhi⟩ : ∃ hi, hi = max ea eb := ⟨_, rfl⟩
    obtain ⟨ka, hka⟩ : ∃ ka : Nat, ka = (ea - lo).toNat := ⟨_, rfl⟩
    obtain ⟨kb, hkb⟩ : ∃ kb : Nat, kb = (eb - lo).toNat := ⟨_, rfl⟩
    have hlo' := hlo.symm
    have hhi' := hhi.symm
    have i1 : -1048576 ≤ lo := by omega
    have i2 : lo ≤ 1048576 := by omega
    have i3 : -1048576 ≤ hi := by omega
    have i4 : hi ≤ 1048576 := by omega
    have hg2 : decide (131080 < hi - lo) = false := by rw [decide_eq_false_iff_not]; omega
    have hg3 : ¬ 131080 < hi - lo := by omega
    have j1 : ea - lo = (ka : Int) := by omega
    have j2 : eb - lo = (kb : Int) := by omega
    have j3 : ka ≤ 131080 := by omega
    have j4 : kb ≤ 131080 := by omega
    have H : Hid (addZ (sz na xa) ea (sz nb xb) eb = sz na xa * 2 ^ ka + sz nb xb * 2 ^ kb) := Lib.hid (by unfold addZ; rw [← hlo, ← hka, ← hkb])
    have da := Lib.hid (show Fil.dn 32 (sz na xa).natAbs ≤ 16384 ∧ Fil.dn 32 (sz na xa * 2 ^ ka).natAbs ≤ 16384 by
     rw [abs_shl, sz_abs]; exact ⟨by have := dn32_shl (k := 0) ha.dn (by omega); simpa using this, dn32_shl ha.dn (by omega)⟩)
    have db := Lib.hid (show Fil.dn 32 (sz nb xb).natAbs ≤ 16384 ∧ Fil.dn 32 (sz nb xb * 2 ^ kb).natAbs ≤ 16384 by
     rw [abs_shl, sz_abs]; exact ⟨by have := dn32_shl (k := 0) hb.dn (by omega); simpa using this, dn32_shl hb.dn (by omega)⟩)
    have HW := fun W => whole_any na xa ea W ha
    have HW2 := fun W => whole_any nb xb eb W hb
    obtain ⟨Z, hZ⟩ : ∃ Z, Z = sz na xa * 2 ^ ka + sz nb xb * 2 ^ kb := ⟨_, rfl⟩
    have dZ : Fil.dn 32 Z.natAbs ≤ 16385 := by rw [hZ]; exact dn32_sum da.out.2 db.out.2
    rw [← hlo, H.out, ← hZ]
    have HZ := Lib.hid hZ
    clear hZ
    have Hm := Lib.hid (And.intro hlo (And.intro hhi (And.intro hka hkb)))
    have Hj := Lib.hid (And.intro j3 j4)
    clear hlo hhi hka hkb hg hxa hxb ha hb
    have j5 : (ka : Int) ≤ 131080 := by omega
    have j6 : (kb : Int) ≤ 131080 := by omega
    have j7 : 0 ≤ (ka : Int) := by omega
    have j8 : 0 ≤ (kb : Int) := by omega
    clear j3 j4
    go_enter Tryz.func94, Tryz.ntmps94
    go_wp2_with fail
    refine Hall.mono ?_
    rintro r w1 ⟨rfl, hb1⟩
    obtain ⟨⟨a0, a1, a2, -, -, -⟩, -, -, -, hs1⟩ := dy_three w na (bstr xa) ea nb (bstr xb) eb hb1
    go_wp2_with fail
    refine (HS _).mono ?_
    rintro r w2 ⟨rfl, hb2⟩
    have hb2' := hb1.trans (hb2.mono hs1)
    obtain ⟨-, ⟨b0, b1, b2, -, -, -⟩, -, -, hs2⟩ := dy_three w na (bstr xa) ea nb (bstr xb) eb hb2'
    clear a0 a1 a2 hb1 hb2 Hall HS hs1
    go_wp2_with fail
    refine (HS2 _).mono ?_
    rintro r w3 ⟨rfl, hb3⟩
    clear b0 b1 b2
    have hb3' := hb2'.trans (hb3.mono hs2)
    obtain ⟨⟨a0, a1, a2, -, -, -⟩, ⟨b0, b1, b2, -, -, -⟩, -, hB, hs3⟩ := dy_three w na (bstr xa) ea nb (bstr xb) eb hb3'
    clear hb2' hb3 HS2 hs2 ia1 ia2 ib1 ib2
    go_wp2_with fail
    refine (HW _).mono ?_
    rintro r w4 ⟨rfl, hI, hb4⟩
    have hb4' := hb3'.trans (hb4.mono hs3)
    have l4 := hI.lt
    generalize hp : w3.heap.size + 1 = p at *
    clear a0 a1 a2 b0 b1 b2 hB
    obtain ⟨-, ⟨b0, b1, b2, -, -, -⟩, -, -, hs4⟩ := dy_three w na (bstr xa) ea nb (bstr xb) eb hb4'
    have hp3 : w.heap.size + 1 + 1 + 1 ≤ p := by omega
    clear hb3' hb4 HW hs3 hp
    go_wp2_with fail
    refine (HW2 _).mono ?_
    rintro r w5 ⟨rfl, hJ, hb5⟩
    have hb5' := hb4'.trans (hb5.mono hs4)
    have hI5 := hI.below hb5
    have hpq : p < w4.heap.size + 1 := by omega
    generalize hq : w4.heap.size + 1 = q at *
    clear b0 b1 b2
    obtain ⟨⟨a0, a1, a2, -, -, -⟩, -, -, -, hs5⟩ := dy_three w na (bstr xa) ea nb (bstr xb) eb hb5'
    clear hb4' hb5 HW2 hs4 hq hI l4
    go_wp2_with fail
    refine (lsh_any p 0 p 0 ka _ _ hI5.room hI5 (by have := da.out; omega) (by have := Hj.out; omega)).mono ?_
    rintro r w6 ⟨rfl, hI6, hB6⟩
    have hJ6 := hJ.but hB6 (Or.inl (by omega))
    have hb6' := hb5'.trans (hB6.below hp3 hs5)
    clear a0 a1 a2
    obtain ⟨-, ⟨b0, b1, b2, -, -, -⟩, -, -, hs6⟩ := dy_three w na (bstr xa) ea nb (bstr xb) eb hb6'
    clear hb5' hB6 hJ hI5 hs5
    go_wp2_with fail
    refine (lsh_any q 0 q 0 kb _ _ hJ6.room hJ6 (by have := db.out; omega) (by have := Hj.out; omega)).mono ?_
    rintro r w7 ⟨rfl, hJ7, hB7⟩
    have hI7 := hI6.but hB7 (Or.inl (by omega))
    have hb7' := hb6'.trans (hB7.below (by omega) hs6)
    have hs7 := hb7'.size
    clear b0 b1 b2 hb6' hB7 hI6 hJ6
    go_wp2_with fail
    refine (add_any p 0 p 0 q 0 _ _ _ hI7.room hI7 hJ7 (by have := da.out; omega) (by have := db.out; omega)).mono ?_
    rintro r w8 ⟨rfl, hI8, hB8⟩
    rw [← HZ.out] at hI8
    have hb8' := hb7'.trans (hB8.below (by omega) (by have := (dy_three w na (bstr xa) ea nb (bstr xb) eb hb7').2.2.2.2; omega))
    have hT8 := hT.below (dy_three w na (bstr xa) ea nb (bstr xb) eb hb8').2.2.2.1
    have hs8 := (dy_three w na (bstr xa) ea nb (bstr xb) eb hb8').2.2.2.2
    clear hB8 hI7 hJ7 hb7' hs7 hs6
    go_wp2_with fail
    refine (made_any p 0 _ lo w8 hI8 (by omega) hT8 (by omega) (by omega)).mono ?_
    rintro r w9 ⟨rfl, hb9⟩
    obtain ⟨-, -, ⟨c0, c1, c2, f0, f1, f2⟩, hB, -⟩ := dy_three w na (bstr xa) ea nb (bstr xb) eb (hb8'.trans (hb9.mono hs8))
    have hbZ : Below w.heap.size w (((w9.setCell ⟨w.heap.size + 1 + 1, 0, none⟩ (.bool (mkN Z lo))).setCell ⟨w.heap.size + 1 + 1, 1, none⟩ (.string (bstr (mkX Z lo)))).setCell ⟨w.heap.size + 1 + 1, 2, none⟩ (.int .i64 (mkE Z lo))) := ((hB.setCell (by simp; omega) _).setCell (by simp; omega) _).setCell (by simp; omega) _
    clear hb9 hb8' hI8 hT8 hs8 hB
    unfold dyR
    go_wp2
    exact bodyPost_ret (v := .tuple #[.agg #[.bool (mkN Z lo), .string (bstr (mkX Z lo)), .int .i64 (mkE Z lo)], .int .i64 (mkR Z lo)]) (by simp [results, Tryz.results94, go_sem, c0, c1, c2]) rfl ⟨rfl, hbZ⟩
end Go.Proofs.YtfbkopepkklkjaaGreatDoor

/- The walk over dyad.cut, where nothing is cut off. -/
namespace Go.Proofs.YtfbkopepkklkjaaGreatDoor
open Go Go.RowKit Go.PlainAid Fil

/-- the call of SetBytes over a Dyad's number, into a new Int behind the Dyad's block -/
theorem set_new (neg : Bool) (x : Nat) (e : Int) (w : World) (hdn : Fil.dn 8 x ≤ 16384) :
  Calls Tryz.prog 96 #[.pointer (some ⟨w.heap.size + 1, 0, none⟩), .slice (some ⟨w.heap.size + 1 + 1, 0, none⟩) (Fil.dn 8 x) (convC ((w.alloc (.cells #[.bool neg, .string (bstr x), .int .i64 e] 24)).alloc (Obj.cells #[Value.bool false, Value.slice none 0 0] 155)) (bstr x))]
   (convW ((w.alloc (.cells #[.bool neg, .string (bstr x), .int .i64 e] 24)).alloc (Obj.cells #[Value.bool false, Value.slice none 0 0] 155)) (bstr x)) fun r w' =>
    r = .returned (.pointer (some ⟨w.heap.size + 1, 0, none⟩)) ∧ IntAt w' (w.heap.size + 1) 0 (x : Int) ∧ Below (w.heap.size + 1) (w.alloc (.cells #[.bool neg, .string (bstr x), .int .i64 e] 24)) w' := by
 have hbx : Below (w.alloc (.cells #[.bool neg, .string (bstr x), .int .i64 e] 24)).heap.size (w.alloc (.cells #[.bool neg, .string (bstr x), .int .i64 e] 24)) ((w.alloc (.cells #[.bool neg, .string (bstr x), .int .i64 e] 24)).alloc (Obj.cells #[Value.bool false, Value.slice none 0 0] 155)) := (Below.refl _ _).alloc (Nat.le_refl _) _
 have hr0 : Room ((w.alloc (.cells #[.bool neg, .string (bstr x), .int .i64 e] 24)).alloc (Obj.cells #[Value.bool false, Value.slice none 0 0] 155)) (w.alloc (.cells #[.bool neg, .string (bstr x), .int .i64 e] 24)).heap.size 0 := Room.new _ 155 _ (by decide) (by simp)
 have hsz1 : (w.alloc (.cells #[.bool neg, .string (bstr x), .int .i64 e] 24)).heap.size = w.heap.size + 1 := by simp
 rw [hsz1] at hr0 hbx
 have hsz2 : ((w.alloc (.cells #[.bool neg, .string (bstr x), .int .i64 e] 24)).alloc (Obj.cells #[Value.bool false, Value.slice none 0 0] 155)).heap.size = w.heap.size + 1 + 1 := by simp
 have hslc := convW_slc ((w.alloc (.cells #[.bool neg, .string (bstr x), .int .i64 e] 24)).alloc (Obj.cells #[Value.bool false, Value.slice none 0 0] 155)) x
 have hcb := convW_below ((w.alloc (.cells #[.bool neg, .string (bstr x), .int .i64 e] 24)).alloc (Obj.cells #[Value.bool false, Value.slice none 0 0] 155)) (bstr x)
 rw [hsz2] at hslc
 have hr1 := hr0.below hcb
 refine (setbytes_any (w.heap.size + 1) 0 _ (Fil.dn 8 x) _ x _ hr1 (lt_dn (by omega) x) (by omega) hslc).mono ?_
 rintro r w1 ⟨rfl, hI, hB⟩
 rw [hsz2] at hcb
 exact ⟨rfl, hI, hbx.trans ((hcb.mono (by omega)).trans (hB.below (Nat.le_refl _) (by have := hcb.size; omega)))⟩

set_option maxHeartbeats 2000000 in
theorem dcut_exact (neg : Bool) (x : Nat) (e top : Int) (last : Int) (k : Nat) (w : World) (h : okD neg x e) (ht1 : -1200000 ≤ top) (ht2 : top ≤ 1200000) (hl : last = max (top - 52) (-1074)) (hk : e - last = (k : Int)) (hf : x * 2 ^ k < 18446744073709551616) :
  Calls Tryz.prog 136 #[.agg #[.bool neg, .string (bstr x), .int .i64 e], .int .i64 top] w fun r w' => r = .returned (.tuple #[.int .u64 ((x * 2 ^ k : Nat) : Int), .int .i64 last, .int .i64 0, .bool true]) ∧ Below w.heap.size w w' := by
 have hsz := bstr_size x
 have hdn := h.dn
 have hrc := run_conv
 have e1 := h.e1
 have e2 := h.e2
 have hl' := hl.symm
 have hk0 : 0 ≤ (k : Int) := by omega
 have hk1 : (k : Int) ≤ 2300000 := by omega
 have hd1 : decide (last ≤ e) = true := by rw [decide_eq_true_eq]; omega
 have hl1 : -1074 ≤ last := by omega
 have hl2 : last ≤ 1200000 := by omega
 have H := Lib.hid h
 have Hf := Lib.hid hf
 have Hl := Lib.hid hl
 clear h hf hl
 go_enter Tryz.func136, Tryz.ntmps136
 go_wp2_with fail
 refine (set_new neg x e w hdn).mono ?_
 rintro r w1 ⟨rfl, hI, hb1⟩
 obtain ⟨c0, c1, c2, -, -, -⟩ := DyAt.new w w.heap.size neg (bstr x) e rfl hb1
 have hB : Below w.heap.size w w1 := ((Below.refl _ _).alloc (Nat.le_refl _) _).trans (hb1.mono (by omega))
 clear hb1
 go_wp2_with fail
 have hd32 : Fil.dn 32 ((x : Int)).natAbs ≤ 16384 := by have := dn32_shl (k := 0) hdn (by omega); simpa using this
 refine (lsh_any (w.heap.size + 1) 0 (w.heap.size + 1) 0 k (x : Int) _ hI.room hI (by omega) (by omega)).mono ?_
 rintro r w2 ⟨rfl, hI2, hB2⟩
 have hB3 : Below w.heap.size w w2 := hB.trans (hB2.below (by omega) hB.size)
 have hab : ((x : Int) * 2 ^ k).natAbs = x * 2 ^ k := abs_shl (x : Int) k
 clear hI hB2 hB c0 c1 c2
 go_wp2_with fail
 refine (uint64_any (w.heap.size + 1) 0 _ _ hI2 (by rw [hab]; exact Hf.out)).mono ?_
 rintro r w3 ⟨rfl, rfl⟩
 rw [hab]
 go_wp2
 go_returns
 exact ⟨rfl, hB3⟩
end Go.Proofs.YtfbkopepkklkjaaGreatDoor
