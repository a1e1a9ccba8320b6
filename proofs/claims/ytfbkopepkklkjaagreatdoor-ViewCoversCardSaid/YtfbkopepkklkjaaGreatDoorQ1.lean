/- Windows and squares: plain arithmetic, no program in sight. -/
import Derived.Test.YtfbkopepkklkjaaGreatDoorBC
namespace Go.Proofs.YtfbkopepkklkjaaGreatDoor
open Go Go.RowKit Go.PlainAid Fil

theorem unit_ok {z e : Int} {K : Nat} (hK : K ≤ 16384) (hz : z.natAbs < 2 ^ K) (h1 : -20000 ≤ e) (h2 : e ≤ 20000) : mkOk z e = true := by
  by_cases h0 : z = 0
  · subst h0; exact (mk_zero e).1
  have hn : z.natAbs ≠ 0 := by omega
  have h3 : tz z.natAbs < K := Nat.lt_of_le_of_lt (tz_le_log hn) ((Nat.log2_lt hn).2 hz)
  refine mkOk_yes ?_ ?_ ?_
  · refine Nat.le_trans (dn_le (n := K) (by omega) ?_) hK
    exact Nat.lt_of_lt_of_le (Nat.lt_of_le_of_lt (Nat.div_le_self _ _) hz) (pmono (by omega))
  · omega
  · omega
/-- n units of 2^e fit -/
theorem unit_fit {n e : Int} (hn : n.natAbs < 1099511627776) (h1 : -20000 ≤ e) (h2 : e ≤ 20000) : mkOk n e = true := unit_ok (K := 40) (by omega) (by rw [show (2 : Nat) ^ 40 = 1099511627776 by rfl]; exact hn) h1 h2
theorem unit_v {n e : Int} (hn : n.natAbs < 1099511627776) (h1 : -20000 ≤ e) (h2 : e ≤ 20000) : (mkD n e).v = W n e := mkD_v (unit_fit hn h1 h2) (by have := lowM_ge; omega)
theorem unit_r {n e : Int} (hn : n.natAbs < 1099511627776) (h1 : -20000 ≤ e) (h2 : e ≤ 20000) : mkR n e = 0 := mkR_ok (unit_fit hn h1 h2)
/-- a sum by its value -/
def vD (v : Int) : DY × Int := (mkD v (-(lowM : Int)), mkR v (-(lowM : Int)))
theorem mkR_W (z : Int) {e : Int} (h : -(lowM : Int) ≤ e) : mkR z e = mkR (W z e) (-(lowM : Int)) := by unfold mkR; rw [mkOk_W z h]
theorem yAdd_vD {a b : DY} (ha : a.ok) (hb : b.ok) : yAdd a b = vD (a.v + b.v) := by
  unfold yAdd vD
  rw [mkD_W _ (lo_min ha hb), mkR_W _ (lo_min ha hb), W_add _ _ ha.lo hb.lo]
  rfl
theorem vD_v {v : Int} (h : (vD v).2 = 0) : (vD v).1.v = v := by
  have h1 := mkD_v (mkR_zero h) (Int.le_refl _)
  have h2 : W v (-(lowM : Int)) = v := by
    unfold W
    rw [show (-(lowM : Int) + (lowM : Int)).toNat = 0 by omega]
    exact Int.mul_one v
  rw [h2] at h1
  exact h1
theorem vD_own {a : DY} (h : a.ok) : vD a.v = (a, 0) := by
  have h1 := mkD_W a.z h.lo
  have h2 := mkR_W a.z h.lo
  rw [mkD_id h] at h1
  rw [show mkR a.z a.e = 0 from mkR_ok (mkOk_id h)] at h2
  unfold vD
  show (mkD (W a.z a.e) _, mkR (W a.z a.e) _) = _
  rw [← h1, ← h2]
/-- moved: n units of 2^e more -/
def vM (d : DY) (n e : Int) : DY × Int := yAdd d (mkD n e)
theorem vM_ok (d : DY) (n e : Int) : (vM d n e).1.ok := yAdd_ok _ _
theorem vM_vD {d : DY} (hd : d.ok) {n e : Int} (hn : n.natAbs < 1099511627776) (h1 : -20000 ≤ e) (h2 : e ≤ 20000) : vM d n e = vD (d.v + W n e) := by
  unfold vM; rw [yAdd_vD hd (mkD_ok _ _), unit_v hn h1 h2]
theorem vM_v {d : DY} (hd : d.ok) {n e : Int} (hn : n.natAbs < 1099511627776) (h1 : -20000 ≤ e) (h2 : e ≤ 20000) (h : (vM d n e).2 = 0) : (vM d n e).1.v = d.v + W n e := by
  rw [vM_vD hd hn h1 h2] at h ⊢; exact vD_v h
theorem vM_e (d : DY) (n e : Int) : (vM d n e).2 = 0 ∨ vM d n e = (DY.zero, 4) := by
  have key : ∀ z f, mkR z f = 0 ∨ (mkD z f, mkR z f) = (DY.zero, (4 : Int)) := fun z f => by
    cases h : mkOk z f
    · right; rw [mkD_bad h, mkR_eq, h]; rfl
    · left; exact mkR_ok h
  exact key _ _
theorem vM_zero {d : DY} (hd : d.ok) (e : Int) : vM d 0 e = (d, 0) := by
  have : mkD 0 e = DY.zero := by
    obtain ⟨_, h1, h2, h3, _⟩ := mk_zero e
    exact DY.eta h1 h2 h3
  unfold vM
  rw [this, yAdd_vD hd DY.zero_ok, DY.zero_v, Int.add_zero, vD_own hd]
theorem W_two (n e : Int) (h : -20000 ≤ e) : W (2 * n) (e - 1) = W n e := by
  have hl := lowM_ge
  unfold W
  rw [show (e + (lowM : Int)).toNat = (e - 1 + (lowM : Int)).toNat + 1 by omega, Int.pow_succ, Int.mul_comm 2 n, Int.mul_assoc]
  congr 1
  exact Int.mul_comm _ _
theorem vM_two {d : DY} {n e : Int} (h : -19999 ≤ e) : vM d (2 * n) (e - 1) = vM d n e := by
  have hl := lowM_ge
  unfold vM
  rw [mkD_congr (W_two n e (by omega)) (by omega) (by omega)]
theorem W_unit (n e : Int) : W n e = n * W 1 e := by unfold W; rw [Int.one_mul]
theorem W_pos (e : Int) : 0 < W 1 e := by unfold W; rw [Int.one_mul]; exact ppi _
/-- a square, by its left edge, its lower edge -/
structure SQ where
  l : DY
  b : DY
  e : Int
def SQ.ok (s : SQ) : Prop := s.l.ok ∧ s.b.ok ∧ -4096 ≤ s.e ∧ s.e ≤ 4096
def SQ.zero : SQ := ⟨DY.zero, DY.zero, 0⟩
/-- two parts and the power, or none -/
def sB (p q : DY × Int) (e : Int) : SQ × Int := if p.2 = 0 ∧ q.2 = 0 then (⟨p.1, q.1, e⟩, 0) else (SQ.zero, 4)
theorem sB_yes {p q : DY × Int} (hp : p.2 = 0) (hq : q.2 = 0) (e : Int) : sB p q e = (⟨p.1, q.1, e⟩, 0) := if_pos ⟨hp, hq⟩
theorem sB_no {p q : DY × Int} (h : ¬ (p.2 = 0 ∧ q.2 = 0)) (e : Int) : sB p q e = (SQ.zero, 4) := if_neg h
/-- the first place below n at which p holds; n, if there is none -/
def lst : (Nat → Bool) → Nat → Nat
  | _, 0 => 0
  | p, n + 1 => if p 0 = true then 0 else lst (fun i => p (i + 1)) n + 1
theorem lst_le : ∀ (p : Nat → Bool) (n : Nat), lst p n ≤ n
  | _, 0 => Nat.le_refl _
  | p, n + 1 => by unfold lst; split; · omega
                   have := lst_le (fun i => p (i + 1)) n; omega
theorem lst_low : ∀ (p : Nat → Bool) (n t : Nat), t < lst p n → p t = false
  | _, 0, _, h => absurd h (Nat.not_lt_zero _)
  | p, n + 1, t, h => by
    unfold lst at h
    split at h
    · omega
    · rename_i h0
      cases t with
      | zero => cases hp : p 0 with
        | false => rfl
        | true => exact absurd hp h0
      | succ t => exact lst_low (fun i => p (i + 1)) n t (by omega)
theorem lst_at : ∀ (p : Nat → Bool) (n : Nat), lst p n < n → p (lst p n) = true
  | _, 0, h => absurd h (Nat.not_lt_zero _)
  | p, n + 1, h => by
    unfold lst at h ⊢
    split at h
    · rename_i h0; rw [if_pos h0]; exact h0
    · rename_i h0; rw [if_neg h0]; exact lst_at (fun i => p (i + 1)) n (by omega)
theorem lst_is {p : Nat → Bool} {n k : Nat} (hk : k ≤ n) (h1 : ∀ t, t < k → p t = false) (h2 : k < n → p k = true) : lst p n = k := by
  have a := lst_le p n
  rcases Nat.lt_trichotomy (lst p n) k with h | h | h
  · have h3 := lst_at p n (by omega)
    rw [h1 _ h] at h3; cases h3
  · exact h
  · have h3 := lst_low p n k h
    rw [h2 (by omega)] at h3; cases h3
/-- of n stretches of 2^e, the middle of all being 0, the first one that has d -/
def edB (d : DY) (n e : Int) (k : Nat) : Bool := decide (yCmp d (mkD (2 * ((k : Int) + 1) - n) (e - 1)) ≤ 0)
def amS (d : DY) (n e : Int) : Int × Bool :=
  if yCmp d (mkD (2 * 0 - n) (e - 1)) < 0 ∨ 0 < yCmp d (mkD (2 * n - n) (e - 1)) then (0, false) else ((lst (edB d n e) (n - 1).toNat : Nat), true)
theorem yCmp_le {a b : DY} : yCmp a b ≤ 0 ↔ a.v ≤ b.v := by
  have := @yCmp_gt a b
  omega
theorem edB_v {d : DY} {n e : Int} {k : Nat} (hn : n.natAbs < 1099511627) (hk : k < 1099511627) (h1 : -10000 ≤ e) (h2 : e ≤ 10000) : edB d n e k = decide (d.v ≤ (2 * ((k : Int) + 1) - n) * W 1 (e - 1)) := by
  unfold edB
  rw [decide_eq_decide, yCmp_le, unit_v (by omega) (by omega) (by omega), W_unit]
theorem edB_mono {d : DY} {n e : Int} {a b : Nat} (hn : n.natAbs < 1099511627) (hb : b < 1099511627) (h1 : -10000 ≤ e) (h2 : e ≤ 10000) (hab : a ≤ b) (h : edB d n e a = true) : edB d n e b = true := by
  rw [edB_v hn (by omega) h1 h2] at h
  rw [edB_v hn hb h1 h2]
  have h3 := of_decide_eq_true h
  refine decide_eq_true (Int.le_trans h3 ?_)
  exact Int.mul_le_mul_of_nonneg_right (by omega) (Int.le_of_lt (W_pos _))
end Go.Proofs.YtfbkopepkklkjaaGreatDoor
