/- Go's own sums and products are the exact ones, rounded: plain arithmetic, no program in sight. -/
import Derived.Test.YtppebjnmollojaaGreatDoorV2
namespace Go.Proofs.YtppebjnmollojaaGreatDoor
open Go Go.RowKit Go.PlainAid Fil

theorem read_fl {b : Nat} (h : flQ b ≠ 2047) : Ieee.double.read b = .number (fs b) (flM b) (flE b) := by
  have hf := fr_fin h
  unfold Ieee.Format.read
  rw [d_sign, d_binade, d_inf, d_least]
  have e : b % 9223372036854775808 = fr b := rfl
  have e2 : (b / 9223372036854775808 % 2 == 1) = fs b := rfl
  simp only [e, e2]
  have hq : flQ b = fr b / 4503599627370496 := flQ_fr b
  have hm : fr b % 4503599627370496 = b % 4503599627370496 := by unfold fr; omega
  by_cases h1 : fr b < 4503599627370496
  · rw [if_pos h1]
    have h0 : flQ b = 0 := by omega
    have e3 : flM b = fr b := by unfold flM; rw [if_pos h0]; omega
    have e4 : flE b = -1074 := by unfold flE; rw [if_pos h0]; rfl
    rw [e3, e4]
  · rw [if_neg h1, if_pos hf]
    have h0 : flQ b ≠ 0 := by omega
    have e3 : flM b = 4503599627370496 + fr b % 4503599627370496 := by unfold flM; rw [if_neg h0]; omega
    have e4 : flE b = -1074 + ((fr b / 4503599627370496 - 1 : Nat) : Int) := by unfold flE; rw [if_neg h0]; omega
    rw [e3, e4]
/-- the float of an exact number -/
def OwnOf (o : Nat) (z e : Int) : Prop := (z ≠ 0 ∧ o = Ieee.double.word (sg z) (rgN z.natAbs e)) ∨ (z = 0 ∧ fr o = 0 ∧ o < 18446744073709551616)
theorem signed_sz (s : Bool) (m k : Nat) : Ieee.signed s m k = sz s m * 2 ^ k := by
  unfold Ieee.signed
  rw [Nat.shiftLeft_eq, sz_shl]
  rfl
theorem sum_num (s t : Bool) (m n : Nat) (i j : Int) : (Ieee.Datum.number s m i).sum (.number t n j) = some (.number (if addZ (sz s m) i (sz t n) j = 0 then (s && t) else decide (addZ (sz s m) i (sz t n) j < 0)) (addZ (sz s m) i (sz t n) j).natAbs (min i j)) := by
  simp only [Ieee.Datum.sum, signed_sz, addZ]
  rfl
theorem flM_53 (b : Nat) : flM b < 2 ^ 53 := flM_lt b
theorem yMul_small {a b : DY} (ha : a.ok) (hb : b.ok) {za ea zb eb : Int} (va : a.v = W za ea) (vb : b.v = W zb eb) (hea : -(lowM : Int) ≤ ea) (heb : -(lowM : Int) ≤ eb) (hs : -(lowM : Int) ≤ ea + eb) (hk : mkOk (za * zb) (ea + eb) = true) :
    (yMul a b).2 = 0 ∧ (yMul a b).1.v = W (za * zb) (ea + eb) := by
  have h1 : W (a.z * b.z) (a.e + b.e) = W (za * zb) (ea + eb) := by
    refine pow_cancel ?_
    rw [W_mul _ _ ha.lo hb.lo (lo_sum ha hb), W_mul _ _ hea heb hs, ← va, ← vb]; rfl
  have h2 := mkOk_congr h1 (lo_sum ha hb) hs
  have h3 : (yMul a b).2 = 0 := mkR_ok (h2.trans hk)
  exact ⟨h3, (mkD_v (h2.trans hk) (lo_sum ha hb)).trans h1⟩
/-- an exact number's nearest float is Go's own -/
structure Goes (d : DY) (o : Nat) : Prop where
  ok : d.ok
  lt : o < 18446744073709551616
  fr : fr o ≤ 9218868437227405312
  fk : fk (nearF d.n d.x d.e) = fk o
  same : d.x ≠ 0 → nearF d.n d.x d.e = o
theorem goes {d : DY} (hd : d.ok) {z e : Int} {o : Nat} (he : -(lowM : Int) ≤ e) (hv : d.v = W z e) (h : OwnOf o z e) : Goes d o := by
  rcases h with ⟨hz, ho⟩ | ⟨hz, h1, h2⟩
  · have hv' := hv
    rw [← sz_self z, show d.v = sz d.n (mg d.x d.e) from W_sz _ _ _, W_sz] at hv
    have hn : z.natAbs ≠ 0 := by omega
    obtain ⟨h1, h2⟩ := sz_inj hv.symm (mg_ne hn e)
    have hx : d.x ≠ 0 := by
      intro h0; rw [h0, mg_zero] at h2; exact mg_ne hn e h2
    have R := Go.Proofs.YtppebjnmollojaaGreatDoor.rung hn he
    have h3 := rgN_one (okD.rung hd hx) R h2.symm
    have h4 := rgN_le R
    have h5 : nearF d.n d.x d.e = o := by rw [nearF_eq hx, ho, h3, h1]
    refine ⟨hd, ?_, ?_, by rw [h5], fun _ => h5⟩
    · rw [ho]; exact word_lt (by omega)
    · rw [ho, fr_word (by omega)]; omega
  · subst hz
    rw [W_zero_left] at hv
    have hdz : d = DY.zero := DY.inj hd DY.zero_ok (by rw [hv, DY.zero_v])
    subst hdz
    refine ⟨hd, h2, by omega, ?_, fun h => absurd rfl h⟩
    rw [show nearF DY.zero.n DY.zero.x DY.zero.e = 0 from rfl, show Fil.fk 0 = 0 from rfl]
    unfold Fil.fk; rw [h1]; split <;> rfl
end Go.Proofs.YtppebjnmollojaaGreatDoor
