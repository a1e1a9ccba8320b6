/- Merged: CK CL CM -/
import Derived.Test.YtfdnbogbankjjaaGreatDoorCJ
import Derived.Test.YtfdnbogbankjjaaGreatDoorFU

/- What All tells: one root each, none twice. In plain Lean. -/
namespace Go.Proofs.YtfdnbogbankjjaaGreatDoor
open Go Go.RowKit Go.PlainAid Fil

theorem fu_nneg {X : FV} {r : Nat} (h : Rl X r) (hs : fsb X = false) : 0 ≤ fu r := by
 rw [h.1] at hs
 have hl : r < 9223372036854775808 := by
  have h2 : decide (9223372036854775808 ≤ r) = false := hs
  have := of_decide_eq_false h2
  omega
 exact fu_nn (.inl (fs_lt hl))
/-- apart -/
theorem apart_no {b c : BV} {x0 y0 r0 x1 y1 r1 : Nat} {u : CQ} (g0 : GB b x0 y0 r0) (g1 : GB c x1 y1 r1) (h : apB b c = true) (h0 : InR ⟨fq x0, fq y0⟩ (fq r0) u) (h1 : InR ⟨fq x1, fq y1⟩ (fq r1) u) : False := by
 have e : apB b c = apZ (fu x0 - fu x1) (fu y0 - fu y1) (fu r0 + fu r1) := by
  unfold apB
  rw [fuv_fl g0.x, fuv_fl g0.y, fuv_fl g0.r, fuv_fl g1.x, fuv_fl g1.y, fuv_fl g1.r]
 rw [e] at h
 have n0 := fu_nneg g0.r g0.s
 have n1 := fu_nneg g1.r g1.s
 unfold apZ at h
 rw [decide_eq_false (by omega), Bool.false_or] at h
 have hlt := of_decide_eq_true h
 refine nb_apart ?_ h0 h1
 show (fq r0 + fq r1) * (fq r0 + fq r1) < (fq x0 - fq x1) * (fq x0 - fq x1) + (fq y0 - fq y1) * (fq y0 - fq y1)
 have k : (((fu r0 + fu r1) * (fu r0 + fu r1) : Int) : Rat) < (((fu x0 - fu x1) * (fu x0 - fu x1) + (fu y0 - fu y1) * (fu y0 - fu y1) : Int) : Rat) := Rat.intCast_lt_intCast.2 hlt
 have hPP := PP_pos
 have hinv : 0 < PP⁻¹ * PP⁻¹ := Rat.mul_pos (Rat.inv_pos.2 hPP) (Rat.inv_pos.2 hPP)
 have k2 := Rat.mul_lt_mul_of_pos_right k hinv
 unfold fq
 rw [Rat.div_def, Rat.div_def, Rat.div_def, Rat.div_def, Rat.div_def, Rat.div_def]
 simp only [Rat.intCast_mul, Rat.intCast_add, Rat.intCast_sub] at k2
 generalize (fu r0 : Rat) = a at *
 generalize (fu r1 : Rat) = b at *
 generalize (fu x0 : Rat) = c at *
 generalize (fu x1 : Rat) = d at *
 generalize (fu y0 : Rat) = f at *
 generalize (fu y1 : Rat) = g at *
 generalize PP⁻¹ = p at *
 have e1 : (a * p + b * p) * (a * p + b * p) = (a + b) * (a + b) * (p * p) := by grind
 have e2 : (c * p - d * p) * (c * p - d * p) + (f * p - g * p) * (f * p - g * p) = ((c - d) * (c - d) + (f - g) * (f - g)) * (p * p) := by grind
 rw [e1, e2]
 exact k2
theorem rtF_is {L : List CV} {T : List BV} {z : CV} {b : BV} (h : rtF L T z = some b) : ∃ r, ceF L (nwI L z 3) = some r ∧ b = (nwI L z 3, r) ∧ T.all (apB b) = true := by
 cases hc : ceF L (nwI L z 3) with
 | none => rw [rtF_none hc] at h; cases h
 | some r =>
  rw [rtF_some hc] at h
  cases ha : T.all (apB (nwI L z 3, r))
  ·rw [ha] at h; cases h
  ·rw [ha] at h
   cases h
   exact ⟨r, rfl, rfl, ha⟩
theorem saF_get (L P : List CV) : ∀ (k i : Nat) (h : i < k), ((saF L P k).1)[i]'(by rw [saF_len]; exact h) = (nwI L (P.getD i C00) 3, rtF L (saF L P i).2 (P.getD i C00))
 | k + 1, i, h => by
  have e : (saF L P (k + 1)).1 = (saF L P k).1 ++ [(nwI L (P.getD k C00) 3, rtF L (saF L P k).2 (P.getD k C00))] := rfl
  rcases Nat.lt_or_eq_of_le (Nat.le_of_lt_succ h) with c | c
  ·have hl : i < (saF L P k).1.length := by rw [saF_len]; exact c
   rw [getElem_congr_coll e, List.getElem_append_left hl]
   exact saF_get L P k i c
  ·subst c
   have hl : (saF L P i).1.length ≤ i := by rw [saF_len]; exact Nat.le_refl _
   rw [getElem_congr_coll e, List.getElem_append_right hl]
   simp [saF_len]
theorem saF_mem {L P : List CV} {b : BV} {i : Nat} (h : rtF L (saF L P i).2 (P.getD i C00) = some b) : ∀ k, i < k → b ∈ (saF L P k).2
 | k + 1, hk => by
  have e : (saF L P (k + 1)).2 = tlF (saF L P k).2 (rtF L (saF L P k).2 (P.getD k C00)) := rfl
  rw [e]
  rcases Nat.lt_or_eq_of_le (Nat.le_of_lt_succ hk) with c | c
  ·have ih := saF_mem h k c
   cases hc : rtF L (saF L P k).2 (P.getD k C00) with
   | none => exact ih
   | some d => exact List.mem_append_left _ ih
  ·subst c
   rw [h]
   exact List.mem_append_right _ (List.mem_singleton.2 rfl)
theorem saF_count (L P : List CV) : ∀ k, (saF L P k).1.countP (fun E => E.2.isSome) = (saF L P k).2.length
 | 0 => rfl
 | k + 1 => by
  show ((saF L P k).1 ++ [(nwI L (P.getD k C00) 3, rtF L (saF L P k).2 (P.getD k C00))]).countP _ = (tlF (saF L P k).2 (rtF L (saF L P k).2 (P.getD k C00))).length
  rw [List.countP_append, saF_count L P k]
  cases rtF L (saF L P k).2 (P.getD k C00) with
  | none => rfl
  | some d =>
   show _ + 1 = ((saF L P k).2 ++ [d]).length
   simp
/-- the points that All ends with are numbers -/
theorem end_real {L : List CV} (hS : ∀ i (hi : i < (sttF L).length), rFin (sttF L)[i] = true) (hw : ∀ i (hi : i < (itF L 64).length), Wd (itF L 64)[i].1 ∧ Wd (itF L 64)[i].2) {k : Nat} (hk : k < (itF L 64).length) :
  ∃ x y, Rl (nwI L ((itF L 64).getD k C00) 3).1 x ∧ Rl (nwI L ((itF L 64).getD k C00) 3).2 y := by
 rw [getD_get hk]
 exact nwI_real (hw k hk).1 (hw k hk).2 (itF_fin hS 64 k hk) 3
/-- what is told -/
theorem told_root {C : CV} {L : List CV} {l : List CQ} {b : BV} {T : List BV} {z : CV} (hL : Reals (C :: L)) (hl : L.length ≤ 16) (hz : ∃ x y, Rl (nwI (C :: L) z 3).1 x ∧ Rl (nwI (C :: L) z 3).2 y) (h : rtF (C :: L) T z = some b)
  (hp : ∀ z, pev ((C :: L).map cqv) z = rev l z) (hd : ∀ z, pdv ((C :: L).map cqv) z = rdv l z) : ∃ x y r, GB b x y r ∧ l.countP (inB ⟨fq x, fq y⟩ (fq r)) = 1 := by
 obtain ⟨R, hR, rfl, _⟩ := rtF_is h
 obtain ⟨x, y, hx, hy⟩ := hz
 obtain ⟨x', y', r, g⟩ := ce_ball hx.fl.wd hy.fl.wd (ce_wd hR) hR
 exact ⟨x', y', r, g, cert_root hL hl g hR hp hd⟩
theorem told_apart {L P : List CV} {i k : Nat} {b c : BV} (hik : i < k) (hb : rtF L (saF L P i).2 (P.getD i C00) = some b) (hc : rtF L (saF L P k).2 (P.getD k C00) = some c) : apB c b = true := by
 obtain ⟨R, _, _, ha⟩ := rtF_is hc
 exact List.all_eq_true.1 ha b (saF_mem hb k hik)
end Go.Proofs.YtfdnbogbankjjaaGreatDoor

/- The points that Start tells are numbers. In plain Lean. -/
namespace Go.Proofs.YtfdnbogbankjjaaGreatDoor
open Go Go.RowKit Go.PlainAid Fil

theorem rung_le {x : Nat} {e : Int} {K : Nat} (R : Rung x e) (hK : K < 9218868437227405312) (h : mg x e ≤ mv K * uN) : rgN x e ≤ K := by
 have hlo := R.lo
 rcases R.hi with hhi | ⟨hL, h2, _, _⟩
 ·obtain ⟨L, hL⟩ : ∃ L, L = rgL x e := ⟨_, rfl⟩
  have hup := R.up hhi
  rw [← hL] at hup hlo
  have hm := mvu_lt (show L < L + 1 by omega)
  have hLK : mv L * uN ≤ mv K * uN := Nat.le_trans hlo h
  have k1 : L ≤ K := by
   rcases Nat.lt_or_ge K L with c | c
   ·have := mvu_lt c; omega
   ·exact c
  rw [Nat.add_mul] at hup
  rcases hup with ⟨h1, h3⟩ | ⟨h1, h3⟩
  ·rw [h1]
   rcases Nat.lt_or_eq_of_le k1 with c | c
   ·exact c
   ·exfalso
    rw [← c] at h
    omega
  ·rw [h1]; exact k1
 ·have := mvu_lt hK
  omega
theorem own_le {o : Nat} {z e : Int} {K : Nat} (he : -(lowM : Int) ≤ e) (h : OwnOf o z e) (hK : K < 9218868437227405312) (hW : (W z e).natAbs ≤ mv K * uN) : fr o ≤ K ∧ o < 18446744073709551616 := by
 rcases h with ⟨hz, rfl⟩ | ⟨rfl, h0, h1⟩
 ·have R := rung (x := z.natAbs) (by omega) he
  have hr := rgN_le R
  have e1 : W z e = sz (sg z) (mg z.natAbs e) := by rw [← W_sz, sz_self]
  have e2 : (W z e).natAbs = mg z.natAbs e := by rw [e1, sz_abs]
  rw [e2] at hW
  rw [fr_word (by omega)]
  refine ⟨rung_le R hK hW, ?_⟩
  show (if sg z then Ieee.double.signWeight + rgN z.natAbs e else rgN z.natAbs e) < _
  have e3 : Ieee.double.signWeight = 9223372036854775808 := by decide
  rw [e3]
  split <;> omega
 ·exact ⟨by omega, h1⟩
theorem abs_of_rat {v : Int} {K : Nat} (h1 : (v : Rat) / PP ≤ fq K) (h2 : -fq K ≤ (v : Rat) / PP) (sK : fs K = false) : v.natAbs ≤ mv (fr K) * uN := by
 have hPP := PP_pos
 have hi : PP * PP⁻¹ = 1 := Rat.mul_inv_cancel _ (by grind)
 have e : fq K = (fu K : Rat) / PP := rfl
 rw [e, Rat.div_def, Rat.div_def] at h1 h2
 have k1 := Rat.mul_le_mul_of_nonneg_right h1 (Rat.le_of_lt hPP)
 have k2 := Rat.mul_le_mul_of_nonneg_right h2 (Rat.le_of_lt hPP)
 have e1 : (v : Rat) * PP⁻¹ * PP = (v : Rat) := by grind
 have e2 : (fu K : Rat) * PP⁻¹ * PP = (fu K : Rat) := by grind
 have e3 : -((fu K : Rat) * PP⁻¹) * PP = ((-fu K : Int) : Rat) := by rw [Rat.intCast_neg]; grind
 rw [e1, e2] at k1
 rw [e1, e3] at k2
 have m1 := Rat.intCast_le_intCast.1 k1
 have m2 := Rat.intCast_le_intCast.1 k2
 rw [fu_mv (.inl sK)] at m1 m2
 omega
theorem mul_le {X Y : FV} {x y M : Nat} (hx : Rl X x) (hy : Rl Y y) (hM : fr M < 9218868437227405312) (sM : fs M = false) (h1 : fq x * fq y ≤ fq M) (h2 : -fq M ≤ fq x * fq y) : ∃ o, Rl (fop .mul X Y) o ∧ fr o ≤ fr M := by
 obtain ⟨rfl, hx1, hx2⟩ := hx
 obtain ⟨rfl, hy1, hy2⟩ := hy
 obtain ⟨o, ho, hown⟩ := mul_own (Fn.q hx2) (Fn.q hy2)
 have hm := mul_W hx2 hy2
 have hlo : -(lowM : Int) ≤ flE x + flE y := by
  have h1 := flE_bd x
  have h2 := flE_bd y
  have := lowM_ge
  omega
 obtain ⟨w, hw⟩ : ∃ w, w = W (sz (fs x) (flM x) * sz (fs y) (flM y)) (flE x + flE y) := ⟨_, rfl⟩
 rw [← hw] at hm
 have hm2 := congrArg (fun n : Int => (n : Rat)) hm
 simp only [Rat.intCast_mul] at hm2
 rw [PP_int] at hm2
 have hPP := PP_pos
 have hi : PP * PP⁻¹ = 1 := Rat.mul_inv_cancel _ (by grind)
 have e2 : fq x * fq y = (w : Rat) / PP := by
  unfold fq
  rw [Rat.div_def, Rat.div_def, Rat.div_def]
  grind
 rw [e2] at h1 h2
 have ha := abs_of_rat h1 h2 sM
 rw [hw] at ha
 obtain ⟨k1, k2⟩ := own_le hlo hown hM ha
 exact ⟨o, ⟨ho, k2, by omega⟩, k1⟩
theorem add_le {X Y : FV} {x y M : Nat} (hx : Rl X x) (hy : Rl Y y) (hM : fr M < 9218868437227405312) (sM : fs M = false) (h1 : fq x + fq y ≤ fq M) (h2 : -fq M ≤ fq x + fq y) : ∃ o, Rl (fop .add X Y) o ∧ fr o ≤ fr M := by
 obtain ⟨rfl, hx1, hx2⟩ := hx
 obtain ⟨rfl, hy1, hy2⟩ := hy
 obtain ⟨o, ho, hown⟩ := add_own (Fn.q hx2) (Fn.q hy2)
 have hsum := sum_W hx2 hy2
 have hlo : -(lowM : Int) ≤ min (flE x) (flE y) := by have := flE_lo x; have := flE_lo y; omega
 have e2 : fq x + fq y = ((W (addZ (sz (fs x) (flM x)) (flE x) (sz (fs y) (flM y)) (flE y)) (min (flE x) (flE y)) : Int) : Rat) / PP := by
  rw [hsum, rat_add_div]
  rfl
 rw [e2] at h1 h2
 have ha := abs_of_rat h1 h2 sM
 obtain ⟨k1, k2⟩ := own_le hlo hown hM ha
 exact ⟨o, ⟨ho, k2, by omega⟩, k1⟩
theorem fq_bd {o M : Nat} (sM : fs M = false) (h : fr o ≤ fr M) (hr : fr o < 9218868437227405312) (ho : o < 18446744073709551616) : fq (fr o) ≤ fq M ∧ fq o ≤ fq M ∧ -fq M ≤ fq o := by
 have e : fr (fr o) = fr o := by unfold fr; omega
 have k := fq_mono (a := fr o) (b := M) (.inl (fs_lt (by unfold fr; omega))) (.inl sM) (by rw [e]; exact h)
 obtain ⟨_, _, h3⟩ := abs_real (X := some o) ⟨rfl, ho, hr⟩
 have h4 := fq_abs h3 (fq_nneg o)
 refine ⟨k, ?_, ?_⟩ <;> grind
theorem fq_scaled {b k D : Nat} (hs : fs b = false) (h : mv (fr b) * D = k * U74) : fq b * (D : Rat) = (k : Rat) := by
 have e1 : fu b * (D : Int) = ((k * 2 ^ lowM : Nat) : Int) := by
  rw [fu_mv (.inl hs), ← Int.natCast_mul]
  refine congrArg (fun n : Nat => (n : Int)) ?_
  unfold uN
  rw [Nat.mul_right_comm, h, Nat.mul_assoc, pow_1074]
 have hPP := PP_pos
 have hi : PP * PP⁻¹ = 1 := Rat.mul_inv_cancel _ (by grind)
 have e2 : ((fu b : Int) : Rat) * (D : Rat) = (k : Rat) * PP := by
  have := congrArg (fun n : Int => (n : Rat)) e1
  simp only [Rat.intCast_mul, Rat.intCast_natCast, Rat.natCast_mul] at this
  unfold PP
  exact this
 unfold fq
 rw [Rat.div_def]
 have : (fu b : Rat) * PP⁻¹ * (D : Rat) = (fu b : Rat) * (D : Rat) * PP⁻¹ := by grind
 rw [this, e2]
 grind
theorem fq_04 : fq 4600877379321698714 * (18014398509481984 : Nat) = (7205759403792794 : Nat) := fq_scaled (by decide +kernel) (by decide +kernel)
theorem fq_09 : fq 4606281698874543309 * (9007199254740992 : Nat) = (8106479329266893 : Nat) := fq_scaled (by decide +kernel) (by decide +kernel)
end Go.Proofs.YtfdnbogbankjjaaGreatDoor

/- The points that Start tells are numbers, whatever the polynomial. In plain Lean. -/
namespace Go.Proofs.YtfdnbogbankjjaaGreatDoor
open Go Go.RowKit Go.PlainAid Fil

theorem unit_small : (4503599627370496 : Rat) * fq 1 ≤ 1 := by
 have h := fq_mono (a := 1) (b := 4368491638549381120) (.inl (by decide)) (.inl (by decide)) (by decide)
 have h53 : fq 4368491638549381120 * (9007199254740992 : Rat) = 1 := by
  have e : (2 ^ 53 : Rat) = 9007199254740992 := by decide +kernel
  rw [← e]; exact fq_53
 generalize fq 4368491638549381120 = l at *
 generalize fq 1 = u at *
 grind
theorem le_parts {x y m : Rat} (hm : 0 ≤ m) (h : Nb ⟨x, y⟩ m) : (x ≤ m ∧ -m ≤ x) ∧ (y ≤ m ∧ -m ≤ y) := by
 have k : x * x + y * y ≤ m * m := h.2
 have h1 := rsq_nn x
 have h2 := rsq_nn y
 have a1 := le_of_rsq (x := x) hm (by grind)
 have a2 := le_of_rsq (x := -x) hm (by grind)
 have a3 := le_of_rsq (x := y) hm (by grind)
 have a4 := le_of_rsq (x := -y) hm (by grind)
 refine ⟨⟨a1, ?_⟩, a3, ?_⟩ <;> grind
theorem mul_in {x a m : Rat} (h1 : x ≤ m) (h2 : -m ≤ x) (a0 : 0 ≤ a) (a1 : a ≤ 1) (hm : 0 ≤ m) : x * a ≤ m ∧ -m ≤ x * a := by
 have k1 := Rat.mul_le_mul_of_nonneg_right h1 a0
 have k2 := Rat.mul_le_mul_of_nonneg_right h2 a0
 have k3 := Rat.mul_le_mul_of_nonneg_left a1 hm
 constructor <;> grind
/-- one rounded product -/
theorem one_in {X Y : FV} {x a M : Nat} (hx : Rl X x) (ha : Rl Y a) (hM : fr M < 9218868437227405312) (sM : fs M = false) (h1 : 1 ≤ fq M) (bx : fq x ≤ fq M ∧ -fq M ≤ fq x) (a0 : 0 ≤ fq a) (a1 : fq a ≤ 1) :
  ∃ o, Rl (fop .mul X Y) o ∧ (4503599627370496 : Rat) * (fq o - fq x * fq a) ≤ fq M ∧ -fq M ≤ (4503599627370496 : Rat) * (fq o - fq x * fq a) := by
 obtain ⟨k1, k2⟩ := mul_in bx.1 bx.2 a0 a1 (by grind)
 obtain ⟨o, ho, hl⟩ := mul_le hx ha hM sM k1 k2
 obtain ⟨⟨e1, e2⟩, _⟩ := mul_errq hx ha ho
 obtain ⟨b1, _, _⟩ := fq_bd sM hl ho.2.2 ho.2.1
 have hu := unit_small
 refine ⟨o, ho, ?_, ?_⟩ <;> grind
/-- the rounded sum of two -/
theorem two_in {P Q : FV} {p q M : Nat} {u v : Rat} (hp : Rl P p) (hq : Rl Q q) (hM : fr M < 9218868437227405312) (sM : fs M = false) (h1 : 1 ≤ fq M)
  (p1 : (4503599627370496 : Rat) * (fq p - u) ≤ fq M) (p2 : -fq M ≤ (4503599627370496 : Rat) * (fq p - u)) (q1 : (4503599627370496 : Rat) * (fq q - v) ≤ fq M) (q2 : -fq M ≤ (4503599627370496 : Rat) * (fq q - v))
  (s1 : 500 * (u + v) ≤ 493 * fq M) (s2 : -(493 * fq M) ≤ 500 * (u + v)) :
  ∃ o, Rl (fop .add P Q) o ∧ (4503599627370496 : Rat) * (fq o - (u + v)) ≤ 3 * fq M ∧ -(3 * fq M) ≤ (4503599627370496 : Rat) * (fq o - (u + v)) := by
 obtain ⟨o, ho, hl⟩ := add_le hp hq hM sM (by grind) (by grind)
 obtain ⟨e1, e2⟩ := add_errq hp hq ho
 obtain ⟨b1, _, _⟩ := fq_bd sM hl ho.2.2 ho.2.1
 refine ⟨o, ho, ?_, ?_⟩ <;> grind
theorem w0_size {a b : Rat} (ha : a * 18014398509481984 = 7205759403792794) (hb : b * 9007199254740992 = 8106479329266893) : Nb ⟨a, b⟩ (493 / 500) ∧ 0 ≤ a ∧ a ≤ 1 ∧ 0 ≤ b ∧ b ≤ 1 := by
 have ea : a = 7205759403792794 / 18014398509481984 := by grind
 have eb : b = 8106479329266893 / 9007199254740992 := by grind
 subst ea eb
 refine ⟨⟨by decide +kernel, ?_⟩, by decide +kernel, by decide +kernel, by decide +kernel, by decide +kernel⟩
 show (7205759403792794 / 18014398509481984 : Rat) * (7205759403792794 / 18014398509481984) + (8106479329266893 / 9007199254740992) * (8106479329266893 / 9007199254740992) ≤ (493 / 500) * (493 / 500)
 decide +kernel
/-- one step of Start -/
theorem step_in {X Y : FV} {x y M : Nat} (hx : Rl X x) (hy : Rl Y y) (hM : fr M < 9218868437227405312) (sM : fs M = false) (h1 : 1 ≤ fq M) (hz : Nb ⟨fq x, fq y⟩ (fq M)) :
  ∃ x' y', Rl (cMul (X, Y) W0).1 x' ∧ Rl (cMul (X, Y) W0).2 y' ∧ Nb ⟨fq x', fq y'⟩ (fq M) := by
 have ha : Rl W0.1 4600877379321698714 := lit_real (by decide) (by decide)
 have hb : Rl W0.2 4606281698874543309 := lit_real (by decide) (by decide)
 obtain ⟨nw, a0, a1, b0, b1⟩ := w0_size fq_04 fq_09
 obtain ⟨bx, by'⟩ := le_parts (by grind) hz
 have hw := nb_mul hz nw
 have e0 : (⟨fq x, fq y⟩ : CQ) * (⟨fq 4600877379321698714, fq 4606281698874543309⟩ : CQ) = ⟨fq x * fq 4600877379321698714 - fq y * fq 4606281698874543309, fq x * fq 4606281698874543309 + fq y * fq 4600877379321698714⟩ := rfl
 rw [e0] at hw
 obtain ⟨wx, wy⟩ := le_parts hw.1 hw
 obtain ⟨p, hp, p1, p2⟩ := one_in hx ha hM sM h1 bx a0 a1
 obtain ⟨q, hq, q1, q2⟩ := one_in hy hb hM sM h1 by' b0 b1
 obtain ⟨c, hc, c1, c2⟩ := one_in hx hb hM sM h1 bx b0 b1
 obtain ⟨d, hd, d1, d2⟩ := one_in hy ha hM sM h1 by' a0 a1
 generalize fq 4600877379321698714 = A at *
 generalize fq 4606281698874543309 = B at *
 obtain ⟨n, hn, en⟩ := neg_real hq
 obtain ⟨r, hr, r1, r2⟩ := two_in (u := fq x * A) (v := -(fq y * B)) hp hn hM sM h1 p1 p2 (by rw [en]; grind) (by rw [en]; grind) (by grind) (by grind)
 obtain ⟨s, hs, s1, s2⟩ := two_in (u := fq x * B) (v := fq y * A) hc hd hM sM h1 c1 c2 d1 d2 (by grind) (by grind)
 rw [← sub_add hp hq] at hr
 refine ⟨r, s, hr, hs, ?_⟩
 have m0 : 0 ≤ fq M := by grind
 have err : Nb ((⟨fq r, fq s⟩ : CQ) - ⟨fq x * A - fq y * B, fq x * B + fq y * A⟩) (3 * fq M / 4503599627370496 + 3 * fq M / 4503599627370496) := by
  refine nb_parts ?_ ?_ ?_ ?_ ?_ ?_
  ·grind
  ·grind
  ·show fq r - (fq x * A - fq y * B) ≤ _
   grind
  ·show _ ≤ fq r - (fq x * A - fq y * B)
   grind
  ·show fq s - (fq x * B + fq y * A) ≤ _
   grind
  ·show _ ≤ fq s - (fq x * B + fq y * A)
   grind
 have k := nb_add err hw
 have e1 : (⟨fq r, fq s⟩ : CQ) - ⟨fq x * A - fq y * B, fq x * B + fq y * A⟩ + ⟨fq x * A - fq y * B, fq x * B + fq y * A⟩ = ⟨fq r, fq s⟩ := by
  simp only [cq_sub, cq_add]; apply CQ.ext <;> grind
 rw [e1] at k
 exact nb_mono k (by grind)
theorem rad_real {X : FV} (h : Wd X) : ∃ r, Rl (radF X) r := by
 have one : Rl (some 4607182418800017408) 4607182418800017408 := lit_real (by decide) (by decide)
 unfold radF
 cases c : fisinf X
 ·rcases wd_cases h with rfl | ⟨x, hx⟩ | ⟨b, rfl, hb, hl⟩
  ·exact ⟨_, one⟩
  ·cases feq X X
   ·exact ⟨_, one⟩
   ·exact ⟨x, hx⟩
  ·exfalso
   have e : fisinf (some b) = decide (fr b = 9218868437227405312) := inf_fr (by omega)
   rw [e, decide_eq_true hb] at c
   cases c
 ·exact ⟨_, one⟩
theorem pt_in {R : FV} {r : Nat} (hR : Rl R r) : ∃ M : Nat, fr M < 9218868437227405312 ∧ ∀ j, ∃ x y, Rl (ptF R j).1 x ∧ Rl (ptF R j).2 y ∧ Nb ⟨fq x, fq y⟩ (fq M) := by
 obtain ⟨M, hM, sM, m1, hr⟩ : ∃ M : Nat, fr M < 9218868437227405312 ∧ fs M = false ∧ 1 ≤ fq M ∧ fq r ≤ fq M ∧ -fq M ≤ fq r := by
  have e1 : fr (fr r) = fr r := by unfold fr; omega
  have s1 : fs (fr r) = false := fs_lt (by unfold fr; omega)
  obtain ⟨_, _, h3⟩ := abs_real hR
  have h4 := fq_abs h3 (fq_nneg r)
  rcases Nat.lt_or_ge (fr r) 4607182418800017408 with c | c
  ·refine ⟨4607182418800017408, by decide, by decide, by rw [fq_one]; exact Rat.le_refl, ?_⟩
   have k := fq_mono (a := fr r) (b := 4607182418800017408) (.inl s1) (.inl (by decide)) (by rw [e1, show fr 4607182418800017408 = 4607182418800017408 by decide]; omega)
   constructor <;> grind
  ·refine ⟨fr r, by rw [e1]; exact hR.2.2, s1, ?_, h4⟩
   have k := fq_mono (a := 4607182418800017408) (b := fr r) (.inl (by decide)) (.inl s1) (by rw [e1, show fr 4607182418800017408 = 4607182418800017408 by decide]; omega)
   rw [fq_one] at k
   exact k
 refine ⟨M, hM, fun j => ?_⟩
 induction j with
 | zero =>
  refine ⟨r, 0, hR, rl_zero, ⟨by grind, ?_⟩⟩
  rw [fq_zero]
  show fq r * fq r + 0 * 0 ≤ fq M * fq M
  have k1 : 0 ≤ (fq M - fq r) * (fq M + fq r) := Rat.mul_nonneg (by grind) (by grind)
  grind
 | succ j ih =>
  obtain ⟨x, y, hx, hy, hz⟩ := ih
  exact step_in (X := (ptF R j).1) (Y := (ptF R j).2) hx hy hM sM m1 hz
/-- all of Start's points are numbers -/
theorem start_fin (L : List CV) : ∀ i (hi : i < (sttF L).length), ∃ x y, Rl (sttF L)[i].1 x ∧ Rl (sttF L)[i].2 y := by
 intro i hi
 obtain ⟨r, hr⟩ := rad_real (X := rawF L (L.length - 1)) (wd_fop _ _ _)
 obtain ⟨M, _, h⟩ := pt_in hr
 obtain ⟨x, y, hx, hy, _⟩ := h i
 have e : (sttF L)[i] = ptF (radF (rawF L (L.length - 1))) i := by simp [sttF]
 rw [e]
 exact ⟨x, y, hx, hy⟩
theorem start_rfin (L : List CV) : ∀ i (hi : i < (sttF L).length), rFin (sttF L)[i] = true := fun i hi => by
 obtain ⟨x, y, hx, hy⟩ := start_fin L i hi
 exact real_rfin hx hy
theorem it_wd (L : List CV) : ∀ k i (hi : i < (itF L k).length), Wd (itF L k)[i].1 ∧ Wd (itF L k)[i].2
 | 0, i, hi => by
  obtain ⟨x, y, hx, hy⟩ := start_fin L i hi
  exact ⟨hx.fl.wd, hy.fl.wd⟩
 | k + 1, i, hi => by
  have hiP : i < (itF L k).length := by
   have : i < (stpF L (itF L k)).length := hi
   rw [stpF_len] at this; exact this
  have e : (itF L (k + 1))[i] = mvF L (itF L k) i := by
   show (stpF L (itF L k))[i]'hi = _
   simp [stpF]
  rw [e]
  have hp := it_wd L k i hiP
  rw [← getD_get hiP] at hp
  simp only [mvF]
  cases rFin (cQuo (atF L ((itF L k).getD i C00)) (prF (itF L k) i (L.getD (L.length - 1) C00) (itF L k).length))
  ·exact hp
  ·cases rFin (cSub ((itF L k).getD i C00) (cQuo (atF L ((itF L k).getD i C00)) (prF (itF L k) i (L.getD (L.length - 1) C00) (itF L k).length)))
   ·exact hp
   ·exact ⟨wd_fop _ _ _, wd_fop _ _ _⟩
theorem end_num (L : List CV) {k : Nat} (hk : k < (itF L 64).length) : ∃ x y, Rl (nwI L ((itF L 64).getD k C00) 3).1 x ∧ Rl (nwI L ((itF L 64).getD k C00) 3).2 y := end_real (start_rfin L) (it_wd L 64) hk
end Go.Proofs.YtfdnbogbankjjaaGreatDoor
