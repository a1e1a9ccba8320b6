/- Merged: CI CJ -/
import Derived.Test.YtfdnbogbankjjaaGreatDoorCH

/- What Contracts says of balls. In plain Lean. -/
namespace Go.Proofs.YtfdnbogbankjjaaGreatDoor
open Go Go.RowKit Go.PlainAid Fil

theorem Ok.ub0 {X : FV} (h : Ok X) : Ub X 0 := ⟨h.wd, h.nn, fun x hx => fq_nn (h.nn x hx.1)⟩
theorem fq_fr0 {x : Nat} (h : fr x = 0) : fq x = 0 := by
 have e : fu x = 0 := by unfold fu; rw [h, mv_zero, Nat.zero_mul]; cases fs x <;> rfl
 unfold fq; rw [e]; simp [Rat.div_def]
theorem quo_ne {P Q : Nat} (hP : Rl (some P) P) (hQ : Rl (some Q) Q) (P0 : fr P ≠ 0) : fop .quo (some Q) (some P) ≠ none := by
 obtain ⟨m, i, em, _⟩ := read_num hQ.2.2
 obtain ⟨n, j, en, _, _, hn, _⟩ := read_num hP.2.2
 have hn0 : n ≠ 0 := fun h => by rw [h, Nat.zero_mul] at hn; exact P0 (by have := mv_lt (show 0 < fr P by omega); rw [mv_zero] at this; omega)
 show ((Ieee.double.read Q).quotient (Ieee.double.fractionBits + 2) (Ieee.double.read P)).map Ieee.double.write ≠ none
 rw [em, en]
 unfold Ieee.Datum.quotient
 simp only [if_neg hn0]
 exact nofun
theorem reach_ok {P Q : Nat} (hP : Rl (some P) P) (hQ : Rl (some Q) Q) (sP : fs P = false) (sQ : fs Q = false) (P0 : fr P ≠ 0) (Q0 : fr Q ≠ 0) : Ok (cReach (some P) (some Q)) := by
 simp only [cReach]
 obtain ⟨d1, _⟩ := quo_fin hQ hP sQ sP Q0 P0
 have o2 : Ok (fup (fop .quo (some Q) (some P))) := ⟨wd_up (wd_fop _ _ _), d1, up_ne (quo_ne hP hQ P0)⟩
 have u4 := ub_fmul o2.ub0 o2.ub0 Rat.le_refl
 have o4 : Ok (fup (fop .mul (fup (fop .quo (some Q) (some P))) (fup (fop .quo (some Q) (some P))))) := ⟨u4.wd, u4.nn, up_ne (sq_ne o2)⟩
 have one := ub_real (x := 4607182418800017408) ⟨rfl, by decide, by decide⟩ (by decide)
 have u6 := ub_fadd one o4.ub0
 have one' : Ok (some 4607182418800017408) := ok_real (x := 4607182418800017408) ⟨rfl, by decide, by decide⟩ (.inl (by decide))
 have o6 : Ok (fup (fop .add (some 4607182418800017408) (fup (fop .mul (fup (fop .quo (some Q) (some P))) (fup (fop .quo (some Q) (some P))))))) := ⟨u6.wd, u6.nn, up_ne (add_ne one' o4)⟩
 have o8 := sqrt_ok o6 (fun x hx h0 => by
  have k := u6.ge x hx
  rw [fq_fr0 h0, fq_one] at k
  grind)
 have uP := ub_real hP sP
 have u10 := ub_fmul uP o8.ub0 Rat.le_refl
 refine ⟨u10.wd, u10.nn, up_ne ?_⟩
 rcases ok_cases o8 with ⟨x, hx, _⟩ | e
 ·exact mul_real_ne hP hx
 ·rw [e]; exact (inf_mul_ne (by have := hP.2.2; omega) P0).2
theorem hi_ok {Z : CV} {x y : Nat} (hx : Rl Z.1 x) (hy : Rl Z.2 y) : Ok (cHi Z) := by
 have hf : cFin (Z.1, Z.2) = true := real_cfin hx hy
 obtain ⟨ax, nx, ex⟩ := abs_real hx
 obtain ⟨ay, ny, ey⟩ := abs_real hy
 have ex0 := ax.1
 have ey0 := ay.1
 rw [ex0] at ax
 rw [ey0] at ay
 obtain ⟨A, hA⟩ : ∃ A, A = fr x := ⟨_, rfl⟩
 obtain ⟨B, hB⟩ : ∃ B, B = fr y := ⟨_, rfl⟩
 rw [← hA] at ax ex0
 rw [← hB] at ay ey0
 have sA : fs A = false := by rw [hA]; exact fs_lt (by unfold fr; omega)
 have sB : fs B = false := by rw [hB]; exact fs_lt (by unfold fr; omega)
 have main : ∀ P Q : Nat, Rl (some P) P → Rl (some Q) Q → fs P = false → fs Q = false → fr Q ≤ fr P → Ok (bif feq (some Q) (some 0) then some P else cReach (some P) (some Q)) := by
  intro P Q hP hQ sP sQ hle
  cases c : feq (some Q) (some 0)
  ·have q0 := feq_zero_iff hQ c
   exact reach_ok hP hQ sP sQ (by omega) q0
  ·exact ok_real hP (.inl sP)
 simp only [cHi, cSizes]
 rw [hf, ex0, ey0, flt_lt ax ay sA sB]
 by_cases h : fr A < fr B
 ·rw [decide_eq_true h]
  exact main B A ay ax sB sA (by omega)
 ·rw [decide_eq_false h]
  exact main A B ax ay sA sB (by omega)
theorem GB.ok {b : BV} {x y r : Nat} (g : GB b x y r) : Ok b.2 := ok_real g.r (g.nn r g.r.1)
theorem bhi_ok {b : BV} (w : WdB b) : Ok (bHi b) := by
 simp only [bHi]
 cases c : bIsWhole b
 ·obtain ⟨x, y, r, g⟩ := not_whole w.1 w.2.1 w.2.2 c
  exact ok_plus (hi_ok (Z := (b.1.1, b.1.2)) g.x g.y) g.ok
 ·exact ok_inf
theorem bhi_ub {b : BV} {u : CQ} (h : Hold b u) : ∃ p, 0 ≤ p ∧ Nb u p ∧ Ub (bHi b) p := by
 simp only [bHi]
 rcases h with h | ⟨x, y, r, g, i⟩
 ·rw [show bIsWhole ((b.1.1, b.1.2), b.2) = true from h]
  obtain ⟨M, hM⟩ := nb_some u
  exact ⟨M, hM.1, hM, ok_inf.wd, ok_inf.nn, fun x hx => (by cases hx.1; exact absurd hx.2.2 (by decide))⟩
 ·rw [show bIsWhole ((b.1.1, b.1.2), b.2) = false from g.not]
  obtain ⟨p, p0, np, up⟩ := hi_ub (Z := (b.1.1, b.1.2)) g.x g.y
  have hr0 : 0 ≤ fq r := g.ub.nonneg g.r
  exact ⟨p + fq r, by grind, inr_hi i np, ub_plus up g.ub⟩
/-- what Contracts says -/
theorem contracts_ok {mo sl : BV} {R : FV} {r : Nat} {u : CQ} (wm : WdB mo) (ws : WdB sl) (hR : Rl R r) (nR : fs r = false) (hm : Hold mo u) (h : (bContracts mo sl R).2 = true) :
  ∃ q m, 0 ≤ q ∧ q < 1 ∧ (∀ v, Hold sl v → Nb v q) ∧ Nb u m ∧ m + q * fq r ≤ fq r := by
 simp only [bContracts] at h
 rw [hR.fin] at h
 cases c1 : fle R (some 0)
 ·rw [c1] at h
  cases c2 : flt (bHi sl) (some 4607182418800017408)
  ·rw [show flt (bHi ((sl.1.1, sl.1.2), sl.2)) (some 4607182418800017408) = false from c2] at h
   exact absurd h (by first | decide | simp)
  ·rw [show flt (bHi ((sl.1.1, sl.1.2), sl.2)) (some 4607182418800017408) = true from c2] at h
   cases c3 : fgt (fPlus (bHi mo) (fTimes (bHi sl) R)) R
   ·have os := bhi_ok ws
    -- the slope's bound is a number below 1
    obtain ⟨q, hq, sq, q1⟩ : ∃ q, Rl (bHi sl) q ∧ (fs q = false ∨ fr q = 0) ∧ fq q < 1 := by
     rcases ok_cases os with ⟨q, hq, sq⟩ | e
     ·refine ⟨q, hq, sq, ?_⟩
      rw [hq.1] at c2
      have k : (Ieee.double.order q 4607182418800017408 == some .lt) = true := c2
      rw [order_some (by have := hq.2.2; omega) (by decide), fk_nn sq, fk_nn (c := 4607182418800017408) (.inl (by decide))] at k
      have k2 : compare (fr q : Int) (fr 4607182418800017408 : Int) = .lt := by
       generalize compare (fr q : Int) (fr 4607182418800017408 : Int) = o at k
       cases o <;> first | rfl | exact absurd k (by decide)
      have k3 := Int.compare_eq_lt.1 k2
      have := fq_lt (b := 4607182418800017408) sq (.inl (by decide)) (Int.ofNat_lt.1 k3)
      rw [fq_one] at this
      exact this
     ·rw [e] at c2; exact absurd c2 (by decide)
    obtain ⟨m, m0, nm, um⟩ := bhi_ub hm
    have oR : Ok R := ok_real hR (.inl nR)
    have q0 : 0 ≤ fq q := fq_nn sq
    have r0 : 0 ≤ fq r := fq_nn (.inl nR)
    have uq : Ub (bHi sl) (fq q) := ⟨os.wd, os.nn, fun z hz => by
     rw [← Option.some.inj (hq.1.symm.trans hz.1)]; exact Rat.le_refl⟩
    have uR : Ub R (fq r) := ⟨oR.wd, oR.nn, fun z hz => by
     rw [← Option.some.inj (hR.1.symm.trans hz.1)]; exact Rat.le_refl⟩
    have u4 := ub_plus um (ub_times uq uR q0 r0)
    have o4 := ok_plus (bhi_ok wm) (ok_times hq hR sq (.inl nR))
    have key : m + fq q * fq r ≤ fq r := by
     rcases ok_cases o4 with ⟨c, hc, sc⟩ | e
     ·have k := u4.ge c hc
      refine Rat.le_trans k ?_
      rw [hc.1, hR.1] at c3
      have k : (Ieee.double.order c r == some .gt) = false := c3
      rw [order_some (by have := hc.2.2; omega) (by have := hR.2.2; omega), fk_nn sc, fk_nn (c := r) (.inl nR)] at k
      refine fq_mono sc (.inl nR) ?_
      rcases Nat.lt_or_ge (fr r) (fr c) with k2 | k2
      ·rw [Int.compare_eq_gt.2 (show (fr r : Int) < (fr c : Int) by omega)] at k
       exact absurd k (by decide)
      ·exact k2
     ·exfalso
      rw [e, hR.1] at c3
      have k : (Ieee.double.order 9218868437227405312 r == some .gt) = false := c3
      have hr2 := hR.2.2
      rw [order_some (by decide) (by omega), fk_nn (c := 9218868437227405312) (.inl (by decide)), fk_nn (c := r) (.inl nR), show fr 9218868437227405312 = 9218868437227405312 by decide, Int.compare_eq_gt.2 (by omega)] at k
      exact absurd k (by decide)
    refine ⟨fq q, m, q0, q1, fun v hv => ?_, nm, key⟩
    obtain ⟨p, p0, np, up⟩ := bhi_ub hv
    exact nb_mono np (up.ge q hq)
   ·rw [show fgt (fPlus (bHi ((mo.1.1, mo.1.2), mo.2)) (fTimes (bHi ((sl.1.1, sl.1.2), sl.2)) R)) R = true from c3] at h
    exact absurd h (by first | decide | simp)
 ·rw [c1] at h
  exact absurd h (by first | decide | simp)
end Go.Proofs.YtfdnbogbankjjaaGreatDoor

/- A ball that Certify tells holds just one root of the product. In plain Lean. -/
namespace Go.Proofs.YtfdnbogbankjjaaGreatDoor
open Go Go.RowKit Go.PlainAid Fil

/-- the number of a float's value, of a complex number -/
def fqv : FV → Rat
 | some b => fq b
 | none => 0
def cqv (Z : CV) : CQ := ⟨fqv Z.1, fqv Z.2⟩
theorem Rl.qv {X : FV} {x : Nat} (h : Rl X x) : fqv X = fq x := by rw [h.1]; rfl
/-- balls that hold the coefficients -/
def HL : List BV → List CQ → Prop
 | [], [] => True
 | b :: L, c :: p => (Hold b c ∧ WdB b) ∧ HL L p
 | _, _ => False
theorem HL_of : ∀ {L : List BV} {p : List CQ}, L.length = p.length → (∀ i (h1 : i < L.length) (h2 : i < p.length), Hold L[i] p[i] ∧ WdB L[i]) → HL L p
 | [], [], _, _ => trivial
 | b :: L, c :: p, hl, h => ⟨h 0 (by simp) (by simp), HL_of (by simpa using hl) (fun i h1 h2 => h (i + 1) (by simpa using h1) (by simpa using h2))⟩
theorem onB2_hold {U C Z : BV} {u c z : CQ} (hU : Hold U u) (hC : Hold C c) (hZ : Hold Z z) : Hold (onB2 U C Z) (c + z * u) ∧ WdB (onB2 U C Z) := by
 have k := add_hold (mul_hold hU hZ).1 hC
 have e : c + z * u = u * z + c := by simp only [cq_add, cq_mul]; apply CQ.ext <;> grind
 rw [e]
 exact k
theorem wd_C00 : Hold (bPoint C00) ⟨0, 0⟩ ∧ WdB (bPoint C00) := by
 have h1 := point_hold (Z := C00) rl_zero rl_zero
 have h2 := wdb_point (Z := C00) rl_zero rl_zero
 rw [fq_zero] at h1
 exact ⟨h1, h2⟩
theorem on_hold {Z : BV} {z : CQ} (hZ : Hold Z z) : ∀ {L : List BV} {p : List CQ}, HL L p → Hold (onF L Z) (pev p z) ∧ WdB (onF L Z)
 | [], [], _ => wd_C00
 | [b], [c], h => by
  have e : pev [c] z = c := by
   show c + z * (⟨0, 0⟩ : CQ) = c
   rw [cq_mul_zero]
   simp only [cq_add]; apply CQ.ext <;> grind
  rw [e]
  exact h.1
 | b :: d :: L, c :: q :: p, h => by
  have ih := on_hold hZ (L := d :: L) (p := q :: p) h.2
  exact onB2_hold ih.1 h.1.1 hZ
/-- the derivative's coefficients -/
def derk : Nat → List CQ → List CQ
 | _, [] => []
 | k, c :: p => (⟨(k : Rat), 0⟩ * c) :: derk (k + 1) p
theorem derk_len : ∀ (k : Nat) (p : List CQ), (derk k p).length = p.length
 | _, [] => rfl
 | k, c :: p => by show (derk (k + 1) p).length + 1 = _; rw [derk_len]; rfl
theorem derk_get : ∀ (k : Nat) (p : List CQ) (i : Nat) (h : i < (derk k p).length) (h' : i < p.length), (derk k p)[i] = ⟨((k + i : Nat) : Rat), 0⟩ * p[i]
 | k, c :: p, 0, _, _ => rfl
 | k, c :: p, i + 1, h, h' => by
  have ih := derk_get (k + 1) p i (by have : i + 1 < (derk (k + 1) p).length + 1 := h; omega) (by simpa using h')
  show (derk (k + 1) p)[i]'_ = _
  rw [ih, show k + 1 + i = k + (i + 1) by omega]
  rfl
theorem derk_ev (z : CQ) : ∀ (k : Nat) (p : List CQ), pev (derk k p) z = ⟨(k : Rat), 0⟩ * pev p z + z * pdv p z
 | k, [] => by
  show (⟨0, 0⟩ : CQ) = ⟨(k : Rat), 0⟩ * ⟨0, 0⟩ + z * ⟨0, 0⟩
  rw [cq_mul_zero, cq_mul_zero]
  simp only [cq_add]; apply CQ.ext <;> grind
 | k, c :: p => by
  show ⟨(k : Rat), 0⟩ * c + z * pev (derk (k + 1) p) z = ⟨(k : Rat), 0⟩ * (c + z * pev p z) + z * (pev p z + z * pdv p z)
  rw [derk_ev z (k + 1) p]
  have e : ((k + 1 : Nat) : Rat) = (k : Rat) + 1 := by push_cast; rfl
  rw [e]
  generalize pev p z = u
  generalize pdv p z = v
  simp only [cq_add, cq_mul]
  apply CQ.ext <;> grind
theorem pdv_derk (z c : CQ) (p : List CQ) : pdv (c :: p) z = pev (derk 1 p) z := by
 rw [derk_ev]
 show pev p z + z * pdv p z = _
 simp only [cq_add, cq_mul]
 apply CQ.ext <;> grind
/-- whole numbers up to 16, as floats -/
theorem pow_split {a n m : Nat} (h : a + n = m) : 2 ^ a * 2 ^ n = 2 ^ m := by rw [← Nat.pow_add, h]
theorem pow_u {u v : Nat} (hu : u = 1074) (hv : v = 2 ^ u) : v * 2 ^ (lowM - 1074) = 2 ^ lowM := by
 rw [hv, ← hu]
 exact pow_split (by have := lowM_ge; omega)
def E74 : Nat := 1074
def U74 : Nat := 2 ^ E74
theorem U74_eq : U74 = 2 ^ E74 := by unfold U74; rfl
theorem pow_1074 : U74 * 2 ^ (lowM - 1074) = 2 ^ lowM := pow_u (u := E74) (v := U74) rfl U74_eq
theorem fq_of_mv {b k : Nat} (hs : fs b = false) (h : mv (fr b) = k * U74) : fq b = (k : Rat) := by
 have e1 : fu b = ((k * 2 ^ lowM : Nat) : Int) := by
  rw [fu_mv (.inl hs), h]
  unfold uN
  rw [Nat.mul_assoc, pow_1074]
 have hPP := PP_pos
 have hi : PP * PP⁻¹ = 1 := Rat.mul_inv_cancel _ (by grind)
 have e2 : ((fu b : Int) : Rat) = (k : Rat) * PP := by
  rw [e1]
  unfold PP
  rw [Rat.intCast_natCast, Rat.natCast_mul]
 unfold fq
 rw [e2, Rat.div_def]
 grind
theorem fint_real {k : Nat} (h : k < 16) : ∃ b, Rl (fint (k + 1)) b ∧ fq b = ((k + 1 : Nat) : Rat) := by
 have key : ∀ k : Fin 16, fs (floatOfInt .f64 (k.val + 1 : Nat)) = false ∧ floatOfInt .f64 (k.val + 1 : Nat) < 18446744073709551616 ∧ fr (floatOfInt .f64 (k.val + 1 : Nat)) < 9218868437227405312 ∧ mv (fr (floatOfInt .f64 (k.val + 1 : Nat))) = (k.val + 1) * U74 := by decide +kernel
 obtain ⟨h1, h2, h3, h4⟩ := key ⟨k, h⟩
 exact ⟨_, ⟨rfl, h2, h3⟩, fq_of_mv h1 h4⟩
/-- all coefficients are numbers -/
def Reals (L : List CV) : Prop := ∀ i (hi : i < L.length), ∃ x y, Rl L[i].1 x ∧ Rl L[i].2 y
theorem pts_hold {L : List CV} (h : Reals L) : HL (ptsF L) (L.map cqv) := by
 refine HL_of (by rw [ptsF_len, List.length_map]) (fun i h1 h2 => ?_)
 rw [ptsF_len] at h1
 obtain ⟨x, y, hx, hy⟩ := h i h1
 have e1 : (ptsF L)[i]'(by rw [ptsF_len]; exact h1) = bPoint L[i] := by
  unfold ptsF
  rw [List.getElem_map, List.getElem_range, getD_get h1]
 have e2 : (L.map cqv)[i]'(by rw [List.length_map]; exact h1) = ⟨fq x, fq y⟩ := by
  rw [List.getElem_map]
  unfold cqv
  rw [hx.qv, hy.qv]
 rw [e1, e2]
 exact ⟨point_hold hx hy, wdb_point hx hy⟩
theorem sl_hold {C : CV} {L : List CV} (h : Reals (C :: L)) (hl : L.length ≤ 16) : HL (slF (C :: L)) (derk 1 (L.map cqv)) := by
 have hlen : (slF (C :: L)).length = L.length := by rw [slF_len]; simp
 refine HL_of (by rw [hlen, derk_len, List.length_map]) (fun i h1 h2 => ?_)
 rw [hlen] at h1
 obtain ⟨x, y, hx, hy⟩ := h (i + 1) (by simpa using h1)
 obtain ⟨b, hb, eb⟩ := fint_real (k := i) (by omega)
 have e1 : (slF (C :: L))[i]'(by rw [hlen]; exact h1) = slT (C :: L) i := by
  unfold slF
  rw [List.getElem_map, List.getElem_range]
 have e2 : (derk 1 (L.map cqv))[i]'h2 = ⟨((i + 1 : Nat) : Rat), 0⟩ * ⟨fq x, fq y⟩ := by
  rw [derk_get 1 _ i h2 (by rw [List.length_map]; exact h1), List.getElem_map]
  have e3 : cqv L[i] = ⟨fq x, fq y⟩ := by
   unfold cqv
   have hx' : Rl L[i].1 x := hx
   have hy' : Rl L[i].2 y := hy
   rw [hx'.qv, hy'.qv]
  rw [e3, Nat.add_comm 1 i]
 have e4 : slT (C :: L) i = bMul (bPoint (fint (i + 1), some 0)) (bPoint ((C :: L)[i + 1]'(by simpa using h1))) := by
  unfold slT
  rw [getD_get (by simpa using h1)]
 rw [e1, e2, e4]
 have p1 := point_hold (Z := (fint (i + 1), some 0)) hb rl_zero
 rw [eb, fq_zero] at p1
 exact mul_hold p1 (point_hold hx hy)
theorem wd_quo (Z V : CV) : Wd (cQuo Z V).1 ∧ Wd (cQuo Z V).2 := by
 simp only [cQuo]
 cases fge (fabs V.1) (fabs V.2)
 ·exact ⟨wd_fop _ _ _, wd_fop _ _ _⟩
 ·exact ⟨wd_fop _ _ _, wd_fop _ _ _⟩
/-- Certify -/
theorem cert_root {C : CV} {L : List CV} {Z : CV} {R : FV} {x y r : Nat} {l : List CQ} (hL : Reals (C :: L)) (hl : L.length ≤ 16) (g : GB (Z, R) x y r) (h : ceF (C :: L) Z = some R)
  (hp : ∀ z, pev ((C :: L).map cqv) z = rev l z) (hd : ∀ z, pdv ((C :: L).map cqv) z = rdv l z) : l.countP (inB ⟨fq x, fq y⟩ (fq r)) = 1 := by
 obtain ⟨h1, h2⟩ := ce_some h
 obtain ⟨_, h3⟩ := test_parts h2
 obtain ⟨V, hV⟩ : ∃ V, V = cQuo (some 4607182418800017408, some 0) (atF (stF (C :: L)) Z) := ⟨_, rfl⟩
 obtain ⟨w1, w2⟩ := wd_quo (some 4607182418800017408, some 0) (atF (stF (C :: L)) Z)
 rw [← hV] at h1 h3 w1 w2
 obtain ⟨a, b, ha, hb⟩ := rfin_real w1 w2 h1
 have hy := point_hold ha hb
 have wy := wdb_point ha hb
 have hz := point_hold (Z := Z) g.x g.y
 have hon := on_hold hz (pts_hold hL)
 have hmv := neg_hold (mul_hold hy hon.1).1
 have one := point_hold (Z := (some 4607182418800017408, some 0)) (lit_real (b := 4607182418800017408) (by decide) (by decide)) rl_zero
 rw [fq_one, fq_zero] at one
 have hslope : ∀ z, Nb (z - ⟨fq x, fq y⟩) (fq r) → Hold (bSub (bPoint (some 4607182418800017408, some 0)) (bMul (bPoint V) (onF (slF (C :: L)) (Z, R)))) (⟨1, 0⟩ - ⟨fq a, fq b⟩ * pdv ((C :: L).map cqv) z) ∧ WdB (bSub (bPoint (some 4607182418800017408, some 0)) (bMul (bPoint V) (onF (slF (C :: L)) (Z, R)))) := fun z hz => by
  have hZ : Hold (Z, R) z := .inr ⟨x, y, r, g, hz⟩
  have k := on_hold hZ (sl_hold hL hl)
  have e : pdv ((C :: L).map cqv) z = pev (derk 1 (L.map cqv)) z := pdv_derk _ _ _
  rw [e]
  exact sub_hold one (mul_hold hy k.1).1
 have hr0 : 0 ≤ fq r := g.ub.nonneg g.r
 have hc := hslope ⟨fq x, fq y⟩ (by rw [cq_self]; exact nb_zero _ hr0)
 have nr : fs r = false := by
  have hs := g.s
  rw [g.r.1] at hs
  have hl : r < 9223372036854775808 := by
   have h2 : decide (9223372036854775808 ≤ r) = false := hs
   have := of_decide_eq_false h2
   omega
  exact fs_lt hl
 obtain ⟨q, m, q0, q1, hq, hm, hmr⟩ := contracts_ok hmv.2 hc.2 g.r nr hmv.1 h3
 refine one_root ((C :: L).map cqv) l ⟨fq a, fq b⟩ ⟨fq x, fq y⟩ (fq r) q m hp hd hr0 q0 q1 (fun z hz => hq _ (hslope z hz).1) ?_ hmr
 have k := nb_neg hm
 have e : ∀ u : CQ, -(-u) = u := fun u => by simp only [cq_neg]; apply CQ.ext <;> grind
 rw [e] at k
 exact k
end Go.Proofs.YtfdnbogbankjjaaGreatDoor
