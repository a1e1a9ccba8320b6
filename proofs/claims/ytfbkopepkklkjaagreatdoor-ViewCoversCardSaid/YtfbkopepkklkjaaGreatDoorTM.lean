/- view.Cover and the reference's Cover answer alike. -/
import Derived.Test.YtfbkopepkklkjaaGreatDoorTL
import Derived.Test.YtfbkopepkklkjaaGreatDoorQT
namespace Go.Proofs.YtfbkopepkklkjaaGreatDoor
open Go Go.RowKit Go.PlainAid Fil

theorem gSub_v3 {a b : GY} (ha : a.ok) (hb : b.ok) (h : (gSub a b).2 = 0) : (gSub a b).1.re.v = a.re.v - b.re.v ∧ (gSub a b).1.im.v = a.im.v - b.im.v := by
 have e : gSub a b = gB (ySub a.re b.re) (ySub a.im b.im) := rfl
 rw [e] at h ⊢
 by_cases k : (ySub a.re b.re).2 = 0 ∧ (ySub a.im b.im).2 = 0
 ·rw [gB_yes k.1 k.2]
  exact ⟨ySub_v ha.1 hb.1 k.1, ySub_v ha.2 hb.2 k.2⟩
 ·rw [gB_no k] at h; exact absurd h (by decide)
theorem gNorm_v3 {a : GY} (ha : a.ok) (h : (gNorm a).2 = 0) : (gNorm a).1.v * 2 ^ lowM = a.re.v * a.re.v + a.im.v * a.im.v := by
 have e : gNorm a = yTwo a.re a.re a.im a.im false := rfl
 rw [e] at h ⊢
 by_cases hp : (yMul a.re a.re).2 = 0 ∧ (yMul a.im a.im).2 = 0
 ·rw [yTwo_at hp] at h ⊢
  have m1 := yMul_v ha.1 ha.1 hp.1
  have m2 := yMul_v ha.2 ha.2 hp.2
  simp only [Bool.false_eq_true, if_false] at h ⊢
  rw [yAdd_v (yMul_ok _ _) (yMul_ok _ _) h, Int.add_mul, m1, m2]
 ·rw [yTwo_no hp] at h
  cases h
theorem sq_nn3 (a : Int) : 0 ≤ a * a := by
 rcases Int.le_total 0 a with h | h
 ·exact Int.mul_nonneg h h
 ·exact Int.mul_nonneg_of_nonpos_of_nonpos h h
theorem sq_pos3 {a : Int} (h : a ≠ 0) : 0 < a * a := by
 rcases Int.lt_or_gt_of_ne h with h | h
 ·exact Int.mul_pos_of_neg_of_neg h h
 ·exact Int.mul_pos h h
theorem not_both2 {l p b : DY} {Zg : GY} (hl : l.ok) (hp : p.ok) (hb : b.ok) (hX : Zg.re.ok) (hY : Zg.im.ok) (hne : l.v ≠ p.v) {U : DY}
  (h0 : cvK ⟨l, b⟩ Zg U) (h1 : cvK ⟨p, b⟩ Zg U) : 0 < U.v := by
 obtain ⟨a1, a2, a3⟩ := h0
 obtain ⟨b1, b2, b3⟩ := h1
 have n0 := gNorm_v3 (gSub_ok _ _) a2
 have n1 := gNorm_v3 (gSub_ok _ _) b2
 have s0 := (gSub_v3 (a := ⟨l, b⟩) (b := Zg) ⟨hl, hb⟩ ⟨hX, hY⟩ a1).1
 have s1 := (gSub_v3 (a := ⟨p, b⟩) (b := Zg) ⟨hp, hb⟩ ⟨hX, hY⟩ b1).1
 have q0 := sq_nn3 (gSub ⟨l, b⟩ Zg).1.im.v
 have q1 := sq_nn3 (gSub ⟨p, b⟩ Zg).1.im.v
 have hpw : (0 : Int) < 2 ^ lowM := ppi lowM
 by_cases hz : l.v - Zg.re.v = 0
 ·have k : 0 < (gSub ⟨p, b⟩ Zg).1.re.v * (gSub ⟨p, b⟩ Zg).1.re.v := sq_pos3 (by rw [s1]; show p.v - Zg.re.v ≠ 0; omega)
  have : 0 < (gNorm (gSub ⟨p, b⟩ Zg).1).1.v * 2 ^ lowM := by omega
  have := Int.pos_of_mul_pos_left this hpw
  omega
 ·have k : 0 < (gSub ⟨l, b⟩ Zg).1.re.v * (gSub ⟨l, b⟩ Zg).1.re.v := sq_pos3 (by rw [s0]; exact hz)
  have : 0 < (gNorm (gSub ⟨l, b⟩ Zg).1).1.v * 2 ^ lowM := by omega
  have := Int.pos_of_mul_pos_left this hpw
  omega
theorem rpB_nought {U : DY} (h : 0 < U.v) : rpB U 0 = false := by
 cases k : rpB U 0 with
 | false => rfl
 | true =>
  rw [rpB_iff (by omega), show mv 0 = 0 from rfl, Nat.zero_mul] at k
  have h2 : 0 < U.v * 2 ^ lowM := Int.mul_pos h (ppi lowM)
  have h3 : ((0 : Nat) : Int) * ((0 : Nat) : Int) = 0 := rfl
  omega
theorem step_flip {N U : DY} {A B : Prop} (h : (0 < yCmp N U ∧ A) ∨ (¬ 0 < yCmp N U ∧ B)) : (yCmp U N < 0 ∧ A) ∨ (¬ yCmp U N < 0 ∧ B) := by
 rw [yCmp_gt] at h
 rw [yCmp_lt]
 exact h
theorem nearF_pos {U : DY} (ok : U.ok) (h : 0 ≤ U.v) : nearF U.n U.x U.e ≤ 9218868437227405312 := by
 by_cases hx : U.x = 0
 ·unfold nearF; rw [if_pos hx]; omega
 ·have hn : U.n = false := by
   cases hn : U.n with
   | false => rfl
   | true =>
    exfalso
    have h2 := U.v_sign
    unfold DY.z at h2
    rw [hn, show sz true U.x = -(U.x : Int) from rfl, Int.sign_eq_neg_one_of_neg (show -(U.x : Int) < 0 by omega)] at h2
    have := Int.neg_of_sign_eq_neg_one h2
    omega
  have h1 := nearF_ok (n := U.n) ok
  unfold nearF at h1 ⊢
  rw [if_neg hx, hn] at h1 ⊢
  have h2 : Ieee.double.word false (rgN U.x U.e) = rgN U.x U.e := by simp [Ieee.Format.word]
  rw [h2]
  exact rgN_le (okD.rung ok hx)
theorem rmid_ex (l b : DY) (e : Int) (okl : l.ok) (okb : b.ok) (e1 : -4096 ≤ e) (e2 : e ≤ 4096) : ∃ (em : Int) (m n : DY), ∀ W : World, Calls Tryz.prog 14 #[.agg #[.bool l.n, .string (bstr l.x), .int .i64 l.e, .bool b.n, .string (bstr b.x), .int .i64 b.e, .int .i64 e]] W fun r w' => r = .returned (.tuple #[.agg #[.bool m.n, .string (bstr m.x), .int .i64 m.e, .bool n.n, .string (bstr n.x), .int .i64 n.e], .int .i64 em]) ∧ Below W.heap.size W w' := by
 by_cases hp : (vM l 1 (e - 1)).2 = 0
 ·by_cases hq : (vM b 1 (e - 1)).2 = 0
  ·exact ⟨0, (vM l 1 (e - 1)).1, (vM b 1 (e - 1)).1, fun W => rmiddle_3 l b e _ _ rfl rfl W okl okb e1 e2 hp hq⟩
  ·refine ⟨4, DY.zero, DY.zero, fun W => ?_⟩
   rw [show bstr DY.zero.x = { data := #[] } from bstr_zero]
   exact rmiddle_2 l b e _ _ rfl rfl W okl okb e1 e2 hp hq
 ·refine ⟨4, DY.zero, DY.zero, fun W => ?_⟩
  rw [show bstr DY.zero.x = { data := #[] } from bstr_zero]
  exact rmiddle_1 l b e _ _ rfl rfl W okl okb e1 e2 hp
theorem W_two_pos (e : Int) : 0 < W 2 (e - 1) := by unfold W; exact Int.mul_pos (by decide) (ppi _)
set_option maxHeartbeats 4000000 in
theorem covers_both (l b : DY) (e : Int) (okl : l.ok) (okb : b.ok) (e1 : -4096 ≤ e) (e2 : e ≤ 4096) : ∃ (er : Int) (x y R : Nat), (∀ W : World, Tab W → Calls Tryz.prog 19 #[.agg #[.bool l.n, .string (bstr l.x), .int .i64 l.e, .bool b.n, .string (bstr b.x), .int .i64 b.e, .int .i64 e]] W fun r w' => r = .returned (.tuple #[.agg #[.complex .f64 x y, .float .f64 R], .int .i64 er]) ∧ Below W.heap.size W w') ∧ (∀ W : World, Calls Tryz.prog 21 #[.agg #[.bool l.n, .string (bstr l.x), .int .i64 l.e, .bool b.n, .string (bstr b.x), .int .i64 b.e, .int .i64 e]] W fun r w' => r = .returned (.tuple #[.agg #[.complex .f64 x y, .float .f64 R], .int .i64 er]) ∧ Below W.heap.size W w') := by
 have hl2 : vM l 2 (e - 1) = vM l 1 e := vM_two (n := 1) (by omega)
 have hb2 : vM b 2 (e - 1) = vM b 1 e := vM_two (n := 1) (by omega)
 by_cases hp : (vM l 2 (e - 1)).2 = 0
 rotate_left
 ·have hE := fun W hW => vcorners_1 l b e W okl okb e1 e2 hp hW
  have rC := fun W => rcorners_1 l b e _ _ rfl rfl W okl okb e1 e2 (by rw [← hl2]; exact hp)
  obtain ⟨em, m, n, rM⟩ := rmid_ex l b e okl okb e1 e2
  exact ⟨4, 0, 0, 0, fun W hW => cover_main e 4 4 0 0 0 0 0 0 0 0 0 0 0 0 0 0 false 0 0 0 0 0 0 _ _ _ _ _ _ false { data := #[] } 0 false { data := #[] } 0 false { data := #[] } 0 false { data := #[] } 0 false { data := #[] } 0 false { data := #[] } 0 false { data := #[] } 0 false { data := #[] } 0 false { data := #[] } 0 false { data := #[] } 0 false { data := #[] } 0 false { data := #[] } 0 false { data := #[] } 0 false { data := #[] } 0 false { data := #[] } 0 false { data := #[] } 0 false { data := #[] } 0 false { data := #[] } 0 false { data := #[] } 0 false { data := #[] } 0 false { data := #[] } 0 false { data := #[] } 0 False False False False False W (fun W => vright_ok l b e W okl okb e1 e2) (.inl ⟨by decide, rfl, rfl, rfl, rfl, hE⟩) (fun h => h.elim) (fun h => h.elim) (fun h => h.elim) (fun h => h.elim) (fun h => h.elim) hW, fun W => rcover_main e 4 _ _ 0 0 0 0 0 0 0 0 0 0 0 0 0 0 0 0 0 0 0 0 (fun _ => false) _ _ _ _ _ _ _ _ _ _ _ _ _ _ _ _ _ _ _ _ _ _ _ _ _ _ _ _ _ _ _ _ _ _ _ _ false { data := #[] } 0 false { data := #[] } 0 false { data := #[] } 0 false { data := #[] } 0 false { data := #[] } 0 false { data := #[] } 0 false { data := #[] } 0 false { data := #[] } 0 false { data := #[] } 0 false { data := #[] } 0 false { data := #[] } 0 false { data := #[] } 0 false { data := #[] } 0 false { data := #[] } 0 false { data := #[] } 0 false { data := #[] } 0 false { data := #[] } 0 false { data := #[] } 0 False False False False False W rC rM (.inl ⟨by decide, rfl, rfl, rfl, rfl⟩) (fun h => h.elim) (fun h => h.elim) (fun h => h.elim) (fun h => h.elim) (fun h => h.elim)⟩
 by_cases hq : (vM b 2 (e - 1)).2 = 0
 rotate_left
 ·have hE := fun W hW => vcorners_2 l b e _ rfl W okl okb e1 e2 hp hq hW
  have rC := fun W => rcorners_2 l b e _ _ rfl rfl W okl okb e1 e2 (by rw [← hl2]; exact hp) (by rw [← hb2]; exact hq)
  obtain ⟨em, m, n, rM⟩ := rmid_ex l b e okl okb e1 e2
  exact ⟨4, 0, 0, 0, fun W hW => cover_main e 4 4 0 0 0 0 0 0 0 0 0 0 0 0 0 0 false 0 0 0 0 0 0 _ _ _ _ _ _ false { data := #[] } 0 false { data := #[] } 0 false { data := #[] } 0 false { data := #[] } 0 false { data := #[] } 0 false { data := #[] } 0 false { data := #[] } 0 false { data := #[] } 0 false { data := #[] } 0 false { data := #[] } 0 false { data := #[] } 0 false { data := #[] } 0 false { data := #[] } 0 false { data := #[] } 0 false { data := #[] } 0 false { data := #[] } 0 false { data := #[] } 0 false { data := #[] } 0 false { data := #[] } 0 false { data := #[] } 0 false { data := #[] } 0 false { data := #[] } 0 False False False False False W (fun W => vright_ok l b e W okl okb e1 e2) (.inl ⟨by decide, rfl, rfl, rfl, rfl, hE⟩) (fun h => h.elim) (fun h => h.elim) (fun h => h.elim) (fun h => h.elim) (fun h => h.elim) hW, fun W => rcover_main e 4 _ _ 0 0 0 0 0 0 0 0 0 0 0 0 0 0 0 0 0 0 0 0 (fun _ => false) _ _ _ _ _ _ _ _ _ _ _ _ _ _ _ _ _ _ _ _ _ _ _ _ _ _ _ _ _ _ _ _ _ _ _ _ false { data := #[] } 0 false { data := #[] } 0 false { data := #[] } 0 false { data := #[] } 0 false { data := #[] } 0 false { data := #[] } 0 false { data := #[] } 0 false { data := #[] } 0 false { data := #[] } 0 false { data := #[] } 0 false { data := #[] } 0 false { data := #[] } 0 false { data := #[] } 0 false { data := #[] } 0 false { data := #[] } 0 false { data := #[] } 0 false { data := #[] } 0 false { data := #[] } 0 False False False False False W rC rM (.inl ⟨by decide, rfl, rfl, rfl, rfl⟩) (fun h => h.elim) (fun h => h.elim) (fun h => h.elim) (fun h => h.elim) (fun h => h.elim)⟩
 have hC := fun W hW => vcorners_0 l b e _ _ rfl rfl W okl okb e1 e2 hp hq hW
 have rC := fun W => rcorners_3 l b e _ _ rfl rfl W okl okb e1 e2 (by rw [← hl2]; exact hp) (by rw [← hb2]; exact hq)
 rw [← hl2, ← hb2] at rC
 have okp := vM_ok l 2 (e - 1)
 have okq := vM_ok b 2 (e - 1)
 have pv := vM_v okl (n := 2) (e := e - 1) (by decide) (by omega) (by omega) hp
 obtain ⟨p, hpe⟩ : ∃ p, (vM l 2 (e - 1)).1 = p := ⟨_, rfl⟩
 obtain ⟨q, hqe⟩ : ∃ q, (vM b 2 (e - 1)).1 = q := ⟨_, rfl⟩
 rw [hpe] at hC okp rC pv
 rw [hqe] at hC okq rC
 have hne : l.v ≠ p.v := by have := W_two_pos e; omega
 clear pv
 have hM := fun W hW => vmiddle ⟨l, b, e⟩ W ⟨okl, okb, e1, e2⟩ hW
 by_cases hm1 : (vM l 1 (e - 1)).2 = 0
 rotate_left
 ·have hE := hM
  rw [show sqMid ⟨l, b, e⟩ = (GY.zero, 4) from gB_no (fun k => hm1 k.1), show bstr GY.zero.re.x = { data := #[] } from bstr_zero, show bstr GY.zero.im.x = { data := #[] } from bstr_zero] at hE
  have rM := fun W => rmiddle_1 l b e _ _ rfl rfl W okl okb e1 e2 hm1
  exact ⟨4, 0, 0, 0, fun W hW => cover_main e 4 0 4 0 0 0 0 0 0 0 0 0 0 0 0 0 false 0 0 0 0 0 0 _ _ _ _ _ _ _ _ _ _ _ _ false { data := #[] } 0 false { data := #[] } 0 false { data := #[] } 0 false { data := #[] } 0 false { data := #[] } 0 false { data := #[] } 0 false { data := #[] } 0 false { data := #[] } 0 false { data := #[] } 0 false { data := #[] } 0 false { data := #[] } 0 false { data := #[] } 0 false { data := #[] } 0 false { data := #[] } 0 false { data := #[] } 0 false { data := #[] } 0 false { data := #[] } 0 false { data := #[] } 0 false { data := #[] } 0 false { data := #[] } 0 False False False False False W (fun W => vright_ok l b e W okl okb e1 e2) (.inr ⟨hC, .inl ⟨by decide, rfl, rfl, rfl, rfl, hE⟩⟩) (fun h => h.elim) (fun h => h.elim) (fun h => h.elim) (fun h => h.elim) (fun h => h.elim) hW, fun W => rcover_main e 4 _ _ 0 0 0 0 0 0 0 0 0 0 0 0 0 0 0 0 0 0 0 0 (fun _ => false) _ _ _ _ _ _ _ _ _ _ _ _ _ _ _ _ _ _ _ _ _ _ _ _ _ _ _ _ _ _ _ _ _ _ _ _ false { data := #[] } 0 false { data := #[] } 0 false { data := #[] } 0 false { data := #[] } 0 false { data := #[] } 0 false { data := #[] } 0 false { data := #[] } 0 false { data := #[] } 0 false { data := #[] } 0 false { data := #[] } 0 false { data := #[] } 0 false { data := #[] } 0 false { data := #[] } 0 false { data := #[] } 0 false { data := #[] } 0 false { data := #[] } 0 false { data := #[] } 0 false { data := #[] } 0 False False False False False W rC rM (.inr (.inl ⟨rfl, by decide, rfl, rfl, rfl, rfl⟩)) (fun h => h.elim) (fun h => h.elim) (fun h => h.elim) (fun h => h.elim) (fun h => h.elim)⟩
 by_cases hm2 : (vM b 1 (e - 1)).2 = 0
 rotate_left
 ·have hE := hM
  rw [show sqMid ⟨l, b, e⟩ = (GY.zero, 4) from gB_no (fun k => hm2 k.2), show bstr GY.zero.re.x = { data := #[] } from bstr_zero, show bstr GY.zero.im.x = { data := #[] } from bstr_zero] at hE
  have rM := fun W => rmiddle_2 l b e _ _ rfl rfl W okl okb e1 e2 hm1 hm2
  exact ⟨4, 0, 0, 0, fun W hW => cover_main e 4 0 4 0 0 0 0 0 0 0 0 0 0 0 0 0 false 0 0 0 0 0 0 _ _ _ _ _ _ _ _ _ _ _ _ false { data := #[] } 0 false { data := #[] } 0 false { data := #[] } 0 false { data := #[] } 0 false { data := #[] } 0 false { data := #[] } 0 false { data := #[] } 0 false { data := #[] } 0 false { data := #[] } 0 false { data := #[] } 0 false { data := #[] } 0 false { data := #[] } 0 false { data := #[] } 0 false { data := #[] } 0 false { data := #[] } 0 false { data := #[] } 0 false { data := #[] } 0 false { data := #[] } 0 false { data := #[] } 0 false { data := #[] } 0 False False False False False W (fun W => vright_ok l b e W okl okb e1 e2) (.inr ⟨hC, .inl ⟨by decide, rfl, rfl, rfl, rfl, hE⟩⟩) (fun h => h.elim) (fun h => h.elim) (fun h => h.elim) (fun h => h.elim) (fun h => h.elim) hW, fun W => rcover_main e 4 _ _ 0 0 0 0 0 0 0 0 0 0 0 0 0 0 0 0 0 0 0 0 (fun _ => false) _ _ _ _ _ _ _ _ _ _ _ _ _ _ _ _ _ _ _ _ _ _ _ _ _ _ _ _ _ _ _ _ _ _ _ _ false { data := #[] } 0 false { data := #[] } 0 false { data := #[] } 0 false { data := #[] } 0 false { data := #[] } 0 false { data := #[] } 0 false { data := #[] } 0 false { data := #[] } 0 false { data := #[] } 0 false { data := #[] } 0 false { data := #[] } 0 false { data := #[] } 0 false { data := #[] } 0 false { data := #[] } 0 false { data := #[] } 0 false { data := #[] } 0 false { data := #[] } 0 false { data := #[] } 0 False False False False False W rC rM (.inr (.inl ⟨rfl, by decide, rfl, rfl, rfl, rfl⟩)) (fun h => h.elim) (fun h => h.elim) (fun h => h.elim) (fun h => h.elim) (fun h => h.elim)⟩
 rw [show sqMid ⟨l, b, e⟩ = (⟨(vM l 1 (e - 1)).1, (vM b 1 (e - 1)).1⟩, 0) from gB_yes hm1 hm2] at hM
 have rM : ∀ W : World, Calls Tryz.prog 14 #[.agg #[.bool l.n, .string (bstr l.x), .int .i64 l.e, .bool b.n, .string (bstr b.x), .int .i64 b.e, .int .i64 e]] W fun r w' => r = .returned (.tuple #[.agg #[.bool (⟨(vM l 1 (e - 1)).1, (vM b 1 (e - 1)).1⟩ : GY).re.n, .string (bstr (⟨(vM l 1 (e - 1)).1, (vM b 1 (e - 1)).1⟩ : GY).re.x), .int .i64 (⟨(vM l 1 (e - 1)).1, (vM b 1 (e - 1)).1⟩ : GY).re.e, .bool (⟨(vM l 1 (e - 1)).1, (vM b 1 (e - 1)).1⟩ : GY).im.n, .string (bstr (⟨(vM l 1 (e - 1)).1, (vM b 1 (e - 1)).1⟩ : GY).im.x), .int .i64 (⟨(vM l 1 (e - 1)).1, (vM b 1 (e - 1)).1⟩ : GY).im.e], .int .i64 0]) ∧ Below W.heap.size W w' := fun W => rmiddle_3 l b e _ _ rfl rfl W okl okb e1 e2 hm1 hm2
 have okM : (⟨(vM l 1 (e - 1)).1, (vM b 1 (e - 1)).1⟩ : GY).ok := ⟨vM_ok _ _ _, vM_ok _ _ _⟩
 generalize (⟨(vM l 1 (e - 1)).1, (vM b 1 (e - 1)).1⟩ : GY) = M at *
 have hn := fun W hW => gnear_w M _ _ rfl rfl W okM hW
 have rn := fun W => qnear_w M _ _ rfl rfl W okM
 have fx := nearF_ok (n := M.re.n) (x := M.re.x) (e := M.re.e) okM.1
 have fy := nearF_ok (n := M.im.n) (x := M.im.x) (e := M.im.e) okM.2
 generalize nearF M.re.n M.re.x M.re.e = x at *
 generalize nearF M.im.n M.im.x M.im.e = y at *
 by_cases hxy : flQ x = 2047 ∨ flQ y = 2047
 ·have hE := fun W hW => gcomplex_bad x y fx.2 fy.2 hxy W hW
  have rE := fun W => qcomplex_bad x y fx.2 fy.2 hxy W
  exact ⟨5, 0, 0, 0, fun W hW => cover_main e 5 0 0 5 0 0 0 0 0 0 0 0 0 0 0 0 false x y 0 0 0 0 _ _ _ _ _ _ _ _ _ _ _ _ _ _ _ _ _ _ false { data := #[] } 0 false { data := #[] } 0 false { data := #[] } 0 false { data := #[] } 0 false { data := #[] } 0 false { data := #[] } 0 false { data := #[] } 0 false { data := #[] } 0 false { data := #[] } 0 false { data := #[] } 0 false { data := #[] } 0 false { data := #[] } 0 false { data := #[] } 0 false { data := #[] } 0 false { data := #[] } 0 false { data := #[] } 0 false { data := #[] } 0 false { data := #[] } 0 False False False False False W (fun W => vright_ok l b e W okl okb e1 e2) (.inr ⟨hC, .inr ⟨hM, hn, .inl ⟨by decide, rfl, rfl, rfl, rfl, hE⟩⟩⟩) (fun h => h.elim) (fun h => h.elim) (fun h => h.elim) (fun h => h.elim) (fun h => h.elim) hW, fun W => rcover_main e 5 _ _ 5 0 0 0 0 0 0 0 0 0 0 0 0 x y 0 0 0 0 0 (fun _ => false) _ _ _ _ _ _ _ _ _ _ _ _ _ _ _ _ _ _ _ _ _ _ _ _ _ _ _ _ _ _ _ _ _ _ _ _ _ _ _ _ _ _ false { data := #[] } 0 false { data := #[] } 0 false { data := #[] } 0 false { data := #[] } 0 false { data := #[] } 0 false { data := #[] } 0 false { data := #[] } 0 false { data := #[] } 0 false { data := #[] } 0 false { data := #[] } 0 false { data := #[] } 0 false { data := #[] } 0 false { data := #[] } 0 false { data := #[] } 0 false { data := #[] } 0 false { data := #[] } 0 False False False False False W rC rM (.inr (.inr ⟨rfl, rfl, rn, rE, .inl ⟨by decide, rfl, rfl, rfl, rfl⟩⟩)) (fun h => h.elim) (fun h => h.elim) (fun h => h.elim) (fun h => h.elim) (fun h => h.elim)⟩
 have hx2 : flQ x ≠ 2047 := fun h => hxy (.inl h)
 have hy2 : flQ y ≠ 2047 := fun h => hxy (.inr h)
 have hZ := fun W hW => gcomplex_w x y _ _ rfl rfl W fx.2 hx2 fy.2 hy2 hW
 have rz := fun W => qcomplex_w x y _ _ rfl rfl W fx.2 hx2 fy.2 hy2
 obtain ⟨Z, hZe⟩ : ∃ Z : GY, (⟨flY x, flY y⟩ : GY) = Z := ⟨_, rfl⟩
 have okZ : Z.ok := hZe ▸ ⟨flY_ok _, flY_ok _⟩
 rw [show flY x = Z.re from hZe ▸ rfl, show flY y = Z.im from hZe ▸ rfl] at hZ rz
 have hS0 := fun W hW => gsub (⟨l, b⟩ : GY) Z W ⟨okl, okb⟩ okZ hW
 have rS0 := fun W => qsub (⟨l, b⟩ : GY) Z W ⟨okl, okb⟩ okZ
 have hN0 := fun W hW => gnorm (gSub (⟨l, b⟩ : GY) Z).1 W (gSub_ok _ _) hW
 have rN0 := fun W => qnorm (gSub (⟨l, b⟩ : GY) Z).1 W (gSub_ok _ _)
 by_cases kS0 : (gSub (⟨l, b⟩ : GY) Z).2 = 0
 rotate_left
 ·have hE := hS0
  rw [(gSub_e (⟨l, b⟩ : GY) Z).resolve_left kS0, show bstr GY.zero.re.x = { data := #[] } from bstr_zero, show bstr GY.zero.im.x = { data := #[] } from bstr_zero] at hE
  exact ⟨4, 0, 0, 0, fun W hW => cover_main e 4 0 0 0 4 0 0 0 0 0 0 0 0 0 0 0 false x y 0 0 0 0 _ _ _ _ _ _ _ _ _ _ _ _ _ _ _ _ _ _ _ _ _ _ _ _ false { data := #[] } 0 false { data := #[] } 0 false { data := #[] } 0 false { data := #[] } 0 false { data := #[] } 0 false { data := #[] } 0 false { data := #[] } 0 false { data := #[] } 0 false { data := #[] } 0 false { data := #[] } 0 false { data := #[] } 0 false { data := #[] } 0 false { data := #[] } 0 false { data := #[] } 0 false { data := #[] } 0 false { data := #[] } 0 True False False False False W (fun W => vright_ok l b e W okl okb e1 e2) (.inr ⟨hC, .inr ⟨hM, hn, .inr ⟨hZ, trivial⟩⟩⟩) (fun _ => .inl ⟨by decide, rfl, rfl, rfl, rfl, hE⟩) (fun h => h.elim) (fun h => h.elim) (fun h => h.elim) (fun h => h.elim) hW, fun W => rcover_main e 4 _ _ 0 _ 0 0 0 _ 0 0 0 0 0 0 0 x y 0 0 0 0 0 (fun _ => false) _ _ _ _ _ _ _ _ _ _ _ _ _ _ _ _ _ _ _ _ _ _ _ _ _ _ _ _ _ _ _ _ _ _ _ _ _ _ _ _ _ _ _ _ _ false { data := #[] } 0 false { data := #[] } 0 false { data := #[] } 0 _ _ _ false { data := #[] } 0 false { data := #[] } 0 false { data := #[] } 0 _ _ _ false { data := #[] } 0 false { data := #[] } 0 false { data := #[] } 0 false { data := #[] } 0 false { data := #[] } 0 false { data := #[] } 0 false { data := #[] } 0 True False False False False W rC rM (.inr (.inr ⟨rfl, rfl, rn, rz, .inr ⟨rfl, trivial⟩⟩)) (fun _ => ⟨rS0, rN0, .inl ⟨kS0, rfl, rfl, rfl, rfl⟩⟩) (fun h => h.elim) (fun h => h.elim) (fun h => h.elim) (fun h => h.elim)⟩
 rw [kS0] at hS0
 by_cases kN0 : (gNorm (gSub (⟨l, b⟩ : GY) Z).1).2 = 0
 rotate_left
 ·have hE := hN0
  rw [(gNorm_z (gSub (⟨l, b⟩ : GY) Z).1).resolve_left kN0, show bstr DY.zero.x = { data := #[] } from bstr_zero] at hE
  exact ⟨4, 0, 0, 0, fun W hW => cover_main e 4 0 0 0 0 0 0 0 4 0 0 0 0 0 0 0 false x y 0 0 0 0 _ _ _ _ _ _ _ _ _ _ _ _ _ _ _ _ _ _ _ _ _ _ _ _ _ _ _ false { data := #[] } 0 false { data := #[] } 0 false { data := #[] } 0 _ _ _ false { data := #[] } 0 false { data := #[] } 0 false { data := #[] } 0 false { data := #[] } 0 false { data := #[] } 0 false { data := #[] } 0 false { data := #[] } 0 false { data := #[] } 0 false { data := #[] } 0 false { data := #[] } 0 false { data := #[] } 0 True False False False False W (fun W => vright_ok l b e W okl okb e1 e2) (.inr ⟨hC, .inr ⟨hM, hn, .inr ⟨hZ, trivial⟩⟩⟩) (fun _ => .inr ⟨hS0, .inl ⟨by decide, rfl, rfl, rfl, rfl, hE⟩⟩) (fun h => h.elim) (fun h => h.elim) (fun h => h.elim) (fun h => h.elim) hW, fun W => rcover_main e 4 _ _ 0 _ 0 0 0 _ 0 0 0 0 0 0 0 x y 0 0 0 0 0 (fun _ => false) _ _ _ _ _ _ _ _ _ _ _ _ _ _ _ _ _ _ _ _ _ _ _ _ _ _ _ _ _ _ _ _ _ _ _ _ _ _ _ _ _ _ _ _ _ false { data := #[] } 0 false { data := #[] } 0 false { data := #[] } 0 _ _ _ false { data := #[] } 0 false { data := #[] } 0 false { data := #[] } 0 _ _ _ false { data := #[] } 0 false { data := #[] } 0 false { data := #[] } 0 false { data := #[] } 0 false { data := #[] } 0 false { data := #[] } 0 false { data := #[] } 0 True False False False False W rC rM (.inr (.inr ⟨rfl, rfl, rn, rz, .inr ⟨rfl, trivial⟩⟩)) (fun _ => ⟨rS0, rN0, .inr (.inl ⟨kS0, kN0, rfl, rfl, rfl, rfl⟩)⟩) (fun h => h.elim) (fun h => h.elim) (fun h => h.elim) (fun h => h.elim)⟩
 rw [kN0] at hN0
 have okN0 := gNorm_ok (gSub (⟨l, b⟩ : GY) Z).1
 obtain ⟨U0, okU0, gN0, gU0, or0, hm0⟩ := max_step (gNorm (gSub (⟨l, b⟩ : GY) Z).1).1 DY.zero okN0 DY.zero_ok
 have hK0 := fun W => ccmp (gNorm (gSub (⟨l, b⟩ : GY) Z).1).1 DY.zero W okN0 DY.zero_ok
 have rK0 := fun W => rccmp DY.zero (gNorm (gSub (⟨l, b⟩ : GY) Z).1).1 W DY.zero_ok okN0
 have rm0 := step_flip hm0
 rw [show bstr DY.zero.x = { data := #[] } from bstr_zero] at hK0 hm0 rK0 rm0
 have hS1 := fun W hW => gsub (⟨p, b⟩ : GY) Z W ⟨okp, okb⟩ okZ hW
 have rS1 := fun W => qsub (⟨p, b⟩ : GY) Z W ⟨okp, okb⟩ okZ
 have hN1 := fun W hW => gnorm (gSub (⟨p, b⟩ : GY) Z).1 W (gSub_ok _ _) hW
 have rN1 := fun W => qnorm (gSub (⟨p, b⟩ : GY) Z).1 W (gSub_ok _ _)
 by_cases kS1 : (gSub (⟨p, b⟩ : GY) Z).2 = 0
 rotate_left
 ·have hE := hS1
  rw [(gSub_e (⟨p, b⟩ : GY) Z).resolve_left kS1, show bstr GY.zero.re.x = { data := #[] } from bstr_zero, show bstr GY.zero.im.x = { data := #[] } from bstr_zero] at hE
  exact ⟨4, 0, 0, 0, fun W hW => cover_main e 4 0 0 0 0 4 0 0 0 0 0 0 _ 0 0 0 false x y 0 0 0 0 _ _ _ _ _ _ _ _ _ _ _ _ _ _ _ _ _ _ _ _ _ _ _ _ _ _ _ false { data := #[] } 0 false { data := #[] } 0 false { data := #[] } 0 _ _ _ false { data := #[] } 0 false { data := #[] } 0 false { data := #[] } 0 _ _ _ false { data := #[] } 0 false { data := #[] } 0 false { data := #[] } 0 _ _ _ false { data := #[] } 0 false { data := #[] } 0 false { data := #[] } 0 True True False False False W (fun W => vright_ok l b e W okl okb e1 e2) (.inr ⟨hC, .inr ⟨hM, hn, .inr ⟨hZ, trivial⟩⟩⟩) (fun _ => .inr ⟨hS0, .inr ⟨hN0, hK0, hm0, trivial⟩⟩) (fun _ => .inl ⟨by decide, rfl, rfl, rfl, rfl, hE⟩) (fun h => h.elim) (fun h => h.elim) (fun h => h.elim) hW, fun W => rcover_main e 4 _ _ 0 _ _ 0 0 _ _ 0 0 _ 0 0 0 x y 0 0 0 0 0 (fun _ => false) _ _ _ _ _ _ _ _ _ _ _ _ _ _ _ _ _ _ _ _ _ _ _ _ _ _ _ _ _ _ _ _ _ _ _ _ _ _ _ _ _ _ _ _ _ _ _ _ false { data := #[] } 0 false { data := #[] } 0 _ _ _ _ _ _ false { data := #[] } 0 false { data := #[] } 0 _ _ _ _ _ _ false { data := #[] } 0 false { data := #[] } 0 _ _ _ false { data := #[] } 0 false { data := #[] } 0 false { data := #[] } 0 True True False False False W rC rM (.inr (.inr ⟨rfl, rfl, rn, rz, .inr ⟨rfl, trivial⟩⟩)) (fun _ => ⟨rS0, rN0, .inr (.inr ⟨kS0, kN0, rK0, rm0, trivial⟩)⟩) (fun _ => ⟨rS1, rN1, .inl ⟨kS1, rfl, rfl, rfl, rfl⟩⟩) (fun h => h.elim) (fun h => h.elim) (fun h => h.elim)⟩
 rw [kS1] at hS1
 by_cases kN1 : (gNorm (gSub (⟨p, b⟩ : GY) Z).1).2 = 0
 rotate_left
 ·have hE := hN1
  rw [(gNorm_z (gSub (⟨p, b⟩ : GY) Z).1).resolve_left kN1, show bstr DY.zero.x = { data := #[] } from bstr_zero] at hE
  exact ⟨4, 0, 0, 0, fun W hW => cover_main e 4 0 0 0 0 0 0 0 0 4 0 0 _ 0 0 0 false x y 0 0 0 0 _ _ _ _ _ _ _ _ _ _ _ _ _ _ _ _ _ _ _ _ _ _ _ _ _ _ _ _ _ _ false { data := #[] } 0 false { data := #[] } 0 _ _ _ _ _ _ false { data := #[] } 0 false { data := #[] } 0 _ _ _ false { data := #[] } 0 false { data := #[] } 0 false { data := #[] } 0 _ _ _ false { data := #[] } 0 false { data := #[] } 0 false { data := #[] } 0 True True False False False W (fun W => vright_ok l b e W okl okb e1 e2) (.inr ⟨hC, .inr ⟨hM, hn, .inr ⟨hZ, trivial⟩⟩⟩) (fun _ => .inr ⟨hS0, .inr ⟨hN0, hK0, hm0, trivial⟩⟩) (fun _ => .inr ⟨hS1, .inl ⟨by decide, rfl, rfl, rfl, rfl, hE⟩⟩) (fun h => h.elim) (fun h => h.elim) (fun h => h.elim) hW, fun W => rcover_main e 4 _ _ 0 _ _ 0 0 _ _ 0 0 _ 0 0 0 x y 0 0 0 0 0 (fun _ => false) _ _ _ _ _ _ _ _ _ _ _ _ _ _ _ _ _ _ _ _ _ _ _ _ _ _ _ _ _ _ _ _ _ _ _ _ _ _ _ _ _ _ _ _ _ _ _ _ false { data := #[] } 0 false { data := #[] } 0 _ _ _ _ _ _ false { data := #[] } 0 false { data := #[] } 0 _ _ _ _ _ _ false { data := #[] } 0 false { data := #[] } 0 _ _ _ false { data := #[] } 0 false { data := #[] } 0 false { data := #[] } 0 True True False False False W rC rM (.inr (.inr ⟨rfl, rfl, rn, rz, .inr ⟨rfl, trivial⟩⟩)) (fun _ => ⟨rS0, rN0, .inr (.inr ⟨kS0, kN0, rK0, rm0, trivial⟩)⟩) (fun _ => ⟨rS1, rN1, .inr (.inl ⟨kS1, kN1, rfl, rfl, rfl, rfl⟩)⟩) (fun h => h.elim) (fun h => h.elim) (fun h => h.elim)⟩
 rw [kN1] at hN1
 have okN1 := gNorm_ok (gSub (⟨p, b⟩ : GY) Z).1
 obtain ⟨U1, okU1, gN1, gU1, or1, hm1⟩ := max_step (gNorm (gSub (⟨p, b⟩ : GY) Z).1).1 U0 okN1 okU0
 have hK1 := fun W => ccmp (gNorm (gSub (⟨p, b⟩ : GY) Z).1).1 U0 W okN1 okU0
 have rK1 := fun W => rccmp U0 (gNorm (gSub (⟨p, b⟩ : GY) Z).1).1 W okU0 okN1
 have rm1 := step_flip hm1
 have hS2 := fun W hW => gsub (⟨l, q⟩ : GY) Z W ⟨okl, okq⟩ okZ hW
 have rS2 := fun W => qsub (⟨l, q⟩ : GY) Z W ⟨okl, okq⟩ okZ
 have hN2 := fun W hW => gnorm (gSub (⟨l, q⟩ : GY) Z).1 W (gSub_ok _ _) hW
 have rN2 := fun W => qnorm (gSub (⟨l, q⟩ : GY) Z).1 W (gSub_ok _ _)
 by_cases kS2 : (gSub (⟨l, q⟩ : GY) Z).2 = 0
 rotate_left
 ·have hE := hS2
  rw [(gSub_e (⟨l, q⟩ : GY) Z).resolve_left kS2, show bstr GY.zero.re.x = { data := #[] } from bstr_zero, show bstr GY.zero.im.x = { data := #[] } from bstr_zero] at hE
  exact ⟨4, 0, 0, 0, fun W hW => cover_main e 4 0 0 0 0 0 4 0 0 0 0 0 _ _ 0 0 false x y 0 0 0 0 _ _ _ _ _ _ _ _ _ _ _ _ _ _ _ _ _ _ _ _ _ _ _ _ _ _ _ _ _ _ false { data := #[] } 0 false { data := #[] } 0 _ _ _ _ _ _ false { data := #[] } 0 false { data := #[] } 0 _ _ _ _ _ _ false { data := #[] } 0 false { data := #[] } 0 _ _ _ _ _ _ false { data := #[] } 0 false { data := #[] } 0 True True True False False W (fun W => vright_ok l b e W okl okb e1 e2) (.inr ⟨hC, .inr ⟨hM, hn, .inr ⟨hZ, trivial⟩⟩⟩) (fun _ => .inr ⟨hS0, .inr ⟨hN0, hK0, hm0, trivial⟩⟩) (fun _ => .inr ⟨hS1, .inr ⟨hN1, hK1, hm1, trivial⟩⟩) (fun _ => .inl ⟨by decide, rfl, rfl, rfl, rfl, hE⟩) (fun h => h.elim) (fun h => h.elim) hW, fun W => rcover_main e 4 _ _ 0 _ _ _ 0 _ _ _ 0 _ _ 0 0 x y 0 0 0 0 0 (fun _ => false) _ _ _ _ _ _ _ _ _ _ _ _ _ _ _ _ _ _ _ _ _ _ _ _ _ _ _ _ _ _ _ _ _ _ _ _ _ _ _ _ _ _ _ _ _ _ _ _ _ _ _ false { data := #[] } 0 _ _ _ _ _ _ _ _ _ false { data := #[] } 0 _ _ _ _ _ _ _ _ _ false { data := #[] } 0 _ _ _ _ _ _ false { data := #[] } 0 false { data := #[] } 0 True True True False False W rC rM (.inr (.inr ⟨rfl, rfl, rn, rz, .inr ⟨rfl, trivial⟩⟩)) (fun _ => ⟨rS0, rN0, .inr (.inr ⟨kS0, kN0, rK0, rm0, trivial⟩)⟩) (fun _ => ⟨rS1, rN1, .inr (.inr ⟨kS1, kN1, rK1, rm1, trivial⟩)⟩) (fun _ => ⟨rS2, rN2, .inl ⟨kS2, rfl, rfl, rfl, rfl⟩⟩) (fun h => h.elim) (fun h => h.elim)⟩
 rw [kS2] at hS2
 by_cases kN2 : (gNorm (gSub (⟨l, q⟩ : GY) Z).1).2 = 0
 rotate_left
 ·have hE := hN2
  rw [(gNorm_z (gSub (⟨l, q⟩ : GY) Z).1).resolve_left kN2, show bstr DY.zero.x = { data := #[] } from bstr_zero] at hE
  exact ⟨4, 0, 0, 0, fun W hW => cover_main e 4 0 0 0 0 0 0 0 0 0 4 0 _ _ 0 0 false x y 0 0 0 0 _ _ _ _ _ _ _ _ _ _ _ _ _ _ _ _ _ _ _ _ _ _ _ _ _ _ _ _ _ _ _ _ _ false { data := #[] } 0 _ _ _ _ _ _ _ _ _ false { data := #[] } 0 _ _ _ _ _ _ false { data := #[] } 0 false { data := #[] } 0 _ _ _ _ _ _ false { data := #[] } 0 false { data := #[] } 0 True True True False False W (fun W => vright_ok l b e W okl okb e1 e2) (.inr ⟨hC, .inr ⟨hM, hn, .inr ⟨hZ, trivial⟩⟩⟩) (fun _ => .inr ⟨hS0, .inr ⟨hN0, hK0, hm0, trivial⟩⟩) (fun _ => .inr ⟨hS1, .inr ⟨hN1, hK1, hm1, trivial⟩⟩) (fun _ => .inr ⟨hS2, .inl ⟨by decide, rfl, rfl, rfl, rfl, hE⟩⟩) (fun h => h.elim) (fun h => h.elim) hW, fun W => rcover_main e 4 _ _ 0 _ _ _ 0 _ _ _ 0 _ _ 0 0 x y 0 0 0 0 0 (fun _ => false) _ _ _ _ _ _ _ _ _ _ _ _ _ _ _ _ _ _ _ _ _ _ _ _ _ _ _ _ _ _ _ _ _ _ _ _ _ _ _ _ _ _ _ _ _ _ _ _ _ _ _ false { data := #[] } 0 _ _ _ _ _ _ _ _ _ false { data := #[] } 0 _ _ _ _ _ _ _ _ _ false { data := #[] } 0 _ _ _ _ _ _ false { data := #[] } 0 false { data := #[] } 0 True True True False False W rC rM (.inr (.inr ⟨rfl, rfl, rn, rz, .inr ⟨rfl, trivial⟩⟩)) (fun _ => ⟨rS0, rN0, .inr (.inr ⟨kS0, kN0, rK0, rm0, trivial⟩)⟩) (fun _ => ⟨rS1, rN1, .inr (.inr ⟨kS1, kN1, rK1, rm1, trivial⟩)⟩) (fun _ => ⟨rS2, rN2, .inr (.inl ⟨kS2, kN2, rfl, rfl, rfl, rfl⟩)⟩) (fun h => h.elim) (fun h => h.elim)⟩
 rw [kN2] at hN2
 have okN2 := gNorm_ok (gSub (⟨l, q⟩ : GY) Z).1
 obtain ⟨U2, okU2, gN2, gU2, or2, hm2⟩ := max_step (gNorm (gSub (⟨l, q⟩ : GY) Z).1).1 U1 okN2 okU1
 have hK2 := fun W => ccmp (gNorm (gSub (⟨l, q⟩ : GY) Z).1).1 U1 W okN2 okU1
 have rK2 := fun W => rccmp U1 (gNorm (gSub (⟨l, q⟩ : GY) Z).1).1 W okU1 okN2
 have rm2 := step_flip hm2
 have hS3 := fun W hW => gsub (⟨p, q⟩ : GY) Z W ⟨okp, okq⟩ okZ hW
 have rS3 := fun W => qsub (⟨p, q⟩ : GY) Z W ⟨okp, okq⟩ okZ
 have hN3 := fun W hW => gnorm (gSub (⟨p, q⟩ : GY) Z).1 W (gSub_ok _ _) hW
 have rN3 := fun W => qnorm (gSub (⟨p, q⟩ : GY) Z).1 W (gSub_ok _ _)
 by_cases kS3 : (gSub (⟨p, q⟩ : GY) Z).2 = 0
 rotate_left
 ·have hE := hS3
  rw [(gSub_e (⟨p, q⟩ : GY) Z).resolve_left kS3, show bstr GY.zero.re.x = { data := #[] } from bstr_zero, show bstr GY.zero.im.x = { data := #[] } from bstr_zero] at hE
  exact ⟨4, 0, 0, 0, fun W hW => cover_main e 4 0 0 0 0 0 0 4 0 0 0 0 _ _ _ 0 false x y 0 0 0 0 _ _ _ _ _ _ _ _ _ _ _ _ _ _ _ _ _ _ _ _ _ _ _ _ _ _ _ _ _ _ _ _ _ false { data := #[] } 0 _ _ _ _ _ _ _ _ _ false { data := #[] } 0 _ _ _ _ _ _ _ _ _ false { data := #[] } 0 _ _ _ _ _ _ _ _ _ false { data := #[] } 0 True True True True False W (fun W => vright_ok l b e W okl okb e1 e2) (.inr ⟨hC, .inr ⟨hM, hn, .inr ⟨hZ, trivial⟩⟩⟩) (fun _ => .inr ⟨hS0, .inr ⟨hN0, hK0, hm0, trivial⟩⟩) (fun _ => .inr ⟨hS1, .inr ⟨hN1, hK1, hm1, trivial⟩⟩) (fun _ => .inr ⟨hS2, .inr ⟨hN2, hK2, hm2, trivial⟩⟩) (fun _ => .inl ⟨by decide, rfl, rfl, rfl, rfl, hE⟩) (fun h => h.elim) hW, fun W => rcover_main e 4 _ _ 0 _ _ _ _ _ _ _ _ _ _ _ 0 x y 0 0 0 0 0 (fun _ => false) _ _ _ _ _ _ _ _ _ _ _ _ _ _ _ _ _ _ _ _ _ _ _ _ _ _ _ _ _ _ _ _ _ _ _ _ _ _ _ _ _ _ _ _ _ _ _ _ _ _ _ _ _ _ _ _ _ _ _ _ _ _ _ _ _ _ _ _ _ _ _ _ _ _ _ _ _ _ _ _ _ _ _ _ _ _ _ false { data := #[] } 0 True True True True False W rC rM (.inr (.inr ⟨rfl, rfl, rn, rz, .inr ⟨rfl, trivial⟩⟩)) (fun _ => ⟨rS0, rN0, .inr (.inr ⟨kS0, kN0, rK0, rm0, trivial⟩)⟩) (fun _ => ⟨rS1, rN1, .inr (.inr ⟨kS1, kN1, rK1, rm1, trivial⟩)⟩) (fun _ => ⟨rS2, rN2, .inr (.inr ⟨kS2, kN2, rK2, rm2, trivial⟩)⟩) (fun _ => ⟨rS3, rN3, .inl ⟨kS3, rfl, rfl, rfl, rfl⟩⟩) (fun h => h.elim)⟩
 rw [kS3] at hS3
 by_cases kN3 : (gNorm (gSub (⟨p, q⟩ : GY) Z).1).2 = 0
 rotate_left
 ·have hE := hN3
  rw [(gNorm_z (gSub (⟨p, q⟩ : GY) Z).1).resolve_left kN3, show bstr DY.zero.x = { data := #[] } from bstr_zero] at hE
  exact ⟨4, 0, 0, 0, fun W hW => cover_main e 4 0 0 0 0 0 0 0 0 0 0 4 _ _ _ 0 false x y 0 0 0 0 _ _ _ _ _ _ _ _ _ _ _ _ _ _ _ _ _ _ _ _ _ _ _ _ _ _ _ _ _ _ _ _ _ _ _ _ _ _ _ _ _ _ _ _ _ _ _ _ _ _ _ _ _ _ _ _ _ false { data := #[] } 0 _ _ _ _ _ _ _ _ _ false { data := #[] } 0 True True True True False W (fun W => vright_ok l b e W okl okb e1 e2) (.inr ⟨hC, .inr ⟨hM, hn, .inr ⟨hZ, trivial⟩⟩⟩) (fun _ => .inr ⟨hS0, .inr ⟨hN0, hK0, hm0, trivial⟩⟩) (fun _ => .inr ⟨hS1, .inr ⟨hN1, hK1, hm1, trivial⟩⟩) (fun _ => .inr ⟨hS2, .inr ⟨hN2, hK2, hm2, trivial⟩⟩) (fun _ => .inr ⟨hS3, .inl ⟨by decide, rfl, rfl, rfl, rfl, hE⟩⟩) (fun h => h.elim) hW, fun W => rcover_main e 4 _ _ 0 _ _ _ _ _ _ _ _ _ _ _ 0 x y 0 0 0 0 0 (fun _ => false) _ _ _ _ _ _ _ _ _ _ _ _ _ _ _ _ _ _ _ _ _ _ _ _ _ _ _ _ _ _ _ _ _ _ _ _ _ _ _ _ _ _ _ _ _ _ _ _ _ _ _ _ _ _ _ _ _ _ _ _ _ _ _ _ _ _ _ _ _ _ _ _ _ _ _ _ _ _ _ _ _ _ _ _ _ _ _ false { data := #[] } 0 True True True True False W rC rM (.inr (.inr ⟨rfl, rfl, rn, rz, .inr ⟨rfl, trivial⟩⟩)) (fun _ => ⟨rS0, rN0, .inr (.inr ⟨kS0, kN0, rK0, rm0, trivial⟩)⟩) (fun _ => ⟨rS1, rN1, .inr (.inr ⟨kS1, kN1, rK1, rm1, trivial⟩)⟩) (fun _ => ⟨rS2, rN2, .inr (.inr ⟨kS2, kN2, rK2, rm2, trivial⟩)⟩) (fun _ => ⟨rS3, rN3, .inr (.inl ⟨kS3, kN3, rfl, rfl, rfl, rfl⟩)⟩) (fun h => h.elim)⟩
 rw [kN3] at hN3
 have okN3 := gNorm_ok (gSub (⟨p, q⟩ : GY) Z).1
 obtain ⟨U3, okU3, gN3, gU3, or3, hm3⟩ := max_step (gNorm (gSub (⟨p, q⟩ : GY) Z).1).1 U2 okN3 okU2
 have hK3 := fun W => ccmp (gNorm (gSub (⟨p, q⟩ : GY) Z).1).1 U2 W okN3 okU2
 have rK3 := fun W => rccmp U2 (gNorm (gSub (⟨p, q⟩ : GY) Z).1).1 W okU2 okN3
 have rm3 := step_flip hm3
 have rE := fun (W : World) (v : Nat) (hv : v ≤ 9218868437227405311) => renough U3 v W okU3 (by omega)
 by_cases hr : rpB U3 9218868437227405311 = true
 rotate_left
 ·have hR := fun W hW => vroot_no U3 W okU3 (by simpa using hr) hW
  exact ⟨5, 0, 0, 0, fun W hW => cover_main e 5 0 0 0 0 0 0 0 0 0 0 0 _ _ _ _ false x y _ 0 0 0 _ _ _ _ _ _ _ _ _ _ _ _ _ _ _ _ _ _ _ _ _ _ _ _ _ _ _ _ _ _ _ _ _ _ _ _ _ _ _ _ _ _ _ _ _ _ _ _ _ _ _ _ _ _ _ _ _ _ _ _ _ _ _ _ _ _ _ _ _ _ _ _ True True True True True W (fun W => vright_ok l b e W okl okb e1 e2) (.inr ⟨hC, .inr ⟨hM, hn, .inr ⟨hZ, trivial⟩⟩⟩) (fun _ => .inr ⟨hS0, .inr ⟨hN0, hK0, hm0, trivial⟩⟩) (fun _ => .inr ⟨hS1, .inr ⟨hN1, hK1, hm1, trivial⟩⟩) (fun _ => .inr ⟨hS2, .inr ⟨hN2, hK2, hm2, trivial⟩⟩) (fun _ => .inr ⟨hS3, .inr ⟨hN3, hK3, hm3, trivial⟩⟩) (fun _ => ⟨hR, .inl ⟨rfl, rfl, rfl, rfl, rfl⟩⟩) hW, fun W => rcover_main e 5 _ _ 0 _ _ _ _ _ _ _ _ _ _ _ _ x y 0 0 0 0 0 (rpB U3) _ _ _ _ _ _ _ _ _ _ _ _ _ _ _ _ _ _ _ _ _ _ _ _ _ _ _ _ _ _ _ _ _ _ _ _ _ _ _ _ _ _ _ _ _ _ _ _ _ _ _ _ _ _ _ _ _ _ _ _ _ _ _ _ _ _ _ _ _ _ _ _ _ _ _ _ _ _ _ _ _ _ _ _ _ _ _ _ _ _ True True True True True W rC rM (.inr (.inr ⟨rfl, rfl, rn, rz, .inr ⟨rfl, trivial⟩⟩)) (fun _ => ⟨rS0, rN0, .inr (.inr ⟨kS0, kN0, rK0, rm0, trivial⟩)⟩) (fun _ => ⟨rS1, rN1, .inr (.inr ⟨kS1, kN1, rK1, rm1, trivial⟩)⟩) (fun _ => ⟨rS2, rN2, .inr (.inr ⟨kS2, kN2, rK2, rm2, trivial⟩)⟩) (fun _ => ⟨rS3, rN3, .inr (.inr ⟨kS3, kN3, rK3, rm3, trivial⟩)⟩) (fun _ => ⟨rE, .inl ⟨by simpa using hr, rfl, rfl, rfl, rfl⟩⟩)⟩
 have hR := fun W hW => vroot_yes U3 _ rfl W okU3 hr hW
 have hU : 0 < U3.v := not_both2 okl okp okb okZ.1 okZ.2 hne ⟨kS0, kN0, by omega⟩ ⟨kS1, kN1, by omega⟩
 have h0 : rpB U3 0 = false := rpB_nought hU
 obtain ⟨G1, hSq, hG1⟩ := sqrt_some (nearF U3.n U3.x U3.e) (nearF_pos okU3 (by omega))
 have rNr := fun W => rnear_ok U3.n U3.x U3.e W okU3
 have rSq := fun W => msqrt_w hSq W
 have hL : ∀ a b : Nat, a + 1 = b → b ≤ 9218868437227405311 → rpB U3 b = true → (a = 0 ∨ rpB U3 a = false) → b = lst (rpB U3) 9218868437227405311 := fun a b hab hb h1 h2 => (lst_is hb (fun t ht => by
  have ha : rpB U3 a = false := by
   rcases h2 with rfl | h2
   ·exact h0
   ·exact h2
  cases hpt : rpB U3 t with
  | false => rfl
  | true => rw [rpB_mono (show t ≤ a by omega) (by omega) hpt] at ha; exact ha) (fun _ => h1)).symm
 exact ⟨0, x, y, lst (rpB U3) 9218868437227405311, fun W hW => cover_main e 0 0 0 0 0 0 0 0 0 0 0 0 _ _ _ _ true x y _ x y _ _ _ _ _ _ _ _ _ _ _ _ _ _ _ _ _ _ _ _ _ _ _ _ _ _ _ _ _ _ _ _ _ _ _ _ _ _ _ _ _ _ _ _ _ _ _ _ _ _ _ _ _ _ _ _ _ _ _ _ _ _ _ _ _ _ _ _ _ _ _ _ _ True True True True True W (fun W => vright_ok l b e W okl okb e1 e2) (.inr ⟨hC, .inr ⟨hM, hn, .inr ⟨hZ, trivial⟩⟩⟩) (fun _ => .inr ⟨hS0, .inr ⟨hN0, hK0, hm0, trivial⟩⟩) (fun _ => .inr ⟨hS1, .inr ⟨hN1, hK1, hm1, trivial⟩⟩) (fun _ => .inr ⟨hS2, .inr ⟨hN2, hK2, hm2, trivial⟩⟩) (fun _ => .inr ⟨hS3, .inr ⟨hN3, hK3, hm3, trivial⟩⟩) (fun _ => ⟨hR, .inr ⟨rfl, rfl, rfl, rfl, rfl⟩⟩) hW, fun W => rcover_main e 0 _ _ 0 _ _ _ _ _ _ _ _ _ _ _ _ x y _ _ x y _ (rpB U3) _ _ _ _ _ _ _ _ _ _ _ _ _ _ _ _ _ _ _ _ _ _ _ _ _ _ _ _ _ _ _ _ _ _ _ _ _ _ _ _ _ _ _ _ _ _ _ _ _ _ _ _ _ _ _ _ _ _ _ _ _ _ _ _ _ _ _ _ _ _ _ _ _ _ _ _ _ _ _ _ _ _ _ _ _ _ _ _ _ _ True True True True True W rC rM (.inr (.inr ⟨rfl, rfl, rn, rz, .inr ⟨rfl, trivial⟩⟩)) (fun _ => ⟨rS0, rN0, .inr (.inr ⟨kS0, kN0, rK0, rm0, trivial⟩)⟩) (fun _ => ⟨rS1, rN1, .inr (.inr ⟨kS1, kN1, rK1, rm1, trivial⟩)⟩) (fun _ => ⟨rS2, rN2, .inr (.inr ⟨kS2, kN2, rK2, rm2, trivial⟩)⟩) (fun _ => ⟨rS3, rN3, .inr (.inr ⟨kS3, kN3, rK3, rm3, trivial⟩)⟩) (fun _ => ⟨rE, .inr ⟨hr, rfl, rfl, rfl, rNr, rSq, hG1, hL⟩⟩)⟩
end Go.Proofs.YtfbkopepkklkjaaGreatDoor
