/- Merged: UB UD UG UH UI BL UJ UK UL UT -/
import Derived.Test.YtbhfnigblhfikaaGreatDoorRL
import Derived.Test.YtbhfnigblhfikaaGreatDoorUA
import Derived.Test.YtbhfnigblhfikaaGreatDoorBJ

/- ratio's Float, Floor, Below, Above, Part: the ways that were lacking; RatioFloors: its ways, by letters. -/
namespace Go.Proofs.YtbhfnigblhfikaaGreatDoor
open Go Go.RowKit Go.PlainAid Fil

set_option maxRecDepth 100000 in
set_option maxHeartbeats 2000000 in
theorem l4like_same2 (f : Nat) (w : World) : Calls Tryz.prog 11 #[.float .f64 f, .float .f64 f] w fun r w' => r = .returned (.bool true) ∧ Below w.heap.size w w' := by
  have h1 := run_f64bits
  have hb := Below.refl w.heap.size w
  cases ho : (FloatKind.f64.format.order f f != some .eq)
  all_goals
    go_enter Tryz.func11, Tryz.ntmps11
    go_wp2_with fail
    go_ret
    exact ⟨rfl, hb⟩
end Go.Proofs.YtbhfnigblhfikaaGreatDoor

/- RatioFloors: the reference's Floor, the number zero, and the law for any input. -/
namespace Go.Proofs.YtbhfnigblhfikaaGreatDoor
open Go Go.RowKit Go.PlainAid Fil

theorem cmpR_self (x : Rat) : cmpR x x = 0 := by
  rw [← cmpR_eq]; unfold cmpI; simp
theorem fRat_zero : fRat false 0 = 0 := by
  unfold fRat
  rw [mv_zero, show sz false 0 = 0 from rfl, Rat.zero_divInt]
end Go.Proofs.YtbhfnigblhfikaaGreatDoor

/- A float's own number: Float, Below and Above give the float back. -/
namespace Go.Proofs.YtbhfnigblhfikaaGreatDoor
open Go Go.RowKit Go.PlainAid Fil

theorem fRat_parts (N : Bool) {R : Nat} (h0 : R ≠ 0) : sg (fRat N R).num = N ∧ (fRat N R).num ≠ 0 ∧ (fRat N R).num.natAbs * P74 = mv R * (fRat N R).den := by
  have hP := P74_pos
  have hm := mv_pos h0
  have hd := (fRat N R).den_nz
  have hz : (fRat N R).num * (P74 : Int) = sz N (mv R) * ((fRat N R).den : Int) := (Rat.divInt_eq_divInt_iff (by omega) (by omega)).1 (Rat.num_divInt_den _)
  rw [sz_mul_nat] at hz
  have hne : (fRat N R).num ≠ 0 := by
    intro h
    rw [h, Int.zero_mul] at hz
    have h1 := congrArg Int.natAbs hz
    rw [sz_abs] at h1
    have := Nat.mul_ne_zero hm hd
    simp at h1; omega
  generalize (fRat N R).num = p at *
  generalize (fRat N R).den = d at *
  have habs : p.natAbs * P74 = mv R * d := by
    have h1 := congrArg Int.natAbs hz
    rw [Int.natAbs_mul, sz_abs, Int.natAbs_natCast] at h1
    exact h1
  refine ⟨?_, hne, habs⟩
  have hpos : 0 < mv R * d := Nat.pos_of_ne_zero (Nat.mul_ne_zero hm hd)
  cases N
  · have h1 : 0 < p * (P74 : Int) := by rw [hz]; show (0 : Int) < ((mv R * d : Nat) : Int); omega
    have h2 : 0 < p := by
      rcases Int.lt_trichotomy p 0 with h | h | h
      · have := Int.mul_neg_of_neg_of_pos h (show (0 : Int) < (P74 : Int) by omega); omega
      · omega
      · exact h
    unfold sg; simp; omega
  · have h1 : p * (P74 : Int) < 0 := by rw [hz]; show -((mv R * d : Nat) : Int) < 0; omega
    have h2 : p < 0 := by
      rcases Int.lt_trichotomy p 0 with h | h | h
      · exact h
      · rw [h, Int.zero_mul] at h1; omega
      · have := Int.mul_pos h (show (0 : Int) < (P74 : Int) by omega); omega
    unfold sg; simp; omega
theorem own_rung (N : Bool) {R : Nat} (h0 : R ≠ 0) (h : R < 9218868437227405312) : kRung (fRat N R) = R := by
  obtain ⟨hs, hn, hA⟩ := fRat_parts N h0
  have hd := (fRat N R).den_nz
  have hn2 : (fRat N R).num.natAbs ≠ 0 := by omega
  have hQ := AQ_rd hn2 hd
  have hR : kRung (fRat N R) = _ := ar_N hn2 hd hQ
  obtain ⟨hL, hlo, hex, hhi⟩ := ar_pos hd hQ
  rw [hA] at hlo hex hhi
  rw [hR]
  generalize aL (fRat N R).num.natAbs (fRat N R).den (rdQ (fV (fRat N R).num.natAbs (fRat N R).den) (fE (fRat N R).num.natAbs (fRat N R).den)) = L at *
  generalize aC (fRat N R).num.natAbs (fRat N R).den (rdQ (fV (fRat N R).num.natAbs (fRat N R).den) (fE (fRat N R).num.natAbs (fRat N R).den)) = c at *
  have hLR : L = R := by
    have h1 : ¬ R < L := fun h => by
      have := Nat.mul_lt_mul_of_pos_right (mv_lt h) (show 0 < (fRat N R).den by omega)
      omega
    have h2 : ¬ L < R := fun h => by
      rcases hhi with h3 | h3
      · omega
      · have := Nat.mul_le_mul_right (fRat N R).den (mv_le (show L + 1 ≤ R by omega))
        omega
    omega
  have hc := hex.2 (by rw [hLR])
  rw [hc, hLR]; simp
end Go.Proofs.YtbhfnigblhfikaaGreatDoor

/- Float, Below and Above of the program alone: their words. -/
namespace Go.Proofs.YtbhfnigblhfikaaGreatDoor
open Go Go.RowKit Go.PlainAid Fil

/-- the exponent of a number's floor rung -/
def exQ (x : Rat) : Int := rdQ (fV x.num.natAbs x.den) (fE x.num.natAbs x.den)
/-- the word of the greatest float not above -/
def loW (x : Rat) : Nat :=
  if sg x.num = true then (if aC x.num.natAbs x.den (exQ x) = -2 then Ieee.double.word true (aL x.num.natAbs x.den (exQ x)) else Ieee.double.word true (aL x.num.natAbs x.den (exQ x) + 1)) else aL x.num.natAbs x.den (exQ x)
/-- the word of the least float not below -/
def hiW (x : Rat) : Nat :=
  if sg x.num = true then Ieee.double.word true (aL x.num.natAbs x.den (exQ x)) else if aC x.num.natAbs x.den (exQ x) = -2 then aL x.num.natAbs x.den (exQ x) else aL x.num.natAbs x.den (exQ x) + 1
set_option maxRecDepth 100000 in
set_option maxHeartbeats 1000000 in
theorem floors_prog (x : Rat) (hx : Fits x) (h0 : x.num ≠ 0) : (∀ W, Calls Tryz.prog 7 #[kA x] W fun r w' => r = .returned (.tuple #[.float .f64 (kFl x), .int .i64 0]) ∧ Below W.heap.size W w')
    ∧ (∀ W, Calls Tryz.prog 8 #[kA x] W fun r w' => r = .returned (.tuple #[.float .f64 (loW x), .int .i64 0]) ∧ Below W.heap.size W w')
    ∧ (∀ W, Calls Tryz.prog 9 #[kA x] W fun r w' => r = .returned (.tuple #[.float .f64 (hiW x), .int .i64 0]) ∧ Below W.heap.size W w') := by
  have hd := x.den_nz
  have hn : x.num.natAbs ≠ 0 := by omega
  have fx := hx
  obtain ⟨Q, hQe⟩ : ∃ Q, Q = exQ x := ⟨_, rfl⟩
  have hQ : AQ x.num.natAbs x.den Q := by rw [hQe]; exact AQ_rd hn hd
  have hR : kRung x = _ := ar_N hn hd hQ
  obtain ⟨hL, hlo, hex, hhi⟩ := ar_pos hd hQ
  have hn0 : x.num.natAbs * P74 ≠ 0 := Nat.mul_ne_zero hn (by have := P74_pos; omega)
  have hag1 := fun (R : Nat) (h : R < 9218868437227405312) => agI_gt (x := x) h
  have hag2 := fun (R : Nat) (h : R < 9218868437227405312) => agI_lt (x := x) h
  have hgi := @agI_inf (sg x.num) x
  have hkf := fun W => kfloat_all x W fx
  have hFl : kFl x = Ieee.double.word (sg x.num) (kRung x) := by unfold kFl; rw [if_neg h0]
  obtain ⟨up, hup⟩ : ∃ up, up = (decide (0 < aC x.num.natAbs x.den Q) || (decide (aC x.num.natAbs x.den Q = 0) && !aE x.num.natAbs x.den Q)) := ⟨_, rfl⟩
  rw [← hup] at hR
  have hupc : up = true → aC x.num.natAbs x.den Q ≠ -2 := fun h e => by rw [hup, e] at h; simp at h
  have hka := fun W B (X : RatAt W B x) => kagainst_any B x (sg x.num) (kRung x) W X (fx.szd.mono (by omega)) (by rw [hR]; cases up <;> simp <;> omega)
  have hrng := agI_rng (sg x.num) (kRung x) x
  have hbd := fun (N : Bool) (R : Nat) (h : R ≤ 9218868437227405312) (h2 : N = false ∨ R < 9218868437227405312) (W : World) => bdown_any N R W h h2
  have hbu := fun (N : Bool) (R : Nat) (h : R ≤ 9218868437227405312) (h2 : N = true ∨ R < 9218868437227405312) (W : World) => bup_any N R W h h2
  have KB := fun (Y : Nat) (z : Bool) W => kbelow_by x (kFl x) Y (agI (sg x.num) (kRung x) x) z W fx hkf (fun W B X => by rw [hFl]; exact hka W B X) hrng.1 hrng.2
  have KA := fun (Y : Nat) W => kabove_by x (kFl x) Y (agI (sg x.num) (kRung x) x) W fx hkf (fun W B X => by rw [hFl]; exact hka W B X) hrng.1 hrng.2
  have hbL := fun h => hag1 (aL x.num.natAbs x.den Q) h
  unfold loW hiW
  rw [← hQe]
  generalize hLL : aL x.num.natAbs x.den Q = L at *
  generalize aC x.num.natAbs x.den Q = c at *
  generalize aE x.num.natAbs x.den Q = e at *
  generalize x.num.natAbs * P74 = A0 at *
  have hL1 : L = 9218868437227405311 ∨ L + 1 < 9218868437227405312 := by omega
  have hup2 : up = true → mv L * x.den < A0 := fun h => by
    have := hupc h
    rcases Nat.lt_or_ge (mv L * x.den) A0 with h1 | h1
    · exact h1
    · exact absurd (hex.2 (by omega)) this
  have hcases : (up = false ∧ kRung x = L) ∨ (up = true ∧ kRung x = L + 1 ∧ mv L * x.den < A0 ∧ c ≠ -2) := by
    cases hu : up
    · exact .inl ⟨rfl, by rw [hR, hu]; rfl⟩
    · exact .inr ⟨rfl, by rw [hR, hu]; rfl, hup2 hu, hupc hu⟩
  have hL0 : c = -2 → L ≠ 0 := fun h e => by
    have := hex.1 h
    rw [e, mv_zero, Nat.zero_mul] at this
    omega
  clear hR hup hup2 hupc hLL hka hrng hkf hbL hQe
  generalize kRung x = R at *
  cases hN : sg x.num
  · -- the number is above zero
    rw [hN] at hag1 hag2 hgi hFl KB KA
    simp only [Bool.false_eq_true, if_false] at hag1 hag2 hgi
    have up1 : agI false (L + 1) x < 0 → False := fun h => by
      rcases hL1 with h1 | h1
      · rw [show L + 1 = 9218868437227405312 by omega, hgi] at h; omega
      · have := (hag2 (L + 1) h1).1 h; omega
    have up2 : 0 < agI false (L + 1) x := by
      rcases hL1 with h1 | h1
      · rw [show L + 1 = 9218868437227405312 by omega, hgi]; omega
      · exact (hag1 (L + 1) h1).2 (by omega)
    simp only [Bool.false_eq_true, if_false]
    refine ⟨fun W => kfloat_all x W fx, fun W => ?_, fun W => ?_⟩
    · have e : (if (L == 0) = true then 0 else L) = L := by
        by_cases h : L = 0
        · rw [h]; rfl
        · rw [if_neg (by rw [beq_eq_false_iff_ne.2 h]; simp)]
      have := KB L (L == 0) W ?_ ?_ (ord_word0 (R := L) false (by omega))
      · rwa [e] at this
      · intro hg W
        rcases hcases with ⟨_, hRL⟩ | ⟨_, hRL, hlt, hc⟩
        · rw [hRL] at hg; have := (hag1 L (by omega)).1 hg; omega
        · rw [hFl, hRL]
          have := hbd false (L + 1) (by omega) (.inl rfl) W
          rwa [show dnW false (L + 1) = L by unfold dnW; simp] at this
      · intro hg
        rcases hcases with ⟨_, hRL⟩ | ⟨_, hRL, hlt, hc⟩
        · rw [hFl, hRL]; rfl
        · rw [hRL] at hg; exact absurd up2 hg
    · refine KA _ W ?_ ?_
      · intro hg W
        rcases hcases with ⟨_, hRL⟩ | ⟨_, hRL, hlt, hc⟩
        · rw [hRL] at hg
          have h1 := (hag2 L (by omega)).1 hg
          rw [if_neg (fun h => by have := hex.1 h; omega), hFl, hRL]
          have := hbu false L (by omega) (.inr (by omega)) W
          rwa [show upW false L = L + 1 by unfold upW; split <;> simp_all] at this
        · rw [hRL] at hg; exact absurd hg up1
      · intro hg
        rcases hcases with ⟨_, hRL⟩ | ⟨_, hRL, hlt, hc⟩
        · rw [hRL] at hg
          have h1 : ¬ mv L * x.den < A0 := fun h => hg ((hag2 L (by omega)).2 h)
          rw [if_pos (hex.2 (by omega)), hFl, hRL]; rfl
        · rw [if_neg hc, hFl, hRL]; rfl
  · -- the number is below zero
    rw [hN] at hag1 hag2 hgi hFl KB KA
    simp only [if_true] at hag1 hag2 hgi
    have up1 : 0 < agI true (L + 1) x → False := fun h => by
      rcases hL1 with h1 | h1
      · rw [show L + 1 = 9218868437227405312 by omega, hgi] at h; omega
      · have := (hag1 (L + 1) h1).1 h; omega
    have up2 : agI true (L + 1) x < 0 := by
      rcases hL1 with h1 | h1
      · rw [show L + 1 = 9218868437227405312 by omega, hgi]; omega
      · exact (hag2 (L + 1) h1).2 (by omega)
    simp only [if_true]
    refine ⟨fun W => kfloat_all x W fx, fun W => ?_, fun W => ?_⟩
    · have := KB (if c = -2 then Ieee.double.word true L else Ieee.double.word true (L + 1)) false W ?_ ?_ ?_
      · simpa only [Bool.false_eq_true, if_false] using this
      · intro hg W
        rcases hcases with ⟨_, hRL⟩ | ⟨_, hRL, hlt, hc⟩
        · rw [hRL] at hg
          have h1 := (hag1 L (by omega)).1 hg
          rw [if_neg (fun h => by have := hex.1 h; omega), hFl, hRL]
          have := hbd true L (by omega) (.inr (by omega)) W
          rwa [show dnW true L = Ieee.double.word true (L + 1) by
            unfold dnW
            split
            · rename_i h; rw [h]; rfl
            · rfl] at this
        · rw [hRL] at hg; exact absurd hg up1
      · intro hg
        rcases hcases with ⟨_, hRL⟩ | ⟨_, hRL, hlt, hc⟩
        · rw [hRL] at hg
          have h1 : ¬ mv L * x.den < A0 := fun h => hg ((hag1 L (by omega)).2 h)
          rw [if_pos (hex.2 (by omega)), hFl, hRL]
        · rw [if_neg hc, hFl, hRL]
      · split
        · rename_i h; exact word0_ne (by omega) (hL0 h)
        · exact word0_ne (by omega) (by omega)
    · refine KA _ W ?_ ?_
      · intro hg W
        rcases hcases with ⟨_, hRL⟩ | ⟨_, hRL, hlt, hc⟩
        · rw [hRL] at hg; have := (hag2 L (by omega)).1 hg; omega
        · rw [hFl, hRL]
          have := hbu true (L + 1) (by omega) (.inl rfl) W
          rwa [show upW true (L + 1) = Ieee.double.word true L by unfold upW; simp] at this
      · intro hg
        rcases hcases with ⟨_, hRL⟩ | ⟨_, hRL, hlt, hc⟩
        · rw [hFl, hRL]
        · rw [hRL] at hg; exact absurd up2 hg
end Go.Proofs.YtbhfnigblhfikaaGreatDoor

/- filigreelaw04.finite; a float's own number through Float, Below, Above. -/
namespace Go.Proofs.YtbhfnigblhfikaaGreatDoor
open Go Go.RowKit Go.PlainAid Fil

theorem own_LC (N : Bool) {R : Nat} (h0 : R ≠ 0) (h : R < 9218868437227405312) : aL (fRat N R).num.natAbs (fRat N R).den (exQ (fRat N R)) = R ∧ aC (fRat N R).num.natAbs (fRat N R).den (exQ (fRat N R)) = -2 := by
  obtain ⟨hs, hn, hA⟩ := fRat_parts N h0
  have hd := (fRat N R).den_nz
  have hn2 : (fRat N R).num.natAbs ≠ 0 := by omega
  have hQ : AQ (fRat N R).num.natAbs (fRat N R).den (exQ (fRat N R)) := AQ_rd hn2 hd
  obtain ⟨hL, hlo, hex, hhi⟩ := ar_pos hd hQ
  rw [hA] at hlo hex hhi
  generalize aL (fRat N R).num.natAbs (fRat N R).den (exQ (fRat N R)) = L at *
  generalize aC (fRat N R).num.natAbs (fRat N R).den (exQ (fRat N R)) = c at *
  have hLR : L = R := by
    have h1 : ¬ R < L := fun h => by
      have := Nat.mul_lt_mul_of_pos_right (mv_lt h) (show 0 < (fRat N R).den by omega)
      omega
    have h2 : ¬ L < R := fun h => by
      rcases hhi with h3 | h3
      · omega
      · have := Nat.mul_le_mul_right (fRat N R).den (mv_le (show L + 1 ≤ R by omega))
        omega
    omega
  exact ⟨hLR, hex.2 (by rw [hLR])⟩
theorem zero_prog : (∀ W, Calls Tryz.prog 7 #[kA 0] W fun r w' => r = .returned (.tuple #[.float .f64 0, .int .i64 0]) ∧ Below W.heap.size W w')
    ∧ (∀ W, Calls Tryz.prog 8 #[kA 0] W fun r w' => r = .returned (.tuple #[.float .f64 0, .int .i64 0]) ∧ Below W.heap.size W w')
    ∧ (∀ W, Calls Tryz.prog 9 #[kA 0] W fun r w' => r = .returned (.tuple #[.float .f64 0, .int .i64 0]) ∧ Below W.heap.size W w') := by
  have fx : Fits 0 := ⟨by decide, by decide⟩
  have hkf := fun W => kfloat_all 0 W fx
  have hFl : kFl 0 = 0 := by unfold kFl; rw [if_pos (by rfl)]
  rw [hFl] at hkf
  have hka := fun W B (X : RatAt W B 0) => kagainst_any B 0 false 0 W X (fx.szd.mono (by omega)) (by omega)
  have ha0 : agI false 0 0 = 0 := by unfold agI; rw [if_neg (by omega), fRat_zero, cmpR_self]
  rw [ha0] at hka
  exact ⟨hkf, fun W => kbelow_by 0 0 0 0 true W fx hkf hka (by omega) (by omega) (fun h => by omega) (fun _ => rfl) (ord_word0 (R := 0) false (by omega)), fun W => kabove_by 0 0 0 0 W fx hkf hka (by omega) (by omega) (fun h => by omega) (fun _ => rfl)⟩
/-- a float's word with +0 for -0 -/
def plW (N : Bool) (R : Nat) : Nat := if R = 0 then 0 else Ieee.double.word N R
theorem fRat_z (N : Bool) : fRat N 0 = 0 := by
  unfold fRat
  rw [mv_zero, show sz N 0 = 0 by cases N <;> rfl, Rat.zero_divInt]
theorem own_any (N : Bool) (R : Nat) (h : R < 9218868437227405312) (hf : Fits (fRat N R)) : (∀ W, Calls Tryz.prog 7 #[kA (fRat N R)] W fun r w' => r = .returned (.tuple #[.float .f64 (plW N R), .int .i64 0]) ∧ Below W.heap.size W w')
    ∧ (∀ W, Calls Tryz.prog 8 #[kA (fRat N R)] W fun r w' => r = .returned (.tuple #[.float .f64 (plW N R), .int .i64 0]) ∧ Below W.heap.size W w')
    ∧ (∀ W, Calls Tryz.prog 9 #[kA (fRat N R)] W fun r w' => r = .returned (.tuple #[.float .f64 (plW N R), .int .i64 0]) ∧ Below W.heap.size W w') := by
  unfold plW
  by_cases h0 : R = 0
  · subst h0
    rw [fRat_z, if_pos rfl]
    exact zero_prog
  · rw [if_neg h0]
    obtain ⟨hs, hn, hA⟩ := fRat_parts N h0
    have hk := own_rung N h0 h
    obtain ⟨hL, hc⟩ := own_LC N h0 h
    have hp := floors_prog (fRat N R) hf hn
    have e1 : kFl (fRat N R) = Ieee.double.word N R := by unfold kFl; rw [if_neg hn, hs, hk]
    have e2 : loW (fRat N R) = Ieee.double.word N R := by
      unfold loW; rw [hs, hL, hc]
      cases N
      · rfl
      · rfl
    have e3 : hiW (fRat N R) = Ieee.double.word N R := by
      unfold hiW; rw [hs, hL, hc]
      cases N
      · rfl
      · rfl
    rw [e1, e2, e3] at hp
    exact hp
theorem fRat_fits {N : Bool} {R : Nat} (h : R < 9218868437227405312) : Bts 300 (fRat N R) := by
  unfold fRat
  obtain ⟨K, hK⟩ : ∃ K, K = 2104 := ⟨_, rfl⟩
  obtain ⟨J, hJ⟩ : ∃ J, J = 1074 := ⟨_, rfl⟩
  obtain ⟨L, hL⟩ : ∃ L, L = 300 := ⟨_, rfl⟩
  have hP := P74_pos
  rw [← hL]
  refine bts_div (by omega) ?_ ?_
  · rw [sz_abs]
    exact dn_le (by omega) (Nat.lt_of_lt_of_le (mv_bits hK h) (pmono (by omega)))
  · rw [Int.natAbs_natCast, P74_eq hJ]
    exact dn_le (by omega) (Nat.pow_lt_pow_right (by omega) (by omega))
theorem sub_own {w : Nat} (h : fr w < 9218868437227405312) : Ieee.double.sub w w = some 0 := by
  obtain ⟨m, p, hr, _⟩ := read_num h
  unfold Ieee.Format.sub
  rw [hr]
  unfold Ieee.Datum.opposite Ieee.Datum.sum
  simp only [Int.min_self, Int.sub_self]
  have hz : Ieee.signed (fs w) m (Int.toNat 0) + Ieee.signed (!fs w) m (Int.toNat 0) = 0 := by
    unfold Ieee.signed; cases fs w <;> simp <;> omega
  rw [hz, if_pos rfl]
  show some (Ieee.double.nearest (fs w && !fs w) 0 p) = some 0
  unfold Ieee.Format.nearest
  rw [if_pos rfl]
  cases fs w <;> rfl
theorem sub_inf {w : Nat} (h : fr w = 9218868437227405312) : Ieee.double.sub w w = none := by
  unfold Ieee.Format.sub
  rw [read_inf h]
  cases fs w <;> rfl
theorem sub_nan {w : Nat} (h : 9218868437227405312 < fr w) : Ieee.double.sub w w = none := by
  obtain ⟨t, ht⟩ := read_nan h
  unfold Ieee.Format.sub
  rw [ht]
  rfl
theorem l4finite_yes (b : Nat) (w : World) (h : fr b < 9218868437227405312) : Calls Tryz.prog 5 #[.float .f64 b] w fun r w' => r = .returned (.bool true) ∧ Below w.heap.size w w' := by
  have hb := Below.refl w.heap.size w
  have hs : floatBits .sub .f64 b b = some 0 := sub_own h
  have h1 := fun W => run_float_arith (P := Tryz.prog) W .sub 26 .f64 b b 0 hs
  have ho : (FloatKind.f64.format.order 0 0 == some .eq) = true := by decide
  go_enter Tryz.func5, Tryz.ntmps5
  go_wp2
  go_ret
  exact ⟨rfl, hb⟩
theorem sub_none {w : Nat} (h : ¬ fr w < 9218868437227405312) : Ieee.double.sub w w = none := by
  by_cases h1 : fr w = 9218868437227405312
  · exact sub_inf h1
  · exact sub_nan (by omega)
/-- the words that the tape may give for an invalid operation -/
def nanT (t : Nat) : Nat := (t % 2) * 9223372036854775808 + 9218868437227405312 + 1 + (t / 2) % 4503599627370495
theorem nanT_fr (t : Nat) : 9218868437227405312 < fr (nanT t) := by
  unfold fr nanT
  have h1 : t % 2 < 2 := Nat.mod_lt _ (by omega)
  have h2 : t / 2 % 4503599627370495 < 4503599627370495 := Nat.mod_lt _ (by omega)
  generalize t % 2 = a at *
  generalize t / 2 % 4503599627370495 = b at *
  rcases (show a = 0 ∨ a = 1 by omega) with rfl | rfl <;> omega
theorem order_nanT (t : Nat) : (FloatKind.f64.format.order (nanT t) 0 == some .eq) = false := by
  obtain ⟨u, hu⟩ := read_nan (nanT_fr t)
  have e : FloatKind.f64.format.order (nanT t) 0 = none := by
    show (Ieee.double.read (nanT t)).order (Ieee.double.read 0) = none
    rw [hu]; rfl
  rw [e]; rfl
theorem run_sub_none (P : Program) (W : World) (t : TypeId) {b : Nat} (h : Ieee.double.sub b b = none) : ∃ u, (binOp .sub t (.float .f64 b) (.float .f64 b)).run P W = .ok (.float .f64 (nanT u)) W.drew := by
  refine ⟨W.tape W.drawn (.nanBits .f64 b b), ?_⟩
  have h2 : FloatKind.f64.format.sub b b = none := h
  simp [binOp, Op.floatArith, h2, Question.forced, Question.cut, nanT]
theorem l4finite_no (b : Nat) (w : World) (h : ¬ fr b < 9218868437227405312) : Calls Tryz.prog 5 #[.float .f64 b] w fun r w' => r = .returned (.bool false) ∧ Below w.heap.size w w' := by
  have hb := Below.refl w.heap.size w
  obtain ⟨u, h1⟩ := run_sub_none Tryz.prog w 26 (sub_none h)
  have ho := order_nanT u
  generalize nanT u = v at *
  go_enter Tryz.func5, Tryz.ntmps5
  go_wp2
  go_ret
  exact ⟨rfl, hb.drew⟩
end Go.Proofs.YtbhfnigblhfikaaGreatDoor

/- The walks over dyad.Float and the reference's FromFloat. -/
namespace Go.Proofs.YtbhfnigblhfikaaGreatDoor
open Go Go.RowKit Go.PlainAid Fil

/-- a float's parts -/
def flQ (b : Nat) : Nat := b / 4503599627370496 % 2048
def flM (b : Nat) : Nat := if flQ b = 0 then b % 4503599627370496 else b % 4503599627370496 + 4503599627370496
def flE (b : Nat) : Int := (if flQ b = 0 then (1 : Int) else (flQ b : Int)) - 1075
theorem flQ_fr (b : Nat) : flQ b = fr b / 4503599627370496 := by unfold flQ fr; omega
theorem flQ_lt (b : Nat) : flQ b < 2048 := Nat.mod_lt _ (by omega)
theorem flQ_inf {b : Nat} : flQ b = 2047 ↔ 9218868437227405312 ≤ fr b := by rw [flQ_fr]; unfold fr; omega
theorem flM_lt (b : Nat) : flM b < 9007199254740992 := by unfold flM; split <;> omega
theorem flM_zero {b : Nat} : flM b = 0 ↔ fr b = 0 := by unfold flM flQ fr; split <;> omega
theorem flE_bd (b : Nat) : -1074 ≤ flE b ∧ flE b ≤ 972 := by
  have := flQ_lt b
  unfold flE; split <;> omega
theorem fr_fr (b : Nat) : fr (fr b) = fr b := Nat.mod_mod _ _
theorem cmp_eq (a : Int) : compare a a = .eq := Int.compare_eq_eq.2 rfl
/-- not a NaN; a NaN -/
theorem nan_no {b : Nat} (h : fr b ≤ 9218868437227405312) : (FloatKind.f64.format.order b b != some .eq) = false := by
  rw [show FloatKind.f64.format = Ieee.double from rfl, order_some h h, cmp_eq]; rfl
theorem inf_no {b : Nat} (h : fr b < 9218868437227405312) : (FloatKind.f64.format.order (magB b) 9218868437227405311 == some .gt) = false := by
  have := ord_big (x := magB b) h
  rw [show magB (magB b) = magB b from fr_fr b] at this
  exact this
theorem fk_pos {b : Nat} (h : fs b = false) : fk b = fr b := by unfold fk; rw [h]; rfl
theorem fk_neg {b : Nat} (h : fs b = true) : fk b = -(fr b : Int) := by unfold fk; rw [h]; rfl
theorem fk_nought : fk 0 = 0 := rfl
theorem ord_neg {b : Nat} (h : fr b ≤ 9218868437227405312) : (FloatKind.f64.format.order b 0 == some .lt) = decide (fk b < 0) := by
  rw [show FloatKind.f64.format = Ieee.double from rfl, order_some h (by unfold fr; omega), fk_nought]
  rcases Int.lt_trichotomy (fk b) 0 with h1 | h1 | h1
  · rw [cmp_lt h1, decide_eq_true h1]; rfl
  · rw [h1, cmp_eq]; rfl
  · rw [cmp_gt h1, decide_eq_false (by omega)]; rfl
theorem bits_low (b : Nat) (h : b < 18446744073709551616) : bits BinOp.and IntKind.u64 (b : Int) 4503599627370495 = ((b % 4503599627370496 : Nat) : Int) := by
  have h1 := u64_and_nat b 4503599627370495 h (by omega)
  rw [show ((4503599627370495 : Nat) : Int) = 4503599627370495 from rfl] at h1
  rw [h1, show 4503599627370495 = 2 ^ 52 - 1 by rfl, Nat.and_two_pow_sub_one_eq_mod]
theorem bits_exp (q : Nat) (h : q < 18446744073709551616) : bits BinOp.and IntKind.u64 (q : Int) 2047 = ((q % 2048 : Nat) : Int) := by
  have h1 := u64_and_nat q 2047 h (by omega)
  rw [show ((2047 : Nat) : Int) = 2047 from rfl] at h1
  rw [h1, show 2047 = 2 ^ 11 - 1 by rfl, Nat.and_two_pow_sub_one_eq_mod]
theorem bits_or52 (F : Nat) (h : F < 4503599627370496) : bits BinOp.or IntKind.i64 (F : Int) 4503599627370496 = ((F + 4503599627370496 : Nat) : Int) := by
  show IntKind.i64.wrap ((BitVec.ofInt 64 (F : Int) ||| BitVec.ofInt 64 4503599627370496).toNat : Int) = _
  have h2 : (BitVec.ofInt 64 (F : Int) ||| BitVec.ofInt 64 4503599627370496).toNat = F ||| 4503599627370496 := by
    rw [BitVec.toNat_or, BitVec.ofInt_natCast, BitVec.toNat_ofNat, Nat.mod_eq_of_lt (by omega)]
    rfl
  have := or_add' (s := 52) (a := 1) (b := F) (by omega)
  rw [show 1 * 2 ^ 52 = 4503599627370496 by rfl] at this
  rw [h2, this, IntKind.wrap_i64]
  omega

set_option maxRecDepth 20000 in
set_option maxHeartbeats 8000000 in
theorem dfloat_ok (b : Nat) (w : World) (hb : b < 18446744073709551616) (h : flQ b ≠ 2047) (hT : Tab w) :
    Calls Tryz.prog 19 #[.float .f64 b] w fun r w' => r = .returned (mkV (sz (fs b) (flM b)) (flE b)) ∧ Below w.heap.size w w' := by
  have hi := fun W => isinf_any b W hb
  have hn := fun W => isnan_any b W
  have hf : fr b < 9218868437227405312 := by
    rcases Nat.lt_or_ge (fr b) 9218868437227405312 with h1 | h1
    · exact h1
    · exact absurd (flQ_inf.2 h1) h
  rw [nan_no (by omega)] at hn
  rw [inf_no hf] at hi
  have h1 := run_f64bits
  have hlow := bits_low b hb
  obtain ⟨q, hq⟩ : ∃ q, q = b / 4503599627370496 := ⟨_, rfl⟩
  have hqd : (b : Int) / 4503599627370496 = (q : Int) := by omega
  have hex := bits_exp q (by omega)
  rw [show q % 2048 = flQ b by rw [hq]; rfl] at hex
  obtain ⟨F, hF⟩ : ∃ F, F = b % 4503599627370496 := ⟨_, rfl⟩
  rw [← hF] at hlow
  have hor := bits_or52 F (by omega)
  have hM : flM b = if flQ b = 0 then F else F + 4503599627370496 := by rw [hF]; rfl
  have hE : flE b = (if flQ b = 0 then (1 : Int) else (flQ b : Int)) - 1075 := rfl
  have hlt := ord_neg (b := b) (by omega)
  have hzz : sz (fs b) (flM b) = if fk b < 0 then -(flM b : Int) else (flM b : Int) := by
    cases hs : fs b
    · rw [if_neg (by rw [fk_pos hs]; omega)]; rfl
    · by_cases h0 : fr b = 0
      · rw [if_neg (by rw [fk_neg hs, h0]; omega), flM_zero.2 h0]; rfl
      · rw [if_pos (by rw [fk_neg hs]; omega)]; rfl
  have hml := flM_lt b
  have heb := flE_bd b
  have hof := fun W hW => dof_any (sz (fs b) (flM b)) (flE b) W hW (by rw [hzz]; split <;> omega) (by rw [hzz]; split <;> omega) (by omega) (by omega)
  have hQl := flQ_lt b
  rw [hzz] at hof ⊢
  generalize fk b = K at *
  generalize flM b = M at *
  generalize flE b = e at *
  have hB := (Below.refl w.heap.size w).alloc (Nat.le_refl _) (.cells #[.bool false, .string { data := #[] }, .int .i64 0] 44)
  have hD := DyAt.put w false { data := #[] } 0
  have hTT := hT.below hB
  have F0 : 0 ≤ (F : Int) := by omega
  have F1 : (F : Int) < 4503599627370496 := by omega
  have Q0 : 0 ≤ (flQ b : Int) := by omega
  have Q1 : (flQ b : Int) < 2048 := by omega
  by_cases hk : K < 0
  · have k1 : decide (K < 0) = true := decide_eq_true hk
    rw [k1] at hlt
    rw [if_pos hk] at hof ⊢
    by_cases hq0 : flQ b = 0
    · rw [if_pos hq0] at hM hE
      rw [show (1 : Int) - 1075 = -1074 by rfl] at hE
      subst hM
      subst hE
      rw [hq0] at hex
      clear hk k1 hq0 h hf hb hzz hml heb hQl hq hF
      unfold mkV at hof ⊢
      unfold dyR at hof ⊢
      generalize mkN (-(M : Int)) (-1074) = VN at *
      generalize bstr (mkX (-(M : Int)) (-1074)) = VS at *
      generalize mkE (-(M : Int)) (-1074) = VE at *
      generalize mkR (-(M : Int)) (-1074) = VR at *
      go_enter Tryz.func19, Tryz.ntmps19
      go_wp2_with (first
        | (go_at_call 34; go_must (refine (hi _).mono ?_); rintro r w1 ⟨rfl, rfl⟩)
        | (go_at_call 38; go_must (refine (hn _).mono ?_); rintro r w1 ⟨rfl, rfl⟩))
      (with_reducible refine (hof _ hTT).mono ?_)
      rintro r w2 ⟨rfl, hb2⟩
      replace hD := hD.keep hb2
      replace hB := hB.trans (hb2.mono hB.size)
      obtain ⟨c0, c1, c2, f0, f1, f2⟩ := hD
      have hbZ : Below w.heap.size w (((w2.setCell ⟨w.heap.size, 0, none⟩ (.bool VN)).setCell ⟨w.heap.size, 1, none⟩ (.string VS)).setCell ⟨w.heap.size, 2, none⟩ (.int .i64 VE)) := ((hB.setCell (Nat.le_refl _) _).setCell (Nat.le_refl _) _).setCell (Nat.le_refl _) _
      clear hb2 hB hof hi hn
      go_wp2
      exact bodyPost_ret (v := .tuple #[.agg #[.bool VN, .string VS, .int .i64 VE], .int .i64 VR]) (by simp [results, Tryz.results19, go_sem, c0, c1, c2]) rfl ⟨rfl, hbZ⟩
    · rw [if_neg hq0] at hM hE
      subst hM
      subst hE
      have hq1 : ((flQ b : Int) == 0) = false := by simpa using hq0
      generalize flQ b = qq at *
      rw [show ((F + 4503599627370496 : Nat) : Int) = (F : Int) + 4503599627370496 by omega] at hof hor ⊢
      clear hk k1 hq0 h hf hb hzz hml heb hQl hq hF
      unfold mkV at hof ⊢
      unfold dyR at hof ⊢
      generalize mkN (-((F : Int) + 4503599627370496)) ((qq : Int) - 1075) = VN at *
      generalize bstr (mkX (-((F : Int) + 4503599627370496)) ((qq : Int) - 1075)) = VS at *
      generalize mkE (-((F : Int) + 4503599627370496)) ((qq : Int) - 1075) = VE at *
      generalize mkR (-((F : Int) + 4503599627370496)) ((qq : Int) - 1075) = VR at *
      go_enter Tryz.func19, Tryz.ntmps19
      go_wp2_with (first
        | (go_at_call 34; go_must (refine (hi _).mono ?_); rintro r w1 ⟨rfl, rfl⟩)
        | (go_at_call 38; go_must (refine (hn _).mono ?_); rintro r w1 ⟨rfl, rfl⟩))
      (with_reducible refine (hof _ hTT).mono ?_)
      rintro r w2 ⟨rfl, hb2⟩
      replace hD := hD.keep hb2
      replace hB := hB.trans (hb2.mono hB.size)
      obtain ⟨c0, c1, c2, f0, f1, f2⟩ := hD
      have hbZ : Below w.heap.size w (((w2.setCell ⟨w.heap.size, 0, none⟩ (.bool VN)).setCell ⟨w.heap.size, 1, none⟩ (.string VS)).setCell ⟨w.heap.size, 2, none⟩ (.int .i64 VE)) := ((hB.setCell (Nat.le_refl _) _).setCell (Nat.le_refl _) _).setCell (Nat.le_refl _) _
      clear hb2 hB hof hi hn
      go_wp2
      exact bodyPost_ret (v := .tuple #[.agg #[.bool VN, .string VS, .int .i64 VE], .int .i64 VR]) (by simp [results, Tryz.results19, go_sem, c0, c1, c2]) rfl ⟨rfl, hbZ⟩
  · have k1 : decide (K < 0) = false := decide_eq_false hk
    rw [k1] at hlt
    rw [if_neg hk] at hof ⊢
    by_cases hq0 : flQ b = 0
    · rw [if_pos hq0] at hM hE
      rw [show (1 : Int) - 1075 = -1074 by rfl] at hE
      subst hM
      subst hE
      rw [hq0] at hex
      clear hk k1 hq0 h hf hb hzz hml heb hQl hq hF
      unfold mkV at hof ⊢
      unfold dyR at hof ⊢
      generalize mkN ((M : Int)) (-1074) = VN at *
      generalize bstr (mkX ((M : Int)) (-1074)) = VS at *
      generalize mkE ((M : Int)) (-1074) = VE at *
      generalize mkR ((M : Int)) (-1074) = VR at *
      go_enter Tryz.func19, Tryz.ntmps19
      go_wp2_with (first
        | (go_at_call 34; go_must (refine (hi _).mono ?_); rintro r w1 ⟨rfl, rfl⟩)
        | (go_at_call 38; go_must (refine (hn _).mono ?_); rintro r w1 ⟨rfl, rfl⟩))
      (with_reducible refine (hof _ hTT).mono ?_)
      rintro r w2 ⟨rfl, hb2⟩
      replace hD := hD.keep hb2
      replace hB := hB.trans (hb2.mono hB.size)
      obtain ⟨c0, c1, c2, f0, f1, f2⟩ := hD
      have hbZ : Below w.heap.size w (((w2.setCell ⟨w.heap.size, 0, none⟩ (.bool VN)).setCell ⟨w.heap.size, 1, none⟩ (.string VS)).setCell ⟨w.heap.size, 2, none⟩ (.int .i64 VE)) := ((hB.setCell (Nat.le_refl _) _).setCell (Nat.le_refl _) _).setCell (Nat.le_refl _) _
      clear hb2 hB hof hi hn
      go_wp2
      exact bodyPost_ret (v := .tuple #[.agg #[.bool VN, .string VS, .int .i64 VE], .int .i64 VR]) (by simp [results, Tryz.results19, go_sem, c0, c1, c2]) rfl ⟨rfl, hbZ⟩
    · rw [if_neg hq0] at hM hE
      subst hM
      subst hE
      have hq1 : ((flQ b : Int) == 0) = false := by simpa using hq0
      generalize flQ b = qq at *
      rw [show ((F + 4503599627370496 : Nat) : Int) = (F : Int) + 4503599627370496 by omega] at hof hor ⊢
      clear hk k1 hq0 h hf hb hzz hml heb hQl hq hF
      unfold mkV at hof ⊢
      unfold dyR at hof ⊢
      generalize mkN ((F : Int) + 4503599627370496) ((qq : Int) - 1075) = VN at *
      generalize bstr (mkX ((F : Int) + 4503599627370496) ((qq : Int) - 1075)) = VS at *
      generalize mkE ((F : Int) + 4503599627370496) ((qq : Int) - 1075) = VE at *
      generalize mkR ((F : Int) + 4503599627370496) ((qq : Int) - 1075) = VR at *
      go_enter Tryz.func19, Tryz.ntmps19
      go_wp2_with (first
        | (go_at_call 34; go_must (refine (hi _).mono ?_); rintro r w1 ⟨rfl, rfl⟩)
        | (go_at_call 38; go_must (refine (hn _).mono ?_); rintro r w1 ⟨rfl, rfl⟩))
      (with_reducible refine (hof _ hTT).mono ?_)
      rintro r w2 ⟨rfl, hb2⟩
      replace hD := hD.keep hb2
      replace hB := hB.trans (hb2.mono hB.size)
      obtain ⟨c0, c1, c2, f0, f1, f2⟩ := hD
      have hbZ : Below w.heap.size w (((w2.setCell ⟨w.heap.size, 0, none⟩ (.bool VN)).setCell ⟨w.heap.size, 1, none⟩ (.string VS)).setCell ⟨w.heap.size, 2, none⟩ (.int .i64 VE)) := ((hB.setCell (Nat.le_refl _) _).setCell (Nat.le_refl _) _).setCell (Nat.le_refl _) _
      clear hb2 hB hof hi hn
      go_wp2
      exact bodyPost_ret (v := .tuple #[.agg #[.bool VN, .string VS, .int .i64 VE], .int .i64 VR]) (by simp [results, Tryz.results19, go_sem, c0, c1, c2]) rfl ⟨rfl, hbZ⟩

end Go.Proofs.YtbhfnigblhfikaaGreatDoor

/- filigreelaw04.of: a finite float's number. -/
namespace Go.Proofs.YtbhfnigblhfikaaGreatDoor
open Go Go.RowKit Go.PlainAid Fil

theorem fl_mv (b : Nat) : mv (fr b) = flM b * 2 ^ (flE b + 1074).toNat := by
  have h1 := flQ_fr b
  have h2 := flQ_lt b
  have h3 : fr b % 4503599627370496 = b % 4503599627370496 := by unfold fr; omega
  unfold flM flE
  by_cases h0 : flQ b = 0
  · rw [if_pos h0, if_pos h0, mv_small (by omega), show ((1 : Int) - 1075 + 1074).toNat = 0 by omega, Nat.pow_zero, Nat.mul_one]
    omega
  · rw [if_neg h0, if_neg h0, mv_big (by omega), h3, ← h1, Nat.add_comm]
    congr 2; omega
theorem fl_parts (b : Nat) : ∃ (n : Bool) (x : Nat) (e : Int), okD n x e ∧ -131072 ≤ e ∧ e ≤ 131072 ∧ mkV (sz (fs b) (flM b)) (flE b) = dyR n x e 0 ∧ fRat (fs b) (fr b) = Rat.divInt (sz n (x * 2 ^ e.toNat)) ((2 ^ (-e).toNat : Nat) : Int) := by
  have hmv := fl_mv b
  have hE := flE_bd b
  have hM := flM_lt b
  by_cases h0 : flM b = 0
  · have hr := flM_zero.1 h0
    refine ⟨false, 0, 0, .inl ⟨rfl, rfl, rfl⟩, by omega, by omega, ?_, ?_⟩
    · rw [h0, show sz (fs b) 0 = 0 by cases fs b <;> rfl, mkV_zero]
    · rw [hr, fRat_z, Nat.zero_mul, show sz false 0 = 0 from rfl, Rat.zero_divInt]
  · obtain ⟨k, hk⟩ : ∃ k, k = tz (flM b) := ⟨_, rfl⟩
    obtain ⟨x, hx⟩ : ∃ x, x = flM b / 2 ^ tz (flM b) := ⟨_, rfl⟩
    have hxm : x * 2 ^ k = flM b := by rw [hx, hk]; exact tz_mul
    have hodd : x % 2 = 1 := by rw [hx]; exact tz_div h0
    have hk53 : k ≤ 53 := by
      rcases Nat.lt_or_ge 53 k with h1 | h1
      · have h2 : 2 ^ 53 ≤ 2 ^ k := pmono (by omega)
        have h3 : 2 ^ k ≤ x * 2 ^ k := Nat.le_mul_of_pos_left _ (by omega)
        omega
      · exact h1
    have hx8 : Fil.dn 8 x ≤ 7 := dn_le (by omega) (by have : x ≤ flM b := by rw [← hxm]; exact Nat.le_mul_of_pos_right _ (pp k)
                                                      omega)
    have hok : okD (fs b) x (flE b + k) := .inr ⟨hodd, by omega, by omega, by omega⟩
    refine ⟨fs b, x, flE b + k, hok, by omega, by omega, ?_, ?_⟩
    · rw [← hxm, ← sz_pow, mkV_shl, mkV_id hok]
    · unfold fRat
      have hP := P74_pos
      refine divInt_cross (by omega) (by have := pp (-(flE b + k)).toNat; omega) ?_
      rw [sz_mul_nat, sz_mul_nat]
      refine congrArg (sz (fs b)) ?_
      obtain ⟨K, hK⟩ : ∃ K, K = 1074 := ⟨_, rfl⟩
      rw [P74_eq hK, hmv, ← hxm, Nat.mul_assoc, Nat.mul_assoc, Nat.mul_assoc, ← Nat.pow_add, ← Nat.pow_add, ← Nat.pow_add]
      congr 2; omega
end Go.Proofs.YtbhfnigblhfikaaGreatDoor

/- filigreelaw04.of: of a finite float its number. -/
namespace Go.Proofs.YtbhfnigblhfikaaGreatDoor
open Go Go.RowKit Go.PlainAid Fil

set_option maxRecDepth 100000 in
set_option maxHeartbeats 8000000 in
theorem l4of_w (b : Nat) (dn : Bool) (dS : ByteArray) (de : Int) (vn : Bool) (vS vT : ByteArray) (w : World) (hT : Tab w)
    (h1 : ∀ W, Tab W → Calls Tryz.prog 19 #[.float .f64 b] W fun r w' => r = .returned (.tuple #[.agg #[.bool dn, .string dS, .int .i64 de], .int .i64 0]) ∧ Below W.heap.size W w')
    (h2 : ∀ W, Calls Tryz.prog 20 #[.agg #[.bool dn, .string dS, .int .i64 de]] W fun r w' => r = .returned (.tuple #[.agg #[.bool vn, .string vS, .string vT], .int .i64 0]) ∧ Below W.heap.size W w') :
    Calls Tryz.prog 6 #[.float .f64 b] w fun r w' => r = .returned (.agg #[.bool vn, .string vS, .string vT]) ∧ Below w.heap.size w w' := by
  go_enter Tryz.func6, Tryz.ntmps6
  have B0 := Below.refl w.heap.size w
  have q_w_F2 : Hid (w.heap.size ≤ w.heap.size) := Lib.hid (by omega)
  have F2 := Blk.put (w) #[.bool false, .string { data := #[] }, .string { data := #[] }] 24
  replace B0 := B0.alloc B0.size (.cells #[.bool false, .string { data := #[] }, .string { data := #[] }] 24)
  go_wp2_with fail
  (with_reducible refine (h1 _ (hT.below B0)).mono ?_)
  rintro r w1 ⟨rfl, hb1⟩
  replace F2 := F2.keep hb1
  replace B0 := B0.trans (hb1.mono B0.size)
  clear hb1
  replace F2 := F2.allocd (.cells #[.bool dn, .string dS, .int .i64 de] 44)
  have F3 := Blk.put (w1) #[.bool dn, .string dS, .int .i64 de] 44
  replace B0 := B0.alloc B0.size (.cells #[.bool dn, .string dS, .int .i64 de] 44)
  obtain ⟨xF31_0, xF31_1, xF31_2⟩ := F3.ce3
  go_wp2_with fail
  (with_reducible refine (h2 _).mono ?_)
  rintro r w2 ⟨rfl, hb2⟩
  clear xF31_0 xF31_1 xF31_2
  replace F2 := F2.keep hb2
  replace F3 := F3.keep hb2
  replace B0 := B0.trans (hb2.mono B0.size)
  clear hb2
  have q_F2_F5 : Hid (w.heap.size < w2.heap.size) := Lib.hid (by have := F2.lt; first | exact this | omega | (simp; done) | simpa using this)
  replace F2 := F2.allocd (.cells #[.bool vn, .string vS, .string vT] 24)
  clear F3
  have F5 := Blk.put (w2) #[.bool vn, .string vS, .string vT] 24
  replace B0 := B0.alloc B0.size (.cells #[.bool vn, .string vS, .string vT] 24)
  obtain ⟨xF52_0, xF52_1, xF52_2⟩ := F5.ce3
  obtain ⟨xF22_0, xF22_1, xF22_2⟩ := F2.ce3
  obtain ⟨xF22_0f, xF22_1f, xF22_2f⟩ := F2.fr3
  replace F5 := (((F5.far 0 (.bool vn) (Nat.ne_of_gt q_F2_F5.out)).far 1 (.string vS) (Nat.ne_of_gt q_F2_F5.out)).far 2 (.string vT) (Nat.ne_of_gt q_F2_F5.out))
  replace F2 : Blk (((((w2).alloc (.cells #[.bool vn, .string vS, .string vT] 24)).setCell ⟨w.heap.size, 0, none⟩ (.bool vn)).setCell ⟨w.heap.size, 1, none⟩ (.string vS)).setCell ⟨w.heap.size, 2, none⟩ (.string vT)) (w.heap.size) #[.bool vn, .string vS, .string vT] 24 := (((F2.setAt 0 (.bool vn)).setAt 1 (.string vS)).setAt 2 (.string vT))
  replace B0 := (((B0.setCell (p := ⟨w.heap.size, 0, none⟩) q_w_F2.out (.bool vn)).setCell (p := ⟨w.heap.size, 1, none⟩) q_w_F2.out (.string vS)).setCell (p := ⟨w.heap.size, 2, none⟩) q_w_F2.out (.string vT))
  obtain ⟨xF23_0, xF23_1, xF23_2⟩ := F2.ce3
  go_wp2
  exact bodyPost_ret (v := .agg #[.bool vn, .string vS, .string vT]) (by simp [results, Tryz.results6, go_sem, xF23_0, xF23_1, xF23_2]) rfl ⟨rfl, B0⟩
theorem l4of_any (b : Nat) (w : World) (hT : Tab w) (hb : b < 18446744073709551616) (h : fr b < 9218868437227405312) :
    Calls Tryz.prog 6 #[.float .f64 b] w fun r w' => r = .returned (kA (fRat (fs b) (fr b))) ∧ Below w.heap.size w w' := by
  have hQ : flQ b ≠ 2047 := fun e => by have := flQ_inf.1 e; omega
  obtain ⟨n, x, e, hok, he1, he2, hm, hz⟩ := fl_parts b
  have h1 := fun W (hW : Tab W) => dfloat_ok b W hb hQ hW
  rw [hm] at h1
  have h2 := fun W => kof_ok n x e W hok he1 he2 _ hz
  rw [kTold_fits ((fRat_fits h).fits (by omega))] at h2
  exact l4of_w b _ _ _ _ _ _ w hT h1 h2
end Go.Proofs.YtbhfnigblhfikaaGreatDoor

/- RatioNear: the plain facts. -/
namespace Go.Proofs.YtbhfnigblhfikaaGreatDoor
open Go Go.RowKit Go.PlainAid Fil

/-- on which side of the middle between two rungs the number lies -/
theorem ar_mid {n d : Nat} {Q : Int} (h : AQ n d Q) (hL : aL n d Q ≠ 9218868437227405311) (hc : aC n d Q ≠ -2) :
    (0 < aC n d Q ↔ mv (aL n d Q) * d + mv (aL n d Q + 1) * d < 2 * (n * P74)) ∧ (aC n d Q < 0 ↔ 2 * (n * P74) < mv (aL n d Q) * d + mv (aL n d Q + 1) * d) ∧ (aE n d Q = decide (aL n d Q % 2 = 0)) := by
  obtain ⟨K, hK⟩ : ∃ K, K = 1074 := ⟨_, rfl⟩
  rw [P74_eq hK]
  obtain ⟨h0, h1, h2⟩ := h
  have hQ : ¬ 971 < Q := fun h => hL (by unfold aL; rw [if_pos h])
  have hM := h2 (by omega)
  have e0 : aL n d Q = (Q + 1074).toNat * 4503599627370496 + aM n d Q := by unfold aL; rw [if_neg hQ]
  have e1 := mv_rung (m := aM n d Q) (q := Q) h0 h1 (by omega)
  have e2 := mv_rung (m := aM n d Q + 1) (q := Q) h0 (fun h => by have := h1 h; omega) (by omega)
  have hsum : aM n d Q * aY d Q + aX n Q % aY d Q = aX n Q := by unfold aM; rw [Nat.mul_comm]; exact Nat.div_add_mod _ _
  have hr0 : aX n Q % aY d Q ≠ 0 := fun h => hc (by unfold aC; rw [if_neg hQ, if_pos h])
  have ec : aC n d Q = cmpZ (2 * (aX n Q % aY d Q)) (aY d Q) := by unfold aC; rw [if_neg hQ, if_neg hr0]
  have eE : aE n d Q = decide (aM n d Q % 2 = 0) := by unfold aE; rw [if_neg hQ]
  obtain ⟨J, hJ⟩ : ∃ J, J = K - (-Q).toNat := ⟨_, rfl⟩
  have f1 : n * 2 ^ K = aX n Q * 2 ^ J := by unfold aX; rw [Nat.mul_assoc, ← Nat.pow_add]; congr 2; omega
  have f2 : 2 ^ (Q + 1074).toNat * d = aY d Q * 2 ^ J := by unfold aY; rw [Nat.mul_assoc, ← Nat.pow_add, Nat.mul_comm]; congr 2; omega
  have pJ := pp J
  rw [← Nat.add_assoc] at e2
  have g1 : mv (aL n d Q) * d = aM n d Q * aY d Q * 2 ^ J := by rw [e0, e1, Nat.mul_assoc, f2, Nat.mul_assoc]
  have g2 : mv (aL n d Q + 1) * d = (aM n d Q + 1) * aY d Q * 2 ^ J := by rw [e0, e2, Nat.mul_assoc, f2, Nat.mul_assoc]
  have g3 : mv (aL n d Q) * d + mv (aL n d Q + 1) * d = (2 * (aM n d Q * aY d Q) + aY d Q) * 2 ^ J := by
    rw [g1, g2, ← Nat.add_mul]; congr 1; rw [Nat.add_mul, Nat.one_mul]; omega
  have g4 : 2 * (n * 2 ^ K) = 2 * aX n Q * 2 ^ J := by rw [f1, Nat.mul_assoc]
  rw [g3, g4, Nat.mul_lt_mul_right pJ, Nat.mul_lt_mul_right pJ, ec, eE]
  refine ⟨?_, ?_, ?_⟩
  · unfold cmpZ; split <;> (try split) <;> omega
  · unfold cmpZ; split <;> (try split) <;> omega
  · congr 1; apply propext; rw [e0]; omega
theorem fRat_of {x : Rat} {R : Nat} (h : mv R * x.den = x.num.natAbs * P74) : fRat (sg x.num) R = x := by
  have hd := x.den_nz
  have hP := P74_pos
  have e : x.num = sz (sg x.num) x.num.natAbs := num_sz x
  have key : fRat (sg x.num) R = Rat.divInt x.num (x.den : Int) := by
    unfold fRat
    refine divInt_cross (by omega) (by omega) ?_
    rw [sz_mul_nat, h, ← sz_mul_nat, ← e]
  rw [key, Rat.num_divInt_den]
/-- of a number that is a float's: the three are the float -/
theorem near_exact (x : Rat) (h0 : x.num ≠ 0) (hc : aC x.num.natAbs x.den (exQ x) = -2) : ∃ (N : Bool) (R : Nat), R ≠ 0 ∧ R < 9218868437227405312 ∧ fRat N R = x ∧ kFl x = Ieee.double.word N R ∧ loW x = Ieee.double.word N R ∧ hiW x = Ieee.double.word N R := by
  have hd := x.den_nz
  have hn2 : x.num.natAbs ≠ 0 := by omega
  have hQ : AQ x.num.natAbs x.den (exQ x) := AQ_rd hn2 hd
  obtain ⟨hL, hlo, hex, hhi⟩ := ar_pos hd hQ
  have he := hex.1 hc
  have hx := fRat_of he
  have hL0 : aL x.num.natAbs x.den (exQ x) ≠ 0 := fun h => by
    rw [h, mv_zero, Nat.zero_mul] at he
    exact Nat.mul_ne_zero hn2 (by have := P74_pos; omega) he.symm
  have hk := own_rung (sg x.num) hL0 (by omega)
  rw [hx] at hk
  refine ⟨sg x.num, aL x.num.natAbs x.den (exQ x), hL0, by omega, hx, ?_, ?_, ?_⟩
  · unfold kFl; rw [if_neg h0, hk]
  · unfold loW
    rw [if_pos hc]
    cases sg x.num <;> rfl
  · unfold hiW
    rw [if_pos hc]
    cases sg x.num <;> rfl
end Go.Proofs.YtbhfnigblhfikaaGreatDoor

/- RatioNear: what the two floats about a number are, in plain words. -/
namespace Go.Proofs.YtbhfnigblhfikaaGreatDoor
open Go Go.RowKit Go.PlainAid Fil

theorem fk_word {N : Bool} {R : Nat} (h : R < 9223372036854775808) : fk (Ieee.double.word N R) = sz N R := by
  have a := word_parts (N := N) (R := R) h
  unfold fk
  rw [a.1, a.2]
  rfl
theorem ord_w {N N' : Bool} {R R' : Nat} (h : R ≤ 9218868437227405312) (h' : R' ≤ 9218868437227405312) : FloatKind.f64.format.order (Ieee.double.word N R) (Ieee.double.word N' R') = some (compare (sz N R) (sz N' R')) := by
  have a := word_parts (N := N) (R := R) (by omega)
  have b := word_parts (N := N') (R := R') (by omega)
  rw [f64_double, order_some (by rw [a.1]; exact h) (by rw [b.1]; exact h'), fk_word (by omega), fk_word (by omega)]
theorem ordw_eq {N N' : Bool} {R R' : Nat} (h : R ≤ 9218868437227405312) (h' : R' ≤ 9218868437227405312) : (FloatKind.f64.format.order (Ieee.double.word N R) (Ieee.double.word N' R') == some .eq) = decide (sz N R = sz N' R') := by
  rw [ord_w h h']
  rcases Int.lt_trichotomy (sz N R) (sz N' R') with h | h | h
  · rw [Int.compare_eq_lt.2 h, decide_eq_false (by omega)]; rfl
  · rw [Int.compare_eq_eq.2 h, decide_eq_true h]; rfl
  · rw [Int.compare_eq_gt.2 h, decide_eq_false (by omega)]; rfl
theorem ordw_ne {N N' : Bool} {R R' : Nat} (h : R ≤ 9218868437227405312) (h' : R' ≤ 9218868437227405312) : (FloatKind.f64.format.order (Ieee.double.word N R) (Ieee.double.word N' R') != some .eq) = !decide (sz N R = sz N' R') := by
  rw [← ordw_eq h h']; rfl
theorem ordw_gt {N N' : Bool} {R R' : Nat} (h : R ≤ 9218868437227405312) (h' : R' ≤ 9218868437227405312) : (FloatKind.f64.format.order (Ieee.double.word N R) (Ieee.double.word N' R') == some .gt) = decide (sz N' R' < sz N R) := by
  rw [ord_w h h']
  rcases Int.lt_trichotomy (sz N R) (sz N' R') with h | h | h
  · rw [Int.compare_eq_lt.2 h, decide_eq_false (by omega)]; rfl
  · rw [Int.compare_eq_eq.2 h, decide_eq_false (by omega)]; rfl
  · rw [Int.compare_eq_gt.2 h, decide_eq_true h]; rfl
theorem cmpR_swap (x y : Rat) : cmpR x y = -cmpR y x := by
  unfold cmpR
  by_cases h1 : x < y
  · have h2 : ¬ y < x := by grind
    rw [if_pos h1, if_neg h2, if_pos h1]
  · rw [if_neg h1]
    by_cases h2 : y < x
    · rw [if_pos h2, if_pos h2]; rfl
    · rw [if_neg h2, if_neg h2, if_neg h1]; rfl
/-- two numbers that are not the same have not the same three cells -/
theorem kA_diff {x y : Rat} (h : y ≠ x) {α : Type} (A B : α) : (if sg y.num = sg x.num then (if (bstr y.num.natAbs).toList = (bstr x.num.natAbs).toList then (if (bstr y.den).toList = (bstr x.den).toList then A else B) else B) else B) = B := by
  split
  · rename_i e1
    split
    · rename_i e2
      split
      · rename_i e3
        exfalso
        have f2 : y.num.natAbs = x.num.natAbs := by rw [← nb_bstr y.num.natAbs, e2, nb_bstr]
        have f3 : y.den = x.den := by rw [← nb_bstr y.den, e3, nb_bstr]
        refine h (Rat.ext ?_ f3)
        rw [num_sz y, num_sz x, e1, f2]
      · rfl
    · rfl
  · rfl
theorem cmpR_frac {a b c d : Int} (hb : 0 < b) (hd : 0 < d) : cmpR (Rat.divInt a b) (Rat.divInt c d) = cmpI (a * d) (c * b) := by
  rw [cmpR_div hb]
  have hz : (Rat.divInt c d).num * d = c * ((Rat.divInt c d).den : Int) := (Rat.divInt_eq_divInt_iff (by have := (Rat.divInt c d).den_nz; omega) (by omega)).1 (Rat.num_divInt_den _)
  have hq : (0 : Int) < ((Rat.divInt c d).den : Int) := by have := (Rat.divInt c d).den_nz; omega
  generalize (Rat.divInt c d).num = p at *
  generalize ((Rat.divInt c d).den : Int) = q at *
  have e1 : q * (a * d) = d * (a * q) := by grind
  have e2 : q * (c * b) = d * (p * b) := by grind
  have k1 : a * q < p * b ↔ a * d < c * b := by rw [← Int.mul_lt_mul_left (a := d) hd, ← e1, ← e2, Int.mul_lt_mul_left hq]
  have k2 : p * b < a * q ↔ c * b < a * d := by rw [← Int.mul_lt_mul_left (a := d) hd, ← e1, ← e2, Int.mul_lt_mul_left hq]
  unfold cmpI
  simp only [k1, k2]
theorem cmpI_sz (N : Bool) (a b : Nat) : cmpI (sz N a) (sz N b) = if N then cmpZ b a else cmpZ a b := by
  unfold cmpI cmpZ sz
  cases N <;> simp <;> split <;> (try split) <;> (try split) <;> omega
/-- the number against the middle of two rungs -/
theorem mid_cmp (x : Rat) (P Q : Nat) : cmpR (x - fRat (sg x.num) P) (fRat (sg x.num) Q - x) = if sg x.num then cmpZ (mv P * x.den + mv Q * x.den) (2 * (x.num.natAbs * P74)) else cmpZ (2 * (x.num.natAbs * P74)) (mv P * x.den + mv Q * x.den) := by
  have hP : (0 : Int) < (P74 : Int) := by have := P74_pos; omega
  have hd : (0 : Int) < (x.den : Int) := by have := x.den_nz; omega
  obtain ⟨N, hN⟩ : ∃ N, N = sg x.num := ⟨_, rfl⟩
  rw [← hN]
  have e : fRat N P + fRat N Q = Rat.divInt (sz N (mv P + mv Q)) (P74 : Int) := by
    unfold fRat
    rw [Rat.divInt_add_divInt _ _ (by omega) (by omega)]
    refine divInt_cross (by have := Int.mul_pos hP hP; omega) (by omega) ?_
    have hs : sz N (mv P + mv Q) = sz N (mv P) + sz N (mv Q) := by cases N <;> simp [sz] <;> omega
    rw [hs, ← Int.add_mul, Int.mul_assoc]
  have k : cmpR (x - fRat N P) (fRat N Q - x) = cmpR (x + x) (fRat N P + fRat N Q) := by
    have h1 : x - fRat N P < fRat N Q - x ↔ x + x < fRat N P + fRat N Q := by
      constructor <;> intro h <;> grind
    have h2 : fRat N Q - x < x - fRat N P ↔ fRat N P + fRat N Q < x + x := by
      constructor <;> intro h <;> grind
    unfold cmpR
    simp only [h1, h2]
  have e2 : x + x = Rat.divInt (sz N (2 * x.num.natAbs)) (x.den : Int) := by
    have hn : x.num = sz N x.num.natAbs := by rw [hN]; exact num_sz x
    have hs : sz N (2 * x.num.natAbs) = 2 * x.num := by
      conv => rhs; rw [hn]
      cases N <;> simp [sz] <;> omega
    rw [hs]
    conv => lhs; rw [← Rat.num_divInt_den x]
    rw [Rat.divInt_add_divInt _ _ (by omega) (by omega)]
    refine divInt_cross (by have := Int.mul_pos hd hd; omega) (by omega) ?_
    generalize (x.den : Int) = d at *
    grind
  rw [k, e, e2, cmpR_frac hd hP, sz_mul_nat, sz_mul_nat, cmpI_sz, Nat.add_mul, Nat.mul_assoc]
end Go.Proofs.YtbhfnigblhfikaaGreatDoor
