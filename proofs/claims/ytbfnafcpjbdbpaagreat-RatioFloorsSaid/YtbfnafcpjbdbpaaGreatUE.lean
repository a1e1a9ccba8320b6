/- Merged: UD UE -/
import Derived.Test.YtbfnafcpjbdbpaaGreatUA
import Derived.Test.YtbfnafcpjbdbpaaGreatUC

/- RatioFloors: the reference's Floor, the number zero, and the law for any input. -/
namespace Go.Proofs.YtbfnafcpjbdbpaaGreat
open Go Go.RowKit Go.PlainAid Fil

theorem cmpR_self (x : Rat) : cmpR x x = 0 := by
  rw [← cmpR_eq]; unfold cmpI; simp
theorem fRat_zero : fRat false 0 = 0 := by
  unfold fRat
  rw [mv_zero, show sz false 0 = 0 from rfl, Rat.zero_divInt]
set_option maxRecDepth 100000 in
set_option maxHeartbeats 1000000 in
theorem floors_any (x : Rat) (hx : Bts 4000 x) : ∃ B A : Nat, (∀ W, Calls Tryz.prog 31 #[kA x] W fun r w' => r = .returned (.tuple #[.float .f64 (kFl x), .int .i64 0]) ∧ Below W.heap.size W w') ∧ (∀ W, Calls Tryz.prog 35 #[kA x] W fun r w' => r = .returned (.float .f64 (kFl x)) ∧ Below W.heap.size W w')
    ∧ (∀ W, Calls Tryz.prog 32 #[kA x] W fun r w' => r = .returned (.tuple #[.float .f64 B, .int .i64 0]) ∧ Below W.heap.size W w') ∧ (∀ W, Calls Tryz.prog 36 #[kA x] W fun r w' => r = .returned (.float .f64 B) ∧ Below W.heap.size W w')
    ∧ (∀ W, Calls Tryz.prog 33 #[kA x] W fun r w' => r = .returned (.tuple #[.float .f64 A, .int .i64 0]) ∧ Below W.heap.size W w') ∧ (∀ W, Calls Tryz.prog 37 #[kA x] W fun r w' => r = .returned (.float .f64 A) ∧ Below W.heap.size W w') := by
  by_cases h0 : x.num = 0
  · obtain rfl : x = 0 := Rat.num_eq_zero.1 h0
    have fx : Fits 0 := hx.fits (by omega)
    have hkf := fun W => kfloat_all 0 W fx
    have hFl : kFl 0 = 0 := by unfold kFl; rw [if_pos h0]
    rw [hFl] at hkf
    have hka := fun W B (X : RatAt W B 0) => kagainst_any B 0 false 0 W X (fx.szd.mono (by omega)) (by omega)
    have ha0 : agI false 0 0 = 0 := by unfold agI; rw [if_neg (by omega), fRat_zero, cmpR_self]
    rw [ha0] at hka
    rw [hFl]
    refine ⟨0, 0, hkf, fun W => ?_, fun W => ?_, fun W => ?_, fun W => ?_, fun W => ?_⟩
    · rw [kA_zero]; exact p4float_0 _ _ W
    · exact kbelow_by 0 0 0 0 true W fx hkf hka (by omega) (by omega) (fun h => by omega) (fun _ => rfl) (ord_word0 (R := 0) false (by omega))
    · rw [kA_zero]; exact p4below_0 _ _ W
    · exact kabove_by 0 0 0 0 W fx hkf hka (by omega) (by omega) (fun h => by omega) (fun _ => rfl)
    · rw [kA_zero]; exact p4above_0 _ _ W
  · exact floors_some x hx h0
/-- a number's floor -/
def flR (x : Rat) : Rat := Rat.divInt (x.num / (x.den : Int)) 1
theorem flR_bts {K : Nat} {x : Rat} (hK : 1 ≤ K) (h : Bts K x) : Bts (K + 1) (flR x) := by
  have e := ediv_sz (sg x.num) (n := x.num.natAbs) x.den_nz
  rw [sz_self] at e
  unfold flR
  have h1 : (Rat.divInt (x.num / (x.den : Int)) 1).num = x.num / (x.den : Int) ∧ (Rat.divInt (x.num / (x.den : Int)) 1).den = 1 := divInt_one (x.num / (x.den : Int))
  refine ⟨?_, ?_⟩
  · rw [h1.1, e, sz_abs]
    have hq : Fil.dn 8 (x.num.natAbs / x.den) ≤ K := Nat.le_trans (dn_mono (by omega) (Nat.div_le_self _ _)) h.1
    refine add_dn hq ?_
    split
    · exact Nat.le_trans (by decide) hK
    · exact Nat.le_trans (by decide) hK
  · rw [h1.2]; exact Nat.le_trans (by decide) (Nat.le_succ_of_le hK)
theorem p4floor_ok (x : Rat) (w : World) (hx : Bts 4000 x) :
    Calls Tryz.prog 34 #[kA x] w fun r w' => r = .returned (kA (flR x)) ∧ Below w.heap.size w w' := by
  have e := ediv_sz (sg x.num) (n := x.num.natAbs) x.den_nz
  rw [sz_self] at e
  have hd := fun W => r2Div_any x.num.natAbs x.den W x.den_nz (by have := hx.1; omega) (by have := hx.2; omega)
  have hq : Fil.dn 8 (x.num.natAbs / x.den) ≤ 4000 := Nat.le_trans (dn_mono (by omega) (Nat.div_le_self _ _)) hx.1
  have hq1 : Fil.dn 8 (x.num.natAbs / x.den + 1) ≤ 4001 := add_dn hq (by decide)
  have hl := fun N m (h : Fil.dn 8 m ≤ 4001) W => p4lowest_any N m 1 W (by omega) (by omega) (by decide)
  have ha := fun W => r2Add_any (x.num.natAbs / x.den) 1 W (by omega) (by decide)
  rw [endV_fit (by omega)] at ha
  unfold flR
  rw [e]
  have hS := fun (h : x.num.natAbs % x.den ≠ 0) => bstr_ne h
  rw [bstr_one] at ha
  simp only [bstr_one] at hl
  generalize hN : sg x.num = N at *
  cases N
  · rw [if_neg (by simp)]
    have h3 := fun W => hl false _ (Nat.le_trans hq (by omega)) W
    unfold kA at h3 ⊢
    rw [hN]
    exact p4floor_0 _ _ _ _ _ _ _ w hd h3
  · by_cases hr : x.num.natAbs % x.den = 0
    · rw [if_neg (by simp [hr])]
      have h3 := fun W => hl true _ (Nat.le_trans hq (by omega)) W
      unfold kA at h3 ⊢
      rw [hN]
      exact p4floor_1 _ _ _ _ _ _ _ w hd (by rw [hr]; exact bstr_nil) h3
    · rw [if_pos ⟨rfl, hr⟩]
      have h3 := fun W => hl true _ hq1 W
      unfold kA at h3 ⊢
      rw [hN]
      exact p4floor_2 _ _ _ _ _ _ _ _ w hd (hS hr).1 (hS hr).2 ha h3
end Go.Proofs.YtbfnafcpjbdbpaaGreat

/- RatioFloors: the law for any input. -/
namespace Go.Proofs.YtbfnafcpjbdbpaaGreat
open Go Go.RowKit Go.PlainAid Fil

set_option maxRecDepth 100000 in
set_option maxHeartbeats 1000000 in
theorem floors_fit (x : Rat) (w : World) (fx : Bts 300 x) :
    Calls Tryz.prog 5 #[kA x] w fun r w' => r = .returned (.bool true) ∧ Below w.heap.size w w' := by
  have Fx := fx.fits (by omega)
  have gx := fx.mono (L := 4000) (by omega)
  have ff := flR_bts (by omega) fx
  have Ff := ff.fits (by omega)
  have gf := ff.mono (L := 4000) (by omega)
  have gg := (fx.sub ff).fits (by omega)
  have sz : ∀ n, (bstr n).size = Fil.dn 8 n := bstr_size
  have h0 := fun W => l4small_any (sg x.num) (bstr x.num.natAbs) (bstr x.den) W (by rw [sz]; have := fx.1; omega) (by rw [sz]; have := fx.2; omega)
  rw [show smallB (bstr x.num.natAbs) (bstr x.den) = true by unfold smallB; rw [sz, sz, decide_eq_true fx.1, decide_eq_true fx.2]; rfl] at h0
  have h1 := fun W => kfloor_ok x W Fx _ _ _ _ (kTold_fits Ff)
  have hs := fun W => ksub_ok x (flR x) W Fx Ff
  rw [kTold_fits gg] at hs
  have h6 := fun W => p4may_any (sg x.num) (bstr x.num.natAbs) (bstr x.den) W (by rw [sz]; have := fx.1; omega) (by rw [sz]; have := fx.2; omega)
  rw [may_of_rat Fx] at h6
  have h7 := fun W => p4floor_ok x W gx
  have h8 := fun W => p4neg_ok (flR x) W
  have h9 := fun W => p4add_ok x (-flR x) W gx gf.neg
  rw [← Rat.sub_eq_add_neg] at h9
  obtain ⟨B, A, h3, h10, h4, h11, h5, h12⟩ := floors_any x gx
  have hl := fun W => l4lives_any W
  have h2 := fun W => kpart_ok _ _ _ _ _ _ _ _ _ W h1 hs
  exact floors_good _ _ _ _ _ _ _ _ _ _ _ _ _ _ _ w h0 h1 h2 h3 h4 h5 h6 h7 h8 h9 h10 h11 h12 hl
theorem ratioFloors_any (xn : Bool) (xS xT : ByteArray) (w : World) (b1 : xS.size ≤ 9223372036854775807) (b2 : xT.size ≤ 9223372036854775807) :
    Calls Tryz.prog 5 #[.agg #[.bool xn, .string xS, .string xT]] w fun r w' => r = .returned (.bool true) ∧ Below w.heap.size w w' := by
  have h0 := fun W => l4small_any xn xS xT W b1 b2
  have hl := fun W => l4lives_any W
  cases e1 : smallB xS xT
  · rw [e1] at h0
    exact floors_far _ _ _ w h0 hl
  · rw [e1] at h0
    have hm := fun W => kmay_any xn xS xT W b1 b2
    have h6 := fun W => p4may_any xn xS xT W b1 b2
    cases e3 : kMayB xn xS xT
    · rw [e3] at hm h6
      have h1 := fun W => kfloor_bad _ _ _ W hm
      have h3 := fun W => kfloat_bad _ _ _ W hm
      exact floors_bad _ _ _ w h0 h1 (fun W => kpart_bad _ _ _ W h1) h3 (fun W => kbelow_bad _ _ _ W h3) (fun W => kabove_bad _ _ _ W h3) h6 hl
    · obtain ⟨x, fx, rfl, rfl, rfl⟩ := rat_of_may e3
      have s1 := small_sizes e1
      rw [bstr_size, bstr_size] at s1
      exact floors_fit x w s1
end Go.Proofs.YtbfnafcpjbdbpaaGreat
