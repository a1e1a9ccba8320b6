/- Merged: JW JY JZ R9 BK RL -/
import Derived.Test.YtbhfnigblhfikaaGreatDoorJV
import Derived.Test.YtbhfnigblhfikaaGreatDoorJL
import Derived.Test.YtbhfnigblhfikaaGreatDoorJN
import Derived.Test.YtbhfnigblhfikaaGreatDoorBJ
import Derived.Test.YtbhfnigblhfikaaGreatDoorJD
import Derived.Test.YtbhfnigblhfikaaGreatDoorJU

/- ratio.Nearest of what is not 0; filigreelaw04.lives. -/
namespace Go.Proofs.YtbhfnigblhfikaaGreatDoor
open Go Go.RowKit Go.PlainAid Fil

theorem kTold_fits {z : Rat} (h : Fits z) : kToldV z = .tuple #[kA z, .int .i64 0] := if_pos h
set_option maxRecDepth 100000 in
set_option maxHeartbeats 2000000 in
theorem knearest_w (s : ByteArray) (w : World) (xn : Bool) (xS xT : ByteArray) (R : Nat) (h0 : xS.toList.isEmpty = false)
    (hd : ∀ W, Calls Tryz.prog 58 #[.string s] W fun e w' => e = .returned (.tuple #[.agg #[.bool xn, .string xS, .string xT], .int .i64 0]) ∧ Below W.heap.size W w')
    (hf : ∀ W, Calls Tryz.prog 7 #[.agg #[.bool xn, .string xS, .string xT]] W fun e w' => e = .returned (.tuple #[.float .f64 R, .int .i64 0]) ∧ Below W.heap.size W w') :
    Calls Tryz.prog 33 #[.string s] w fun e w' => e = .returned (.tuple #[.float .f64 R, .int .i64 0]) ∧ Below w.heap.size w w' := by
  have hn : ¬ xS.toList = [] := fun h => by rw [h] at h0; exact Bool.noConfusion h0
  have hb := Below.refl w.heap.size w
  go_enter Tryz.func33, Tryz.ntmps33
  go_wp2_with fail
  refine (hd _).mono ?_
  rintro e w1 ⟨rfl, hB⟩
  replace hb := hb.trans (hB.mono hb.size)
  clear hB hd
  have F := Blk.put w1 #[.bool xn, .string xS, .string xT] 24
  replace hb := hb.alloc hb.size (.cells #[.bool xn, .string xS, .string xT] 24)
  obtain ⟨x0, x1, x2⟩ := F.ce3
  go_wp2_with fail
  refine (hf _).mono ?_
  rintro e w2 ⟨rfl, hB⟩
  replace F := F.keep hB
  replace hb := hb.trans (hB.mono hb.size)
  clear x0 x1 x2 hB hf
  obtain ⟨x0, x1, x2⟩ := F.ce3
  go_wp2_with fail
  go_returns
  exact ⟨rfl, hb⟩
theorem bstr_byte (c : Nat) (h0 : c ≠ 0) (h : c < 256) : bstr c = ⟨#[UInt8.ofNat c]⟩ := by
  apply ByteArray.ext
  apply Array.ext'
  show bs c = [UInt8.ofNat c]
  have hd : Fil.dn 8 c = 1 := by
    have h1 := dn_le (k := 8) (x := c) (n := 1) (by omega) (by omega)
    have h2 := dn_pos (k := 8) h0
    omega
  unfold bs
  rw [hd]
  show [UInt8.ofNat (dg 8 c 0)] = _
  have : dg 8 c 0 = c := by unfold dg; simp; omega
  rw [this]
/-- 0.1 as a text, and -3/2 -/
def t01 : ByteArray := ⟨#[48, 46, 49]⟩
theorem sp01 : SP t01 = (⟨false, false, ⟨#[48]⟩, ⟨#[49]⟩, ⟨#[]⟩⟩, true) := by
  unfold SP
  rw [if_neg (by decide), HD_dig (by decide), HD_pt (by decide), TL_dig (by decide), TL_end (by decide) (by decide) (by decide)]
  rfl
theorem z32 : (-(Rat.divInt ((6 : Nat) : Int) ((4 : Nat) : Int))).num = -3 ∧ (-(Rat.divInt ((6 : Nat) : Int) ((4 : Nat) : Int))).den = 2 := by decide
theorem z01 : (Rat.divInt (sz false 1) ((10 ^ 1 : Nat) : Int)).num = 1 ∧ (Rat.divInt (sz false 1) ((10 ^ 1 : Nat) : Int)).den = 10 := by decide
theorem fits32 : Fits (-(Rat.divInt ((6 : Nat) : Int) ((4 : Nat) : Int))) := by
  unfold Fits; rw [z32.1, z32.2]; exact ⟨Nat.le_trans (dn_le (n := 1) (by decide) (by decide)) (by decide), Nat.le_trans (dn_le (n := 1) (by decide) (by decide)) (by decide)⟩
theorem fits01 : Fits (Rat.divInt (sz false 1) ((10 ^ 1 : Nat) : Int)) := by
  unfold Fits; rw [z01.1, z01.2]; exact ⟨Nat.le_trans (dn_le (n := 1) (by decide) (by decide)) (by decide), Nat.le_trans (dn_le (n := 1) (by decide) (by decide)) (by decide)⟩
theorem ktx32 : (ktx (-(Rat.divInt ((6 : Nat) : Int) ((4 : Nat) : Int)))) = [45, 51, 47, 50] := by
  unfold ktx dtx
  rw [z32.1, z32.2]
  show (if sg (-3) = true then [45] else []) ++ (if (3 : Nat) = 0 then [48] else (decs 3).reverse) ++ (if (2 : Nat) = 1 then [] else 47 :: (if (2 : Nat) = 0 then [48] else (decs 2).reverse)) = _
  rw [decs_pos (x := 3) (by decide), decs_pos (x := 2) (by decide), show 3 / 10 = 0 from rfl, decs_zero]
  rfl
theorem small01 : kSmall (Rat.divInt (sz false 1) ((10 ^ 1 : Nat) : Int)) := by
  unfold kSmall; rw [z01.1, z01.2]; decide
theorem fl01 : kFl (Rat.divInt (sz false 1) ((10 ^ 1 : Nat) : Int)) = 4591870180066957722 := by
  unfold kFl kRung; rw [z01.1, z01.2]; kernel_rfl
theorem kdec01 (w : World) : Calls Tryz.prog 58 #[.string t01] w fun e w' => e = .returned (kToldV (Rat.divInt (sz false 1) ((10 ^ 1 : Nat) : Int))) ∧ Below w.heap.size w w' :=
  kdecimal_En t01 w false ⟨#[48]⟩ ⟨#[49]⟩ ⟨#[]⟩ 1 1 (-1) (by decide) sp01 (by decide) (by decide) (by decide) (by decide) rfl (by decide) (by decide) rfl (by decide)
theorem knear01 (w : World) : Calls Tryz.prog 33 #[.string t01] w fun e w' => e = .returned (.tuple #[.float .f64 4591870180066957722, .int .i64 0]) ∧ Below w.heap.size w w' := by
  have hd := fun W => kdec01 W
  rw [kTold_fits fits01] at hd
  have hf := fun W => kfloat_ok (Rat.divInt (sz false 1) ((10 ^ 1 : Nat) : Int)) W fits01 small01
  rw [fl01] at hf
  unfold kA at hd hf
  exact knearest_w t01 w _ _ _ _ (str_cons (by rw [bstr_size, z01.1]; exact dn_pos (by decide))) hd hf
set_option maxRecDepth 100000 in
set_option maxHeartbeats 4000000 in
theorem l4lives_any (w : World) : Calls Tryz.prog 14 #[] w fun e w' => e = .returned (.bool true) ∧ Below w.heap.size w w' := by
  have h1 := fun W => new_ok true 6 4 W (Nat.le_trans (dn_le (n := 1) (by decide) (by decide)) (by decide)) (Nat.le_trans (dn_le (n := 1) (by decide) (by decide)) (by decide)) (by decide) (-(Rat.divInt ((6 : Nat) : Int) ((4 : Nat) : Int))) rfl
  rw [kTold_fits fits32, bstr_byte 6 (by decide) (by decide), bstr_byte 4 (by decide) (by decide)] at h1
  have h2 := fun W => ktext_ok (-(Rat.divInt ((6 : Nat) : Int) ((4 : Nat) : Int))) W fits32
  rw [ktx32] at h2
  have h3 := fun W => knear01 W
  unfold kA at h1 h2
  generalize sg (-(Rat.divInt ((6 : Nat) : Int) ((4 : Nat) : Int))).num = xn at *
  generalize bstr (-(Rat.divInt ((6 : Nat) : Int) ((4 : Nat) : Int))).num.natAbs = xS at *
  generalize bstr (-(Rat.divInt ((6 : Nat) : Int) ((4 : Nat) : Int))).den = xT at *
  have hb := Below.refl w.heap.size w
  go_enter Tryz.func14, Tryz.ntmps14
  go_wp2_with fail
  refine (h1 _).mono ?_
  rintro e w1 ⟨rfl, hB⟩
  replace hb := hb.trans (hB.mono hb.size)
  clear hB h1
  have F := Blk.put w1 #[.bool xn, .string xS, .string xT] 24
  replace hb := hb.alloc hb.size (.cells #[.bool xn, .string xS, .string xT] 24)
  obtain ⟨x0, x1, x2⟩ := F.ce3
  go_wp2_with fail
  refine (h2 _).mono ?_
  rintro e w2 ⟨rfl, hB⟩
  replace hb := hb.trans (hB.mono hb.size)
  clear hB h2 x0 x1 x2 F
  go_wp2_with fail
  refine (h3 _).mono ?_
  rintro e w3 ⟨rfl, hB⟩
  replace hb := hb.trans (hB.mono hb.size)
  clear hB h3
  go_wp2_with fail
  go_ret
  exact ⟨rfl, hb⟩
end Go.Proofs.YtbhfnigblhfikaaGreatDoor

/- filigreelaw04: few, small, three; RatioField. -/
namespace Go.Proofs.YtbhfnigblhfikaaGreatDoor
open Go Go.RowKit Go.PlainAid Fil

set_option maxHeartbeats 1000000 in
theorem l4few_any (s : ByteArray) (w : World) (h : s.size ≤ 9223372036854775807) : Calls Tryz.prog 25 #[.string s] w fun r w' => r = .returned (.bool (decide (s.size ≤ 300))) ∧ w = w' := by
  by_cases h3 : s.size ≤ 300
  · have e : decide (s.size ≤ 300) = true := decide_eq_true h3
    rw [e]
    have t : decide ((s.size : Int) ≤ 300) = true := decide_eq_true (by omega)
    clear e
    go_enter Tryz.func25, Tryz.ntmps25
    go_wp2
    go_ret
    exact ⟨rfl, rfl⟩
  · have e : decide (s.size ≤ 300) = false := decide_eq_false h3
    rw [e]
    have t : decide ((s.size : Int) ≤ 300) = false := decide_eq_false (by omega)
    clear e
    go_enter Tryz.func25, Tryz.ntmps25
    go_wp2
    go_ret
    exact ⟨rfl, rfl⟩
def smallB (S T : ByteArray) : Bool := decide (S.size ≤ 300) && decide (T.size ≤ 300)
set_option maxHeartbeats 2000000 in
theorem l4small_any (N : Bool) (S T : ByteArray) (w : World) (hS : S.size ≤ 9223372036854775807) (hT : T.size ≤ 9223372036854775807) : Calls Tryz.prog 12 #[.agg #[.bool N, .string S, .string T]] w fun r w' => r = .returned (.bool (smallB S T)) ∧ Below w.heap.size w w' := by
  have h1 := fun W => l4few_any S W hS
  have h2 := fun W => l4few_any T W hT
  unfold smallB
  generalize decide (S.size ≤ 300) = x at *
  generalize decide (T.size ≤ 300) = y at *
  have hb := (Below.refl w.heap.size w).alloc (Nat.le_refl _) (.cells #[.bool N, .string S, .string T] 24)
  cases x
  · go_enter Tryz.func12, Tryz.ntmps12
    go_wp2_with fail
    refine (h1 _).mono ?_
    rintro r w1 ⟨rfl, rfl⟩
    go_wp2_with fail
    go_ret
    exact ⟨rfl, hb⟩
  · go_enter Tryz.func12, Tryz.ntmps12
    go_wp2_with fail
    refine (h1 _).mono ?_
    rintro r w1 ⟨rfl, rfl⟩
    go_wp2_with fail
    refine (h2 _).mono ?_
    rintro r w1 ⟨rfl, rfl⟩
    go_wp2_with fail
    go_ret
    exact ⟨rfl, hb⟩
theorem small_sizes {S T : ByteArray} (h : smallB S T = true) : S.size ≤ 300 ∧ T.size ≤ 300 := by
  unfold smallB at h
  rw [Bool.and_eq_true] at h
  exact ⟨of_decide_eq_true h.1, of_decide_eq_true h.2⟩
end Go.Proofs.YtbhfnigblhfikaaGreatDoor

/- filigreelaw04.RatioField. -/
namespace Go.Proofs.YtbhfnigblhfikaaGreatDoor
open Go Go.RowKit Go.PlainAid Fil

/-- few bytes -/
def Bts (K : Nat) (x : Rat) : Prop := Fil.dn 8 x.num.natAbs ≤ K ∧ Fil.dn 8 x.den ≤ K
theorem Bts.fits {K : Nat} {x : Rat} (h : Bts K x) (hK : K ≤ 16384) : Fits x := ⟨Nat.le_trans h.1 hK, Nat.le_trans h.2 hK⟩
theorem dn8_mul {x y j k : Nat} (hx : Fil.dn 8 x ≤ j) (hy : Fil.dn 8 y ≤ k) : Fil.dn 8 (x * y) ≤ j + k := dn_le (by omega) (by rw [padd]; exact Nat.mul_lt_mul'' (lt_of_dn (by omega) hx) (lt_of_dn (by omega) hy))
theorem dn8_add {x y k : Nat} (hx : Fil.dn 8 x ≤ k) (hy : Fil.dn 8 y ≤ k) : Fil.dn 8 (x + y) ≤ k + 1 := dn_le (by omega) (add_lt_succ (by omega) (lt_of_dn (by omega) hx) (lt_of_dn (by omega) hy))
theorem dn8_mulI {x y : Int} {j k : Nat} (hx : Fil.dn 8 x.natAbs ≤ j) (hy : Fil.dn 8 y.natAbs ≤ k) : Fil.dn 8 (x * y).natAbs ≤ j + k := by rw [Int.natAbs_mul]; exact dn8_mul hx hy
theorem dn8_addI {x y : Int} {k : Nat} (hx : Fil.dn 8 x.natAbs ≤ k) (hy : Fil.dn 8 y.natAbs ≤ k) : Fil.dn 8 (x + y).natAbs ≤ k + 1 :=
  Nat.le_trans (dn_mono (by omega) (Int.natAbs_add_le x y)) (dn8_add hx hy)
theorem bts_div {K : Nat} {p q : Int} (hq : q ≠ 0) (hp : Fil.dn 8 p.natAbs ≤ K) (hd : Fil.dn 8 q.natAbs ≤ K) : Bts K (Rat.divInt p q) := by
  refine ⟨?_, ?_⟩
  · rw [← norm_num p q hq, sz_abs]
    exact Nat.le_trans (dn_mono (by omega) (Nat.div_le_self _ _)) hp
  · rw [← norm_den p q hq]
    exact Nat.le_trans (dn_mono (by omega) (Nat.div_le_self _ _)) hd
theorem Bts.denI {K : Nat} {x : Rat} (h : Bts K x) : Fil.dn 8 ((x.den : Int)).natAbs ≤ K := by rw [Int.natAbs_natCast]; exact h.2
theorem Bts.mono {K L : Nat} {x : Rat} (h : Bts K x) (hL : K ≤ L) : Bts L x := ⟨Nat.le_trans h.1 hL, Nat.le_trans h.2 hL⟩
theorem Bts.mul {J K : Nat} {x y : Rat} (hx : Bts J x) (hy : Bts K y) : Bts (J + K) (x * y) := by
  rw [← divInt_mul]
  exact bts_div (den_mul_ne x y) (dn8_mulI hx.1 hy.1) (dn8_mulI hx.denI hy.denI)
theorem Bts.add {J K : Nat} {x y : Rat} (hx : Bts J x) (hy : Bts K y) : Bts (J + K + 1) (x + y) := by
  rw [← divInt_add]
  exact bts_div (den_mul_ne x y) (dn8_addI (dn8_mulI hx.1 hy.denI) (by rw [Nat.add_comm J K]; exact dn8_mulI hy.1 hx.denI)) (Nat.le_trans (dn8_mulI hx.denI hy.denI) (by omega))
theorem Bts.neg {K : Nat} {x : Rat} (h : Bts K x) : Bts K (-x) := ⟨by rw [Rat.neg_num, Int.natAbs_neg]; exact h.1, h.2⟩
theorem Bts.sub {J K : Nat} {x y : Rat} (hx : Bts J x) (hy : Bts K y) : Bts (J + K + 1) (x - y) := by rw [Rat.sub_eq_add_neg]; exact hx.add hy.neg
end Go.Proofs.YtbhfnigblhfikaaGreatDoor

/- Merged: R4 R5 R6 R7 R9 -/
/- Merged: R1 R2 R3 R4 -/
/- The reference of layer 2: digits, at (turned from the texts over layer 3's reference). -/
namespace Go.Proofs.YtbhfnigblhfikaaGreatDoor
open Go Go.RowKit Go.PlainAid Fil

end Go.Proofs.YtbhfnigblhfikaaGreatDoor

/- Plain laws for the reference of layer 2: quotients digit by digit (base 256), texts cut at the end. -/
namespace Go.Proofs.YtbhfnigblhfikaaGreatDoor
open Go Go.RowKit Go.PlainAid Fil

end Go.Proofs.YtbhfnigblhfikaaGreatDoor

/- The reference of layer 2: plus, Cmp, Sub. -/
namespace Go.Proofs.YtbhfnigblhfikaaGreatDoor
open Go Go.RowKit Go.PlainAid Fil

end Go.Proofs.YtbhfnigblhfikaaGreatDoor

/- The reference of layer 2: times, Sub (printed by gen_r4.py out of B9's walks). -/
namespace Go.Proofs.YtbhfnigblhfikaaGreatDoor
open Go Go.RowKit Go.PlainAid Fil

end Go.Proofs.YtbhfnigblhfikaaGreatDoor

/- The reference of layer 2: Div, Gcd. -/
namespace Go.Proofs.YtbhfnigblhfikaaGreatDoor
open Go Go.RowKit Go.PlainAid Fil

theorem Slc.one (w : World) (d : Nat) (hd : d < 256) : Slc (w.alloc (.cells #[.int .i64 d] 3)) 3 (some ⟨w.heap.size, 0, none⟩) 1 (i8 d) := by
  refine Slc.of_row (World.rowIs_alloc w #[.int .i64 d] 3 (i8 d) ?_) (Nat.le_refl _)
  intro i hi
  match i, hi with
  | 0, _ => simp [i8, dg]; omega
theorem mul_dn {x y j k : Nat} (hx : Fil.dn 8 x ≤ j) (hy : Fil.dn 8 y ≤ k) : Fil.dn 8 (x * y) ≤ j + k := dn_le (by omega) (by rw [padd]; exact Nat.mul_lt_mul'' (lt_of_dn (by omega) hx) (lt_of_dn (by omega) hy))
end Go.Proofs.YtbhfnigblhfikaaGreatDoor

/- The reference of layer 2: ended, Mul, Add, May; the reference of layer 4: times, May. -/
namespace Go.Proofs.YtbhfnigblhfikaaGreatDoor
open Go Go.RowKit Go.PlainAid Fil

end Go.Proofs.YtbhfnigblhfikaaGreatDoor

/- The reference of layer 4: Lowest, Neg, Add, Mul, Quo, Compare, by letters. -/
namespace Go.Proofs.YtbhfnigblhfikaaGreatDoor
open Go Go.RowKit Go.PlainAid Fil

end Go.Proofs.YtbhfnigblhfikaaGreatDoor

/- Merged: R8 R9 -/
/- The reference of layer 4: May, Lowest, Add, Mul, Quo, Compare, Neg of ratios. -/
namespace Go.Proofs.YtbhfnigblhfikaaGreatDoor
open Go Go.RowKit Go.PlainAid Fil

end Go.Proofs.YtbhfnigblhfikaaGreatDoor

/- The reference of layer 4 over ratios: Lowest, Neg, Add, Mul, Quo, Compare. -/
namespace Go.Proofs.YtbhfnigblhfikaaGreatDoor
open Go Go.RowKit Go.PlainAid Fil

theorem num_sz (x : Rat) : x.num = sz (sg x.num) x.num.natAbs := (sz_self _).symm
theorem sz_mul_nat (N : Bool) (a d : Nat) : sz N a * (d : Int) = sz N (a * d) := by cases N <;> simp [sz, Int.neg_mul]
end Go.Proofs.YtbhfnigblhfikaaGreatDoor

/- The walks over dyad.Make, the reference's Make and Of. -/
namespace Go.Proofs.YtbhfnigblhfikaaGreatDoor
open Go Go.RowKit Go.PlainAid Fil

end Go.Proofs.YtbhfnigblhfikaaGreatDoor

/- Merged: RF RG RI RJ RK RL -/
/- The reference of layer 2: two, Shift, Bit, Low, Len. -/
namespace Go.Proofs.YtbhfnigblhfikaaGreatDoor
open Go Go.RowKit Go.PlainAid Fil

theorem dn_two (n : Nat) : Fil.dn 8 (2 ^ n) = n / 8 + 1 := by
  rw [dn8_bl, bl_eq (n := n) (Nat.le_refl _) (Nat.pow_lt_pow_right (by omega) (by omega))]
  omega
end Go.Proofs.YtbhfnigblhfikaaGreatDoor

/- ratio.Of and the reference's Of: ratios of Dyads. -/
namespace Go.Proofs.YtbhfnigblhfikaaGreatDoor
open Go Go.RowKit Go.PlainAid Fil

set_option maxRecDepth 100000 in
set_option maxHeartbeats 8000000 in
theorem kof_ok (neg : Bool) (x : Nat) (e : Int) (w : World) (h : okD neg x e) (h1 : -131072 ≤ e) (h2 : e ≤ 131072) (z : Rat) (hz : z = Rat.divInt (sz neg (x * 2 ^ e.toNat)) ((2 ^ (-e).toNat : Nat) : Int)) :
    Calls Tryz.prog 20 #[.agg #[.bool neg, .string (bstr x), .int .i64 e]] w fun r w' => r = .returned (kToldV z) ∧ Below w.heap.size w w' := by
  have hx8 := h.dn
  have hck := fun W => check_any neg (bstr x) e W (by rw [bstr_size]; omega)
  rw [mayB_ok h, okE_t] at hck
  have hw1 := fun W => kwhole_any x W (Nat.le_trans hx8 (by omega))
  have hw2 := fun W => newint_any 1 W (by omega) (by omega)
  obtain ⟨P, hP⟩ : ∃ P, P = x * 2 ^ e.toNat := ⟨_, rfl⟩
  obtain ⟨Q, hQ⟩ : ∃ Q, Q = 2 ^ (-e).toNat := ⟨_, rfl⟩
  have hQ0 : Q ≠ 0 := by rw [hQ]; exact Nat.ne_of_gt (pp _)
  have hP32 : Fil.dn 32 P ≤ 20000 := by
    have h8 : Fil.dn 8 P ≤ 16384 + 16385 := by rw [hP]; exact mul_dn hx8 (by rw [dn_two]; omega)
    exact Nat.le_trans (dn8_32 P _ (lt_of_dn (by omega) h8)) (by omega)
  have hQ32 : Fil.dn 32 Q ≤ 20000 := by
    have h8 : Fil.dn 8 Q ≤ 16385 := by rw [hQ, dn_two]; omega
    exact Nat.le_trans (dn8_32 Q _ (lt_of_dn (by omega) h8)) (by omega)
  have hx32 : Fil.dn 32 x ≤ 20000 := Nat.le_trans (dn8_32 x _ (lt_of_dn (by omega) hx8)) (by omega)
  rw [← hP, ← hQ] at hz
  have hQi : (Q : Int) ≠ 0 := by omega
  have hsz : Szd 20000 z := by rw [hz]; exact Szd.div hQi (by rw [sz_abs]; exact hP32) (by rw [Int.natAbs_natCast]; exact hQ32)
  have htd := fun W B R => ktold_any B z W R (hsz.mono (by omega))
  obtain ⟨tn, tS, tT, te, hV⟩ := kTold_parts z
  rw [hV] at htd ⊢
  have HS := Lib.hid (And.intro hP (And.intro hQ (And.intro hP32 (And.intro hQ32 (And.intro hx32 (And.intro hQi hz))))))
  clear hP hQ hQ0 hP32 hQ32 hx32 hQi hz hsz hV h hx8
  generalize hSx : bstr x = S at *
  clear hSx
  have F := (Blk.put w #[.bool neg, .string S, .int .i64 e] 44).allocd (.cells #[.bool false, .string { data := #[] }, .string { data := #[] }] 24)
  have Z := Blk.put (w.alloc (.cells #[.bool neg, .string S, .int .i64 e] 44)) #[.bool false, .string { data := #[] }, .string { data := #[] }] 24
  rw [show (w.alloc (.cells #[.bool neg, .string S, .int .i64 e] 44)).heap.size = w.heap.size + 1 by simp] at Z
  have hb := ((Below.refl w.heap.size w).alloc (Nat.le_refl _) (.cells #[.bool neg, .string S, .int .i64 e] 44)).alloc (by simp) (.cells #[.bool false, .string { data := #[] }, .string { data := #[] }] 24)
  obtain ⟨f0, f1, f2⟩ := F.ce3
  go_enter Tryz.func20, Tryz.ntmps20
  go_wp2_with fail
  refine (hck _).mono ?_
  rintro r w1 ⟨rfl, hB⟩
  clear f0 f1 f2
  replace F := F.keep hB
  replace Z := Z.keep hB
  replace hb := hb.trans (hB.mono hb.size)
  clear hB hck
  obtain ⟨f0, f1, f2⟩ := F.ce3
  have lF := F.lt
  have lZ := Z.lt
  have k1 : decide (131072 < e) = false := decide_eq_false (by omega)
  have k2 : decide (e < -131072) = false := decide_eq_false (by omega)
  have k3 : ¬ 131072 < e := by omega
  have k4 : ¬ e < -131072 := by omega
  go_wp2_with fail
  refine (hw1 _).mono ?_
  rintro r w2 ⟨rfl, I1, hB⟩
  clear f0 f1 f2
  replace F := F.keep hB
  replace Z := Z.keep hB
  replace hb := hb.trans (hB.mono hb.size)
  have lI := I1.lt
  clear hB hw1
  go_wp2_with fail
  refine (hw2 _).mono ?_
  rintro r w3 ⟨rfl, I2, hB⟩
  replace F := F.keep hB
  replace Z := Z.keep hB
  replace I1 := I1.below hB
  replace hb := hb.trans (hB.mono hb.size)
  clear hB hw2
  have hwb := hb.size
  have l0 : w.heap.size ≤ w1.heap.size := by omega
  have n1 : w1.heap.size ≠ w2.heap.size := by omega
  have nF1 : w.heap.size ≠ w1.heap.size := by omega
  have nF2 : w.heap.size ≠ w2.heap.size := by omega
  have nZ1 : w.heap.size + 1 ≠ w1.heap.size := by omega
  have nZ2 : w.heap.size + 1 ≠ w2.heap.size := by omega
  have l1 : w.heap.size ≤ w2.heap.size := by omega
  obtain ⟨B1, hB1⟩ : ∃ B1, B1 = w1.heap.size := ⟨_, rfl⟩
  obtain ⟨B2, hB2⟩ : ∃ B2, B2 = w2.heap.size := ⟨_, rfl⟩
  rw [← hB1] at I1 n1 nF1 nZ1 l0 ⊢
  rw [← hB2] at I2 n1 nF2 nZ2 l1 ⊢
  have HN := Lib.hid (And.intro n1 (And.intro nF1 (And.intro nF2 (And.intro nZ1 (And.intro nZ2 (And.intro l0 l1))))))
  clear lF lZ lI n1 nF1 nF2 nZ1 nZ2 l0 l1 hB1 hB2 hwb
  obtain ⟨f0, f1, f2⟩ := F.ce3
  go_upto_if 25 with fail
  go_cut [] (fun wx => IntAt wx B1 0 (P : Int) ∧ IntAt wx B2 0 (Q : Int) ∧ Blk wx w.heap.size #[.bool neg, .string S, .int .i64 e] 44 ∧ Blk wx (w.heap.size + 1) #[.bool false, .string { data := #[] }, .string { data := #[] }] 24 ∧ Below w.heap.size w wx)
  case first =>
    by_cases he : 0 ≤ e
    · obtain ⟨k, rfl⟩ := Int.eq_ofNat_of_zero_le he
      have hl := fun W a b => lsh_any B1 0 B1 0 k (x : Int) W a b (by rw [Int.natAbs_natCast]; have := HS.out.2.2.2.2.1; omega) (by omega)
      have hP : (x : Int) * 2 ^ k = (P : Int) := by rw [HS.out.1, Int.toNat_natCast]; simp
      have hQ : (1 : Int) = (Q : Int) := by rw [HS.out.2.1, show (-(k : Int)).toNat = 0 by omega]; rfl
      rw [hP] at hl
      rw [hQ] at I2
      have HL := Lib.hid hl
      clear hl hP hQ
      have hwr : IntKind.u64.wrap (k : Int) = (k : Int) := IntWalk.u64_in _ ⟨by omega, by omega⟩
      go_wp2_with fail
      refine (HL.out _ I1.room I1).mono ?_
      rintro r w4 ⟨rfl, I1', hB⟩
      clear f0 f1 f2 HL
      obtain ⟨n1, nF1, nF2, nZ1, nZ2, l0, l1⟩ := HN.out
      replace I2 := I2.but hB (.inl n1.symm)
      replace F := F.ofFar hB.toFar nF1
      replace Z := Z.ofFar hB.toFar nZ1
      replace hb := hb.trans (hB.below l0 hb.size)
      clear hB n1 nF1 nF2 nZ1 nZ2 l0 l1
      go_wp2_with fail
      go_meet
      exact ⟨I1', I2, F, Z, hb⟩
    · obtain ⟨k, hk⟩ : ∃ k : Nat, -e = (k : Int) := ⟨(-e).toNat, by omega⟩
      have hl := fun W a b => lsh_any B2 0 B2 0 k (1 : Int) W a b (by decide) (by omega)
      have hP : (x : Int) = (P : Int) := by rw [HS.out.1, show e.toNat = 0 by omega]; simp
      have hQ : (1 : Int) * 2 ^ k = (Q : Int) := by rw [HS.out.2.1, hk, Int.toNat_natCast]; simp
      rw [hQ] at hl
      rw [hP] at I1
      have HL := Lib.hid hl
      clear hl hP hQ
      have hwr : IntKind.u64.wrap (k : Int) = (k : Int) := IntWalk.u64_in _ ⟨by omega, by omega⟩
      go_wp2_with fail
      refine (HL.out _ I2.room I2).mono ?_
      rintro r w4 ⟨rfl, I2', hB⟩
      clear f0 f1 f2 HL
      obtain ⟨n1, nF1, nF2, nZ1, nZ2, l0, l1⟩ := HN.out
      replace I1 := I1.but hB (.inl n1)
      replace F := F.ofFar hB.toFar nF2
      replace Z := Z.ofFar hB.toFar nZ2
      replace hb := hb.trans (hB.below l1 hb.size)
      clear hB n1 nF1 nF2 nZ1 nZ2 l0 l1
      go_wp2_with fail
      go_meet
      exact ⟨I1, I2', F, Z, hb⟩
  case rest =>
    clear I1 I2 F Z hb f0 f1 f2 k1 k2 k3 k4
    obtain ⟨I1, I2, F, Z, hb⟩ := hcut
    generalize wc = v1 at *
    obtain ⟨f0, f1, f2⟩ := F.ce3
    go_upto_if 40 with fail
    go_cut [] (fun wx => IntAt wx B1 0 (sz neg P) ∧ IntAt wx B2 0 (Q : Int) ∧ Blk wx (w.heap.size + 1) #[.bool false, .string { data := #[] }, .string { data := #[] }] 24 ∧ Below w.heap.size w wx)
    case first =>
      cases neg
      · go_wp2_with fail
        go_meet
        exact ⟨I1, I2, Z, hb⟩
      · have hng := fun W a b => neg_any B1 0 B1 0 (P : Int) W a b (by rw [Int.natAbs_natCast]; have := HS.out.2.2.1; omega)
        go_wp2_with fail
        refine (hng _ I1.room I1).mono ?_
        rintro r w4 ⟨rfl, I1', hB⟩
        clear f0 f1 f2 hng
        obtain ⟨n1, nF1, nF2, nZ1, nZ2, l0, l1⟩ := HN.out
        replace I2 := I2.but hB (.inl n1.symm)
        replace Z := Z.ofFar hB.toFar nZ1
        replace hb := hb.trans (hB.below l0 hb.size)
        clear hB n1 nF1 nF2 nZ1 nZ2 l0 l1
        go_wp2_with fail
        go_meet
        exact ⟨I1', I2, Z, hb⟩
    case rest =>
      clear I1 I2 F Z hb f0 f1 f2
      obtain ⟨I1, I2, Z, hb⟩ := hcut
      generalize wc = v2 at *
      have R := RRoom.new v2
      have m1 : B1 ≠ v2.heap.size := by have := I1.lt; omega
      have m2 : B2 ≠ v2.heap.size := by have := I2.lt; omega
      have mz : w.heap.size + 1 ≠ v2.heap.size := by have := Z.lt; omega
      have hbs := hb.size
      replace I1 := I1.alloc (.cells #[.bool false, .slice none 0 0, .bool false, .slice none 0 0] 80)
      replace I2 := I2.alloc (.cells #[.bool false, .slice none 0 0, .bool false, .slice none 0 0] 80)
      replace Z := Z.allocd (.cells #[.bool false, .slice none 0 0, .bool false, .slice none 0 0] 80)
      replace hb := hb.alloc hb.size (.cells #[.bool false, .slice none 0 0, .bool false, .slice none 0 0] 80)
      have HM := Lib.hid (And.intro m1 (And.intro m2 (And.intro mz hbs)))
      clear m1 m2 mz hbs
      go_wp2_with fail
      refine (ratsetfrac_any v2.heap.size B1 B2 (sz neg P) (Q : Int) _ R I1 I2 HM.out.1 HM.out.2.1 HS.out.2.2.2.2.2.1 (by rw [sz_abs]; have := HS.out.2.2.1; omega) (by rw [Int.natAbs_natCast]; have := HS.out.2.2.2.1; omega)).mono ?_
      rintro r w5 ⟨rfl, R5, hF⟩
      replace Z := Z.ofFar hF HM.out.2.2.1
      replace hb := hb.trans (hF.below HM.out.2.2.2 hb.size)
      have hR : RatAt w5 v2.heap.size z := by rw [HS.out.2.2.2.2.2.2]; exact R5
      clear hF R I1 I2 R5
      go_wp2_with fail
      refine (htd _ _ hR).mono ?_
      rintro r w6 ⟨rfl, hB⟩
      replace Z := Z.keep hB
      replace hb := hb.trans (hB.mono hb.size)
      clear hB hR htd
      obtain ⟨zf0, zf1, zf2⟩ := Z.fr3
      obtain ⟨z0, z1, z2⟩ := Z.ce3
      have G0 : Blk (((w6.setCell ⟨w.heap.size + 1, 0, none⟩ (.bool tn)).setCell ⟨w.heap.size + 1, 1, none⟩ (.string tS)).setCell ⟨w.heap.size + 1, 2, none⟩ (.string tT)) (w.heap.size + 1) #[.bool tn, .string tS, .string tT] 24 := (((Z.setAt 0 (.bool tn)).setAt 1 (.string tS)).setAt 2 (.string tT))
      obtain ⟨g0, g1, g2⟩ := G0.ce3
      have hbY := ((hb.setCell (p := ⟨w.heap.size + 1, 0, none⟩) (Nat.le_add_right _ _) (.bool tn)).setCell (p := ⟨w.heap.size + 1, 1, none⟩) (Nat.le_add_right _ _) (.string tS)).setCell (p := ⟨w.heap.size + 1, 2, none⟩) (Nat.le_add_right _ _) (.string tT)
      have HG := Lib.hid (And.intro (And.intro g0 (And.intro g1 g2)) hbY)
      clear g0 g1 g2 hbY G0 Z hb
      go_wp2
      obtain ⟨⟨g0, g1, g2⟩, hbY⟩ := HG.out
      exact bodyPost_ret (v := .tuple #[.agg #[.bool tn, .string tS, .string tT], .int .i64 te]) (by simp [results, Tryz.results20, go_sem, g0, g1, g2]) rfl ⟨rfl, hbY⟩
end Go.Proofs.YtbhfnigblhfikaaGreatDoor

/- ratio.New, Whole and the reference's. -/
namespace Go.Proofs.YtbhfnigblhfikaaGreatDoor
open Go Go.RowKit Go.PlainAid Fil

end Go.Proofs.YtbhfnigblhfikaaGreatDoor

/- The reference of layer 2: Bit, Low, Len. -/
namespace Go.Proofs.YtbhfnigblhfikaaGreatDoor
open Go Go.RowKit Go.PlainAid Fil

end Go.Proofs.YtbhfnigblhfikaaGreatDoor

/- ratio.Dyad, ratio.Whole; the reference's Dyad. -/
namespace Go.Proofs.YtbhfnigblhfikaaGreatDoor
open Go Go.RowKit Go.PlainAid Fil

end Go.Proofs.YtbhfnigblhfikaaGreatDoor

/- ratios of Dyads and of numbers: the program and the reference agree. -/
namespace Go.Proofs.YtbhfnigblhfikaaGreatDoor
open Go Go.RowKit Go.PlainAid Fil

end Go.Proofs.YtbhfnigblhfikaaGreatDoor
