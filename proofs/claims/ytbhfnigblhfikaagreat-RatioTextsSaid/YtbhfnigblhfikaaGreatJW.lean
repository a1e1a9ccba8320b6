/- ratio.Nearest of what is not 0; filigreelaw04.lives. -/
import Derived.Test.YtbhfnigblhfikaaGreatJV
import Derived.Test.YtbhfnigblhfikaaGreatJL
import Derived.Test.YtbhfnigblhfikaaGreatJM
namespace Go.Proofs.YtbhfnigblhfikaaGreat
open Go Go.RowKit Go.PlainAid Fil

theorem kTold_fits {z : Rat} (h : Fits z) : kToldV z = .tuple #[kA z, .int .i64 0] := if_pos h
set_option maxRecDepth 100000 in
set_option maxHeartbeats 2000000 in
theorem knearest_w (s : ByteArray) (w : World) (xn : Bool) (xS xT : ByteArray) (R : Nat) (h0 : xS.toList.isEmpty = false)
    (hd : ∀ W, Calls Tryz.prog 11 #[.string s] W fun e w' => e = .returned (.tuple #[.agg #[.bool xn, .string xS, .string xT], .int .i64 0]) ∧ Below W.heap.size W w')
    (hf : ∀ W, Calls Tryz.prog 45 #[.agg #[.bool xn, .string xS, .string xT]] W fun e w' => e = .returned (.tuple #[.float .f64 R, .int .i64 0]) ∧ Below W.heap.size W w') :
    Calls Tryz.prog 13 #[.string s] w fun e w' => e = .returned (.tuple #[.float .f64 R, .int .i64 0]) ∧ Below w.heap.size w w' := by
  have hn : ¬ xS.toList = [] := fun h => by rw [h] at h0; exact Bool.noConfusion h0
  have hb := Below.refl w.heap.size w
  go_enter Tryz.func13, Tryz.ntmps13
  go_wp2_with fail
  refine (hd _).mono ?_
  rintro e w1 ⟨rfl, hB⟩
  replace hb := hb.trans (hB.mono hb.size)
  clear hB hd
  have F := Blk.put w1 #[.bool xn, .string xS, .string xT] 24
  replace hb := hb.alloc hb.size (.cells #[.bool xn, .string xS, .string xT] 24)
  obtain ⟨x0, x1, x2⟩ := F.ce3
  go_wp2_with fail
  refine (hf _).mono ?_
  rintro e w2 ⟨rfl, hB⟩
  replace F := F.keep hB
  replace hb := hb.trans (hB.mono hb.size)
  clear x0 x1 x2 hB hf
  obtain ⟨x0, x1, x2⟩ := F.ce3
  go_wp2_with fail
  go_returns
  exact ⟨rfl, hb⟩
theorem bstr_byte (c : Nat) (h0 : c ≠ 0) (h : c < 256) : bstr c = ⟨#[UInt8.ofNat c]⟩ := by
  apply ByteArray.ext
  apply Array.ext'
  show bs c = [UInt8.ofNat c]
  have hd : Fil.dn 8 c = 1 := by
    have h1 := dn_le (k := 8) (x := c) (n := 1) (by omega) (by omega)
    have h2 := dn_pos (k := 8) h0
    omega
  unfold bs
  rw [hd]
  show [UInt8.ofNat (dg 8 c 0)] = _
  have : dg 8 c 0 = c := by unfold dg; simp; omega
  rw [this]
/-- 0.1 as a text, and -3/2 -/
def t01 : ByteArray := ⟨#[48, 46, 49]⟩
theorem sp01 : SP t01 = (⟨false, false, ⟨#[48]⟩, ⟨#[49]⟩, ⟨#[]⟩⟩, true) := by
  unfold SP
  rw [if_neg (by decide), HD_dig (by decide), HD_pt (by decide), TL_dig (by decide), TL_end (by decide) (by decide) (by decide)]
  rfl
theorem z32 : (-(Rat.divInt ((6 : Nat) : Int) ((4 : Nat) : Int))).num = -3 ∧ (-(Rat.divInt ((6 : Nat) : Int) ((4 : Nat) : Int))).den = 2 := by decide
theorem z01 : (Rat.divInt (sz false 1) ((10 ^ 1 : Nat) : Int)).num = 1 ∧ (Rat.divInt (sz false 1) ((10 ^ 1 : Nat) : Int)).den = 10 := by decide
theorem fits32 : Fits (-(Rat.divInt ((6 : Nat) : Int) ((4 : Nat) : Int))) := by
  unfold Fits; rw [z32.1, z32.2]; exact ⟨Nat.le_trans (dn_le (n := 1) (by decide) (by decide)) (by decide), Nat.le_trans (dn_le (n := 1) (by decide) (by decide)) (by decide)⟩
theorem fits01 : Fits (Rat.divInt (sz false 1) ((10 ^ 1 : Nat) : Int)) := by
  unfold Fits; rw [z01.1, z01.2]; exact ⟨Nat.le_trans (dn_le (n := 1) (by decide) (by decide)) (by decide), Nat.le_trans (dn_le (n := 1) (by decide) (by decide)) (by decide)⟩
theorem ktx32 : (ktx (-(Rat.divInt ((6 : Nat) : Int) ((4 : Nat) : Int)))) = [45, 51, 47, 50] := by
  unfold ktx dtx
  rw [z32.1, z32.2]
  show (if sg (-3) = true then [45] else []) ++ (if (3 : Nat) = 0 then [48] else (decs 3).reverse) ++ (if (2 : Nat) = 1 then [] else 47 :: (if (2 : Nat) = 0 then [48] else (decs 2).reverse)) = _
  rw [decs_pos (x := 3) (by decide), decs_pos (x := 2) (by decide), show 3 / 10 = 0 from rfl, decs_zero]
  rfl
theorem small01 : kSmall (Rat.divInt (sz false 1) ((10 ^ 1 : Nat) : Int)) := by
  unfold kSmall; rw [z01.1, z01.2]; decide
theorem fl01 : kFl (Rat.divInt (sz false 1) ((10 ^ 1 : Nat) : Int)) = 4591870180066957722 := by
  unfold kFl kRung; rw [z01.1, z01.2]; kernel_rfl
theorem kdec01 (w : World) : Calls Tryz.prog 11 #[.string t01] w fun e w' => e = .returned (kToldV (Rat.divInt (sz false 1) ((10 ^ 1 : Nat) : Int))) ∧ Below w.heap.size w w' :=
  kdecimal_En t01 w false ⟨#[48]⟩ ⟨#[49]⟩ ⟨#[]⟩ 1 1 (-1) (by decide) sp01 (by decide) (by decide) (by decide) (by decide) rfl (by decide) (by decide) rfl (by decide)
theorem knear01 (w : World) : Calls Tryz.prog 13 #[.string t01] w fun e w' => e = .returned (.tuple #[.float .f64 4591870180066957722, .int .i64 0]) ∧ Below w.heap.size w w' := by
  have hd := fun W => kdec01 W
  rw [kTold_fits fits01] at hd
  have hf := fun W => kfloat_ok (Rat.divInt (sz false 1) ((10 ^ 1 : Nat) : Int)) W fits01 small01
  rw [fl01] at hf
  unfold kA at hd hf
  exact knearest_w t01 w _ _ _ _ (str_cons (by rw [bstr_size, z01.1]; exact dn_pos (by decide))) hd hf
set_option maxRecDepth 100000 in
set_option maxHeartbeats 4000000 in
theorem l4lives_any (w : World) : Calls Tryz.prog 5 #[] w fun e w' => e = .returned (.bool true) ∧ Below w.heap.size w w' := by
  have h1 := fun W => new_ok true 6 4 W (Nat.le_trans (dn_le (n := 1) (by decide) (by decide)) (by decide)) (Nat.le_trans (dn_le (n := 1) (by decide) (by decide)) (by decide)) (by decide) (-(Rat.divInt ((6 : Nat) : Int) ((4 : Nat) : Int))) rfl
  rw [kTold_fits fits32, bstr_byte 6 (by decide) (by decide), bstr_byte 4 (by decide) (by decide)] at h1
  have h2 := fun W => ktext_ok (-(Rat.divInt ((6 : Nat) : Int) ((4 : Nat) : Int))) W fits32
  rw [ktx32] at h2
  have h3 := fun W => knear01 W
  unfold kA at h1 h2
  generalize sg (-(Rat.divInt ((6 : Nat) : Int) ((4 : Nat) : Int))).num = xn at *
  generalize bstr (-(Rat.divInt ((6 : Nat) : Int) ((4 : Nat) : Int))).num.natAbs = xS at *
  generalize bstr (-(Rat.divInt ((6 : Nat) : Int) ((4 : Nat) : Int))).den = xT at *
  have hb := Below.refl w.heap.size w
  go_enter Tryz.func5, Tryz.ntmps5
  go_wp2_with fail
  refine (h1 _).mono ?_
  rintro e w1 ⟨rfl, hB⟩
  replace hb := hb.trans (hB.mono hb.size)
  clear hB h1
  have F := Blk.put w1 #[.bool xn, .string xS, .string xT] 24
  replace hb := hb.alloc hb.size (.cells #[.bool xn, .string xS, .string xT] 24)
  obtain ⟨x0, x1, x2⟩ := F.ce3
  go_wp2_with fail
  refine (h2 _).mono ?_
  rintro e w2 ⟨rfl, hB⟩
  replace hb := hb.trans (hB.mono hb.size)
  clear hB h2 x0 x1 x2 F
  go_wp2_with fail
  refine (h3 _).mono ?_
  rintro e w3 ⟨rfl, hB⟩
  replace hb := hb.trans (hB.mono hb.size)
  clear hB h3
  go_wp2_with fail
  go_ret
  exact ⟨rfl, hb⟩
end Go.Proofs.YtbhfnigblhfikaaGreat
