/- The reference of layer 3: digits (the signed decimal text of an exponent). -/
import Derived.Test.YtjldfclncipbgaaGreatDoorM1
import Derived.Test.YtjldfclncipbgaaGreatDoorMH
import Derived.Test.YtjldfclncipbgaaGreatDoorBJ
import Derived.Test.YtjldfclncipbgaaGreatDoorMJ
namespace Go.Proofs.YtjldfclncipbgaaGreatDoor
open Go Go.RowKit Go.PlainAid Fil

theorem dn_small {x : Nat} (h : x ≤ 1048576) : Fil.dn 8 x ≤ 1048576 := Nat.le_trans (dn_le (n := 3) (by omega) (by omega)) (by omega)
theorem dtx_len7 {x : Nat} (h : x ≤ 1048576) : (dtx x).length ≤ 7 := by
  unfold dtx
  split
  · simp
  · rw [List.length_reverse]; exact decs_length_le _ _ (Nat.lt_of_le_of_lt h (by decide))
theorem itx_neg {e : Int} (h : e < 0) : itx e = 45 :: dtx e.natAbs := by unfold itx; rw [if_pos h]; rfl
theorem itx_pos {e : Int} (h : ¬e < 0) : itx e = dtx e.natAbs := by unfold itx; rw [if_neg h]; rfl
set_option maxRecDepth 1000000 in
set_option maxHeartbeats 8000000 in
theorem r3digits_any (e : Int) (w : World) (h0 : -1048576 ≤ e) (h1 : e ≤ 1048576) :
    Calls Tryz.prog 37 #[.int .i64 e] w fun r w' => r = .returned (.string ⟨(itx e).toArray⟩) ∧ Below w.heap.size w w' := by
  have hT := fun (x : Nat) (hx : x ≤ 1048576) W => r2text_any x W (dn_small hx)
  have hO := fun (x : Nat) (hx : x ≤ 1048576) W => r2of_any x W (by omega)
  by_cases hn : e < 0
  · obtain ⟨x, rfl⟩ : ∃ x : Nat, e = -(x : Int) := ⟨e.natAbs, by omega⟩
    rw [itx_neg hn, show (-(x : Int)).natAbs = x by omega]
    have hx : x ≤ 1048576 := by omega
    have hx0 : 0 < x := by omega
    have hO := hO x hx
    have hT := hT x hx
    have e1 : decide (-(x : Int) < 0) = true := decide_eq_true hn
    have e2 : wrap64 (x : Int) = (x : Int) := by unfold wrap64; omega
    have e3 : IntKind.u64.wrap (x : Int) = (x : Int) := by rw [IntKind.wrap_u64]; omega
    have B0 := Below.refl w.heap.size w
    obtain ⟨T, hTt⟩ : ∃ T, T = dtx x := ⟨_, rfl⟩
    have hTl : T.length ≤ 7 := by rw [hTt]; exact dtx_len7 hx
    rw [← hTt] at hT ⊢
    have happ : (⟨#[45]⟩ : ByteArray) ++ (⟨T.toArray⟩ : ByteArray) = ⟨(45 :: T).toArray⟩ := by
      apply ByteArray.ext; simp
    have HX := Lib.hid (And.intro h0 (And.intro h1 (And.intro hx hTt)))
    clear h0 h1 hx hTt hn
    go_enter Tryz.func37, Tryz.ntmps37
    go_wp2_with first | rw [e1] | rw [e2] | rw [e3] | fail
    refine (hO _).mono ?_
    rintro r w1 ⟨rfl, hb1⟩
    replace B0 := B0.trans (hb1.mono B0.size)
    go_wp2_with fail
    refine (hT _).mono ?_
    rintro r w2 ⟨rfl, hb2⟩
    replace B0 := B0.trans (hb2.mono B0.size)
    go_wp2
    go_ret
    exact ⟨rfl, B0⟩
  · obtain ⟨x, rfl⟩ : ∃ x : Nat, e = (x : Int) := ⟨e.natAbs, by omega⟩
    rw [itx_pos hn, show (x : Int).natAbs = x by omega]
    have hx : x ≤ 1048576 := by omega
    have hO := hO x hx
    have hT := hT x hx
    have e1 : decide ((x : Int) < 0) = false := decide_eq_false hn
    have e3 : IntKind.u64.wrap (x : Int) = (x : Int) := by rw [IntKind.wrap_u64]; omega
    have B0 := Below.refl w.heap.size w
    obtain ⟨T, hTt⟩ : ∃ T, T = dtx x := ⟨_, rfl⟩
    rw [← hTt] at hT ⊢
    have HX := Lib.hid (And.intro h0 (And.intro h1 (And.intro hx hTt)))
    clear h0 h1 hx hTt
    go_enter Tryz.func37, Tryz.ntmps37
    go_wp2_with first | rw [e1] | rw [e3] | fail
    refine (hO _).mono ?_
    rintro r w1 ⟨rfl, hb1⟩
    replace B0 := B0.trans (hb1.mono B0.size)
    go_wp2_with fail
    refine (hT _).mono ?_
    rintro r w2 ⟨rfl, hb2⟩
    replace B0 := B0.trans (hb2.mono B0.size)
    go_wp2
    go_ret
    exact ⟨rfl, B0⟩
end Go.Proofs.YtjldfclncipbgaaGreatDoor
