/- The walks over the reference's May, Sign, Neg. -/
import Derived.Test.YtgcifpjhhoalmaaDoorAw
namespace Go.Proofs.YtgcifpjhhoalmaaDoor
open Go Go.RowKit Go.PlainAid Fil

theorem natB_len {s : ByteArray} (h : ¬ s.size ≤ 16384) : natB s = false := by
  unfold natB; rw [decide_eq_false h]; rfl
theorem natB_lead {s : ByteArray} (h0 : ¬ s.size = 0) (h : (bt s 0 == 0) = true) : natB s = false := by
  unfold natB; rw [h, decide_eq_false h0]; simp
theorem natB_yes {s : ByteArray} (h1 : s.size ≤ 16384) (h : (bt s 0 == 0) = false) : natB s = true := by
  unfold natB; rw [h, decide_eq_true h1]; simp
theorem mayB_nat {neg : Bool} {s : ByteArray} {e : Int} (h0 : ¬ s.size = 0) (h : natB s = false) : mayB neg s e = false := by
  unfold mayB; rw [if_neg h0, h]; rfl
theorem mayB_even {neg : Bool} {s : ByteArray} {e : Int} (h0 : ¬ s.size = 0) (h : (bt s (s.size - 1) % 2 == 1) = false) : mayB neg s e = false := by
  unfold mayB; rw [if_neg h0, h]; simp

set_option maxHeartbeats 2000000 in
theorem rmay_any (neg : Bool) (s : ByteArray) (e : Int) (w : World) (hs : s.size ≤ 9223372036854775807) :
    Calls Tryd.prog 22 #[.agg #[.bool neg, .string s, .int .i64 e]] w fun r w' => r = .returned (.bool (mayB neg s e)) ∧ Below w.heap.size w w' := by
  have hb0 := box_below w neg s e
  by_cases h0 : s.size = 0
  · have h1 := str_nil h0
    cases neg
    · by_cases he : e = 0
      · subst he
        have HB : Hid (mayB false s 0 = true) := Lib.hid (by simp [mayB, h0])
        clear h0
        go_enter Tryd.func22, Tryd.ntmps22
        go_wp2
        go_ret
        exact ⟨by rw [HB.out]; rfl, hb0⟩
      · have he' : (e == 0) = false := by simpa using he
        have HB : Hid (mayB false s e = false) := Lib.hid (by simp [mayB, h0, he'])
        clear h0 he'
        go_enter Tryd.func22, Tryd.ntmps22
        go_wp2
        go_ret
        exact ⟨by rw [HB.out]; rfl, hb0⟩
    · have HB : Hid (mayB true s e = false) := Lib.hid (by simp [mayB, h0])
      clear h0
      go_enter Tryd.func22, Tryd.ntmps22
      go_wp2
      go_ret
      exact ⟨by rw [HB.out]; rfl, hb0⟩
  · have h3 := str_cons (s := s) (by omega)
    have h4 : s.toList ≠ [] := by intro h; rw [h] at h3; cases h3
    have h5 : 0 < s.size := by omega
    have hix : 1 ≤ (s.size : Int) := by omega
    have hb := get_bt s
    have hle := bt_le s (s.size - 1)
    have hge := bt_nonneg s (s.size - 1)
    by_cases g1 : s.size ≤ 16384
    · have g1' : (s.size : Int) ≤ 16384 := by omega
      by_cases g2 : bt s 0 = 0
      · have HB : Hid (mayB neg s e = false) := Lib.hid (mayB_nat h0 (natB_lead h0 (by rw [g2]; rfl)))
        clear h0
        go_enter Tryd.func22, Tryd.ntmps22
        go_wp2
        go_ret
        exact ⟨by rw [HB.out]; rfl, hb0⟩
      · have Hn := Lib.hid (natB_yes g1 (beq_eq_false_iff_ne.2 g2))
        have g2' : (bt s 0 != 0) = true := by simp [g2]
        cases g3 : (bt s (s.size - 1) % 2 == 1)
        · have HB : Hid (mayB neg s e = false) := Lib.hid (mayB_even h0 g3)
          clear h0
          go_enter Tryd.func22, Tryd.ntmps22
          go_wp2
          go_ret
          exact ⟨by rw [HB.out]; rfl, hb0⟩
        · have g3' : bt s (s.size - 1) % 2 = 1 := by simpa using g3
          by_cases h7 : e < -1048576
          · have HB : Hid (mayB neg s e = false) := Lib.hid (mayB_low h0 h7)
            clear h0
            go_enter Tryd.func22, Tryd.ntmps22
            go_wp2
            go_ret
            exact ⟨by rw [HB.out]; rfl, hb0⟩
          · by_cases h8 : 1048576 < e
            · have HB : Hid (mayB neg s e = decide (e ≤ 1048576)) := Lib.hid (by rw [mayB_high h0 h8, decide_eq_false (by omega)])
              clear h0
              go_enter Tryd.func22, Tryd.ntmps22
              go_wp2
              go_ret
              exact ⟨by rw [HB.out]; rfl, hb0⟩
            · have HB : Hid (mayB neg s e = true) := Lib.hid (mayB_yes h0 Hn.out g3 (by omega) (by omega))
              clear h0
              go_enter Tryd.func22, Tryd.ntmps22
              go_wp2
              go_ret
              exact ⟨by rw [HB.out]; rfl, hb0⟩
    · have HB : Hid (mayB neg s e = false) := Lib.hid (mayB_nat h0 (natB_len g1))
      have g1' : (16384 : Int) < (s.size : Int) := by omega
      clear g1 h0
      go_enter Tryd.func22, Tryd.ntmps22
      go_wp2
      go_ret
      exact ⟨by rw [HB.out]; rfl, hb0⟩

set_option maxHeartbeats 1000000 in
theorem rsign_ok (neg : Bool) (x : Nat) (e : Int) (w : World) (h : okD neg x e) :
    Calls Tryd.prog 37 #[.agg #[.bool neg, .string (bstr x), .int .i64 e]] w fun r w' => r = .returned (.int .i64 (sz neg x).sign) ∧ Below w.heap.size w w' := by
  have hb0 := box_below w neg (bstr x) e
  by_cases hx : x = 0
  · subst hx
    have h1 := bstr_nil
    have hz := sz_sign_zero neg
    go_enter Tryd.func37, Tryd.ntmps37
    go_wp2
    go_ret
    exact ⟨by rw [hz]; rfl, hb0⟩
  · obtain ⟨h1, h2⟩ := bstr_ne hx
    have Hx := Lib.hid hx
    clear hx h
    cases neg
    · go_enter Tryd.func37, Tryd.ntmps37
      go_wp2
      go_ret
      exact ⟨by rw [Int.sign_eq_one_of_pos (show 0 < sz false x by have := Hx.out; simp [sz]; omega)]; rfl, hb0⟩
    · go_enter Tryd.func37, Tryd.ntmps37
      go_wp2
      go_ret
      exact ⟨by rw [Int.sign_eq_neg_one_of_neg (show sz true x < 0 by have := Hx.out; simp [sz]; omega)]; rfl, hb0⟩

set_option maxHeartbeats 1000000 in
theorem rneg_ok (neg : Bool) (x : Nat) (e : Int) (w : World) (h : okD neg x e) :
    Calls Tryd.prog 38 #[.agg #[.bool neg, .string (bstr x), .int .i64 e]] w fun r w' => r = .returned (dyN (!neg && decide (x ≠ 0)) x e) ∧ Below w.heap.size w w' := by
  by_cases hx : x = 0
  · have ha : neg = false ∧ e = 0 := by
      rcases h with ⟨_, h1, h2⟩ | h
      · exact ⟨h1, h2⟩
      · omega
    obtain ⟨rfl, rfl⟩ := ha
    subst hx
    have h1 := bstr_nil
    clear h
    go_enter Tryd.func38, Tryd.ntmps38
    go_wp2
    go_returns
    exact ⟨rfl, (((Below.refl _ _).alloc (Nat.le_refl _) _).alloc (by simp) _)⟩
  · obtain ⟨h1, h2⟩ := bstr_ne hx
    have hx2 := Lib.hid hx
    clear hx h
    go_enter Tryd.func38, Tryd.ntmps38
    go_wp2
    go_returns
    have : (!neg && decide (x ≠ 0)) = !neg := by rw [decide_eq_true hx2.out, Bool.and_true]
    refine ⟨?_, (((Below.refl _ _).alloc (Nat.le_refl _) _).alloc (by simp) _)⟩
    rw [this]; rfl
end Go.Proofs.YtgcifpjhhoalmaaDoor
