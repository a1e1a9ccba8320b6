/- ratio.digits. -/
import Derived.Test.YtbhfnigblhfikaaGreatJM
import Derived.Laws.RangeAny
namespace Go.Proofs.YtbhfnigblhfikaaGreat
open Go Go.RowKit Go.PlainAid Fil

set_option maxRecDepth 100000 in
set_option maxHeartbeats 2000000 in
theorem kdigits_good (s : ByteArray) (w : World) (h0 : 0 < s.size) (h1 : s.size ≤ 1000000) (hd : ∀ (i : Nat) (h : i < s.size), 48 ≤ (s[i]'h).toNat ∧ (s[i]'h).toNat ≤ 57) (hh : (s[0]'h0).toNat = 48 → s.size = 1) (v : Int)
    (hs : ∀ W b, Room W b 0 → Calls Tryz.prog 34 #[.pointer (some ⟨b, 0, none⟩), .string s, .int .i64 10] W fun e w' => e = .returned (.tuple #[.pointer (some ⟨b, 0, none⟩), .bool true]) ∧ IntAt w' b 0 v ∧ But W w' b 0) :
    Calls Tryz.prog 26 #[.string s] w fun e w' => ∃ B, e = .returned (.tuple #[.pointer (some ⟨B, 0, none⟩), .bool true]) ∧ IntAt w' B 0 v ∧ w.heap.size ≤ B ∧ Below w.heap.size w w' := by
  have e0 := str_cons h0
  have hb0 := Below.refl w.heap.size w
  by_cases c48 : (s[0]'h0).toNat = 48
  · have t1 : (((s[0]'h0).toNat : Int) == 48) = true := by rw [c48]; rfl
    have t2 : decide (1 < (s.size : Int)) = false := by rw [hh c48]; rfl
    clear hh c48
    go_enter Tryz.func26, Tryz.ntmps26
    go_wp2_with fail
    go_loopw [5] (fun _ w' => ∃ pos : Nat, w' = w.iter s pos ∧ pos ≤ s.size) (fun _ w' => s.size - w'.iterPos w.heap.size)
    case atStart => exact ⟨0, rfl, by omega⟩
    case round =>
      obtain ⟨pos, rfl, hp0⟩ := hrel
      by_cases hp : pos < s.size
      · obtain ⟨ha, hz⟩ := hd pos hp
        have hnx : ∀ ty, (Instr.next (.pointer (some ⟨w.heap.size, 0, none⟩)) true ty).run Tryz.prog (w.iter s pos) = _ := fun ty => run_next_ascii w s pos ty hp (by omega)
        generalize (s[pos]'hp).toNat = c at *
        have t3 : decide ((c : Int) < 48) = false := decide_eq_false (by omega)
        have t4 : decide ((57 : Int) < c) = false := decide_eq_false (by omega)
        go_wp2_with fail
        go_roundw
        case rel => exact ⟨pos + 1, rfl, by omega⟩
        case measure =>
          simp
          omega
      · have hnx : ∀ ty, (Instr.next (.pointer (some ⟨w.heap.size, 0, none⟩)) true ty).run Tryz.prog (w.iter s pos) = _ := fun ty => run_next_end w s pos ty hp
        have hbi : Below w.heap.size w (w.iter s pos) := hb0.alloc (Nat.le_refl _) (.stringIter s pos)
        have hbz := hbi.size
        go_wp2_with fail
        have R := Room.new (w.iter s pos) 70 #[.bool false, .slice none 0 0] (o := 0) (by decide) (by simp)
        refine (hs _ _ R).mono ?_
        rintro r w1 ⟨rfl, I, hB⟩
        have hb := (hbi.alloc hbz (.cells #[.bool false, .slice none 0 0] 70)).trans (hB.toFar.below hbz (by simp; omega))
        go_wp2_with fail
        go_returns
        exact ⟨_, rfl, I, hbz, hb⟩
  · have t1 : (((s[0]'h0).toNat : Int) == 48) = false := by rw [beq_eq_false_iff_ne]; omega
    clear hh c48
    go_enter Tryz.func26, Tryz.ntmps26
    go_wp2_with fail
    go_loopw [5] (fun _ w' => ∃ pos : Nat, w' = w.iter s pos ∧ pos ≤ s.size) (fun _ w' => s.size - w'.iterPos w.heap.size)
    case atStart => exact ⟨0, rfl, by omega⟩
    case round =>
      obtain ⟨pos, rfl, hp0⟩ := hrel
      by_cases hp : pos < s.size
      · obtain ⟨ha, hz⟩ := hd pos hp
        have hnx : ∀ ty, (Instr.next (.pointer (some ⟨w.heap.size, 0, none⟩)) true ty).run Tryz.prog (w.iter s pos) = _ := fun ty => run_next_ascii w s pos ty hp (by omega)
        generalize (s[pos]'hp).toNat = c at *
        have t3 : decide ((c : Int) < 48) = false := decide_eq_false (by omega)
        have t4 : decide ((57 : Int) < c) = false := decide_eq_false (by omega)
        go_wp2_with fail
        go_roundw
        case rel => exact ⟨pos + 1, rfl, by omega⟩
        case measure =>
          simp
          omega
      · have hnx : ∀ ty, (Instr.next (.pointer (some ⟨w.heap.size, 0, none⟩)) true ty).run Tryz.prog (w.iter s pos) = _ := fun ty => run_next_end w s pos ty hp
        have hbi : Below w.heap.size w (w.iter s pos) := hb0.alloc (Nat.le_refl _) (.stringIter s pos)
        have hbz := hbi.size
        go_wp2_with fail
        have R := Room.new (w.iter s pos) 70 #[.bool false, .slice none 0 0] (o := 0) (by decide) (by simp)
        refine (hs _ _ R).mono ?_
        rintro r w1 ⟨rfl, I, hB⟩
        have hb := (hbi.alloc hbz (.cells #[.bool false, .slice none 0 0] 70)).trans (hB.toFar.below hbz (by simp; omega))
        go_wp2_with fail
        go_returns
        exact ⟨_, rfl, I, hbz, hb⟩

set_option maxRecDepth 100000 in
set_option maxHeartbeats 2000000 in
theorem kdigits_empty (s : ByteArray) (w : World) (h0 : s.size = 0) :
    Calls Tryz.prog 26 #[.string s] w fun e w' => e = .returned (.tuple #[.pointer none, .bool false]) ∧ Below w.heap.size w w' := by
  have e0 := str_nil h0
  have hb0 := Below.refl w.heap.size w
  go_enter Tryz.func26, Tryz.ntmps26
  go_wp2_with fail
  go_returns
  exact ⟨rfl, hb0⟩

set_option maxRecDepth 100000 in
set_option maxHeartbeats 2000000 in
theorem kdigits_nought (s : ByteArray) (w : World) (h0 : 1 < s.size) (h1 : s.size ≤ 1000000) (c48 : (s[0]'(by omega)).toNat = 48) :
    Calls Tryz.prog 26 #[.string s] w fun e w' => e = .returned (.tuple #[.pointer none, .bool false]) ∧ Below w.heap.size w w' := by
  have hp : 0 < s.size := by omega
  have e0 := str_cons hp
  have hb0 := Below.refl w.heap.size w
  have t1 : (((s[0]'hp).toNat : Int) == 48) = true := by rw [c48]; rfl
  have t2 : decide (1 < (s.size : Int)) = true := decide_eq_true (by omega)
  clear c48
  go_enter Tryz.func26, Tryz.ntmps26
  go_wp2_with fail
  go_returns
  exact ⟨rfl, hb0⟩

set_option maxRecDepth 100000 in
set_option maxHeartbeats 2000000 in
theorem kdigits_other (s : ByteArray) (w : World) (i0 : Nat) (h0 : i0 < s.size) (h1 : s.size ≤ 1000000) (hd : ∀ (i : Nat) (h : i < i0), 48 ≤ (s[i]'(by omega)).toNat ∧ (s[i]'(by omega)).toNat ≤ 57) (hbad : ¬ (48 ≤ (s[i0]'h0).toNat ∧ (s[i0]'h0).toNat ≤ 57)) (hh : (s[0]'(by omega)).toNat ≠ 48) :
    Calls Tryz.prog 26 #[.string s] w fun e w' => e = .returned (.tuple #[.pointer none, .bool false]) ∧ Below w.heap.size w w' := by
  have hz0 : 0 < s.size := by omega
  have e0 := str_cons hz0
  have hb0 := Below.refl w.heap.size w
  have t1 : (((s[0]'hz0).toNat : Int) == 48) = false := by rw [beq_eq_false_iff_ne]; omega
  clear hh
  go_enter Tryz.func26, Tryz.ntmps26
  go_wp2_with fail
  go_loopw [5] (fun _ w' => ∃ pos : Nat, w' = w.iter s pos ∧ pos ≤ i0) (fun _ w' => s.size - w'.iterPos w.heap.size)
  case atStart => exact ⟨0, rfl, by omega⟩
  case round =>
    obtain ⟨pos, rfl, hp0⟩ := hrel
    have hp : pos < s.size := by omega
    by_cases hlt : pos < i0
    · obtain ⟨ha, hz⟩ := hd pos hlt
      have hnx : ∀ ty, (Instr.next (.pointer (some ⟨w.heap.size, 0, none⟩)) true ty).run Tryz.prog (w.iter s pos) = _ := fun ty => run_next_ascii w s pos ty hp (by omega)
      generalize (s[pos]'hp).toNat = c at *
      have t3 : decide ((c : Int) < 48) = false := decide_eq_false (by omega)
      have t4 : decide ((57 : Int) < c) = false := decide_eq_false (by omega)
      go_wp2_with fail
      go_roundw
      case rel => exact ⟨pos + 1, rfl, by omega⟩
      case measure =>
        simp
        omega
    · obtain rfl : pos = i0 := by omega
      have hnx : ∀ ty, (Instr.next (.pointer (some ⟨w.heap.size, 0, none⟩)) true ty).run Tryz.prog (w.iter s pos) = _ := fun ty => run_next_any w s pos ty hp
      have hbi : ∀ q, Below w.heap.size w (w.iter s q) := fun q => hb0.alloc (Nat.le_refl _) (.stringIter s q)
      have hr : (Utf8.decode s pos).1 < 48 ∨ 57 < (Utf8.decode s pos).1 := by
        by_cases ha : (s[pos]'hp).toNat < 128
        · rw [decode_ascii s pos hp ha]; show (s[pos]'hp).toNat < 48 ∨ 57 < (s[pos]'hp).toNat; omega
        · have := (decode_high s pos hp (by omega)).1; omega
      have hle := decode_le s pos
      generalize (Utf8.decode s pos).1 = c at *
      generalize pos + (Utf8.decode s pos).2 = q at *
      clear hbad hd
      by_cases hc : c < 48
      · have t3 : decide ((c : Int) < 48) = true := decide_eq_true (by omega)
        go_wp2_with fail
        go_returns
        exact ⟨rfl, hbi q⟩
      · have t3 : decide ((c : Int) < 48) = false := decide_eq_false (by omega)
        have t4 : decide ((57 : Int) < c) = true := decide_eq_true (by omega)
        go_wp2_with fail
        go_returns
        exact ⟨rfl, hbi q⟩
end Go.Proofs.YtbhfnigblhfikaaGreat
