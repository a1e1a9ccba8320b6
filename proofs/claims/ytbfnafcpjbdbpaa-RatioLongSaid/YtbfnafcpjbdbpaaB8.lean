/- The reference's first functions. -/
import Derived.Test.YtbfnafcpjbdbpaaB5
import Derived.Lib.RabinKarpLaws

/- The walks over the reference's May, Sign, Neg. -/
namespace Go.Proofs.Ytbfnafcpjbdbpaa
open Go Go.RowKit Go.PlainAid Fil

theorem natB_len {s : ByteArray} (h : ¬ s.size ≤ 16384) : natB s = false := by
  unfold natB; rw [decide_eq_false h]; rfl
theorem natB_lead {s : ByteArray} (h0 : ¬ s.size = 0) (h : (bt s 0 == 0) = true) : natB s = false := by
  unfold natB; rw [h, decide_eq_false h0]; simp
theorem natB_yes {s : ByteArray} (h1 : s.size ≤ 16384) (h : (bt s 0 == 0) = false) : natB s = true := by
  unfold natB; rw [h, decide_eq_true h1]; simp
theorem mayB_nat {neg : Bool} {s : ByteArray} {e : Int} (h0 : ¬ s.size = 0) (h : natB s = false) : mayB neg s e = false := by
  unfold mayB; rw [if_neg h0, h]; rfl
theorem mayB_even {neg : Bool} {s : ByteArray} {e : Int} (h0 : ¬ s.size = 0) (h : (bt s (s.size - 1) % 2 == 1) = false) : mayB neg s e = false := by
  unfold mayB; rw [if_neg h0, h]; simp

set_option maxHeartbeats 2000000 in
theorem rmay_any (neg : Bool) (s : ByteArray) (e : Int) (w : World) (hs : s.size ≤ 9223372036854775807) :
    Calls Try.prog 59 #[.agg #[.bool neg, .string s, .int .i64 e]] w fun r w' => r = .returned (.bool (mayB neg s e)) ∧ Below w.heap.size w w' := by
  have hb0 := box_below w neg s e
  by_cases h0 : s.size = 0
  · have h1 := str_nil h0
    cases neg
    · by_cases he : e = 0
      · subst he
        have HB : Hid (mayB false s 0 = true) := Lib.hid (by simp [mayB, h0])
        clear h0
        go_enter Try.func59, Try.ntmps59
        go_wp2
        go_ret
        exact ⟨by rw [HB.out]; rfl, hb0⟩
      · have he' : (e == 0) = false := by simpa using he
        have HB : Hid (mayB false s e = false) := Lib.hid (by simp [mayB, h0, he'])
        clear h0 he'
        go_enter Try.func59, Try.ntmps59
        go_wp2
        go_ret
        exact ⟨by rw [HB.out]; rfl, hb0⟩
    · have HB : Hid (mayB true s e = false) := Lib.hid (by simp [mayB, h0])
      clear h0
      go_enter Try.func59, Try.ntmps59
      go_wp2
      go_ret
      exact ⟨by rw [HB.out]; rfl, hb0⟩
  · have h3 := str_cons (s := s) (by omega)
    have h4 : s.toList ≠ [] := by intro h; rw [h] at h3; cases h3
    have h5 : 0 < s.size := by omega
    have hix : 1 ≤ (s.size : Int) := by omega
    have hb := get_bt s
    have hle := bt_le s (s.size - 1)
    have hge := bt_nonneg s (s.size - 1)
    by_cases g1 : s.size ≤ 16384
    · have g1' : (s.size : Int) ≤ 16384 := by omega
      by_cases g2 : bt s 0 = 0
      · have HB : Hid (mayB neg s e = false) := Lib.hid (mayB_nat h0 (natB_lead h0 (by rw [g2]; rfl)))
        clear h0
        go_enter Try.func59, Try.ntmps59
        go_wp2
        go_ret
        exact ⟨by rw [HB.out]; rfl, hb0⟩
      · have Hn := Lib.hid (natB_yes g1 (beq_eq_false_iff_ne.2 g2))
        have g2' : (bt s 0 != 0) = true := by simp [g2]
        cases g3 : (bt s (s.size - 1) % 2 == 1)
        · have HB : Hid (mayB neg s e = false) := Lib.hid (mayB_even h0 g3)
          clear h0
          go_enter Try.func59, Try.ntmps59
          go_wp2
          go_ret
          exact ⟨by rw [HB.out]; rfl, hb0⟩
        · have g3' : bt s (s.size - 1) % 2 = 1 := by simpa using g3
          by_cases h7 : e < -1048576
          · have HB : Hid (mayB neg s e = false) := Lib.hid (mayB_low h0 h7)
            clear h0
            go_enter Try.func59, Try.ntmps59
            go_wp2
            go_ret
            exact ⟨by rw [HB.out]; rfl, hb0⟩
          · by_cases h8 : 1048576 < e
            · have HB : Hid (mayB neg s e = decide (e ≤ 1048576)) := Lib.hid (by rw [mayB_high h0 h8, decide_eq_false (by omega)])
              clear h0
              go_enter Try.func59, Try.ntmps59
              go_wp2
              go_ret
              exact ⟨by rw [HB.out]; rfl, hb0⟩
            · have HB : Hid (mayB neg s e = true) := Lib.hid (mayB_yes h0 Hn.out g3 (by omega) (by omega))
              clear h0
              go_enter Try.func59, Try.ntmps59
              go_wp2
              go_ret
              exact ⟨by rw [HB.out]; rfl, hb0⟩
    · have HB : Hid (mayB neg s e = false) := Lib.hid (mayB_nat h0 (natB_len g1))
      have g1' : (16384 : Int) < (s.size : Int) := by omega
      clear g1 h0
      go_enter Try.func59, Try.ntmps59
      go_wp2
      go_ret
      exact ⟨by rw [HB.out]; rfl, hb0⟩

end Go.Proofs.Ytbfnafcpjbdbpaa

/- The reference's numbers of any length: rows of the call's own; the walk over of. -/
namespace Go.Proofs.Ytbfnafcpjbdbpaa
open Go Go.RowKit Go.PlainAid Fil

theorem Try.info3 : (Try.prog.info? 3).map (fun i => (i.zero, i.size, i.bytes)) = some (some (.int .i64 0), 1, 8) := by kernel_rfl
/-- a row of whole numbers that the call has made -/
def Own (w : World) (B : Nat) (v : Value) (n : Nat) (f : Nat → Int) : Prop := w.ownsRow B 3 1 v n ((List.range n).map fun i => .int .i64 (f i))
theorem Own.nil (w : World) (B : Nat) (f : Nat → Int) : Own w B (.slice none 0 0) 0 f := World.ownsRow_nil _ _ _ _
theorem range_grow (n : Nat) (f : Nat → Int) : (List.range n).map (fun i => Value.int .i64 (f i)) ++ [.int .i64 (f n)] = (List.range (n + 1)).map fun i => Value.int .i64 (f i) := by
  rw [List.range_succ, List.map_append]; rfl

end Go.Proofs.Ytbfnafcpjbdbpaa

/- The walks over the reference's bits, Top. -/
namespace Go.Proofs.Ytbfnafcpjbdbpaa
open Go Go.RowKit Go.PlainAid Fil

/-- an owned row, as a slice that can be read -/
theorem Own.slc {w : World} {B : Nat} {v : Value} {n : Nat} {f : Nat → Int} (h : Own w B v n f) : ∃ A c, v = .slice A n c ∧ n ≤ c ∧ Slc w 3 A n (fun j => .int .i64 (f j)) := by
  rcases h.2 with ⟨rfl, rfl⟩ | ⟨g, cap, cur, rfl, _, hh, hc, _, hs, ht⟩
  · exact ⟨none, 0, rfl, Nat.le_refl _, Slc.nil _ _ _ _⟩
  · refine ⟨some ⟨g, 0, none⟩, cap, rfl, hc, fun _ => ⟨g, 0, cur, _, rfl, hh, fun j hj => ?_⟩⟩
    have h1 : (cur.toList.take (n * 1))[j]? = ((List.range n).map fun i => Value.int .i64 (f i))[j]? := by rw [ht]
    rw [List.getElem?_take_of_lt (by omega), List.getElem?_map, List.getElem?_range hj] at h1
    rw [Nat.zero_add, ← Array.getElem?_toList]
    exact h1
end Go.Proofs.Ytbfnafcpjbdbpaa

/- The walks over the reference's numbers of any length: cut, at, low. -/
namespace Go.Proofs.Ytbfnafcpjbdbpaa
open Go Go.RowKit Go.PlainAid Fil

/-- a digit to the base 256 as a value -/
def i8 (x j : Nat) : Value := .int .i64 (dg 8 x j)

end Go.Proofs.Ytbfnafcpjbdbpaa

/- The walks over the reference's numbers: halved, plus, minus, shifted. -/
namespace Go.Proofs.Ytbfnafcpjbdbpaa
open Go Go.RowKit Go.PlainAid Fil

theorem Own.congr {w : World} {B : Nat} {v : Value} {n : Nat} {f g : Nat → Int} (h : Own w B v n f) (e : ∀ i, i < n → f i = g i) : Own w B v n g := by
  unfold Own at *
  rw [show ((List.range n).map fun i => Value.int .i64 (g i)) = (List.range n).map fun i => Value.int .i64 (f i) from List.map_congr_left fun i hi => by rw [e i (List.mem_range.1 hi)]]
  exact h
end Go.Proofs.Ytbfnafcpjbdbpaa
