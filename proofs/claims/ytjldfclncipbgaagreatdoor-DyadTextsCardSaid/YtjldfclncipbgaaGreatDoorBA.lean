/- Merged: B8 B9 B7 BA -/
import Derived.Test.YtjldfclncipbgaaGreatDoorB5
import Derived.Lib.RabinKarpLaws
import Derived.Laws.FloatArith
import Derived.Laws.BitsAllLaws
import Derived.Test.YtjldfclncipbgaaGreatDoorB1

/- The reference's first functions. -/
/- The walks over the reference's May, Sign, Neg. -/
namespace Go.Proofs.YtjldfclncipbgaaGreatDoor
open Go Go.RowKit Go.PlainAid Fil

theorem natB_len {s : ByteArray} (h : ¬ s.size ≤ 16384) : natB s = false := by
  unfold natB; rw [decide_eq_false h]; rfl
theorem natB_lead {s : ByteArray} (h0 : ¬ s.size = 0) (h : (bt s 0 == 0) = true) : natB s = false := by
  unfold natB; rw [h, decide_eq_false h0]; simp
theorem natB_yes {s : ByteArray} (h1 : s.size ≤ 16384) (h : (bt s 0 == 0) = false) : natB s = true := by
  unfold natB; rw [h, decide_eq_true h1]; simp
theorem mayB_nat {neg : Bool} {s : ByteArray} {e : Int} (h0 : ¬ s.size = 0) (h : natB s = false) : mayB neg s e = false := by
  unfold mayB; rw [if_neg h0, h]; rfl
theorem mayB_even {neg : Bool} {s : ByteArray} {e : Int} (h0 : ¬ s.size = 0) (h : (bt s (s.size - 1) % 2 == 1) = false) : mayB neg s e = false := by
  unfold mayB; rw [if_neg h0, h]; simp

set_option maxHeartbeats 2000000 in
theorem rmay_any (neg : Bool) (s : ByteArray) (e : Int) (w : World) (hs : s.size ≤ 9223372036854775807) :
    Calls Tryz.prog 10 #[.agg #[.bool neg, .string s, .int .i64 e]] w fun r w' => r = .returned (.bool (mayB neg s e)) ∧ Below w.heap.size w w' := by
  have hb0 := box_below w neg s e
  by_cases h0 : s.size = 0
  · have h1 := str_nil h0
    cases neg
    · by_cases he : e = 0
      · subst he
        have HB : Hid (mayB false s 0 = true) := Lib.hid (by simp [mayB, h0])
        clear h0
        go_enter Tryz.func10, Tryz.ntmps10
        go_wp2
        go_ret
        exact ⟨by rw [HB.out]; rfl, hb0⟩
      · have he' : (e == 0) = false := by simpa using he
        have HB : Hid (mayB false s e = false) := Lib.hid (by simp [mayB, h0, he'])
        clear h0 he'
        go_enter Tryz.func10, Tryz.ntmps10
        go_wp2
        go_ret
        exact ⟨by rw [HB.out]; rfl, hb0⟩
    · have HB : Hid (mayB true s e = false) := Lib.hid (by simp [mayB, h0])
      clear h0
      go_enter Tryz.func10, Tryz.ntmps10
      go_wp2
      go_ret
      exact ⟨by rw [HB.out]; rfl, hb0⟩
  · have h3 := str_cons (s := s) (by omega)
    have h4 : s.toList ≠ [] := by intro h; rw [h] at h3; cases h3
    have h5 : 0 < s.size := by omega
    have hix : 1 ≤ (s.size : Int) := by omega
    have hb := get_bt s
    have hle := bt_le s (s.size - 1)
    have hge := bt_nonneg s (s.size - 1)
    by_cases g1 : s.size ≤ 16384
    · have g1' : (s.size : Int) ≤ 16384 := by omega
      by_cases g2 : bt s 0 = 0
      · have HB : Hid (mayB neg s e = false) := Lib.hid (mayB_nat h0 (natB_lead h0 (by rw [g2]; rfl)))
        clear h0
        go_enter Tryz.func10, Tryz.ntmps10
        go_wp2
        go_ret
        exact ⟨by rw [HB.out]; rfl, hb0⟩
      · have Hn := Lib.hid (natB_yes g1 (beq_eq_false_iff_ne.2 g2))
        have g2' : (bt s 0 != 0) = true := by simp [g2]
        cases g3 : (bt s (s.size - 1) % 2 == 1)
        · have HB : Hid (mayB neg s e = false) := Lib.hid (mayB_even h0 g3)
          clear h0
          go_enter Tryz.func10, Tryz.ntmps10
          go_wp2
          go_ret
          exact ⟨by rw [HB.out]; rfl, hb0⟩
        · have g3' : bt s (s.size - 1) % 2 = 1 := by simpa using g3
          by_cases h7 : e < -1048576
          · have HB : Hid (mayB neg s e = false) := Lib.hid (mayB_low h0 h7)
            clear h0
            go_enter Tryz.func10, Tryz.ntmps10
            go_wp2
            go_ret
            exact ⟨by rw [HB.out]; rfl, hb0⟩
          · by_cases h8 : 1048576 < e
            · have HB : Hid (mayB neg s e = decide (e ≤ 1048576)) := Lib.hid (by rw [mayB_high h0 h8, decide_eq_false (by omega)])
              clear h0
              go_enter Tryz.func10, Tryz.ntmps10
              go_wp2
              go_ret
              exact ⟨by rw [HB.out]; rfl, hb0⟩
            · have HB : Hid (mayB neg s e = true) := Lib.hid (mayB_yes h0 Hn.out g3 (by omega) (by omega))
              clear h0
              go_enter Tryz.func10, Tryz.ntmps10
              go_wp2
              go_ret
              exact ⟨by rw [HB.out]; rfl, hb0⟩
    · have HB : Hid (mayB neg s e = false) := Lib.hid (mayB_nat h0 (natB_len g1))
      have g1' : (16384 : Int) < (s.size : Int) := by omega
      clear g1 h0
      go_enter Tryz.func10, Tryz.ntmps10
      go_wp2
      go_ret
      exact ⟨by rw [HB.out]; rfl, hb0⟩

end Go.Proofs.YtjldfclncipbgaaGreatDoor

/- The reference's numbers of any length: rows of the call's own; the walk over of. -/
namespace Go.Proofs.YtjldfclncipbgaaGreatDoor
open Go Go.RowKit Go.PlainAid Fil

theorem Tryz.info3 : (Tryz.prog.info? 3).map (fun i => (i.zero, i.size, i.bytes)) = some (some (.int .i64 0), 1, 8) := by kernel_rfl
/-- a row of whole numbers that the call has made -/
def Own (w : World) (B : Nat) (v : Value) (n : Nat) (f : Nat → Int) : Prop := w.ownsRow B 3 1 v n ((List.range n).map fun i => .int .i64 (f i))
theorem Own.nil (w : World) (B : Nat) (f : Nat → Int) : Own w B (.slice none 0 0) 0 f := World.ownsRow_nil _ _ _ _
theorem range_grow (n : Nat) (f : Nat → Int) : (List.range n).map (fun i => Value.int .i64 (f i)) ++ [.int .i64 (f n)] = (List.range (n + 1)).map fun i => Value.int .i64 (f i) := by
  rw [List.range_succ, List.map_append]; rfl

end Go.Proofs.YtjldfclncipbgaaGreatDoor

/- The walks over the reference's bits, Top. -/
namespace Go.Proofs.YtjldfclncipbgaaGreatDoor
open Go Go.RowKit Go.PlainAid Fil

/-- an owned row, as a slice that can be read -/
theorem Own.slc {w : World} {B : Nat} {v : Value} {n : Nat} {f : Nat → Int} (h : Own w B v n f) : ∃ A c, v = .slice A n c ∧ n ≤ c ∧ Slc w 3 A n (fun j => .int .i64 (f j)) := by
  rcases h.2 with ⟨rfl, rfl⟩ | ⟨g, cap, cur, rfl, _, hh, hc, _, hs, ht⟩
  · exact ⟨none, 0, rfl, Nat.le_refl _, Slc.nil _ _ _ _⟩
  · refine ⟨some ⟨g, 0, none⟩, cap, rfl, hc, fun _ => ⟨g, 0, cur, _, rfl, hh, fun j hj => ?_⟩⟩
    have h1 : (cur.toList.take (n * 1))[j]? = ((List.range n).map fun i => Value.int .i64 (f i))[j]? := by rw [ht]
    rw [List.getElem?_take_of_lt (by omega), List.getElem?_map, List.getElem?_range hj] at h1
    rw [Nat.zero_add, ← Array.getElem?_toList]
    exact h1
end Go.Proofs.YtjldfclncipbgaaGreatDoor

/- The walks over the reference's numbers of any length: cut, at, low. -/
namespace Go.Proofs.YtjldfclncipbgaaGreatDoor
open Go Go.RowKit Go.PlainAid Fil

/-- a digit to the base 256 as a value -/
def i8 (x j : Nat) : Value := .int .i64 (dg 8 x j)

end Go.Proofs.YtjldfclncipbgaaGreatDoor

/- The walks over the reference's numbers: halved, plus, minus, shifted. -/
namespace Go.Proofs.YtjldfclncipbgaaGreatDoor
open Go Go.RowKit Go.PlainAid Fil

theorem Own.congr {w : World} {B : Nat} {v : Value} {n : Nat} {f g : Nat → Int} (h : Own w B v n f) (e : ∀ i, i < n → f i = g i) : Own w B v n g := by
  unfold Own at *
  rw [show ((List.range n).map fun i => Value.int .i64 (g i)) = (List.range n).map fun i => Value.int .i64 (f i) from List.map_congr_left fun i hi => by rw [e i (List.mem_range.1 hi)]]
  exact h
theorem own_grow {n : Nat} {f g : Nat → Int} {t : Int} (e : ∀ i, i < n → f i = g i) (ht : t = g n) : (List.range n).map (fun i => Value.int .i64 (f i)) ++ [.int .i64 t] = (List.range (n + 1)).map fun i => Value.int .i64 (g i) := by
  rw [List.range_succ, List.map_append, ht, List.map_congr_left fun i hi => by rw [e i (List.mem_range.1 hi)]]; rfl

end Go.Proofs.YtjldfclncipbgaaGreatDoor

/- The reference's plus, minus, shifted, cmp, times, fit. -/
/- The walks over the reference's numbers: plus, minus. -/
namespace Go.Proofs.YtjldfclncipbgaaGreatDoor
open Go Go.RowKit Go.PlainAid Fil

end Go.Proofs.YtjldfclncipbgaaGreatDoor

/- The walks over the reference's numbers: shifted, cmp. -/
namespace Go.Proofs.YtjldfclncipbgaaGreatDoor
open Go Go.RowKit Go.PlainAid Fil

theorem Own.made (w : World) (q : Nat) (hq : q ≤ maxLen) : Own (w.alloc (.cells (madeCells #[.int .i64 0] q) 3)) w.heap.size (.slice (some ⟨w.heap.size, 0, none⟩) q q) q (fun _ => 0) := by
  refine ⟨by simp, .inr ⟨w.heap.size, q, _, rfl, Nat.le_refl _, heap_alloc_new w _, Nat.le_refl _, hq, by rw [size_madeCells]; simp, ?_⟩⟩
  apply List.ext_getElem?
  intro i
  by_cases hi : i < q
  · rw [List.getElem?_take_of_lt (by omega), List.getElem?_map, List.getElem?_range hi, Array.getElem?_toList]
    simp [madeCells, hi, Nat.mod_one]
  · rw [List.getElem?_take_eq_none (by omega)]
    simp [hi]

end Go.Proofs.YtjldfclncipbgaaGreatDoor

/- The walk over the reference's numbers: times. -/
namespace Go.Proofs.YtjldfclncipbgaaGreatDoor
open Go Go.RowKit Go.PlainAid Fil

end Go.Proofs.YtjldfclncipbgaaGreatDoor

/- The walk over the reference's fit. -/
namespace Go.Proofs.YtjldfclncipbgaaGreatDoor
open Go Go.RowKit Go.PlainAid Fil

theorem by_row8 {y p i k j : Nat} {v : Value} (hk : k = p - 1 - i) (hi : i < p) (hj : j < p) (hv : v = b8 y i) : (if j = k then v else if p - i ≤ j then b8 y (p - 1 - j) else Value.int IntKind.u8 0) = if p - (i + 1) ≤ j then b8 y (p - 1 - j) else Value.int IntKind.u8 0 := by
  by_cases e : j = k
  · rw [if_pos e, if_pos (by omega), show p - 1 - j = i by omega, hv]
  · rw [if_neg e]
    by_cases h : p - i ≤ j
    · rw [if_pos h, if_pos (by omega)]
    · rw [if_neg h, if_neg (by omega)]
end Go.Proofs.YtjldfclncipbgaaGreatDoor

/- The walks of math's functions, of filigreelaw03.awake. -/
/- The walks over math.IsNaN, Abs, IsInf, normalize, Ldexp at a positive float that is neither subnormal nor infinite. -/
namespace Go.Proofs.YtjldfclncipbgaaGreatDoor
open Go Go.RowKit Go.PlainAid Fil

theorem run_f64bits (b : Nat) (w : World) : (callFunc 128 #[.float .f64 b]).run Tryz.prog w = .ok (.value (.int .u64 b)) w := by
  rw [run_callFunc_extern (e := Extern.MathFloatBits.float64bits) Tryz.func128 (by kernel_rfl) (by kernel_rfl) (by kernel_rfl) (by kernel_rfl)]
  rfl
theorem run_f64from (n : Int) (w : World) : (callFunc 127 #[.int .u64 n]).run Tryz.prog w = .ok (.value (.float .f64 n.toNat)) w := by
  rw [run_callFunc_extern (e := Extern.MathFloatBits.float64frombits) Tryz.func127 (by kernel_rfl) (by kernel_rfl) (by kernel_rfl) (by kernel_rfl)]
  rfl

set_option maxHeartbeats 1000000 in
theorem isnan_any (b : Nat) (w : World) : Calls Tryz.prog 145 #[.float .f64 b] w fun r w' => r = .returned (.bool (FloatKind.f64.format.order b b != some .eq)) ∧ w = w' := by
  go_enter Tryz.func145, Tryz.ntmps145
  go_wp2
  go_ret
  exact ⟨rfl, rfl⟩
/-- a float's bits without the sign -/
def magB (b : Nat) : Nat := b % 9223372036854775808
theorem magB_bits (b : Nat) (h : b < 18446744073709551616) : bits BinOp.andNot IntKind.u64 (b : Int) 9223372036854775808 = ((magB b : Nat) : Int) := by
  have h1 := u64_andNot_nat b 9223372036854775808 h (by omega)
  rw [show ((9223372036854775808 : Nat) : Int) = 9223372036854775808 from rfl] at h1
  rw [h1, show 18446744073709551615 - 9223372036854775808 = 2 ^ 63 - 1 by rfl, Nat.and_two_pow_sub_one_eq_mod]
  rfl
set_option maxRecDepth 20000 in
set_option maxHeartbeats 1000000 in
theorem mabs_any (b : Nat) (w : World) (h : b < 18446744073709551616) : Calls Tryz.prog 152 #[.float .f64 b] w fun r w' => r = .returned (.float .f64 (magB b)) ∧ w = w' := by
  have h1 := run_f64bits
  have h2 := run_f64from
  have h3 := magB_bits b h
  clear h
  go_enter Tryz.func152, Tryz.ntmps152
  go_wp2
  go_ret
  exact ⟨rfl, rfl⟩

set_option maxRecDepth 20000 in
set_option maxHeartbeats 1000000 in
/-- IsInf(x, 0) -/
theorem isinf_any (b : Nat) (w : World) (h : b < 18446744073709551616) : Calls Tryz.prog 144 #[.float .f64 b, .int .i64 0] w fun r w' => r = .returned (.bool (FloatKind.f64.format.order (magB b) 9218868437227405311 == some .gt)) ∧ w = w' := by
  have hm := fun W => mabs_any b W h
  clear h
  go_enter Tryz.func144, Tryz.ntmps144
  go_wp2_with (go_at_call 152; go_must (refine (hm _).mono ?_); rintro r w1 ⟨rfl, rfl⟩)
  go_ret
  exact ⟨rfl, rfl⟩

set_option maxRecDepth 20000 in
set_option maxHeartbeats 1000000 in
/-- normalize, where there is nothing to do -/
theorem normal_any (b : Nat) (w : World) (h : b < 18446744073709551616) (hn : (FloatKind.f64.format.order (magB b) 4503599627370496 == some .lt) = false) : Calls Tryz.prog 146 #[.float .f64 b] w fun r w' => r = .returned (.tuple #[.float .f64 b, .int .i64 0]) ∧ w = w' := by
  have hm := fun W => mabs_any b W h
  clear h
  go_enter Tryz.func146, Tryz.ntmps146
  go_wp2_with (go_at_call 152; go_must (refine (hm _).mono ?_); rintro r w1 ⟨rfl, rfl⟩)
  go_returns
  exact ⟨rfl, rfl⟩

theorem exp_bits (E : Nat) (hE : E < 2048) : bits BinOp.and IntKind.i64 (E : Int) 2047 = (E : Int) := by
  have hx : E &&& 2047 = E := by rw [show 2047 = 2 ^ 11 - 1 by rfl, Nat.and_two_pow_sub_one_eq_mod, Nat.mod_eq_of_lt hE]
  show IntKind.i64.wrap ((BitVec.ofInt 64 (E : Int) &&& BitVec.ofInt 64 2047).toNat : Int) = _
  have h2 : (BitVec.ofInt 64 (E : Int) &&& BitVec.ofInt 64 2047).toNat = E := by
    rw [BitVec.toNat_and, BitVec.ofInt_natCast, BitVec.toNat_ofNat, Nat.mod_eq_of_lt (by omega)]
    exact hx
  rw [h2]
  rw [IntKind.wrap_i64]
  omega
theorem frac_bits (E F x : Nat) (hx : x = E * 4503599627370496 + F) (hE : E < 2048) (hF : F < 4503599627370496) : bits BinOp.andNot IntKind.u64 (x : Int) 9218868437227405312 = (F : Int) := by
  have h1 := u64_andNot_nat x 9218868437227405312 (by omega) (by omega)
  rw [show ((9218868437227405312 : Nat) : Int) = 9218868437227405312 from rfl] at h1
  have h2 : x &&& 2 ^ 63 = 0 := by
    apply Nat.eq_of_testBit_eq
    intro i
    rw [Nat.testBit_and, Nat.testBit_two_pow, Nat.zero_testBit]
    by_cases h : 63 = i
    · subst h; rw [Nat.testBit_lt_two_pow (by omega)]; rfl
    · rw [decide_eq_false h, Bool.and_false]
  rw [h1, show 18446744073709551615 - 9218868437227405312 = 2 ^ 63 ||| (2 ^ 52 - 1) by rfl, Nat.and_or_distrib_left, h2, Nat.and_two_pow_sub_one_eq_mod, Nat.zero_or]
  congr 1
  omega
theorem pack_bits (K F : Nat) (hK : K < 2048) (hF : F < 4503599627370496) : bits BinOp.or IntKind.u64 (F : Int) ((K : Int) * 4503599627370496) = ((K * 4503599627370496 + F : Nat) : Int) := by
  have h1 := u64_or_nat F (K * 4503599627370496) (by omega) (by omega)
  rw [show ((K * 4503599627370496 : Nat) : Int) = (K : Int) * 4503599627370496 from Int.natCast_mul _ _] at h1
  rw [h1]
  have := or_add' (s := 52) (a := K) (b := F) hF
  rw [show 2 ^ 52 = 4503599627370496 by rfl] at this
  rw [this, Nat.add_comm]

set_option maxRecDepth 20000 in
set_option maxHeartbeats 2000000 in
theorem ldexp_norm (E F K : Nat) (e k : Int) (x y z : Nat) (w : World) (hx : x = E * 4503599627370496 + F) (hE : E < 2047) (hF : F < 4503599627370496)
    (o0 : (FloatKind.f64.format.order x 0 == some .eq) = false) (o1 : (FloatKind.f64.format.order (magB x) 9218868437227405311 == some .gt) = false) (o2 : (FloatKind.f64.format.order x x != some .eq) = false)
    (o3 : (FloatKind.f64.format.order (magB x) 4503599627370496 == some .lt) = false) (he1 : -5000 ≤ e) (he2 : e ≤ 5000) (hk : k = e + E - 1023) (hk1 : -1022 ≤ k) (hk2 : k ≤ 1023)
    (hK : K = k + 1023) (hy : y = K * 4503599627370496 + F) (hz : floatBits .mul .f64 4607182418800017408 y = some z) :
    Calls Tryz.prog 126 #[.float .f64 x, .int .i64 e] w fun r w' => r = .returned (.float .f64 z) ∧ w = w' := by
  have hxb : x < 18446744073709551616 := by omega
  have hi := fun W => isinf_any x W hxb
  have hn := fun W => isnan_any x W
  have hm := fun W => normal_any x W hxb o3
  rw [o1] at hi
  rw [o2] at hn
  have h1 := run_f64bits
  have h2 := run_f64from
  have hE0 : 0 ≤ (E : Int) := by omega
  have hE1 : (E : Int) < 2047 := by omega
  have hd : (x : Int) / 4503599627370496 = (E : Int) := by omega
  have ha := exp_bits E (by omega)
  have hf := frac_bits E F x hx (by omega) hF
  have hp := pack_bits K F (by omega) hF
  have hk' : e + ((E : Int) - 1023) = k := by omega
  have hK' : k + 1023 = (K : Int) := by omega
  have hK0 : 0 ≤ (K : Int) := by omega
  have hK1 : (K : Int) < 2047 := by omega
  have ht : ((K * 4503599627370496 + F : Nat) : Int).toNat = y := by rw [hy]; exact Int.toNat_natCast _
  have hmul := fun W => run_float_arith (P := Tryz.prog) W .mul 72 .f64 4607182418800017408 y z hz
  rw [← hy] at hp
  have Hx := Lib.hid (And.intro hx (And.intro hF (And.intro hE (And.intro hK hy))))
  clear hx hxb o1 o2 o3 hF hE hk hy hz hK ht
  go_enter Tryz.func126, Tryz.ntmps126
  go_wp2_with (first
    | (go_at_call 144; go_must (refine (hi _).mono ?_); rintro r w1 ⟨rfl, rfl⟩)
    | (go_at_call 145; go_must (refine (hn _).mono ?_); rintro r w1 ⟨rfl, rfl⟩)
    | (go_at_call 146; go_must (refine (hm _).mono ?_); rintro r w1 ⟨rfl, rfl⟩))
  go_ret
  exact ⟨rfl, rfl⟩
end Go.Proofs.YtjldfclncipbgaaGreatDoor

/- The walk over dyad.Near at the number 3 (awake). -/
namespace Go.Proofs.YtjldfclncipbgaaGreatDoor
open Go Go.RowKit Go.PlainAid Fil

set_option maxHeartbeats 1000000 in
theorem ldexp_three (w : World) : Calls Tryz.prog 96 #[.float .f64 4843621399236968448, .int .i64 (-51)] w fun r w' => r = .returned (.float .f64 4613937818241073152) ∧ w = w' := by
  have h := fun W => ldexp_norm 1075 2251799813685248 1024 (-51) 1 4843621399236968448 4613937818241073152 4613937818241073152 W (by omega) (by omega) (by omega) (by kernel_rfl) (by kernel_rfl) (by kernel_rfl) (by kernel_rfl) (by omega) (by omega) (by omega) (by omega) (by omega) (by omega) (by omega) (by kernel_rfl)
  go_enter Tryz.func96, Tryz.ntmps96
  go_wp2_with (go_at_call 126; go_must (refine (h _).mono ?_); rintro r w1 ⟨rfl, rfl⟩)
  go_ret
  exact ⟨rfl, rfl⟩

theorem ok_three : okD false 3 0 := .inr ⟨by decide, by rw [dn8_bl]; decide, by omega, by omega⟩

set_option maxHeartbeats 2000000 in
theorem near_three (w : World) : Calls Tryz.prog 35 #[.agg #[.bool false, .string (bstr 3), .int .i64 0]] w fun r w' => r = .returned (.tuple #[.float .f64 4613937818241073152, .int .i64 0]) ∧ Below w.heap.size w w' := by
  have hround : ∀ W : World, Calls Tryz.prog 60 #[.agg #[.bool false, .string (bstr 3), .int .i64 0], .func (.func 61) #[] #[]] W fun r w' => r = .returned (.tuple #[.float .f64 4613937818241073152, .int .i64 0]) ∧ Below W.heap.size W w' := by
    intro W
    have hc := fun V => check_any false (bstr 3) 0 V (bstr_len ok_three)
    rw [mayB_ok ok_three, okE_t] at hc
    have ht := fun V => dtop_ok false 3 0 V ok_three
    rw [show topZ 3 0 = 1 from rfl, show decide (3 ≠ 0) = true from rfl] at ht
    have hcut := fun V => dcut_exact false 3 0 1 (-51) 51 V ok_three (by omega) (by omega) (by decide) (by omega) (by omega)
    rw [show ((3 * 2 ^ 51 : Nat) : Int) = 6755399441055744 from rfl] at hcut
    have hfl : floatOfInt .f64 6755399441055744 = 4843621399236968448 := by kernel_rfl
    have cc := fun (w1 : World) hb => box_cells W false (bstr 3) 0 (w' := w1) hb
    go_enter Tryz.func60, Tryz.ntmps60
    go_wp2_with fail
    refine (hc _).mono ?_
    rintro r w1 ⟨rfl, hb1⟩
    have hB1 : Below W.heap.size W w1 := ((Below.refl _ _).alloc (Nat.le_refl _) _).trans (hb1.mono (by simp))
    have hs1 := hb1.size
    obtain ⟨c0, c1, c2⟩ := cc _ hb1
    go_wp2_with fail
    refine (ht _).mono ?_
    rintro r w2 ⟨rfl, hb2⟩
    have hb2' := hb1.trans (hb2.mono hs1)
    have hs2 := hb2'.size
    have hB2 : Below W.heap.size W w2 := hB1.trans (hb2.mono hB1.size)
    clear c0 c1 c2 hb1 hb2 hB1 hs1
    obtain ⟨c0, c1, c2⟩ := cc _ hb2'
    go_wp2_with fail
    refine (hcut _).mono ?_
    rintro r w3 ⟨rfl, hb3⟩
    have hb3' := hb2'.trans (hb3.mono hs2)
    have hB3 : Below W.heap.size W w3 := hB2.trans (hb3.mono hB2.size)
    clear c0 c1 c2 hb2' hb3 hB2 hs2
    obtain ⟨c0, c1, c2⟩ := cc _ hb3'
    clear hb3' cc hc ht hcut
    go_wp2_with (go_at_call 96; go_must (refine (ldexp_three _).mono ?_); rintro r w4 ⟨rfl, rfl⟩)
    go_returns
    exact ⟨rfl, hB3⟩
  go_enter Tryz.func35, Tryz.ntmps35
  go_wp2_with fail
  refine (hround _).mono ?_
  rintro r w1 ⟨rfl, hb1⟩
  have hB1 : Below w.heap.size w w1 := ((Below.refl _ _).alloc (Nat.le_refl _) _).trans (hb1.mono (by simp))
  go_wp2
  go_returns
  exact ⟨rfl, hB1⟩
end Go.Proofs.YtjldfclncipbgaaGreatDoor

/- The walk over filigreelaw03.awake: it answers true. -/
namespace Go.Proofs.YtjldfclncipbgaaGreatDoor
open Go Go.RowKit Go.PlainAid Fil

theorem bstr_three : bstr 3 = { data := #[3] } := by
  apply ByteArray.ext
  apply Array.ext'
  show bs 3 = [3]
  unfold bs
  rw [show Fil.dn 8 3 = 1 by rw [dn8_bl]; decide]
  rfl
theorem mk_12 : mkV 12 (-3) = dyR false 3 (-1) 0 := by
  have h := mkV_shl 3 2 (-3)
  rw [show (3 : Int) * 2 ^ 2 = 12 by decide, show (-3 : Int) + ((2 : Nat) : Int) = -1 by decide] at h
  rw [h]
  exact mkV_id (neg := false) (x := 3) (e := -1) (.inr ⟨by decide, by rw [dn8_bl]; decide, by omega, by omega⟩)
theorem ok_32 : okD false 3 (-1) := .inr ⟨by decide, by rw [dn8_bl]; decide, by omega, by omega⟩
theorem mk_6 : mkV (addZ (sz false 3) (-1) (sz false 3) (-1)) (min (-1) (-1)) = dyR false 3 0 0 := by
  have h := mkV_shl 3 1 (-1)
  rw [show (-1 : Int) + ((1 : Nat) : Int) = 0 by decide] at h
  rw [show addZ (sz false 3) (-1) (sz false 3) (-1) = 3 * 2 ^ 1 by decide, show min (-1 : Int) (-1) = -1 by decide, h]
  exact mkV_id (neg := false) (x := 3) (e := 0) ok_three

set_option maxHeartbeats 2000000 in
theorem awake_any (w : World) (hT : Tab w) : Calls Tryz.prog 11 #[] w fun r w' => r = .returned (.bool true) ∧ Below w.heap.size w w' := by
  have ho : ∀ W : World, Tab W → Calls Tryz.prog 33 #[.int .i64 12, .int .i64 (-3)] W fun r w' => r = .returned (.tuple #[.agg #[.bool false, .string { data := #[3] }, .int .i64 (-1)], .int .i64 0]) ∧ Below W.heap.size W w' := by
    intro W hW
    have h := dof_any 12 (-3) W hW (by omega) (by omega) (by omega) (by omega)
    rw [mk_12] at h
    unfold dyR at h
    rw [bstr_three] at h
    exact h
  have ha : ∀ W : World, Tab W → Calls Tryz.prog 34 #[.agg #[.bool false, .string { data := #[3] }, .int .i64 (-1)], .agg #[.bool false, .string { data := #[3] }, .int .i64 (-1)]] W fun r w' => r = .returned (.tuple #[.agg #[.bool false, .string { data := #[3] }, .int .i64 0], .int .i64 0]) ∧ Below W.heap.size W w' := by
    intro W hW
    have h := dadd_ok false 3 (-1) false 3 (-1) W ok_32 ok_32 hW
    rw [mk_6] at h
    unfold dyR at h
    rw [bstr_three] at h
    exact h
  have hn : ∀ W : World, Calls Tryz.prog 35 #[.agg #[.bool false, .string { data := #[3] }, .int .i64 0]] W fun r w' => r = .returned (.tuple #[.float .f64 4613937818241073152, .int .i64 0]) ∧ Below W.heap.size W w' := by
    intro W
    have h := near_three W
    rw [bstr_three] at h
    exact h
  have cc := fun (W w1 : World) hb => box_cells W false { data := #[3] } (-1) (w' := w1) hb
  have o1 : (FloatKind.f64.format.order 4613937818241073152 4613937818241073152 == some .eq) = true := by kernel_rfl
  go_enter Tryz.func11, Tryz.ntmps11
  go_wp2_with fail
  refine (ho _ hT).mono ?_
  rintro r w1 ⟨rfl, hb1⟩
  have hT1 := hT.below hb1
  go_wp2_with fail
  refine (ha _ (hT1.alloc _)).mono ?_
  rintro r w2 ⟨rfl, hb2⟩
  have hs2 := hb2.size
  go_wp2_with fail
  refine (hn _).mono ?_
  rintro r w3 ⟨rfl, hb3⟩
  have hb4 := hb2.trans ((Below.refl _ _).alloc hs2 (Obj.cells #[Value.bool false, Value.string { data := #[3] }, Value.int IntKind.i64 0] 24))
  have hb5 := hb4.trans (hb3.mono hb4.size)
  obtain ⟨c0, c1, c2⟩ := cc _ _ hb5
  have hB : Below w.heap.size w w3 := hb1.trans ((((Below.refl w1.heap.size w1).alloc (Nat.le_refl _) _).trans (hb5.mono (by simp))).mono hb1.size)
  clear hb1 hb2 hb3 hb4 hb5 cc hn ha ho hT hT1 hs2
  go_wp2
  go_ret
  exact ⟨rfl, hB⟩
end Go.Proofs.YtjldfclncipbgaaGreatDoor

/- The walks over math.Ldexp at whole numbers up to 2^53, where the answer is a float or the infinity. -/
namespace Go.Proofs.YtjldfclncipbgaaGreatDoor
open Go Go.RowKit Go.PlainAid Fil

end Go.Proofs.YtjldfclncipbgaaGreatDoor

/- The walks over math.Copysign, the reference's packed and signed, filigreelaw03.bits. -/
namespace Go.Proofs.YtjldfclncipbgaaGreatDoor
open Go Go.RowKit Go.PlainAid Fil

end Go.Proofs.YtjldfclncipbgaaGreatDoor

/- Shift and Floor, both. -/
/- The walks over dyad.Shift and the reference's. -/
namespace Go.Proofs.YtjldfclncipbgaaGreatDoor
open Go Go.RowKit Go.PlainAid Fil

theorem okD.nil {neg : Bool} {e : Int} (h : okD neg 0 e) : neg = false ∧ e = 0 := by
  rcases h with ⟨_, h1, h2⟩ | h
  · exact ⟨h1, h2⟩
  · omega
end Go.Proofs.YtjldfclncipbgaaGreatDoor

/- The walks over dyad.Floor and the reference's. -/
namespace Go.Proofs.YtjldfclncipbgaaGreatDoor
open Go Go.RowKit Go.PlainAid Fil

end Go.Proofs.YtjldfclncipbgaaGreatDoor

/- The walk over the reference's Floor. -/
namespace Go.Proofs.YtjldfclncipbgaaGreatDoor
open Go Go.RowKit Go.PlainAid Fil

theorem DyAt.put (w : World) (neg : Bool) (s : ByteArray) (e : Int) : DyAt (w.alloc (.cells #[.bool neg, .string s, .int .i64 e] 24)) w.heap.size neg s e := DyAt.new w _ neg s e rfl (Below.refl _ _)
theorem DyAt.lt {w : World} {b : Nat} {neg : Bool} {s : ByteArray} {e : Int} (h : DyAt w b neg s e) : b < w.heap.size := World.block_lt_of_cell? _ _ h.c0
theorem DyAt.keep {w w' : World} {b : Nat} {neg : Bool} {s : ByteArray} {e : Int} (h : DyAt w b neg s e) (hb : Below w.heap.size w w') : DyAt w' b neg s e := h.below hb h.lt
theorem DyAt.allocd {w : World} {b : Nat} {neg : Bool} {s : ByteArray} {e : Int} (h : DyAt w b neg s e) (o : Obj) : DyAt (w.alloc o) b neg s e := h.keep ((Below.refl _ _).alloc (Nat.le_refl _) _)
end Go.Proofs.YtjldfclncipbgaaGreatDoor
