/- The reference's first functions. -/
import Derived.Test.YtbhfnigblhfikaaGreatB5
import Derived.Lib.RabinKarpLaws

/- The walks over the reference's May, Sign, Neg. -/
namespace Go.Proofs.YtbhfnigblhfikaaGreat
open Go Go.RowKit Go.PlainAid Fil

theorem natB_len {s : ByteArray} (h : ¬ s.size ≤ 16384) : natB s = false := by
  unfold natB; rw [decide_eq_false h]; rfl
theorem natB_lead {s : ByteArray} (h0 : ¬ s.size = 0) (h : (bt s 0 == 0) = true) : natB s = false := by
  unfold natB; rw [h, decide_eq_false h0]; simp
theorem natB_yes {s : ByteArray} (h1 : s.size ≤ 16384) (h : (bt s 0 == 0) = false) : natB s = true := by
  unfold natB; rw [h, decide_eq_true h1]; simp
theorem mayB_nat {neg : Bool} {s : ByteArray} {e : Int} (h0 : ¬ s.size = 0) (h : natB s = false) : mayB neg s e = false := by
  unfold mayB; rw [if_neg h0, h]; rfl
theorem mayB_even {neg : Bool} {s : ByteArray} {e : Int} (h0 : ¬ s.size = 0) (h : (bt s (s.size - 1) % 2 == 1) = false) : mayB neg s e = false := by
  unfold mayB; rw [if_neg h0, h]; simp

end Go.Proofs.YtbhfnigblhfikaaGreat

/- The reference's numbers of any length: rows of the call's own; the walk over of. -/
namespace Go.Proofs.YtbhfnigblhfikaaGreat
open Go Go.RowKit Go.PlainAid Fil

theorem Tryz.info3 : (Tryz.prog.info? 3).map (fun i => (i.zero, i.size, i.bytes)) = some (some (.int .i64 0), 1, 8) := by kernel_rfl
/-- a row of whole numbers that the call has made -/
def Own (w : World) (B : Nat) (v : Value) (n : Nat) (f : Nat → Int) : Prop := w.ownsRow B 3 1 v n ((List.range n).map fun i => .int .i64 (f i))
theorem Own.nil (w : World) (B : Nat) (f : Nat → Int) : Own w B (.slice none 0 0) 0 f := World.ownsRow_nil _ _ _ _
theorem range_grow (n : Nat) (f : Nat → Int) : (List.range n).map (fun i => Value.int .i64 (f i)) ++ [.int .i64 (f n)] = (List.range (n + 1)).map fun i => Value.int .i64 (f i) := by
  rw [List.range_succ, List.map_append]; rfl

end Go.Proofs.YtbhfnigblhfikaaGreat

/- The walks over the reference's bits, Top. -/
namespace Go.Proofs.YtbhfnigblhfikaaGreat
open Go Go.RowKit Go.PlainAid Fil

/-- an owned row, as a slice that can be read -/
theorem Own.slc {w : World} {B : Nat} {v : Value} {n : Nat} {f : Nat → Int} (h : Own w B v n f) : ∃ A c, v = .slice A n c ∧ n ≤ c ∧ Slc w 3 A n (fun j => .int .i64 (f j)) := by
  rcases h.2 with ⟨rfl, rfl⟩ | ⟨g, cap, cur, rfl, _, hh, hc, _, hs, ht⟩
  · exact ⟨none, 0, rfl, Nat.le_refl _, Slc.nil _ _ _ _⟩
  · refine ⟨some ⟨g, 0, none⟩, cap, rfl, hc, fun _ => ⟨g, 0, cur, _, rfl, hh, fun j hj => ?_⟩⟩
    have h1 : (cur.toList.take (n * 1))[j]? = ((List.range n).map fun i => Value.int .i64 (f i))[j]? := by rw [ht]
    rw [List.getElem?_take_of_lt (by omega), List.getElem?_map, List.getElem?_range hj] at h1
    rw [Nat.zero_add, ← Array.getElem?_toList]
    exact h1
theorem bl_half {y : Nat} (h : y ≠ 0) : bl (y / 2) + 1 = bl y := by
  rcases Nat.lt_or_ge y 2 with h1 | h1
  · have : y = 1 := by omega
    subst this; decide
  · have h2 := bl_shift (x := y / 2) (k := 1) (by omega)
    have h3 : y / 2 ≠ 0 := by omega
    have h4 := le_bl h
    have h5 := lt_bl (y / 2)
    have h6 := lt_bl y
    have h7 := le_bl h3
    apply Nat.le_antisymm
    · apply Nat.le_of_not_lt; intro hc
      have : y < 2 ^ (bl (y / 2) - 1 + 1) := Nat.lt_of_lt_of_le h6 (pmono (by omega))
      rw [Nat.pow_succ] at this; omega
    · apply bl_le
      rw [Nat.pow_succ]; omega

end Go.Proofs.YtbhfnigblhfikaaGreat

/- The walks over the reference's numbers of any length: cut, at, low. -/
namespace Go.Proofs.YtbhfnigblhfikaaGreat
open Go Go.RowKit Go.PlainAid Fil

/-- a digit to the base 256 as a value -/
def i8 (x j : Nat) : Value := .int .i64 (dg 8 x j)

/-- a bit by its digit -/
theorem bit_at (x j : Nat) : dg 8 x (j / 8) / 2 ^ (j % 8) % 2 = x / 2 ^ j % 2 := by
  have h1 : (2 : Nat) ^ 8 = 2 ^ (j % 8) * 2 ^ (8 - j % 8) := by rw [← Nat.pow_add]; congr 1; omega
  have h2 : (2 : Nat) ∣ 2 ^ (8 - j % 8) := by
    rw [show 8 - j % 8 = (8 - j % 8 - 1) + 1 by omega, Nat.pow_succ]; exact Nat.dvd_mul_left _ _
  unfold dg
  rw [h1, Nat.mod_mul_right_div_self, Nat.mod_mod_of_dvd _ h2, Nat.div_div_eq_div_mul, ← Nat.pow_add]
  congr 3; omega
theorem bit_tz {x : Nat} (h : x ≠ 0) : x / 2 ^ tz x % 2 = 1 := tz_div h
theorem bit_low {x j : Nat} (hj : j < tz x) : x / 2 ^ j % 2 = 0 := by
  have h1 : x = x / 2 ^ tz x * 2 ^ (tz x - j - 1) * 2 * 2 ^ j := by
    rw [Nat.mul_assoc, Nat.mul_assoc, ← Nat.pow_succ', ← Nat.pow_add, show tz x - j - 1 + (j + 1) = tz x by omega, tz_mul]
  rw [h1, Nat.mul_div_cancel _ (pp j)]
  exact Nat.mul_mod_left _ _

end Go.Proofs.YtbhfnigblhfikaaGreat

/- The walks over the reference's numbers: halved, plus, minus, shifted. -/
namespace Go.Proofs.YtbhfnigblhfikaaGreat
open Go Go.RowKit Go.PlainAid Fil

theorem Own.congr {w : World} {B : Nat} {v : Value} {n : Nat} {f g : Nat → Int} (h : Own w B v n f) (e : ∀ i, i < n → f i = g i) : Own w B v n g := by
  unfold Own at *
  rw [show ((List.range n).map fun i => Value.int .i64 (g i)) = (List.range n).map fun i => Value.int .i64 (f i) from List.map_congr_left fun i hi => by rw [e i (List.mem_range.1 hi)]]
  exact h
theorem own_grow {n : Nat} {f g : Nat → Int} {t : Int} (e : ∀ i, i < n → f i = g i) (ht : t = g n) : (List.range n).map (fun i => Value.int .i64 (f i)) ++ [.int .i64 t] = (List.range (n + 1)).map fun i => Value.int .i64 (g i) := by
  rw [List.range_succ, List.map_append, ht, List.map_congr_left fun i hi => by rw [e i (List.mem_range.1 hi)]]; rfl

/-- an answer that is a number of the reference -/
def BigR (w : World) (y : Nat) (r : Ending) (w' : World) : Prop := ∃ A c, r = .returned (.slice A (Fil.dn 8 y) c) ∧ Fil.dn 8 y ≤ c ∧ Slc w' 3 A (Fil.dn 8 y) (i8 y) ∧ Below w.heap.size w w'

theorem halved_dg (x k j : Nat) : (dg 8 x (k / 8 + j) + 256 * dg 8 x (k / 8 + j + 1)) / 2 ^ (k % 8) % 256 = dg 8 (x / 2 ^ k) j := by
  have h := shr_dg 8 (x / 2 ^ (8 * (k / 8))) (k % 8) j (by omega)
  rw [Nat.div_div_eq_div_mul, ← Nat.pow_add, show 8 * (k / 8) + k % 8 = k by omega, dg_div, dg_div] at h
  rw [h, Nat.mul_comm 256]
  rfl
theorem halved_lt {x k n : Nat} (hx : x < 2 ^ (8 * n)) (h : k / 8 ≤ n) : x / 2 ^ k < 2 ^ (8 * (n - k / 8)) := by
  have h1 := shr_bound hx h
  have e : x / 2 ^ k = x / 2 ^ (8 * (k / 8)) / 2 ^ (k % 8) := by rw [Nat.div_div_eq_div_mul, ← Nat.pow_add]; congr 2; omega
  rw [e]
  exact Nat.lt_of_le_of_lt (Nat.div_le_self _ _) h1

theorem tmod_nat (a b : Nat) : (a : Int).tmod (b : Int) = ((a % b : Nat) : Int) := (Int.ofNat_tmod a b).symm
theorem shift_nat (d0 d1 s : Nat) (hs : s ≤ 64) : Op.shift BinOp.shr IntKind.i64 ((d0 : Int) + 256 * (d1 : Int)) IntKind.i64 ((s : Nat) : Int) = pure (Value.int .i64 (((d0 + 256 * d1) / 2 ^ s : Nat) : Int)) := by
  have h := shift_shr .i64 .i64 ((d0 : Int) + 256 * (d1 : Int)) (s : Int) (by omega) (by show (s : Int) ≤ 64; omega)
  rw [h, Int.toNat_natCast, show ((d0 : Int) + 256 * (d1 : Int)) = ((d0 + 256 * d1 : Nat) : Int) by omega, div_cast]

end Go.Proofs.YtbhfnigblhfikaaGreat
