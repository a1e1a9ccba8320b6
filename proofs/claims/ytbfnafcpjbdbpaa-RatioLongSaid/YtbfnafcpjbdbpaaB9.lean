/- The reference's plus, minus, shifted, cmp, times, fit. -/
import Derived.Test.YtbfnafcpjbdbpaaB8
import Derived.Test.YtbfnafcpjbdbpaaB5

/- The walks over the reference's numbers: plus, minus. -/
namespace Go.Proofs.Ytbfnafcpjbdbpaa
open Go Go.RowKit Go.PlainAid Fil

end Go.Proofs.Ytbfnafcpjbdbpaa

/- The walks over the reference's numbers: shifted, cmp. -/
namespace Go.Proofs.Ytbfnafcpjbdbpaa
open Go Go.RowKit Go.PlainAid Fil

theorem Own.made (w : World) (q : Nat) (hq : q ≤ maxLen) : Own (w.alloc (.cells (madeCells #[.int .i64 0] q) 3)) w.heap.size (.slice (some ⟨w.heap.size, 0, none⟩) q q) q (fun _ => 0) := by
  refine ⟨by simp, .inr ⟨w.heap.size, q, _, rfl, Nat.le_refl _, heap_alloc_new w _, Nat.le_refl _, hq, by rw [size_madeCells]; simp, ?_⟩⟩
  apply List.ext_getElem?
  intro i
  by_cases hi : i < q
  · rw [List.getElem?_take_of_lt (by omega), List.getElem?_map, List.getElem?_range hi, Array.getElem?_toList]
    simp [madeCells, hi, Nat.mod_one]
  · rw [List.getElem?_take_eq_none (by omega)]
    simp [hi]

end Go.Proofs.Ytbfnafcpjbdbpaa

/- The walk over the reference's numbers: times. -/
namespace Go.Proofs.Ytbfnafcpjbdbpaa
open Go Go.RowKit Go.PlainAid Fil

/-- a row that reads T below place p, V from there on -/
def mrow8 (V T p j : Nat) : Value := if j < p then i8 T j else i8 V j
theorem mrow8_step {V a y i m j : Nat} {v : Value} (hv : v = i8 (mac 8 V a y i (m + 1)) (i + m)) :
    (if j = i + m then v else mrow8 V (mac 8 V a y i m) (i + m) j) = mrow8 V (mac 8 V a y i (m + 1)) (i + (m + 1)) j := by
  unfold mrow8
  by_cases e : j = i + m
  · subst e; rw [if_pos rfl, if_pos (by omega), hv]
  · rw [if_neg e]
    by_cases h : j < i + m
    · rw [if_pos h, if_pos (by omega), i8, i8, mac_low 8 V a y i m h]
    · rw [if_neg h, if_neg (by omega)]
theorem i8_zero (j : Nat) : i8 0 j = .int .i64 0 := by simp [i8, dg]
theorem times_mac {x y i m k : Nat} (hy : y < 2 ^ (8 * m)) (hk : m ≤ k) : mac 8 (x % 2 ^ (8 * i) * y) (dg 8 x i) y i k = x % 2 ^ (8 * (i + 1)) * y := by
  have hV : x % 2 ^ (8 * i) * y < 2 ^ (8 * (i + m)) := mul_row_lt hy
  rw [mac_end (Nat.lt_of_lt_of_le hV (pmono (by omega))) (Nat.lt_of_lt_of_le hy (pmono (by omega))), mul_row]
theorem times_car {x y i m k : Nat} (hy : y < 2 ^ (8 * m)) (hk : m ≤ k) : mcar 8 (x % 2 ^ (8 * i) * y) (dg 8 x i) y i k = x % 2 ^ (8 * (i + 1)) * y / 2 ^ (8 * (i + k)) := by
  unfold mcar; rw [times_mac hy hk]
theorem times_car0 {x y i m : Nat} (hy : y < 2 ^ (8 * m)) : mcar 8 (x % 2 ^ (8 * i) * y) (dg 8 x i) y i (m + 1) = 0 := by
  rw [times_car hy (by omega)]
  exact Nat.div_eq_of_lt (by rw [show i + (m + 1) = i + 1 + m by omega]; exact mul_row_lt hy)
theorem times_end {x y i m k j : Nat} (hy : y < 2 ^ (8 * m)) (hk : m ≤ k) (h0 : mcar 8 (x % 2 ^ (8 * i) * y) (dg 8 x i) y i k = 0) :
    mrow8 (x % 2 ^ (8 * i) * y) (mac 8 (x % 2 ^ (8 * i) * y) (dg 8 x i) y i k) (i + k) j = i8 (x % 2 ^ (8 * (i + 1)) * y) j := by
  have hV : x % 2 ^ (8 * i) * y < 2 ^ (8 * (i + m)) := mul_row_lt hy
  rw [times_car hy hk] at h0
  have hR : x % 2 ^ (8 * (i + 1)) * y < 2 ^ (8 * (i + k)) := by
    rcases Nat.lt_or_ge (x % 2 ^ (8 * (i + 1)) * y) (2 ^ (8 * (i + k))) with h | h
    · exact h
    · have := (Nat.le_div_iff_mul_le (pp (8 * (i + k)))).2 (show 1 * 2 ^ (8 * (i + k)) ≤ _ by rw [Nat.one_mul]; exact h)
      omega
  unfold mrow8
  rw [times_mac hy hk]
  by_cases h : j < i + k
  · rw [if_pos h]
  · rw [if_neg h, i8, i8, dg_zero_of (Nat.lt_of_lt_of_le hV (pmono (Nat.mul_le_mul_left 8 (by omega)))), dg_zero_of (Nat.lt_of_lt_of_le hR (pmono (Nat.mul_le_mul_left 8 (by omega))))]
theorem rows_drewN {w : World} {b : Nat} {t : TypeId} {n : Nat} {f : Nat → Value} (h : w.rowIs b t n f) (k : Nat) : (w.drewN k).rowIs b t n f := h

end Go.Proofs.Ytbfnafcpjbdbpaa

/- The walk over the reference's fit. -/
namespace Go.Proofs.Ytbfnafcpjbdbpaa
open Go Go.RowKit Go.PlainAid Fil

theorem by_row8 {y p i k j : Nat} {v : Value} (hk : k = p - 1 - i) (hi : i < p) (hj : j < p) (hv : v = b8 y i) : (if j = k then v else if p - i ≤ j then b8 y (p - 1 - j) else Value.int IntKind.u8 0) = if p - (i + 1) ≤ j then b8 y (p - 1 - j) else Value.int IntKind.u8 0 := by
  by_cases e : j = k
  · rw [if_pos e, if_pos (by omega), show p - 1 - j = i by omega, hv]
  · rw [if_neg e]
    by_cases h : p - i ≤ j
    · rw [if_pos h, if_pos (by omega)]
    · rw [if_neg h, if_neg (by omega)]
end Go.Proofs.Ytbfnafcpjbdbpaa
