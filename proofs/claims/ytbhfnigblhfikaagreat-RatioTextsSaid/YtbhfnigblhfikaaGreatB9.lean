/- The reference's plus, minus, shifted, cmp, times, fit. -/
import Derived.Test.YtbhfnigblhfikaaGreatB8
import Derived.Test.YtbhfnigblhfikaaGreatB5

/- The walks over the reference's numbers: plus, minus. -/
namespace Go.Proofs.YtbhfnigblhfikaaGreat
open Go Go.RowKit Go.PlainAid Fil

end Go.Proofs.YtbhfnigblhfikaaGreat

/- The walks over the reference's numbers: shifted, cmp. -/
namespace Go.Proofs.YtbhfnigblhfikaaGreat
open Go Go.RowKit Go.PlainAid Fil

theorem Own.made (w : World) (q : Nat) (hq : q ≤ maxLen) : Own (w.alloc (.cells (madeCells #[.int .i64 0] q) 3)) w.heap.size (.slice (some ⟨w.heap.size, 0, none⟩) q q) q (fun _ => 0) := by
  refine ⟨by simp, .inr ⟨w.heap.size, q, _, rfl, Nat.le_refl _, heap_alloc_new w _, Nat.le_refl _, hq, by rw [size_madeCells]; simp, ?_⟩⟩
  apply List.ext_getElem?
  intro i
  by_cases hi : i < q
  · rw [List.getElem?_take_of_lt (by omega), List.getElem?_map, List.getElem?_range hi, Array.getElem?_toList]
    simp [madeCells, hi, Nat.mod_one]
  · rw [List.getElem?_take_eq_none (by omega)]
    simp [hi]

/-- what is carried on in front of digit i -/
def shm (x k i : Nat) : Nat := shl 8 x k i / 2 ^ (8 * (i + k / 8))
theorem shm_zero (x k : Nat) : shm x k 0 = 0 := by unfold shm; rw [shl_zero, Nat.zero_div]
theorem shm_sum (x k i : Nat) : shl 8 x k (i + 1) / 2 ^ (8 * (i + k / 8)) = shm x k i + dg 8 x i * 2 ^ (k % 8) := by
  have h := shl_succ 8 x (k / 8) (k % 8) i
  rw [show 8 * (k / 8) + k % 8 = k by omega] at h
  rw [h, Nat.add_mul_div_right _ _ (pp _)]
  rfl
theorem shm_dg (x k i : Nat) : (shm x k i + dg 8 x i * 2 ^ (k % 8)) % 256 = dg 8 (shl 8 x k (i + 1)) (i + k / 8) := by
  rw [← shm_sum]; rfl
theorem shm_next (x k i : Nat) : (shm x k i + dg 8 x i * 2 ^ (k % 8)) / 256 = shm x k (i + 1) := by
  rw [← shm_sum, Nat.div_div_eq_div_mul]
  unfold shm
  rw [show i + 1 + k / 8 = i + k / 8 + 1 by omega, pstep]
theorem shm_lt (x k i : Nat) : shm x k i < 256 := by
  have h := (shl_at 8 x (k / 8) (k % 8) i (by omega)).1
  have h2 := (shl_at 8 x (k / 8) (k % 8) i (by omega)).2
  rw [show 8 * (k / 8) + k % 8 = k by omega] at h h2
  rw [h2] at h
  have h3 : (2 : Nat) ^ (k % 8) ≤ 2 ^ 8 := pmono (by omega)
  exact Nat.lt_of_lt_of_le h h3
theorem shm_low (x k i : Nat) {j : Nat} (hj : j < i + k / 8) : dg 8 (shl 8 x k i) j = dg 8 (shl 8 x k (i + 1)) j := by
  have h := shl_dg_low 8 x (k / 8) (k % 8) i hj
  rw [show 8 * (k / 8) + k % 8 = k by omega] at h
  exact h.symm
theorem shm_bound {x k n : Nat} (h : x < 2 ^ (8 * n)) : x * 2 ^ k < 2 ^ (8 * (n + k / 8 + 1)) := by
  have h1 := shl_bound (k := 8) (q := k / 8) (s := k % 8) h (by omega)
  rw [show 8 * (k / 8) + k % 8 = k by omega] at h1
  exact h1
theorem shm_end {x k n : Nat} (h : x < 2 ^ (8 * n)) : shm x k n = dg 8 (x * 2 ^ k) (n + k / 8) := by
  unfold shm
  rw [shl_end h, dg_div_eq (shm_bound h)]
theorem sh8_lt {d s : Nat} (hd : d < 256) (hs : s < 8) : d * 2 ^ s < 32768 := by
  have h1 : (2 : Nat) ^ s ≤ 2 ^ 7 := pmono (by omega)
  have h2 : d * 2 ^ s ≤ 255 * 2 ^ 7 := Nat.mul_le_mul (by omega) h1
  omega

theorem sm_dg {ca t u : Nat} (h : (ca + t) % 256 = u) : ((ca : Int) + ((t : Nat) : Int)) % 256 = (u : Int) := by omega
theorem sm_next (ca t : Nat) : Value.int IntKind.i64 (((ca : Int) + ((t : Nat) : Int)) / 256) = .int .i64 (((ca + t) / 256 : Nat) : Int) := by congr 1

end Go.Proofs.YtbhfnigblhfikaaGreat

/- The walk over the reference's numbers: times. -/
namespace Go.Proofs.YtbhfnigblhfikaaGreat
open Go Go.RowKit Go.PlainAid Fil

/-- a row that reads T below place p, V from there on -/
def mrow8 (V T p j : Nat) : Value := if j < p then i8 T j else i8 V j
theorem mrow8_step {V a y i m j : Nat} {v : Value} (hv : v = i8 (mac 8 V a y i (m + 1)) (i + m)) :
    (if j = i + m then v else mrow8 V (mac 8 V a y i m) (i + m) j) = mrow8 V (mac 8 V a y i (m + 1)) (i + (m + 1)) j := by
  unfold mrow8
  by_cases e : j = i + m
  · subst e; rw [if_pos rfl, if_pos (by omega), hv]
  · rw [if_neg e]
    by_cases h : j < i + m
    · rw [if_pos h, if_pos (by omega), i8, i8, mac_low 8 V a y i m h]
    · rw [if_neg h, if_neg (by omega)]
theorem i8_zero (j : Nat) : i8 0 j = .int .i64 0 := by simp [i8, dg]
theorem times_mac {x y i m k : Nat} (hy : y < 2 ^ (8 * m)) (hk : m ≤ k) : mac 8 (x % 2 ^ (8 * i) * y) (dg 8 x i) y i k = x % 2 ^ (8 * (i + 1)) * y := by
  have hV : x % 2 ^ (8 * i) * y < 2 ^ (8 * (i + m)) := mul_row_lt hy
  rw [mac_end (Nat.lt_of_lt_of_le hV (pmono (by omega))) (Nat.lt_of_lt_of_le hy (pmono (by omega))), mul_row]
theorem times_car {x y i m k : Nat} (hy : y < 2 ^ (8 * m)) (hk : m ≤ k) : mcar 8 (x % 2 ^ (8 * i) * y) (dg 8 x i) y i k = x % 2 ^ (8 * (i + 1)) * y / 2 ^ (8 * (i + k)) := by
  unfold mcar; rw [times_mac hy hk]
theorem times_car0 {x y i m : Nat} (hy : y < 2 ^ (8 * m)) : mcar 8 (x % 2 ^ (8 * i) * y) (dg 8 x i) y i (m + 1) = 0 := by
  rw [times_car hy (by omega)]
  exact Nat.div_eq_of_lt (by rw [show i + (m + 1) = i + 1 + m by omega]; exact mul_row_lt hy)
theorem times_end {x y i m k j : Nat} (hy : y < 2 ^ (8 * m)) (hk : m ≤ k) (h0 : mcar 8 (x % 2 ^ (8 * i) * y) (dg 8 x i) y i k = 0) :
    mrow8 (x % 2 ^ (8 * i) * y) (mac 8 (x % 2 ^ (8 * i) * y) (dg 8 x i) y i k) (i + k) j = i8 (x % 2 ^ (8 * (i + 1)) * y) j := by
  have hV : x % 2 ^ (8 * i) * y < 2 ^ (8 * (i + m)) := mul_row_lt hy
  rw [times_car hy hk] at h0
  have hR : x % 2 ^ (8 * (i + 1)) * y < 2 ^ (8 * (i + k)) := by
    rcases Nat.lt_or_ge (x % 2 ^ (8 * (i + 1)) * y) (2 ^ (8 * (i + k))) with h | h
    · exact h
    · have := (Nat.le_div_iff_mul_le (pp (8 * (i + k)))).2 (show 1 * 2 ^ (8 * (i + k)) ≤ _ by rw [Nat.one_mul]; exact h)
      omega
  unfold mrow8
  rw [times_mac hy hk]
  by_cases h : j < i + k
  · rw [if_pos h]
  · rw [if_neg h, i8, i8, dg_zero_of (Nat.lt_of_lt_of_le hV (pmono (Nat.mul_le_mul_left 8 (by omega)))), dg_zero_of (Nat.lt_of_lt_of_le hR (pmono (Nat.mul_le_mul_left 8 (by omega))))]
theorem rows_drewN {w : World} {b : Nat} {t : TypeId} {n : Nat} {f : Nat → Value} (h : w.rowIs b t n f) (k : Nat) : (w.drewN k).rowIs b t n f := h

end Go.Proofs.YtbhfnigblhfikaaGreat

/- The walk over the reference's fit. -/
namespace Go.Proofs.YtbhfnigblhfikaaGreat
open Go Go.RowKit Go.PlainAid Fil

theorem by_row8 {y p i k j : Nat} {v : Value} (hk : k = p - 1 - i) (hi : i < p) (hj : j < p) (hv : v = b8 y i) : (if j = k then v else if p - i ≤ j then b8 y (p - 1 - j) else Value.int IntKind.u8 0) = if p - (i + 1) ≤ j then b8 y (p - 1 - j) else Value.int IntKind.u8 0 := by
  by_cases e : j = k
  · rw [if_pos e, if_pos (by omega), show p - 1 - j = i by omega, hv]
  · rw [if_neg e]
    by_cases h : p - i ≤ j
    · rw [if_pos h, if_pos (by omega)]
    · rw [if_neg h, if_neg (by omega)]
theorem tz_lt8 {x n : Nat} (hx : x ≠ 0) (h : x < 2 ^ (8 * n)) : tz x < 8 * n := by
  have ht := tz_le_log hx
  have hl := (Nat.log2_lt hx).2 h
  omega
theorem sz_ne {neg : Bool} {x : Nat} (h : x ≠ 0) : sz neg x ≠ 0 := fun e => h (by rw [← sz_abs neg x, e]; rfl)
/-- fit's answer where there is none -/
theorem fit_no {neg : Bool} {x : Nat} {e : Int} (h : mkOk (sz neg x) e = false) : dyR false 0 0 4 = mkV (sz neg x) e := (mkV_bad h).symm
theorem fit_yes {neg : Bool} {x : Nat} {e : Int} (hx : x ≠ 0) (h : mkOk (sz neg x) e = true) : dyR neg (x / 2 ^ tz x) (e + tz x) 0 = mkV (sz neg x) e := by
  obtain ⟨m1, m2, m3, m4⟩ := mk_good h (sz_ne hx)
  unfold mkV
  rw [m1, m2, m3, m4, sz_abs, sg_sz hx]

end Go.Proofs.YtbhfnigblhfikaaGreat
