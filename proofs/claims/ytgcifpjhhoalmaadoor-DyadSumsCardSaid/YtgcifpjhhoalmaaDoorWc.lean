/- The walks over wide's digits: times. -/
import Derived.Test.YtgcifpjhhoalmaaDoorWb
namespace Go.Proofs.YtgcifpjhhoalmaaDoor
open Go Go.RowKit Fil

/-- a row that reads T below place p, V from there on -/
def mrow (V T p j : Nat) : Value := if j < p then d32 T j else d32 V j
theorem mrow_step {V a y i m j : Nat} {v : Value} (hv : v = d32 (mac 32 V a y i (m + 1)) (i + m)) :
    (if j = i + m then v else mrow V (mac 32 V a y i m) (i + m) j) = mrow V (mac 32 V a y i (m + 1)) (i + (m + 1)) j := by
  unfold mrow
  by_cases e : j = i + m
  · subst e; rw [if_pos rfl, if_pos (by omega), hv]
  · rw [if_neg e]
    by_cases h : j < i + m
    · rw [if_pos h, if_pos (by omega), d32, d32, mac_low 32 V a y i m h]
    · rw [if_neg h, if_neg (by omega)]
theorem d32_zero (j : Nat) : d32 0 j = .int .u32 0 := by simp [d32, dg]
theorem mul_cap {p q : Nat} (hp : p < 4294967296) (hq : q < 4294967296) : 0 ≤ (p : Int) * (q : Int) ∧ (p : Int) * (q : Int) ≤ 18446744065119617025 := by
  have h : p * q ≤ 4294967295 * 4294967295 := Nat.mul_le_mul (by omega) (by omega)
  have e : ((p * q : Nat) : Int) = (p : Int) * (q : Int) := by simp
  rw [← e]; omega
theorem row_end {x y i m j : Nat} {v : Value} (hy : y < 2 ^ (32 * m))
    (hv : v = d32 (x % 2 ^ (32 * (i + 1)) * y) (i + m)) :
    (if j = i + m then v else mrow (x % 2 ^ (32 * i) * y) (mac 32 (x % 2 ^ (32 * i) * y) (dg 32 x i) y i m) (i + m) j) = d32 (x % 2 ^ (32 * (i + 1)) * y) j := by
  have hV : x % 2 ^ (32 * i) * y < 2 ^ (32 * (i + m)) := mul_row_lt hy
  have hT : mac 32 (x % 2 ^ (32 * i) * y) (dg 32 x i) y i m = x % 2 ^ (32 * (i + 1)) * y := by rw [mac_end hV hy, mul_row]
  have hV2 : x % 2 ^ (32 * (i + 1)) * y < 2 ^ (32 * (i + 1 + m)) := mul_row_lt hy
  unfold mrow
  rw [hT]
  by_cases e : j = i + m
  · subst e; rw [if_pos rfl, hv]
  · rw [if_neg e]
    by_cases h : j < i + m
    · rw [if_pos h]
    · rw [if_neg h, d32, d32, dg_zero_of (Nat.lt_of_lt_of_le hV (pmono (Nat.mul_le_mul_left 32 (by omega)))), dg_zero_of (Nat.lt_of_lt_of_le hV2 (pmono (Nat.mul_le_mul_left 32 (by omega))))]
theorem mcar_end {x y i m : Nat} (hy : y < 2 ^ (32 * m)) : mcar 32 (x % 2 ^ (32 * i) * y) (dg 32 x i) y i m = dg 32 (x % 2 ^ (32 * (i + 1)) * y) (i + m) := by
  have hV : x % 2 ^ (32 * i) * y < 2 ^ (32 * (i + m)) := mul_row_lt hy
  have hV2 : x % 2 ^ (32 * (i + 1)) * y < 2 ^ (32 * (i + 1 + m)) := mul_row_lt hy
  unfold mcar
  rw [mac_end hV hy, mul_row, dg_div_eq (by rw [show i + m + 1 = i + 1 + m by omega]; exact hV2)]

set_option maxHeartbeats 2000000 in
set_option maxRecDepth 100000 in
theorem times_any (A B : Option Addr) (n c x m d y : Nat) (w : World) (hn : n = dn 32 x) (hm : m = dn 32 y) (_hnc : n ≤ c) (_hmd : m ≤ d) (hc : n ≤ 1099511627776) (hd : m ≤ 1099511627776)
    (ha : Slc w 169 A n (d32 x)) (hb : Slc w 169 B m (d32 y)) :
    Calls Tryd.prog 162 #[.slice A n c, .slice B m d] w fun e w' => ∃ A' c', e = .returned (.slice A' (dn 32 (x * y)) c') ∧ dn 32 (x * y) ≤ c' ∧ Slc w' 169 A' (dn 32 (x * y)) (d32 (x * y)) ∧ Below w.heap.size w w' := by
  have hx := lt_dn (k := 32) (by omega) x
  have hy := lt_dn (k := 32) (by omega) y
  rw [← hn] at hx
  rw [← hm] at hy
  have Hx := Lib.hid hx
  have Hy := Lib.hid hy
  clear hn hm hx hy
  have hmk := run_make_row' (P := Tryd.prog) 144 169 (.int .u32 0) 4 Tryd.underlying144 Tryd.info169 rfl .i64 .i64 (n + m) (by omega) (by omega)
  have ec : ((n + m : Nat) : Int) = (n : Int) + m := by omega
  rw [ec] at hmk
  clear ec
  go_enter Tryd.func162, Tryd.ntmps162
  go_wp2
  clear hmk
  go_loopg [19] n (fun g s19 wr => ∃ i : Nat, i ≤ n ∧ g = n - i ∧ s19 = .int .i64 i ∧ wr.rowIs w.heap.size 169 (n + m) (d32 (x % 2 ^ (32 * i) * y)) ∧ Below w.heap.size w wr)
  case atStart => exact ⟨0, by omega, by omega, rfl, (World.rowIs_made w _ (n + m) 169).congr (fun j _ => by simp only [Nat.mul_zero, Nat.pow_zero, Nat.mod_one, Nat.zero_mul, d32_zero]), (Below.refl _ _).alloc (Nat.le_refl _) _⟩
  case round =>
    obtain ⟨i, hi, hg, rfl, hrow, hbel⟩ := hrel
    have Hg := Lib.hid hg
    clear hg
    by_cases hin : i < n
    · obtain ⟨b1, o1, rfl, _, hc1⟩ := (ha.below hbel).cell (by omega)
      have k1 := hc1 i hin
      simp only [d32] at k1
      have hdx : dg 32 x i < 4294967296 := dg_lt 32 x i
      clear hc1
      go_wp2
      obtain ⟨wo, rfl⟩ : ∃ wo : World, wo = wr := ⟨_, rfl⟩
      go_loopg [8, 26] m (fun g s8 s26 wr => ∃ k : Nat, k ≤ m ∧ g = m - k ∧ s8 = .int .u64 (mcar 32 (x % 2 ^ (32 * i) * y) (dg 32 x i) y i k) ∧ s26 = .int .i64 k ∧ wr.rowIs w.heap.size 169 (n + m) (mrow (x % 2 ^ (32 * i) * y) (mac 32 (x % 2 ^ (32 * i) * y) (dg 32 x i) y i k) (i + k)) ∧ Below w.heap.size w wr)
      case atStart => exact ⟨0, by omega, by omega, by rw [mcar_zero]; rfl, rfl, hrow.congr (fun j _ => by
        unfold mrow; rw [mac_zero]
        by_cases h : j < i + 0
        · rw [if_pos h, d32, d32, dg_mod (by omega)]
        · rw [if_neg h]), hbel⟩
      case round =>
        clear hrow hbel k1
        obtain ⟨k, hk, hg2, rfl, rfl, hrow, hbel⟩ := hrel
        have Hg2 := Lib.hid hg2
        clear hg2
        have hcar : mcar 32 (x % 2 ^ (32 * i) * y) (dg 32 x i) y i k < 4294967296 := mcar_lt 32 _ _ y i (dg_lt 32 x i) k
        by_cases hkm : k < m
        · obtain ⟨b2, o2, rfl, _, hc2⟩ := (hb.below hbel).cell (by omega)
          have k2 := hc2 k hkm
          simp only [d32] at k2
          have hdy : dg 32 y k < 4294967296 := dg_lt 32 y k
          have k3 := hrow.cell (i := i + k) (by omega)
          have k4 := hrow.frozen (i + k)
          unfold mrow at k3
          rw [if_neg (by omega), d32] at k3
          have hdv : dg 32 (x % 2 ^ (32 * i) * y) (i + k) < 4294967296 := dg_lt 32 _ _
          obtain ⟨hmul0, hmul⟩ := mul_cap hdx hdy
          clear hc2
          go_wp2
          go_roundg (m - (k + 1))
          case measure => have := Hg2.out; omega
          case rel =>
            have h1 := mcar_dg 32 (x % 2 ^ (32 * i) * y) (dg 32 x i) y i k
            have h2 := mcar_succ 32 (x % 2 ^ (32 * i) * y) (dg 32 x i) y i k
            have e1 : mcar 32 (x % 2 ^ (32 * i) * y) (dg 32 x i) y i k + dg 32 (x % 2 ^ (32 * i) * y) (i + k) + dg 32 x i * dg 32 y k = mcar 32 (x % 2 ^ (32 * i) * y) (dg 32 x i) y i k + (dg 32 x i * dg 32 y k + dg 32 (x % 2 ^ (32 * i) * y) (i + k)) := by omega
            rw [e1] at h1 h2
            exact ⟨k + 1, by omega, rfl, by rw [← h2]; go_num, by go_num, (hrow.set (i + k) _).congr (fun j _ => mrow_step (by rw [d32, ← h1]; go_num)), hbel.setCell (Nat.le_refl _) _⟩
        · obtain rfl : k = m := by omega
          have k3 := hrow.cell (i := i + k) (by omega)
          have k4 := hrow.frozen (i + k)
          go_wp2
          go_roundg (n - (i + 1))
          case measure => have := Hg.out; omega
          case rel =>
            exact ⟨i + 1, by omega, rfl, by go_num, (hrow.set (i + k) _).congr (fun j _ => row_end Hy.out (by rw [d32, ← mcar_end Hy.out])), hbel.setCell (Nat.le_refl _) _⟩
    · obtain rfl : i = n := by omega
      rw [Nat.mod_eq_of_lt Hx.out] at hrow
      have hlt : x * y < 2 ^ (32 * (i + m)) := by rw [padd]; exact Nat.mul_lt_mul'' Hx.out Hy.out
      have Hs := Lib.hid hlt
      clear hlt
      go_wp2_with (go_at_call 168; go_must (refine (cut_any _ (i + m) (i + m) (x * y) _ Hs.out (by omega) (by omega) (Slc.of_row hrow (by omega))).mono ?_); rintro e w' ⟨rfl, rfl⟩)
      go_ret
      have hle := dn_le (k := 32) (by omega) Hs.out
      exact ⟨_, _, rfl, hle, Slc.of_row hrow hle, hbel⟩
end Go.Proofs.YtgcifpjhhoalmaaDoor
