/- The walks over wide's digits: left, right. -/
import Derived.Test.YtgcifpjhhoalmaaDoorWc
import Derived.Laws.BitsAllLaws
namespace Go.Proofs.YtgcifpjhhoalmaaDoor
open Go Go.RowKit Fil

theorem pow_cast (a s : Nat) : (a : Int) * 2 ^ s = ((a * 2 ^ s : Nat) : Int) := by simp
theorem sh_lt {a s : Nat} (ha : a < 4294967296) (hs : s < 32) : a * 2 ^ s < 18446744073709551616 := by
  have h1 : (2 : Nat) ^ s ≤ 2 ^ 31 := pmono (by omega)
  have h2 : a * 2 ^ s ≤ 4294967295 * 2 ^ 31 := Nat.mul_le_mul (by omega) h1
  omega
theorem left_hi {x k i : Nat} : IntKind.u64.wrap ((dg 32 x i : Int) * 2 ^ (k % 32)) / 4294967296 % 4294967296 = ((dg 32 (shl 32 x k (i + 1)) (i + k / 32 + 1) : Nat) : Int) := by
  have hk : k = 32 * (k / 32) + k % 32 := by omega
  have h1 := shl_dg1 32 x (k / 32) (k % 32) i (by omega)
  rw [← hk] at h1
  have h2 := sh_lt (s := k % 32) (dg_lt 32 x i) (by omega)
  have h3 := dg_lt 32 (shl 32 x k (i + 1)) (i + k / 32 + 1)
  rw [pow_cast, IntKind.wrap_u64]
  rw [h1] at h3 ⊢
  generalize dg 32 x i * 2 ^ (k % 32) = t at *
  omega
theorem left_lo {x k i : Nat} : bits BinOp.or IntKind.u32 (dg 32 (shl 32 x k i) (i + k / 32) : Int) (IntKind.u64.wrap ((dg 32 x i : Int) * 2 ^ (k % 32)) % 4294967296) = ((dg 32 (shl 32 x k (i + 1)) (i + k / 32) : Nat) : Int) := by
  have hk : k = 32 * (k / 32) + k % 32 := by omega
  have h1 := shl_dg0 32 x (k / 32) (k % 32) i (by omega)
  rw [← hk] at h1
  have h2 := sh_lt (s := k % 32) (dg_lt 32 x i) (by omega)
  rw [pow_cast, IntKind.wrap_u64, h1]
  have e : ((dg 32 x i * 2 ^ (k % 32) : Nat) : Int) % 18446744073709551616 % 4294967296 = ((dg 32 x i * 2 ^ (k % 32) % 2 ^ 32 : Nat) : Int) := by
    generalize dg 32 x i * 2 ^ (k % 32) = t at *
    omega
  rw [e, u32_or_nat _ _ (dg_lt 32 _ _) (Nat.mod_lt _ (by omega))]
theorem left_row {x k i j : Nat} : (if j = i + k / 32 + 1 then Value.int IntKind.u32 (IntKind.u64.wrap ((dg 32 x i : Int) * 2 ^ (k % 32)) / 4294967296 % 4294967296) else
    if j = i + k / 32 then Value.int IntKind.u32 (bits BinOp.or IntKind.u32 (dg 32 (shl 32 x k i) (i + k / 32) : Int) (IntKind.u64.wrap ((dg 32 x i : Int) * 2 ^ (k % 32)) % 4294967296)) else d32 (shl 32 x k i) j) = d32 (shl 32 x k (i + 1)) j := by
  have hk : k = 32 * (k / 32) + k % 32 := by omega
  rw [left_hi, left_lo]
  by_cases e1 : j = i + k / 32 + 1
  · subst e1; rw [if_pos rfl, d32]
  · rw [if_neg e1]
    by_cases e2 : j = i + k / 32
    · subst e2; rw [if_pos rfl, d32]
    · rw [if_neg e2, d32, d32]
      by_cases h : j < i + k / 32
      · have h1 := shl_dg_low 32 x (k / 32) (k % 32) i h
        rw [← hk] at h1
        rw [h1]
      · have h1 := shl_dg_high 32 x (k / 32) (k % 32) i (by omega) (j := j) (by omega)
        have h2 := shl_dg_high 32 x (k / 32) (k % 32) (i + 1) (by omega) (j := j) (by omega)
        rw [← hk] at h1 h2
        rw [h1, h2]

set_option maxHeartbeats 2000000 in
set_option maxRecDepth 100000 in
theorem left_any (A : Option Addr) (n c x k : Nat) (w : World) (hn : n = dn 32 x) (_hnc : n ≤ c) (hc : n ≤ 1099511627776) (hk : k ≤ 1099511627776)
    (ha : Slc w 169 A n (d32 x)) :
    Calls Tryd.prog 163 #[.slice A n c, .int .u64 k] w fun e w' => ∃ A' c', e = .returned (.slice A' (dn 32 (x * 2 ^ k)) c') ∧ dn 32 (x * 2 ^ k) ≤ c' ∧ Slc w' 169 A' (dn 32 (x * 2 ^ k)) (d32 (x * 2 ^ k)) ∧ Below w.heap.size w w' := by
  have hx := lt_dn (k := 32) (by omega) x
  rw [← hn] at hx
  have Hx := Lib.hid hx
  have Hn := Lib.hid hn
  clear hn hx
  have hkd : 0 ≤ (k : Int) / 32 := by omega
  have hke : (k : Int) / 32 ≤ 34359738368 := by omega
  have hmk := run_make_row' (P := Tryd.prog) 144 169 (.int .u32 0) 4 Tryd.underlying144 Tryd.info169 rfl .i64 .i64 (n + k / 32 + 1) (by omega) (by omega)
  have ec : ((n + k / 32 + 1 : Nat) : Int) = (n : Int) + (k : Int) / 32 + 1 := by omega
  rw [ec] at hmk
  clear ec
  by_cases h0 : n = 0
  · have hx0 : x = 0 := by have := Hn.out; rw [h0] at this; exact dn_eq_zero.1 this.symm
    have h0' : ((n : Int) == 0) = true := by simpa using h0
    subst hx0
    clear h0 hmk
    go_enter Tryd.func163, Tryd.ntmps163
    go_wp2
    go_ret
    exact ⟨none, 0, by rw [Nat.zero_mul, dn_zero]; rfl, by rw [Nat.zero_mul, dn_zero]; omega, by rw [Nat.zero_mul, dn_zero]; exact Slc.nil _ _ _ _, Below.refl _ _⟩
  · have h0' : ((n : Int) == 0) = false := by simpa using h0
    clear h0
    go_enter Tryd.func163, Tryd.ntmps163
    go_wp2
    clear hmk
    go_loopg [22] n (fun g s22 wr => ∃ i : Nat, i ≤ n ∧ g = n - i ∧ s22 = .int .i64 i ∧ wr.rowIs w.heap.size 169 (n + k / 32 + 1) (d32 (shl 32 x k i)) ∧ Below w.heap.size w wr)
    case atStart => exact ⟨0, by omega, by omega, rfl, (World.rowIs_made w _ (n + k / 32 + 1) 169).congr (fun j _ => by rw [shl_zero, d32_zero]), (Below.refl _ _).alloc (Nat.le_refl _) _⟩
    case round =>
      obtain ⟨i, hi, hg, rfl, hrow, hbel⟩ := hrel
      have Hg := Lib.hid hg
      clear hg
      by_cases hin : i < n
      · obtain ⟨b1, o1, rfl, _, hc1⟩ := (ha.below hbel).cell (by omega)
        have k1 := hc1 i hin
        simp only [d32] at k1
        have hdx : dg 32 x i < 4294967296 := dg_lt 32 x i
        clear hc1
        have k2 := hrow.cell (i := i + k / 32) (by omega)
        have k3 := hrow.frozen (i + k / 32)
        have k4 := hrow.cell (i := i + k / 32 + 1) (by omega)
        have k5 := hrow.frozen (i + k / 32 + 1)
        simp only [d32] at k2 k4
        go_wp2
        go_roundg (n - (i + 1))
        case measure => have := Hg.out; omega
        case rel =>
          refine ⟨i + 1, by omega, rfl, by go_num, ((hrow.set (i + k / 32) _).set (i + k / 32 + 1) _).congr (fun j hj => ?_), (hbel.setCell (Nat.le_refl _) _).setCell (Nat.le_refl _) _⟩
          exact left_row
      · obtain rfl : i = n := by omega
        rw [shl_end Hx.out] at hrow
        have hlt : x * 2 ^ k < 2 ^ (32 * (i + k / 32 + 1)) := by
          have := shl_bound (k := 32) (q := k / 32) (s := k % 32) Hx.out (by omega)
          rwa [show 32 * (k / 32) + k % 32 = k by omega] at this
        have Hs := Lib.hid hlt
        clear hlt
        go_wp2_with (go_at_call 168; go_must (refine (cut_any _ (i + k / 32 + 1) (i + k / 32 + 1) (x * 2 ^ k) _ Hs.out (by omega) (by omega) (Slc.of_row hrow (by omega))).mono ?_); rintro e w' ⟨rfl, rfl⟩)
        go_ret
        have hle := dn_le (k := 32) (by omega) Hs.out
        exact ⟨_, _, rfl, hle, Slc.of_row hrow hle, hbel⟩
end Go.Proofs.YtgcifpjhhoalmaaDoor
