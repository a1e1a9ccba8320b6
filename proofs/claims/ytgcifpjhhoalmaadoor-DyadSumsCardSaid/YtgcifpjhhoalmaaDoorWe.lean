/- The walks over wide's digits: right. -/
import Derived.Test.YtgcifpjhhoalmaaDoorWd
namespace Go.Proofs.YtgcifpjhhoalmaaDoor
open Go Go.RowKit Fil

theorem right_dg {x k i : Nat} : dg 32 (x / 2 ^ k) i = (dg 32 (x / 2 ^ (32 * (k / 32))) i + dg 32 (x / 2 ^ (32 * (k / 32))) (i + 1) * 2 ^ 32) / 2 ^ (k % 32) % 2 ^ 32 := by
  rw [← shr_dg 32 _ (k % 32) i (by omega), Nat.div_div_eq_div_mul, ← Nat.pow_add]
  congr 3; omega
theorem div_cast (a s : Nat) : (a : Int) / 2 ^ s = ((a / 2 ^ s : Nat) : Int) := by simp
theorem right_v2 {x k i : Nat} : Value.int IntKind.u32 (bits BinOp.or IntKind.u64 (dg 32 (x / 2 ^ (32 * (k / 32))) i : Int) ((dg 32 (x / 2 ^ (32 * (k / 32))) (i + 1) : Int) * 4294967296) / 2 ^ (k % 32) % 4294967296) = d32 (x / 2 ^ k) i := by
  have h1 := dg_lt 32 (x / 2 ^ (32 * (k / 32))) i
  have h2 := dg_lt 32 (x / 2 ^ (32 * (k / 32))) (i + 1)
  have e : (dg 32 (x / 2 ^ (32 * (k / 32))) (i + 1) : Int) * 4294967296 = ((dg 32 (x / 2 ^ (32 * (k / 32))) (i + 1) * 2 ^ 32 : Nat) : Int) := by omega
  rw [e, u64_or_nat _ _ (by omega) (by omega), or_shl _ _ _ h1, div_cast, d32, right_dg (x := x) (k := k)]
  congr 1
theorem right_v1 {x k i p : Nat} (hb : x / 2 ^ (32 * (k / 32)) < 2 ^ (32 * p)) (hi : p ≤ i + 1) : Value.int IntKind.u32 ((dg 32 (x / 2 ^ (32 * (k / 32))) i : Int) / 2 ^ (k % 32) % 4294967296) = d32 (x / 2 ^ k) i := by
  have h1 : dg 32 (x / 2 ^ (32 * (k / 32))) (i + 1) = 0 := dg_zero_of (Nat.lt_of_lt_of_le hb (pmono (Nat.mul_le_mul_left 32 hi)))
  rw [div_cast, d32, right_dg (x := x) (k := k), h1, Nat.zero_mul, Nat.add_zero]
  congr 1

set_option maxHeartbeats 2000000 in
set_option maxRecDepth 100000 in
theorem right_any (A : Option Addr) (n c x k : Nat) (w : World) (hn : n = dn 32 x) (hnc : n ≤ c) (hc : n ≤ 1099511627776) (hk : k ≤ 1099511627776)
    (ha : Slc w 169 A n (d32 x)) :
    Calls Tryd.prog 154 #[.slice A n c, .int .u64 k] w fun e w' => ∃ A' c', e = .returned (.slice A' (dn 32 (x / 2 ^ k)) c') ∧ dn 32 (x / 2 ^ k) ≤ c' ∧ Slc w' 169 A' (dn 32 (x / 2 ^ k)) (d32 (x / 2 ^ k)) ∧ Below w.heap.size w w' := by
  have hx := lt_dn (k := 32) (by omega) x
  rw [← hn] at hx
  have Hx := Lib.hid hx
  have Hn := Lib.hid hn
  clear hn hx
  have hkd : 0 ≤ (k : Int) / 32 := by omega
  have hke : (k : Int) / 32 ≤ 34359738368 := by omega
  by_cases hq : n ≤ k / 32
  · have hz : x / 2 ^ k = 0 := Nat.div_eq_of_lt (Nat.lt_of_lt_of_le Hx.out (pmono (by omega)))
    have Hz := Lib.hid hz
    clear hz
    go_enter Tryd.func154, Tryd.ntmps154
    go_wp2
    go_ret
    exact ⟨none, 0, by rw [Hz.out, dn_zero]; rfl, by rw [Hz.out, dn_zero]; omega, by rw [Hz.out, dn_zero]; exact Slc.nil _ _ _ _, Below.refl _ _⟩
  · obtain ⟨b1, o1, rfl, _, hc1⟩ := ha.cell (by omega)
    have hmk := run_make_row' (P := Tryd.prog) 144 169 (.int .u32 0) 4 Tryd.underlying144 Tryd.info169 rfl .i64 .i64 (n - k / 32) (by omega) (by omega)
    have hcq : ¬ c = k / 32 := by omega
    have hcq2 : ((k : Int) / 32).toNat = k / 32 := by omega
    have ha2 : Slc w 169 (some ⟨b1, o1 + k / 32, none⟩) (n - k / 32) (d32 (x / 2 ^ (32 * (k / 32)))) := fun _ => by
      obtain ⟨b, o, cs, fz, hA, hb, hc⟩ := ha (by omega)
      simp only [Option.some.injEq, Addr.mk.injEq] at hA
      obtain ⟨rfl, rfl, _⟩ := hA
      exact ⟨b1, o1 + k / 32, cs, fz, rfl, hb, fun j hj => by rw [Nat.add_assoc, hc (k / 32 + j) (by omega), d32, d32, dg_div]⟩
    have hb1 := shr_bound (q := k / 32) Hx.out (by omega)
    have Hb := Lib.hid hb1
    clear hc1 hb1
    go_enter Tryd.func154, Tryd.ntmps154
    go_wp2
    clear hmk
    generalize hp : n - k / 32 = p at *
    have hpc : p ≤ 1099511627776 := by omega
    have hpc2 : p ≤ c - k / 32 := by omega
    have Hp := Lib.hid hp
    clear hp hq hcq hcq2
    go_loopg [23] p (fun g s23 wr => ∃ i : Nat, i ≤ p ∧ g = p - i ∧ s23 = .int .i64 i ∧ wr.rowIs w.heap.size 169 p (upto (x / 2 ^ k) i) ∧ Below w.heap.size w wr)
    case atStart => exact ⟨0, by omega, by omega, rfl, (World.rowIs_made w _ p 169).congr (fun j _ => by simp [upto]), (Below.refl _ _).alloc (Nat.le_refl _) _⟩
    case round =>
      obtain ⟨i, hi, hg, rfl, hrow, hbel⟩ := hrel
      have Hg := Lib.hid hg
      clear hg
      by_cases hin : i < p
      · obtain ⟨b2, o2, he, _, hc1⟩ := (ha2.below hbel).cell (by omega)
        simp only [Option.some.injEq, Addr.mk.injEq] at he
        obtain ⟨rfl, rfl, _⟩ := he
        have k1 := hc1 i hin
        simp only [d32] at k1
        have hdx : dg 32 (x / 2 ^ (32 * (k / 32))) i < 4294967296 := dg_lt 32 _ i
        have k2 := hrow.cell (i := i) (by omega)
        have k3 := hrow.frozen i
        by_cases hi1 : i + 1 < p
        · have k4 := hc1 (i + 1) hi1
          simp only [d32] at k4
          have hdy : dg 32 (x / 2 ^ (32 * (k / 32))) (i + 1) < 4294967296 := dg_lt 32 _ (i + 1)
          clear hc1
          go_wp2
          go_roundg (p - (i + 1))
          case measure => have := Hg.out; omega
          case rel =>
            refine ⟨i + 1, by omega, rfl, by go_num, (hrow.set i _).congr (fun j hj => upto_step ?_), hbel.setCell (Nat.le_refl _) _⟩
            exact right_v2
        · clear hc1
          go_wp2
          go_roundg (p - (i + 1))
          case measure => have := Hg.out; omega
          case rel =>
            refine ⟨i + 1, by omega, rfl, by go_num, (hrow.set i _).congr (fun j hj => upto_step ?_), hbel.setCell (Nat.le_refl _) _⟩
            exact right_v1 Hb.out (by omega)
      · obtain rfl : i = p := by omega
        have hlt : x / 2 ^ k < 2 ^ (32 * i) := by
          have h1 := Hb.out
          have e : x / 2 ^ k = x / 2 ^ (32 * (k / 32)) / 2 ^ (k % 32) := by rw [Nat.div_div_eq_div_mul, ← Nat.pow_add]; congr 2; omega
          rw [e]
          exact Nat.lt_of_le_of_lt (Nat.div_le_self _ _) h1
        have hrow' := hrow.congr (g := d32 (x / 2 ^ k)) (fun j hj => by unfold upto; rw [if_pos (by omega)])
        have Hs := Lib.hid hlt
        clear hlt hrow
        go_wp2_with (go_at_call 168; go_must (refine (cut_any _ i i (x / 2 ^ k) _ Hs.out (by omega) (by omega) (Slc.of_row hrow' (by omega))).mono ?_); rintro e w' ⟨rfl, rfl⟩)
        go_ret
        have hle := dn_le (k := 32) (by omega) Hs.out
        exact ⟨_, _, rfl, hle, Slc.of_row hrow' hle, hbel⟩
end Go.Proofs.YtgcifpjhhoalmaaDoor
