/- The walks: bits.Len32, bits.TrailingZeros32; wide's size, low. -/
import Derived.Test.YtgcifpjhhoalmaaDoorWe
import Derived.Test.YtgcifpjhhoalmaaDoorTz
import Derived.Shelf.Small.Bits
import Derived.Laws.BitsAllLaws
namespace Go.Proofs.YtgcifpjhhoalmaaDoor
open Go Go.RowKit Fil

def Tryd.lays128_ren : Go.Shelf.Ren := ⟨fun | 128 => 174 | n => n, fun | 51 => 169 | 3 => 3 | 4 => 4 | 46 => 126 | 5 => 5 | 9 => 9 | n => n, fun | n => n⟩
theorem Tryd.lays128 : Go.Proofs.Lays.n128 Tryd.prog Tryd.lays128_ren := {
  mixed := by kernel_rfl
  f128 := Tryd.func174.trans (congrArg some (by kernel_rfl))
  t3 := Tryd.underlying3
  a3 := Tryd.isAgg3
  z3 := Tryd.sizeOf3
  v3 := Tryd.zeroValue3
  t4 := Tryd.underlying4
  a4 := Tryd.isAgg4
  z4 := Tryd.sizeOf4
  v4 := Tryd.zeroValue4
  t5 := Tryd.underlying5
  a5 := Tryd.isAgg5
  z5 := Tryd.sizeOf5
  v5 := Tryd.zeroValue5
  t9 := Tryd.underlying9
  a9 := Tryd.isAgg9
  z9 := Tryd.sizeOf9
  v9 := Tryd.zeroValue9
  t46 := Tryd.underlying126
  a46 := Tryd.isAgg126
  z46 := Tryd.sizeOf126
  v46 := Tryd.zeroValue126
  t51 := Tryd.underlying169
  a51 := Tryd.isAgg169
  z51 := Tryd.sizeOf169
  v51 := Tryd.zeroValue169 }
theorem len32_any (x : Nat) (w : World) (h1 : x < 4294967296) :
    Calls Tryd.prog 174 #[.int .u32 x] w fun e w' => e = .returned (.int .i64 (bl x)) ∧ w = w' :=
  (Any.bits_Len32 Tryd.lays128 x w (by omega) (by omega)).mono fun _ _ ⟨he, hw⟩ => ⟨by rw [he, Int.toNat_natCast, bitLen_log (by omega)]; rfl, hw.symm⟩

/-- math/bits' table in its variable -/
def Tab (w : World) : Prop := ∀ j, j < 32 → w.cell? ⟨1, j, none⟩ = some (.int .u8 (Lib.deBruijn32tab.getD j 0))
theorem Tab.lt {w : World} (h : Tab w) : 1 < w.heap.size := World.block_lt_of_cell? _ _ (h 0 (by omega))
theorem Tab.below {w w' : World} (h : Tab w) (hb : Below w.heap.size w w') : Tab w' := fun j hj => (hb.cell (p := ⟨1, j, none⟩) h.lt).trans (h j hj)
theorem Tab.drewN {w : World} (h : Tab w) (k : Nat) : Tab (w.drewN k) := h
theorem Tab.alloc {w : World} (h : Tab w) (o : Obj) : Tab (w.alloc o) := h.below ((Below.refl _ _).alloc (Nat.le_refl _) _)

theorem tz32_key (x a : Nat) (hx : x < 4294967296) (hx0 : x ≠ 0) (hlow : x &&& (4294967296 - x) = a) :
    bits BinOp.and IntKind.u32 (x : Int) (-(x : Int) % 4294967296) * 125613361 % 4294967296 / 134217728 = ((a * 125613361 % 4294967296 / 134217728 : Nat) : Int) := by
  have e1 : -(x : Int) % 4294967296 = ((4294967296 - x : Nat) : Int) := by omega
  rw [e1, u32_and_nat x _ hx (by omega), hlow]
  omega

set_option maxHeartbeats 1000000 in
theorem tz32_core (x k idx : Nat) (w : World) (hx0 : ((x : Int) == 0) = false)
    (key : bits BinOp.and IntKind.u32 (x : Int) (-(x : Int) % 4294967296) * 125613361 % 4294967296 / 134217728 = (idx : Int))
    (hi : idx < 32) (hk : k < 32) (hcell : w.cell? ⟨1, idx, none⟩ = some (.int .u8 k)) :
    Calls Tryd.prog 175 #[.int .u32 x] w fun e w' => e = .returned (.int .i64 k) ∧ w = w' := by
  go_enter Tryd.func175, Tryd.ntmps175
  go_wp2_with (simp only [key])
  go_ret
  exact ⟨rfl, rfl⟩

theorem tz32_any (x : Nat) (w : World) (hx : x < 4294967296) (hx0 : x ≠ 0) (hT : Tab w) :
    Calls Tryd.prog 175 #[.int .u32 x] w fun e w' => e = .returned (.int .i64 (Lib.ctz 32 x)) ∧ w = w' := by
  obtain ⟨hlow, hk⟩ := Lib.lowest_bit 32 x hx0 hx
  obtain ⟨hi, htab⟩ := Lib.deBruijn32_at _ hk
  have hcell := hT _ hi
  rw [htab] at hcell
  exact tz32_core x _ _ w (by simp; omega) (tz32_key x _ hx hx0 hlow) hi hk hcell

set_option maxHeartbeats 1000000 in
theorem size_any (A : Option Addr) (n c x : Nat) (w : World) (hn : n = dn 32 x) (hc : n ≤ 1099511627776)
    (ha : Slc w 169 A n (d32 x)) :
    Calls Tryd.prog 148 #[.slice A n c] w fun e w' => e = .returned (.int .i64 (bl x)) ∧ w = w' := by
  by_cases h0 : n = 0
  · have hx0 : x = 0 := by rw [h0] at hn; exact dn_eq_zero.1 hn.symm
    subst hx0
    have h0' : ((n : Int) == 0) = true := by simpa using h0
    have Hb := Lib.hid bl_zero
    clear h0 hn
    go_enter Tryd.func148, Tryd.ntmps148
    go_wp2
    go_ret
    exact ⟨by rw [Hb.out]; rfl, rfl⟩
  · have hx0 : x ≠ 0 := by rintro rfl; rw [dn_zero] at hn; exact h0 hn
    obtain ⟨b1, o1, rfl, _, hc1⟩ := ha.cell (by omega)
    obtain ⟨m, rfl⟩ : ∃ m, n = m + 1 := ⟨n - 1, by omega⟩
    have k1 := hc1 m (by omega)
    simp only [d32] at k1
    have hd := dg_lt 32 x m
    have hb := bl_dn (k := 32) (by omega) hx0
    rw [← hn, Nat.add_sub_cancel] at hb
    have Hb := Lib.hid hb
    have hbl := bl_le hd
    have e1 : ((m + 1 : Nat) : Int) - 1 = m := by omega
    have h0' : (((m + 1 : Nat) : Int) == 0) = false := by simp; omega
    clear hc1 hn hb h0 hx0
    go_enter Tryd.func148, Tryd.ntmps148
    go_wp2_with (go_at_call 174; go_must (refine (len32_any (dg 32 x m) _ hd).mono ?_); rintro e w' ⟨rfl, rfl⟩)
    go_ret
    exact ⟨by rw [Hb.out]; exact ret_int (by omega), rfl⟩

set_option maxHeartbeats 1000000 in
theorem low_any (A : Option Addr) (n c x : Nat) (w : World) (hn : n = dn 32 x) (hc : n ≤ 1099511627776)
    (ha : Slc w 169 A n (d32 x)) (hT : Tab w) :
    Calls Tryd.prog 155 #[.slice A n c] w fun e w' => e = .returned (.int .u64 (tz x)) ∧ w = w' := by
  have hx := lt_dn (k := 32) (by omega) x
  rw [← hn] at hx
  have Hx := Lib.hid hx
  have HT := Lib.hid hT
  clear hn hx hT
  go_enter Tryd.func155, Tryd.ntmps155
  go_wp2
  go_loopg [7] n (fun g s7 wr => w = wr ∧ ∃ i : Nat, i ≤ n ∧ g = n - i ∧ s7 = .int .i64 i ∧ x % 2 ^ (32 * i) = 0)
  case atStart => exact ⟨rfl, 0, by omega, by omega, rfl, by simp [Nat.mod_one]⟩
  case round =>
    obtain ⟨rfl, i, hi, hg, rfl, hm⟩ := hrel
    have Hg := Lib.hid hg
    have Hm := Lib.hid hm
    clear hg hm
    by_cases hin : i < n
    · obtain ⟨b1, o1, rfl, _, hc1⟩ := ha.cell (by omega)
      have k1 := hc1 i (by omega)
      simp only [d32] at k1
      have hd := dg_lt 32 x i
      clear hc1
      by_cases hz : dg 32 x i = 0
      · have hz' : ((dg 32 x i : Int) != 0) = false := by simpa using hz
        have Hz := Lib.hid hz
        clear hz
        go_wp2
        go_roundg (n - (i + 1))
        case measure => have := Hg.out; omega
        case rel => exact ⟨rfl, i + 1, by omega, rfl, by go_num, by rw [dg_succ, Hz.out, Hm.out]; simp⟩
      · have hz' : ((dg 32 x i : Int) != 0) = true := by simpa using hz
        have ht := tz_dg Hm.out hz
        have Ht := Lib.hid ht
        have hcl := ctz_lt hz hd
        have Hz := Lib.hid hz
        clear hz ht
        go_wp2_with (go_at_call 175; go_must (refine (tz32_any (dg 32 x i) _ hd Hz.out HT.out).mono ?_); rintro e w' ⟨rfl, rfl⟩)
        go_ret
        exact ⟨by rw [Ht.out]; exact ret_int (by omega), rfl⟩
    · obtain rfl : i = n := by omega
      have hx0 : x = 0 := by rw [← Nat.mod_eq_of_lt Hx.out]; exact Hm.out
      subst hx0
      have Hz := Lib.hid tz_zero
      go_wp2
      go_ret
      exact ⟨by rw [Hz.out]; rfl, rfl⟩
end Go.Proofs.YtgcifpjhhoalmaaDoor
