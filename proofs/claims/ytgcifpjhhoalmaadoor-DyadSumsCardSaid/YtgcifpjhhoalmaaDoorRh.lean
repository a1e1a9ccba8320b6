/- The walks over the reference's numbers of any length: cut, at, low. -/
import Derived.Test.YtgcifpjhhoalmaaDoorRg
import Derived.Lib.RabinKarpLaws
namespace Go.Proofs.YtgcifpjhhoalmaaDoor
open Go Go.RowKit Go.PlainAid Fil

/-- a digit to the base 256 as a value -/
def i8 (x j : Nat) : Value := .int .i64 (dg 8 x j)

set_option maxHeartbeats 400000 in
theorem rcut_any (A : Option Addr) (n c x : Nat) (w : World) (hx : x < 2 ^ (8 * n)) (hnc : n ≤ c) (hc : n ≤ 4398046511104) (h : Slc w 3 A n (i8 x)) :
    Calls Tryd.prog 159 #[.slice A n c] w fun e w' => e = .returned (.slice A (Fil.dn 8 x) c) ∧ w = w' := by
  go_enter Tryd.func159, Tryd.ntmps159
  go_wp2
  go_loopg [3] n (fun g s3 wr => w = wr ∧ g ≤ n ∧ s3 = .int .i64 g ∧ x < 2 ^ (8 * g))
  case atStart => exact ⟨rfl, Nat.le_refl _, rfl, hx⟩
  case round =>
    obtain ⟨rfl, hg, rfl, hxg⟩ := hrel
    cases gk with
    | zero =>
      have hz : Fil.dn 8 x = 0 := by have : x = 0 := by simpa using hxg
                                     subst this; exact dn_zero 8
      clear h hx hxg
      go_wp2
      go_ret
      exact ⟨by rw [hz]; rfl, rfl⟩
    | succ k =>
      obtain ⟨b, o, rfl, hb, hcell⟩ := h.cell (by omega)
      have hk := hcell k (by omega)
      simp only [i8] at hk
      have hxx := Lib.hid hxg
      have e1 : ((k + 1 : Nat) : Int) - 1 = k := by omega
      clear h hx hxg hcell
      by_cases hd : dg 8 x k = 0
      · have hd' : ((dg 8 x k : Int) == 0) = true := by simp [hd]
        have hd2 := Lib.hid hd
        clear hd
        go_wp2
        go_roundg k
        case measure => omega
        case rel => exact ⟨rfl, by omega, by go_num, cut_step hxx.out hd2.out⟩
      · have hd' : ((dg 8 x k : Int) == 0) = false := by simpa using hd
        have hd2 := Lib.hid hd
        clear hd
        go_wp2
        go_ret
        exact ⟨by rw [cut_stop (by omega) hxx.out hd2.out]; rfl, rfl⟩

set_option maxHeartbeats 400000 in
theorem rat_any (A : Option Addr) (n c x : Nat) (z : Int) (w : World) (hn : n = Fil.dn 8 x) (h0 : 0 ≤ z) (h8 : n ≤ 4398046511104) (h : Slc w 3 A n (i8 x)) :
    Calls Tryd.prog 158 #[.slice A n c, .int .i64 z] w fun e w' => e = .returned (.int .i64 (dg 8 x z.toNat)) ∧ w = w' := by
  obtain ⟨i, rfl⟩ := Int.eq_ofNat_of_zero_le h0
  rw [Int.toNat_natCast]
  have hx := lt_dn (k := 8) (by omega) x
  rw [← hn] at hx
  by_cases hin : i < n
  · obtain ⟨b, o, rfl, _, hc⟩ := h.cell (by omega)
    have k1 := hc i hin
    simp only [i8] at k1
    clear hc h hn hx
    go_enter Tryd.func158, Tryd.ntmps158
    go_wp2
    go_ret
    exact ⟨rfl, rfl⟩
  · have hz : Hid (dg 8 x i = 0) := Lib.hid (dg_zero_of (Nat.lt_of_lt_of_le hx (pmono (by omega))))
    clear h hn hx
    go_enter Tryd.func158, Tryd.ntmps158
    go_wp2
    go_ret
    exact ⟨by rw [hz.out]; rfl, rfl⟩

/-- a bit by its digit -/
theorem bit_at (x j : Nat) : dg 8 x (j / 8) / 2 ^ (j % 8) % 2 = x / 2 ^ j % 2 := by
  have h1 : (2 : Nat) ^ 8 = 2 ^ (j % 8) * 2 ^ (8 - j % 8) := by rw [← Nat.pow_add]; congr 1; omega
  have h2 : (2 : Nat) ∣ 2 ^ (8 - j % 8) := by
    rw [show 8 - j % 8 = (8 - j % 8 - 1) + 1 by omega, Nat.pow_succ]; exact Nat.dvd_mul_left _ _
  unfold dg
  rw [h1, Nat.mod_mul_right_div_self, Nat.mod_mod_of_dvd _ h2, Nat.div_div_eq_div_mul, ← Nat.pow_add]
  congr 3; omega
theorem bit_tz {x : Nat} (h : x ≠ 0) : x / 2 ^ tz x % 2 = 1 := tz_div h
theorem bit_low {x j : Nat} (hj : j < tz x) : x / 2 ^ j % 2 = 0 := by
  have h1 : x = x / 2 ^ tz x * 2 ^ (tz x - j - 1) * 2 * 2 ^ j := by
    rw [Nat.mul_assoc, Nat.mul_assoc, ← Nat.pow_succ', ← Nat.pow_add, show tz x - j - 1 + (j + 1) = tz x by omega, tz_mul]
  rw [h1, Nat.mul_div_cancel _ (pp j)]
  exact Nat.mul_mod_left _ _

set_option maxHeartbeats 1000000 in
theorem rlow_any (A : Option Addr) (n c x : Nat) (w : World) (hn : n = Fil.dn 8 x) (hx0 : x ≠ 0) (h8 : n ≤ 1048576) (h : Slc w 3 A n (i8 x)) :
    Calls Tryd.prog 160 #[.slice A n c] w fun e w' => e = .returned (.int .i64 (tz x)) ∧ w = w' := by
  have hx := lt_dn (k := 8) (by omega) x
  rw [← hn] at hx
  have ht := tz_le_log hx0
  have hl := (Nat.log2_lt hx0).2 hx
  have htn : tz x < 8 * n := by omega
  have Hb := Lib.hid (bit_tz hx0)
  have Hl := Lib.hid (fun j => @bit_low x j)
  clear hn hx ht hl hx0
  generalize tz x = t at *
  obtain ⟨b, o, rfl, _, hc⟩ := h.cell (by omega)
  have Hc := Lib.hid hc
  clear h hc
  go_enter Tryd.func160, Tryd.ntmps160
  go_wp2
  go_loopg [3] t (fun g s3 wr => w = wr ∧ ∃ j : Nat, j ≤ t ∧ g = t - j ∧ s3 = .int .i64 j)
  case atStart => exact ⟨rfl, 0, by omega, by omega, rfl⟩
  case round =>
    obtain ⟨rfl, j, hj, hg, rfl⟩ := hrel
    have hj8 : j / 8 < n := by omega
    have k1 := Hc.out (j / 8) hj8
    simp only [i8] at k1
    have hd := dg_lt 8 x (j / 8)
    have ha := Go.Proofs.and_one (dg 8 x (j / 8) / 2 ^ (j % 8)) (by have := Nat.div_le_self (dg 8 x (j / 8)) (2 ^ (j % 8)); omega)
    rw [bit_at] at ha
    have hbi := bit_at x j
    have Hg := Lib.hid hg
    clear hg hbi
    rw [← div_cast] at ha
    by_cases hjt : j < t
    · rw [Hl.out j hjt] at ha
      have hq : (bits BinOp.and IntKind.i64 ((dg 8 x (j / 8) : Int) / 2 ^ (j % 8)) 1 == 0) = true := by rw [ha]; rfl
      clear ha
      go_wp2
      go_roundg (t - (j + 1))
      case measure => have := Hg.out; omega
      case rel => exact ⟨rfl, j + 1, by omega, rfl, by go_num⟩
    · obtain rfl : j = t := by omega
      rw [Hb.out] at ha
      have hq : (bits BinOp.and IntKind.i64 ((dg 8 x (j / 8) : Int) / 2 ^ (j % 8)) 1 == 0) = false := by rw [ha]; rfl
      clear ha
      go_wp2
      go_ret
      exact ⟨rfl, rfl⟩
end Go.Proofs.YtgcifpjhhoalmaaDoor
