/- The reference of layer 2: Small; of layer 4: around. -/
import Derived.Test.YtjldfclncipbgaaGreatDoorM1
import Derived.Test.YtjldfclncipbgaaGreatDoorJN
import Derived.Test.YtjldfclncipbgaaGreatDoorBA
import Derived.Test.YtjldfclncipbgaaGreatDoorBJ
import Derived.Test.YtjldfclncipbgaaGreatDoorJU
namespace Go.Proofs.YtjldfclncipbgaaGreatDoor
open Go Go.RowKit Go.PlainAid Fil

theorem div_step (x k : Nat) : x / 2 ^ (8 * (k + 1)) * 256 + dg 8 x k = x / 2 ^ (8 * k) := by
  unfold dg
  rw [show 8 * (k + 1) = 8 * k + 8 by omega, Nat.pow_add, ← Nat.div_div_eq_div_mul]
  have := Nat.div_add_mod (x / 2 ^ (8 * k)) 256
  rw [show (2 : Nat) ^ 8 = 256 by decide]
  omega
set_option maxHeartbeats 2000000 in
theorem r2small_any (x : Nat) (w : World) (hx : Fil.dn 8 x ≤ 16384) :
    Calls Tryz.prog 32 #[.string (bstr x)] w fun r w' => r = .returned (.tuple #[.int .u64 ((if Fil.dn 8 x ≤ 8 then x else 0 : Nat) : Int), .bool (decide (Fil.dn 8 x ≤ 8))]) ∧ w = w' := by
  have hsz := bstr_size x
  have hm := fun W => r2May_any (bstr x) W (by omega)
  rw [natB_bstr hx] at hm
  have hgb := get_bt (bstr x)
  have hbt := fun k h => bstr_bt x k h
  have hlt := lt_dn (k := 8) (by omega) x
  obtain ⟨n, hn⟩ : ∃ n, n = Fil.dn 8 x := ⟨_, rfl⟩
  simp only [← hn] at hsz hx hbt hlt ⊢
  by_cases h8 : n ≤ 8
  · rw [if_pos h8, decide_eq_true h8]
    have hx64 : x < 18446744073709551616 := Nat.lt_of_lt_of_le hlt (Nat.le_trans (pmono (show 8 * n ≤ 64 by omega)) (by decide))
    have HX := Lib.hid (And.intro hbt hlt)
    have h8i : ¬ 8 < (n : Int) := by omega
    clear hbt hlt hn
    go_enter Tryz.func32, Tryz.ntmps32
    go_wp2_with fail
    refine (hm _).mono ?_
    rintro r w1 ⟨rfl, rfl⟩
    clear hm
    go_wp2
    go_loopg [4, 5] n (fun g s4 s5 wr => w = wr ∧ ∃ i : Nat, i ≤ n ∧ g = n - i ∧ s4 = .int .u64 ((x / 2 ^ (8 * (n - i)) : Nat) : Int) ∧ s5 = .int .i64 (i : Int))
    case atStart => exact ⟨rfl, 0, by omega, by omega, by rw [Nat.sub_zero, Nat.div_eq_of_lt HX.out.2]; rfl, rfl⟩
    case round =>
      obtain ⟨rfl, i, hi, hg, rfl, rfl⟩ := hrel
      by_cases hin : i < n
      · have hb : bt (bstr x) i = (dg 8 x (n - 1 - i) : Int) := HX.out.1 i hin
        have hst := div_step x (n - 1 - i)
        rw [show n - 1 - i + 1 = n - i by omega] at hst
        have hle := Nat.div_le_self x (2 ^ (8 * (n - 1 - i)))
        have hd := dg_lt 8 x (n - 1 - i)
        obtain ⟨u, hu⟩ : ∃ u, u = x / 2 ^ (8 * (n - i)) := ⟨_, rfl⟩
        obtain ⟨d, hdd⟩ : ∃ d, d = dg 8 x (n - 1 - i) := ⟨_, rfl⟩
        obtain ⟨v, hv⟩ : ∃ v, v = x / 2 ^ (8 * (n - 1 - i)) := ⟨_, rfl⟩
        rw [← hu, ← hdd, ← hv] at hst
        rw [← hv] at hle
        rw [← hdd] at hb hd
        rw [← hu]
        have e1 : 256 * (u : Int) + (d : Int) = (v : Int) := by omega
        have w1 : IntKind.u64.wrap (d : Int) = (d : Int) := IntWalk.u64_in _ ⟨by omega, by omega⟩
        have hu1 : 256 * (u : Int) < 18446744073709551616 := by omega
        have his : i < (bstr x).size := by omega
        have hv64 : v < 18446744073709551616 := by omega
        have HV := Lib.hid (And.intro hv hg)
        clear hu hdd hv hst hle hg
        go_wp2
        go_roundg (n - (i + 1))
        case measure => have := HV.out.2; omega
        case rel => exact ⟨rfl, i + 1, by omega, rfl, by rw [show n - (i + 1) = n - 1 - i by omega, ← HV.out.1], by go_num⟩
      · obtain rfl : i = n := by omega
        rw [Nat.sub_self, Nat.mul_zero, Nat.pow_zero, Nat.div_one]
        clear hg hi
        go_wp2
        go_returns
        exact ⟨rfl, rfl⟩
  · rw [if_neg h8, decide_eq_false h8]
    have h8i : 8 < (n : Int) := by omega
    clear hbt hlt hn h8
    go_enter Tryz.func32, Tryz.ntmps32
    go_wp2_with fail
    refine (hm _).mono ?_
    rintro r w1 ⟨rfl, rfl⟩
    clear hm
    go_wp2
    go_returns
    exact ⟨rfl, rfl⟩
end Go.Proofs.YtjldfclncipbgaaGreatDoor
