/- The reference of layer 2: Read. -/
import Derived.Test.YtjldfclncipbgaaGreatDoorM1
import Derived.Test.YtjldfclncipbgaaGreatDoorJP
import Derived.Test.YtjldfclncipbgaaGreatDoorJZ
namespace Fil
/-- what is carried after i digits of X times t, n0 more -/
def me (X t n0 i : Nat) : Nat := (X % 2 ^ (8 * i) * t + n0) / 2 ^ (8 * i)
theorem me_zero (X t n0 : Nat) : me X t n0 0 = n0 := by simp [me, Nat.mod_one]
theorem me_sum (X t n0 i : Nat) : me X t n0 i + dg 8 X i * t = (X % 2 ^ (8 * (i + 1)) * t + n0) / 2 ^ (8 * i) := by
  unfold me dg
  rw [show 8 * (i + 1) = 8 * i + 8 by omega, Nat.pow_add, Nat.mod_mul, Nat.add_mul]
  have hp := Nat.two_pow_pos (8 * i)
  rw [show X % 2 ^ (8 * i) * t + 2 ^ (8 * i) * (X / 2 ^ (8 * i) % 2 ^ 8) * t + n0 = (X % 2 ^ (8 * i) * t + n0) + 2 ^ (8 * i) * (X / 2 ^ (8 * i) % 2 ^ 8 * t) by rw [Nat.mul_assoc]; omega, Nat.add_mul_div_left _ _ hp]
theorem me_dg (X t n0 i : Nat) : (me X t n0 i + dg 8 X i * t) % 2 ^ 8 = dg 8 (X * t + n0) i := by
  rw [me_sum]
  unfold dg
  have hp := Nat.two_pow_pos (8 * i)
  conv => rhs; rw [← Nat.mod_add_div X (2 ^ (8 * (i + 1)))]
  rw [Nat.add_mul, show X % 2 ^ (8 * (i + 1)) * t + 2 ^ (8 * (i + 1)) * (X / 2 ^ (8 * (i + 1))) * t + n0 = (X % 2 ^ (8 * (i + 1)) * t + n0) + 2 ^ (8 * i) * (2 ^ 8 * (X / 2 ^ (8 * (i + 1)) * t)) by
    rw [show 8 * (i + 1) = 8 * i + 8 by omega, Nat.pow_add, Nat.mul_assoc, Nat.mul_assoc]; omega, Nat.add_mul_div_left _ _ hp, Nat.add_mul_mod_self_left]
theorem me_succ (X t n0 i : Nat) : (me X t n0 i + dg 8 X i * t) / 2 ^ 8 = me X t n0 (i + 1) := by
  rw [me_sum, Nat.div_div_eq_div_mul, ← Nat.pow_add]
  rfl
theorem me_lt {X t n0 : Nat} (h : n0 < t) (i : Nat) : me X t n0 i < t := by
  unfold me
  have hp := Nat.two_pow_pos (8 * i)
  have h1 := Nat.mod_lt X hp
  rw [Nat.div_lt_iff_lt_mul hp]
  calc X % 2 ^ (8 * i) * t + n0 < X % 2 ^ (8 * i) * t + t := by omega
    _ = (X % 2 ^ (8 * i) + 1) * t := by rw [Nat.add_mul, Nat.one_mul]
    _ ≤ 2 ^ (8 * i) * t := Nat.mul_le_mul_right _ h1
    _ = t * 2 ^ (8 * i) := Nat.mul_comm _ _
theorem me_top {X t n0 m : Nat} (hX : X < 2 ^ (8 * m)) : me X t n0 m = (X * t + n0) / 2 ^ (8 * m) := by unfold me; rw [Nat.mod_eq_of_lt hX]
theorem me_more {X t n0 m : Nat} (hX : X < 2 ^ (8 * m)) (h : me X t n0 m < 256) : X * t + n0 < 2 ^ (8 * (m + 1)) ∧ dg 8 (X * t + n0) m = me X t n0 m := by
  have hp := Nat.two_pow_pos (8 * m)
  rw [me_top hX] at h ⊢
  refine ⟨?_, ?_⟩
  · rw [Nat.div_lt_iff_lt_mul hp] at h
    rw [show 8 * (m + 1) = 8 + 8 * m by omega, Nat.pow_add]; exact h
  · unfold dg; exact Nat.mod_eq_of_lt h
theorem me_done {X t n0 m : Nat} (hX : X < 2 ^ (8 * m)) (h : me X t n0 m = 0) : X * t + n0 < 2 ^ (8 * m) := by
  have hp := Nat.two_pow_pos (8 * m)
  rw [me_top hX] at h
  rcases Nat.div_eq_zero_iff.1 h with h | h
  · omega
  · exact h
end Fil
namespace Go.Proofs.YtjldfclncipbgaaGreatDoor
open Go Go.RowKit Go.PlainAid Fil

theorem Own.cap {w : World} {B : Nat} {v : Value} {n : Nat} {f : Nat → Int} (h : Own w B v n f) (h0 : 0 < n) : ∃ (g cap : Nat) (F : Nat → Value), v = .slice (some ⟨g, 0, none⟩) n cap ∧ B ≤ g ∧ g < w.heap.size ∧ n ≤ cap ∧ cap ≤ maxLen ∧ w.rowIs g 3 cap F ∧ ∀ (j : Nat), j < n → F j = .int .i64 (f j) := by
  rcases h.2 with ⟨rfl, rfl⟩ | ⟨g, cap, cur, rfl, hB, hh, hc, hx, hs, ht⟩
  · omega
  · refine ⟨g, cap, fun j => cur.getD j undef, rfl, hB, lt_of_heap hh, hc, hx, ⟨cur, hh, by simpa using hs, fun i hi => ?_⟩, fun j hj => ?_⟩
    · have : i < cur.size := by rw [show cur.size = cap by simpa using hs]; exact hi
      simp [this]
    · have h1 : (cur.toList.take (n * 1))[j]? = ((List.range n).map fun i => Value.int .i64 (f i))[j]? := by rw [ht]
      rw [List.getElem?_take_of_lt (by omega), List.getElem?_map, List.getElem?_range hj] at h1
      have h2 : cur[j]? = some (.int .i64 (f j)) := by simpa using h1
      show cur.getD j undef = _
      rw [Array.getD_eq_getD_getElem?, h2]; rfl
theorem Own.of_row {w : World} {B g n cap : Nat} {F : Nat → Value} {f : Nat → Int} (hg : B ≤ g) (hn : n ≤ cap) (hc : cap ≤ maxLen) (h : w.rowIs g 3 cap F) (hf : ∀ j, j < n → F j = .int .i64 (f j)) : Own w B (.slice (some ⟨g, 0, none⟩) n cap) n f := by
  obtain ⟨cur, hh, hs, hcell⟩ := h
  refine ⟨by simp, .inr ⟨g, cap, cur, rfl, hg, hh, hn, hc, by simpa using hs, ?_⟩⟩
  apply List.ext_getElem?
  intro j
  by_cases hj : j < n
  · rw [List.getElem?_take_of_lt (by omega), List.getElem?_map, List.getElem?_range hj]
    have := hcell j (by omega)
    rw [hf j hj] at this
    simpa using this
  · rw [List.getElem?_eq_none (by simp; omega), List.getElem?_eq_none (by simp; omega)]
/-- what Read tells of a text -/
def readV (s : ByteArray) : Value := if goodB s.data.toList then (if 49152 < s.size then .tuple #[.string { data := #[] }, .int .i64 4] else endV (dval 0 s.data.toList)) else .tuple #[.string { data := #[] }, .int .i64 22]
set_option maxRecDepth 1000000 in
set_option maxHeartbeats 8000000 in
/-- digits, but too many -/
theorem r2read_long (s : ByteArray) (w : World) (h0 : 0 < s.size) (hh : s.size = 1 ∨ (s[0]'h0).toNat ≠ 48) (hd : ∀ (i : Nat) (h : i < s.size), 48 ≤ (s[i]'h).toNat ∧ (s[i]'h).toNat ≤ 57) (hs : 49152 < s.size) (hs2 : s.size ≤ 9223372036854775807) :
    Calls Tryz.prog 31 #[.string s] w fun e w' => e = .returned (.tuple #[.string { data := #[] }, .int .i64 4]) ∧ Below w.heap.size w w' := by
  have e0 := str_cons h0
  have B0 := Below.refl w.heap.size w
  go_enter Tryz.func31, Tryz.ntmps31
  go_upto_region 1 with fail
  go_cut [20] (fun s20 wx => s20 = .bool false ∧ Below w.heap.size w wx)
  case first =>
    rcases hh with h | h
    · obtain ⟨c, hc⟩ : ∃ c, (s[0]'h0).toNat = c := ⟨_, rfl⟩
      have h1 : ¬ (1 : Int) < (s.size : Int) := by omega
      by_cases h48 : c = 48
      · have t1 : ((c : Int) == 48) = true := by simp; omega
        go_wp2_with fail
        go_meet
        exact ⟨by first | rfl | simp, B0⟩
      · have t1 : ((c : Int) == 48) = false := by simp; omega
        go_wp2_with fail
        go_meet
        exact ⟨by first | rfl | simp, B0⟩
    · obtain ⟨c, hc⟩ : ∃ c, (s[0]'h0).toNat = c := ⟨_, rfl⟩
      rw [hc] at h
      have t1 : ((c : Int) == 48) = false := by simp; omega
      go_wp2_with fail
      go_meet
      exact ⟨by first | rfl | simp, B0⟩
  case rest =>
    clear B0
    obtain ⟨rfl, B0⟩ := hcut
    generalize wc = v1 at *
    go_wp2_with fail
    go_loopg [4] s.size (fun g s4 wr => ∃ i : Nat, i ≤ s.size ∧ g = s.size - i ∧ s4 = .int .i64 i ∧ wr = v1)
    case atStart => exact ⟨0, by omega, by omega, rfl, rfl⟩
    case round =>
      obtain ⟨i, hi, hg, rfl, rfl⟩ := hrel
      by_cases hlt : i < s.size
      · obtain ⟨ha, hz⟩ := hd i hlt
        obtain ⟨c, hc⟩ : ∃ c, (s[i]'hlt).toNat = c := ⟨_, rfl⟩
        rw [hc] at ha hz
        have t1 : decide ((c : Int) < 48) = false := decide_eq_false (by omega)
        have t2 : decide ((57 : Int) < c) = false := decide_eq_false (by omega)
        go_wp2
        go_roundg (s.size - (i + 1))
        case measure => omega
        case rel => exact ⟨i + 1, by omega, rfl, by go_num, rfl⟩
      · obtain rfl : i = s.size := by omega
        go_wp2
        go_ret2
        exact ⟨rfl, B0⟩
set_option maxRecDepth 1000000 in
set_option maxHeartbeats 8000000 in
theorem r2read_nil (w : World) :
    Calls Tryz.prog 31 #[.string ⟨#[]⟩] w fun e w' => e = .returned (.tuple #[.string { data := #[] }, .int .i64 22]) ∧ Below w.heap.size w w' := by
  have B0 := Below.refl w.heap.size w
  go_enter Tryz.func31, Tryz.ntmps31
  go_wp2
  go_ret2
  exact ⟨rfl, B0⟩
set_option maxRecDepth 1000000 in
set_option maxHeartbeats 8000000 in
theorem r2read_nought (s : ByteArray) (w : World) (h0 : 0 < s.size) (h : (s[0]'h0).toNat = 48) (h1 : 1 < s.size) :
    Calls Tryz.prog 31 #[.string s] w fun e w' => e = .returned (.tuple #[.string { data := #[] }, .int .i64 22]) ∧ Below w.heap.size w w' := by
  have e0 := str_cons h0
  have B0 := Below.refl w.heap.size w
  obtain ⟨c, hc⟩ : ∃ c, (s[0]'h0).toNat = c := ⟨_, rfl⟩
  have t1 : ((c : Int) == 48) = true := by simp; omega
  have t2 : (1 : Int) < (s.size : Int) := by omega
  clear h
  go_enter Tryz.func31, Tryz.ntmps31
  go_wp2
  go_ret2
  exact ⟨rfl, B0⟩
set_option maxRecDepth 1000000 in
set_option maxHeartbeats 8000000 in
/-- a byte that is no digit -/
theorem r2read_sign (s : ByteArray) (w : World) (h0 : 0 < s.size) (hh : s.size = 1 ∨ (s[0]'h0).toNat ≠ 48) (k : Nat) (hk : k < s.size) (hkd : (s[k]'hk).toNat < 48 ∨ 57 < (s[k]'hk).toNat) (hd : ∀ (i : Nat) (h : i < k), 48 ≤ (s[i]'(by omega)).toNat ∧ (s[i]'(by omega)).toNat ≤ 57) (hs2 : s.size ≤ 9223372036854775807) :
    Calls Tryz.prog 31 #[.string s] w fun e w' => e = .returned (.tuple #[.string { data := #[] }, .int .i64 22]) ∧ Below w.heap.size w w' := by
  have e0 := str_cons h0
  have B0 := Below.refl w.heap.size w
  go_enter Tryz.func31, Tryz.ntmps31
  go_upto_region 1 with fail
  go_cut [20] (fun s20 wx => s20 = .bool false ∧ Below w.heap.size w wx)
  case first =>
    rcases hh with h | h
    · obtain ⟨c, hc⟩ : ∃ c, (s[0]'h0).toNat = c := ⟨_, rfl⟩
      have h1 : ¬ (1 : Int) < (s.size : Int) := by omega
      by_cases h48 : c = 48
      · have t1 : ((c : Int) == 48) = true := by simp; omega
        go_wp2_with fail
        go_meet
        exact ⟨by first | rfl | simp, B0⟩
      · have t1 : ((c : Int) == 48) = false := by simp; omega
        go_wp2_with fail
        go_meet
        exact ⟨by first | rfl | simp, B0⟩
    · obtain ⟨c, hc⟩ : ∃ c, (s[0]'h0).toNat = c := ⟨_, rfl⟩
      rw [hc] at h
      have t1 : ((c : Int) == 48) = false := by simp; omega
      go_wp2_with fail
      go_meet
      exact ⟨by first | rfl | simp, B0⟩
  case rest =>
    clear B0
    obtain ⟨rfl, B0⟩ := hcut
    generalize wc = v1 at *
    go_wp2_with fail
    go_loopg [4] (k + 1) (fun g s4 wr => ∃ i : Nat, i ≤ k ∧ g = k + 1 - i ∧ s4 = .int .i64 i ∧ wr = v1)
    case atStart => exact ⟨0, by omega, by omega, rfl, rfl⟩
    case round =>
      obtain ⟨i, hi, hg, rfl, rfl⟩ := hrel
      have hlt : i < s.size := by omega
      by_cases hik : i < k
      · obtain ⟨ha, hz⟩ := hd i hik
        obtain ⟨c, hc⟩ : ∃ c, (s[i]'hlt).toNat = c := ⟨_, rfl⟩
        rw [hc] at ha hz
        have t1 : decide ((c : Int) < 48) = false := decide_eq_false (by omega)
        have t2 : decide ((57 : Int) < c) = false := decide_eq_false (by omega)
        clear hkd
        go_wp2
        go_roundg (k + 1 - (i + 1))
        case measure => omega
        case rel => exact ⟨i + 1, by omega, by omega, by go_num, rfl⟩
      · obtain rfl : i = k := by omega
        obtain ⟨c, hc⟩ : ∃ c, (s[i]'hk).toNat = c := ⟨_, rfl⟩
        rw [hc] at hkd
        by_cases h48 : c < 48
        · have t1 : decide ((c : Int) < 48) = true := decide_eq_true (by omega)
          clear hkd
          go_wp2
          go_ret2
          exact ⟨rfl, B0⟩
        · have t1 : decide ((c : Int) < 48) = false := decide_eq_false (by omega)
          have t2 : decide ((57 : Int) < c) = true := decide_eq_true (by omega)
          clear hkd
          go_wp2
          go_ret2
          exact ⟨rfl, B0⟩
/-- the row of digits while ten times it and a digit more is reckoned -/
def tenR (X d k j : Nat) : Int := if j < k then (dg 8 (X * 10 + d) j : Nat) else (dg 8 X j : Nat)
set_option maxRecDepth 1000000 in
set_option maxHeartbeats 8000000 in
theorem r2read_good (s : ByteArray) (w : World) (h0 : 0 < s.size) (hh : s.size = 1 ∨ (s[0]'h0).toNat ≠ 48) (hd : ∀ (i : Nat) (h : i < s.size), 48 ≤ (s[i]'h).toNat ∧ (s[i]'h).toNat ≤ 57) (hs : s.size ≤ 49152) (S : ByteArray) (E : Int) (hV : endV (dvt s s.size) = .tuple #[.string S, .int .i64 E]) :
    Calls Tryz.prog 31 #[.string s] w fun e w' => e = .returned (.tuple #[.string S, .int .i64 E]) ∧ Below w.heap.size w w' := by
  have HV := Lib.hid hV
  clear hV
  obtain ⟨i0, hi, hp⟩ := Option.map_eq_some_iff.1 Tryz.info3
  have hz0 : i0.zero = some (.int .i64 0) := congrArg Prod.fst hp
  have hz1 : i0.size = 1 := congrArg (fun q => q.2.1) hp
  have hz2 : i0.bytes = 8 := congrArg (fun q => q.2.2) hp
  clear hp
  have e0 := str_cons h0
  have B0 := Below.refl w.heap.size w
  go_enter Tryz.func31, Tryz.ntmps31
  go_upto_region 1 with fail
  go_cut [20] (fun s20 wx => s20 = .bool false ∧ Below w.heap.size w wx)
  case first =>
    rcases hh with h | h
    · obtain ⟨c, hc⟩ : ∃ c, (s[0]'h0).toNat = c := ⟨_, rfl⟩
      have h1 : ¬ (1 : Int) < (s.size : Int) := by omega
      by_cases h48 : c = 48
      · have t1 : ((c : Int) == 48) = true := by simp; omega
        go_wp2_with fail
        go_meet
        exact ⟨by first | rfl | simp, B0⟩
      · have t1 : ((c : Int) == 48) = false := by simp; omega
        go_wp2_with fail
        go_meet
        exact ⟨by first | rfl | simp, B0⟩
    · obtain ⟨c, hc⟩ : ∃ c, (s[0]'h0).toNat = c := ⟨_, rfl⟩
      rw [hc] at h
      have t1 : ((c : Int) == 48) = false := by simp; omega
      go_wp2_with fail
      go_meet
      exact ⟨by first | rfl | simp, B0⟩
  case rest =>
    clear B0
    obtain ⟨rfl, B0⟩ := hcut
    generalize wc = v1 at *
    have HD := Lib.hid hd
    go_wp2_with fail
    go_loopg [4] s.size (fun g s4 wr => ∃ i : Nat, i ≤ s.size ∧ g = s.size - i ∧ s4 = .int .i64 i ∧ wr = v1)
    case atStart => exact ⟨0, by omega, by omega, rfl, rfl⟩
    case round =>
      obtain ⟨i, hi9, hg, rfl, rfl⟩ := hrel
      by_cases hlt : i < s.size
      · obtain ⟨ha, hz⟩ := hd i hlt
        obtain ⟨c, hc⟩ : ∃ c, (s[i]'hlt).toNat = c := ⟨_, rfl⟩
        rw [hc] at ha hz
        have t1 : decide ((c : Int) < 48) = false := decide_eq_false (by omega)
        have t2 : decide ((57 : Int) < c) = false := decide_eq_false (by omega)
        go_wp2
        go_roundg (s.size - (i + 1))
        case measure => omega
        case rel => exact ⟨i + 1, by omega, rfl, by go_num, rfl⟩
      · obtain rfl : i = s.size := by omega
        clear hd hlt hg hi9
        go_wp2_with fail
        go_loopg [5, 6, 7, 8] s.size (fun g s5 s6 s7 s8 wr => ∃ (i n : Nat) (v : Value), v = s5 ∧ i ≤ s.size ∧ n ≤ i ∧ g = s.size - i ∧ s6 = .int .i64 i ∧ Own wr w.heap.size v n (fun j => (dg 8 (dvt s i) j : Int)) ∧ dvt s i < 2 ^ (8 * n) ∧ Below w.heap.size w wr)
        case atStart => exact ⟨0, 0, _, rfl, by omega, by omega, rfl, rfl, Own.nil _ _ _, by rw [dvt_zero]; decide, B0⟩
        case round =>
          clear B0
          obtain ⟨i, n, v, rfl, hi9, hni, hgk, rfl, hown, hX, hbel⟩ := hrel
          have Hg := Lib.hid hgk
          clear hgk
          by_cases hlt : i < s.size
          · obtain ⟨ha, hz⟩ := HD.out i hlt
            have HS := Lib.hid (dvt_succ hlt)
            obtain ⟨c, hc⟩ : ∃ c, (s[i]'hlt).toNat = c := ⟨_, rfl⟩
            rw [hc] at ha hz HS
            obtain ⟨d, hdd⟩ : ∃ d, d = c - 48 := ⟨_, rfl⟩
            have ed : (c : Int) - 48 = (d : Int) := by omega
            have hd9 : d < 10 := by omega
            have HC := Lib.hid (And.intro hdd hX)
            have t1 : decide ((i : Int) < s.size) = true := decide_eq_true (by omega)
            obtain ⟨X, hXe⟩ : ∃ X, X = dvt s i := ⟨_, rfl⟩
            rw [← hXe] at HC hown HS
            have HX := Lib.hid hXe
            clear hdd hX hXe
            go_wp2_with fail
            go_loopg [5, 7, 8] (n + 2) (fun g2 s5 s7 s8 w2 => ∃ (k m t : Nat) (v : Value), v = s5 ∧ s7 = .int .i64 t ∧ s8 = .int .i64 k ∧ g2 = n + 2 - k ∧ (k ≤ n ∧ m = n ∧ t = me X 10 d k ∨ k = n + 1 ∧ m = n + 1 ∧ t = 0 ∧ X * 10 + d < 2 ^ (8 * (n + 1))) ∧ Own w2 w.heap.size v m (tenR X d k) ∧ Below w.heap.size w w2)
            case atStart => exact ⟨0, n, d, _, rfl, by go_num, rfl, by omega, .inl ⟨by omega, rfl, (me_zero _ _ _).symm⟩, hown.congr (fun j _ => (if_neg (by omega)).symm), hbel⟩
            case round =>
              clear hown hbel
              obtain ⟨k, m, t, v, rfl, rfl, rfl, hg2, hway, hown, hbel⟩ := hrel
              have Hg2 := Lib.hid hg2
              clear hg2
              by_cases hkn : k < n
              · obtain ⟨hk1, rfl, ht⟩ : k ≤ n ∧ m = n ∧ t = me X 10 d k := by
                  rcases hway with h | h
                  · exact h
                  · omega
                clear hway
                obtain ⟨g, cap, F, rfl, hB, _, hmc, hcx, hrow, hF⟩ := hown.cap (by omega)
                have q1 := me_dg X 10 d k
                have q2 := me_succ X 10 d k
                have q3 := me_lt hd9 (X := X) k
                have q4 := dg_lt 8 X k
                rw [← ht] at q1 q2 q3
                have cell := hrow.cell (i := k) (by omega)
                have frz := hrow.frozen k
                rw [hF k hkn, tenR, if_neg (Nat.lt_irrefl k)] at cell
                have HF := Lib.hid (And.intro hF (And.intro hcx hB))
                obtain ⟨D, hD⟩ : ∃ D, D = dg 8 X k := ⟨_, rfl⟩
                rw [← hD] at q1 q2 q4 cell
                obtain ⟨N, hN⟩ : ∃ N, N = t + D * 10 := ⟨_, rfl⟩
                rw [← hN] at q1 q2
                have HQ := Lib.hid (And.intro q1 q2)
                have W1 : IntKind.i64.wrap ((10 : Int) * (D : Int)) = 10 * (D : Int) := IntWalk.i64_in _ (by omega)
                have W2 : IntKind.i64.wrap ((t : Int) + 10 * (D : Int)) = (N : Int) := by rw [IntWalk.i64_in _ (by omega)]; omega
                have E1 : (t : Int) + 10 * (D : Int) = (N : Int) := by omega
                have hNb : N < 100000 := by omega
                obtain ⟨a, ha2⟩ : ∃ a, a = N % 256 := ⟨_, rfl⟩
                obtain ⟨b, hb2⟩ : ∃ b, b = N / 256 := ⟨_, rfl⟩
                have E2 : (N : Int) % 256 = (a : Int) := by omega
                have E3 : (N : Int) / 256 = (b : Int) := by omega
                have E4 : (N : Int).tmod 256 = (a : Int) := by rw [Int.tmod_eq_emod_of_nonneg (by omega)]; exact E2
                have E5 : (N : Int).tdiv 256 = (b : Int) := by rw [Int.tdiv_eq_ediv_of_nonneg (by omega)]; exact E3
                have HA := Lib.hid (And.intro ha2 hb2)
                have hgw : w.heap.size ≤ g := hB
                have HB2 := Lib.hid (And.intro hrow hbel)
                have hnk : ¬ k = m := by omega
                have t3 : decide ((k : Int) < m) = true := decide_eq_true (by omega)
                clear q1 q2 ht hF hown hB hD hN ha2 hb2 hrow hbel
                go_wp2
                go_roundg (m + 2 - (k + 1))
                case measure => have := Hg2.out; omega
                case rel =>
                  refine ⟨k + 1, m, b, _, rfl, by go_num, by go_num, rfl, .inl ⟨by omega, rfl, by rw [← HQ.out.2]; exact HA.out.2⟩, Own.of_row HF.out.2.2 hmc HF.out.2.1 (HB2.out.1.set k _) (fun q hq => ?_), HB2.out.2.setCell HF.out.2.2 _⟩
                  by_cases hqk : q = k
                  · subst hqk
                    rw [if_pos rfl, tenR, if_pos (Nat.lt_succ_self q), ← HQ.out.1, HA.out.1]
                  · rw [if_neg hqk, HF.out.1 q hq]
                    unfold tenR
                    by_cases hq2 : q < k
                    · rw [if_pos hq2, if_pos (by omega)]
                    · rw [if_neg hq2, if_neg (by omega)]
              · have hend : k = m ∧ t = 0 ∧ X * 10 + d < 2 ^ (8 * m) ∧ m ≤ n + 1 ∨ n = k ∧ n = m ∧ 0 < t ∧ t < 10 ∧ X * 10 + d < 2 ^ (8 * (n + 1)) ∧ dg 8 (X * 10 + d) n = t := by
                  rcases hway with ⟨h1, rfl, h3⟩ | ⟨h1, h2, h3, h4⟩
                  · obtain rfl : k = m := by omega
                    have hlt3 := me_lt hd9 (X := X) k
                    rcases Nat.eq_zero_or_pos t with h | h
                    · exact .inl ⟨rfl, h, me_done HC.out.2 (by omega), by omega⟩
                    · have := me_more HC.out.2 (n0 := d) (t := 10) (by omega)
                      exact .inr ⟨rfl, rfl, h, by omega, this.1, by rw [this.2, h3]⟩
                  · exact .inl ⟨by omega, h3, by rw [h2]; exact h4, by omega⟩
                clear hway
                obtain ⟨A', c', rfl, hnc', _⟩ := Own.slc hown
                rcases hend with ⟨rfl, rfl, hlow, hm1⟩ | ⟨rfl, rfl, ht0, ht10, hY, hdg⟩
                · have HL := Lib.hid (And.intro hlow hm1)
                  have hown2 := hown.congr (g := fun j => (dg 8 (X * 10 + d) j : Int)) (fun j hj => if_pos hj)
                  have t3 : decide ((k : Int) < k) = false := decide_eq_false (by omega)
                  clear hlow hm1 hown
                  go_wp2
                  go_roundg (s.size - (i + 1))
                  case measure => have := Hg.out; omega
                  case rel =>
                    have e : dvt s (i + 1) = X * 10 + d := by rw [HS.out, ← HC.out.1, Nat.mul_comm]
                    exact ⟨i + 1, k, _, rfl, by omega, by have := HL.out; omega, rfl, by go_num, by rw [e]; exact hown2, by rw [e]; exact HL.out.1, hbel⟩
                · have HY := Lib.hid (And.intro hY hdg)
                  have hbs := hbel.size
                  have t3 : decide ((n : Int) < n) = false := decide_eq_false (by omega)
                  have t4 : decide ((0 : Int) < t) = true := decide_eq_true (by omega)
                  have hkb : n ≤ 49152 := by omega
                  clear hY hdg
                  go_wp2_with (at_builtin; refine wpList_append_own _ rfl _ _ 97 rfl w.heap.size 3 i0 (.int .i64 0) 1 8 Tryz.underlying97 hi hz0 hz1 hz2 rfl (by decide) _ _ _ rfl (by exact hown.alloc _) ⟨wr.heap.size, 0, none⟩ 1 1 [.int .i64 0] rfl rfl ?c1 ?c2 ?c3 ?c4 ?c5 ?_)
                  case c1 =>
                    intro j u hj
                    match j, hj with
                    | 0, hj => simp at hj; subst hj; simp [Addr.add]
                  case c2 => intro u hu; simp at hu; subst hu; rfl
                  case c3 => unfold maxLen; omega
                  case c4 => omega
                  case c5 => simp; omega
                  · intro v' w3 hown' hgrow _
                    have hb3 := (hbel.alloc hbs (.cells #[.int .i64 0] 3)).grown hgrow (by simp; omega) (fun k hk => (hown.lt k hk).1)
                    have hown3 : Own w3 w.heap.size v' (n + 1) (fun j => if j = n then 0 else tenR X d n j) := by
                      rw [own_grow (g := fun j => if j = n then 0 else tenR X d n j) (fun i hi => by rw [if_neg (by omega)]) (by rw [if_pos rfl])] at hown'
                      exact hown'
                    clear hown hown' hgrow hbel
                    obtain ⟨g, cap, F, rfl, hB, _, hmc, hcx, hrow, hF⟩ := hown3.cap (by omega)
                    have cell := hrow.cell (i := n) (by omega)
                    have frz := hrow.frozen n
                    rw [hF n (by omega), if_pos rfl] at cell
                    have HF := Lib.hid (And.intro hF (And.intro hcx hB))
                    have E2 : (t : Int) % 256 = (t : Int) := by omega
                    have E3 : (t : Int) / 256 = 0 := by omega
                    have E4 : (t : Int).tmod 256 = (t : Int) := by rw [Int.tmod_eq_emod_of_nonneg (by omega)]; exact E2
                    have E5 : (t : Int).tdiv 256 = 0 := by rw [Int.tdiv_eq_ediv_of_nonneg (by omega)]; exact E3
                    have hgw : w.heap.size ≤ g := hB
                    have HB2 := Lib.hid (And.intro hrow hb3)
                    clear hF hown3 hB hrow hb3
                    go_wp2
                    go_roundg (n + 2 - (n + 1))
                    case measure => have := Hg2.out; omega
                    case rel =>
                      refine ⟨n + 1, n + 1, 0, _, rfl, by go_num, by go_num, rfl, .inr ⟨rfl, rfl, rfl, HY.out.1⟩, Own.of_row HF.out.2.2 hmc HF.out.2.1 (HB2.out.1.set n _) (fun q hq => ?_), HB2.out.2.setCell HF.out.2.2 _⟩
                      by_cases hqk : q = n
                      · subst hqk
                        rw [if_pos rfl, tenR, if_pos (Nat.lt_succ_self q), HY.out.2]
                      · rw [if_neg hqk, HF.out.1 q hq, if_neg hqk]
                        unfold tenR
                        rw [if_pos (by omega), if_pos (by omega)]
          · obtain rfl : i = s.size := by omega
            obtain ⟨A, c, rfl, hnc, hsl⟩ := Own.slc hown
            have hmk := fun W h => r2made_gen A n c (dvt s s.size) W hX (by omega) h
            have hen := fun W => r2ended_any (dvt s s.size) W (Nat.le_trans (dn_le (by omega) hX) (by omega))
            rw [HV.out] at hen
            have HM := Lib.hid hmk
            clear hown hmk
            go_wp2_with fail
            refine (HM.out _ hsl).mono ?_
            rintro r w3 ⟨rfl, hb3⟩
            go_wp2_with fail
            refine (hen _).mono ?_
            rintro r w4 ⟨rfl, rfl⟩
            go_wp2
            go_ret2
            exact ⟨rfl, hbel.trans (hb3.mono hbel.size)⟩
theorem nil_of_size {s : ByteArray} (h : s.size = 0) : s = ⟨#[]⟩ := by
  have h2 : s.data.size = 0 := h
  have h3 : s.data = #[] := Array.eq_empty_of_size_eq_zero h2
  obtain ⟨d⟩ := s
  simp only at h3
  rw [h3]
theorem r2read_any (s : ByteArray) (w : World) (hs : s.size ≤ 9223372036854775807) :
    Calls Tryz.prog 31 #[.string s] w fun e w' => e = .returned (readV s) ∧ Below w.heap.size w w' := by
  unfold readV
  by_cases hg : goodL s.data.toList
  · have hgb : goodB s.data.toList = true := decide_eq_true hg
    rw [if_pos hgb]
    have h0 := good_pos hg
    have hh : s.size = 1 ∨ (s[0]'h0).toNat ≠ 48 := by
      by_cases h : (s[0]'h0).toNat = 48
      · exact .inl (good_head hg h)
      · exact .inr h
    by_cases hl : 49152 < s.size
    · rw [if_pos hl]
      exact r2read_long s w h0 hh (good_all hg) hl hs
    · rw [if_neg hl]
      obtain ⟨S, E, hV⟩ := endV_parts (dval 0 s.data.toList)
      rw [hV]
      exact r2read_good s w h0 hh (good_all hg) (by omega) S E (by rw [dvt_size]; exact hV)
  · have hgb : ¬ goodB s.data.toList = true := fun h => hg (of_decide_eq_true h)
    rw [if_neg hgb]
    rcases Nat.eq_zero_or_pos s.size with h0 | h0
    · rw [nil_of_size h0]; exact r2read_nil w
    · by_cases h48 : (s[0]'h0).toNat = 48 ∧ 1 < s.size
      · exact r2read_nought s w h0 h48.1 h48.2
      · have hh : s.size = 1 ∨ (s[0]'h0).toNat ≠ 48 := by omega
        by_cases hd : ∀ (i : Nat) (h : i < s.size), 48 ≤ (s[i]'h).toNat ∧ (s[i]'h).toNat ≤ 57
        · exact absurd (good_of h0 hd fun h => by omega) hg
        · obtain ⟨k, hk, ha, hb⟩ := first_bad hd
          exact r2read_sign s w h0 hh k hk (by omega) ha hs
end Go.Proofs.YtjldfclncipbgaaGreatDoor
