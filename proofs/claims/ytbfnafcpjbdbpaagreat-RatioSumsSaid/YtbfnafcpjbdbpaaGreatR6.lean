/- The reference of layer 2: ended, Mul, Add, May; the reference of layer 4: times, May. -/
import Derived.Test.YtbfnafcpjbdbpaaGreatR5
import Derived.Test.YtbfnafcpjbdbpaaGreatJD
namespace Go.Proofs.YtbfnafcpjbdbpaaGreat
open Go Go.RowKit Go.PlainAid Fil

/-- a number that may be too long -/
def endV (x : Nat) : Value := if Fil.dn 8 x ≤ 16384 then .tuple #[.string (bstr x), .int .i64 0] else .tuple #[.string { data := #[] }, .int .i64 4]
set_option maxHeartbeats 1000000 in
theorem r2ended_any (x : Nat) (w : World) (hx : Fil.dn 8 x ≤ 1099511627776) :
    Calls Tryz.prog 96 #[.string (bstr x)] w fun r w' => r = .returned (endV x) ∧ w = w' := by
  have hs := bstr_size x
  by_cases h : Fil.dn 8 x ≤ 16384
  · have e : endV x = .tuple #[.string (bstr x), .int .i64 0] := if_pos h
    rw [e]
    obtain ⟨n, hn⟩ : ∃ n, n = Fil.dn 8 x := ⟨_, rfl⟩
    rw [← hn] at hs h hx
    clear e hn
    go_enter Tryz.func96, Tryz.ntmps96
    go_wp2
    go_returns
    exact ⟨rfl, rfl⟩
  · have e : endV x = .tuple #[.string { data := #[] }, .int .i64 4] := if_neg h
    rw [e]
    obtain ⟨n, hn⟩ : ∃ n, n = Fil.dn 8 x := ⟨_, rfl⟩
    rw [← hn] at hs h hx
    clear e hn
    go_enter Tryz.func96, Tryz.ntmps96
    go_wp2
    go_returns
    exact ⟨rfl, rfl⟩
theorem endV_parts (x : Nat) : ∃ (S : ByteArray) (e : Int), endV x = .tuple #[.string S, .int .i64 e] := by
  unfold endV
  split
  · exact ⟨_, _, rfl⟩
  · exact ⟨_, _, rfl⟩
theorem endV_fit {x : Nat} (h : Fil.dn 8 x ≤ 16384) : endV x = .tuple #[.string (bstr x), .int .i64 0] := if_pos h
theorem endV_long {x : Nat} (h : ¬ Fil.dn 8 x ≤ 16384) : endV x = .tuple #[.string { data := #[] }, .int .i64 4] := if_neg h
theorem dn_mul_ge {x y : Nat} (hx : x ≠ 0) (hy : y ≠ 0) : Fil.dn 8 x + Fil.dn 8 y ≤ Fil.dn 8 (x * y) + 1 := by
  have h1 := le_dn (k := 8) x hx
  have h2 := le_dn (k := 8) y hy
  have h3 := Nat.mul_le_mul h1 h2
  rw [← Nat.pow_add, ← Nat.mul_add] at h3
  have h4 := dn_ge (k := 8) (by omega) h3
  have h5 := dn_pos (k := 8) hx
  have h6 := dn_pos (k := 8) hy
  omega
set_option maxHeartbeats 2000000 in
theorem r2Mul_any (x y : Nat) (w : World) (hx : Fil.dn 8 x ≤ 400000) (hy : Fil.dn 8 y ≤ 400000) (h : x ≠ 0 ∧ y ≠ 0 ∨ Fil.dn 8 x + Fil.dn 8 y ≤ 16385) :
    Calls Tryz.prog 95 #[.string (bstr x), .string (bstr y)] w fun r w' => r = .returned (endV (x * y)) ∧ Below w.heap.size w w' := by
  have hsx := bstr_size x
  have hsy := bstr_size y
  have ht := fun W => r2times_any x y W (by omega) (by omega)
  have he := fun W => r2ended_any (x * y) W (Nat.le_trans (mul_dn hx hy) (by omega))
  have hlong : 16385 < Fil.dn 8 x + Fil.dn 8 y → endV (x * y) = .tuple #[.string { data := #[] }, .int .i64 4] := fun hl => by
    refine endV_long ?_
    rcases h with ⟨h1, h2⟩ | h
    · have := dn_mul_ge h1 h2; omega
    · omega
  obtain ⟨S, E, hE⟩ := endV_parts (x * y)
  rw [hE] at hlong he ⊢
  obtain ⟨n, hn⟩ : ∃ n, n = Fil.dn 8 x := ⟨_, rfl⟩
  obtain ⟨m, hm⟩ : ∃ m, m = Fil.dn 8 y := ⟨_, rfl⟩
  rw [← hn] at hsx hx hlong
  rw [← hm] at hsy hy hlong
  have HL := Lib.hid hlong
  have hb := Below.refl w.heap.size w
  clear hn hm h hE hlong
  by_cases hl : 16385 < n + m
  · have e := Lib.hid (HL.out hl)
    clear ht he HL
    go_enter Tryz.func95, Tryz.ntmps95
    go_wp2
    go_returns
    exact ⟨by rw [e.out]; rfl, hb⟩
  · clear HL
    go_enter Tryz.func95, Tryz.ntmps95
    go_wp2_with fail
    refine (ht _).mono ?_
    rintro r w1 ⟨rfl, hb1⟩
    clear ht
    go_wp2_with fail
    refine (he _).mono ?_
    rintro r w1 ⟨rfl, rfl⟩
    clear he
    go_wp2
    go_returns
    exact ⟨rfl, hb1⟩
set_option maxHeartbeats 2000000 in
theorem r2Add_any (x y : Nat) (w : World) (hx : Fil.dn 8 x ≤ 400000) (hy : Fil.dn 8 y ≤ 400000) :
    Calls Tryz.prog 51 #[.string (bstr x), .string (bstr y)] w fun r w' => r = .returned (endV (x + y)) ∧ Below w.heap.size w w' := by
  have ht := fun W => r2plus_any x y W (by omega) (by omega)
  have he := fun W => r2ended_any (x + y) W (Nat.le_trans (add_dn hx hy) (by omega))
  obtain ⟨S, E, hE⟩ := endV_parts (x + y)
  rw [hE] at he ⊢
  clear hE
  go_enter Tryz.func51, Tryz.ntmps51
  go_wp2_with fail
  refine (ht _).mono ?_
  rintro r w1 ⟨rfl, hb1⟩
  clear ht
  go_wp2_with fail
  refine (he _).mono ?_
  rintro r w1 ⟨rfl, rfl⟩
  clear he
  go_wp2
  go_returns
  exact ⟨rfl, hb1⟩
set_option maxHeartbeats 2000000 in
theorem r2May_any (s : ByteArray) (w : World) (hs : s.size ≤ 9223372036854775807) :
    Calls Tryz.prog 48 #[.string s] w fun r w' => r = .returned (.bool (natB s)) ∧ w = w' := by
  by_cases h1 : s.size ≤ 16384
  · by_cases h0 : s.size = 0
    · have e : natB s = true := by unfold natB; rw [h0]; rfl
      have h2 := str_nil h0
      have HE := Lib.hid e
      have t1 : (s.size : Int) ≤ 16384 := by omega
      clear e h0
      go_enter Tryz.func48, Tryz.ntmps48
      go_wp2
      go_ret
      exact ⟨by rw [HE.out]; rfl, rfl⟩
    · have h3 := str_cons (s := s) (by omega)
      have h4 : s.toList ≠ [] := by intro h; rw [h] at h3; cases h3
      have h5 : 0 < s.size := by omega
      have hb := get_bt s
      have hz : natB s = !(bt s 0 == 0) := by unfold natB; rw [decide_eq_true h1, decide_eq_false h0]; rfl
      have HE := Lib.hid hz
      have h6 : (s.size : Int) ≤ 16384 := by omega
      have h7 : (0 : Int) < (s.size : Int) := by omega
      clear hz
      go_enter Tryz.func48, Tryz.ntmps48
      go_wp2
      go_ret
      exact ⟨by rw [HE.out]; rfl, rfl⟩
  · have HE := Lib.hid (natB_len h1)
    have h2 : ¬ (s.size : Int) ≤ 16384 := by omega
    go_enter Tryz.func48, Tryz.ntmps48
    go_wp2
    go_ret
    exact ⟨by rw [HE.out]; rfl, rfl⟩
set_option maxHeartbeats 1000000 in
theorem p4times_any (x y : Nat) (w : World) (h : Fil.dn 8 x + Fil.dn 8 y ≤ 16384) :
    Calls Tryz.prog 50 #[.string (bstr x), .string (bstr y)] w fun r w' => r = .returned (.string (bstr (x * y))) ∧ Below w.heap.size w w' := by
  have hm := fun W => r2Mul_any x y W (by omega) (by omega) (.inr (by omega))
  rw [endV_fit (Nat.le_trans (mul_dn (Nat.le_refl _) (Nat.le_refl _)) h)] at hm
  go_enter Tryz.func50, Tryz.ntmps50
  go_wp2_with fail
  refine (hm _).mono ?_
  rintro r w1 ⟨rfl, hb1⟩
  clear hm
  go_wp2
  go_ret
  exact ⟨rfl, hb1⟩
end Go.Proofs.YtbfnafcpjbdbpaaGreat
