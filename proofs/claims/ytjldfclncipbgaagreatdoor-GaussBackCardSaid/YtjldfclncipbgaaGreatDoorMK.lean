/- nat.limbs: cut, len, shut. -/
import Derived.Test.YtjldfclncipbgaaGreatDoorB4
namespace Go.Proofs.YtjldfclncipbgaaGreatDoor
open Go Go.RowKit Go.PlainAid Fil

set_option maxRecDepth 100000 in
set_option maxHeartbeats 1000000 in
theorem ncut_any (A : Option Addr) (n c x : Nat) (w : World) (hx : x < 2 ^ (32 * n)) (hnc : n ≤ c) (hc : n ≤ 4398046511104) (h : Slc w 89 A n (d32 x)) :
    Calls Tryz.prog 113 #[.slice A n c] w fun e w' => e = .returned (.slice A (dn 32 x) c) ∧ w = w' := by
  go_enter Tryz.func113, Tryz.ntmps113
  go_wp2
  go_loopg [3] n (fun g s3 wr => w = wr ∧ g ≤ n ∧ s3 = .int .i64 g ∧ x < 2 ^ (32 * g))
  case atStart => exact ⟨rfl, Nat.le_refl _, rfl, hx⟩
  case round =>
    obtain ⟨rfl, hg, rfl, hxg⟩ := hrel
    cases gk with
    | zero =>
      have hz : dn 32 x = 0 := by have : x = 0 := by simpa using hxg
                                  subst this; exact dn_zero 32
      clear h hx hxg
      go_wp2
      go_ret
      exact ⟨by rw [hz]; rfl, rfl⟩
    | succ k =>
      obtain ⟨b, o, rfl, hb, hcell⟩ := h.cell (by omega)
      have hk := hcell k (by omega)
      simp only [d32] at hk
      have hxx := Lib.hid hxg
      have ek : ((k + 1 : Nat) : Int) - 1 = (k : Int) := by omega
      have hkn : k < n := by omega
      clear h hx hxg hcell
      by_cases hd : dg 32 x k = 0
      · have hd' : ((dg 32 x k : Int) == 0) = true := by simp [hd]
        have hd2 := Lib.hid hd
        clear hd
        go_wp2
        go_roundg k
        case measure => omega
        case rel => exact ⟨rfl, by omega, by go_num, cut_step hxx.out hd2.out⟩
      · have hd' : ((dg 32 x k : Int) == 0) = false := by simpa using hd
        have hd2 := Lib.hid hd
        clear hd
        go_wp2
        go_ret
        exact ⟨by rw [cut_stop (by omega) hxx.out hd2.out]; rfl, rfl⟩
set_option maxHeartbeats 1000000 in
theorem nlen_any (A : Option Addr) (n c x : Nat) (w : World) (hx : x < 2 ^ (32 * n)) (hnc : n ≤ c) (hc : n ≤ 1099511627776) (h : Slc w 89 A n (d32 x)) :
    Calls Tryz.prog 78 #[.slice A n c] w fun e w' => e = .returned (.int .i64 (bl x)) ∧ w = w' := by
  have hcut := fun W (hW : W = w) => by subst hW; exact ncut_any A n c x _ hx hnc (by omega) h
  by_cases h0 : x = 0
  · subst h0
    rw [dn_zero] at hcut
    have Hb := Lib.hid bl_zero
    go_enter Tryz.func78, Tryz.ntmps78
    go_wp2_with fail
    refine (hcut _ rfl).mono ?_
    rintro e w' ⟨rfl, rfl⟩
    go_wp2
    go_ret
    exact ⟨by rw [Hb.out]; rfl, rfl⟩
  · have hmn : dn 32 x ≤ n := dn_le (by omega) hx
    obtain ⟨m, hm⟩ : ∃ m, dn 32 x = m + 1 := ⟨dn 32 x - 1, by have := dn_pos (k := 32) h0; omega⟩
    obtain ⟨b1, o1, rfl, _, hc1⟩ := h.cell (by omega)
    have k1 := hc1 m (by omega)
    simp only [d32] at k1
    have hd := dg_lt 32 x m
    have hb := bl_dn (k := 32) (by omega) h0
    rw [hm, Nat.add_sub_cancel] at hb
    rw [hm] at hcut hmn
    have Hb := Lib.hid hb
    have hbl := bl_le hd
    have e1 : ((m + 1 : Nat) : Int) - 1 = m := by omega
    have h0' : (((m + 1 : Nat) : Int) == 0) = false := by simp; omega
    clear hc1 hb h0 hx h
    go_enter Tryz.func78, Tryz.ntmps78
    go_wp2_with fail
    refine (hcut _ rfl).mono ?_
    rintro e w' ⟨rfl, rfl⟩
    go_wp2_with (go_at_call 114; go_must (refine (len32_any (dg 32 x m) _ hd).mono ?_); rintro e w' ⟨rfl, rfl⟩)
    go_ret
    exact ⟨by rw [Hb.out]; exact ret_int (by omega), rfl⟩
/-- a number as a Nat, if it is not too long -/
def shutV (x : Nat) : Value := if Fil.dn 8 x ≤ 16384 then .tuple #[.string (bstr x), .int .i64 0] else .tuple #[.string { data := #[] }, .int .i64 4]
set_option maxRecDepth 100000 in
set_option maxHeartbeats 2000000 in
theorem nshut_any (A : Option Addr) (n c x : Nat) (w : World) (hx : x < 2 ^ (32 * n)) (hnc : n ≤ c) (hc : n ≤ 1000000) (h : Slc w 89 A n (d32 x)) :
    Calls Tryz.prog 49 #[.slice A n c] w fun e w' => e = .returned (shutV x) ∧ Below w.heap.size w w' := by
  have hlen := fun W (hW : W = w) => by subst hW; exact nlen_any A n c x _ hx hnc (by omega) h
  have hbl := dn8_bl x
  have hB0 := Below.refl w.heap.size w
  obtain ⟨m, hm⟩ : ∃ m, m = Fil.dn 8 x := ⟨_, rfl⟩
  have hmn : m ≤ 4 * n := by
    have : x < 2 ^ (8 * (4 * n)) := Nat.lt_of_lt_of_le hx (pmono (by omega))
    rw [hm]; exact dn_le (by omega) this
  have e0 : shutV x = if m ≤ 16384 then .tuple #[.string (bstr x), .int .i64 0] else .tuple #[.string { data := #[] }, .int .i64 4] := by unfold shutV; rw [← hm]
  rw [e0]
  rw [← hm] at hbl
  have hb7 : bl x + 7 < 8 * m + 8 := by omega
  have hb6 : 8 * m ≤ bl x + 7 := by omega
  have Hm := Lib.hid hm
  have ec : ((bl x : Int) + 7) / 8 = (m : Int) := by omega
  have ec2 : ((bl x : Int) + 7).tdiv 8 = (m : Int) := by rw [Int.tdiv_eq_ediv_of_nonneg (by omega)]; exact ec
  obtain ⟨B, hB⟩ : ∃ B, B = bl x := ⟨_, rfl⟩
  rw [← hB] at hlen hb7 hb6 ec ec2
  clear hbl e0 hm hB
  by_cases hl : m ≤ 16384
  · rw [if_pos hl]
    have t1 : decide ((16384 : Int) < m) = false := decide_eq_false (by omega)
    have hmk := run_make_row' (P := Tryz.prog) 87 5 (.int .u8 0) 1 Tryz.underlying87 Tryz.info5 rfl .i64 .i64 m (by omega) (by omega)
    have Hx := Lib.hid hx
    clear hx
    go_enter Tryz.func49, Tryz.ntmps49
    go_wp2_with fail
    refine (hlen _ rfl).mono ?_
    rintro e w' ⟨rfl, rfl⟩
    clear hlen
    go_wp2
    clear hmk
    go_loopg [6, 16] m (fun g s6 s16 wr => ∃ i : Nat, i ≤ m ∧ g = m - i ∧ s16 = .int .i64 i ∧ wr.rowIs w.heap.size 5 m (fun j => if m - i ≤ j then b8 x (m - 1 - j) else .int .u8 0) ∧ Below w.heap.size w wr)
    case atStart => exact ⟨0, by omega, by omega, rfl, (World.rowIs_made w _ m 5).congr (fun j hj => by simp; omega), (Below.refl _ _).alloc (Nat.le_refl _) _⟩
    case round =>
      clear hB0
      obtain ⟨i, hi, hg, rfl, hrow, hbel⟩ := hrel
      have Hg := Lib.hid hg
      clear hg
      by_cases hin : i < m
      · obtain ⟨b1, o1, rfl, _, hc1⟩ := (h.below hbel).cell (by omega)
        have hi4n : i / 4 < n := by omega
        have k1 := hc1 (i / 4) hi4n
        simp only [d32] at k1
        obtain ⟨k, hk⟩ : ∃ k, k = m - 1 - i := ⟨_, rfl⟩
        have ek : (m : Int) - 1 - (i : Int) = (k : Int) := by omega
        have hkm : k < m := by omega
        have Hk : Hid (k = m - 1 - i) := Lib.hid hk
        have k2 := hrow.cell (i := k) (by omega)
        have k3 := hrow.frozen k
        have hdx := dg_lt 32 x (i / 4)
        obtain ⟨q, hq⟩ : ∃ q, q = i / 4 := ⟨_, rfl⟩
        obtain ⟨s, hs⟩ : ∃ s, s = i % 4 := ⟨_, rfl⟩
        obtain ⟨t, ht⟩ : ∃ t, t = 8 * s := ⟨_, rfl⟩
        have hs4 : s < 4 := by omega
        have f1 : (i : Int) / 4 = (q : Int) := by omega
        have f2 : (i : Int) % 4 = (s : Int) := by omega
        have f3 : (i : Int).tdiv 4 = (q : Int) := by rw [Int.tdiv_eq_ediv_of_nonneg (by omega)]; exact f1
        have f4 : (i : Int).tmod 4 = (s : Int) := by rw [Int.tmod_eq_emod_of_nonneg (by omega)]; exact f2
        have f5 : (8 : Int) * (s : Int) = (t : Int) := by omega
        have f6 : IntKind.i64.wrap ((8 : Int) * (s : Int)) = (t : Int) := by rw [IntWalk.i64_in _ (by omega)]; exact f5
        have ht32 : t < 32 := by omega
        have HT := Lib.hid (And.intro hq (And.intro hs ht))
        rw [← hq] at k1 hdx hi4n
        clear hc1 hk hq hs ht
        go_wp2
        go_roundg (m - (i + 1))
        case measure => have := Hg.out; omega
        case rel =>
          exact ⟨i + 1, by omega, rfl, by go_num, (hrow.set k _).congr (fun j hj => by
            rw [← by_row Hk.out hin hj]
            obtain ⟨a1, a2, a3⟩ := HT.out
            rw [a3, a2, a1, Nat.mul_comm 8]), hbel.setCell (Nat.le_refl _) _⟩
      · obtain rfl : i = m := by omega
        have hrow' := hrow.congr (g := fun j => b8 x (i - 1 - j)) (fun j hj => by rw [if_pos (by omega)])
        rw [Hm.out] at hrow'
        have hbk := fun C => run_back wr w.heap.size x hrow' C
        rw [← Hm.out] at hbk
        clear hrow hrow'
        go_wp2
        go_returns
        exact ⟨rfl, hbel⟩
  · rw [if_neg hl]
    have t1 : decide ((16384 : Int) < m) = true := decide_eq_true (by omega)
    go_enter Tryz.func49, Tryz.ntmps49
    go_wp2_with fail
    refine (hlen _ rfl).mono ?_
    rintro e w' ⟨rfl, rfl⟩
    go_wp2
    go_returns
    exact ⟨rfl, hB0⟩
end Go.Proofs.YtjldfclncipbgaaGreatDoor
