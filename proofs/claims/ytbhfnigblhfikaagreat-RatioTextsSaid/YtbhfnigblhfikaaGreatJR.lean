/- wide.Int: Int64, Exp. -/
import Derived.Test.YtbhfnigblhfikaaGreatJP
namespace Go.Proofs.YtbhfnigblhfikaaGreat
open Go Go.RowKit Go.PlainAid Fil

theorem and_one9 (M : Nat) (h : M < 18446744073709551616) : bits BinOp.and IntKind.u64 (M : Int) 1 = ((M % 2 : Nat) : Int) := by
  have h1 := u64_and_nat M 1 h (by omega)
  rw [show ((1 : Nat) : Int) = 1 from rfl] at h1
  rw [h1, Nat.and_one_is_mod]

set_option maxHeartbeats 1000000 in
theorem int64_any (b o : Nat) (x : Nat) (w : World) (h : IntAt w b o (x : Int)) (hz : x < 9223372036854775808) :
    Calls Tryz.prog 33 #[.pointer (some ⟨b, o, none⟩)] w fun e w' => e = .returned (.int .i64 x) ∧ w = w' := by
  obtain ⟨A, n, c, h1, h2, D⟩ := h.cells
  have hsg : sg (x : Int) = false := by simp [sg]
  rw [hsg] at h1
  clear hsg D
  go_enter Tryz.func33, Tryz.ntmps33
  go_wp2_with (go_at_call 66; go_must (refine (uint64_any b o x _ h (by omega)).mono ?_); rintro e w' ⟨rfl, rfl⟩)
  go_ret
  exact ⟨rfl, rfl⟩

theorem exp_odd {o b n y : Nat} (h : o * b ^ n = y) (hn : n % 2 = 1) : o * b * (b * b) ^ (n / 2) = y := by
  rw [← h]
  conv => rhs; rw [← Nat.div_add_mod n 2, hn, Nat.pow_succ, Nat.pow_mul]
  rw [show b ^ 2 = b * b by rw [Nat.pow_succ, Nat.pow_one], Nat.mul_assoc, Nat.mul_comm b]
theorem exp_even {o b n y : Nat} (h : o * b ^ n = y) (hn : n % 2 = 0) : o * (b * b) ^ (n / 2) = y := by
  rw [← h]
  conv => rhs; rw [← Nat.div_add_mod n 2, hn, Nat.add_zero, Nat.pow_mul]
  rw [show b ^ 2 = b * b by rw [Nat.pow_succ, Nat.pow_one]]
theorem exp_le {o b n y : Nat} (h : o * b ^ n = y) (ho : 1 ≤ o) (hb : 1 ≤ b) (hn : 1 < n) : b * b ≤ y := by
  rw [← h]
  refine Nat.le_trans ?_ (Nat.mul_le_mul ho (Nat.le_refl (b ^ n)))
  rw [Nat.one_mul]
  refine Nat.le_trans ?_ (Nat.pow_le_pow_right hb (show 2 ≤ n by omega))
  rw [Nat.pow_succ, Nat.pow_one]
  exact Nat.le_refl _
theorem exp_out {o b n y : Nat} (h : o * b ^ n = y) (hb : 1 ≤ b) (hn : 1 ≤ n) : o * b ≤ y := by
  rw [← h]
  refine Nat.mul_le_mul (Nat.le_refl _) ?_
  conv => lhs; rw [← Nat.pow_one b]
  exact Nat.pow_le_pow_right hb hn
theorem exp_left {o b n y : Nat} (h : o * b ^ n = y) (hb : 1 ≤ b) : o ≤ y := by
  rw [← h]
  exact Nat.le_mul_of_pos_right _ (Nat.pow_pos hb)
theorem dn32_one : Fil.dn 32 1 = 1 := by
  have h1 := dn_le (k := 32) (x := 1) (n := 1) (by omega) (by omega)
  have h2 := dn_pos (k := 32) (x := 1) (by omega)
  omega

set_option maxRecDepth 1000000 in
set_option maxHeartbeats 4000000 in
theorem exp_any (b o bx ox bz oz x y K : Nat) (p : Option Addr) (w : World) (R : Room w b o) (hx : IntAt w bx ox (x : Int)) (hy : IntAt w bz oz (y : Int)) (h1 : 1 ≤ x) (h2 : y < 18446744073709551616) (hK : Fil.dn 32 (x ^ y) ≤ K) (hxK : Fil.dn 32 x ≤ K) (hK9 : K ≤ 1000000000) :
    Calls Tryz.prog 35 #[.pointer (some ⟨b, o, none⟩), .pointer (some ⟨bx, ox, none⟩), .pointer (some ⟨bz, oz, none⟩), .pointer p] w fun e w' => e = .returned (.pointer (some ⟨b, o, none⟩)) ∧ IntAt w' b o ((x ^ y : Nat) : Int) ∧ But w w' b o := by
  obtain ⟨A, n, c, k1, k2, D⟩ := hx.cells
  have lb := hx.lt
  rw [Int.natAbs_natCast] at D
  have hsg : sg (x : Int) = false := by simp [sg]
  rw [hsg] at k1
  have hn := D.1
  have hnK : n ≤ K := by rw [hn]; exact hxK
  have hu := fun W (hW : IntAt W bz oz (y : Int)) => uint64_any bz oz y W hW (by omega)
  have k3 : (w.alloc (.cells #[.int .u32 1] 97)).cell? ⟨bx, ox + 1, none⟩ = some (.slice A n c) := ((Below.alloc (Below.refl w.heap.size w) (Nat.le_refl _) _).cell (p := ⟨bx, ox + 1, none⟩) lb).trans k2
  have Hy := Lib.hid (And.intro hy lb)
  have H := Lib.hid (And.intro hK (And.intro hxK h1))
  have Hn := Lib.hid hn
  clear hx hsg hn hK hxK h1 lb
  obtain ⟨Y, hY⟩ : ∃ Y, Y = x ^ y := ⟨_, rfl⟩
  have HY := Lib.hid hY
  rw [← hY]
  clear hY
  go_enter Tryz.func35, Tryz.ntmps35
  go_wp2_with fail
  go_region
  have hb0 : Below w.heap.size w (w.alloc (Obj.cells #[Value.int IntKind.u32 1] 97)).drew := ((Below.refl _ _).alloc (Nat.le_refl _) _).drew
  have hs1 : Slc (w.alloc (Obj.cells #[Value.int IntKind.u32 1] 97)).drew 97 (some ⟨w.heap.size, 0, none⟩) 1 (d32 1) := fun _ => ⟨w.heap.size, 0, _, _, rfl, heap_alloc_new w _, fun j hj => by
    obtain rfl : j = 0 := by omega
    rfl⟩
  generalize hw1 : (w.alloc (Obj.cells #[Value.int IntKind.u32 1] 97)).drew = w1 at *
  have k1' := (hb0.cell (p := ⟨bx, ox, none⟩) Hy.out.2).trans k1
  have D1 := D.below hb0
  have hI1 := Hy.out.1.below hb0
  have R1 := R.below hb0
  have hl1 : bx < w1.heap.size := Nat.lt_of_lt_of_le Hy.out.2 hb0.size
  have HB := Lib.hid (And.intro hb0 (And.intro R1 (And.intro R hw1)))
  have HL := Lib.hid hl1
  clear k1 k2 k3 D hb0 R1 R hw1 Hy hl1
  go_wp2_with (go_at_call 66; go_must (refine (hu _ hI1).mono ?_); rintro e w' ⟨rfl, rfl⟩)
  go_loopg [9, 10, 11] y (fun g s9 s10 s11 wr => ∃ (u v : Nat) (A1 A2 : Option Addr) (n1 c1 n2 c2 : Nat), s9 = .slice A1 n1 c1 ∧ s10 = .slice A2 n2 c2 ∧ s11 = .int .u64 g ∧ Dig wr A1 n1 c1 u ∧ Dig wr A2 n2 c2 v ∧ n1 ≤ K ∧ n2 ≤ K ∧ u * v ^ g = Y ∧ 1 ≤ u ∧ 1 ≤ v ∧ g ≤ y ∧ Below w1.heap.size w1 wr)
  case atStart => exact ⟨1, x, _, _, _, _, _, _, rfl, rfl, by simp, ⟨dn32_one.symm, by omega, hs1⟩, D1, by have := H.out.2.1; have := H.out.2.2; have := dn_pos (k := 32) (x := x) (by omega); omega, hnK, by rw [HY.out, Nat.one_mul], by omega, H.out.2.2, Nat.le_refl _, Below.refl _ _⟩
  case round =>
    clear hs1 D1
    obtain ⟨u, v, A1, A2, n1, c1, n2, c2, rfl, rfl, rfl, Du, Dv, hn1, hn2, hP, hu1, hv1, hgy, hbel⟩ := hrel
    have hone := and_one9 gk (by omega)
    have HP := Lib.hid (And.intro hP (And.intro hu1 hv1))
    have Hgy := Lib.hid hgy
    clear hP hu1 hv1 hgy
    by_cases h0 : gk = 0
    · subst h0
      have hYu : u = x ^ y := by have := HP.out.1; rw [Nat.pow_zero, Nat.mul_one, HY.out] at this; exact this
      clear hone hn2
      have k1w := (hbel.cell (p := ⟨bx, ox, none⟩) HL.out).trans k1'
      have Rw := HB.out.2.1.below hbel
      have HYu := Lib.hid hYu
      clear hYu Dv
      go_wp2_with (go_at_call 67; go_must (refine (laid_int b o _ _ _ _ u _ Rw (by omega) Du).mono ?_); rintro e w' ⟨rfl, hI, hB⟩)
      go_ret
      refine ⟨rfl, ?_, But.after (HB.out.1.trans (hbel.mono HB.out.1.size)) hB HB.out.2.2.1⟩
      have e1 : sz false u = ((x ^ y : Nat) : Int) := by rw [HYu.out]; rfl
      first | (rw [← e1]; exact hI) | (rw [HY.out, ← e1]; exact hI)
    · have t1 : decide (0 < gk) = true := decide_eq_true (by omega)
      have H0 := Lib.hid h0
      clear h0
      rcases Nat.mod_two_eq_zero_or_one gk with hp | hp
      · have hP2 := exp_even HP.out.1 hp
        have hg1 : 1 < gk := by have := H0.out; omega
        have hvv := exp_le HP.out.1 HP.out.2.1 HP.out.2.2 hg1
        have hsz : Fil.dn 32 (v * v) ≤ K := Nat.le_trans (dn_mono (by omega) hvv) (by rw [HY.out]; exact H.out.1)
        have t2 : decide ((1 : Int) < gk) = true := decide_eq_true (by omega)
        rw [hp] at hone
        have hq : (bits BinOp.and IntKind.u64 (gk : Int) 1 == 1) = false := by rw [hone]; rfl
        clear hone
        have HQ := Lib.hid (And.intro hP2 (And.intro hsz (And.intro hp hg1)))
        clear hP2 hsz hvv hp hg1
        go_wp2_with fail
        refine (times_any A2 A2 n2 c2 v n2 c2 v _ Dv.1 Dv.1 Dv.2.1 Dv.2.1 (by omega) (by omega) Dv.2.2 Dv.2.2).mono ?_
        rintro e w3 ⟨A3, c3, rfl, hc3, hs3, hb3⟩
        go_wp2_with fail
        go_roundg (gk / 2)
        case measure => have := HQ.out.2.2.2; omega
        case rel => exact ⟨u, v * v, A1, A3, n1, c1, _, c3, rfl, rfl, by go_num, Du.below hb3, ⟨rfl, hc3, hs3⟩, hn1, HQ.out.2.1, HQ.out.1, HP.out.2.1, Nat.mul_le_mul HP.out.2.2 HP.out.2.2, by have := Hgy.out; omega, hbel.trans (hb3.mono hbel.size)⟩
      · have hP2 := exp_odd HP.out.1 hp
        have hou := exp_out HP.out.1 HP.out.2.2 (by have := H0.out; omega)
        have hsu : Fil.dn 32 (u * v) ≤ K := Nat.le_trans (dn_mono (by omega) hou) (by rw [HY.out]; exact H.out.1)
        rw [hp] at hone
        have hq : (bits BinOp.and IntKind.u64 (gk : Int) 1 == 1) = true := by rw [hone]; rfl
        clear hone
        by_cases hg1 : 1 < gk
        · have hvv := exp_le HP.out.1 HP.out.2.1 HP.out.2.2 hg1
          have hsz : Fil.dn 32 (v * v) ≤ K := Nat.le_trans (dn_mono (by omega) hvv) (by rw [HY.out]; exact H.out.1)
          have t2 : decide ((1 : Int) < gk) = true := decide_eq_true (by omega)
          have HQ := Lib.hid (And.intro hP2 (And.intro hsz (And.intro hp (And.intro hg1 hsu))))
          clear hP2 hsz hvv hp hg1 hsu hou
          go_wp2_with fail
          refine (times_any A1 A2 n1 c1 u n2 c2 v _ Du.1 Dv.1 Du.2.1 Dv.2.1 (by omega) (by omega) Du.2.2 Dv.2.2).mono ?_
          rintro e w3 ⟨A3, c3, rfl, hc3, hs3, hb3⟩
          have Dv3 := Dv.below hb3
          have Du3 : Dig w3 A3 (Fil.dn 32 (u * v)) c3 (u * v) := ⟨rfl, hc3, hs3⟩
          go_wp2_with fail
          refine (times_any A2 A2 n2 c2 v n2 c2 v _ Dv3.1 Dv3.1 Dv3.2.1 Dv3.2.1 (by omega) (by omega) Dv3.2.2 Dv3.2.2).mono ?_
          rintro e w4 ⟨A4, c4, rfl, hc4, hs4, hb4⟩
          go_wp2_with fail
          go_roundg (gk / 2)
          case measure => have := HQ.out.2.2.2.1; omega
          case rel => exact ⟨u * v, v * v, A3, A4, _, c3, _, c4, rfl, rfl, by go_num, Du3.below hb4, ⟨rfl, hc4, hs4⟩, HQ.out.2.2.2.2, HQ.out.2.1, HQ.out.1, Nat.mul_le_mul HP.out.2.1 HP.out.2.2, Nat.mul_le_mul HP.out.2.2 HP.out.2.2, by have := Hgy.out; omega, (hbel.trans (hb3.mono hbel.size)).trans (hb4.mono (Nat.le_trans hbel.size hb3.size))⟩
        · have hgk : gk = 1 := by have := H0.out; omega
          have t2 : decide ((1 : Int) < gk) = false := decide_eq_false (by omega)
          have HQ := Lib.hid (And.intro hP2 (And.intro hgk hsu))
          clear hP2 hgk hsu hou hp hg1
          go_wp2_with fail
          refine (times_any A1 A2 n1 c1 u n2 c2 v _ Du.1 Dv.1 Du.2.1 Dv.2.1 (by omega) (by omega) Du.2.2 Dv.2.2).mono ?_
          rintro e w3 ⟨A3, c3, rfl, hc3, hs3, hb3⟩
          go_wp2_with fail
          go_roundg (gk / 2)
          case measure => have := HQ.out.2.1; omega
          case rel =>
            have hP3 := HQ.out.1
            rw [HQ.out.2.1] at hP3 ⊢
            exact ⟨u * v, v, A3, A2, _, c3, n2, c2, rfl, rfl, by go_num, ⟨rfl, hc3, hs3⟩, Dv.below hb3, HQ.out.2.2, hn2, by simpa using hP3, Nat.mul_le_mul HP.out.2.1 HP.out.2.2, HP.out.2.2, by omega, hbel.trans (hb3.mono hbel.size)⟩
end Go.Proofs.YtbhfnigblhfikaaGreat
