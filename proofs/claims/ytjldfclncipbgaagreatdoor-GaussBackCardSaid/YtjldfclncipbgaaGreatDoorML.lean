/- nat.Read. -/
import Derived.Test.YtjldfclncipbgaaGreatDoorMK
import Derived.Test.YtjldfclncipbgaaGreatDoorM2
namespace Go.Proofs.YtjldfclncipbgaaGreatDoor
open Go Go.RowKit Go.PlainAid Fil

set_option maxRecDepth 1000000 in
set_option maxHeartbeats 4000000 in
theorem nread_nil (w : World) :
    Calls Tryz.prog 29 #[.string ⟨#[]⟩] w fun e w' => e = .returned (.tuple #[.string { data := #[] }, .int .i64 22]) ∧ Below w.heap.size w w' := by
  have B0 := Below.refl w.heap.size w
  go_enter Tryz.func29, Tryz.ntmps29
  go_wp2
  go_returns
  exact ⟨rfl, B0⟩
set_option maxRecDepth 1000000 in
set_option maxHeartbeats 4000000 in
theorem nread_nought (s : ByteArray) (w : World) (h0 : 0 < s.size) (h : (s[0]'h0).toNat = 48) (h1 : 1 < s.size) :
    Calls Tryz.prog 29 #[.string s] w fun e w' => e = .returned (.tuple #[.string { data := #[] }, .int .i64 22]) ∧ Below w.heap.size w w' := by
  have e0 := str_cons h0
  have B0 := Below.refl w.heap.size w
  obtain ⟨c, hc⟩ : ∃ c, (s[0]'h0).toNat = c := ⟨_, rfl⟩
  have t1 : ((c : Int) == 48) = true := by simp; omega
  have t2 : (1 : Int) < (s.size : Int) := by omega
  clear h
  go_enter Tryz.func29, Tryz.ntmps29
  go_wp2
  go_returns
  exact ⟨rfl, B0⟩
set_option maxRecDepth 1000000 in
set_option maxHeartbeats 4000000 in
theorem nread_long (s : ByteArray) (w : World) (h0 : 0 < s.size) (hh : s.size = 1 ∨ (s[0]'h0).toNat ≠ 48) (hd : ∀ (i : Nat) (h : i < s.size), 48 ≤ (s[i]'h).toNat ∧ (s[i]'h).toNat ≤ 57) (hs : 49152 < s.size) (hs2 : s.size ≤ 9223372036854775807) :
    Calls Tryz.prog 29 #[.string s] w fun e w' => e = .returned (.tuple #[.string { data := #[] }, .int .i64 4]) ∧ Below w.heap.size w w' := by
  have e0 := str_cons h0
  have B0 := Below.refl w.heap.size w
  go_enter Tryz.func29, Tryz.ntmps29
  go_upto_region 1 with fail
  go_cut [22] (fun s22 wx => s22 = .bool false ∧ Below w.heap.size w wx)
  case first =>
    rcases hh with h | h
    · have h1 : ¬ (1 : Int) < (s.size : Int) := by omega
      go_wp2_with fail
      go_meet
      exact ⟨by first | rfl | simp, B0⟩
    · obtain ⟨c, hc⟩ : ∃ c, (s[0]'h0).toNat = c := ⟨_, rfl⟩
      rw [hc] at h
      have t1 : ((c : Int) == 48) = false := by simp; omega
      by_cases h1 : (1 : Int) < (s.size : Int)
      · go_wp2_with fail
        go_meet
        exact ⟨by first | rfl | simp, B0⟩
      · go_wp2_with fail
        go_meet
        exact ⟨by first | rfl | simp, B0⟩
  case rest =>
    clear B0
    obtain ⟨rfl, B0⟩ := hcut
    generalize wc = v1 at *
    go_wp2_with fail
    go_loopg [4, 25] s.size (fun g s4 s25 wr => ∃ i : Nat, i ≤ s.size ∧ g = s.size - i ∧ s25 = .int .i64 i ∧ wr = v1)
    case atStart => exact ⟨0, by omega, by omega, rfl, rfl⟩
    case round =>
      obtain ⟨i, hi9, hg, rfl, rfl⟩ := hrel
      by_cases hlt : i < s.size
      · obtain ⟨ha, hz⟩ := hd i hlt
        obtain ⟨c, hc⟩ : ∃ c, (s[i]'hlt).toNat = c := ⟨_, rfl⟩
        rw [hc] at ha hz
        have t1 : decide ((c : Int) < 48) = false := decide_eq_false (by omega)
        have t2 : decide ((57 : Int) < c) = false := decide_eq_false (by omega)
        go_wp2
        go_roundg (s.size - (i + 1))
        case measure => omega
        case rel => exact ⟨i + 1, by omega, rfl, by go_num, rfl⟩
      · obtain rfl : i = s.size := by omega
        go_wp2
        go_returns
        exact ⟨rfl, B0⟩
set_option maxRecDepth 1000000 in
set_option maxHeartbeats 4000000 in
theorem nread_sign (s : ByteArray) (w : World) (h0 : 0 < s.size) (hh : s.size = 1 ∨ (s[0]'h0).toNat ≠ 48) (k : Nat) (hk : k < s.size) (hkd : (s[k]'hk).toNat < 48 ∨ 57 < (s[k]'hk).toNat) (hd : ∀ (i : Nat) (h : i < k), 48 ≤ (s[i]'(by omega)).toNat ∧ (s[i]'(by omega)).toNat ≤ 57) (hs2 : s.size ≤ 9223372036854775807) :
    Calls Tryz.prog 29 #[.string s] w fun e w' => e = .returned (.tuple #[.string { data := #[] }, .int .i64 22]) ∧ Below w.heap.size w w' := by
  have e0 := str_cons h0
  have B0 := Below.refl w.heap.size w
  go_enter Tryz.func29, Tryz.ntmps29
  go_upto_region 1 with fail
  go_cut [22] (fun s22 wx => s22 = .bool false ∧ Below w.heap.size w wx)
  case first =>
    rcases hh with h | h
    · have h1 : ¬ (1 : Int) < (s.size : Int) := by omega
      go_wp2_with fail
      go_meet
      exact ⟨by first | rfl | simp, B0⟩
    · obtain ⟨c, hc⟩ : ∃ c, (s[0]'h0).toNat = c := ⟨_, rfl⟩
      rw [hc] at h
      have t1 : ((c : Int) == 48) = false := by simp; omega
      by_cases h1 : (1 : Int) < (s.size : Int)
      · go_wp2_with fail
        go_meet
        exact ⟨by first | rfl | simp, B0⟩
      · go_wp2_with fail
        go_meet
        exact ⟨by first | rfl | simp, B0⟩
  case rest =>
    clear B0
    obtain ⟨rfl, B0⟩ := hcut
    generalize wc = v1 at *
    go_wp2_with fail
    go_loopg [4, 25] (k + 1) (fun g s4 s25 wr => ∃ i : Nat, i ≤ k ∧ g = k + 1 - i ∧ s25 = .int .i64 i ∧ wr = v1)
    case atStart => exact ⟨0, by omega, by omega, rfl, rfl⟩
    case round =>
      obtain ⟨i, hi, hg, rfl, rfl⟩ := hrel
      have hlt : i < s.size := by omega
      by_cases hik : i < k
      · obtain ⟨ha, hz⟩ := hd i hik
        obtain ⟨c, hc⟩ : ∃ c, (s[i]'hlt).toNat = c := ⟨_, rfl⟩
        rw [hc] at ha hz
        have t1 : decide ((c : Int) < 48) = false := decide_eq_false (by omega)
        have t2 : decide ((57 : Int) < c) = false := decide_eq_false (by omega)
        clear hkd
        go_wp2
        go_roundg (k + 1 - (i + 1))
        case measure => omega
        case rel => exact ⟨i + 1, by omega, by omega, by go_num, rfl⟩
      · obtain rfl : i = k := by omega
        obtain ⟨c, hc⟩ : ∃ c, (s[i]'hk).toNat = c := ⟨_, rfl⟩
        rw [hc] at hkd
        by_cases h48 : c < 48
        · have t1 : decide ((c : Int) < 48) = true := decide_eq_true (by omega)
          clear hkd
          go_wp2
          go_returns
          exact ⟨rfl, B0⟩
        · have t1 : decide ((c : Int) < 48) = false := decide_eq_false (by omega)
          have t2 : decide ((57 : Int) < c) = true := decide_eq_true (by omega)
          clear hkd
          go_wp2
          go_returns
          exact ⟨rfl, B0⟩
set_option maxRecDepth 1000000 in
set_option maxHeartbeats 4000000 in
theorem nread_good (s : ByteArray) (w : World) (h0 : 0 < s.size) (hh : s.size = 1 ∨ (s[0]'h0).toNat ≠ 48) (hd : ∀ (i : Nat) (h : i < s.size), 48 ≤ (s[i]'h).toNat ∧ (s[i]'h).toNat ≤ 57) (hs : s.size ≤ 49152) (S : ByteArray) (E : Int) (hV : shutV (dvt s s.size) = .tuple #[.string S, .int .i64 E]) :
    Calls Tryz.prog 29 #[.string s] w fun e w' => e = .returned (.tuple #[.string S, .int .i64 E]) ∧ Below w.heap.size w w' := by
  have HV9 := Lib.hid hV
  clear hV
  obtain ⟨i0, hi, hp⟩ := Option.map_eq_some_iff.1 Tryz.info89
  have hz0 : i0.zero = some (.int .u32 0) := congrArg Prod.fst hp
  have hz1 : i0.size = 1 := congrArg (fun q => q.2.1) hp
  have hz2 : i0.bytes = 4 := congrArg (fun q => q.2.2) hp
  have HD := Lib.hid hd
  clear hp
  have e0 := str_cons h0
  have B0 := Below.refl w.heap.size w
  go_enter Tryz.func29, Tryz.ntmps29
  go_upto_region 1 with fail
  go_cut [22] (fun s22 wx => s22 = .bool false ∧ Below w.heap.size w wx)
  case first =>
    rcases hh with h | h
    · have h1 : ¬ (1 : Int) < (s.size : Int) := by omega
      go_wp2_with fail
      go_meet
      exact ⟨by first | rfl | simp, B0⟩
    · obtain ⟨c, hc⟩ : ∃ c, (s[0]'h0).toNat = c := ⟨_, rfl⟩
      rw [hc] at h
      have t1 : ((c : Int) == 48) = false := by simp; omega
      by_cases h1 : (1 : Int) < (s.size : Int)
      · go_wp2_with fail
        go_meet
        exact ⟨by first | rfl | simp, B0⟩
      · go_wp2_with fail
        go_meet
        exact ⟨by first | rfl | simp, B0⟩
  case rest =>
    clear B0
    obtain ⟨rfl, B0⟩ := hcut
    generalize wc = v1 at *
    go_wp2_with fail
    go_loopg [4, 25] s.size (fun g s4 s25 wr => ∃ i : Nat, i ≤ s.size ∧ g = s.size - i ∧ s25 = .int .i64 i ∧ wr = v1)
    case atStart => exact ⟨0, by omega, by omega, rfl, rfl⟩
    case round =>
      obtain ⟨i, hi9, hg, rfl, rfl⟩ := hrel
      by_cases hlt : i < s.size
      · obtain ⟨ha, hz⟩ := hd i hlt
        obtain ⟨c, hc⟩ : ∃ c, (s[i]'hlt).toNat = c := ⟨_, rfl⟩
        rw [hc] at ha hz
        have t1 : decide ((c : Int) < 48) = false := decide_eq_false (by omega)
        have t2 : decide ((57 : Int) < c) = false := decide_eq_false (by omega)
        go_wp2
        go_roundg (s.size - (i + 1))
        case measure => omega
        case rel => exact ⟨i + 1, by omega, rfl, by go_num, rfl⟩
      · obtain rfl : i = s.size := by omega
        clear hd hlt hg hi9
        have t0 : decide ((49152 : Int) < (s.size : Int)) = false := decide_eq_false (by omega)
        go_wp2_with fail
        go_loopg [5, 6, 7, 8, 9, 10, 68] s.size (fun g s5 s6 s7 s8 s9 s10 s68 wr => ∃ (i m c : Nat) (A : Option Addr), i ≤ s.size ∧ g = s.size - i ∧ s6 = .int .i64 i ∧ s5 = .slice A m c ∧ OwnD wr w.heap.size (.slice A m c) m (dvt s i) ∧ dvt s i < 2 ^ (32 * m) ∧ m ≤ i ∧ m ≤ c ∧ c ≤ maxLen ∧ Below w.heap.size w wr)
        case atStart => exact ⟨0, 0, 0, none, by omega, by omega, rfl, rfl, World.ownsRow_nil _ _ _ _, by rw [dvt_zero]; decide, by omega, by omega, by unfold maxLen; omega, B0⟩
        case round =>
          clear B0
          obtain ⟨i, m, c, A, hi9, hgk, rfl, rfl, hown, hX, hmi, hmc, hcx, hbel⟩ := hrel
          have Hg := Lib.hid hgk
          clear hgk
          by_cases hlt : i < s.size
          · have HI := Lib.hid (And.intro hX (And.intro hmi (And.intro hmc hcx)))
            clear hX hmi hcx
            obtain ⟨te, hto⟩ : ∃ te, te = min s.size (i + 9) := ⟨_, rfl⟩
            have t1 : decide ((i : Int) < s.size) = true := decide_eq_true (by omega)
            have W0 : IntKind.i64.wrap ((i : Int) + 9) = (i : Int) + 9 := IntWalk.i64_in _ (by omega)
            have m1 : min (s.size : Int) ((i : Int) + 9) = (te : Int) := by omega
            have hto1 : i < te := by omega
            have hto2 : te ≤ i + 9 := by omega
            have hto3 : te ≤ s.size := by omega
            clear hto
            go_wp2_with fail
            go_loopg [6, 8, 9] (te + 1 - i) (fun g2 s6 s8 s9 w2 => wr = w2 ∧ ∃ (j n p T : Nat), p = i + j ∧ T = 10 ^ j ∧ p ≤ te ∧ g2 = te + 1 - p ∧ s6 = .int .i64 p ∧ s9 = .int .u64 n ∧ s8 = .int .u64 T ∧ dvt s p = dvt s i * T + n ∧ n < T)
            case atStart => exact ⟨rfl, 0, 0, i, 1, rfl, rfl, by omega, by omega, rfl, rfl, rfl, by simp, by decide⟩
            case round =>
              obtain ⟨rfl, j, n, p, T, hp0, hT0, hij, hg2, rfl, rfl, rfl, hv, hn⟩ := hrel
              have hj9 : j ≤ 9 := by omega
              have hT12 := pow10 hj9
              rw [← hT0] at hT12
              obtain ⟨hT1, hT2⟩ := hT12
              have HV := Lib.hid (And.intro hv (And.intro hg2 (And.intro hT2 (And.intro hp0 hT0))))
              by_cases hend : p < te
              · have hs1 : p < s.size := by omega
                obtain ⟨ha, hz⟩ := HD.out p hs1
                have HS := Lib.hid (dvt_succ hs1)
                have hTl : T < 1000000000 := hT2.2 (by omega)
                clear hv hg2 hp0 hT0 hT2 hT1 hj9
                have t3 : decide ((p : Int) < te) = true := decide_eq_true (by omega)
                obtain ⟨ch, hch⟩ : ∃ ch, (s[p]'hs1).toNat = ch := ⟨_, rfl⟩
                rw [hch] at ha hz HS
                go_wp2_with fail
                go_roundg (te + 1 - (p + 1))
                case measure => have := HV.out.2.1; omega
                case rel =>
                  obtain ⟨v1, v2, v3, v4, v5⟩ := HV.out
                  have v6 := HS.out
                  refine ⟨rfl, j + 1, 10 * n + (ch - 48), p + 1, 10 * T, by omega, by rw [v5, Nat.pow_succ, Nat.mul_comm], by omega, by omega, by go_num, by go_num, by go_num, ?_, by omega⟩
                  rw [v6, v1, Nat.mul_add, ← Nat.mul_assoc, ← Nat.mul_assoc, Nat.mul_comm 10 (dvt s i)]
                  omega
              · obtain rfl : p = te := by omega
                clear hv hg2 hp0 hT0 hT2 hj9 hend
                have t3 : decide ((p : Int) < p) = false := decide_eq_false (by omega)
                go_wp2_with fail
                clear t3
                go_loopg [9, 10, 68] m (fun g3 s9 s10 s68 w3 => ∃ k : Nat, k ≤ m ∧ g3 = m - k ∧ s68 = .int .i64 k ∧ s9 = .int .u64 (mc (dvt s i) T n k) ∧ OwnR w3 w.heap.size (.slice A m c) m (fun q => if q < k then d32 (dvt s i * T + n) q else d32 (dvt s i) q) ∧ Below w.heap.size w w3)
                case atStart => exact ⟨0, by omega, by omega, rfl, by rw [mc_zero], hown.r.congr (fun j _ => by rw [if_neg (by omega)]), hbel⟩
                case round =>
                  clear hown hbel
                  obtain ⟨k, hk, hg3, rfl, rfl, hrow3, hb3⟩ := hrel
                  have Hk := Lib.hid hg3
                  clear hg3
                  by_cases hkm : k < m
                  · obtain ⟨g0, cap, f, hv, hB, hmc, hcx, hrow, hf⟩ := hrow3.row (by omega)
                    injection hv with hv1 hv2 hv3
                    subst hv1
                    subst hv3
                    have hgw := hrow.lt
                    have hmb : m ≤ 1000000 := by have := HI.out; omega
                    have q1 := mc_dg (dvt s i) T n k
                    have q2 := mc_succ (dvt s i) T n k
                    have q3 := mc_lt hn (X := dvt s i) k
                    have q4 := dg_lt 32 (dvt s i) k
                    have cell := hrow.cell (i := k) (by omega)
                    have frz := hrow.frozen k
                    rw [hf k hkm, if_neg (Nat.lt_irrefl k), d32] at cell
                    have t6 : decide (k < m) = true := decide_eq_true hkm
                    have hqq : dg 32 (dvt s i) k * T ≤ 4294967295 * 1000000000 := Nat.mul_le_mul (by omega) hT1
                    have HQ := Lib.hid (And.intro q1 q2)
                    have HF := Lib.hid (And.intro hf (And.intro hcx hB))
                    clear q1 q2 hf hrow3 hB
                    generalize dg 32 (dvt s i) k = D at *
                    generalize mc (dvt s i) T n k = N at *
                    go_wp2_with fail
                    go_roundg (m - (k + 1))
                    case measure => have := Hk.out; omega
                    case rel =>
                      obtain ⟨q1, q2⟩ := HQ.out
                      refine ⟨k + 1, by omega, rfl, by go_num, by rw [← q2, pdiv], OwnR.of_row HF.out.2.2 hmc HF.out.2.1 (hrow.set k _) (fun q hq => ?_), hb3.setCell HF.out.2.2 _⟩
                      by_cases hqk : q = k
                      · subst hqk
                        rw [if_pos rfl, if_pos (Nat.lt_succ_self q), d32, ← q1, pmod]
                      · rw [if_neg hqk, HF.out.1 q hq]
                        by_cases hq2 : q < k
                        · rw [if_pos hq2, if_pos (by omega)]
                        · rw [if_neg hq2, if_neg (by omega)]
                  · obtain rfl : k = m := by omega
                    have hown3 : OwnD wr w.heap.size (.slice A k c) k (dvt s i * T + n) := hrow3.d (fun j hj => if_pos hj)
                    clear hrow3 hk Hk
                    have t6 : decide (k < k) = false := decide_eq_false (Nat.lt_irrefl k)
                    have hcl := mc_lt hn (X := dvt s i) k
                    have hval := HV.out.1
                    rcases Nat.eq_zero_or_pos (mc (dvt s i) T n k) with hz | hz
                    · have hlow := mc_done HI.out.1 hz
                      rw [hz]
                      rw [← hval] at hown3 hlow
                      have HL := Lib.hid hlow
                      clear hlow hval hcl hz
                      go_wp2_with fail
                      go_roundg (s.size - p)
                      case measure => have := Hg.out; omega
                      case rel => exact ⟨p, k, c, A, by omega, rfl, rfl, rfl, hown3, HL.out, by have := HI.out; omega, HI.out.2.2.1, HI.out.2.2.2, hb3⟩
                    · obtain ⟨hlow, hdg⟩ := mc_more HI.out.1 (show mc (dvt s i) T n k < 4294967296 by omega)
                      have hcb : mc (dvt s i) T n k < 4294967296 := by omega
                      have HL := Lib.hid (And.intro hlow hdg)
                      clear hlow hdg hcl
                      have hkb : k ≤ 1000000 := by have := HI.out; omega
                      generalize mc (dvt s i) T n k = N at *
                      have hbs := hb3.size
                      go_wp2_with (at_builtin; refine wpList_append_own _ rfl _ _ 93 rfl w.heap.size 89 i0 (.int .u32 0) 1 4 Tryz.underlying93 hi hz0 hz1 hz2 rfl (by decide) _ _ _ rfl (by exact hown3.alloc _) ⟨wr.heap.size, 0, none⟩ 1 1 [.int .u32 (N : Int)] rfl rfl ?c1 ?c2 ?c3 ?c4 ?c5 ?_)
                      case c1 =>
                        intro j u hj
                        match j, hj with
                        | 0, hj => simp at hj; subst hj; simp [Addr.add]
                      case c2 => intro u hu; simp at hu; subst hu; rfl
                      case c3 => unfold maxLen; omega
                      case c4 => omega
                      case c5 => simp; omega
                      · intro v' w2 hown' hgrow _
                        have hb2 := (hb3.alloc hbs (.cells #[.int .u32 (N : Int)] 89)).grown hgrow (by simp; omega) (fun k hk => (hown3.lt k hk).1)
                        have hown2 : OwnD w2 w.heap.size v' (k + 1) (dvt s i * T + n) := by
                          unfold OwnD
                          rw [List.range_succ, List.map_append, List.map_cons, List.map_nil, d32, HL.out.2]
                          exact hown'
                        rw [← HV.out.1] at hown2
                        obtain ⟨g1, cap1, f1, rfl, hB1, hn1, hcx1, _, _⟩ := hown2.row (by omega)
                        clear hown' hgrow hb3 hown3
                        go_wp2_with fail
                        go_roundg (s.size - p)
                        case measure => have := Hg.out; omega
                        case rel => exact ⟨p, k + 1, cap1, some ⟨g1, 0, none⟩, by omega, rfl, rfl, rfl, hown2, by rw [HV.out.1]; exact HL.out.1, by have := HI.out; omega, hn1, hcx1, hb2⟩
          · obtain rfl : i = s.size := by omega
            have hslc := hown.slc
            have hsh := fun W (hW : W = wr) => by subst hW; exact nshut_any A m c (dvt s s.size) _ hX hmc (by omega) hslc
            rw [HV9.out] at hsh
            have t1 : decide ((s.size : Int) < s.size) = false := decide_eq_false (by omega)
            clear hX hmi hcx hown hslc
            go_wp2_with fail
            refine (hsh _ rfl).mono ?_
            rintro e w9 ⟨rfl, hB9⟩
            go_wp2
            go_returns
            exact ⟨rfl, hbel.trans (hB9.mono hbel.size)⟩
theorem shutV_parts (x : Nat) : ∃ (S : ByteArray) (e : Int), shutV x = .tuple #[.string S, .int .i64 e] := by
  unfold shutV
  split <;> exact ⟨_, _, rfl⟩
/-- what nat.Read tells of a text -/
def nreadV (s : ByteArray) : Value := if goodB s.data.toList then (if 49152 < s.size then .tuple #[.string { data := #[] }, .int .i64 4] else shutV (dval 0 s.data.toList)) else .tuple #[.string { data := #[] }, .int .i64 22]
theorem nread_any (s : ByteArray) (w : World) (hs : s.size ≤ 9223372036854775807) :
    Calls Tryz.prog 29 #[.string s] w fun e w' => e = .returned (nreadV s) ∧ Below w.heap.size w w' := by
  unfold nreadV
  by_cases hg : goodL s.data.toList
  · have hgb : goodB s.data.toList = true := decide_eq_true hg
    rw [if_pos hgb]
    have h0 := good_pos hg
    have hh : s.size = 1 ∨ (s[0]'h0).toNat ≠ 48 := by
      by_cases h : (s[0]'h0).toNat = 48
      · exact .inl (good_head hg h)
      · exact .inr h
    by_cases hl : 49152 < s.size
    · rw [if_pos hl]
      exact nread_long s w h0 hh (good_all hg) hl hs
    · rw [if_neg hl]
      obtain ⟨S, E, hV⟩ := shutV_parts (dval 0 s.data.toList)
      rw [hV]
      exact nread_good s w h0 hh (good_all hg) (by omega) S E (by rw [dvt_size]; exact hV)
  · have hgb : ¬ goodB s.data.toList = true := fun h => hg (of_decide_eq_true h)
    rw [if_neg hgb]
    rcases Nat.eq_zero_or_pos s.size with h0 | h0
    · rw [nil_of_size h0]; exact nread_nil w
    · by_cases h48 : (s[0]'h0).toNat = 48 ∧ 1 < s.size
      · exact nread_nought s w h0 h48.1 h48.2
      · have hh : s.size = 1 ∨ (s[0]'h0).toNat ≠ 48 := by omega
        by_cases hd : ∀ (i : Nat) (h : i < s.size), 48 ≤ (s[i]'h).toNat ∧ (s[i]'h).toNat ≤ 57
        · exact absurd (good_of h0 hd fun h => by omega) hg
        · obtain ⟨k, hk, ha, hb⟩ := first_bad hd
          exact nread_sign s w h0 hh k hk (by omega) ha hs
end Go.Proofs.YtjldfclncipbgaaGreatDoor
