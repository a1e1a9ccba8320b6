/- Int.SetString of a row of decimal signs. -/
import Derived.Test.YtbhfnigblhfikaaGreatJO
import Derived.Laws.RangeAny
namespace Go.Proofs.YtbhfnigblhfikaaGreat
open Go Go.RowKit Go.PlainAid Fil

theorem pow10 {j : Nat} (h : j ≤ 9) : 10 ^ j ≤ 1000000000 ∧ (10 ^ j < 1000000000 ↔ j < 9) := by
  rcases (show j = 0 ∨ j = 1 ∨ j = 2 ∨ j = 3 ∨ j = 4 ∨ j = 5 ∨ j = 6 ∨ j = 7 ∨ j = 8 ∨ j = 9 by omega) with rfl | rfl | rfl | rfl | rfl | rfl | rfl | rfl | rfl | rfl <;> omega
theorem pdiv (N D T : Nat) : ((N : Int) + (D : Int) * (T : Int)) / 4294967296 = (((N + D * T) / 2 ^ 32 : Nat) : Int) := by
  rw [← Int.natCast_mul]; generalize D * T = P; omega
theorem pmod (N D T : Nat) : ((N : Int) + (D : Int) * (T : Int)) % 4294967296 = (((N + D * T) % 2 ^ 32 : Nat) : Int) := by
  rw [← Int.natCast_mul]; generalize D * T = P; omega
theorem OwnD.below {w w' : World} {B n X : Nat} {v : Value} (h : OwnD w B v n X) (hb : Below w.heap.size w w') : OwnD w' B v n X := by
  refine ⟨h.1, ?_⟩
  rcases h.2 with h2 | ⟨g, cap, cur, hv, hg, hh, hr⟩
  · exact .inl h2
  · exact .inr ⟨g, cap, cur, hv, hg, (hb.block g (lt_of_heap hh)).trans hh, hr⟩

/-- a row of cells that the call has made -/
def OwnR (w : World) (B : Nat) (v : Value) (n : Nat) (F : Nat → Value) : Prop := w.ownsRow B 97 1 v n ((List.range n).map F)
theorem OwnD.r {w : World} {B : Nat} {v : Value} {n X : Nat} (h : OwnD w B v n X) : OwnR w B v n (d32 X) := h
theorem OwnR.d {w : World} {B : Nat} {v : Value} {n X : Nat} {F : Nat → Value} (h : OwnR w B v n F) (hF : ∀ j, j < n → F j = d32 X j) : OwnD w B v n X := by
  unfold OwnD
  rw [← List.map_congr_left (f := F) (g := d32 X) (fun j hj => hF j (List.mem_range.1 hj))]
  exact h
theorem OwnR.congr {w : World} {B : Nat} {v : Value} {n : Nat} {F G : Nat → Value} (h : OwnR w B v n F) (hF : ∀ j, j < n → F j = G j) : OwnR w B v n G := by
  unfold OwnR
  rw [← List.map_congr_left (f := F) (g := G) (fun j hj => hF j (List.mem_range.1 hj))]
  exact h
theorem OwnR.row {w : World} {B : Nat} {v : Value} {n : Nat} {F : Nat → Value} (h : OwnR w B v n F) (h0 : n ≠ 0) : ∃ (g cap : Nat) (f : Nat → Value), v = .slice (some ⟨g, 0, none⟩) n cap ∧ B ≤ g ∧ n ≤ cap ∧ cap ≤ maxLen ∧ w.rowIs g 97 cap f ∧ ∀ (j : Nat), j < n → f j = F j := by
  rcases h.2 with ⟨_, h1⟩ | ⟨g, cap, cur, hv, hg, hh, hc, hx, hs, ht⟩
  · exact absurd h1 h0
  · refine ⟨g, cap, fun j => cur.getD j undef, hv, hg, hc, hx, ⟨cur, hh, by simpa using hs, fun i hi => ?_⟩, fun j hj => ?_⟩
    · have : i < cur.size := by rw [show cur.size = cap by simpa using hs]; exact hi
      simp [this]
    · have h1 : (cur.toList.take (n * 1))[j]? = ((List.range n).map F)[j]? := by rw [ht]
      rw [List.getElem?_take_of_lt (by omega), List.getElem?_map, List.getElem?_range hj] at h1
      have h2 : cur[j]? = some (F j) := by simpa using h1
      show cur.getD j undef = _
      rw [Array.getD_eq_getD_getElem?, h2]; rfl
theorem OwnR.of_row {w : World} {B g n cap : Nat} {f F : Nat → Value} (hg : B ≤ g) (hn : n ≤ cap) (hc : cap ≤ maxLen) (h : w.rowIs g 97 cap f) (hf : ∀ j, j < n → f j = F j) : OwnR w B (.slice (some ⟨g, 0, none⟩) n cap) n F := by
  obtain ⟨cur, hh, hs, hcell⟩ := h
  refine ⟨by simp, .inr ⟨g, cap, cur, rfl, hg, hh, hn, hc, by simpa using hs, ?_⟩⟩
  apply List.ext_getElem?
  intro j
  by_cases hj : j < n
  · rw [List.getElem?_take_of_lt (by omega), List.getElem?_map, List.getElem?_range hj]
    have := hcell j (by omega)
    rw [hf j hj] at this
    simpa using this
  · rw [List.getElem?_eq_none (by simp; omega), List.getElem?_eq_none (by simp; omega)]
theorem OwnD.slc {w : World} {B : Nat} {A : Option Addr} {n c X : Nat} (h : OwnD w B (.slice A n c) n X) : Slc w 97 A n (d32 X) := by
  intro hn
  obtain ⟨g, cap, f, hv, _, hc, _, hr, hf⟩ := h.row (by omega)
  injection hv with hv1 _ _
  subst hv1
  obtain ⟨cur, hh, hs, hcell⟩ := hr
  refine ⟨g, 0, cur, _, rfl, hh, fun j hj => ?_⟩
  rw [Nat.zero_add, hcell j (by omega), hf j hj]

set_option maxRecDepth 1000000 in
set_option maxHeartbeats 8000000 in
theorem setstring_any (b : Nat) (s : ByteArray) (w : World) (R : Room w b 0) (h0 : 0 < s.size) (h1 : s.size ≤ 1000000) (hd : ∀ (i : Nat) (h : i < s.size), 48 ≤ (s[i]'h).toNat ∧ (s[i]'h).toNat ≤ 57) :
    Calls Tryz.prog 34 #[.pointer (some ⟨b, 0, none⟩), .string s, .int .i64 10] w fun e w' => e = .returned (.tuple #[.pointer (some ⟨b, 0, none⟩), .bool true]) ∧ IntAt w' b 0 (dvt s s.size : Int) ∧ But w w' b 0 := by
  have e0 := str_cons h0
  obtain ⟨i0, hi, hp⟩ := Option.map_eq_some_iff.1 Tryz.info97
  have hz0 : i0.zero = some (.int .u32 0) := congrArg Prod.fst hp
  have hz1 : i0.size = 1 := congrArg (fun q => q.2.1) hp
  have hz2 : i0.bytes = 4 := congrArg (fun q => q.2.2) hp
  obtain ⟨C, hC⟩ : ∃ C, C = s.size / 9 + 1 := ⟨_, rfl⟩
  have hCi : (s.size : Int) / 9 + 1 = (C : Int) := by omega
  have hmk := fun W : World => run_make (P := Tryz.prog) (w := W) 68 97 i0 (.int .u32 0) Tryz.underlying68 hi hz0 .i64 .i64 0 ((s.size : Int) / 9 + 1) (by omega) (by omega) (by rw [hz2]; omega) (by omega)
  rw [hz1] at hmk
  have ec : ((s.size : Int) / 9 + 1).toNat = C := by omega
  simp only [ec, Int.toNat_zero, Nat.mul_one] at hmk
  have HC := Lib.hid (And.intro hC hCi)
  have mixed : Tryz.prog.follows .mixedOrders = true := by kernel_rfl
  clear hC hCi ec
  go_enter Tryz.func34, Tryz.ntmps34
  go_wp2_with fail
  clear hmk
  go_loopg [8, 9] s.size (fun gk s8 s9 wr => ∃ (i m c : Nat) (A : Option Addr), i ≤ s.size ∧ gk = s.size - i ∧ s9 = .int .i64 i ∧ s8 = .slice A m c ∧ OwnD wr w.heap.size (.slice A m c) m (dvt s i) ∧ dvt s i < 2 ^ (32 * m) ∧ m ≤ i ∧ m ≤ c ∧ c ≤ maxLen ∧ Below w.heap.size w wr)
  case atStart => exact ⟨0, 0, C, some ⟨w.heap.size, 0, none⟩, by omega, by omega, rfl, rfl, OwnD.of_row (Nat.le_refl _) (Nat.zero_le _) (by have := HC.out.1; unfold maxLen; omega) (World.rowIs_made w _ C 97) (fun j hj => absurd hj (by omega)), by rw [dvt_zero]; decide, by omega, by omega, by have := HC.out.1; unfold maxLen; omega, (Below.refl _ _).alloc (Nat.le_refl _) _⟩
  case round =>
    obtain ⟨i, m, c, A, hi9, hgk, rfl, rfl, hown, hX, hmi, hmc, hcx, hbel⟩ := hrel
    have Hg := Lib.hid hgk
    clear hgk
    by_cases hlt : i < s.size
    · have HI := Lib.hid (And.intro hX (And.intro hmi (And.intro hmc hcx)))
      clear hX hmi hcx
      have t1 : decide ((i : Int) < s.size) = true := decide_eq_true (by omega)
      have t2 : decide ((s.size : Int) ≤ i) = false := decide_eq_false (by omega)
      go_wp2_with fail
      go_loopg [9, 10, 11] 9 (fun g2 s9 s10 s11 w2 => wr = w2 ∧ ∃ (j n p T : Nat), p = i + j ∧ T = 10 ^ j ∧ p ≤ s.size ∧ j ≤ 9 ∧ g2 = 9 - j ∧ s9 = .int .i64 p ∧ s10 = .int .u64 n ∧ s11 = .int .u64 T ∧ dvt s p = dvt s i * T + n ∧ n < T)
      case atStart => exact ⟨rfl, 0, 0, i, 1, rfl, rfl, by omega, by omega, rfl, rfl, rfl, rfl, by simp, by decide⟩
      case round =>
        obtain ⟨rfl, j, n, p, T, hp0, hT0, hij, hj9, hg2, rfl, rfl, rfl, hv, hn⟩ := hrel
        have hT12 := pow10 hj9
        rw [← hT0] at hT12
        obtain ⟨hT1, hT2⟩ := hT12
        have HV := Lib.hid (And.intro hv (And.intro hg2 (And.intro hT2 (And.intro hp0 hT0))))
        clear hv hg2 hp0 hT0
        by_cases hend : p < s.size ∧ j < 9
        · obtain ⟨hs1, hs2⟩ := hend
          obtain ⟨ha, hz⟩ := hd p hs1
          have HS := Lib.hid (dvt_succ hs1)
          have hTl : T < 1000000000 := hT2.2 hs2
          have HJ := Lib.hid hs2
          clear hT2 hT1 hj9 hs2
          have t3 : decide ((p : Int) < s.size) = true := decide_eq_true (by omega)
          have t4 : decide ((T : Int) < 1000000000) = true := decide_eq_true (by omega)
          obtain ⟨ch, hch⟩ : ∃ ch, (s[p]'hs1).toNat = ch := ⟨_, rfl⟩
          have HC9 := Lib.hid hch
          rw [hch] at ha hz
          have t5 : decide ((ch : Int) < 48) = false := decide_eq_false (by omega)
          have t6 : decide ((57 : Int) < ch) = false := decide_eq_false (by omega)
          go_wp2_with fail
          go_roundg (9 - (j + 1))
          case measure => have := HV.out.2.1; have := HJ.out; omega
          case rel =>
            obtain ⟨v1, v2, v3, v4, v5⟩ := HV.out
            have v6 := HS.out
            have v7 := HJ.out
            rw [hch] at v6
            refine ⟨rfl, j + 1, 10 * n + (ch - 48), p + 1, 10 * T, by omega, by rw [v5, Nat.pow_succ, Nat.mul_comm], by omega, by omega, rfl, by go_num, by go_num, by go_num, ?_, by omega⟩
            rw [v6, v1, Nat.mul_add, ← Nat.mul_assoc, ← Nat.mul_assoc, Nat.mul_comm 10 (dvt s i)]
            omega
        · have hj1 : 1 ≤ j := by have := HV.out.2.2.2.1; omega
          have hpi := HV.out.2.2.2.1
          have Hend := Lib.hid (And.intro hend (And.intro hj1 hpi))
          have hw : decide (p < s.size) = false ∨ (decide (p < s.size) = true ∧ decide ((T : Int) < 1000000000) = false) := by
            have := (not_and.1 hend)
            by_cases h : p < s.size
            · right
              have h9 := this h
              have := hT2
              exact ⟨decide_eq_true h, decide_eq_false (by omega)⟩
            · left; exact decide_eq_false (by omega)
          clear hend hpi hT2
          rcases hw with t3 | ⟨t3, t4⟩
          all_goals
            go_wp2_with fail
            clear t3
            go_loopg [10, 60] m (fun g3 s10 s60 w3 => ∃ k : Nat, k ≤ m ∧ g3 = m - k ∧ s60 = .int .i64 k ∧ s10 = .int .u64 (mc (dvt s i) T n k) ∧ OwnR w3 w.heap.size (.slice A m c) m (fun q => if q < k then d32 (dvt s i * T + n) q else d32 (dvt s i) q) ∧ Below w.heap.size w w3)
            case atStart => exact ⟨0, by omega, by omega, rfl, by rw [mc_zero], hown.r.congr (fun j _ => by rw [if_neg (by omega)]), hbel⟩
            case round =>
              clear hown hbel
              obtain ⟨k, hk, hg3, rfl, rfl, hrow3, hb3⟩ := hrel
              have Hk := Lib.hid hg3
              clear hg3
              by_cases hkm : k < m
              · obtain ⟨g0, cap, f, hv, hB, hmc, hcx, hrow, hf⟩ := hrow3.row (by omega)
                injection hv with hv1 hv2 hv3
                subst hv1
                subst hv3
                have hgw := hrow.lt
                have hmb : m ≤ 1000000 := by have := HI.out; omega
                have q1 := mc_dg (dvt s i) T n k
                have q2 := mc_succ (dvt s i) T n k
                have q3 := mc_lt hn (X := dvt s i) k
                have q4 := dg_lt 32 (dvt s i) k
                have cell := hrow.cell (i := k) (by omega)
                have frz := hrow.frozen k
                rw [hf k hkm, if_neg (Nat.lt_irrefl k), d32] at cell
                have t6 : decide (k < m) = true := decide_eq_true hkm
                have hqq : dg 32 (dvt s i) k * T ≤ 4294967295 * 1000000000 := Nat.mul_le_mul (by omega) hT1
                have HQ := Lib.hid (And.intro q1 q2)
                have HF := Lib.hid (And.intro hf (And.intro hcx hB))
                clear q1 q2 hf hrow3 hB
                generalize dg 32 (dvt s i) k = D at *
                generalize mc (dvt s i) T n k = N at *
                go_wp2_with fail
                go_roundg (m - (k + 1))
                case measure => have := Hk.out; omega
                case rel =>
                  obtain ⟨q1, q2⟩ := HQ.out
                  refine ⟨k + 1, by omega, rfl, by go_num, by rw [← q2, pdiv], OwnR.of_row HF.out.2.2 hmc HF.out.2.1 (hrow.set k _) (fun q hq => ?_), hb3.setCell HF.out.2.2 _⟩
                  by_cases hqk : q = k
                  · subst hqk
                    rw [if_pos rfl, if_pos (Nat.lt_succ_self q), d32, ← q1, pmod]
                  · rw [if_neg hqk, HF.out.1 q hq]
                    by_cases hq2 : q < k
                    · rw [if_pos hq2, if_pos (by omega)]
                    · rw [if_neg hq2, if_neg (by omega)]
              · obtain rfl : k = m := by omega
                have hown3 : OwnD wr w.heap.size (.slice A k c) k (dvt s i * T + n) := hrow3.d (fun j hj => if_pos hj)
                clear hrow3 hk Hk
                have t6 : decide (k < k) = false := decide_eq_false (Nat.lt_irrefl k)
                have hcl := mc_lt hn (X := dvt s i) k
                have hval := HV.out.1
                rcases Nat.eq_zero_or_pos (mc (dvt s i) T n k) with hz | hz
                · have hlow := mc_done HI.out.1 hz
                  rw [hz]
                  rw [← hval] at hown3 hlow
                  have HL := Lib.hid hlow
                  clear hlow hval hcl hz
                  go_wp2_with fail
                  go_roundg (s.size - p)
                  case measure => have := Hg.out; have := Hend.out; omega
                  case rel => exact ⟨p, k, c, A, hij, rfl, rfl, rfl, hown3, HL.out, by have := Hend.out; have := HI.out; omega, HI.out.2.2.1, HI.out.2.2.2, hb3⟩
                · obtain ⟨hlow, hdg⟩ := mc_more HI.out.1 (show mc (dvt s i) T n k < 4294967296 by omega)
                  have hcb : mc (dvt s i) T n k < 4294967296 := by omega
                  have HL := Lib.hid (And.intro hlow hdg)
                  clear hlow hdg hcl
                  have hkb : k ≤ 1000000 := by have := HI.out; omega
                  generalize mc (dvt s i) T n k = N at *
                  have hbs := hb3.size
                  go_wp2_with (at_builtin; refine wpList_append_own _ rfl _ _ 68 rfl w.heap.size 97 i0 (.int .u32 0) 1 4 Tryz.underlying68 hi hz0 hz1 hz2 rfl (by decide) _ _ _ rfl (by exact hown3.alloc _) ⟨wr.heap.size, 0, none⟩ 1 1 [.int .u32 (N : Int)] rfl rfl ?c1 ?c2 ?c3 ?c4 ?c5 ?_)
                  case c1 =>
                    intro j u hj
                    match j, hj with
                    | 0, hj => simp at hj; subst hj; simp [Addr.add]
                  case c2 => intro u hu; simp at hu; subst hu; rfl
                  case c3 => unfold maxLen; omega
                  case c4 => omega
                  case c5 => simp; omega
                  · intro v' w2 hown' hgrow _
                    have hb2 := (hb3.alloc hbs (.cells #[.int .u32 (N : Int)] 97)).grown hgrow (by simp; omega) (fun k hk => (hown3.lt k hk).1)
                    have hown2 : OwnD w2 w.heap.size v' (k + 1) (dvt s i * T + n) := by
                      unfold OwnD
                      rw [List.range_succ, List.map_append, List.map_cons, List.map_nil, d32, HL.out.2]
                      exact hown'
                    rw [← HV.out.1] at hown2
                    obtain ⟨g1, cap1, f1, rfl, hB1, hn1, hcx1, _, _⟩ := hown2.row (by omega)
                    clear hown' hgrow hb3 hown3
                    go_wp2_with fail
                    go_roundg (s.size - p)
                    case measure => have := Hg.out; have := Hend.out; omega
                    case rel => exact ⟨p, k + 1, cap1, some ⟨g1, 0, none⟩, hij, rfl, rfl, rfl, hown2, by rw [HV.out.1]; exact HL.out.1, by have := Hend.out; have := HI.out; omega, hn1, hcx1, hb2⟩
    · obtain rfl : i = s.size := by omega
      have hslc := hown.slc
      have hle := dn_le (k := 32) (by omega) hX
      have hmm : m ≤ 1000000 := by omega
      have Hs := Lib.hid (And.intro hX (And.intro hmi (And.intro hmc hcx)))
      have Hle := Lib.hid hle
      have hd' : Dig wr A (Fil.dn 32 (dvt s s.size)) c (dvt s s.size) := ⟨rfl, Nat.le_trans hle hmc, hslc.le hle⟩
      have hr1 := R.below hbel
      have t1 : decide ((s.size : Int) < s.size) = false := decide_eq_false (by omega)
      clear hX hmi hcx hle hown
      go_wp2_with (first | (go_at_call 68; go_must (refine (cut_any A m c (dvt s s.size) _ Hs.out.1 Hs.out.2.2.1 (by omega) hslc).mono ?_); rintro e w' ⟨rfl, rfl⟩) | (go_at_call 67; go_must (refine (laid_int b 0 _ _ _ _ (dvt s s.size) _ hr1 (Nat.le_trans Hle.out (by omega)) hd').mono ?_); rintro e w' ⟨rfl, hI, hB⟩))
      go_returns
      exact ⟨rfl, hI, But.after hbel hB R⟩
end Go.Proofs.YtbhfnigblhfikaaGreat
