/- The walks over wide's Int, last part: SetBytes, Bytes. -/
import Derived.Test.YtgcifpjhhoalmaaDoorIe
import Derived.Test.YtgcifpjhhoalmaaDoorBt
namespace Go.Proofs.YtgcifpjhhoalmaaDoor
open Go Go.RowKit Fil

theorem Tryd.info5 : (Tryd.prog.info? 5).map (fun i => (i.zero, i.size, i.bytes)) = some (some (.int .u8 0), 1, 1) := by kernel_rfl
/-- byte k from behind -/
def b8 (x : Nat) (k : Nat) : Value := .int .u8 (dg 8 x k)

theorem sb_row {x k j : Nat} {v : Value} (hv : v = .int .u32 ((dg 32 (top8 x (k + 1)) (k / 4) ||| dg 8 x k * 2 ^ (8 * (k % 4)) : Nat) : Int)) :
    (if j = k / 4 then v else d32 (top8 x (k + 1)) j) = d32 (top8 x k) j := by
  by_cases e : j = k / 4
  · subst e; rw [if_pos rfl, hv, d32, (top8_or x k).1]
  · rw [if_neg e, d32, d32, top8_ne x k e]

theorem sb_val (x k : Nat) : Value.int .u32 (bits BinOp.or IntKind.u32 (dg 32 (top8 x (k + 1)) (k / 4) : Int) ((dg 8 x k : Int) * 2 ^ (k % 4 * 8) % 4294967296)) = .int .u32 ((dg 32 (top8 x (k + 1)) (k / 4) ||| dg 8 x k * 2 ^ (8 * (k % 4)) : Nat) : Int) := by
  have h := (top8_or x k).2
  rw [pow_cast, Nat.mul_comm (k % 4) 8]
  generalize dg 8 x k * 2 ^ (8 * (k % 4)) = t at *
  have e : ((t : Nat) : Int) % 4294967296 = (t : Int) := by omega
  rw [e, u32_or_nat _ _ (dg_lt 32 _ _) h]
theorem by_row {x m i k j : Nat} (hk : k = m - 1 - i) (hi : i < m) (hj : j < m) : (if j = k then Value.int IntKind.u8 ((dg 32 x (i / 4) : Int) / 2 ^ (i % 4 * 8) % 256) else if m - i ≤ j then b8 x (m - 1 - j) else Value.int IntKind.u8 0) = if m - (i + 1) ≤ j then b8 x (m - 1 - j) else Value.int IntKind.u8 0 := by
  by_cases e : j = k
  · rw [if_pos e, if_pos (by omega), div_cast, Nat.mul_comm (i % 4) 8, b8, show m - 1 - j = i by omega, ← byte_of]
    congr 1
  · rw [if_neg e]
    by_cases h : m - i ≤ j
    · rw [if_pos h, if_pos (by omega)]
    · rw [if_neg h, if_neg (by omega)]

set_option maxHeartbeats 2000000 in
theorem setbytes_any (b o : Nat) (A : Option Addr) (n c x : Nat) (w : World) (hr : Room w b o) (hx : x < 2 ^ (8 * n)) (hn : n ≤ 1099511627776) (h : Slc w 5 A n (fun i => b8 x (n - 1 - i))) :
    Calls Tryd.prog 126 #[.pointer (some ⟨b, o, none⟩), .slice A n c] w fun e w' => e = .returned (.pointer (some ⟨b, o, none⟩)) ∧ IntAt w' b o x ∧ But w w' b o := by
  have l0 := hr.lt
  have Hx := Lib.hid hx
  have hmk := run_make_row' (P := Tryd.prog) 144 169 (.int .u32 0) 4 Tryd.underlying144 Tryd.info169 rfl .i64 .i64 (n / 4 + 1) (by omega) (by omega)
  have ec : ((n / 4 + 1 : Nat) : Int) = (n : Int) / 4 + 1 := by omega
  rw [ec] at hmk
  clear hx ec
  go_enter Tryd.func126, Tryd.ntmps126
  go_wp2
  clear hmk
  go_loopg [16] n (fun g s16 wr => ∃ i : Nat, i ≤ n ∧ g = n - i ∧ s16 = .int .i64 i ∧ wr.rowIs w.heap.size 169 (n / 4 + 1) (d32 (top8 x (n - i))) ∧ Below w.heap.size w wr)
  case atStart => exact ⟨0, by omega, by omega, rfl, (World.rowIs_made w _ (n / 4 + 1) 169).congr (fun j _ => by rw [Nat.sub_zero, top8_all Hx.out, d32_zero]), (Below.refl _ _).alloc (Nat.le_refl _) _⟩
  case round =>
    obtain ⟨i, hi, hg, rfl, hrow, hbel⟩ := hrel
    have Hg := Lib.hid hg
    clear hg
    by_cases hin : i < n
    · obtain ⟨b1, o1, rfl, _, hc1⟩ := (h.below hbel).cell (by omega)
      have k1 := hc1 i hin
      obtain ⟨k, hk⟩ : ∃ k, k = n - 1 - i := ⟨_, rfl⟩
      rw [← hk, b8] at k1
      have ek : (n : Int) - 1 - (i : Int) = (k : Int) := by omega
      have hkn : k < n := by omega
      have e1 : n - i = k + 1 := by omega
      have Hk1 : Hid (n - (i + 1) = k) := Lib.hid (by omega)
      rw [e1] at hrow
      have hdx : dg 8 x k < 256 := dg_lt 8 x k
      have k2 := hrow.cell (i := k / 4) (by omega)
      have k3 := hrow.frozen (k / 4)
      simp only [d32] at k2
      clear hc1 hk e1
      go_wp2
      go_roundg (n - (i + 1))
      case measure => have := Hg.out; omega
      case rel =>
        exact ⟨i + 1, by omega, rfl, by go_num, (hrow.set (k / 4) _).congr (fun j _ => by rw [Hk1.out]; exact sb_row (sb_val x k)), hbel.setCell (Nat.le_refl _) _⟩
    · obtain rfl : i = n := by omega
      rw [Nat.sub_self, top8_zero] at hrow
      have hlt : x < 2 ^ (32 * (i / 4 + 1)) := Nat.lt_of_lt_of_le Hx.out (pmono (by omega))
      have hle := dn_le (k := 32) (by omega) hlt
      have Hs := Lib.hid hlt
      have Hle := Lib.hid hle
      have hs := Slc.of_row hrow (Nat.le_refl _)
      have hd : Dig wr (some ⟨w.heap.size, 0, none⟩) (dn 32 x) (i / 4 + 1) x := ⟨rfl, hle, hs.le hle⟩
      have hr1 := hr.below hbel
      clear hlt hle
      go_wp2_with (first | (go_at_call 168; go_must (refine (cut_any _ (i / 4 + 1) (i / 4 + 1) x _ Hs.out (by omega) (by omega) hs).mono ?_); rintro e w' ⟨rfl, rfl⟩) | (go_at_call 157; go_must (refine (laid_int b o _ _ _ _ x _ hr1 (Nat.le_trans Hle.out (by omega)) hd).mono ?_); rintro e w' ⟨rfl, hI, hB⟩))
      go_ret
      exact ⟨rfl, hI, But.after hbel hB hr⟩

set_option maxHeartbeats 2000000 in
theorem bytes_any (b o : Nat) (z : Int) (w : World) (h : IntAt w b o z) (hz : dn 32 z.natAbs ≤ 1099511627776) :
    Calls Tryd.prog 153 #[.pointer (some ⟨b, o, none⟩)] w fun e w' => e = .returned (.slice (some ⟨w.heap.size, 0, none⟩) (dn 8 z.natAbs) (dn 8 z.natAbs)) ∧ w'.rowIs w.heap.size 5 (dn 8 z.natAbs) (fun i => b8 z.natAbs (dn 8 z.natAbs - 1 - i)) ∧ Below w.heap.size w w' := by
  obtain ⟨A, n, c, h1, h2, hD⟩ := h.cells
  have l1 := h.lt
  obtain ⟨x, hx⟩ : ∃ x, x = z.natAbs := ⟨_, rfl⟩
  rw [← hx] at hD hz ⊢
  have hD1 := hD
  obtain ⟨h3, _, h5⟩ := hD
  rw [← h3] at hz
  have H3 := Lib.hid h3
  have hbl := dn8_bl x
  obtain ⟨m, hm⟩ : ∃ m, m = dn 8 x := ⟨_, rfl⟩
  rw [← hm] at hbl ⊢
  have hmn : m ≤ 4 * n := by
    have : x < 2 ^ (8 * (4 * n)) := by
      have := lt_dn (k := 32) (by omega) x
      rw [← h3] at this
      exact Nat.lt_of_lt_of_le this (pmono (by omega))
    rw [hm]; exact dn_le (by omega) this
  have hb7 : bl x + 7 < 8 * m + 8 := by omega
  have hb6 : 8 * m ≤ bl x + 7 := by omega
  have Hm := Lib.hid hm
  have em : ((bl x : Nat) : Int) / 8 + 7 = ((bl x : Nat) : Int) / 8 + 7 := rfl
  have ec : ((bl x : Int) + 7) / 8 = (m : Int) := by omega
  have hmk := run_make_row' (P := Tryd.prog) 148 5 (.int .u8 0) 1 Tryd.underlying148 Tryd.info5 rfl .i64 .i64 m (by omega) (by omega)
  clear h hx em h3 hm hbl h1
  go_enter Tryd.func153, Tryd.ntmps153
  go_wp2_with (go_at_call 148; go_must (refine (size_any A n c x _ H3.out hz h5).mono ?_); rintro e w' ⟨rfl, rfl⟩)
  clear hmk
  go_loopg [17] m (fun g s17 wr => ∃ i : Nat, i ≤ m ∧ g = m - i ∧ s17 = .int .i64 i ∧ wr.rowIs w.heap.size 5 m (fun j => if m - i ≤ j then b8 x (m - 1 - j) else .int .u8 0) ∧ Below w.heap.size w wr)
  case atStart => exact ⟨0, by omega, by omega, rfl, (World.rowIs_made w _ m 5).congr (fun j hj => by simp; omega), (Below.refl _ _).alloc (Nat.le_refl _) _⟩
  case round =>
    obtain ⟨i, hi, hg, rfl, hrow, hbel⟩ := hrel
    have Hg := Lib.hid hg
    clear hg
    have k4 := (hbel.cell (p := ⟨b, o + 1, none⟩) l1).trans h2
    by_cases hin : i < m
    · obtain ⟨b1, o1, rfl, _, hc1⟩ := (h5.below hbel).cell (by omega)
      have k1 := hc1 (i / 4) (by omega)
      simp only [d32] at k1
      obtain ⟨k, hk⟩ : ∃ k, k = m - 1 - i := ⟨_, rfl⟩
      have ek : (m : Int) - 1 - (i : Int) = (k : Int) := by omega
      have hkm : k < m := by omega
      have Hk : Hid (k = m - 1 - i) := Lib.hid hk
      have k2 := hrow.cell (i := k) (by omega)
      have k3 := hrow.frozen k
      have hdx := dg_lt 32 x (i / 4)
      have hi4 : i / 4 < n := by omega
      clear hc1 hk
      go_wp2
      go_roundg (m - (i + 1))
      case measure => have := Hg.out; omega
      case rel =>
        exact ⟨i + 1, by omega, rfl, by go_num, (hrow.set k _).congr (fun j hj => by_row Hk.out hin hj), hbel.setCell (Nat.le_refl _) _⟩
    · obtain rfl : i = m := by omega
      have hrow' := hrow.congr (g := fun j => b8 x (i - 1 - j)) (fun j hj => by rw [if_pos (by omega)])
      clear hrow
      go_wp2
      go_ret
      exact ⟨rfl, hrow', hbel⟩
end Go.Proofs.YtgcifpjhhoalmaaDoor
