/- The reference's plus, minus, shifted, cmp, times, fit. -/
import Derived.Test.YtjldfclncipbgaaGreatDoorB8
import Derived.Test.YtjldfclncipbgaaGreatDoorB5

/- The walks over the reference's numbers: plus, minus. -/
namespace Go.Proofs.YtjldfclncipbgaaGreatDoor
open Go Go.RowKit Go.PlainAid Fil

end Go.Proofs.YtjldfclncipbgaaGreatDoor

/- The walks over the reference's numbers: shifted, cmp. -/
namespace Go.Proofs.YtjldfclncipbgaaGreatDoor
open Go Go.RowKit Go.PlainAid Fil

theorem Own.made (w : World) (q : Nat) (hq : q ≤ maxLen) : Own (w.alloc (.cells (madeCells #[.int .i64 0] q) 3)) w.heap.size (.slice (some ⟨w.heap.size, 0, none⟩) q q) q (fun _ => 0) := by
  refine ⟨by simp, .inr ⟨w.heap.size, q, _, rfl, Nat.le_refl _, heap_alloc_new w _, Nat.le_refl _, hq, by rw [size_madeCells]; simp, ?_⟩⟩
  apply List.ext_getElem?
  intro i
  by_cases hi : i < q
  · rw [List.getElem?_take_of_lt (by omega), List.getElem?_map, List.getElem?_range hi, Array.getElem?_toList]
    simp [madeCells, hi, Nat.mod_one]
  · rw [List.getElem?_take_eq_none (by omega)]
    simp [hi]

end Go.Proofs.YtjldfclncipbgaaGreatDoor

/- The walk over the reference's numbers: times. -/
namespace Go.Proofs.YtjldfclncipbgaaGreatDoor
open Go Go.RowKit Go.PlainAid Fil

end Go.Proofs.YtjldfclncipbgaaGreatDoor

/- The walk over the reference's fit. -/
namespace Go.Proofs.YtjldfclncipbgaaGreatDoor
open Go Go.RowKit Go.PlainAid Fil

theorem by_row8 {y p i k j : Nat} {v : Value} (hk : k = p - 1 - i) (hi : i < p) (hj : j < p) (hv : v = b8 y i) : (if j = k then v else if p - i ≤ j then b8 y (p - 1 - j) else Value.int IntKind.u8 0) = if p - (i + 1) ≤ j then b8 y (p - 1 - j) else Value.int IntKind.u8 0 := by
  by_cases e : j = k
  · rw [if_pos e, if_pos (by omega), show p - 1 - j = i by omega, hv]
  · rw [if_neg e]
    by_cases h : p - i ≤ j
    · rw [if_pos h, if_pos (by omega)]
    · rw [if_neg h, if_neg (by omega)]
theorem tz_lt8 {x n : Nat} (hx : x ≠ 0) (h : x < 2 ^ (8 * n)) : tz x < 8 * n := by
  have ht := tz_le_log hx
  have hl := (Nat.log2_lt hx).2 h
  omega
theorem sz_ne {neg : Bool} {x : Nat} (h : x ≠ 0) : sz neg x ≠ 0 := fun e => h (by rw [← sz_abs neg x, e]; rfl)
/-- fit's answer where there is none -/
theorem fit_no {neg : Bool} {x : Nat} {e : Int} (h : mkOk (sz neg x) e = false) : dyR false 0 0 4 = mkV (sz neg x) e := (mkV_bad h).symm
theorem fit_yes {neg : Bool} {x : Nat} {e : Int} (hx : x ≠ 0) (h : mkOk (sz neg x) e = true) : dyR neg (x / 2 ^ tz x) (e + tz x) 0 = mkV (sz neg x) e := by
  obtain ⟨m1, m2, m3, m4⟩ := mk_good h (sz_ne hx)
  unfold mkV
  rw [m1, m2, m3, m4, sz_abs, sg_sz hx]

set_option maxRecDepth 100000 in
set_option maxHeartbeats 4000000 in
theorem rfit_any (neg : Bool) (A : Option Addr) (n c x : Nat) (e : Int) (w : World) (hn : n = Fil.dn 8 x) (hnc : n ≤ c) (h8 : n ≤ 393216) (he1 : -9223372036854775808 ≤ e) (he2 : e ≤ 9223372036854775807) (h : Slc w 3 A n (i8 x)) :
    Calls Tryz.prog 130 #[.bool neg, .slice A n c, .int .i64 e] w fun r w' => r = .returned (mkV (sz neg x) e) ∧ Below w.heap.size w w' := by
  have hbw : Below w.heap.size w (w.alloc (.cells #[.bool false, .string { data := #[] }, .int .i64 0] 24)) := (Below.refl _ _).alloc (Nat.le_refl _) _
  by_cases hx0 : x = 0
  · subst hx0
    have hn0 : n = 0 := by rw [hn, dn_zero]
    subst hn0
    have H := Lib.hid (mkV_zero e)
    have hz := sz_zero neg
    rw [hz]
    clear hn h hz he1 he2
    go_enter Tryz.func130, Tryz.ntmps130
    go_wp2
    go_returns
    exact ⟨by rw [H.out]; exact dyR_none ⟨rfl, rfl, rfl, rfl⟩, hbw⟩
  · have hx := lt_dn (k := 8) (by omega) x
    rw [← hn] at hx
    have ht := tz_lt8 hx0 hx
    have hnp : 0 < n := by rw [hn]; exact dn_pos hx0
    have hn1 : ((n : Int) == 0) = false := by rw [beq_eq_false_iff_ne]; omega
    have hlow := fun W => rlow_any A n c x W hn hx0 (by omega)
    have hhal := fun W => rhalved_any A n c x (tz x) W hn hnc (by omega) (by omega)
    have hs0 := h.alloc (.cells #[.bool false, .string { data := #[] }, .int .i64 0] 24)
    have hno1 := @mkOk_no1 (sz neg x) e (sz_ne hx0)
    have hno2 := @mkOk_no2 (sz neg x) e (sz_ne hx0)
    have hno3 := @mkOk_no3 (sz neg x) e (sz_ne hx0)
    have hyes := @mkOk_yes (sz neg x) e
    rw [sz_abs] at hno1 hno2 hno3 hyes
    have hfy := @fit_yes neg x e hx0
    have hfn := @fit_no neg x e
    have H := Lib.hid (And.intro hno1 (And.intro hno2 (And.intro hno3 (And.intro hyes (And.intro hfy hfn)))))
    have HC := Lib.hid (And.intro hlow hhal)
    clear hx hno1 hno2 hno3 hyes hfy hfn hlow hhal hx0 hn
    obtain ⟨t, hte⟩ : ∃ t, t = tz x := ⟨_, rfl⟩
    obtain ⟨y, hye⟩ : ∃ y, y = x / 2 ^ tz x := ⟨_, rfl⟩
    rw [← hte] at ht H HC hye
    rw [← hye] at H HC
    obtain ⟨V, hV⟩ : ∃ V, V = mkV (sz neg x) e := ⟨_, rfl⟩
    rw [← hV] at H ⊢
    obtain ⟨m, hm⟩ : ∃ m, m = mkOk (sz neg x) e := ⟨_, rfl⟩
    rw [← hm] at H
    have H6 := Lib.hid H.out.2.2.2.2.2
    have ht0 : 0 ≤ (t : Int) := by omega
    have ht1 : (t : Int) ≤ 3145728 := by omega
    clear hV hm hte hye h
    go_enter Tryz.func130, Tryz.ntmps130
    go_wp2_with fail
    refine (HC.out.1 _ hs0).mono ?_
    rintro r w1 ⟨rfl, rfl⟩
    go_wp2_with fail
    refine (HC.out.2 _ hs0).mono ?_
    rintro r w1 ⟨A', c', rfl, hnc', hs', hb1⟩
    obtain ⟨p, hp⟩ : ∃ p, p = Fil.dn 8 y := ⟨_, rfl⟩
    rw [← hp] at hnc' hs' H ⊢
    obtain ⟨c0, c1, c2⟩ := box_cells w false { data := #[] } 0 hb1
    have f0 := box_free w false { data := #[] } 0 hb1 0
    have f1 := box_free w false { data := #[] } 0 hb1 1
    have f2 := box_free w false { data := #[] } 0 hb1 2
    have hsz : (w.alloc (.cells #[.bool false, .string { data := #[] }, .int .i64 0] 24)).heap.size = w.heap.size + 1 := by simp
    have hB1 : Below w.heap.size w w1 := hbw.trans (hb1.mono (by omega))
    have hbZ : Below w.heap.size w (((w1.setCell ⟨w.heap.size, 0, none⟩ (.bool false)).setCell ⟨w.heap.size, 1, none⟩ (.string { data := #[] })).setCell ⟨w.heap.size, 2, none⟩ (.int .i64 0)) := ((hB1.setCell (Nat.le_refl _) _).setCell (Nat.le_refl _) _).setCell (Nat.le_refl _) _
    rw [hsz] at hb1
    have hsz1 := hb1.size
    rw [hsz] at hsz1
    have Hp := Lib.hid hp
    have HB := Lib.hid (And.intro hb1 hB1)
    have hbx := hb1
    clear HC hs0 hbw hp hsz hb1 hB1 hbx
    by_cases g1 : 1048576 < e
    · have hv := H.out.2.2.1 (by omega)
      clear H
      have Hv := Lib.hid (H6.out hv)
      clear hv
      go_wp2
      exact bodyPost_ret (v := .tuple #[.agg #[.bool false, .string { data := #[] }, .int .i64 0], .int .i64 4]) (by simp [results, Tryz.results130, go_sem, c0, c1, c2]) rfl ⟨by rw [← Hv.out]; exact dyR_none ⟨rfl, rfl, rfl, rfl⟩, hbZ⟩
    · by_cases g2 : e < -4194304
      · have hv := H.out.2.1 (by omega)
        clear H
        have Hv := Lib.hid (H6.out hv)
        clear hv
        go_wp2
        exact bodyPost_ret (v := .tuple #[.agg #[.bool false, .string { data := #[] }, .int .i64 0], .int .i64 4]) (by simp [results, Tryz.results130, go_sem, c0, c1, c2]) rfl ⟨by rw [← Hv.out]; exact dyR_none ⟨rfl, rfl, rfl, rfl⟩, hbZ⟩
      · by_cases g3 : 1048576 < e + (t : Int)
        · have hv := H.out.2.2.1 (by omega)
          clear H
          have Hv := Lib.hid (H6.out hv)
          clear hv
          go_wp2
          exact bodyPost_ret (v := .tuple #[.agg #[.bool false, .string { data := #[] }, .int .i64 0], .int .i64 4]) (by simp [results, Tryz.results130, go_sem, c0, c1, c2]) rfl ⟨by rw [← Hv.out]; exact dyR_none ⟨rfl, rfl, rfl, rfl⟩, hbZ⟩
        · by_cases g4 : e + (t : Int) < -1048576
          · have hv := H.out.2.1 (by omega)
            clear H
            have Hv := Lib.hid (H6.out hv)
            clear hv
            go_wp2
            exact bodyPost_ret (v := .tuple #[.agg #[.bool false, .string { data := #[] }, .int .i64 0], .int .i64 4]) (by simp [results, Tryz.results130, go_sem, c0, c1, c2]) rfl ⟨by rw [← Hv.out]; exact dyR_none ⟨rfl, rfl, rfl, rfl⟩, hbZ⟩
          · by_cases g5 : 16384 < p
            · have hv := H.out.1 (by omega)
              clear H
              have g5' : (16384 : Int) < (p : Int) := by omega
              have Hv := Lib.hid (H6.out hv)
              clear hv
              go_wp2
              exact bodyPost_ret (v := .tuple #[.agg #[.bool false, .string { data := #[] }, .int .i64 0], .int .i64 4]) (by simp [results, Tryz.results130, go_sem, c0, c1, c2]) rfl ⟨by rw [← Hv.out]; exact dyR_none ⟨rfl, rfl, rfl, rfl⟩, hbZ⟩
            · have hv := H.out.2.2.2.2.1 (H.out.2.2.2.1 (by omega) (by omega) (by omega))
              have Hv := Lib.hid hv
              clear H H6 hv hbZ
              have g5' : (p : Int) ≤ 16384 := by omega
              have hmk := run_make_row' (P := Tryz.prog) 87 5 (.int .u8 0) 1 Tryz.underlying87 Tryz.info5 rfl .i64 .i64 p (by omega) (by omega)
              go_wp2
              clear hmk
              go_loopg [10] p (fun g s10 wr => ∃ i : Nat, i ≤ p ∧ g = p - i ∧ s10 = .int .i64 i ∧ wr.rowIs w1.heap.size 5 p (fun j => if p - i ≤ j then b8 y (p - 1 - j) else .int .u8 0) ∧ Below w1.heap.size w1 wr)
              case atStart => exact ⟨0, by omega, by omega, rfl, (World.rowIs_made w1 _ p 5).congr (fun j hj => by simp; omega), (Below.refl _ _).alloc (Nat.le_refl _) _⟩
              case round =>
                obtain ⟨i, hi, hg, rfl, hrow, hbel⟩ := hrel
                have Hg := Lib.hid hg
                clear hg
                by_cases hin : i < p
                · obtain ⟨b1, o1, rfl, _, hc1⟩ := (hs'.below hbel).cell (by omega)
                  have k1 := hc1 i hin
                  simp only [i8] at k1
                  obtain ⟨k, hk⟩ : ∃ k, k = p - 1 - i := ⟨_, rfl⟩
                  have ek : (p : Int) - 1 - (i : Int) = (k : Int) := by omega
                  have hkm : k < p := by omega
                  have Hk : Hid (k = p - 1 - i) := Lib.hid hk
                  have k2 := hrow.cell (i := k) (by omega)
                  have k3 := hrow.frozen k
                  have hdx := dg_lt 8 y i
                  clear hc1 hk c0 c1 c2 f0 f1 f2
                  go_wp2
                  go_roundg (p - (i + 1))
                  case measure => have := Hg.out; omega
                  case rel =>
                    exact ⟨i + 1, by omega, rfl, by go_num, (hrow.set k _).congr (fun j hj => by_row8 Hk.out hin hj (by rw [b8])), hbel.setCell (Nat.le_refl _) _⟩
                · obtain rfl : i = p := by omega
                  have hrow' := hrow.congr (g := fun j => b8 y (i - 1 - j)) (fun j hj => by rw [if_pos (by omega)])
                  rw [Hp.out] at hrow'
                  have hrb := run_back wr w1.heap.size y hrow'
                  rw [← Hp.out] at hrb
                  have l0 : w.heap.size < w1.heap.size := by omega
                  have d0 := (hbel.cell (p := ⟨w.heap.size, 0, none⟩) l0).trans c0
                  have d1 := (hbel.cell (p := ⟨w.heap.size, 1, none⟩) l0).trans c1
                  have d2 := (hbel.cell (p := ⟨w.heap.size, 2, none⟩) l0).trans c2
                  have e0 := (hbel.frozen (p := ⟨w.heap.size, 0, none⟩) l0).trans f0
                  have e1 := (hbel.frozen (p := ⟨w.heap.size, 1, none⟩) l0).trans f1
                  have e2 := (hbel.frozen (p := ⟨w.heap.size, 2, none⟩) l0).trans f2
                  have hB := HB.out.2.trans (hbel.mono HB.out.2.size)
                  have hbZ : Below w.heap.size w (((wr.setCell ⟨w.heap.size, 0, none⟩ (.bool neg)).setCell ⟨w.heap.size, 1, none⟩ (.string (bstr y))).setCell ⟨w.heap.size, 2, none⟩ (.int .i64 (e + t))) := ((hB.setCell (Nat.le_refl _) _).setCell (Nat.le_refl _) _).setCell (Nat.le_refl _) _
                  clear hrow hrow' hbel c0 c1 c2 f0 f1 f2 hs' hB
                  go_wp2
                  exact bodyPost_ret (v := .tuple #[.agg #[.bool neg, .string (bstr y), .int .i64 (e + (t : Int))], .int .i64 0]) (by simp [results, Tryz.results130, go_sem, d0, d1, d2]) rfl ⟨by rw [← Hv.out]; rfl, hbZ⟩
end Go.Proofs.YtjldfclncipbgaaGreatDoor
