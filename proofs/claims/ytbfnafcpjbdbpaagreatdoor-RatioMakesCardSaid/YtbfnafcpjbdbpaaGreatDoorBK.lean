/- The walks over dyad.Make, the reference's Make and Of. -/
import Derived.Test.YtbfnafcpjbdbpaaGreatDoorBJ
namespace Go.Proofs.YtbfnafcpjbdbpaaGreatDoor
open Go Go.RowKit Go.PlainAid Fil

theorem natB_bstr2 {x : Nat} (h : Fil.dn 8 x ≤ 16384) : natB (bstr x) = true := by
  by_cases hx : x = 0
  · subst hx
    unfold natB
    rw [bstr_size, dn_zero]; rfl
  · have hp := dn_pos (k := 8) hx
    unfold natB
    rw [bstr_size, bstr_bt x 0 hp]
    have ht := dg_top (k := 8) (by omega) hx
    have d1 : decide (Fil.dn 8 x ≤ 16384) = true := decide_eq_true h
    have d2 : ((dg 8 x (Fil.dn 8 x - 1 - 0) : Int) == 0) = false := by
      rw [beq_eq_false_iff_ne, Nat.sub_zero]; omega
    rw [d1, d2]; simp
theorem nat_of_natB2 {s : ByteArray} (h : natB s = true) : ∃ x, s = bstr x ∧ Fil.dn 8 x ≤ 16384 := by
  by_cases h0 : s.size = 0
  · refine ⟨0, ?_, by rw [dn_zero]; omega⟩
    apply ByteArray.ext
    rw [Array.eq_empty_of_size_eq_zero h0]
    simp [bstr, bs_zero]
  · have hl : s.data.toList.length = s.size := Array.length_toList
    unfold natB at h
    simp only [Bool.and_eq_true, Bool.or_eq_true, decide_eq_true_eq, Bool.not_eq_true', beq_eq_false_iff_ne] at h
    have hc : cano s.data.toList := by
      intro hp h00
      rcases h.2 with h3 | h3
      · exact h0 h3
      · apply h3
        rw [bt_get (by omega)]
        have : s[0] = s.data.toList[0] := by simp [ByteArray.getElem_eq_getElem_data]
        rw [this, h00]; rfl
    have hb := bs_nb hc
    refine ⟨nb s.data.toList, ?_, ?_⟩
    · unfold bstr; rw [hb]
    · rw [dn_nb hc, hl]; exact h.1
theorem DyAt.but9 {w w' : World} {b p o : Nat} {neg : Bool} {s : ByteArray} {e : Int} (h : DyAt w b neg s e) (hw : But w w' p o) (hb : b ≠ p) : DyAt w' b neg s e := by
  have hk := hw.far b h.lt hb
  have c : ∀ i : Nat, w'.cell? ⟨b, i, none⟩ = w.cell? ⟨b, i, none⟩ := fun i => World.cell?_of_block (w := w) hk
  have f : ∀ i : Nat, w'.frozen? ⟨b, i, none⟩ = w.frozen? ⟨b, i, none⟩ := fun i => by unfold World.frozen?; rw [hk]
  exact ⟨(c 0).trans h.c0, (c 1).trans h.c1, (c 2).trans h.c2, (f 0).trans h.f0, (f 1).trans h.f1, (f 2).trans h.f2⟩
theorem bstr_le {x : Nat} (h : Fil.dn 8 x ≤ 16384) : (bstr x).size ≤ 9223372036854775807 := by rw [bstr_size]; omega

set_option maxHeartbeats 2000000 in
theorem rmake_ok (neg : Bool) (x : Nat) (e : Int) (w : World) (hx : Fil.dn 8 x ≤ 16384) (he1 : -9223372036854775808 ≤ e) (he2 : e ≤ 9223372036854775807) :
    Calls Tryz.prog 50 #[.bool neg, .string (bstr x), .int .i64 e] w fun r w' => r = .returned (mkV (sz neg x) e) ∧ Below w.heap.size w w' := by
  have hsz := bstr_size x
  have hra := fun W => rof_any x W (by omega)
  have hfi := fun A c W hc (h : Slc W 3 A (Fil.dn 8 x) (i8 x)) => rfit_any neg A (Fil.dn 8 x) c x e W rfl hc (by omega) he1 he2 h
  unfold mkV at hfi ⊢
  unfold dyR at hfi ⊢
  generalize mkN (sz neg x) e = N at *
  generalize bstr (mkX (sz neg x) e) = S at *
  generalize mkE (sz neg x) e = E at *
  generalize mkR (sz neg x) e = R at *
  have hD := DyAt.put w false { data := #[] } 0
  have hB := (Below.refl w.heap.size w).alloc (Nat.le_refl _) (.cells #[.bool false, .string { data := #[] }, .int .i64 0] 26)
  have hb0 : 0 < Fil.dn 8 x → (bt (bstr x) 0 == 0) = false := fun hp => by
    rw [bstr_bt x 0 hp]
    have hx0 : x ≠ 0 := by rintro rfl; rw [dn_zero] at hp; omega
    have ht := dg_top (k := 8) (by omega) hx0
    rw [beq_eq_false_iff_ne, Nat.sub_zero]; omega
  have hgb := get_bt (bstr x)
  have n1 : (Fil.dn 8 x : Int) ≤ 16384 := by omega
  have d1 : decide (16384 < (Fil.dn 8 x : Int)) = false := decide_eq_false (by omega)
  have d2 : decide (16384 < Fil.dn 8 x) = false := decide_eq_false (by omega)
  obtain ⟨n, hn⟩ : ∃ n, n = Fil.dn 8 x := ⟨_, rfl⟩
  rw [← hn] at hsz hra hfi hb0 n1 d1 d2
  obtain ⟨s, hs⟩ : ∃ s, s = bstr x := ⟨_, rfl⟩
  rw [← hs] at hsz hra hb0 hgb ⊢
  clear hn hs hx
  by_cases hp : 0 < n
  · have k0 := hb0 hp
    have k1 : decide (0 < n) = true := decide_eq_true hp
    have k2 : decide (0 < (n : Int)) = true := decide_eq_true (by omega)
    have k3 : 0 < s.size := by rw [hsz]; exact hp
    clear hb0
    go_enter Tryz.func50, Tryz.ntmps50
    go_wp2_with fail
    (with_reducible refine (hra _).mono ?_)
    rintro r w1 ⟨v, rfl, hown, hb1⟩
    obtain ⟨A, c, rfl, hnc, hsl⟩ := Own.slc hown
    have hs0 : Slc w1 3 A n (i8 x) := hsl
    replace hD := hD.keep hb1
    replace hB := hB.trans (hb1.mono hB.size)
    clear hown hsl hb1 hra
    go_wp2_with fail
    (with_reducible refine (hfi A c w1 hnc hs0).mono ?_)
    rintro r w2 ⟨rfl, hb2⟩
    replace hD := hD.keep hb2
    replace hB := hB.trans (hb2.mono hB.size)
    obtain ⟨c0, c1, c2, f0, f1, f2⟩ := hD
    have hbZ : Below w.heap.size w (((w2.setCell ⟨w.heap.size, 0, none⟩ (.bool N)).setCell ⟨w.heap.size, 1, none⟩ (.string S)).setCell ⟨w.heap.size, 2, none⟩ (.int .i64 E)) := ((hB.setCell (Nat.le_refl _) _).setCell (Nat.le_refl _) _).setCell (Nat.le_refl _) _
    clear hb2 hs0 hB
    go_wp2
    exact bodyPost_ret (v := .tuple #[.agg #[.bool N, .string S, .int .i64 E], .int .i64 R]) (by simp [results, Tryz.results50, go_sem, c0, c1, c2]) rfl ⟨rfl, hbZ⟩
  · have k1 : decide (0 < n) = false := decide_eq_false hp
    have k2 : decide (0 < (n : Int)) = false := decide_eq_false (by omega)
    clear hb0
    go_enter Tryz.func50, Tryz.ntmps50
    go_wp2_with fail
    (with_reducible refine (hra _).mono ?_)
    rintro r w1 ⟨v, rfl, hown, hb1⟩
    obtain ⟨A, c, rfl, hnc, hsl⟩ := Own.slc hown
    have hs0 : Slc w1 3 A n (i8 x) := hsl
    replace hD := hD.keep hb1
    replace hB := hB.trans (hb1.mono hB.size)
    clear hown hsl hb1 hra
    go_wp2_with fail
    (with_reducible refine (hfi A c w1 hnc hs0).mono ?_)
    rintro r w2 ⟨rfl, hb2⟩
    replace hD := hD.keep hb2
    replace hB := hB.trans (hb2.mono hB.size)
    obtain ⟨c0, c1, c2, f0, f1, f2⟩ := hD
    have hbZ : Below w.heap.size w (((w2.setCell ⟨w.heap.size, 0, none⟩ (.bool N)).setCell ⟨w.heap.size, 1, none⟩ (.string S)).setCell ⟨w.heap.size, 2, none⟩ (.int .i64 E)) := ((hB.setCell (Nat.le_refl _) _).setCell (Nat.le_refl _) _).setCell (Nat.le_refl _) _
    clear hb2 hs0 hB
    go_wp2
    exact bodyPost_ret (v := .tuple #[.agg #[.bool N, .string S, .int .i64 E], .int .i64 R]) (by simp [results, Tryz.results50, go_sem, c0, c1, c2]) rfl ⟨rfl, hbZ⟩

set_option maxHeartbeats 2000000 in
theorem rmake_bad (neg : Bool) (s : ByteArray) (e : Int) (w : World) (h : natB s = false) (hs : s.size ≤ 9223372036854775807) :
    Calls Tryz.prog 50 #[.bool neg, .string s, .int .i64 e] w fun r w' => r = .returned (dyR false 0 0 2) ∧ Below w.heap.size w w' := by
  have hB := (Below.refl w.heap.size w).alloc (Nat.le_refl _) (.cells #[.bool false, .string { data := #[] }, .int .i64 0] 26)
  have hgb := get_bt s
  unfold natB at h
  by_cases h1 : s.size ≤ 16384
  · have h0 : 0 < s.size := by
      rcases (show s.size = 0 ∨ 0 < s.size by omega) with h2 | h2
      · rw [h2] at h; simp at h
      · exact h2
    have k0 : (bt s 0 == 0) = true := by
      rw [decide_eq_true h1, decide_eq_false (by omega)] at h
      simpa using h
    have d1 : decide (16384 < (s.size : Int)) = false := decide_eq_false (by omega)
    have d2 : decide (16384 < s.size) = false := decide_eq_false (by omega)
    have k1 : decide (0 < s.size) = true := decide_eq_true h0
    have k2 : decide (0 < (s.size : Int)) = true := decide_eq_true (by omega)
    clear h
    go_enter Tryz.func50, Tryz.ntmps50
    go_wp2
    go_returns
    exact ⟨dyR_none ⟨rfl, rfl, rfl, rfl⟩, hB⟩
  · have d1 : decide (16384 < (s.size : Int)) = true := decide_eq_true (by omega)
    have d2 : decide (16384 < s.size) = true := decide_eq_true (by omega)
    clear h h1
    go_enter Tryz.func50, Tryz.ntmps50
    go_wp2
    go_returns
    exact ⟨dyR_none ⟨rfl, rfl, rfl, rfl⟩, hB⟩

end Go.Proofs.YtbfnafcpjbdbpaaGreatDoor
