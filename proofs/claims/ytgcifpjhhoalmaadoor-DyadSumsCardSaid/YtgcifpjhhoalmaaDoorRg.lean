/- The walks over the reference's bits, Top. -/
import Derived.Test.YtgcifpjhhoalmaaDoorRf
namespace Go.Proofs.YtgcifpjhhoalmaaDoor
open Go Go.RowKit Go.PlainAid Fil

/-- an owned row, as a slice that can be read -/
theorem Own.slc {w : World} {B : Nat} {v : Value} {n : Nat} {f : Nat → Int} (h : Own w B v n f) : ∃ A c, v = .slice A n c ∧ n ≤ c ∧ Slc w 3 A n (fun j => .int .i64 (f j)) := by
  rcases h.2 with ⟨rfl, rfl⟩ | ⟨g, cap, cur, rfl, _, hh, hc, _, hs, ht⟩
  · exact ⟨none, 0, rfl, Nat.le_refl _, Slc.nil _ _ _ _⟩
  · refine ⟨some ⟨g, 0, none⟩, cap, rfl, hc, fun _ => ⟨g, 0, cur, _, rfl, hh, fun j hj => ?_⟩⟩
    have h1 : (cur.toList.take (n * 1))[j]? = ((List.range n).map fun i => Value.int .i64 (f i))[j]? := by rw [ht]
    rw [List.getElem?_take_of_lt (by omega), List.getElem?_map, List.getElem?_range hj] at h1
    rw [Nat.zero_add, ← Array.getElem?_toList]
    exact h1
theorem bl_half {y : Nat} (h : y ≠ 0) : bl (y / 2) + 1 = bl y := by
  rcases Nat.lt_or_ge y 2 with h1 | h1
  · have : y = 1 := by omega
    subst this; decide
  · have h2 := bl_shift (x := y / 2) (k := 1) (by omega)
    have h3 : y / 2 ≠ 0 := by omega
    have h4 := le_bl h
    have h5 := lt_bl (y / 2)
    have h6 := lt_bl y
    have h7 := le_bl h3
    apply Nat.le_antisymm
    · apply Nat.le_of_not_lt; intro hc
      have : y < 2 ^ (bl (y / 2) - 1 + 1) := Nat.lt_of_lt_of_le h6 (pmono (by omega))
      rw [Nat.pow_succ] at this; omega
    · apply bl_le
      rw [Nat.pow_succ]; omega

set_option maxHeartbeats 2000000 in
theorem rbits_any (A : Option Addr) (n c x : Nat) (w : World) (hn : n = Fil.dn 8 x) (h8 : n ≤ 1048576) (h : Slc w 3 A n (fun j => .int .i64 (dg 8 x j))) :
    Calls Tryd.prog 109 #[.slice A n c] w fun r w' => r = .returned (.int .i64 (bl x)) ∧ w = w' := by
  by_cases hx : x = 0
  · subst hx
    have hn0 : n = 0 := by rw [hn, dn_zero]
    subst hn0
    clear h hn h8
    go_enter Tryd.func109, Tryd.ntmps109
    go_wp2
    go_ret
    exact ⟨rfl, rfl⟩
  · have hp : 0 < n := by rw [hn]; exact dn_pos hx
    have hB := Lib.hid (bl_dn (k := 8) (by omega) hx)
    obtain ⟨b, o, cs, fz, rfl, hh, hc⟩ := h hp
    have hcell : w.cell? ⟨b, o + (n - 1), none⟩ = some (.int .i64 (dg 8 x (n - 1))) := by
      rw [cell_of_row _ b _ cs 3 fz hh]; exact hc _ (by omega)
    rw [← hn] at hB
    have ht := dg_lt 8 x (n - 1)
    generalize dg 8 x (n - 1) = t at *
    have hn1 : (n : Int) - 1 = ((n - 1 : Nat) : Int) := by omega
    clear h hc hn hx hh
    go_enter Tryd.func109, Tryd.ntmps109
    go_wp2
    go_loopg [3, 4] t (fun g s3 s4 wr => ∃ (i y : Nat), bl y + i = bl t ∧ g = y ∧ y ≤ t ∧ s3 = .int .i64 (8 * ((n - 1 : Nat) : Int) + i) ∧ s4 = .int .i64 y ∧ w = wr)
    case atStart => exact ⟨0, t, by omega, rfl, Nat.le_refl _, congrArg (Value.int IntKind.i64) (by omega), rfl, rfl⟩
    case round =>
      obtain ⟨i, y, hi, hg, hy, rfl, rfl, rfl⟩ := hrel
      have hb8 : bl t ≤ 8 := bl_le ht
      have hi8 : (i : Int) ≤ 8 := by omega
      have hi0 : 0 ≤ (i : Int) := by omega
      have hn2 : ((n - 1 : Nat) : Int) ≤ 1048576 := by omega
      have hn3 : 0 ≤ ((n - 1 : Nat) : Int) := by omega
      by_cases hy0 : 0 < y
      · have hh := bl_half (y := y) (by omega)
        have HH := Lib.hid (And.intro hi (And.intro hg (And.intro hy (And.intro hh hy0))))
        have hyi : 0 < (y : Int) := by omega
        have hyi2 : (y : Int) / 2 ≤ 256 := by omega
        have hyi3 : 0 ≤ (y : Int) / 2 := by omega
        clear hi hg hh hb8 hy ht
        go_wp2
        go_roundg (y / 2)
        case measure => have := HH.out; omega
        case rel => exact ⟨i + 1, y / 2, by have := HH.out; omega, rfl, by have := HH.out; omega, congrArg (Value.int IntKind.i64) (by omega), congrArg (Value.int IntKind.i64) (by omega), rfl⟩
      · obtain rfl : y = 0 := by omega
        rw [bl_zero] at hi
        have HH := Lib.hid hi
        clear hi hg hy hb8 ht
        go_wp2
        go_ret
        exact ⟨ret_int (by rw [hB.out]; have := HH.out; omega), rfl⟩

set_option maxHeartbeats 1000000 in
theorem rtop_ok (neg : Bool) (x : Nat) (e : Int) (w : World) (h : okD neg x e) :
    Calls Tryd.prog 36 #[.agg #[.bool neg, .string (bstr x), .int .i64 e]] w fun r w' => r = .returned (.tuple #[.int .i64 (topZ x e), .bool (decide (x ≠ 0))]) ∧ Below w.heap.size w w' := by
  have hb0 := box_below w neg (bstr x) e
  by_cases hx : x = 0
  · subst hx
    have h1 := bstr_nil
    go_enter Tryd.func36, Tryd.ntmps36
    go_wp2
    go_returns
    exact ⟨rfl, hb0⟩
  · obtain ⟨h1, h2⟩ := bstr_ne hx
    have hx2 := Lib.hid hx
    have he : -1048576 ≤ e ∧ e ≤ 1048576 := ⟨h.e1, h.e2⟩
    have hdn := h.dn
    have hbl : bl x ≤ 1048576 := by have := h.dn; have := dn8_bl x; omega
    have hbl0 : 0 ≤ (bl x : Int) := by omega
    have H := Lib.hid (topZ_pos hx e)
    obtain ⟨c0, c1, c2⟩ := box_cells w neg (bstr x) e (Below.refl _ _)
    clear hx h
    have W1 : IntKind.i64.wrap ((bl x : Int) - 1) = (bl x : Int) - 1 := IntWalk.i64_in _ (by omega)
    have W2 : IntKind.i64.wrap ((bl x : Int) - 1 + e) = (bl x : Int) - 1 + e := IntWalk.i64_in _ (by omega)
    go_enter Tryd.func36, Tryd.ntmps36
    go_wp2_with fail
    refine wp_region_cut 8 (by kernel_rfl) (by kernel_rfl) ?_
    rintro W rfl
    simp only [List.take_succ_cons, List.take_zero, List.drop_succ_cons, List.drop_zero]
    have hlt : w.heap.size < (w.alloc (.cells #[.bool neg, .string (bstr x), .int .i64 e] 24)).drew.heap.size := by
      show w.heap.size < (w.alloc _).heap.size
      simp
    have hHeld : (fun w' : World => w'.cell? ⟨w.heap.size, 1, none⟩ = some (.string (bstr x)) ∧ w'.cell? ⟨w.heap.size, 2, none⟩ = some (.int .i64 e)) (w.alloc (.cells #[.bool neg, .string (bstr x), .int .i64 e] 24)).drew := ⟨c1, c2⟩
    refine wpAny_of_held (S := fun w' : World => w'.cell? ⟨w.heap.size, 1, none⟩ = some (.string (bstr x)) ∧ w'.cell? ⟨w.heap.size, 2, none⟩ = some (.int .i64 e)) _ _ _ _ ?_
    refine wpAnyH_take (i := 0) (v := _) (by first | (simp only [List.getElem?_toArray, List.getElem?_cons_zero]; rfl) | rfl) (by kernel_rfl) (by kernel_rfl) (by kernel_rfl) (by exact fun _ _ _ h => h) (Or.inl ⟨by rfl, by (intro w hSw; (try dsimp only at hSw); go_simp; try with_reducible rfl)⟩) (by assumption) ?_
    (try dsimp only [Act.put]); (try go_frame)
    refine wpAnyH_take (i := 1) (v := _) (by first | (simp only [List.getElem?_toArray, List.getElem?_cons_zero, List.getElem?_cons_succ]; rfl) | rfl) (by kernel_rfl) (by kernel_rfl) (by kernel_rfl) (by exact fun _ _ _ h => h) (Or.inl ⟨by rfl, by (intro w hSw; (try dsimp only at hSw); go_simp; try with_reducible rfl)⟩) (by assumption) ?_
    (try dsimp only [Act.put]); (try go_frame)
    refine wpAnyH_take (i := 5) (v := _) (by first | (simp only [List.getElem?_toArray, List.getElem?_cons_zero, List.getElem?_cons_succ]; rfl) | rfl) (by kernel_rfl) (by kernel_rfl) (by kernel_rfl) (by exact fun _ _ _ h => h) (Or.inl ⟨by rfl, by (intro w hSw; (try dsimp only at hSw); go_simp; try with_reducible rfl)⟩) (by assumption) ?_
    (try dsimp only [Act.put]); (try go_frame)
    refine wpAnyH_take (i := 6) (v := _) (by first | (simp only [List.getElem?_toArray, List.getElem?_cons_zero, List.getElem?_cons_succ]; rfl) | rfl) (by kernel_rfl) (by kernel_rfl) (by kernel_rfl) (by exact fun _ _ _ h => h) (Or.inl ⟨by rfl, by (intro w hSw; (try dsimp only at hSw); go_simp; try with_reducible rfl)⟩) (by assumption) ?_
    (try dsimp only [Act.put]); (try go_frame)
    refine wpAnyH_ready (rs := [2]) (by kernel_rfl) (by simp) ?_
    refine AllReadyH.cons rfl (fun K hK => ?_) AllReadyH.nil
    go_simp
    refine (rof_any x _ (by omega)).mono ?_
    rintro r w1 ⟨v, rfl, hown, hb1⟩
    have hB : Below w.heap.size w w1 := hb0.drew.trans (hb1.mono (Nat.le_of_lt hlt))
    obtain ⟨A, c, rfl, hnc, hsl⟩ := hown.slc
    refine hK.out _ _ ?_ (fun hHeld => ?_)
    · exact ⟨(hb1.cell hlt).trans c1, (hb1.cell hlt).trans c2⟩
    clear hK K
    (try dsimp only [Act.put]); (try go_frame)
    refine wpAnyH_ready (rs := [3]) (by kernel_rfl) (by simp) ?_
    refine AllReadyH.cons rfl (fun K hK => ?_) AllReadyH.nil
    go_simp
    refine (rbits_any A _ c x _ rfl (by omega) hsl).mono ?_
    rintro r w3 ⟨rfl, rfl⟩
    refine hK.out _ _ ?_ (fun hHeld => ?_)
    · exact ⟨(hb1.cell hlt).trans c1, (hb1.cell hlt).trans c2⟩
    clear hK K
    (try dsimp only [Act.put]); (try go_frame)
    refine wpAnyH_take (i := 4) (v := _) (by first | (simp only [List.getElem?_toArray, List.getElem?_cons_zero, List.getElem?_cons_succ]; rfl) | rfl) (by kernel_rfl) (by kernel_rfl) (by kernel_rfl) (by exact fun _ _ _ h => h) (Or.inl ⟨by rfl, by (intro w hSw; (try dsimp only at hSw); go_simp; try with_reducible rfl)⟩) (by assumption) ?_
    (try dsimp only [Act.put]); (try go_frame)
    refine wpAnyH_take (i := 7) (v := _) (by first | (simp only [List.getElem?_toArray, List.getElem?_cons_zero, List.getElem?_cons_succ]; rfl) | rfl) (by kernel_rfl) (by kernel_rfl) (by kernel_rfl) (by exact fun _ _ _ h => h) (Or.inl ⟨by rfl, by (intro w hSw; (try dsimp only at hSw); go_simp; try with_reducible rfl)⟩) (by assumption) ?_
    (try dsimp only [Act.put]); (try go_frame)
    refine wpAnyH_done (by kernel_rfl) ?_ _
    try simp only [QCut]
    go_wp2
    go_returns
    have h3 : (!decide (x = 0)) = true := by simp [hx2.out]
    refine ⟨?_, hB⟩
    rw [H.out, h3]
    rfl
end Go.Proofs.YtgcifpjhhoalmaaDoor
