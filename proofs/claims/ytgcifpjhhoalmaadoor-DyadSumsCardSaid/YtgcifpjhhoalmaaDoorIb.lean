/- The walks over wide's Int, first part: laid, Sign, BitLen, TrailingZeroBits, Neg, Abs, SetUint64, NewInt. -/
import Derived.Test.YtgcifpjhhoalmaaDoorIa
import Derived.Deep.RegionWith
import Derived.Deep.RegionHeld3
import Derived.Test.YtgcifpjhhoalmaaDoorCu
import Derived.Maps.RangeWalk
namespace Go.Proofs.YtgcifpjhhoalmaaDoor
open Go Go.RowKit Fil

/-- a sign and a magnitude -/
def sz (neg : Bool) (x : Nat) : Int := if neg then -(x : Int) else x
theorem sz_abs (neg : Bool) (x : Nat) : (sz neg x).natAbs = x := by unfold sz; split <;> omega
theorem sz_sg {neg : Bool} {x n : Nat} (hn : n = dn 32 x) : sg (sz neg x) = (neg && decide (0 < n)) := by
  have h : (0 < n) ↔ x ≠ 0 := by
    rw [hn]; constructor
    · intro h h0; rw [h0, dn_zero] at h; omega
    · exact dn_pos
  unfold sz sg
  cases neg
  · simp
  · by_cases hx : x = 0
    · have : ¬ 0 < n := by rw [h]; simp [hx]
      simp [hx, this]
    · have h2 := h.2 hx
      simp [h2]; omega
theorem sz_self (z : Int) : sz (sg z) z.natAbs = z := by unfold sz sg; split <;> simp_all <;> omega

set_option maxHeartbeats 1000000 in
theorem laid_any (b o : Nat) (neg : Bool) (A : Option Addr) (n c : Nat) (w : World) (hr : Room w b o) (hn : n ≤ 4398046511104) :
    Calls Tryd.prog 157 #[.pointer (some ⟨b, o, none⟩), .bool neg, .slice A n c] w fun e w' => e = .returned (.pointer (some ⟨b, o, none⟩)) ∧ (w.setCell ⟨b, o, none⟩ (.bool (neg && decide (0 < n)))).setCell ⟨b, o + 1, none⟩ (.slice A n c) = w' := by
  obtain ⟨u, v, h1, h2, h3, h4⟩ := hr.cells
  clear hr
  have h5 : ((w.setCell ⟨b, o, none⟩ (.bool (neg && decide (0 < n)))).cell? ⟨b, o + 1, none⟩) = some v := by
    rw [World.cell?_setCell_other _ _ _ _ (by simp)]; exact h2
  cases neg
  · go_enter Tryd.func157, Tryd.ntmps157
    go_wp2
    go_ret
    exact ⟨rfl, by simp⟩
  · by_cases h0 : 0 < n
    · have h0' : decide ((0 : Int) < n) = true := by simpa using h0
      have e1 : decide (0 < n) = true := by simpa using h0
      have E1 := Lib.hid e1
      clear e1 h0
      go_enter Tryd.func157, Tryd.ntmps157
      go_wp2
      go_ret
      exact ⟨rfl, by rw [E1.out]; rfl⟩
    · have h0' : decide ((0 : Int) < n) = false := by simp; omega
      have e1 : decide (0 < n) = false := by simp; omega
      have E1 := Lib.hid e1
      clear e1 h0
      go_enter Tryd.func157, Tryd.ntmps157
      go_wp2
      go_ret
      exact ⟨rfl, by rw [E1.out]; rfl⟩

theorem laid_int (b o : Nat) (neg : Bool) (A : Option Addr) (n c x : Nat) (w : World) (hr : Room w b o) (hn : n ≤ 4398046511104) (hd : Dig w A n c x) :
    Calls Tryd.prog 157 #[.pointer (some ⟨b, o, none⟩), .bool neg, .slice A n c] w fun e w' => e = .returned (.pointer (some ⟨b, o, none⟩)) ∧ IntAt w' b o (sz neg x) ∧ But w w' b o :=
  (laid_any b o neg A n c w hr hn).mono fun e w' ⟨he, hw⟩ => by
    subst hw
    rw [← sz_sg hd.1]
    exact ⟨he, IntAt.lay hr (by rw [sz_abs]; exact hd), But.lay hr _ _⟩

set_option maxHeartbeats 1000000 in
theorem sign_any (b o : Nat) (z : Int) (w : World) (h : IntAt w b o z) :
    Calls Tryd.prog 150 #[.pointer (some ⟨b, o, none⟩)] w fun e w' => e = .returned (.int .i64 z.sign) ∧ w = w' := by
  obtain ⟨A, n, c, h1, h2, h3, _, _⟩ := h.cells
  clear h
  rcases Int.lt_trichotomy z 0 with hz | hz | hz
  · have hn : ((n : Int) == 0) = false := by
      have : n ≠ 0 := by rw [h3]; have := dn_pos (k := 32) (x := z.natAbs) (by omega); omega
      simpa using this
    have e : sg z = true := by simp [sg, hz]
    rw [e] at h1
    have Hs := Lib.hid (Int.sign_eq_neg_one_of_neg hz)
    clear h3 hz e
    go_enter Tryd.func150, Tryd.ntmps150
    go_wp2
    go_ret
    exact ⟨by rw [Hs.out]; rfl, rfl⟩
  · subst hz
    have hn : ((n : Int) == 0) = true := by rw [h3]; simp [dn_zero]
    clear h3
    go_enter Tryd.func150, Tryd.ntmps150
    go_wp2
    go_ret
    exact ⟨rfl, rfl⟩
  · have hn : ((n : Int) == 0) = false := by
      have : n ≠ 0 := by rw [h3]; have := dn_pos (k := 32) (x := z.natAbs) (by omega); omega
      simpa using this
    have e : sg z = false := by simp [sg]; omega
    rw [e] at h1
    have Hs := Lib.hid (Int.sign_eq_one_of_pos hz)
    clear h3 hz e
    go_enter Tryd.func150, Tryd.ntmps150
    go_wp2
    go_ret
    exact ⟨by rw [Hs.out]; rfl, rfl⟩

set_option maxHeartbeats 1000000 in
theorem bitlen_any (b o : Nat) (z : Int) (w : World) (h : IntAt w b o z) (hz : dn 32 z.natAbs ≤ 1099511627776) :
    Calls Tryd.prog 107 #[.pointer (some ⟨b, o, none⟩)] w fun e w' => e = .returned (.int .i64 (bl z.natAbs)) ∧ w = w' := by
  obtain ⟨A, n, c, h1, h2, h3, h4, h5⟩ := h.cells
  clear h
  rw [← h3] at hz
  have H3 := Lib.hid h3
  clear h3
  go_enter Tryd.func107, Tryd.ntmps107
  go_wp2_with (go_at_call 148; go_must (refine (size_any A n c z.natAbs _ H3.out hz h5).mono ?_); rintro e w' ⟨rfl, rfl⟩)
  go_ret
  exact ⟨rfl, rfl⟩

set_option maxHeartbeats 1000000 in
theorem tzb_any (b o : Nat) (z : Int) (w : World) (h : IntAt w b o z) (hz : dn 32 z.natAbs ≤ 1099511627776) (hT : Tab w) :
    Calls Tryd.prog 151 #[.pointer (some ⟨b, o, none⟩)] w fun e w' => e = .returned (.int .u64 (tz z.natAbs)) ∧ w = w' := by
  obtain ⟨A, n, c, h1, h2, h3, h4, h5⟩ := h.cells
  clear h
  rw [← h3] at hz
  have H3 := Lib.hid h3
  have HT := Lib.hid hT
  clear h3 hT
  go_enter Tryd.func151, Tryd.ntmps151
  go_wp2_with (go_at_call 155; go_must (refine (low_any A n c z.natAbs _ H3.out hz h5 HT.out).mono ?_); rintro e w' ⟨rfl, rfl⟩)
  go_ret
  exact ⟨rfl, rfl⟩

theorem mul_sz (x y : Int) : sz (!(sg x == sg y)) (x.natAbs * y.natAbs) = x * y := by
  have hx : x = if x < 0 then -(x.natAbs : Int) else x.natAbs := by split <;> omega
  have hy : y = if y < 0 then -(y.natAbs : Int) else y.natAbs := by split <;> omega
  unfold sz sg
  generalize x.natAbs = a at *
  generalize y.natAbs = b at *
  by_cases h1 : x < 0 <;> by_cases h2 : y < 0 <;> simp only [h1, h2, if_true, if_false] at hx hy <;> subst hx <;> subst hy <;> simp [h1, h2] <;> simp_all [Int.neg_mul, Int.mul_neg]
theorem neg_sz (z : Int) : sz (!sg z) z.natAbs = -z := by unfold sz sg; by_cases h : z < 0 <;> simp [h] <;> omega
theorem abs_sz (z : Int) : sz false z.natAbs = (z.natAbs : Int) := rfl

set_option maxHeartbeats 1000000 in
theorem abs_any (b o b' o' : Nat) (z : Int) (w : World) (hr : Room w b o) (h : IntAt w b' o' z) (hz : dn 32 z.natAbs ≤ 1099511627776) :
    Calls Tryd.prog 152 #[.pointer (some ⟨b, o, none⟩), .pointer (some ⟨b', o', none⟩)] w fun e w' => e = .returned (.pointer (some ⟨b, o, none⟩)) ∧ IntAt w' b o z.natAbs ∧ But w w' b o := by
  obtain ⟨A, n, c, h1, h2, h3⟩ := h.cells
  rw [← h3.1] at hz
  clear h
  go_enter Tryd.func152, Tryd.ntmps152
  go_wp2_with (go_at_call 157; go_must (refine (laid_int b o false A n c z.natAbs _ hr (by omega) h3).mono ?_); rintro e w' ⟨rfl, hI, hB⟩)
  go_ret
  exact ⟨rfl, hI, hB⟩

set_option maxHeartbeats 1000000 in
theorem neg_any (b o b' o' : Nat) (z : Int) (w : World) (hr : Room w b o) (h : IntAt w b' o' z) (hz : dn 32 z.natAbs ≤ 1099511627776) :
    Calls Tryd.prog 127 #[.pointer (some ⟨b, o, none⟩), .pointer (some ⟨b', o', none⟩)] w fun e w' => e = .returned (.pointer (some ⟨b, o, none⟩)) ∧ IntAt w' b o (-z) ∧ But w w' b o := by
  obtain ⟨A, n, c, h1, h2, h3⟩ := h.cells
  rw [← h3.1] at hz
  clear h
  go_enter Tryd.func127, Tryd.ntmps127
  go_wp2
  go_region_with (go_at_call 157; refine (laid_int b o _ A n c z.natAbs _ (by exact hr) (by omega) (by exact h3)).mono ?_; rintro e w' ⟨rfl, hI, hB⟩)
  all_goals
    go_wp2
    go_ret
    rw [neg_sz] at hI
    exact ⟨rfl, hI, hB.undrew⟩

set_option maxHeartbeats 1000000 in
theorem mul_any (b o b1 o1 b2 o2 : Nat) (x y : Int) (w : World) (hr : Room w b o) (h1 : IntAt w b1 o1 x) (h2 : IntAt w b2 o2 y) (hx : dn 32 x.natAbs ≤ 1099511627776) (hy : dn 32 y.natAbs ≤ 1099511627776) :
    Calls Tryd.prog 120 #[.pointer (some ⟨b, o, none⟩), .pointer (some ⟨b1, o1, none⟩), .pointer (some ⟨b2, o2, none⟩)] w fun e w' => e = .returned (.pointer (some ⟨b, o, none⟩)) ∧ IntAt w' b o (x * y) ∧ But w w' b o := by
  obtain ⟨A1, n1, c1, hn1, hd1, hD1⟩ := h1.cells
  obtain ⟨A2, n2, c2, hn2, hd2, hD2⟩ := h2.cells
  have l1 := h1.lt
  have l2 := h2.lt
  have hle : Hid (dn 32 (x.natAbs * y.natAbs) ≤ 4398046511104) := by
    have := dn_le (k := 32) (n := dn 32 x.natAbs + dn 32 y.natAbs) (by omega) (by rw [padd]; exact Nat.mul_lt_mul'' (lt_dn (by omega) x.natAbs) (lt_dn (by omega) y.natAbs))
    exact Lib.hid (by omega)
  rw [← hD1.1] at hx
  rw [← hD2.1] at hy
  clear h1 h2
  go_enter Tryd.func120, Tryd.ntmps120
  go_wp2_with fail
  refine wp_region_cut 19 (by kernel_rfl) (by kernel_rfl) ?_
  rintro W rfl
  simp only [List.take_succ_cons, List.take_zero, List.drop_succ_cons, List.drop_zero]
  have hHeld : (fun w' : World => w'.cell? ⟨b1, o1, none⟩ = some (.bool (sg x)) ∧ w'.cell? ⟨b1, o1 + 1, none⟩ = some (.slice A1 n1 c1) ∧ w'.cell? ⟨b2, o2, none⟩ = some (.bool (sg y)) ∧ w'.cell? ⟨b2, o2 + 1, none⟩ = some (.slice A2 n2 c2)) w.drew := ⟨hn1, hd1, hn2, hd2⟩
  refine wpAny_of_held (S := fun w' : World => w'.cell? ⟨b1, o1, none⟩ = some (.bool (sg x)) ∧ w'.cell? ⟨b1, o1 + 1, none⟩ = some (.slice A1 n1 c1) ∧ w'.cell? ⟨b2, o2, none⟩ = some (.bool (sg y)) ∧ w'.cell? ⟨b2, o2 + 1, none⟩ = some (.slice A2 n2 c2)) _ _ _ _ ?_
  refine wpAnyH_take (i := 0) (v := _) (by first | (simp only [List.getElem?_toArray, List.getElem?_cons_zero]; rfl) | rfl) (by kernel_rfl) (by kernel_rfl) (by kernel_rfl) (by exact fun _ _ _ h => h) (Or.inl ⟨by rfl, by (intro w hSw; (try dsimp only at hSw); go_simp; try with_reducible rfl)⟩) (by assumption) ?_
  (try dsimp only [Act.put]); (try go_frame)
  refine wpAnyH_take (i := 1) (v := _) (by first | (simp only [List.getElem?_toArray, List.getElem?_cons_zero, List.getElem?_cons_succ]; rfl) | rfl) (by kernel_rfl) (by kernel_rfl) (by kernel_rfl) (by exact fun _ _ _ h => h) (Or.inl ⟨by rfl, by (intro w hSw; (try dsimp only at hSw); go_simp; try with_reducible rfl)⟩) (by assumption) ?_
  (try dsimp only [Act.put]); (try go_frame)
  refine wpAnyH_take (i := 2) (v := _) (by first | (simp only [List.getElem?_toArray, List.getElem?_cons_zero, List.getElem?_cons_succ]; rfl) | rfl) (by kernel_rfl) (by kernel_rfl) (by kernel_rfl) (by exact fun _ _ _ h => h) (Or.inl ⟨by rfl, by (intro w hSw; (try dsimp only at hSw); go_simp; try with_reducible rfl)⟩) (by assumption) ?_
  (try dsimp only [Act.put]); (try go_frame)
  refine wpAnyH_take (i := 3) (v := _) (by first | (simp only [List.getElem?_toArray, List.getElem?_cons_zero, List.getElem?_cons_succ]; rfl) | rfl) (by kernel_rfl) (by kernel_rfl) (by kernel_rfl) (by exact fun _ _ _ h => h) (Or.inl ⟨by rfl, by (intro w hSw; (try dsimp only at hSw); go_simp; try with_reducible rfl)⟩) (by assumption) ?_
  (try dsimp only [Act.put]); (try go_frame)
  refine wpAnyH_take (i := 4) (v := _) (by first | (simp only [List.getElem?_toArray, List.getElem?_cons_zero, List.getElem?_cons_succ]; rfl) | rfl) (by kernel_rfl) (by kernel_rfl) (by kernel_rfl) (by exact fun _ _ _ h => h) (Or.inl ⟨by rfl, by (intro w hSw; (try dsimp only at hSw); go_simp; try with_reducible rfl)⟩) (by assumption) ?_
  (try dsimp only [Act.put]); (try go_frame)
  refine wpAnyH_take (i := 5) (v := _) (by first | (simp only [List.getElem?_toArray, List.getElem?_cons_zero, List.getElem?_cons_succ]; rfl) | rfl) (by kernel_rfl) (by kernel_rfl) (by kernel_rfl) (by exact fun _ _ _ h => h) (Or.inl ⟨by rfl, by (intro w hSw; (try dsimp only at hSw); go_simp; try with_reducible rfl)⟩) (by assumption) ?_
  (try dsimp only [Act.put]); (try go_frame)
  refine wpAnyH_take (i := 6) (v := _) (by first | (simp only [List.getElem?_toArray, List.getElem?_cons_zero, List.getElem?_cons_succ]; rfl) | rfl) (by kernel_rfl) (by kernel_rfl) (by kernel_rfl) (by exact fun _ _ _ h => h) (Or.inl ⟨by rfl, by (intro w hSw; (try dsimp only at hSw); go_simp; try with_reducible rfl)⟩) (by assumption) ?_
  (try dsimp only [Act.put]); (try go_frame)
  refine wpAnyH_take (i := 7) (v := _) (by first | (simp only [List.getElem?_toArray, List.getElem?_cons_zero, List.getElem?_cons_succ]; rfl) | rfl) (by kernel_rfl) (by kernel_rfl) (by kernel_rfl) (by exact fun _ _ _ h => h) (Or.inl ⟨by rfl, by (intro w hSw; (try dsimp only at hSw); go_simp; try with_reducible rfl)⟩) (by assumption) ?_
  (try dsimp only [Act.put]); (try go_frame)
  refine wpAnyH_take (i := 8) (v := _) (by first | (simp only [List.getElem?_toArray, List.getElem?_cons_zero, List.getElem?_cons_succ]; rfl) | rfl) (by kernel_rfl) (by kernel_rfl) (by kernel_rfl) (by exact fun _ _ _ h => h) (Or.inl ⟨by rfl, by (intro w hSw; (try dsimp only at hSw); go_simp; try with_reducible rfl)⟩) (by assumption) ?_
  (try dsimp only [Act.put]); (try go_frame)
  refine wpAnyH_take (i := 9) (v := _) (by first | (simp only [List.getElem?_toArray, List.getElem?_cons_zero, List.getElem?_cons_succ]; rfl) | rfl) (by kernel_rfl) (by kernel_rfl) (by kernel_rfl) (by exact fun _ _ _ h => h) (Or.inl ⟨by rfl, by (intro w hSw; (try dsimp only at hSw); go_simp; try with_reducible rfl)⟩) (by assumption) ?_
  (try dsimp only [Act.put]); (try go_frame)
  refine wpAnyH_take (i := 10) (v := _) (by first | (simp only [List.getElem?_toArray, List.getElem?_cons_zero, List.getElem?_cons_succ]; rfl) | rfl) (by kernel_rfl) (by kernel_rfl) (by kernel_rfl) (by exact fun _ _ _ h => h) (Or.inl ⟨by rfl, by (intro w hSw; (try dsimp only at hSw); go_simp; try with_reducible rfl)⟩) (by assumption) ?_
  (try dsimp only [Act.put]); (try go_frame)
  refine wpAnyH_take (i := 11) (v := _) (by first | (simp only [List.getElem?_toArray, List.getElem?_cons_zero, List.getElem?_cons_succ]; rfl) | rfl) (by kernel_rfl) (by kernel_rfl) (by kernel_rfl) (by exact fun _ _ _ h => h) (Or.inl ⟨by rfl, by (intro w hSw; (try dsimp only at hSw); go_simp; try with_reducible rfl)⟩) (by assumption) ?_
  (try dsimp only [Act.put]); (try go_frame)
  refine wpAnyH_take (i := 12) (v := _) (by first | (simp only [List.getElem?_toArray, List.getElem?_cons_zero, List.getElem?_cons_succ]; rfl) | rfl) (by kernel_rfl) (by kernel_rfl) (by kernel_rfl) (by exact fun _ _ _ h => h) (Or.inl ⟨by rfl, by (intro w hSw; (try dsimp only at hSw); go_simp; try with_reducible rfl)⟩) (by assumption) ?_
  (try dsimp only [Act.put]); (try go_frame)
  refine wpAnyH_take (i := 13) (v := _) (by first | (simp only [List.getElem?_toArray, List.getElem?_cons_zero, List.getElem?_cons_succ]; rfl) | rfl) (by kernel_rfl) (by kernel_rfl) (by kernel_rfl) (by exact fun _ _ _ h => h) (Or.inl ⟨by rfl, by (intro w hSw; (try dsimp only at hSw); go_simp; try with_reducible rfl)⟩) (by assumption) ?_
  (try dsimp only [Act.put]); (try go_frame)
  refine wpAnyH_take (i := 14) (v := _) (by first | (simp only [List.getElem?_toArray, List.getElem?_cons_zero, List.getElem?_cons_succ]; rfl) | rfl) (by kernel_rfl) (by kernel_rfl) (by kernel_rfl) (by exact fun _ _ _ h => h) (Or.inl ⟨by rfl, by (intro w hSw; (try dsimp only at hSw); go_simp; try with_reducible rfl)⟩) (by assumption) ?_
  (try dsimp only [Act.put]); (try go_frame)
  refine wpAnyH_take (i := 15) (v := _) (by first | (simp only [List.getElem?_toArray, List.getElem?_cons_zero, List.getElem?_cons_succ]; rfl) | rfl) (by kernel_rfl) (by kernel_rfl) (by kernel_rfl) (by exact fun _ _ _ h => h) (Or.inl ⟨by rfl, by (intro w hSw; (try dsimp only at hSw); go_simp; try with_reducible rfl)⟩) (by assumption) ?_
  (try dsimp only [Act.put]); (try go_frame)
  refine wpAnyH_take (i := 16) (v := _) (by first | (simp only [List.getElem?_toArray, List.getElem?_cons_zero, List.getElem?_cons_succ]; rfl) | rfl) (by kernel_rfl) (by kernel_rfl) (by kernel_rfl) (by exact fun _ _ _ h => h) (Or.inl ⟨by rfl, by (intro w hSw; (try dsimp only at hSw); go_simp; try with_reducible rfl)⟩) (by assumption) ?_
  (try dsimp only [Act.put]); (try go_frame)
  refine wpAnyH_take (i := 17) (v := _) (by first | (simp only [List.getElem?_toArray, List.getElem?_cons_zero, List.getElem?_cons_succ]; rfl) | rfl) (by kernel_rfl) (by kernel_rfl) (by kernel_rfl) (by exact fun _ _ _ h => h) (Or.inl ⟨by rfl, by (intro w hSw; (try dsimp only at hSw); go_simp; try with_reducible rfl)⟩) (by assumption) ?_
  (try dsimp only [Act.put]); (try go_frame)
  refine wpAnyH_ready (rs := [18]) (by kernel_rfl) (by simp) ?_
  refine AllReadyH.cons rfl (fun K hK => ?_) AllReadyH.nil
  go_simp
  refine (times_any A1 A2 n1 c1 x.natAbs n2 c2 y.natAbs _ hD1.1 hD2.1 hD1.2.1 hD2.2.1 hx hy (by exact hD1.2.2) (by exact hD2.2.2)).mono ?_
  rintro e w1 ⟨A3, c3, rfl, hc3, hs3, hb3⟩
  have hb4 := Below.undrew hb3
  have hr1 := hr.below hb4
  have hD3 : Dig w1 A3 _ c3 _ := ⟨rfl, hc3, hs3⟩
  refine hK.out _ _ ?_ (fun hHeld => ?_)
  · exact ⟨(hb4.cell l1).trans hn1, (hb4.cell l1).trans hd1, (hb4.cell l2).trans hn2, (hb4.cell l2).trans hd2⟩
  clear hK K
  (try dsimp only [Act.put]); (try go_frame)
  refine wpAnyH_done (by kernel_rfl) ?_ _
  try simp only [QCut]
  go_wp2_with (go_at_call 157; go_must (refine (laid_int b o _ _ _ _ (x.natAbs * y.natAbs) _ hr1 hle.out hD3).mono ?_); rintro e w' ⟨rfl, hI, hB⟩)
  go_ret
  rw [mul_sz] at hI
  exact ⟨rfl, hI, But.after hb4 hB hr⟩
end Go.Proofs.YtgcifpjhhoalmaaDoor
