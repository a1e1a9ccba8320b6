/- The walks over wide's Int, second part: Lsh, Rsh. -/
import Derived.Test.YtgcifpjhhoalmaaDoorIb
namespace Go.Proofs.YtgcifpjhhoalmaaDoor
open Go Go.RowKit Fil

theorem lsh_sz (x : Int) (k : Nat) : sz (sg x) (x.natAbs * 2 ^ k) = x * 2 ^ k := by
  have hx : x = if x < 0 then -(x.natAbs : Int) else x.natAbs := by split <;> omega
  unfold sz sg
  generalize x.natAbs = a at *
  by_cases h1 : x < 0 <;> simp only [h1, if_true, if_false] at hx <;> subst hx <;> simp [h1, Int.neg_mul] <;> simp_all

set_option maxHeartbeats 1000000 in
theorem lsh_any (b o b1 o1 k : Nat) (x : Int) (w : World) (hr : Room w b o) (h1 : IntAt w b1 o1 x) (hx : dn 32 x.natAbs ≤ 1099511627776) (hk : k ≤ 1099511627776) :
    Calls Tryd.prog 122 #[.pointer (some ⟨b, o, none⟩), .pointer (some ⟨b1, o1, none⟩), .int .u64 k] w fun e w' => e = .returned (.pointer (some ⟨b, o, none⟩)) ∧ IntAt w' b o (x * 2 ^ k) ∧ But w w' b o := by
  obtain ⟨A1, n1, c1, hn1, hd1, hD1⟩ := h1.cells
  have l1 := h1.lt
  have hle : Hid (dn 32 (x.natAbs * 2 ^ k) ≤ 4398046511104) := by
    have h2 : x.natAbs * 2 ^ k < 2 ^ (32 * (dn 32 x.natAbs + (k / 32 + 1))) := by
      rw [padd]
      exact Nat.mul_lt_mul'' (lt_dn (by omega) x.natAbs) (Nat.pow_lt_pow_right (by omega) (by omega))
    have := dn_le (k := 32) (by omega) h2
    exact Lib.hid (by omega)
  rw [← hD1.1] at hx
  clear h1
  go_enter Tryd.func122, Tryd.ntmps122
  go_wp2_with fail
  refine wp_region_cut 11 (by kernel_rfl) (by kernel_rfl) ?_
  rintro W rfl
  simp only [List.take_succ_cons, List.take_zero, List.drop_succ_cons, List.drop_zero]
  have hHeld : (fun w' : World => w'.cell? ⟨b1, o1, none⟩ = some (.bool (sg x)) ∧ w'.cell? ⟨b1, o1 + 1, none⟩ = some (.slice A1 n1 c1)) w.drew := ⟨hn1, hd1⟩
  refine wpAny_of_held (S := fun w' : World => w'.cell? ⟨b1, o1, none⟩ = some (.bool (sg x)) ∧ w'.cell? ⟨b1, o1 + 1, none⟩ = some (.slice A1 n1 c1)) _ _ _ _ ?_
  refine wpAnyH_take (i := 0) (v := _) (by first | (simp only [List.getElem?_toArray, List.getElem?_cons_zero]; rfl) | rfl) (by kernel_rfl) (by kernel_rfl) (by kernel_rfl) (by exact fun _ _ _ h => h) (Or.inl ⟨by rfl, by (intro w hSw; (try dsimp only at hSw); go_simp; try with_reducible rfl)⟩) (by assumption) ?_
  (try dsimp only [Act.put]); (try go_frame)
  refine wpAnyH_take (i := 1) (v := _) (by first | (simp only [List.getElem?_toArray, List.getElem?_cons_zero, List.getElem?_cons_succ]; rfl) | rfl) (by kernel_rfl) (by kernel_rfl) (by kernel_rfl) (by exact fun _ _ _ h => h) (Or.inl ⟨by rfl, by (intro w hSw; (try dsimp only at hSw); go_simp; try with_reducible rfl)⟩) (by assumption) ?_
  (try dsimp only [Act.put]); (try go_frame)
  refine wpAnyH_take (i := 2) (v := _) (by first | (simp only [List.getElem?_toArray, List.getElem?_cons_zero, List.getElem?_cons_succ]; rfl) | rfl) (by kernel_rfl) (by kernel_rfl) (by kernel_rfl) (by exact fun _ _ _ h => h) (Or.inl ⟨by rfl, by (intro w hSw; (try dsimp only at hSw); go_simp; try with_reducible rfl)⟩) (by assumption) ?_
  (try dsimp only [Act.put]); (try go_frame)
  refine wpAnyH_take (i := 3) (v := _) (by first | (simp only [List.getElem?_toArray, List.getElem?_cons_zero, List.getElem?_cons_succ]; rfl) | rfl) (by kernel_rfl) (by kernel_rfl) (by kernel_rfl) (by exact fun _ _ _ h => h) (Or.inl ⟨by rfl, by (intro w hSw; (try dsimp only at hSw); go_simp; try with_reducible rfl)⟩) (by assumption) ?_
  (try dsimp only [Act.put]); (try go_frame)
  refine wpAnyH_take (i := 4) (v := _) (by first | (simp only [List.getElem?_toArray, List.getElem?_cons_zero, List.getElem?_cons_succ]; rfl) | rfl) (by kernel_rfl) (by kernel_rfl) (by kernel_rfl) (by exact fun _ _ _ h => h) (Or.inl ⟨by rfl, by (intro w hSw; (try dsimp only at hSw); go_simp; try with_reducible rfl)⟩) (by assumption) ?_
  (try dsimp only [Act.put]); (try go_frame)
  refine wpAnyH_take (i := 5) (v := _) (by first | (simp only [List.getElem?_toArray, List.getElem?_cons_zero, List.getElem?_cons_succ]; rfl) | rfl) (by kernel_rfl) (by kernel_rfl) (by kernel_rfl) (by exact fun _ _ _ h => h) (Or.inl ⟨by rfl, by (intro w hSw; (try dsimp only at hSw); go_simp; try with_reducible rfl)⟩) (by assumption) ?_
  (try dsimp only [Act.put]); (try go_frame)
  refine wpAnyH_take (i := 6) (v := _) (by first | (simp only [List.getElem?_toArray, List.getElem?_cons_zero, List.getElem?_cons_succ]; rfl) | rfl) (by kernel_rfl) (by kernel_rfl) (by kernel_rfl) (by exact fun _ _ _ h => h) (Or.inl ⟨by rfl, by (intro w hSw; (try dsimp only at hSw); go_simp; try with_reducible rfl)⟩) (by assumption) ?_
  (try dsimp only [Act.put]); (try go_frame)
  refine wpAnyH_take (i := 7) (v := _) (by first | (simp only [List.getElem?_toArray, List.getElem?_cons_zero, List.getElem?_cons_succ]; rfl) | rfl) (by kernel_rfl) (by kernel_rfl) (by kernel_rfl) (by exact fun _ _ _ h => h) (Or.inl ⟨by rfl, by (intro w hSw; (try dsimp only at hSw); go_simp; try with_reducible rfl)⟩) (by assumption) ?_
  (try dsimp only [Act.put]); (try go_frame)
  refine wpAnyH_take (i := 8) (v := _) (by first | (simp only [List.getElem?_toArray, List.getElem?_cons_zero, List.getElem?_cons_succ]; rfl) | rfl) (by kernel_rfl) (by kernel_rfl) (by kernel_rfl) (by exact fun _ _ _ h => h) (Or.inl ⟨by rfl, by (intro w hSw; (try dsimp only at hSw); go_simp; try with_reducible rfl)⟩) (by assumption) ?_
  (try dsimp only [Act.put]); (try go_frame)
  refine wpAnyH_take (i := 9) (v := _) (by first | (simp only [List.getElem?_toArray, List.getElem?_cons_zero, List.getElem?_cons_succ]; rfl) | rfl) (by kernel_rfl) (by kernel_rfl) (by kernel_rfl) (by exact fun _ _ _ h => h) (Or.inl ⟨by rfl, by (intro w hSw; (try dsimp only at hSw); go_simp; try with_reducible rfl)⟩) (by assumption) ?_
  (try dsimp only [Act.put]); (try go_frame)
  refine wpAnyH_ready (rs := [10]) (by kernel_rfl) (by simp) ?_
  refine AllReadyH.cons rfl (fun K hK => ?_) AllReadyH.nil
  go_simp
  refine (left_any A1 n1 c1 x.natAbs k _ hD1.1 hD1.2.1 hx hk (by exact hD1.2.2)).mono ?_
  rintro e w1 ⟨A3, c3, rfl, hc3, hs3, hb3⟩
  have hb4 := Below.undrew hb3
  have hr1 := hr.below hb4
  have hD3 : Dig w1 A3 _ c3 _ := ⟨rfl, hc3, hs3⟩
  refine hK.out _ _ ?_ (fun hHeld => ?_)
  · exact ⟨(hb4.cell l1).trans hn1, (hb4.cell l1).trans hd1⟩
  clear hK K
  (try dsimp only [Act.put]); (try go_frame)
  refine wpAnyH_done (by kernel_rfl) ?_ _
  try simp only [QCut]
  go_wp2_with (go_at_call 157; go_must (refine (laid_int b o _ _ _ _ (x.natAbs * 2 ^ k) _ hr1 hle.out hD3).mono ?_); rintro e w' ⟨rfl, hI, hB⟩)
  go_ret
  rw [lsh_sz] at hI
  exact ⟨rfl, hI, But.after hb4 hB hr⟩

theorem dn_one : 1 = dn 32 1 := by decide
theorem one_new (w1 : World) : Slc (w1.alloc (Obj.cells #[Value.int IntKind.u32 1] 169)) 169 (some ⟨w1.heap.size, 0, none⟩) 1 (d32 1) := fun _ =>
  ⟨w1.heap.size, 0, _, _, rfl, heap_alloc_new w1 _, fun j hj => by
    obtain rfl : j = 0 := by omega
    rfl⟩
/-- downwards -/
def shrZ (x : Int) (k : Nat) : Int := sz (sg x) (x.natAbs / 2 ^ k + if x < 0 ∧ tz x.natAbs < k then 1 else 0)

set_option maxHeartbeats 1000000 in
theorem rsh_any (b o b1 o1 k : Nat) (x : Int) (w : World) (hr : Room w b o) (h1 : IntAt w b1 o1 x) (hx : dn 32 x.natAbs ≤ 1099511627775) (hk : k ≤ 1099511627776) (hT : Tab w) :
    Calls Tryd.prog 112 #[.pointer (some ⟨b, o, none⟩), .pointer (some ⟨b1, o1, none⟩), .int .u64 k] w fun e w' => e = .returned (.pointer (some ⟨b, o, none⟩)) ∧ IntAt w' b o (shrZ x k) ∧ But w w' b o := by
  obtain ⟨A1, n1, c1, hn1, hd1, hD1⟩ := h1.cells
  have l1 := h1.lt
  have hle : dn 32 (x.natAbs / 2 ^ k) ≤ 1099511627775 := Nat.le_trans (dn_mono (by omega) (Nat.div_le_self _ _)) hx
  have hx2 : n1 ≤ 1099511627775 := by rw [hD1.1]; exact hx
  have HT := Lib.hid hT
  clear h1 hT hx
  by_cases hneg : x < 0
  · have hs : sg x = true := by simp [sg, hneg]
    by_cases htz : tz x.natAbs < k
    · have ht' : decide (tz x.natAbs < k) = true := by simpa using htz
      have hS : Hid (shrZ x k = sz true (x.natAbs / 2 ^ k + 1)) := by unfold shrZ; rw [hs, if_pos ⟨hneg, htz⟩]; exact Lib.hid rfl
      have hle2 : Hid (dn 32 (x.natAbs / 2 ^ k + 1) ≤ 4398046511104) := by
        have h2 := lt_dn (k := 32) (by omega) (x.natAbs / 2 ^ k)
        have h3 := dn_le (k := 32) (n := dn 32 (x.natAbs / 2 ^ k) + 1) (by omega) (show x.natAbs / 2 ^ k + 1 < _ by
          rw [pstep]
          have := pp (32 * dn 32 (x.natAbs / 2 ^ k))
          omega)
        exact Lib.hid (by omega)
      rw [hs] at hn1
      have Hh := Lib.hid hle
      clear htz hneg hs hle
      go_enter Tryd.func112, Tryd.ntmps112
      go_wp2_with (go_at_call 154; go_must (refine (right_any A1 n1 c1 x.natAbs k _ hD1.1 hD1.2.1 (by omega) hk hD1.2.2).mono ?_); rintro e w1 ⟨A3, c3, rfl, hc3, hs3, hb3⟩; have e1 := (hb3.cell l1).trans hn1; have e2 := (hb3.cell l1).trans hd1; have hT1 := Lib.hid (HT.out.below hb3); have hr1 := hr.below hb3; have hD2 := hD1.below hb3)
      go_wp2_with (go_at_call 155; go_must (refine (low_any A1 n1 c1 x.natAbs _ hD2.1 (by omega) hD2.2.2 hT1.out).mono ?_); rintro e w' ⟨rfl, rfl⟩)
      have hs4 : Slc (w1.alloc (Obj.cells #[Value.int IntKind.u32 1] 169)) 169 (some ⟨w1.heap.size, 0, none⟩) 1 (d32 1) := one_new w1
      have hh := Hh.out
      refine (plus_any A3 (some ⟨w1.heap.size, 0, none⟩) _ c3 (x.natAbs / 2 ^ k) 1 1 1 _ rfl dn_one hc3 (by omega) (by omega) (by omega) (hs3.alloc _) hs4).mono ?_
      rintro e w2 ⟨A5, c5, rfl, hc5, hs5, hb5⟩
      have hb6 : Below w1.heap.size w1 w2 := ((Below.refl _ _).alloc (Nat.le_refl _) _).trans (hb5.mono (by simp))
      have hb7 : Below w.heap.size w w2 := hb3.trans (hb6.mono hb3.size)
      have hr2 := hr.below hb7
      have e3 := (hb7.cell l1).trans hn1
      have hD5 : Dig w2 A5 _ c5 _ := ⟨rfl, hc5, hs5⟩
      clear hh
      go_wp2_with (go_at_call 157; go_must (refine (laid_int b o _ _ _ _ (x.natAbs / 2 ^ k + 1) _ hr2 hle2.out hD5).mono ?_); rintro e w' ⟨rfl, hI, hB⟩)
      go_ret
      rw [hS.out]
      exact ⟨rfl, hI, But.after hb7 hB hr⟩
    · have ht' : decide (tz x.natAbs < k) = false := by simpa using htz
      have hS : Hid (shrZ x k = sz true (x.natAbs / 2 ^ k)) := by unfold shrZ; rw [hs, if_neg (fun h => htz h.2)]; exact Lib.hid rfl
      rw [hs] at hn1
      have Hh := Lib.hid hle
      clear htz hneg hs hle
      go_enter Tryd.func112, Tryd.ntmps112
      go_wp2_with (go_at_call 154; go_must (refine (right_any A1 n1 c1 x.natAbs k _ hD1.1 hD1.2.1 (by omega) hk hD1.2.2).mono ?_); rintro e w1 ⟨A3, c3, rfl, hc3, hs3, hb3⟩; have e1 := (hb3.cell l1).trans hn1; have e2 := (hb3.cell l1).trans hd1; have hT1 := Lib.hid (HT.out.below hb3); have hr1 := hr.below hb3; have hD2 := hD1.below hb3)
      go_wp2_with (go_at_call 155; go_must (refine (low_any A1 n1 c1 x.natAbs _ hD2.1 (by omega) hD2.2.2 hT1.out).mono ?_); rintro e w' ⟨rfl, rfl⟩)
      have hD5 : Dig w1 A3 _ c3 _ := ⟨rfl, hc3, hs3⟩
      go_wp2_with (go_at_call 157; go_must (refine (laid_int b o _ _ _ _ (x.natAbs / 2 ^ k) _ hr1 (Nat.le_trans Hh.out (by omega)) hD5).mono ?_); rintro e w' ⟨rfl, hI, hB⟩)
      go_ret
      rw [hS.out]
      exact ⟨rfl, hI, But.after hb3 hB hr⟩
  · have hs : sg x = false := by simp [sg]; omega
    have hS : Hid (shrZ x k = sz false (x.natAbs / 2 ^ k)) := by unfold shrZ; rw [hs, if_neg (fun h => hneg h.1)]; exact Lib.hid rfl
    rw [hs] at hn1
    have Hh := Lib.hid hle
    clear hneg hs hle
    go_enter Tryd.func112, Tryd.ntmps112
    go_wp2_with (go_at_call 154; go_must (refine (right_any A1 n1 c1 x.natAbs k _ hD1.1 hD1.2.1 (by omega) hk hD1.2.2).mono ?_); rintro e w1 ⟨A3, c3, rfl, hc3, hs3, hb3⟩; have e1 := (hb3.cell l1).trans hn1; have e2 := (hb3.cell l1).trans hd1; have hr1 := hr.below hb3)
    have hD5 : Dig w1 A3 _ c3 _ := ⟨rfl, hc3, hs3⟩
    go_wp2_with (go_at_call 157; go_must (refine (laid_int b o _ _ _ _ (x.natAbs / 2 ^ k) _ hr1 (Nat.le_trans Hh.out (by omega)) hD5).mono ?_); rintro e w' ⟨rfl, hI, hB⟩)
    go_ret
    rw [hS.out]
    exact ⟨rfl, hI, But.after hb3 hB hr⟩
end Go.Proofs.YtgcifpjhhoalmaaDoor
