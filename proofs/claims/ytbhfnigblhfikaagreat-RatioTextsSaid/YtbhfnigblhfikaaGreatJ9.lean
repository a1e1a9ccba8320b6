/- wide.Rat's functions, further ones. -/
import Derived.Test.YtbhfnigblhfikaaGreatJ8
namespace Go.Proofs.YtbhfnigblhfikaaGreat
open Go Go.RowKit Fil

theorem laid_at (b o : Nat) (neg : Bool) (A : Option Addr) (n c x : Nat) (w : World) (hr : Room w b o) (hn : n ≤ 4398046511104) (hd : Dig w A n c x) :
    Calls Tryz.prog 67 #[.pointer (some ⟨b, o, none⟩), .bool neg, .slice A n c] w fun e w' => e = .returned (.pointer (some ⟨b, o, none⟩)) ∧ IntAt w' b o (sz neg x) ∧ But w w' b o ∧ w'.cell? ⟨b, o + 1, none⟩ = some (.slice A n c) :=
  (laid_any b o neg A n c w hr hn).mono fun e w' ⟨he, hw⟩ => by
    subst hw
    rw [← sz_sg hd.1]
    refine ⟨he, IntAt.lay hr (by rw [sz_abs]; exact hd), But.lay hr _ _, ?_⟩
    obtain ⟨cs, t, h1, h2, h3⟩ := hr
    rw [setCell_eq_setRow w b o cs t (0, 0) _ h1, setCell_eq_setRow _ b (o + 1) _ t (0, 0) _ (setRow_heap _ _ _ _ _ _ h1)]
    have h4 := setRow_heap (w.setRow b (cs.setIfInBounds o (.bool (sg (sz neg x))))) b (cs.setIfInBounds o (.bool (sg (sz neg x)))) ((cs.setIfInBounds o (.bool (sg (sz neg x)))).setIfInBounds (o + 1) (.slice A n c)) t (0, 0) (setRow_heap _ _ _ _ _ _ h1)
    simp [World.cell?, h4, h3]

set_option maxRecDepth 100000 in
set_option maxHeartbeats 4000000 in
theorem ratneg_any (b bx : Nat) (x : Rat) (w : World) (hr : RRoom w b) (X : RatAt w bx x) (hx : Szd 100000000000 x) :
    Calls Tryz.prog 52 #[.pointer (some ⟨b, 0, none⟩), .pointer (some ⟨bx, 0, none⟩)] w fun e w' => e = .returned (.pointer (some ⟨b, 0, none⟩)) ∧ RatAt w' b (-x) ∧ Far w w' b := by
  have s1 : Hid (dn 32 x.num.natAbs ≤ 1099511627776) := Lib.hid (Nat.le_trans hx.1 (by omega))
  have s2 : Hid (dn 32 x.den ≤ 4398046511104) := Lib.hid (Nat.le_trans hx.2 (by omega))
  clear hx
  go_enter Tryz.func52, Tryz.ntmps52
  go_wp2_with fail
  refine wp_region_any (by kernel_rfl) ?_
  have hHeld : (fun _ : World => True) w.drew := trivial
  refine wpAny_of_held (S := fun _ : World => True) _ _ _ (w.drew) ?_
  refine wpAnyH_take (i := 0) (v := _) (by first | (simp only [List.getElem?_toArray, List.getElem?_cons_zero]; rfl) | rfl) (by kernel_rfl) (by kernel_rfl) (by kernel_rfl) (by exact fun _ _ _ h => h) (Or.inl ⟨by rfl, by (intro w hSw; (try dsimp only at hSw); go_simp; try with_reducible rfl)⟩) (by assumption) ?_
  (try dsimp only [Act.put]); (try go_frame)
  refine wpAnyH_take (i := 1) (v := _) (by first | (simp only [List.getElem?_toArray, List.getElem?_cons_zero, List.getElem?_cons_succ]; rfl) | rfl) (by kernel_rfl) (by kernel_rfl) (by kernel_rfl) (by exact fun _ _ _ h => h) (Or.inl ⟨by rfl, by (intro w hSw; (try dsimp only at hSw); go_simp; try with_reducible rfl)⟩) (by assumption) ?_
  (try dsimp only [Act.put]); (try go_frame)
  refine wpAnyH_take (i := 2) (v := _) (by first | (simp only [List.getElem?_toArray, List.getElem?_cons_zero, List.getElem?_cons_succ]; rfl) | rfl) (by kernel_rfl) (by kernel_rfl) (by kernel_rfl) (by exact fun _ _ _ h => h) (Or.inl ⟨by rfl, by (intro w hSw; (try dsimp only at hSw); go_simp; try with_reducible rfl)⟩) (by assumption) ?_
  (try dsimp only [Act.put]); (try go_frame)
  refine wpAnyH_take (i := 3) (v := _) (by first | (simp only [List.getElem?_toArray, List.getElem?_cons_zero, List.getElem?_cons_succ]; rfl) | rfl) (by kernel_rfl) (by kernel_rfl) (by kernel_rfl) (by exact fun _ _ _ h => h) (Or.inl ⟨by rfl, by (intro w hSw; (try dsimp only at hSw); go_simp; try with_reducible rfl)⟩) (by assumption) ?_
  (try dsimp only [Act.put]); (try go_frame)
  refine wpAnyH_take (i := 4) (v := _) (by first | (simp only [List.getElem?_toArray, List.getElem?_cons_zero, List.getElem?_cons_succ]; rfl) | rfl) (by kernel_rfl) (by kernel_rfl) (by kernel_rfl) (by exact fun _ _ _ h => h) (Or.inl ⟨by rfl, by (intro w hSw; (try dsimp only at hSw); go_simp; try with_reducible rfl)⟩) (by assumption) ?_
  (try dsimp only [Act.put]); (try go_frame)
  refine wpAnyH_take (i := 5) (v := _) (by first | (simp only [List.getElem?_toArray, List.getElem?_cons_zero, List.getElem?_cons_succ]; rfl) | rfl) (by kernel_rfl) (by kernel_rfl) (by kernel_rfl) (by exact fun _ _ _ h => h) (Or.inl ⟨by rfl, by (intro w hSw; (try dsimp only at hSw); go_simp; try with_reducible rfl)⟩) (by assumption) ?_
  (try dsimp only [Act.put]); (try go_frame)
  refine wpAnyH_ready (rs := [6]) (by kernel_rfl) (by simp) ?_
  refine AllReadyH.cons rfl (fun K hK => ?_) AllReadyH.nil
  go_simp
  refine (neg_any b 0 bx 0 x.num w.drew hr.1 X.1 s1.out).mono ?_
  rintro r w1 ⟨rfl, I1, B1⟩
  replace B1 : But w w1 b 0 := But.undrew B1
  have X2 : IntAt w1 bx 2 (x.den : Int) := X.2.but B1 (.inr ⟨by decide, by decide, by decide⟩)
  have R1 : Room w1 b 2 := hr.2.but B1
  refine hK.out _ _ ?_ (fun hHeld => ?_)
  · trivial
  clear hK K
  (try dsimp only [Act.put]); (try go_frame)
  refine wpAnyH_done (by kernel_rfl) ?_ _
  try simp only [QCut]
  go_wp2_with fail
  obtain ⟨A, n, c, xs, ys, D⟩ := X2.cells
  have l2 := X2.lt
  refine wp_region_any (by kernel_rfl) ?_
  have hHeld : (fun w' : World => w'.cell? ⟨bx, 3, none⟩ = some (.slice A n c)) w1.drew := ys
  refine wpAny_of_held (S := fun w' : World => w'.cell? ⟨bx, 3, none⟩ = some (.slice A n c)) _ _ _ (w1.drew) ?_
  refine wpAnyH_take (i := 0) (v := _) (by first | (simp only [List.getElem?_toArray, List.getElem?_cons_zero]; rfl) | rfl) (by kernel_rfl) (by kernel_rfl) (by kernel_rfl) (by exact fun _ _ _ h => h) (Or.inl ⟨by rfl, by (intro w hSw; (try dsimp only at hSw); go_simp; try with_reducible rfl)⟩) (by assumption) ?_
  (try dsimp only [Act.put]); (try go_frame)
  refine wpAnyH_take (i := 1) (v := _) (by first | (simp only [List.getElem?_toArray, List.getElem?_cons_zero, List.getElem?_cons_succ]; rfl) | rfl) (by kernel_rfl) (by kernel_rfl) (by kernel_rfl) (by exact fun _ _ _ h => h) (Or.inl ⟨by rfl, by (intro w hSw; (try dsimp only at hSw); go_simp; try with_reducible rfl)⟩) (by assumption) ?_
  (try dsimp only [Act.put]); (try go_frame)
  refine wpAnyH_take (i := 2) (v := _) (by first | (simp only [List.getElem?_toArray, List.getElem?_cons_zero, List.getElem?_cons_succ]; rfl) | rfl) (by kernel_rfl) (by kernel_rfl) (by kernel_rfl) (by exact fun _ _ _ h => h) (Or.inl ⟨by rfl, by (intro w hSw; (try dsimp only at hSw); go_simp; try with_reducible rfl)⟩) (by assumption) ?_
  (try dsimp only [Act.put]); (try go_frame)
  refine wpAnyH_take (i := 3) (v := _) (by first | (simp only [List.getElem?_toArray, List.getElem?_cons_zero, List.getElem?_cons_succ]; rfl) | rfl) (by kernel_rfl) (by kernel_rfl) (by kernel_rfl) (by exact fun _ _ _ h => h) (Or.inl ⟨by rfl, by (intro w hSw; (try dsimp only at hSw); go_simp; try with_reducible rfl)⟩) (by assumption) ?_
  (try dsimp only [Act.put]); (try go_frame)
  refine wpAnyH_take (i := 4) (v := _) (by first | (simp only [List.getElem?_toArray, List.getElem?_cons_zero, List.getElem?_cons_succ]; rfl) | rfl) (by kernel_rfl) (by kernel_rfl) (by kernel_rfl) (by exact fun _ _ _ h => h) (Or.inl ⟨by rfl, by (intro w hSw; (try dsimp only at hSw); go_simp; try with_reducible rfl)⟩) (by assumption) ?_
  (try dsimp only [Act.put]); (try go_frame)
  refine wpAnyH_take (i := 5) (v := _) (by first | (simp only [List.getElem?_toArray, List.getElem?_cons_zero, List.getElem?_cons_succ]; rfl) | rfl) (by kernel_rfl) (by kernel_rfl) (by kernel_rfl) (by exact fun _ _ _ h => h) (Or.inl ⟨by rfl, by (intro w hSw; (try dsimp only at hSw); go_simp; try with_reducible rfl)⟩) (by assumption) ?_
  (try dsimp only [Act.put]); (try go_frame)
  refine wpAnyH_take (i := 6) (v := _) (by first | (simp only [List.getElem?_toArray, List.getElem?_cons_zero, List.getElem?_cons_succ]; rfl) | rfl) (by kernel_rfl) (by kernel_rfl) (by kernel_rfl) (by exact fun _ _ _ h => h) (Or.inl ⟨by rfl, by (intro w hSw; (try dsimp only at hSw); go_simp; try with_reducible rfl)⟩) (by assumption) ?_
  (try dsimp only [Act.put]); (try go_frame)
  refine wpAnyH_take (i := 7) (v := _) (by first | (simp only [List.getElem?_toArray, List.getElem?_cons_zero, List.getElem?_cons_succ]; rfl) | rfl) (by kernel_rfl) (by kernel_rfl) (by kernel_rfl) (by exact fun _ _ _ h => h) (Or.inl ⟨by rfl, by (intro w hSw; (try dsimp only at hSw); go_simp; try with_reducible rfl)⟩) (by assumption) ?_
  (try dsimp only [Act.put]); (try go_frame)
  refine wpAnyH_ready (rs := [8]) (by kernel_rfl) (by simp) ?_
  refine AllReadyH.cons rfl (fun K hK => ?_) AllReadyH.nil
  go_simp
  have hnle : n ≤ 4398046511104 := by rw [D.1, Int.natAbs_natCast]; exact s2.out
  refine (laid_at b 2 false A n c _ w1.drew R1 hnle D).mono ?_
  rintro r w2 ⟨rfl, I2, B2, hc⟩
  replace B2 : But w1 w2 b 2 := But.undrew B2
  have I1' := I1.but B2 (.inr ⟨by decide, by decide, by decide⟩)
  have ys2 : w2.cell? ⟨bx, 3, none⟩ = some (.slice A n c) := by
    by_cases e : bx = b
    · subst e; exact hc
    · exact (B2.toFar.cellAt l2 e 3).trans ys
  have hF := B1.toFar.trans B2.toFar
  refine hK.out _ _ ?_ (fun hHeld => ?_)
  · exact ys2
  clear hK K
  (try dsimp only [Act.put]); (try go_frame)
  refine wpAnyH_done (by kernel_rfl) ?_ _
  try simp only [QCut]
  go_wp2
  go_ret
  refine ⟨rfl, ⟨I1', ?_⟩, hF⟩
  have e : sz false (x.den : Int).natAbs = ((-x).den : Int) := rfl
  rw [← e]; exact I2

theorem ratsign_any (b : Nat) (x : Rat) (w : World) (X : RatAt w b x) : Calls Tryz.prog 70 #[.pointer (some ⟨b, 0, none⟩)] w fun e w' => e = .returned (.int .i64 x.num.sign) ∧ w = w' := by
  have hs := fun W h => sign_any b 0 x.num W h
  have X1 := X.1
  clear X
  go_enter Tryz.func70, Tryz.ntmps70
  go_wp2_with fail
  refine (hs _ X1).mono ?_
  rintro r w1 ⟨rfl, rfl⟩
  go_wp2
  go_ret
  exact ⟨rfl, rfl⟩
theorem ratsetfrac_any (b b1 b2 : Nat) (p q : Int) (w : World) (hr : RRoom w b) (h1 : IntAt w b1 0 p) (h2 : IntAt w b2 0 q) (n1 : b1 ≠ b) (n2 : b2 ≠ b) (hq : q ≠ 0) (sp : dn 32 p.natAbs ≤ 1099511627000) (sq : dn 32 q.natAbs ≤ 1099511627000) :
    Calls Tryz.prog 40 #[.pointer (some ⟨b, 0, none⟩), .pointer (some ⟨b1, 0, none⟩), .pointer (some ⟨b2, 0, none⟩)] w fun e w' => e = .returned (.pointer (some ⟨b, 0, none⟩)) ∧ RatAt w' b (Rat.divInt p q) ∧ Far w w' b := by
  have hn := fun W a b' c => norm_any b b1 0 b2 0 p q W a b' c n1 n2 hq sp sq
  clear n1 n2 hq sp sq
  go_enter Tryz.func40, Tryz.ntmps40
  go_wp2_with fail
  refine (hn _ hr h1 h2).mono ?_
  rintro r w1 ⟨rfl, R, hF⟩
  clear hn hr h1 h2
  go_wp2
  go_ret
  exact ⟨rfl, R, hF⟩
end Go.Proofs.YtbhfnigblhfikaaGreat
