/- The walks over dyad.Sum and the reference's Sum. -/
import Derived.Test.YtgcifpjhhoalmaaDoorBB
namespace Go.Proofs.YtgcifpjhhoalmaaDoor
open Go Go.RowKit Go.PlainAid Fil

/-- the sum of what is left: m Dyads from place k on, s has been added up -/
def sumR (D : Nat → DY) : Nat → Nat → DY → DY × Int
  | 0, _, s => (s, 0)
  | m + 1, k, s => if (yAdd s (D k)).2 = 0 then sumR D m (k + 1) (yAdd s (D k)).1 else (DY.zero, (yAdd s (D k)).2)
theorem sumR_done (D : Nat → DY) (k : Nat) (s : DY) : sumR D 0 k s = (s, 0) := rfl
theorem sumR_go {D : Nat → DY} {m k : Nat} {s : DY} (h : (yAdd s (D k)).2 = 0) : sumR D (m + 1) k s = sumR D m (k + 1) (yAdd s (D k)).1 := if_pos h
theorem sumR_stop {D : Nat → DY} {m k : Nat} {s : DY} (h : ¬ (yAdd s (D k)).2 = 0) : sumR D (m + 1) k s = (DY.zero, (yAdd s (D k)).2) := if_neg h
theorem err_or (a b : DY) : (yAdd a b).2 = 0 ∨ (yAdd a b).2 = 4 := by
  show mkR _ _ = 0 ∨ mkR _ _ = 4
  rw [mkR_eq]
  split
  · exact .inl rfl
  · exact .inr rfl

section
variable {w w' : World} {b b' : Nat} {neg neg' : Bool} {s s' : ByteArray} {e e' : Int}
theorem DyAt.drew (h : DyAt w b neg s e) : DyAt w.drew b neg s e := ⟨h.c0, h.c1, h.c2, h.f0, h.f1, h.f2⟩
theorem DyAt.drewN (h : DyAt w b neg s e) (k : Nat) : DyAt (w.drewN k) b neg s e := ⟨h.c0, h.c1, h.c2, h.f0, h.f1, h.f2⟩
theorem DyAt.far (h : DyAt w b neg s e) (hb : b ≠ b') (o : Nat) (v : Value) : DyAt (w.setCell ⟨b', o, none⟩ v) b neg s e := by
  have hne : ∀ i : Nat, (⟨b', o, none⟩ : Addr) ≠ ⟨b, i, none⟩ := fun i hi => hb (by injection hi with h1; exact h1.symm)
  have hf : ∀ i : Nat, (w.setCell ⟨b', o, none⟩ v).frozen? ⟨b, i, none⟩ = w.frozen? ⟨b, i, none⟩ := fun i => World.frozen?_setCell _ _ _ _
  exact ⟨(World.cell?_setCell_other _ _ _ _ (hne 0)).trans h.c0, (World.cell?_setCell_other _ _ _ _ (hne 1)).trans h.c1, (World.cell?_setCell_other _ _ _ _ (hne 2)).trans h.c2, (hf 0).trans h.f0, (hf 1).trans h.f1, (hf 2).trans h.f2⟩
theorem DyAt.far3 (h : DyAt w b neg s e) (hb : b ≠ b') (u v x : Value) : DyAt (((w.setCell ⟨b', 0, none⟩ u).setCell ⟨b', 1, none⟩ v).setCell ⟨b', 2, none⟩ x) b neg s e := ((h.far hb 0 u).far hb 1 v).far hb 2 x
theorem set_same (w : World) (b o : Nat) {u : Value} (v : Value) (h : w.cell? ⟨b, o, none⟩ = some u) : (w.setCell ⟨b, o, none⟩ v).cell? ⟨b, o, none⟩ = some v := World.cell?_setCell_same _ _ _ h
theorem set_off (w : World) (b o i : Nat) (v : Value) (h : i ≠ o) : (w.setCell ⟨b, o, none⟩ v).cell? ⟨b, i, none⟩ = w.cell? ⟨b, i, none⟩ := World.cell?_setCell_other _ _ _ _ (fun hi => h (by injection hi with _ h2; exact h2.symm))
theorem DyAt.store (h : DyAt w b neg s e) (neg' : Bool) (s' : ByteArray) (e' : Int) : DyAt (((w.setCell ⟨b, 0, none⟩ (.bool neg')).setCell ⟨b, 1, none⟩ (.string s')).setCell ⟨b, 2, none⟩ (.int .i64 e')) b neg' s' e' := by
  have hf : ∀ i : Nat, (((w.setCell ⟨b, 0, none⟩ (.bool neg')).setCell ⟨b, 1, none⟩ (.string s')).setCell ⟨b, 2, none⟩ (.int .i64 e')).frozen? ⟨b, i, none⟩ = w.frozen? ⟨b, i, none⟩ := fun i => by
    rw [World.frozen?_setCell, World.frozen?_setCell, World.frozen?_setCell]
  refine ⟨?_, ?_, ?_, (hf 0).trans h.f0, (hf 1).trans h.f1, (hf 2).trans h.f2⟩
  · rw [set_off _ _ _ _ _ (by omega), set_off _ _ _ _ _ (by omega)]; exact set_same _ _ _ _ h.c0
  · rw [set_off _ _ _ _ _ (by omega)]; exact set_same _ _ _ _ ((set_off _ _ _ _ _ (by omega)).trans h.c1)
  · exact set_same _ _ _ _ ((set_off _ _ _ _ _ (by omega)).trans ((set_off _ _ _ _ _ (by omega)).trans h.c2))
theorem below_put3 {B : Nat} (h : Below B w w') (hb : B ≤ b) (u v x : Value) : Below B w (((w'.setCell ⟨b, 0, none⟩ u).setCell ⟨b, 1, none⟩ v).setCell ⟨b, 2, none⟩ x) := ((h.setCell hb _).setCell hb _).setCell hb _
end

/-- Dyads that may be, in a slice -/
def DysY (w : World) (A : Option Addr) (n : Nat) (D : Nat → DY) : Prop := Dys w A n (fun i => (D i).n) (fun i => bstr (D i).x) (fun i => (D i).e)
theorem DY.len {a : DY} (h : a.ok) : (bstr a.x).size ≤ 9223372036854775807 := bstr_len h

set_option maxHeartbeats 1000000 in
theorem dsum_bad (A : Option Addr) (n c : Nat) (N : Nat → Bool) (S : Nat → ByteArray) (E : Nat → Int) (w : World) (hn : n ≤ 4611686018427387903) (h : Dys w A n N S E) (hs : ∀ i, i < n → (S i).size ≤ 9223372036854775807) (hb : (allB n fun i => mayB (N i) (S i) (E i)) = false) :
    Calls Tryd.prog 28 #[.slice A n c] w fun r w' => r = .returned (dyR false 0 0 2) ∧ Below w.heap.size w w' := by
  have hD := DyAt.put w false { data := #[] } 0
  have hB := (Below.refl w.heap.size w).alloc (Nat.le_refl _) (.cells #[.bool false, .string { data := #[] }, .int .i64 0] 24)
  have hall := all_any A n c N S E _ hn (h.below hB) hs
  rw [hb] at hall
  clear hb h hs
  go_enter Tryd.func28, Tryd.ntmps28
  go_wp2_with fail
  (with_reducible refine hall.mono ?_)
  rintro r w1 ⟨rfl, hb1⟩
  replace hD := hD.keep hb1
  replace hB := hB.trans (hb1.mono hB.size)
  obtain ⟨c0, c1, c2, f0, f1, f2⟩ := hD
  clear hall hb1
  go_wp2
  exact bodyPost_ret (v := .tuple #[.agg #[.bool false, .string { data := #[] }, .int .i64 0], .int .i64 2]) (by simp [results, Tryd.results28, go_sem, c0, c1, c2]) rfl ⟨dyR_none ⟨rfl, rfl, rfl, rfl⟩, below_put3 hB (Nat.le_refl _) _ _ _⟩

set_option maxHeartbeats 4000000 in
theorem dsum_ok (A : Option Addr) (n c : Nat) (D : Nat → DY) (w : World) (hn : n ≤ 4611686018427387903) (h : DysY w A n D) (hok : ∀ i, i < n → (D i).ok) (hT : Tab w) :
    Calls Tryd.prog 28 #[.slice A n c] w fun r w' => r = .returned (dyR (sumR D n 0 DY.zero).1.n (sumR D n 0 DY.zero).1.x (sumR D n 0 DY.zero).1.e (sumR D n 0 DY.zero).2) ∧ Below w.heap.size w w' := by
  have hD := DyAt.put w false { data := #[] } 0
  have hB := (Below.refl w.heap.size w).alloc (Nat.le_refl _) (.cells #[.bool false, .string { data := #[] }, .int .i64 0] 24)
  have hall := all_any A n c _ _ _ _ hn (Dys.below h hB) (fun i hi => DY.len (hok i hi))
  rw [allB_yes (fun i hi => mayB_ok (hok i hi))] at hall
  obtain ⟨R, hR⟩ : ∃ R, R = sumR D n 0 DY.zero := ⟨_, rfl⟩
  rw [← hR]
  have HR := Lib.hid hR
  have HO := Lib.hid hok
  clear hR hok
  go_enter Tryd.func28, Tryd.ntmps28
  go_wp2_with fail
  (with_reducible refine hall.mono ?_)
  rintro r w1 ⟨rfl, hb1⟩
  replace hD := hD.keep hb1
  replace hB := hB.trans (hb1.mono hB.size)
  have hl1 := hD.lt
  clear hall hb1
  have hD1 := hD.allocd (.cells #[.bool false, .string { data := #[] }, .int .i64 0] 24)
  have hS1 := DyAt.put w1 false { data := #[] } 0
  have hB1 := hB.alloc hB.size (.cells #[.bool false, .string { data := #[] }, .int .i64 0] 24)
  clear hD hB
  go_wp2_with fail
  go_loopg [14] n (fun g s14 wr => ∃ (i : Nat) (s : DY), i ≤ n ∧ g = n - i ∧ s14 = .int .i64 i ∧ s.ok ∧ sumR D (n - i) i s = R ∧ DyAt wr w1.heap.size s.n (bstr s.x) s.e ∧ DyAt wr w.heap.size false { data := #[] } 0 ∧ Below w.heap.size w wr)
  case atStart => exact ⟨0, DY.zero, Nat.zero_le _, rfl, rfl, DY.zero_ok, HR.out.symm, by unfold DY.zero; rw [bstr_zero]; exact hS1, hD1, hB1⟩
  case round =>
    obtain ⟨i, s, hi, hg, rfl, hsok, hsum, hS, hD, hB⟩ := hrel
    clear hS1 hD1 hB1
    have Hsum := Lib.hid hsum
    have Hg := Lib.hid hg
    have hS0 := hS
    have hlS0 := hS0.lt
    have hlD0 := hD.lt
    obtain ⟨x0, x1, x2, y0, y1, y2⟩ := hS
    clear hg hsum
    by_cases hin : i < n
    · obtain ⟨b, o, rfl, hlt, hc⟩ := Dys.below h hB (by omega)
      obtain ⟨k1, k2, k3⟩ := hc i hin
      have H := Lib.hid h
      have hdi := HO.out i hin
      have had := fun W hW => dadd_ok s.n s.x s.e (D i).n (D i).x (D i).e W hsok hdi hW
      have hyo := err_or s (D i)
      have hmk : mkV (addZ (sz s.n s.x) s.e (sz (D i).n (D i).x) (D i).e) (min s.e (D i).e) = dyR (yAdd s (D i)).1.n (yAdd s (D i)).1.x (yAdd s (D i)).1.e (yAdd s (D i)).2 := rfl
      rw [hmk] at had
      unfold dyR at had
      have hst := @sumR_stop D (n - i - 1) i s
      have hgo := @sumR_go D (n - i - 1) i s
      rw [show n - i - 1 + 1 = n - i by omega, Hsum.out] at hst hgo
      have hto : (yAdd s (D i)).1.ok := mkD_ok _ _
      generalize yAdd s (D i) = t at *
      clear hc h hmk
      go_wp2_with fail
      (with_reducible refine (had _ (hT.below (hB.alloc hB.size _))).mono ?_)
      rintro r w2 ⟨rfl, hb2⟩
      replace hS0 := (hS0.allocd _).keep hb2
      replace hD := (hD.allocd _).keep hb2
      have hlS := hS0.lt
      have hB2 := (hB.alloc hB.size _).trans (hb2.mono (by have := hB.size; simp; omega))
      clear hb2 hB x0 x1 x2 y0 y1 y2 had k1 k2 k3 hlt
      obtain ⟨x0, x1, x2, y0, y1, y2⟩ := id hS0
      obtain ⟨c0, c1, c2, f0, f1, f2⟩ := id hD
      obtain ⟨⟨tn, tx, te⟩, tr⟩ := t
      rcases hyo with hr0 | hr4
      · obtain rfl : tr = 0 := hr0
        have hgo' := Lib.hid (hgo rfl)
        clear hst hgo
        have hB3 := below_put3 hB2 (show w.heap.size ≤ w1.heap.size by omega) (.bool tn) (.string (bstr tx)) (.int .i64 te)
        have hS3 := hS0.store tn (bstr tx) te
        have hD3 := hD.far3 (show w.heap.size ≠ w1.heap.size by omega) (.bool tn) (.string (bstr tx)) (.int .i64 te)
        clear hB2 hS0 hD
        go_wp2
        go_roundg (n - (i + 1))
        case measure => have := Hg.out; omega
        case rel => exact ⟨i + 1, ⟨tn, tx, te⟩, by omega, rfl, by go_num, hto, by rw [show n - (i + 1) = n - i - 1 by omega]; exact hgo'.out.symm, hS3, hD3, hB3⟩
      · obtain rfl : tr = 4 := hr4
        have hst' := Lib.hid (hst (by show ¬ (4 : Int) = 0; omega))
        clear hst hgo
        have hB3 := below_put3 hB2 (show w.heap.size ≤ w1.heap.size by omega) (.bool tn) (.string (bstr tx)) (.int .i64 te)
        have hB4 := below_put3 hB3 (Nat.le_refl _) (.bool false) (.string { data := #[] }) (.int .i64 0)
        obtain ⟨g0, g1, g2, e0, e1, e2⟩ := hD.far3 (show w.heap.size ≠ w1.heap.size by omega) (.bool tn) (.string (bstr tx)) (.int .i64 te)
        clear hB2 hS0 hD hB3
        go_wp2
        exact bodyPost_ret (v := .tuple #[.agg #[.bool false, .string { data := #[] }, .int .i64 0], .int .i64 4]) (by simp [results, Tryd.results28, go_sem, g0, g1, g2]) rfl ⟨by rw [hst'.out]; exact dyR_none ⟨rfl, rfl, rfl, rfl⟩, hB4⟩
    · obtain rfl : i = n := by omega
      have hR' : R = (s, 0) := by rw [← Hsum.out, Nat.sub_self]; rfl
      have HR' := Lib.hid hR'
      obtain ⟨c0, c1, c2, f0, f1, f2⟩ := id hD
      have hB4 := below_put3 hB (Nat.le_refl _) (.bool s.n) (.string (bstr s.x)) (.int .i64 s.e)
      clear hR' hB hS0 hD
      obtain ⟨sn, sx, se⟩ := s
      go_wp2
      exact bodyPost_ret (v := .tuple #[.agg #[.bool sn, .string (bstr sx), .int .i64 se], .int .i64 0]) (by simp [results, Tryd.results28, go_sem, c0, c1, c2]) rfl ⟨by rw [HR'.out]; rfl, hB4⟩

set_option maxHeartbeats 4000000 in
theorem rsum_ok (A : Option Addr) (n c : Nat) (D : Nat → DY) (w : World) (hn : n ≤ 4611686018427387903) (h : DysY w A n D) (hok : ∀ i, i < n → (D i).ok) :
    Calls Tryd.prog 30 #[.slice A n c] w fun r w' => r = .returned (dyR (sumR D n 0 DY.zero).1.n (sumR D n 0 DY.zero).1.x (sumR D n 0 DY.zero).1.e (sumR D n 0 DY.zero).2) ∧ Below w.heap.size w w' := by
  have hD := DyAt.put w false { data := #[] } 0
  have hB := (Below.refl w.heap.size w).alloc (Nat.le_refl _) (.cells #[.bool false, .string { data := #[] }, .int .i64 0] 24)
  obtain ⟨R, hR⟩ : ∃ R, R = sumR D n 0 DY.zero := ⟨_, rfl⟩
  rw [← hR]
  have HR := Lib.hid hR
  have HO := Lib.hid hok
  clear hR hok
  have hl1 : w.heap.size < (w.alloc (.cells #[.bool false, .string { data := #[] }, .int .i64 0] 24)).heap.size := hD.lt
  have hs1 : (w.alloc (.cells #[.bool false, .string { data := #[] }, .int .i64 0] 24)).heap.size = w.heap.size + 1 := by simp
  have hD1 := hD.allocd (.cells #[.bool false, .string { data := #[] }, .int .i64 0] 24)
  have hS1 := DyAt.put (w.alloc (.cells #[.bool false, .string { data := #[] }, .int .i64 0] 24)) false { data := #[] } 0
  have hB1 := hB.alloc hB.size (.cells #[.bool false, .string { data := #[] }, .int .i64 0] 24)
  rw [hs1] at hS1
  clear hD hB hl1 hs1
  go_enter Tryd.func30, Tryd.ntmps30
  go_wp2_with fail
  go_loopg [5] n (fun g s5 wr => ∃ (i : Nat) (s : DY), i ≤ n ∧ g = n - i ∧ s5 = .int .i64 i ∧ s.ok ∧ sumR D (n - i) i s = R ∧ DyAt wr (w.heap.size + 1) s.n (bstr s.x) s.e ∧ DyAt wr w.heap.size false { data := #[] } 0 ∧ Below w.heap.size w wr)
  case atStart => exact ⟨0, DY.zero, Nat.zero_le _, rfl, rfl, DY.zero_ok, HR.out.symm, by unfold DY.zero; rw [bstr_zero]; exact hS1, hD1, hB1⟩
  case round =>
    obtain ⟨i, s, hi, hg, rfl, hsok, hsum, hS, hD, hB⟩ := hrel
    clear hS1 hD1 hB1
    have Hsum := Lib.hid hsum
    have Hg := Lib.hid hg
    have hS0 := hS
    have hlS0 := hS0.lt
    have hlD0 := hD.lt
    obtain ⟨x0, x1, x2, y0, y1, y2⟩ := hS
    clear hg hsum
    by_cases hin : i < n
    · obtain ⟨b, o, rfl, hlt, hc⟩ := Dys.below h hB (by omega)
      obtain ⟨k1, k2, k3⟩ := hc i hin
      have H := Lib.hid h
      have hdi := HO.out i hin
      have had := fun W => radd_any s.n s.x s.e (D i).n (D i).x (D i).e W hsok hdi
      have hyo := err_or s (D i)
      have hmk : mkV (addZ (sz s.n s.x) s.e (sz (D i).n (D i).x) (D i).e) (min s.e (D i).e) = dyR (yAdd s (D i)).1.n (yAdd s (D i)).1.x (yAdd s (D i)).1.e (yAdd s (D i)).2 := rfl
      rw [hmk] at had
      unfold dyR at had
      have hst := @sumR_stop D (n - i - 1) i s
      have hgo := @sumR_go D (n - i - 1) i s
      rw [show n - i - 1 + 1 = n - i by omega, Hsum.out] at hst hgo
      have hto : (yAdd s (D i)).1.ok := mkD_ok _ _
      generalize yAdd s (D i) = t at *
      have gi0 : 0 ≤ (i : Int) := by omega
      have gi1 : (i : Int) < (n : Int) := by omega
      clear hc h hmk
      go_wp2_with fail
      have keep : ∀ w' : World, Below wr.heap.size wr w' → (w'.cell? ⟨w.heap.size + 1, 0, none⟩ = some (.bool s.n) ∧ w'.cell? ⟨w.heap.size + 1, 1, none⟩ = some (.string (bstr s.x)) ∧ w'.cell? ⟨w.heap.size + 1, 2, none⟩ = some (.int .i64 s.e) ∧ w'.cell? ⟨b, o + i * 3, none⟩ = some (.bool (D i).n) ∧ w'.cell? ⟨b, o + i * 3 + 1, none⟩ = some (.string (bstr (D i).x)) ∧ w'.cell? ⟨b, o + i * 3 + 2, none⟩ = some (.int .i64 (D i).e)) := fun w' hb => ⟨(hb.cell (p := ⟨_, _, none⟩) hlS0).trans x0, (hb.cell (p := ⟨_, _, none⟩) hlS0).trans x1, (hb.cell (p := ⟨_, _, none⟩) hlS0).trans x2, (hb.cell (p := ⟨b, _, none⟩) hlt).trans k1, (hb.cell (p := ⟨b, _, none⟩) hlt).trans k2, (hb.cell (p := ⟨b, _, none⟩) hlt).trans k3⟩
      refine wp_region_any (by kernel_rfl) ?_
      have hHeld : (fun w' : World => w'.cell? ⟨w.heap.size + 1, 0, none⟩ = some (.bool s.n) ∧ w'.cell? ⟨w.heap.size + 1, 1, none⟩ = some (.string (bstr s.x)) ∧ w'.cell? ⟨w.heap.size + 1, 2, none⟩ = some (.int .i64 s.e) ∧ w'.cell? ⟨b, o + i * 3, none⟩ = some (.bool (D i).n) ∧ w'.cell? ⟨b, o + i * 3 + 1, none⟩ = some (.string (bstr (D i).x)) ∧ w'.cell? ⟨b, o + i * 3 + 2, none⟩ = some (.int .i64 (D i).e)) wr.drew := ⟨x0, x1, x2, k1, k2, k3⟩
      refine wpAny_of_held (S := fun w' : World => w'.cell? ⟨w.heap.size + 1, 0, none⟩ = some (.bool s.n) ∧ w'.cell? ⟨w.heap.size + 1, 1, none⟩ = some (.string (bstr s.x)) ∧ w'.cell? ⟨w.heap.size + 1, 2, none⟩ = some (.int .i64 s.e) ∧ w'.cell? ⟨b, o + i * 3, none⟩ = some (.bool (D i).n) ∧ w'.cell? ⟨b, o + i * 3 + 1, none⟩ = some (.string (bstr (D i).x)) ∧ w'.cell? ⟨b, o + i * 3 + 2, none⟩ = some (.int .i64 (D i).e)) _ _ _ _ ?_
      refine wpAnyH_take (i := 0) (v := _) (by first | (simp only [List.getElem?_toArray, List.getElem?_cons_zero]; rfl) | rfl) (by kernel_rfl) (by kernel_rfl) (by kernel_rfl) (by exact fun _ _ _ h => h) (Or.inl ⟨by rfl, by (intro w hSw; (try dsimp only at hSw); go_simp; try with_reducible rfl)⟩) (by assumption) ?_
      (try dsimp only [Act.put]); (try go_frame)
      refine wpAnyH_take (i := 1) (v := _) (by first | (simp only [List.getElem?_toArray, List.getElem?_cons_zero, List.getElem?_cons_succ]; rfl) | rfl) (by kernel_rfl) (by kernel_rfl) (by kernel_rfl) (by exact fun _ _ _ h => h) (Or.inl ⟨by rfl, by (intro w hSw; (try dsimp only at hSw); go_simp; try with_reducible rfl)⟩) (by assumption) ?_
      (try dsimp only [Act.put]); (try go_frame)
      refine wpAnyH_take (i := 2) (v := _) (by first | (simp only [List.getElem?_toArray, List.getElem?_cons_zero, List.getElem?_cons_succ]; rfl) | rfl) (by kernel_rfl) (by kernel_rfl) (by kernel_rfl) (by exact fun _ _ _ h => h) (Or.inl ⟨by rfl, by (intro w hSw; (try dsimp only at hSw); go_simp; try with_reducible rfl)⟩) (by assumption) ?_
      (try dsimp only [Act.put]); (try go_frame)
      refine wpAnyH_take (i := 3) (v := _) (by first | (simp only [List.getElem?_toArray, List.getElem?_cons_zero, List.getElem?_cons_succ]; rfl) | rfl) (by kernel_rfl) (by kernel_rfl) (by kernel_rfl) (by exact fun _ _ _ h => h) (Or.inl ⟨by rfl, by (intro w hSw; (try dsimp only at hSw); go_simp; try with_reducible rfl)⟩) (by assumption) ?_
      (try dsimp only [Act.put]); (try go_frame)
      refine wpAnyH_take (i := 4) (v := _) (by first | (simp only [List.getElem?_toArray, List.getElem?_cons_zero, List.getElem?_cons_succ]; rfl) | rfl) (by kernel_rfl) (by kernel_rfl) (by kernel_rfl) (by exact fun _ _ _ h => h) (Or.inl ⟨by rfl, by (intro w hSw; (try dsimp only at hSw); go_simp; try with_reducible rfl)⟩) (by assumption) ?_
      (try dsimp only [Act.put]); (try go_frame)
      refine wpAnyH_ready (rs := [5, 9]) (by kernel_rfl) (by simp) ?_
      refine AllReadyH.cons rfl (fun K hK => ?_) (AllReadyH.cons rfl (fun K hK => ?_) AllReadyH.nil)
      · go_simp
        (with_reducible refine (had _).mono ?_)
        rintro r w2 ⟨rfl, hb2⟩
        have hT2 : Below wr.heap.size wr w2 := (Below.refl _ _).drew.trans hb2
        refine hK.out _ _ ?_ (fun hHeld => ?_)
        · exact keep _ hT2
        clear hK K
        (try dsimp only [Act.put]); (try go_frame)
        refine wpAnyH_take (i := 6) (v := _) (by first | (simp only [List.getElem?_toArray, List.getElem?_cons_zero, List.getElem?_cons_succ]; rfl) | rfl) (by kernel_rfl) (by kernel_rfl) (by kernel_rfl) (by exact fun _ _ _ h => h) (Or.inl ⟨by rfl, by (intro w hSw; (try dsimp only at hSw); go_simp; try with_reducible rfl)⟩) (by assumption) ?_
        (try dsimp only [Act.put]); (try go_frame)
        refine wpAnyH_take (i := 7) (v := _) (by first | (simp only [List.getElem?_toArray, List.getElem?_cons_zero, List.getElem?_cons_succ]; rfl) | rfl) (by kernel_rfl) (by kernel_rfl) (by kernel_rfl) (by exact fun _ _ _ h => h) (Or.inl ⟨by rfl, by (intro w hSw; (try dsimp only at hSw); go_simp; try with_reducible rfl)⟩) (by assumption) ?_
        (try dsimp only [Act.put]); (try go_frame)
        refine wpAnyH_take (i := 8) (v := _) (by first | (simp only [List.getElem?_toArray, List.getElem?_cons_zero, List.getElem?_cons_succ]; rfl) | rfl) (by kernel_rfl) (by kernel_rfl) (by kernel_rfl) (by exact fun _ _ _ h => h) (Or.inl ⟨by rfl, by (intro w hSw; (try dsimp only at hSw); go_simp; try with_reducible rfl)⟩) (by assumption) ?_
        (try dsimp only [Act.put]); (try go_frame)
        refine wpAnyH_ready (rs := [9]) (by kernel_rfl) (by simp) ?_
        refine AllReadyH.cons rfl (fun K hK => ?_) AllReadyH.nil
        go_simp
        refine hK.out _ _ ?_ (fun hHeld => ?_)
        · exact keep _ (hT2.alloc hT2.size _)
        clear hK K
        (try dsimp only [Act.put]); (try go_frame)
        refine wpAnyH_ready (rs := [10]) (by kernel_rfl) (by simp) ?_
        refine AllReadyH.cons rfl (fun K hK => ?_) AllReadyH.nil
        go_simp
        refine hK.out _ _ ?_ (fun hHeld => ?_)
        · exact keep _ (hT2.alloc hT2.size _)
        clear hK K
        (try dsimp only [Act.put]); (try go_frame)
        refine wpAnyH_take (i := 11) (v := _) (by first | (simp only [List.getElem?_toArray, List.getElem?_cons_zero, List.getElem?_cons_succ]; rfl) | rfl) (by kernel_rfl) (by kernel_rfl) (by kernel_rfl) (by exact fun _ _ _ h => h) (Or.inl ⟨by rfl, by (intro w hSw; (try dsimp only at hSw); go_simp; try with_reducible rfl)⟩) (by assumption) ?_
        (try dsimp only [Act.put]); (try go_frame)
        refine wpAnyH_done (by kernel_rfl) ?_ _
        try simp only [QCut]
        have l2 := hT2.size
        have hSx := (hS0.keep hT2).allocd (.cells #[.bool t.1.n, .string (bstr t.1.x), .int .i64 t.1.e] 24)
        have hDx := (hD.keep hT2).allocd (.cells #[.bool t.1.n, .string (bstr t.1.x), .int .i64 t.1.e] 24)
        have hTx := DyAt.put w2 t.1.n (bstr t.1.x) t.1.e
        have hBx := (hB.trans (hT2.mono hB.size)).alloc (by omega) (.cells #[.bool t.1.n, .string (bstr t.1.x), .int .i64 t.1.e] 24)
        have hlt2 : w.heap.size + 1 < w2.heap.size := by omega
        obtain ⟨BT, hBT⟩ : ∃ BT, BT = w2.heap.size := ⟨_, rfl⟩
        obtain ⟨W9, hW9⟩ : ∃ W9, W9 = w2.alloc (.cells #[.bool t.1.n, .string (bstr t.1.x), .int .i64 t.1.e] 24) := ⟨_, rfl⟩
        rw [← hBT] at hTx hlt2 ⊢
        rw [← hW9] at hSx hDx hTx hBx ⊢
        clear hW9 hBT hHeld keep hT2 hb2 x0 x1 x2 y0 y1 y2 k1 k2 k3 hS0 hD hB
        obtain ⟨x0, x1, x2, y0, y1, y2⟩ := id hSx
        obtain ⟨k0, k1, k2, -, -, -⟩ := id hTx
        obtain ⟨c0, c1, c2, f0, f1, f2⟩ := id hDx
        obtain ⟨⟨tn, tx, te⟩, tr⟩ := t
        dsimp only at k0 k1 k2
        rcases hyo with hr0 | hr4
        · obtain rfl : tr = 0 := hr0
          have hgo' := Lib.hid (hgo rfl)
          clear hst hgo
          have hB3 := below_put3 hBx (show w.heap.size ≤ w.heap.size + 1 by omega) (.bool tn) (.string (bstr tx)) (.int .i64 te)
          have hS3 := hSx.store tn (bstr tx) te
          have hD3 := hDx.far3 (show w.heap.size ≠ w.heap.size + 1 by omega) (.bool tn) (.string (bstr tx)) (.int .i64 te)
          clear hBx hSx hDx hTx
          go_wp2
          go_roundg (n - (i + 1))
          case measure => have := Hg.out; omega
          case rel => exact ⟨i + 1, ⟨tn, tx, te⟩, by omega, rfl, by go_num, hto, by rw [show n - (i + 1) = n - i - 1 by omega]; exact hgo'.out.symm, hS3, hD3, hB3⟩
        · obtain rfl : tr = 4 := hr4
          have hst' := Lib.hid (hst (by show ¬ (4 : Int) = 0; omega))
          clear hst hgo
          have hB4 := below_put3 hBx (Nat.le_refl _) (.bool false) (.string { data := #[] }) (.int .i64 0)
          clear hBx hSx hDx hTx
          go_wp2
          exact bodyPost_ret (v := .tuple #[.agg #[.bool false, .string { data := #[] }, .int .i64 0], .int .i64 4]) (by simp [results, Tryd.results30, go_sem, c0, c1, c2]) rfl ⟨by rw [hst'.out]; exact dyR_none ⟨rfl, rfl, rfl, rfl⟩, hB4⟩
      · go_simp
        refine hK.out _ _ ?_ (fun hHeld => ?_)
        · exact keep _ ((Below.refl _ _).drew.alloc (Nat.le_refl _) _)
        clear hK K
        (try dsimp only [Act.put]); (try go_frame)
        refine wpAnyH_ready (rs := [5]) (by kernel_rfl) (by simp) ?_
        refine AllReadyH.cons rfl (fun K hK => ?_) AllReadyH.nil
        go_simp
        (with_reducible refine (had _).mono ?_)
        rintro r w2 ⟨rfl, hb2⟩
        have hT2 : Below wr.heap.size wr w2 := ((Below.refl _ _).drew.alloc (Nat.le_refl _) _).trans (hb2.mono (by simp))
        have hz : DyAt w2 wr.heap.size false { data := #[] } 0 := (DyAt.put wr.drew false { data := #[] } 0).keep hb2
        refine hK.out _ _ ?_ (fun hHeld => ?_)
        · exact keep _ hT2
        clear hK K
        (try dsimp only [Act.put]); (try go_frame)
        refine wpAnyH_take (i := 6) (v := _) (by first | (simp only [List.getElem?_toArray, List.getElem?_cons_zero, List.getElem?_cons_succ]; rfl) | rfl) (by kernel_rfl) (by kernel_rfl) (by kernel_rfl) (by exact fun _ _ _ h => h) (Or.inl ⟨by rfl, by (intro w hSw; (try dsimp only at hSw); go_simp; try with_reducible rfl)⟩) (by assumption) ?_
        (try dsimp only [Act.put]); (try go_frame)
        refine wpAnyH_take (i := 7) (v := _) (by first | (simp only [List.getElem?_toArray, List.getElem?_cons_zero, List.getElem?_cons_succ]; rfl) | rfl) (by kernel_rfl) (by kernel_rfl) (by kernel_rfl) (by exact fun _ _ _ h => h) (Or.inl ⟨by rfl, by (intro w hSw; (try dsimp only at hSw); go_simp; try with_reducible rfl)⟩) (by assumption) ?_
        (try dsimp only [Act.put]); (try go_frame)
        refine wpAnyH_take (i := 8) (v := _) (by first | (simp only [List.getElem?_toArray, List.getElem?_cons_zero, List.getElem?_cons_succ]; rfl) | rfl) (by kernel_rfl) (by kernel_rfl) (by kernel_rfl) (by exact fun _ _ _ h => h) (Or.inl ⟨by rfl, by (intro w hSw; (try dsimp only at hSw); go_simp; try with_reducible rfl)⟩) (by assumption) ?_
        (try dsimp only [Act.put]); (try go_frame)
        obtain ⟨z0, z1, z2, q0, q1, q2⟩ := id hz
        refine wpAnyH_ready (rs := [10]) (by kernel_rfl) (by simp) ?_
        refine AllReadyH.cons rfl (fun K hK => ?_) AllReadyH.nil
        go_simp
        refine hK.out _ _ ?_ (fun hHeld => ?_)
        · exact keep _ (below_put3 hT2 (Nat.le_refl _) _ _ _)
        clear hK K
        (try dsimp only [Act.put]); (try go_frame)
        refine wpAnyH_take (i := 11) (v := _) (by first | (simp only [List.getElem?_toArray, List.getElem?_cons_zero, List.getElem?_cons_succ]; rfl) | rfl) (by kernel_rfl) (by kernel_rfl) (by kernel_rfl) (by exact fun _ _ _ h => h) (Or.inl ⟨by rfl, by (intro w hSw; (try dsimp only at hSw); go_simp; try with_reducible rfl)⟩) (by assumption) ?_
        (try dsimp only [Act.put]); (try go_frame)
        refine wpAnyH_done (by kernel_rfl) ?_ _
        try simp only [QCut]
        clear z0 z1 z2 q0 q1 q2
        have l2 := hT2.size
        have lz := hz.lt
        have hSx := (hS0.keep hT2).far3 (show w.heap.size + 1 ≠ wr.heap.size by omega) (.bool t.1.n) (.string (bstr t.1.x)) (.int .i64 t.1.e)
        have hDx := (hD.keep hT2).far3 (show w.heap.size ≠ wr.heap.size by omega) (.bool t.1.n) (.string (bstr t.1.x)) (.int .i64 t.1.e)
        have hTx : DyAt _ wr.heap.size _ _ _ := hz.store t.1.n (bstr t.1.x) t.1.e
        have hBx := below_put3 (hB.trans (hT2.mono hB.size)) (show w.heap.size ≤ wr.heap.size by omega) (.bool t.1.n) (.string (bstr t.1.x)) (.int .i64 t.1.e)
        have hlt2 : w.heap.size + 1 < wr.heap.size := by omega
        obtain ⟨BT, hBT⟩ : ∃ BT, BT = wr.heap.size := ⟨_, rfl⟩
        obtain ⟨W9, hW9⟩ : ∃ W9, W9 = ((w2.setCell ⟨wr.heap.size, 0, none⟩ (.bool t.1.n)).setCell ⟨wr.heap.size, 1, none⟩ (.string (bstr t.1.x))).setCell ⟨wr.heap.size, 2, none⟩ (.int .i64 t.1.e) := ⟨_, rfl⟩
        rw [← hW9] at hSx hDx hTx hBx ⊢
        rw [← hBT] at hTx hlt2 ⊢
        clear hW9 hBT hHeld keep hT2 hb2 x0 x1 x2 y0 y1 y2 k1 k2 k3 hS0 hD hB
        obtain ⟨x0, x1, x2, y0, y1, y2⟩ := id hSx
        obtain ⟨k0, k1, k2, -, -, -⟩ := id hTx
        obtain ⟨c0, c1, c2, f0, f1, f2⟩ := id hDx
        obtain ⟨⟨tn, tx, te⟩, tr⟩ := t
        dsimp only at k0 k1 k2
        rcases hyo with hr0 | hr4
        · obtain rfl : tr = 0 := hr0
          have hgo' := Lib.hid (hgo rfl)
          clear hst hgo
          have hB3 := below_put3 hBx (show w.heap.size ≤ w.heap.size + 1 by omega) (.bool tn) (.string (bstr tx)) (.int .i64 te)
          have hS3 := hSx.store tn (bstr tx) te
          have hD3 := hDx.far3 (show w.heap.size ≠ w.heap.size + 1 by omega) (.bool tn) (.string (bstr tx)) (.int .i64 te)
          clear hBx hSx hDx hTx
          go_wp2
          go_roundg (n - (i + 1))
          case measure => have := Hg.out; omega
          case rel => exact ⟨i + 1, ⟨tn, tx, te⟩, by omega, rfl, by go_num, hto, by rw [show n - (i + 1) = n - i - 1 by omega]; exact hgo'.out.symm, hS3, hD3, hB3⟩
        · obtain rfl : tr = 4 := hr4
          have hst' := Lib.hid (hst (by show ¬ (4 : Int) = 0; omega))
          clear hst hgo
          have hB4 := below_put3 hBx (Nat.le_refl _) (.bool false) (.string { data := #[] }) (.int .i64 0)
          clear hBx hSx hDx hTx
          go_wp2
          exact bodyPost_ret (v := .tuple #[.agg #[.bool false, .string { data := #[] }, .int .i64 0], .int .i64 4]) (by simp [results, Tryd.results30, go_sem, c0, c1, c2]) rfl ⟨by rw [hst'.out]; exact dyR_none ⟨rfl, rfl, rfl, rfl⟩, hB4⟩
    · obtain rfl : i = n := by omega
      have hR' : R = (s, 0) := by rw [← Hsum.out, Nat.sub_self]; rfl
      have HR' := Lib.hid hR'
      obtain ⟨c0, c1, c2, f0, f1, f2⟩ := id hD
      have hB4 := below_put3 hB (Nat.le_refl _) (.bool s.n) (.string (bstr s.x)) (.int .i64 s.e)
      clear hR' hB hS0 hD
      obtain ⟨sn, sx, se⟩ := s
      go_wp2
      exact bodyPost_ret (v := .tuple #[.agg #[.bool sn, .string (bstr sx), .int .i64 se], .int .i64 0]) (by simp [results, Tryd.results30, go_sem, c0, c1, c2]) rfl ⟨by rw [HR'.out]; rfl, hB4⟩
end Go.Proofs.YtgcifpjhhoalmaaDoor
