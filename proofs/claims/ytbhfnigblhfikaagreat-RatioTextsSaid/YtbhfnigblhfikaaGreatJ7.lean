/- A fraction in its block; wide.Rat's norm. -/
import Derived.Test.YtbhfnigblhfikaaGreatJ5
import Derived.Test.YtbhfnigblhfikaaGreatJ6
namespace Go.Proofs.YtbhfnigblhfikaaGreat
open Go Go.RowKit Fil

/-- the fraction in a block -/
def RatAt (w : World) (b : Nat) (r : Rat) : Prop := IntAt w b 0 r.num ∧ IntAt w b 2 (r.den : Int)
/-- room for a fraction -/
def RRoom (w : World) (b : Nat) : Prop := Room w b 0 ∧ Room w b 2
/-- all that was there is as it was, but for one block that is no row of digits -/
structure Far (w w' : World) (b : Nat) : Prop where
  os : w'.os = w.os
  tape : w'.tape = w.tape
  output : w'.output = w.output
  size : w.heap.size ≤ w'.heap.size
  far : ∀ k, k < w.heap.size → k ≠ b → w'.heap[k]? = w.heap[k]?
  near : ∃ (cs : Array Value) (t : TypeId), w.heap[b]? = some (.cells cs t (0, 0)) ∧ t ≠ 97
section
variable {w w' w'' : World} {b o b1 o1 : Nat} {z : Int} {r : Rat}
theorem But.toFar (h : But w w' b o) : Far w w' b :=
  ⟨h.os, h.tape, h.output, h.size, h.far, by obtain ⟨cs, _, t, h1, _, h3, _⟩ := h.near; exact ⟨cs, t, h1, h3⟩⟩
theorem But.room_near (h : But w w' b o) : ∃ (cs : Array Value) (t : TypeId), w'.heap[b]? = some (.cells cs t (0, 0)) ∧ t ≠ 97 := by
  obtain ⟨_, cs, t, _, h2, h3, _⟩ := h.near; exact ⟨cs, t, h2, h3⟩
theorem Far.trans (h : Far w w' b) (k : Far w' w'' b) : Far w w'' b :=
  ⟨k.os.trans h.os, k.tape.trans h.tape, k.output.trans h.output, Nat.le_trans h.size k.size, fun i hi hb => (k.far i (Nat.lt_of_lt_of_le hi h.size) hb).trans (h.far i hi hb), h.near⟩
theorem Far.after (h : Below w.heap.size w w') (k : Far w' w'' b) (hb : RRoom w b) : Far w w'' b := by
  obtain ⟨cs, t, h1, h2, _⟩ := hb.1
  exact ⟨k.os.trans h.os, k.tape.trans h.tape, k.output.trans h.output, Nat.le_trans h.size k.size, fun i hi hne => (k.far i (Nat.lt_of_lt_of_le hi h.size) hne).trans (h.block i hi), ⟨cs, t, h1, h2⟩⟩
theorem Far.below (h : Far w w' b) {B : Nat} (hb : B ≤ b) (hB : B ≤ w.heap.size) : Below B w w' :=
  ⟨h.os, h.tape, h.output, h.size, fun k hk => h.far k (by omega) (by omega)⟩
theorem Dig.far {A : Option Addr} {n c x : Nat} (h : Dig w A n c x) (hw : Far w w' b) : Dig w' A n c x := ⟨h.1, h.2.1, h.2.2.keep fun k cs fz hc => by
  obtain ⟨cs', t, h1, h2⟩ := hw.near
  refine hw.far k (lt_of_heap hc) fun e => ?_
  subst e
  rw [hc] at h1
  injection h1 with h1; injection h1 with _ h1; exact h2 h1.symm⟩
theorem IntAt.far (h : IntAt w b1 o1 z) (hw : Far w w' b) (hne : b1 ≠ b) : IntAt w' b1 o1 z := by
  obtain ⟨cs, t, A, n, c, h1, h2, h3, h4, h5⟩ := h
  exact ⟨cs, t, A, n, c, (hw.far b1 (lt_of_heap h1) hne).trans h1, h2, h3, h4, h5.far hw⟩
theorem Room.far (h : Room w b1 o1) (hw : Far w w' b) (hne : b1 ≠ b) : Room w' b1 o1 := by
  obtain ⟨cs, t, h1, h2, h3⟩ := h
  exact ⟨cs, t, (hw.far b1 (lt_of_heap h1) hne).trans h1, h2, h3⟩
theorem RatAt.lt (h : RatAt w b r) : b < w.heap.size := h.1.lt
theorem RatAt.room (h : RatAt w b r) : RRoom w b := ⟨h.1.room, h.2.room⟩
theorem RatAt.below (h : RatAt w b r) (hb : Below w.heap.size w w') : RatAt w' b r := ⟨h.1.below hb, h.2.below hb⟩
theorem RatAt.alloc (h : RatAt w b r) (ob : Obj) : RatAt (w.alloc ob) b r := ⟨h.1.alloc ob, h.2.alloc ob⟩
theorem RatAt.far (h : RatAt w b1 r) (hw : Far w w' b) (hne : b1 ≠ b) : RatAt w' b1 r := ⟨h.1.far hw hne, h.2.far hw hne⟩
theorem RatAt.drewN (h : RatAt w b r) (k : Nat) : RatAt (w.drewN k) b r := h
theorem RatAt.but (h : RatAt w b1 r) (hw : But w w' b o) (hne : b1 ≠ b) : RatAt w' b1 r := h.far hw.toFar hne
theorem RRoom.lt (h : RRoom w b) : b < w.heap.size := h.1.lt
theorem RRoom.below (h : RRoom w b) (hb : Below w.heap.size w w') : RRoom w' b := ⟨h.1.below hb, h.2.below hb⟩
theorem RRoom.alloc (h : RRoom w b) (ob : Obj) : RRoom (w.alloc ob) b := ⟨h.1.alloc ob, h.2.alloc ob⟩
theorem RRoom.far (h : RRoom w b1) (hw : Far w w' b) (hne : b1 ≠ b) : RRoom w' b1 := ⟨h.1.far hw hne, h.2.far hw hne⟩
theorem RRoom.but (h : RRoom w b1) (hw : But w w' b o) (hne : b1 ≠ b) : RRoom w' b1 := h.far hw.toFar hne
theorem RRoom.new (w : World) : RRoom (w.alloc (.cells #[.bool false, .slice none 0 0, .bool false, .slice none 0 0] 77)) w.heap.size :=
  ⟨Room.new w 77 _ (by decide) (by simp), Room.new w 77 _ (by decide) (by simp)⟩
theorem IntAt.zero (w : World) : IntAt (w.alloc (.cells #[.bool false, .slice none 0 0] 70)) w.heap.size 0 0 :=
  ⟨_, 70, none, 0, 0, heap_alloc_new w _, by decide, rfl, rfl, Dig.nil _ _⟩
theorem Below.cellAt {B : Nat} (h : Below B w w') (hb : b < B) (i : Nat) : w'.cell? ⟨b, i, none⟩ = w.cell? ⟨b, i, none⟩ := by
  simp only [World.cell?, h.block b hb]
theorem Far.cellAt (h : Far w w' b) (hb : b1 < w.heap.size) (hne : b1 ≠ b) (i : Nat) : w'.cell? ⟨b1, i, none⟩ = w.cell? ⟨b1, i, none⟩ := by
  simp only [World.cell?, h.far b1 hb hne]
end

set_option maxRecDepth 100000 in
set_option maxHeartbeats 4000000 in
theorem norm_any (b b1 o1 b2 o2 : Nat) (p q : Int) (w : World) (hr : RRoom w b) (h1 : IntAt w b1 o1 p) (h2 : IntAt w b2 o2 q) (n1 : b1 ≠ b) (n2 : b2 ≠ b) (hq : q ≠ 0) (sp : dn 32 p.natAbs ≤ 1099511627000) (sq : dn 32 q.natAbs ≤ 1099511627000) :
    Calls Tryz.prog 74 #[.pointer (some ⟨b, 0, none⟩), .pointer (some ⟨b1, o1, none⟩), .pointer (some ⟨b2, o2, none⟩)] w fun e w' => e = .returned (.pointer (some ⟨b, 0, none⟩)) ∧ RatAt w' b (Rat.divInt p q) ∧ Far w w' b := by
  obtain ⟨A1, m1, c1, x1, y1, D1⟩ := h1.cells
  obtain ⟨A2, m2, c2, x2, y2, D2⟩ := h2.cells
  have l1 := h1.lt
  have l2 := h2.lt
  have hG0 : Nat.gcd p.natAbs q.natAbs ≠ 0 := by
    have := Nat.gcd_pos_of_pos_right p.natAbs (show 0 < q.natAbs by omega); omega
  have hcm := fun W (a : Dig W A1 m1 c1 p.natAbs) (b : Dig W A2 m2 c2 q.natAbs) => common_any A1 A2 m1 c1 p.natAbs m2 c2 q.natAbs W a b (by rw [D1.1]; exact sp) (by rw [D2.1]; exact sq)
  have gle : dn 32 (Nat.gcd p.natAbs q.natAbs) ≤ 1099511627000 := Nat.le_trans (dn_mono (by omega) (Nat.le_of_dvd (by omega) (Nat.gcd_dvd_right _ _))) sq
  have en := norm_num p q hq
  have ed := norm_den p q hq
  obtain ⟨G, hG⟩ : ∃ G, G = Nat.gcd p.natAbs q.natAbs := ⟨_, rfl⟩
  rw [← hG] at hG0 hcm gle en ed
  have hov1 := fun W A c (a : Dig W A1 m1 c1 p.natAbs) (b : Dig W A (dn 32 G) c G) => over_any A1 A m1 c1 p.natAbs (dn 32 G) c G W a b (by rw [D1.1]; exact sp) gle hG0
  have hov2 := fun W A c (a : Dig W A2 m2 c2 q.natAbs) (b : Dig W A (dn 32 G) c G) => over_any A2 A m2 c2 q.natAbs (dn 32 G) c G W a b (by rw [D2.1]; exact sq) gle hG0
  have qle1 : dn 32 (p.natAbs / G) ≤ 4398046511104 := Nat.le_trans (dn_mono (by omega) (Nat.div_le_self _ _)) (by omega)
  have qle2 : dn 32 (q.natAbs / G) ≤ 4398046511104 := Nat.le_trans (dn_mono (by omega) (Nat.div_le_self _ _)) (by omega)
  have HE := Lib.hid (And.intro en (And.intro ed (And.intro qle1 qle2)))
  clear hG hG0 en ed qle1 qle2 h1 h2 hq sp sq gle
  have Hn := Lib.hid (And.intro n1 (And.intro n2 (And.intro l1 l2)))
  clear n1 n2 l1 l2
  go_enter Tryz.func74, Tryz.ntmps74
  go_wp2_with fail
  refine wp_region_any (by kernel_rfl) ?_
  have hHeld : (fun w' : World => w'.cell? ⟨b1, o1 + 1, none⟩ = some (.slice A1 m1 c1) ∧ w'.cell? ⟨b2, o2 + 1, none⟩ = some (.slice A2 m2 c2)) w.drew := ⟨y1, y2⟩
  refine wpAny_of_held (S := fun w' : World => w'.cell? ⟨b1, o1 + 1, none⟩ = some (.slice A1 m1 c1) ∧ w'.cell? ⟨b2, o2 + 1, none⟩ = some (.slice A2 m2 c2)) _ _ _ (w.drew) ?_
  refine wpAnyH_take (i := 0) (v := _) (by first | (simp only [List.getElem?_toArray, List.getElem?_cons_zero]; rfl) | rfl) (by kernel_rfl) (by kernel_rfl) (by kernel_rfl) (by exact fun _ _ _ h => h) (Or.inl ⟨by rfl, by (intro w hSw; (try dsimp only at hSw); go_simp; try with_reducible rfl)⟩) (by assumption) ?_
  (try dsimp only [Act.put]); (try go_frame)
  refine wpAnyH_take (i := 1) (v := _) (by first | (simp only [List.getElem?_toArray, List.getElem?_cons_zero, List.getElem?_cons_succ]; rfl) | rfl) (by kernel_rfl) (by kernel_rfl) (by kernel_rfl) (by exact fun _ _ _ h => h) (Or.inl ⟨by rfl, by (intro w hSw; (try dsimp only at hSw); go_simp; try with_reducible rfl)⟩) (by assumption) ?_
  (try dsimp only [Act.put]); (try go_frame)
  refine wpAnyH_take (i := 2) (v := _) (by first | (simp only [List.getElem?_toArray, List.getElem?_cons_zero, List.getElem?_cons_succ]; rfl) | rfl) (by kernel_rfl) (by kernel_rfl) (by kernel_rfl) (by exact fun _ _ _ h => h) (Or.inl ⟨by rfl, by (intro w hSw; (try dsimp only at hSw); go_simp; try with_reducible rfl)⟩) (by assumption) ?_
  (try dsimp only [Act.put]); (try go_frame)
  refine wpAnyH_take (i := 3) (v := _) (by first | (simp only [List.getElem?_toArray, List.getElem?_cons_zero, List.getElem?_cons_succ]; rfl) | rfl) (by kernel_rfl) (by kernel_rfl) (by kernel_rfl) (by exact fun _ _ _ h => h) (Or.inl ⟨by rfl, by (intro w hSw; (try dsimp only at hSw); go_simp; try with_reducible rfl)⟩) (by assumption) ?_
  (try dsimp only [Act.put]); (try go_frame)
  refine wpAnyH_take (i := 4) (v := _) (by first | (simp only [List.getElem?_toArray, List.getElem?_cons_zero, List.getElem?_cons_succ]; rfl) | rfl) (by kernel_rfl) (by kernel_rfl) (by kernel_rfl) (by exact fun _ _ _ h => h) (Or.inl ⟨by rfl, by (intro w hSw; (try dsimp only at hSw); go_simp; try with_reducible rfl)⟩) (by assumption) ?_
  (try dsimp only [Act.put]); (try go_frame)
  refine wpAnyH_take (i := 5) (v := _) (by first | (simp only [List.getElem?_toArray, List.getElem?_cons_zero, List.getElem?_cons_succ]; rfl) | rfl) (by kernel_rfl) (by kernel_rfl) (by kernel_rfl) (by exact fun _ _ _ h => h) (Or.inl ⟨by rfl, by (intro w hSw; (try dsimp only at hSw); go_simp; try with_reducible rfl)⟩) (by assumption) ?_
  (try dsimp only [Act.put]); (try go_frame)
  refine wpAnyH_take (i := 6) (v := _) (by first | (simp only [List.getElem?_toArray, List.getElem?_cons_zero, List.getElem?_cons_succ]; rfl) | rfl) (by kernel_rfl) (by kernel_rfl) (by kernel_rfl) (by exact fun _ _ _ h => h) (Or.inl ⟨by rfl, by (intro w hSw; (try dsimp only at hSw); go_simp; try with_reducible rfl)⟩) (by assumption) ?_
  (try dsimp only [Act.put]); (try go_frame)
  refine wpAnyH_take (i := 7) (v := _) (by first | (simp only [List.getElem?_toArray, List.getElem?_cons_zero, List.getElem?_cons_succ]; rfl) | rfl) (by kernel_rfl) (by kernel_rfl) (by kernel_rfl) (by exact fun _ _ _ h => h) (Or.inl ⟨by rfl, by (intro w hSw; (try dsimp only at hSw); go_simp; try with_reducible rfl)⟩) (by assumption) ?_
  (try dsimp only [Act.put]); (try go_frame)
  refine wpAnyH_ready (rs := [8]) (by kernel_rfl) (by simp) ?_
  refine AllReadyH.cons rfl (fun K hK => ?_) AllReadyH.nil
  go_simp
  refine (hcm w.drew D1 D2).mono ?_
  rintro r w1 ⟨A3, c3, rfl, D3, hb1⟩
  replace hb1 : Below w.heap.size w w1 := Below.undrew hb1
  have E1 := D1.below hb1
  have E2 := D2.below hb1
  have y1' := (Below.cellAt hb1 Hn.out.2.2.1 (o1 + 1)).trans y1
  have y2' := (Below.cellAt hb1 Hn.out.2.2.2 (o2 + 1)).trans y2
  have x1' := (Below.cellAt hb1 Hn.out.2.2.1 o1).trans x1
  have x2' := (Below.cellAt hb1 Hn.out.2.2.2 o2).trans x2
  refine hK.out _ _ ?_ (fun hHeld => ?_)
  · exact ⟨y1', y2'⟩
  clear hK K hcm D1 D2 y1
  (try dsimp only [Act.put]); (try go_frame)
  refine wpAnyH_take (i := 9) (v := _) (by first | (simp only [List.getElem?_toArray, List.getElem?_cons_zero, List.getElem?_cons_succ]; rfl) | rfl) (by kernel_rfl) (by kernel_rfl) (by kernel_rfl) (by exact fun _ _ _ h => h) (Or.inl ⟨by rfl, by (intro w hSw; (try dsimp only at hSw); go_simp; try with_reducible rfl)⟩) (by assumption) ?_
  (try dsimp only [Act.put]); (try go_frame)
  refine wpAnyH_done (by kernel_rfl) ?_ _
  try simp only [QCut]
  go_wp2_with fail
  refine (hov1 w1 A3 c3 E1 D3).mono ?_
  rintro r w2 ⟨A4, c4, A5, c5, rfl, D4, -, hb2⟩
  replace hb1 := hb1.trans (hb2.mono hb1.size)
  replace E2 := E2.below hb2
  replace D3 := D3.below hb2
  have y2'' := (Below.cellAt hb1 Hn.out.2.2.2 (o2 + 1)).trans y2
  have x1'' := (Below.cellAt hb1 Hn.out.2.2.1 o1).trans x1
  have x2'' := (Below.cellAt hb1 Hn.out.2.2.2 o2).trans x2
  clear y1' y2' x1' x2' hov1 E1 hb2
  go_wp2_with fail
  refine (hov2 w2 A3 c3 E2 D3).mono ?_
  rintro r w3 ⟨A6, c6, A7, c7, rfl, D6, -, hb3⟩
  replace hb1 := hb1.trans (hb3.mono hb1.size)
  replace D4 := D4.below hb3
  have x1' := (Below.cellAt hb1 Hn.out.2.2.1 o1).trans x1
  have x2' := (Below.cellAt hb1 Hn.out.2.2.2 o2).trans x2
  have hr3 := hr.below hb1
  clear y2'' x1'' x2'' hov2 E2 D3 hb3 x1 x2 y2
  go_wp2_with fail
  refine wp_region_any (by kernel_rfl) ?_
  have hHeld : (fun w' : World => w'.cell? ⟨b1, o1, none⟩ = some (.bool (sg p)) ∧ w'.cell? ⟨b2, o2, none⟩ = some (.bool (sg q))) w3.drew := ⟨x1', x2'⟩
  refine wpAny_of_held (S := fun w' : World => w'.cell? ⟨b1, o1, none⟩ = some (.bool (sg p)) ∧ w'.cell? ⟨b2, o2, none⟩ = some (.bool (sg q))) _ _ _ (w3.drew) ?_
  refine wpAnyH_take (i := 0) (v := _) (by first | (simp only [List.getElem?_toArray, List.getElem?_cons_zero]; rfl) | rfl) (by kernel_rfl) (by kernel_rfl) (by kernel_rfl) (by exact fun _ _ _ h => h) (Or.inl ⟨by rfl, by (intro w hSw; (try dsimp only at hSw); go_simp; try with_reducible rfl)⟩) (by assumption) ?_
  (try dsimp only [Act.put]); (try go_frame)
  refine wpAnyH_take (i := 1) (v := _) (by first | (simp only [List.getElem?_toArray, List.getElem?_cons_zero, List.getElem?_cons_succ]; rfl) | rfl) (by kernel_rfl) (by kernel_rfl) (by kernel_rfl) (by exact fun _ _ _ h => h) (Or.inl ⟨by rfl, by (intro w hSw; (try dsimp only at hSw); go_simp; try with_reducible rfl)⟩) (by assumption) ?_
  (try dsimp only [Act.put]); (try go_frame)
  refine wpAnyH_take (i := 2) (v := _) (by first | (simp only [List.getElem?_toArray, List.getElem?_cons_zero, List.getElem?_cons_succ]; rfl) | rfl) (by kernel_rfl) (by kernel_rfl) (by kernel_rfl) (by exact fun _ _ _ h => h) (Or.inl ⟨by rfl, by (intro w hSw; (try dsimp only at hSw); go_simp; try with_reducible rfl)⟩) (by assumption) ?_
  (try dsimp only [Act.put]); (try go_frame)
  refine wpAnyH_take (i := 3) (v := _) (by first | (simp only [List.getElem?_toArray, List.getElem?_cons_zero, List.getElem?_cons_succ]; rfl) | rfl) (by kernel_rfl) (by kernel_rfl) (by kernel_rfl) (by exact fun _ _ _ h => h) (Or.inl ⟨by rfl, by (intro w hSw; (try dsimp only at hSw); go_simp; try with_reducible rfl)⟩) (by assumption) ?_
  (try dsimp only [Act.put]); (try go_frame)
  refine wpAnyH_take (i := 4) (v := _) (by first | (simp only [List.getElem?_toArray, List.getElem?_cons_zero, List.getElem?_cons_succ]; rfl) | rfl) (by kernel_rfl) (by kernel_rfl) (by kernel_rfl) (by exact fun _ _ _ h => h) (Or.inl ⟨by rfl, by (intro w hSw; (try dsimp only at hSw); go_simp; try with_reducible rfl)⟩) (by assumption) ?_
  (try dsimp only [Act.put]); (try go_frame)
  refine wpAnyH_take (i := 5) (v := _) (by first | (simp only [List.getElem?_toArray, List.getElem?_cons_zero, List.getElem?_cons_succ]; rfl) | rfl) (by kernel_rfl) (by kernel_rfl) (by kernel_rfl) (by exact fun _ _ _ h => h) (Or.inl ⟨by rfl, by (intro w hSw; (try dsimp only at hSw); go_simp; try with_reducible rfl)⟩) (by assumption) ?_
  (try dsimp only [Act.put]); (try go_frame)
  refine wpAnyH_take (i := 6) (v := _) (by first | (simp only [List.getElem?_toArray, List.getElem?_cons_zero, List.getElem?_cons_succ]; rfl) | rfl) (by kernel_rfl) (by kernel_rfl) (by kernel_rfl) (by exact fun _ _ _ h => h) (Or.inl ⟨by rfl, by (intro w hSw; (try dsimp only at hSw); go_simp; try with_reducible rfl)⟩) (by assumption) ?_
  (try dsimp only [Act.put]); (try go_frame)
  refine wpAnyH_take (i := 7) (v := _) (by first | (simp only [List.getElem?_toArray, List.getElem?_cons_zero, List.getElem?_cons_succ]; rfl) | rfl) (by kernel_rfl) (by kernel_rfl) (by kernel_rfl) (by exact fun _ _ _ h => h) (Or.inl ⟨by rfl, by (intro w hSw; (try dsimp only at hSw); go_simp; try with_reducible rfl)⟩) (by assumption) ?_
  (try dsimp only [Act.put]); (try go_frame)
  refine wpAnyH_take (i := 8) (v := _) (by first | (simp only [List.getElem?_toArray, List.getElem?_cons_zero, List.getElem?_cons_succ]; rfl) | rfl) (by kernel_rfl) (by kernel_rfl) (by kernel_rfl) (by exact fun _ _ _ h => h) (Or.inl ⟨by rfl, by (intro w hSw; (try dsimp only at hSw); go_simp; try with_reducible rfl)⟩) (by assumption) ?_
  (try dsimp only [Act.put]); (try go_frame)
  refine wpAnyH_take (i := 9) (v := _) (by first | (simp only [List.getElem?_toArray, List.getElem?_cons_zero, List.getElem?_cons_succ]; rfl) | rfl) (by kernel_rfl) (by kernel_rfl) (by kernel_rfl) (by exact fun _ _ _ h => h) (Or.inl ⟨by rfl, by (intro w hSw; (try dsimp only at hSw); go_simp; try with_reducible rfl)⟩) (by assumption) ?_
  (try dsimp only [Act.put]); (try go_frame)
  refine wpAnyH_take (i := 10) (v := _) (by first | (simp only [List.getElem?_toArray, List.getElem?_cons_zero, List.getElem?_cons_succ]; rfl) | rfl) (by kernel_rfl) (by kernel_rfl) (by kernel_rfl) (by exact fun _ _ _ h => h) (Or.inl ⟨by rfl, by (intro w hSw; (try dsimp only at hSw); go_simp; try with_reducible rfl)⟩) (by assumption) ?_
  (try dsimp only [Act.put]); (try go_frame)
  refine wpAnyH_take (i := 11) (v := _) (by first | (simp only [List.getElem?_toArray, List.getElem?_cons_zero, List.getElem?_cons_succ]; rfl) | rfl) (by kernel_rfl) (by kernel_rfl) (by kernel_rfl) (by exact fun _ _ _ h => h) (Or.inl ⟨by rfl, by (intro w hSw; (try dsimp only at hSw); go_simp; try with_reducible rfl)⟩) (by assumption) ?_
  (try dsimp only [Act.put]); (try go_frame)
  refine wpAnyH_take (i := 12) (v := _) (by first | (simp only [List.getElem?_toArray, List.getElem?_cons_zero, List.getElem?_cons_succ]; rfl) | rfl) (by kernel_rfl) (by kernel_rfl) (by kernel_rfl) (by exact fun _ _ _ h => h) (Or.inl ⟨by rfl, by (intro w hSw; (try dsimp only at hSw); go_simp; try with_reducible rfl)⟩) (by assumption) ?_
  (try dsimp only [Act.put]); (try go_frame)
  refine wpAnyH_ready (rs := [13]) (by kernel_rfl) (by simp) ?_
  refine AllReadyH.cons rfl (fun K hK => ?_) AllReadyH.nil
  go_simp
  refine (laid_int b 0 _ A4 _ c4 (p.natAbs / G) w3.drew hr3.1 HE.out.2.2.1 D4).mono ?_
  rintro r w4 ⟨rfl, I4, B4⟩
  replace B4 : But w3 w4 b 0 := But.undrew B4
  have D6' : Dig w4 A6 _ c6 _ := D6.but B4
  have x1'' := (B4.toFar.cellAt (Nat.lt_of_lt_of_le Hn.out.2.2.1 hb1.size) Hn.out.1 o1).trans x1'
  have x2'' := (B4.toFar.cellAt (Nat.lt_of_lt_of_le Hn.out.2.2.2 hb1.size) Hn.out.2.1 o2).trans x2'
  have R4 : Room w4 b 2 := hr3.2.but B4
  refine hK.out _ _ ?_ (fun hHeld => ?_)
  · exact ⟨x1'', x2''⟩
  clear hK K x1' x2' x1'' x2'' D4
  (try dsimp only [Act.put]); (try go_frame)
  refine wpAnyH_done (by kernel_rfl) ?_ _
  try simp only [QCut]
  go_wp2_with fail
  refine (laid_int b 2 false A6 _ c6 (q.natAbs / G) w4 R4 HE.out.2.2.2 D6').mono ?_
  rintro r w5 ⟨rfl, I5, B5⟩
  have I4' := I4.but B5 (.inr ⟨by decide, by decide, by decide⟩)
  have hF : Far w w5 b := Far.after hb1 (B4.toFar.trans B5.toFar) hr
  clear hr3 hb1 B4 B5 I4 D6 D6' R4
  go_wp2
  go_ret
  refine ⟨rfl, ⟨?_, ?_⟩, hF⟩
  · rw [← HE.out.1]; exact I4'
  · rw [← HE.out.2.1]; exact I5
end Go.Proofs.YtbhfnigblhfikaaGreat
