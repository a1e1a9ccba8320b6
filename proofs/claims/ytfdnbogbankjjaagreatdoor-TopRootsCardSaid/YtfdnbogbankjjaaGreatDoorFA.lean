/- Merged: F8 F9 FA -/
import Derived.Test.YtfdnbogbankjjaaGreatDoorF5
import Derived.Deep.LoopGhost

/- Slices of complex numbers and of balls; poly.Check, all, at, steep. -/
namespace Go.Proofs.YtfdnbogbankjjaaGreatDoor
open Go Go.RowKit Go.PlainAid Fil

/-- a slice (own from block B on) whose elements are worth L -/
def PL (B : Nat) (w : World) (v : Value) (L : List CV) : Prop :=
 ∃ ps : List (Nat × Nat), w.ownsRow B 27 1 v L.length (ps.map fun p => Value.complex .f64 p.1 p.2) ∧ ps.length = L.length ∧ ∀ i (h : i < L.length) (h' : i < ps.length), Fl ps[i].1 L[i].1 ∧ Fl ps[i].2 L[i].2
theorem PL.nil (B : Nat) (w : World) : PL B w (.slice none 0 0) [] := ⟨[], World.ownsRow_nil _ _ _ _, rfl, fun i h => absurd h (by simp)⟩
theorem PL.mono {B C : Nat} {w : World} {v : Value} {L : List CV} (h : PL B w v L) (hc : C ≤ B) : PL C w v L := by
 obtain ⟨ps, ⟨h1, h2⟩, h3⟩ := h
 refine ⟨ps, ⟨h1, ?_⟩, h3⟩
 rcases h2 with h2 | ⟨g, cap, cur, e, hb, r⟩
 ·exact .inl h2
 ·exact .inr ⟨g, cap, cur, e, Nat.le_trans hc hb, r⟩
theorem owns_below {w w' : World} {B e s n : Nat} {v : Value} {xs : List Value} (h : w.ownsRow B e s v n xs) (hb : Below w.heap.size w w') : w'.ownsRow B e s v n xs := by
 obtain ⟨h1, h2⟩ := h
 refine ⟨h1, ?_⟩
 rcases h2 with h2 | ⟨g, cap, cur, e, hB, hg, r⟩
 ·exact .inl h2
 ·exact .inr ⟨g, cap, cur, e, hB, (hb.block g (lt_of_block hg)).trans hg, r⟩
theorem PL.keep {B : Nat} {w w' : World} {v : Value} {L : List CV} (h : PL B w v L) (hb : Below w.heap.size w w') : PL B w' v L := by
 obtain ⟨ps, h1, h2⟩ := h
 exact ⟨ps, owns_below h1 hb, h2⟩
theorem PL.slc {B : Nat} {w : World} {v : Value} {L : List CV} (h : PL B w v L) : ∃ a c, v = .slice a L.length c ∧ L.length ≤ c ∧ c ≤ maxLen := by
 obtain ⟨ps, ⟨_, h2⟩, _⟩ := h
 rcases h2 with ⟨rfl, h0⟩ | ⟨g, cap, cur, rfl, hB, hg, h3, h4, _⟩
 ·rw [h0]; exact ⟨_, _, rfl, Nat.le_refl _, Nat.zero_le _⟩
 ·exact ⟨_, _, rfl, h3, h4⟩
theorem PL.get {B : Nat} {w : World} {a : Option Addr} {n c : Nat} {L : List CV} (h : PL B w (.slice a n c) L) (i : Nat) (hi : i < L.length) :
  ∃ b x y, a = some ⟨b, 0, none⟩ ∧ B ≤ b ∧ b < w.heap.size ∧ w.cell? ⟨b, i, none⟩ = some (.complex .f64 x y) ∧ Fl x L[i].1 ∧ Fl y L[i].2 := by
 obtain ⟨ps, ⟨h1, h2⟩, h3, h4⟩ := h
 rcases h2 with ⟨_, h0⟩ | ⟨g, cap, cur, e, hB, hg, h5, h6, h7, h8⟩
 ·omega
 ·cases e
  have hp : i < ps.length := by omega
  refine ⟨g, ps[i].1, ps[i].2, rfl, hB, lt_of_block hg, ?_, h4 i hi hp⟩
  have e1 : (cur.toList.take (L.length * 1))[i]? = (ps.map fun p => Value.complex .f64 p.1 p.2)[i]? := by rw [h8]
  rw [List.getElem?_take_of_lt (by omega), List.getElem?_map, List.getElem?_eq_getElem hp] at e1
  have e2 : cur[i]? = some (.complex .f64 ps[i].1 ps[i].2) := by rw [← Array.getElem?_toList]; exact e1
  simp [World.cell?, hg, e2]
theorem c_pyCheck {B : Nat} {v : Value} {L : List CV} (w : World) (h : PL B w v L) (h0 : 0 < L.length) (hn : L.length ≤ 17) (hf : ∀ i (hi : i < L.length), pFin L[i] = true) (hl : ∀ hi : L.length - 1 < L.length, pZero L[L.length - 1] = false) :
  Calls Tryz.prog 60 #[v] w fun r w' => r = .returned (.int .i64 0) ∧ Below w.heap.size w w' := by
 obtain ⟨a, c, rfl, hc, hm⟩ := h.slc
 obtain ⟨b, x, y, rfl, _, hb, hcell, hx, hy⟩ := h.get (L.length - 1) (by omega)
 have hz := fun W => c_pyzero W hx hy
 rw [show (L[L.length - 1].1, L[L.length - 1].2) = L[L.length - 1] from rfl, hl (by omega)] at hz
 obtain ⟨n, en⟩ : ∃ n, n = L.length := ⟨_, rfl⟩
 have HF := Lib.hid (And.intro en (And.intro hf (And.intro h hl)))
 rw [← en] at h0 hn hc hcell ⊢
 clear hf hl h hx hy en
 have B0 := Below.refl w.heap.size w
 go_enter Tryz.func60, Tryz.ntmps60
 go_wp2_with fail
 refine (hz _).mono ?_
 rintro r w1 ⟨rfl, hb1⟩
 replace B0 := B0.trans (hb1.mono B0.size)
 clear hb1 hz
 go_wp2
 go_loopg [24] n (fun g s24 wr => ∃ k : Nat, k ≤ n ∧ g = n - k ∧ s24 = .int .i64 k ∧ Below w.heap.size w wr)
 case atStart => exact ⟨0, by omega, by omega, rfl, B0⟩
 case round =>
  obtain ⟨k, hk, hg, rfl, hbel⟩ := hrel
  by_cases hkn : k < n
  ·obtain ⟨en, hf, h, _⟩ := HF.out
   obtain ⟨b', x, y, e, _, hb', hcell, hx, hy⟩ := (h.keep hbel).get k (by omega)
   cases e
   have hz := fun W => c_pyfinite W hx hy
   rw [show (L[k].1, L[k].2) = L[k] from rfl, hf k (by omega)] at hz
   have HG := Lib.hid hg
   clear en hf h hx hy hg
   go_wp2_with fail
   refine (hz _).mono ?_
   rintro r w2 ⟨rfl, hb1⟩
   replace hbel := hbel.trans (hb1.mono hbel.size)
   clear hb1 hz
   go_wp2
   go_roundg (n - (k + 1))
   case measure => have := HG.out; omega
   case rel => exact ⟨k + 1, by omega, rfl, by go_num, hbel⟩
  ·obtain rfl : k = n := by omega
   go_wp2
   go_ret
   exact ⟨rfl, hbel⟩
end Go.Proofs.YtfdnbogbankjjaaGreatDoor

/- poly.all, roots.may; poly.walk over complex numbers, at, At. -/
namespace Go.Proofs.YtfdnbogbankjjaaGreatDoor
open Go Go.RowKit Go.PlainAid Fil

/-- a polynomial that may be, and is not 0 -/
structure GP (L : List CV) : Prop where
 pos : 0 < L.length
 len : L.length ≤ 17
 fin : ∀ i (hi : i < L.length), pFin L[i] = true
 lead : ∀ hi : L.length - 1 < L.length, pZero L[L.length - 1] = false
theorem below_cell {w w' : World} (h : Below w.heap.size w w') {b o : Nat} {v : Value} (hc : w.cell? ⟨b, o, none⟩ = some v) : w'.cell? ⟨b, o, none⟩ = some v :=
 (World.cell?_of_block (h.block b (World.block_lt_of_cell? w _ hc))).trans hc
theorem c_pyall {B g : Nat} {v : Value} {L : List CV} (w : World) (h : PL B w v L) (G : GP L) (hg : w.cell? ⟨g, 0, none⟩ = some v) :
  Calls Tryz.prog 62 #[.slice (some ⟨g, 0, none⟩) 1 1] w fun r w' => r = .returned (.bool true) ∧ Below w.heap.size w w' := by
 have B0 := Below.refl w.heap.size w
 go_enter Tryz.func62, Tryz.ntmps62
 go_wp2
 go_loopg [7] 1 (fun g s7 wr => ∃ k : Nat, k ≤ 1 ∧ g = 1 - k ∧ s7 = .int .i64 k ∧ Below w.heap.size w wr)
 case atStart => exact ⟨0, by omega, by omega, rfl, B0⟩
 case round =>
  obtain ⟨k, hk, hgg, rfl, hbel⟩ := hrel
  rcases (show k = 0 ∨ k = 1 by omega) with rfl | rfl
  ·have hcell := below_cell hbel hg
   have hz := fun W hW => c_pyCheck W (PL.keep h hW) G.pos G.len G.fin G.lead
   have HG := Lib.hid (And.intro hgg (And.intro h G))
   clear hgg G h
   obtain ⟨a, c, rfl, _⟩ := HG.out.2.1.slc
   go_wp2_with fail
   refine (hz _ hbel).mono ?_
   rintro r w2 ⟨rfl, hb1⟩
   replace hbel := hbel.trans (hb1.mono hbel.size)
   clear hb1 hz
   go_wp2
   go_roundg 0
   case measure => have := HG.out.1; omega
   case rel => exact ⟨1, by omega, rfl, by go_num, hbel⟩
  ·go_wp2
   go_ret
   exact ⟨rfl, hbel⟩
theorem c_rtmay {B : Nat} {v : Value} {L : List CV} (w : World) (h : PL B w v L) (G : GP L) :
  Calls Tryz.prog 24 #[v] w fun r w' => r = .returned (.bool true) ∧ Below w.heap.size w w' := by
 have B0 := Below.refl w.heap.size w
 have hz := fun W hW => c_pyCheck W (PL.keep h hW) G.pos G.len G.fin G.lead
 obtain ⟨a, c, rfl, hc, hm⟩ := h.slc
 have h0 := G.pos
 have hn := G.len
 clear h G
 go_enter Tryz.func24, Tryz.ntmps24
 go_wp2_with fail
 refine (hz _ B0).mono ?_
 rintro r w2 ⟨rfl, hb1⟩
 replace B0 := B0.trans (hb1.mono B0.size)
 clear hb1 hz
 go_wp2
 go_ret
 exact ⟨by simp, B0⟩
def atF : List CV → CV → CV
 | [], _ => (some 0, some 0)
 | [c], _ => c
 | c :: d :: l, z => cAdd (cMul (atF (d :: l) z) z) c
theorem atF_step {L : List CV} (Z : CV) {i : Nat} (hi : i + 1 < L.length) : atF (L.drop i) Z = cAdd (cMul (atF (L.drop (i + 1)) Z) Z) L[i] := by
 rw [List.drop_eq_getElem_cons (show i < L.length by omega)]
 rw [List.drop_eq_getElem_cons hi]
 rfl
theorem atF_last {L : List CV} (Z : CV) {i : Nat} (hi : i + 1 = L.length) : atF (L.drop i) Z = L[i] := by
 rw [List.drop_eq_getElem_cons (show i < L.length by omega), List.drop_eq_nil_of_le (by omega)]
 rfl
theorem c_pyatC1 {x y : Nat} (w : World) : Calls Tryz.prog 104 #[.complex .f64 x y] w fun r w' => r = .returned (.complex .f64 x y) ∧ Below w.heap.size w w' := by
 have B0 := Below.refl w.heap.size w
 go_enter Tryz.func104, Tryz.ntmps104
 go_wp2
 go_ret
 exact ⟨rfl, B0⟩
theorem c_pyatC2 {x y u v a b g : Nat} {X Y U V A B : FV} (w : World) (hx : Fl x X) (hy : Fl y Y) (hu : Fl u U) (hv : Fl v V) (ha : Fl a A) (hb : Fl b B) (hg : w.cell? ⟨g, 0, none⟩ = some (.complex .f64 a b)) :
  Calls Tryz.prog 105 #[.complex .f64 x y, .complex .f64 u v, .pointer (some ⟨g, 0, none⟩)] w fun r w' => (∃ z y, r = .returned (.complex .f64 z y) ∧ Fl z (cAdd (cMul (X, Y) (A, B)) (U, V)).1 ∧ Fl y (cAdd (cMul (X, Y) (A, B)) (U, V)).2) ∧ Below w.heap.size w w' := by
 have B0 := Below.refl w.heap.size w
 go_enter Tryz.func105, Tryz.ntmps105
 go_wp2_with fail
 refine (c_cxMul _ hx hy ha hb).mono ?_
 rintro r w1 ⟨⟨z1, y1, rfl, a1, b1⟩, hb1⟩
 replace B0 := B0.trans (hb1.mono B0.size)
 clear hb1
 go_wp2_with fail
 refine (c_cxAdd _ a1 b1 hu hv).mono ?_
 rintro r w2 ⟨⟨z2, y2, rfl, a2, b2⟩, hb1⟩
 replace B0 := B0.trans (hb1.mono B0.size)
 clear hb1
 go_wp2
 go_ret
 exact ⟨⟨_, _, rfl, a2, b2⟩, B0⟩
theorem c_pywalkC {B : Nat} {v : Value} {L : List CV} {a b g : Nat} {Z : CV} (w : World) (h : PL B w v L) (h0 : 0 < L.length) (hn : L.length ≤ 17) (ha : Fl a Z.1) (hb : Fl b Z.2) (hg : w.cell? ⟨g, 0, none⟩ = some (.complex .f64 a b)) :
  Calls Tryz.prog 103 #[v, .complex .f64 0 0, .func (.func 104) #[] #[], .func (.func 105) #[] #[.pointer (some ⟨g, 0, none⟩)]] w fun r w' => (∃ z y, r = .returned (.complex .f64 z y) ∧ Fl z (atF L Z).1 ∧ Fl y (atF L Z).2) ∧ Below w.heap.size w w' := by
 obtain ⟨a', c, rfl, hc, hm⟩ := h.slc
 obtain ⟨n, en⟩ : ∃ n, n + 1 = L.length := ⟨L.length - 1, by omega⟩
 obtain ⟨b', x, y, rfl, _, hb', hcell, hx, hy⟩ := h.get n (by omega)
 have HF := Lib.hid (And.intro en h)
 rw [← en] at h0 hn hc ⊢
 have hst : Fl x (atF (L.drop n) Z).1 ∧ Fl y (atF (L.drop n) Z).2 := by rw [atF_last Z en]; exact ⟨hx, hy⟩
 clear h hx hy en
 have B0 := Below.refl w.heap.size w
 have hC1 := fun W => c_pyatC1 (x := x) (y := y) W
 go_enter Tryz.func103, Tryz.ntmps103
 go_wp2_with fail
 refine (hC1 _).mono ?_
 rintro r w1 ⟨rfl, hb1⟩
 replace B0 := B0.trans (hb1.mono B0.size)
 clear hb1 hC1
 go_wp2
 go_loopg [9, 10] n (fun m s9 s10 wr => ∃ j x y : Nat, j ≤ n ∧ m = j ∧ s10 = .int .i64 ((j : Int) - 1) ∧ s9 = .complex .f64 x y ∧ Fl x (atF (L.drop j) Z).1 ∧ Fl y (atF (L.drop j) Z).2 ∧ Below w.heap.size w wr)
 case atStart => exact ⟨n, x, y, by omega, rfl, by go_num, rfl, hst.1, hst.2, B0⟩
 case round =>
  obtain ⟨j, x, y, hj, hmj, rfl, rfl, hx, hy, hbel⟩ := hrel
  by_cases hj0 : j = 0
  ·subst hj0
   go_wp2
   go_ret
   exact ⟨⟨_, _, rfl, hx, hy⟩, hbel⟩
  ·obtain ⟨i, rfl⟩ : ∃ i, j = i + 1 := ⟨j - 1, by omega⟩
   obtain ⟨en, h⟩ := HF.out
   have hiL : i < L.length := by omega
   obtain ⟨b'', u, v, e, _, hb'', hcell, hu, hv⟩ := (h.keep hbel).get i hiL
   cases e
   have hcl := below_cell hbel hg
   have hz := fun W hW => c_pyatC2 W hx hy hu hv ha hb (below_cell hW hcl)
   have hi1 : i + 1 < L.length := by omega
   have he := atF_step Z hi1
   clear en h hx hy hu hv
   go_wp2_with fail
   refine (hz _ (Below.refl _ _)).mono ?_
   rintro r w2 ⟨⟨z2, y2, rfl, a2, b2⟩, hb1⟩
   replace hbel := hbel.trans (hb1.mono hbel.size)
   clear hb1 hz
   go_wp2
   go_roundg i
   case measure => omega
   case rel => exact ⟨i, _, _, by omega, rfl, by go_num, rfl, by rw [he]; exact a2, by rw [he]; exact b2, hbel⟩
theorem c_pyat {B : Nat} {v : Value} {L : List CV} {a b : Nat} {Z : CV} (w : World) (h : PL B w v L) (h0 : 0 < L.length) (hn : L.length ≤ 17) (ha : Fl a Z.1) (hb : Fl b Z.2) :
  Calls Tryz.prog 63 #[v, .complex .f64 a b] w fun r w' => (∃ z y, r = .returned (.complex .f64 z y) ∧ Fl z (atF L Z).1 ∧ Fl y (atF L Z).2) ∧ Below w.heap.size w w' := by
 have B0 := Below.refl w.heap.size w
 have hst2 := fun (a : Addr) (u v : Nat) (m : Mode) (W : World) => (run_store Tryz.prog W a (.complex .f64 u v) m rfl : (store a (.complex .f64 u v) m).run Tryz.prog W = stored Tryz.prog W a (.complex .f64 u v) m)
 have F3 := Blk.put w #[.complex .f64 a b] 27
 have hp := h.keep (B0.alloc B0.size (.cells #[.complex .f64 a b] 27))
 replace B0 := B0.alloc B0.size (.cells #[.complex .f64 a b] 27)
 have hcell := F3.ce1
 obtain ⟨a', c, rfl, hc, hm⟩ := h.slc
 have hz := c_pywalkC _ hp h0 hn ha hb hcell
 clear h
 go_enter Tryz.func63, Tryz.ntmps63
 go_wp2_with fail
 refine hz.mono ?_
 rintro r w2 ⟨⟨z2, y2, rfl, a2, b2⟩, hb1⟩
 replace B0 := B0.trans (hb1.mono B0.size)
 clear hb1 hz
 go_wp2
 go_ret
 exact ⟨⟨_, _, rfl, a2, b2⟩, B0⟩
end Go.Proofs.YtfdnbogbankjjaaGreatDoor

/- poly.steep, points: slices built by append. -/
namespace Go.Proofs.YtfdnbogbankjjaaGreatDoor
open Go Go.RowKit Go.PlainAid Fil

theorem Tryz.info27 : (Tryz.prog.info? 27).map (fun i => (i.zero, i.size, i.bytes)) = some (some (.complex .f64 0 0), 1, 16) := by kernel_rfl
theorem Tryz.info32 : (Tryz.prog.info? 32).map (fun i => (i.zero, i.size, i.bytes)) = some (some (.agg #[.complex .f64 0 0, .float .f64 0]), 2, 24) := by kernel_rfl
theorem PL.push {B : Nat} {w : World} {v : Value} {L : List CV} {ps : List (Nat × Nat)} {x y : Nat} {Z : CV} (h : w.ownsRow B 27 1 v (L.length + 1) ((ps.map fun p => Value.complex .f64 p.1 p.2) ++ [.complex .f64 x y]))
  (hl : ps.length = L.length) (hp : ∀ i (h : i < L.length) (h' : i < ps.length), Fl ps[i].1 L[i].1 ∧ Fl ps[i].2 L[i].2) (hx : Fl x Z.1) (hy : Fl y Z.2) : PL B w v (L ++ [Z]) := by
 refine ⟨ps ++ [(x, y)], ?_, by simp [hl], ?_⟩
 ·rw [List.length_append, List.map_append]; exact h
 ·intro i h1 h2
  by_cases hi : i < L.length
  ·rw [List.getElem_append_left hi, List.getElem_append_left (by omega)]
   exact hp i hi (by omega)
  ·have e : i = L.length := by simp at h1; omega
   subst e
   rw [List.getElem_append_right (Nat.le_refl _), List.getElem_append_right (by omega)]
   simp only [hl, Nat.sub_self, List.getElem_cons_zero]
   exact ⟨hx, hy⟩
def fint (k : Nat) : FV := some (floatOfInt .f64 k)
theorem fint_fl (k : Nat) : Fl (floatOfInt .f64 (k : Int)) (fint k) := by
 have e : floatOfInt .f64 (k : Int) = Ieee.double.write (.number (decide ((k : Int) < 0)) (k : Int).natAbs 0) := rfl
 unfold fint
 rw [e]
 exact fl_some (Nat.lt_of_lt_of_le (Ieee.Format.write_lt Ieee.double _) (by decide)) (write_fr _ rfl)
def C00 : CV := (some 0, some 0)
def stF (L : List CV) : List CV := (List.range (L.length - 1)).map fun j => cScale (L.getD (j + 1) C00) (fint (j + 1))
theorem getD_get {L : List CV} {i : Nat} (h : i < L.length) : L.getD i C00 = L[i] := by simp [List.getD, List.getElem?_eq_getElem h]
theorem len_range {α : Type} (f : Nat → α) (n : Nat) : ((List.range n).map f).length = n := by simp
set_option maxRecDepth 100000 in
set_option maxHeartbeats 2000000 in
theorem c_pysteep {B : Nat} {v : Value} {L : List CV} (w : World) (h : PL B w v L) (h0 : 0 < L.length) (hn : L.length ≤ 17) :
  Calls Tryz.prog 64 #[v] w fun r w' => (∃ v', r = .returned v' ∧ PL w.heap.size w' v' (stF L)) ∧ Below w.heap.size w w' := by
 obtain ⟨i0, hi, hp⟩ := Option.map_eq_some_iff.1 Tryz.info27
 have hz0 : i0.zero = some (.complex .f64 0 0) := congrArg Prod.fst hp
 have hz1 : i0.size = 1 := congrArg (fun q => q.2.1) hp
 have hz2 : i0.bytes = 16 := congrArg (fun q => q.2.2) hp
 obtain ⟨a', c, rfl, hc, hm⟩ := h.slc
 obtain ⟨n, en⟩ : ∃ n, n = L.length := ⟨_, rfl⟩
 have HF := Lib.hid (And.intro en h)
 rw [← en] at h0 hn hc ⊢
 clear h en hp
 have B0 := Below.refl w.heap.size w
 go_enter Tryz.func64, Tryz.ntmps64
 go_wp2
 go_loopg [3, 4] (n - 1) (fun g s3 s4 wr => ∃ k : Nat, k + 1 ≤ n ∧ g = n - 1 - k ∧ s4 = .int .i64 ((k : Int) + 1) ∧ PL w.heap.size wr s3 ((List.range k).map fun j => cScale (L.getD (j + 1) C00) (fint (j + 1))) ∧ Below w.heap.size w wr)
 case atStart => exact ⟨0, by omega, by omega, rfl, PL.nil _ _, B0⟩
 case round =>
  obtain ⟨k, hk, hg, rfl, hpl, hbel⟩ := hrel
  by_cases hkn : k + 1 < n
  ·obtain ⟨en, h⟩ := HF.out
   have hkL : k + 1 < L.length := by omega
   obtain ⟨b', x, y, e, _, hb', hcell, hx, hy⟩ := (h.keep hbel).get (k + 1) hkL
   cases e
   have hfk : Fl (floatOfInt .f64 ((k : Int) + 1)) (fint (k + 1)) := fint_fl (k + 1)
   have hz := fun W => c_cxScale W hx hy hfk
   rw [show (L[k + 1].1, L[k + 1].2) = L.getD (k + 1) C00 from (getD_get hkL).symm] at hz
   have HG := Lib.hid (And.intro hg en)
   clear hg en h hx hy hfk
   go_wp2_with fail
   refine (hz _).mono ?_
   rintro r w2 ⟨⟨z2, y2, rfl, a2, b2⟩, hb1⟩
   replace hpl := hpl.keep hb1
   replace hbel := hbel.trans (hb1.mono hbel.size)
   clear hb1 hz
   obtain ⟨ps, hown, hlen, hps⟩ := hpl
   rw [len_range] at hown
   have HP := Lib.hid (And.intro hlen (And.intro hps (And.intro a2 b2)))
   have hbz := hbel.size
   clear hlen hps a2 b2
   go_wp2_with (at_builtin; refine wpList_append_own _ rfl _ _ 28 rfl w.heap.size 27 i0 (.complex .f64 0 0) 1 16 Tryz.underlying28 hi hz0 hz1 hz2 rfl (by decide) _ _ _ rfl (by exact hown.alloc _) ⟨w2.heap.size, 0, none⟩ 1 1 [.complex .f64 z2 y2] rfl rfl ?c1 ?c2 ?c3 ?c4 ?c5 ?_)
   case c1 =>
    intro j u hj
    match j, hj with
    | 0, hj => simp at hj; subst hj; simp [Addr.add]
   case c2 => intro u hu; simp at hu; subst hu; rfl
   case c3 => unfold maxLen; omega
   case c4 => omega
   case c5 => simp; omega
   ·intro v' w3 hown' hgrow _
    obtain ⟨hlen, hps, a2, b2⟩ := HP.out
    have hb1 := (hbel.alloc hbz (Obj.cells #[Value.complex FloatKind.f64 z2 y2] 27)).grown hgrow (by simp; omega) (fun k hk => (hown.lt k hk).1)
    have hq : PL w.heap.size w3 v' ((List.range (k + 1)).map fun j => cScale (L.getD (j + 1) C00) (fint (j + 1))) := by
     rw [List.range_succ, List.map_append]
     exact PL.push (by rw [len_range]; exact hown') hlen hps a2 b2
    clear hown hown' hgrow hps a2 b2
    go_wp2
    go_roundg (n - 1 - (k + 1))
    case measure => have := HG.out.1; omega
    case rel => exact ⟨k + 1, by omega, rfl, by go_num, hq, hb1⟩
  ·obtain rfl : n = k + 1 := by omega
   go_wp2
   go_ret
   refine ⟨⟨_, rfl, ?_⟩, hbel⟩
   have e : stF L = (List.range k).map fun j => cScale (L.getD (j + 1) C00) (fint (j + 1)) := by unfold stF; rw [← HF.out.1]; rfl
   rw [e]
   exact hpl
end Go.Proofs.YtfdnbogbankjjaaGreatDoor
