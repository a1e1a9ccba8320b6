/- Merged: FC FB FD -/
import Derived.Test.YtfdnbogbankjjaaGreatDoorFA
import Derived.Test.YtfdnbogbankjjaaGreatDoorF7

/- Slices of balls; poly.points. -/
namespace Go.Proofs.YtfdnbogbankjjaaGreatDoor
open Go Go.RowKit Go.PlainAid Fil

def BPv (p : Nat × Nat × Nat) : List Value := [.complex .f64 p.1 p.2.1, .float .f64 p.2.2]
theorem flat_get : ∀ (ps : List (Nat × Nat × Nat)) (i : Nat) (h : i < ps.length), (ps.flatMap BPv)[i * 2]? = some (.complex .f64 ps[i].1 ps[i].2.1) ∧ (ps.flatMap BPv)[i * 2 + 1]? = some (.float .f64 ps[i].2.2)
 | p :: ps, 0, _ => ⟨rfl, rfl⟩
 | p :: ps, i + 1, h => by
  have ih := flat_get ps i (by simpa using h)
  have e : (p :: ps).flatMap BPv = .complex .f64 p.1 p.2.1 :: .float .f64 p.2.2 :: ps.flatMap BPv := rfl
  rw [e, show (i + 1) * 2 = i * 2 + 1 + 1 by omega, List.getElem?_cons_succ, List.getElem?_cons_succ, List.getElem?_cons_succ, List.getElem?_cons_succ]
  exact ih
/-- some cells of a block -/
def El (w : World) (b o : Nat) (cs : Array Value) : Prop := b < w.heap.size ∧ ∀ i (h : i < cs.size), w.cell? ⟨b, o + i, none⟩ = some cs[i]
theorem El.lt {w : World} {b o : Nat} {cs : Array Value} (h : El w b o cs) : b < w.heap.size := h.1
theorem El.keep {w w' : World} {b o : Nat} {cs : Array Value} (h : El w b o cs) (hb : Below w.heap.size w w') : El w' b o cs := ⟨Nat.lt_of_lt_of_le h.1 hb.size, fun i hi => below_cell hb (h.2 i hi)⟩
theorem El.allocd {w : World} {b o : Nat} {cs : Array Value} (h : El w b o cs) (ob : Obj) : El (w.alloc ob) b o cs := h.keep ((Below.refl _ _).alloc (Nat.le_refl _) _)
theorem El.drew {w : World} {b o : Nat} {cs : Array Value} (h : El w b o cs) : El w.drew b o cs := h
theorem El.far {w : World} {b o : Nat} {cs : Array Value} (h : El w b o cs) {b' : Nat} (p : Nat) (v : Value) (hne : b ≠ b') : El (w.setCell ⟨b', p, none⟩ v) b o cs := by
 have e : (w.setCell ⟨b', p, none⟩ v).heap[b]? = w.heap[b]? := Below.heap_setCell _ _ _ _ hne
 obtain ⟨x, hx⟩ : ∃ x, w.heap[b]? = some x := ⟨_, Array.getElem?_eq_getElem h.1⟩
 exact ⟨lt_of_block (e.trans hx), fun i hi => (World.cell?_of_block (a := ⟨b, o + i, none⟩) e).trans (h.2 i hi)⟩
theorem El.ce1 {w : World} {b o : Nat} {v0 : Value} (h : El w b o #[v0]) : w.cell? ⟨b, o, none⟩ = some v0 := h.2 0 (by simp)
theorem El.ce2 {w : World} {b o : Nat} {v0 v1 : Value} (h : El w b o #[v0, v1]) : w.cell? ⟨b, o, none⟩ = some v0 ∧ w.cell? ⟨b, o + 1, none⟩ = some v1 := ⟨h.2 0 (by simp), h.2 1 (by simp)⟩
/-- a slice of balls -/
def BS (B : Nat) (w : World) (v : Value) (L : List BV) : Prop :=
 ∃ ps : List (Nat × Nat × Nat), w.ownsRow B 32 2 v L.length (ps.flatMap BPv) ∧ ps.length = L.length ∧ ∀ i (h : i < L.length) (h' : i < ps.length), Fl ps[i].1 L[i].1.1 ∧ Fl ps[i].2.1 L[i].1.2 ∧ Fl ps[i].2.2 L[i].2
theorem BS.nil (B : Nat) (w : World) : BS B w (.slice none 0 0) [] := ⟨[], World.ownsRow_nil _ _ _ _, rfl, fun i h => absurd h (by simp)⟩
theorem BS.keep {B : Nat} {w w' : World} {v : Value} {L : List BV} (h : BS B w v L) (hb : Below w.heap.size w w') : BS B w' v L := by
 obtain ⟨ps, h1, h2⟩ := h
 exact ⟨ps, owns_below h1 hb, h2⟩
theorem BS.slc {B : Nat} {w : World} {v : Value} {L : List BV} (h : BS B w v L) : ∃ a c, v = .slice a L.length c ∧ L.length ≤ c ∧ c ≤ maxLen := by
 obtain ⟨ps, ⟨_, h2⟩, _⟩ := h
 rcases h2 with ⟨rfl, h0⟩ | ⟨g, cap, cur, rfl, hB, hg, h3, h4, _⟩
 ·rw [h0]; exact ⟨_, _, rfl, Nat.le_refl _, Nat.zero_le _⟩
 ·exact ⟨_, _, rfl, h3, h4⟩
theorem BS.get {B : Nat} {w : World} {a : Option Addr} {n c : Nat} {L : List BV} (h : BS B w (.slice a n c) L) (i : Nat) (hi : i < L.length) :
  ∃ b x y r, a = some ⟨b, 0, none⟩ ∧ B ≤ b ∧ El w b (i * 2) #[.complex .f64 x y, .float .f64 r] ∧ Fl x L[i].1.1 ∧ Fl y L[i].1.2 ∧ Fl r L[i].2 := by
 obtain ⟨ps, ⟨h1, h2⟩, h3, h4⟩ := h
 rcases h2 with ⟨_, h0⟩ | ⟨g, cap, cur, e, hB, hg, h5, h6, h7, h8⟩
 ·omega
 ·cases e
  have hp : i < ps.length := by omega
  refine ⟨g, ps[i].1, ps[i].2.1, ps[i].2.2, rfl, hB, ⟨lt_of_block hg, ?_⟩, h4 i hi hp⟩
  obtain ⟨f1, f2⟩ := flat_get ps i hp
  have key : ∀ j u, j < L.length * 2 → (ps.flatMap BPv)[j]? = some u → w.cell? ⟨g, j, none⟩ = some u := by
   intro j u hj hu
   rw [← h8, List.getElem?_take_of_lt hj] at hu
   have e2 : cur[j]? = some u := by rw [← Array.getElem?_toList]; exact hu
   simp [World.cell?, hg, e2]
  intro j hj
  match j, hj with
  | 0, _ => exact key _ _ (by omega) f1
  | 1, _ => exact key _ _ (by omega) f2
theorem BS.push {B : Nat} {w : World} {v : Value} {L : List BV} {ps : List (Nat × Nat × Nat)} {x y r : Nat} {Z : BV} (h : w.ownsRow B 32 2 v (L.length + 1) (ps.flatMap BPv ++ [.complex .f64 x y, .float .f64 r]))
  (hl : ps.length = L.length) (hp : ∀ i (h : i < L.length) (h' : i < ps.length), Fl ps[i].1 L[i].1.1 ∧ Fl ps[i].2.1 L[i].1.2 ∧ Fl ps[i].2.2 L[i].2) (hx : Fl x Z.1.1) (hy : Fl y Z.1.2) (hr : Fl r Z.2) : BS B w v (L ++ [Z]) := by
 refine ⟨ps ++ [(x, y, r)], ?_, by simp [hl], ?_⟩
 ·rw [List.length_append, List.flatMap_append]; exact h
 ·intro i h1 h2
  by_cases hi : i < L.length
  ·rw [List.getElem_append_left hi, List.getElem_append_left (by omega)]
   exact hp i hi (by omega)
  ·have e : i = L.length := by simp at h1; omega
   subst e
   rw [List.getElem_append_right (Nat.le_refl _), List.getElem_append_right (by omega)]
   simp only [hl, Nat.sub_self, List.getElem_cons_zero]
   exact ⟨hx, hy, hr⟩
set_option maxRecDepth 100000 in
set_option maxHeartbeats 2000000 in
theorem c_pypoints {B : Nat} {v : Value} {L : List CV} (w : World) (h : PL B w v L) (hn : L.length ≤ 17) :
  Calls Tryz.prog 68 #[v] w fun r w' => (∃ v', r = .returned v' ∧ BS w.heap.size w' v' ((List.range L.length).map fun j => bPoint (L.getD j C00))) ∧ Below w.heap.size w w' := by
 obtain ⟨i0, hi, hp⟩ := Option.map_eq_some_iff.1 Tryz.info32
 have hz0 : i0.zero = some (.agg #[.complex .f64 0 0, .float .f64 0]) := congrArg Prod.fst hp
 have hz1 : i0.size = 2 := congrArg (fun q => q.2.1) hp
 have hz2 : i0.bytes = 24 := congrArg (fun q => q.2.2) hp
 obtain ⟨a', c, rfl, hc, hm⟩ := h.slc
 obtain ⟨n, en⟩ : ∃ n, n = L.length := ⟨_, rfl⟩
 have HF := Lib.hid (And.intro en h)
 rw [← en] at hn hc ⊢
 clear h en hp
 have B0 := Below.refl w.heap.size w
 go_enter Tryz.func68, Tryz.ntmps68
 go_wp2
 go_loopg [3, 8] n (fun g s3 s8 wr => ∃ k : Nat, k ≤ n ∧ g = n - k ∧ s8 = .int .i64 k ∧ BS w.heap.size wr s3 ((List.range k).map fun j => bPoint (L.getD j C00)) ∧ Below w.heap.size w wr)
 case atStart => exact ⟨0, by omega, by omega, rfl, BS.nil _ _, B0⟩
 case round =>
  obtain ⟨k, hk, hg, rfl, hpl, hbel⟩ := hrel
  by_cases hkn : k < n
  ·obtain ⟨en, h⟩ := HF.out
   have hkL : k < L.length := by omega
   obtain ⟨b', x, y, e, _, hb', hcell, hx, hy⟩ := (h.keep hbel).get k hkL
   cases e
   have hz := fun W => c_blPoint W hx hy
   rw [show (L[k].1, L[k].2) = L.getD k C00 from (getD_get hkL).symm] at hz
   have HG := Lib.hid (And.intro hg en)
   clear hg en h hx hy
   go_wp2_with fail
   refine (hz _).mono ?_
   rintro r w2 ⟨⟨z2, y2, t2, rfl, a2, b2, d2⟩, hb1⟩
   replace hpl := hpl.keep hb1
   replace hbel := hbel.trans (hb1.mono hbel.size)
   clear hb1 hz
   obtain ⟨ps, hown, hlen, hps⟩ := hpl
   rw [len_range] at hown
   have HP := Lib.hid (And.intro hlen (And.intro hps (And.intro a2 (And.intro b2 d2))))
   have hbz := hbel.size
   clear hlen hps a2 b2 d2
   have hst1 := fun (a : Addr) (v : Nat) (m : Mode) (W : World) => (run_store Tryz.prog W a (.float .f64 v) m rfl : (store a (.float .f64 v) m).run Tryz.prog W = stored Tryz.prog W a (.float .f64 v) m)
   have hst2 := fun (a : Addr) (u v : Nat) (m : Mode) (W : World) => (run_store Tryz.prog W a (.complex .f64 u v) m rfl : (store a (.complex .f64 u v) m).run Tryz.prog W = stored Tryz.prog W a (.complex .f64 u v) m)
   go_wp2_with (at_builtin; refine wpList_append_own _ rfl _ _ 52 rfl w.heap.size 32 i0 (.agg #[.complex .f64 0 0, .float .f64 0]) 2 24 Tryz.underlying52 hi hz0 hz1 hz2 rfl (by decide) _ _ _ rfl (by exact hown.alloc _) ⟨w2.heap.size, 0, none⟩ 1 1 [.complex .f64 z2 y2, .float .f64 t2] rfl rfl ?c1 ?c2 ?c3 ?c4 ?c5 ?_)
   case c1 =>
    intro j u hj
    match j, hj with
    | 0, hj => simp at hj; subst hj; simp [Addr.add]
    | 1, hj => simp at hj; subst hj; simp [Addr.add]
   case c2 => intro u hu; simp at hu; rcases hu with rfl | rfl <;> rfl
   case c3 => unfold maxLen; omega
   case c4 => omega
   case c5 => simp; omega
   ·intro v' w3 hown' hgrow _
    obtain ⟨hlen, hps, a2, b2, d2⟩ := HP.out
    have hb1 := (hbel.alloc hbz (Obj.cells #[Value.complex FloatKind.f64 z2 y2, Value.float FloatKind.f64 t2] 32)).grown hgrow (by simp; omega) (fun k hk => (hown.lt k hk).1)
    have hq : BS w.heap.size w3 v' ((List.range (k + 1)).map fun j => bPoint (L.getD j C00)) := by
     rw [List.range_succ, List.map_append]
     exact BS.push (by rw [len_range]; exact hown') hlen hps a2 b2 d2
    clear hown hown' hgrow hps a2 b2 d2
    go_wp2
    go_roundg (n - (k + 1))
    case measure => have := HG.out.1; omega
    case rel => exact ⟨k + 1, by omega, rfl, by go_num, hq, hb1⟩
  ·obtain rfl : n = k := by omega
   go_wp2
   go_ret
   refine ⟨⟨_, rfl, ?_⟩, hbel⟩
   exact hpl
end Go.Proofs.YtfdnbogbankjjaaGreatDoor

/- The closures of poly.on. (printed by gen_fb.py) -/
namespace Go.Proofs.YtfdnbogbankjjaaGreatDoor
open Go Go.RowKit Go.PlainAid Fil

theorem c_pyonB1 {x0 y0 r0 : Nat} (w : World) : Calls Tryz.prog 112 #[.agg #[.complex .f64 x0 y0, .float .f64 r0]] w fun r w' => r = .returned (.agg #[.complex .f64 x0 y0, .float .f64 r0]) ∧ Below w.heap.size w w' := by
 go_enter Tryz.func112, Tryz.ntmps112
 have B0 := Below.refl w.heap.size w
 have hst1 := fun (a : Addr) (v : Nat) (m : Mode) (W : World) => (run_store Tryz.prog W a (.float .f64 v) m rfl : (store a (.float .f64 v) m).run Tryz.prog W = stored Tryz.prog W a (.float .f64 v) m)
 have hst2 := fun (a : Addr) (u v : Nat) (m : Mode) (W : World) => (run_store Tryz.prog W a (.complex .f64 u v) m rfl : (store a (.complex .f64 u v) m).run Tryz.prog W = stored Tryz.prog W a (.complex .f64 u v) m)
 have F1 := Blk.put (w) #[.complex .f64 x0 y0, .float .f64 r0] 32
 replace F1 := F1.allocd (.cells #[.complex .f64 0 0, .float .f64 0] 32)
 replace B0 := B0.alloc B0.size (.cells #[.complex .f64 x0 y0, .float .f64 r0] 32)
 replace B0 := B0.alloc B0.size (.cells #[.complex .f64 x0 y0, .float .f64 r0] 32)
 obtain ⟨xF10_0, xF10_1⟩ := F1.ce2
 go_wp2
 exact bodyPost_ret (v := .agg #[.complex .f64 x0 y0, .float .f64 r0]) (by simp [results, Tryz.results112, go_sem]) rfl ⟨rfl, B0⟩
def onB2 (Z0 : BV) (Z1 : BV) (Z2 : BV) : BV :=
 let X0 := Z0.1.1
 let Y0 := Z0.1.2
 let R0 := Z0.2
 let X1 := Z1.1.1
 let Y1 := Z1.1.2
 let R1 := Z1.2
 let X2 := Z2.1.1
 let Y2 := Z2.1.2
 let R2 := Z2.2
 let v1 := bMul ((X0, Y0), R0) ((X2, Y2), R2)
 let v2 := bAdd ((v1.1.1, v1.1.2), v1.2) ((X1, Y1), R1)
 ((v2.1.1, v2.1.2), v2.2)
set_option maxHeartbeats 8000000 in
theorem c_pyonB2 {x0 y0 r0 x1 y1 r1 x2 y2 r2 g2 : Nat} {X0 Y0 R0 X1 Y1 R1 X2 Y2 R2 : FV} (w : World) (hx0 : Fl x0 X0) (hy0 : Fl y0 Y0) (hr0 : Fl r0 R0) (hx1 : Fl x1 X1) (hy1 : Fl y1 Y1) (hr1 : Fl r1 R1) (hx2 : Fl x2 X2) (hy2 : Fl y2 Y2) (hr2 : Fl r2 R2) (G2 : Blk w g2 #[.complex .f64 x2 y2, .float .f64 r2] 32) : Calls Tryz.prog 113 #[.agg #[.complex .f64 x0 y0, .float .f64 r0], .agg #[.complex .f64 x1 y1, .float .f64 r1], .pointer (some ⟨g2, 0, none⟩)] w fun r w' => (∃ z y t, r = .returned (.agg #[.complex .f64 z y, .float .f64 t]) ∧ Fl z (onB2 ((X0, Y0), R0) ((X1, Y1), R1) ((X2, Y2), R2)).1.1 ∧ Fl y (onB2 ((X0, Y0), R0) ((X1, Y1), R1) ((X2, Y2), R2)).1.2 ∧ Fl t (onB2 ((X0, Y0), R0) ((X1, Y1), R1) ((X2, Y2), R2)).2) ∧ Below w.heap.size w w' := by
 go_enter Tryz.func113, Tryz.ntmps113
 have B0 := Below.refl w.heap.size w
 have hst1 := fun (a : Addr) (v : Nat) (m : Mode) (W : World) => (run_store Tryz.prog W a (.float .f64 v) m rfl : (store a (.float .f64 v) m).run Tryz.prog W = stored Tryz.prog W a (.float .f64 v) m)
 have hst2 := fun (a : Addr) (u v : Nat) (m : Mode) (W : World) => (run_store Tryz.prog W a (.complex .f64 u v) m rfl : (store a (.complex .f64 u v) m).run Tryz.prog W = stored Tryz.prog W a (.complex .f64 u v) m)
 replace G2 := G2.allocd (.cells #[.complex .f64 x0 y0, .float .f64 r0] 32)
 have F3 := Blk.put (w) #[.complex .f64 x0 y0, .float .f64 r0] 32
 replace B0 := B0.alloc B0.size (.cells #[.complex .f64 x0 y0, .float .f64 r0] 32)
 replace G2 := G2.allocd (.cells #[.complex .f64 x1 y1, .float .f64 r1] 32)
 replace F3 := F3.allocd (.cells #[.complex .f64 x1 y1, .float .f64 r1] 32)
 have F4 := Blk.put ((w).alloc (.cells #[.complex .f64 x0 y0, .float .f64 r0] 32)) #[.complex .f64 x1 y1, .float .f64 r1] 32
 rw [show ((w).alloc (.cells #[.complex .f64 x0 y0, .float .f64 r0] 32)).heap.size = w.heap.size + 1 by simp] at F4
 replace B0 := B0.alloc B0.size (.cells #[.complex .f64 x1 y1, .float .f64 r1] 32)
 have q_w_F5 : Hid (w.heap.size ≤ w.heap.size + 1 + 1) := Lib.hid (by omega)
 replace G2 := G2.allocd (.cells #[.complex .f64 0 0, .float .f64 0] 32)
 replace F3 := F3.allocd (.cells #[.complex .f64 0 0, .float .f64 0] 32)
 replace F4 := F4.allocd (.cells #[.complex .f64 0 0, .float .f64 0] 32)
 have F5 := Blk.put (((w).alloc (.cells #[.complex .f64 x0 y0, .float .f64 r0] 32)).alloc (.cells #[.complex .f64 x1 y1, .float .f64 r1] 32)) #[.complex .f64 0 0, .float .f64 0] 32
 rw [show (((w).alloc (.cells #[.complex .f64 x0 y0, .float .f64 r0] 32)).alloc (.cells #[.complex .f64 x1 y1, .float .f64 r1] 32)).heap.size = w.heap.size + 1 + 1 by simp] at F5
 replace B0 := B0.alloc B0.size (.cells #[.complex .f64 0 0, .float .f64 0] 32)
 go_wp2_with fail
 refine wp_region_cut 5 (by kernel_rfl) (by kernel_rfl) ?_
 rintro W rfl
 simp only [List.take_succ_cons, List.take_zero, List.drop_succ_cons, List.drop_zero]
 obtain ⟨xF30_0, xF30_1⟩ := F3.ce2
 obtain ⟨xG20_0, xG20_1⟩ := G2.ce2
 obtain ⟨xF40_0, xF40_1⟩ := F4.ce2
 have hHeld : (fun w' : World => w'.cell? ⟨w.heap.size, 0, none⟩ = some (.complex .f64 x0 y0) ∧ w'.cell? ⟨w.heap.size, 1, none⟩ = some (.float .f64 r0) ∧ w'.cell? ⟨g2, 0, none⟩ = some (.complex .f64 x2 y2) ∧ w'.cell? ⟨g2, 1, none⟩ = some (.float .f64 r2) ∧ w'.cell? ⟨w.heap.size + 1, 0, none⟩ = some (.complex .f64 x1 y1) ∧ w'.cell? ⟨w.heap.size + 1, 1, none⟩ = some (.float .f64 r1)) ((((w).alloc (.cells #[.complex .f64 x0 y0, .float .f64 r0] 32)).alloc (.cells #[.complex .f64 x1 y1, .float .f64 r1] 32)).alloc (.cells #[.complex .f64 0 0, .float .f64 0] 32)).drew := ⟨xF30_0, xF30_1, xG20_0, xG20_1, xF40_0, xF40_1⟩
 refine wpAny_of_held (S := fun w' : World => w'.cell? ⟨w.heap.size, 0, none⟩ = some (.complex .f64 x0 y0) ∧ w'.cell? ⟨w.heap.size, 1, none⟩ = some (.float .f64 r0) ∧ w'.cell? ⟨g2, 0, none⟩ = some (.complex .f64 x2 y2) ∧ w'.cell? ⟨g2, 1, none⟩ = some (.float .f64 r2) ∧ w'.cell? ⟨w.heap.size + 1, 0, none⟩ = some (.complex .f64 x1 y1) ∧ w'.cell? ⟨w.heap.size + 1, 1, none⟩ = some (.float .f64 r1)) _ _ _ ((((w).alloc (.cells #[.complex .f64 x0 y0, .float .f64 r0] 32)).alloc (.cells #[.complex .f64 x1 y1, .float .f64 r1] 32)).alloc (.cells #[.complex .f64 0 0, .float .f64 0] 32)).drew ?_
 replace G2 := G2.drew
 replace F3 := F3.drew
 replace F4 := F4.drew
 replace F5 := F5.drew
 replace B0 := B0.drew
 generalize ((((w).alloc (.cells #[.complex .f64 x0 y0, .float .f64 r0] 32)).alloc (.cells #[.complex .f64 x1 y1, .float .f64 r1] 32)).alloc (.cells #[.complex .f64 0 0, .float .f64 0] 32)).drew = v1 at *
 refine tkA 0 ?_
 (try dsimp only [Act.put]); (try go_frame)
 refine tkA 1 ?_
 (try dsimp only [Act.put]); (try go_frame)
 refine tkA 3 ?_
 (try dsimp only [Act.put]); (try go_frame)
 refine wpAnyH_ready (rs := [2]) (by kernel_rfl) (by simp) ?_
 refine AllReadyH.cons rfl (fun K hK => ?_) AllReadyH.nil
 go_simp
 (with_reducible refine (c_blMul _ hx0 hy0 hr0 hx2 hy2 hr2).mono ?_)
 rintro r w1 ⟨⟨z1, j1, t1, rfl, a1, b1, d1⟩, hb1⟩
 clear xF30_0 xF30_1 xG20_0 xG20_1 xF40_0 xF40_1
 replace G2 := G2.keep hb1
 replace F3 := F3.keep hb1
 replace F4 := F4.keep hb1
 replace F5 := F5.keep hb1
 replace B0 := B0.trans (hb1.mono B0.size)
 clear hb1
 obtain ⟨xF33_0, xF33_1⟩ := F3.ce2
 obtain ⟨xG23_0, xG23_1⟩ := G2.ce2
 obtain ⟨xF43_0, xF43_1⟩ := F4.ce2
 refine hK.out _ _ ?_ (fun hHeld => ?_)
 ·exact ⟨xF33_0, xF33_1, xG23_0, xG23_1, xF43_0, xF43_1⟩
 clear hK K
 (try dsimp only [Act.put]); (try go_frame)
 refine wpAnyH_ready (rs := [4]) (by kernel_rfl) (by simp) ?_
 refine AllReadyH.cons rfl (fun K hK => ?_) AllReadyH.nil
 go_simp
 (with_reducible refine (c_blAdd _ a1 b1 d1 hx1 hy1 hr1).mono ?_)
 rintro r w2 ⟨⟨z2, j2, t2, rfl, a2, b2, d2⟩, hb2⟩
 clear xF33_0 xF33_1 xG23_0 xG23_1 xF43_0 xF43_1
 replace G2 := G2.keep hb2
 replace F3 := F3.keep hb2
 replace F4 := F4.keep hb2
 replace F5 := F5.keep hb2
 replace B0 := B0.trans (hb2.mono B0.size)
 clear hb2
 obtain ⟨xF34_0, xF34_1⟩ := F3.ce2
 obtain ⟨xG24_0, xG24_1⟩ := G2.ce2
 obtain ⟨xF44_0, xF44_1⟩ := F4.ce2
 refine hK.out _ _ ?_ (fun hHeld => ?_)
 ·exact ⟨xF34_0, xF34_1, xG24_0, xG24_1, xF44_0, xF44_1⟩
 clear hK K
 (try dsimp only [Act.put]); (try go_frame)
 refine wpAnyH_done (by kernel_rfl) ?_ _
 try simp only [QCut]
 clear hHeld
 clear xF34_0 xF34_1 xG24_0 xG24_1 xF44_0 xF44_1
 obtain ⟨xF54_0, xF54_1⟩ := F5.ce2
 obtain ⟨xF54_0f, xF54_1f⟩ := F5.fr2
 clear G2
 clear F3
 clear F4
 replace F5 : Blk (((w2).setCell ⟨w.heap.size + 1 + 1, 0, none⟩ (.complex .f64 z2 j2)).setCell ⟨w.heap.size + 1 + 1, 1, none⟩ (.float .f64 t2)) (w.heap.size + 1 + 1) #[.complex .f64 z2 j2, .float .f64 t2] 32 := ((F5.setAt 0 (.complex .f64 z2 j2)).setAt 1 (.float .f64 t2))
 replace B0 := ((B0.setCell (p := ⟨w.heap.size + 1 + 1, 0, none⟩) q_w_F5.out (.complex .f64 z2 j2)).setCell (p := ⟨w.heap.size + 1 + 1, 1, none⟩) q_w_F5.out (.float .f64 t2))
 obtain ⟨xF55_0, xF55_1⟩ := F5.ce2
 go_wp2
 exact bodyPost_ret (v := .agg #[.complex .f64 z2 j2, .float .f64 t2]) (by simp [results, Tryz.results113, go_sem, xF55_0, xF55_1]) rfl ⟨⟨_, _, _, rfl, by exact a2, by exact b2, by exact d2⟩, B0⟩
end Go.Proofs.YtfdnbogbankjjaaGreatDoor

/- poly.walk over balls, on. (printed by gen_fd.py) -/
namespace Go.Proofs.YtfdnbogbankjjaaGreatDoor
open Go Go.RowKit Go.PlainAid Fil

def onF : List BV → BV → BV
 | [], _ => bPoint C00
 | [c], _ => c
 | c :: d :: l, z => onB2 (onF (d :: l) z) c z
theorem onF_step {L : List BV} (Z : BV) {i : Nat} (hi : i + 1 < L.length) : onF (L.drop i) Z = onB2 (onF (L.drop (i + 1)) Z) L[i] Z := by
 rw [List.drop_eq_getElem_cons (show i < L.length by omega)]
 rw [List.drop_eq_getElem_cons hi]
 rfl
theorem onF_last {L : List BV} (Z : BV) {i : Nat} (hi : i + 1 = L.length) : onF (L.drop i) Z = L[i] := by
 rw [List.drop_eq_getElem_cons (show i < L.length by omega), List.drop_eq_nil_of_le (by omega)]
 rfl
/-- a ball's three floats are worth a ball -/
def Fb (x y r : Nat) (Z : BV) : Prop := Fl x Z.1.1 ∧ Fl y Z.1.2 ∧ Fl r Z.2
set_option maxRecDepth 100000 in
set_option maxHeartbeats 4000000 in
theorem c_pywalkB {B : Nat} {v : Value} {L : List BV} {xg yg rg xn yn rn g : Nat} {Z : BV} (w : World) (h : BS B w v L) (h0 : 0 < L.length) (hn : L.length ≤ 17) (hZ : Fb xg yg rg Z) (G : Blk w g #[.complex .f64 xg yg, .float .f64 rg] 32) :
  Calls Tryz.prog 111 #[v, .agg #[.complex .f64 xn yn, .float .f64 rn], .func (.func 112) #[] #[], .func (.func 113) #[] #[.pointer (some ⟨g, 0, none⟩)]] w fun r w' => (∃ z y t, r = .returned (.agg #[.complex .f64 z y, .float .f64 t]) ∧ Fb z y t (onF L Z)) ∧ Below w.heap.size w w' := by
 obtain ⟨a', c, rfl, hc, hm⟩ := h.slc
 obtain ⟨n, en⟩ : ∃ n, n + 1 = L.length := ⟨L.length - 1, by omega⟩
 obtain ⟨b', x, y, r, rfl, _, S, hx, hy, hr⟩ := h.get n (by omega)
 have HF := Lib.hid (And.intro en h)
 rw [← en] at h0 hn hc ⊢
 have hst : Fb x y r (onF (L.drop n) Z) := by rw [onF_last Z en]; exact ⟨hx, hy, hr⟩
 clear h hx hy hr en
 have hst1 := fun (a : Addr) (v : Nat) (m : Mode) (W : World) => (run_store Tryz.prog W a (.float .f64 v) m rfl : (store a (.float .f64 v) m).run Tryz.prog W = stored Tryz.prog W a (.float .f64 v) m)
 have hst2 := fun (a : Addr) (u v : Nat) (m : Mode) (W : World) => (run_store Tryz.prog W a (.complex .f64 u v) m rfl : (store a (.complex .f64 u v) m).run Tryz.prog W = stored Tryz.prog W a (.complex .f64 u v) m)
 have B0 := Below.refl w.heap.size w
 have hC1 := fun W => c_pyonB1 (x0 := x) (y0 := y) (r0 := r) W
 go_enter Tryz.func111, Tryz.ntmps111
 replace G := G.allocd (.cells #[.complex .f64 xn yn, .float .f64 rn] 32)
 replace S := S.allocd (.cells #[.complex .f64 xn yn, .float .f64 rn] 32)
 replace B0 := B0.alloc B0.size (.cells #[.complex .f64 xn yn, .float .f64 rn] 32)
 have F8 := Blk.put (w.alloc (.cells #[.complex .f64 xn yn, .float .f64 rn] 32)) #[.complex .f64 0 0, .float .f64 0] 32
 rw [show (w.alloc (.cells #[.complex .f64 xn yn, .float .f64 rn] 32)).heap.size = w.heap.size + 1 by simp] at F8
 replace G := G.allocd (.cells #[.complex .f64 0 0, .float .f64 0] 32)
 replace S := S.allocd (.cells #[.complex .f64 0 0, .float .f64 0] 32)
 replace B0 := B0.alloc B0.size (.cells #[.complex .f64 0 0, .float .f64 0] 32)
 obtain ⟨xS0, xS1⟩ := S.ce2
 go_wp2_with fail
 refine (hC1 _).mono ?_
 rintro r w1 ⟨rfl, hb1⟩
 replace G := G.keep hb1
 replace F8 := F8.keep hb1
 replace B0 := B0.trans (hb1.mono B0.size)
 clear hb1 hC1 S xS0 xS1
 have qg := G.lt
 have q8 := F8.lt
 have qw := B0.size
 have F9 := Blk.put w1 #[.complex .f64 x y, .float .f64 r] 32
 replace G := G.allocd (.cells #[.complex .f64 x y, .float .f64 r] 32)
 replace F8 := F8.allocd (.cells #[.complex .f64 x y, .float .f64 r] 32)
 replace B0 := B0.alloc qw (.cells #[.complex .f64 x y, .float .f64 r] 32)
 go_wp2
 go_loopg [10] n (fun m s10 wr => ∃ j x y r : Nat, j ≤ n ∧ m = j ∧ s10 = .int .i64 ((j : Int) - 1) ∧ Fb x y r (onF (L.drop j) Z) ∧ Blk wr w1.heap.size #[.complex .f64 x y, .float .f64 r] 32 ∧ Blk wr (w.heap.size + 1) #[.complex .f64 0 0, .float .f64 0] 32 ∧ Blk wr g #[.complex .f64 xg yg, .float .f64 rg] 32 ∧ Below w.heap.size w wr)
 case atStart => exact ⟨n, x, y, r, by omega, rfl, by go_num, hst, F9, F8, G, B0⟩
 case round =>
  clear F9 F8 G B0 hst
  obtain ⟨j, x, y, r, hj, hmj, rfl, hR, F9, F8, G, B0⟩ := hrel
  by_cases hj0 : j = 0
  ·subst hj0
   obtain ⟨xF9_0, xF9_1⟩ := F9.ce2
   obtain ⟨xF8_0, xF8_1⟩ := F8.ce2
   obtain ⟨xF8_0f, xF8_1f⟩ := F8.fr2
   clear G
   replace F8 : Blk ((wr.setCell ⟨w.heap.size + 1, 0, none⟩ (.complex .f64 x y)).setCell ⟨w.heap.size + 1, 1, none⟩ (.float .f64 r)) (w.heap.size + 1) #[.complex .f64 x y, .float .f64 r] 32 := ((F8.setAt 0 (.complex .f64 x y)).setAt 1 (.float .f64 r))
   replace B0 := ((B0.setCell (p := ⟨w.heap.size + 1, 0, none⟩) (Nat.le_succ _) (.complex .f64 x y)).setCell (p := ⟨w.heap.size + 1, 1, none⟩) (Nat.le_succ _) (.float .f64 r))
   obtain ⟨yF8_0, yF8_1⟩ := F8.ce2
   go_wp2
   exact bodyPost_ret (v := .agg #[.complex .f64 x y, .float .f64 r]) (by simp [results, Tryz.results111, go_sem, yF8_0, yF8_1]) rfl ⟨⟨_, _, _, rfl, hR⟩, B0⟩
  ·obtain ⟨i, rfl⟩ : ∃ i, j = i + 1 := ⟨j - 1, by omega⟩
   obtain ⟨en, h⟩ := HF.out
   have hiL : i < L.length := by omega
   have hi1 : i + 1 < L.length := by omega
   obtain ⟨b'', u, v, t, e, _, S, hu, hv, ht⟩ := (h.keep B0).get i hiL
   cases e
   have he := onF_step Z hi1
   clear en h
   generalize L[i] = EL at *
   generalize onF (L.drop (i + 1)) Z = AC at *
   obtain ⟨hx, hy, hr⟩ := hR
   obtain ⟨hxg, hyg, hrg⟩ := hZ
   have hin : (i : Int) < (n : Int) + 1 := by omega
   have q_w_F9 := Lib.hid qw
   have HM := Lib.hid hmj
   clear hmj
   have e8 : w.heap.size + 1 ≠ w1.heap.size := by omega
   have eg : g ≠ w1.heap.size := by omega
   go_wp2_with fail
   refine wp_region_cut 7 (by kernel_rfl) (by kernel_rfl) ?_
   rintro W rfl
   simp only [List.take_succ_cons, List.take_zero, List.drop_succ_cons, List.drop_zero]
   obtain ⟨xF950_0, xF950_1⟩ := F9.ce2
   obtain ⟨xS50_0, xS50_1⟩ := S.ce2
   have hHeld : (fun w' : World => w'.cell? ⟨w1.heap.size, 0, none⟩ = some (.complex .f64 x y) ∧ w'.cell? ⟨w1.heap.size, 1, none⟩ = some (.float .f64 r) ∧ w'.cell? ⟨b', i * 2, none⟩ = some (.complex .f64 u v) ∧ w'.cell? ⟨b', i * 2 + 1, none⟩ = some (.float .f64 t)) (wr).drew := ⟨xF950_0, xF950_1, xS50_0, xS50_1⟩
   refine wpAny_of_held (S := fun w' : World => w'.cell? ⟨w1.heap.size, 0, none⟩ = some (.complex .f64 x y) ∧ w'.cell? ⟨w1.heap.size, 1, none⟩ = some (.float .f64 r) ∧ w'.cell? ⟨b', i * 2, none⟩ = some (.complex .f64 u v) ∧ w'.cell? ⟨b', i * 2 + 1, none⟩ = some (.float .f64 t)) _ _ _ (wr).drew ?_
   replace G := G.drew
   replace S := S.drew
   replace F9 := F9.drew
   replace F8 := F8.drew
   replace B0 := B0.drew
   generalize (wr).drew = v1 at *
   refine tkA 0 ?_
   (try dsimp only [Act.put]); (try go_frame)
   refine tkA 1 ?_
   (try dsimp only [Act.put]); (try go_frame)
   refine tkA 2 ?_
   (try dsimp only [Act.put]); (try go_frame)
   refine tkA 3 ?_
   (try dsimp only [Act.put]); (try go_frame)
   refine tkA 4 ?_
   (try dsimp only [Act.put]); (try go_frame)
   refine tkA 5 ?_
   (try dsimp only [Act.put]); (try go_frame)
   refine wpAnyH_ready (rs := [6]) (by kernel_rfl) (by simp) ?_
   refine AllReadyH.cons rfl (fun K hK => ?_) AllReadyH.nil
   go_simp
   (with_reducible refine (c_pyonB2 _ hx hy hr hu hv ht hxg hyg hrg G).mono ?_)
   rintro r w21 ⟨⟨z21, j21, t21, rfl, a21, b21, d21⟩, hb21⟩
   clear xF950_0 xF950_1 xS50_0 xS50_1
   replace G := G.keep hb21
   replace S := S.keep hb21
   replace F9 := F9.keep hb21
   replace F8 := F8.keep hb21
   replace B0 := B0.trans (hb21.mono B0.size)
   clear hb21
   obtain ⟨xF953_0, xF953_1⟩ := F9.ce2
   obtain ⟨xS53_0, xS53_1⟩ := S.ce2
   refine hK.out _ _ ?_ (fun hHeld => ?_)
   ·exact ⟨xF953_0, xF953_1, xS53_0, xS53_1⟩
   clear hK K
   (try dsimp only [Act.put]); (try go_frame)
   refine wpAnyH_done (by kernel_rfl) ?_ _
   try simp only [QCut]
   clear hHeld
   clear xF953_0 xF953_1 xS53_0 xS53_1
   obtain ⟨xF953_0, xF953_1⟩ := F9.ce2
   obtain ⟨xF953_0f, xF953_1f⟩ := F9.fr2
   clear S
   replace F8 := (F8.far 0 (.complex .f64 z21 j21) e8).far 1 (.float .f64 t21) e8
   replace G := (G.far 0 (.complex .f64 z21 j21) eg).far 1 (.float .f64 t21) eg
   replace F9 : Blk (((w21).setCell ⟨w1.heap.size, 0, none⟩ (.complex .f64 z21 j21)).setCell ⟨w1.heap.size, 1, none⟩ (.float .f64 t21)) (w1.heap.size) #[.complex .f64 z21 j21, .float .f64 t21] 32 := ((F9.setAt 0 (.complex .f64 z21 j21)).setAt 1 (.float .f64 t21))
   replace B0 := ((B0.setCell (p := ⟨w1.heap.size, 0, none⟩) q_w_F9.out (.complex .f64 z21 j21)).setCell (p := ⟨w1.heap.size, 1, none⟩) q_w_F9.out (.float .f64 t21))
   go_wp2
   go_roundg i
   case measure => have := HM.out; omega
   case rel => exact ⟨i, _, _, _, by omega, rfl, by go_num, by rw [he]; exact ⟨a21, b21, d21⟩, F9, F8, G, B0⟩
end Go.Proofs.YtfdnbogbankjjaaGreatDoor
