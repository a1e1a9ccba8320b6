/- Gauss in a block; gauss.Check, gauss.all; the keeper's number and part. -/
import Derived.Test.YtfbkopepkklkjaaGreatDoorG1
namespace Go.Proofs.YtfbkopepkklkjaaGreatDoor
open Go Go.RowKit Go.PlainAid Fil

/-- a Gauss in a block of its own -/
def GsAt (w : World) (b : Nat) (n : Bool) (s : ByteArray) (e : Int) (m : Bool) (t : ByteArray) (f : Int) : Prop := Blk w b #[.bool n, .string s, .int .i64 e, .bool m, .string t, .int .i64 f] 28
section
variable {w w' : World} {b : Nat} {n m : Bool} {s t : ByteArray} {e f : Int}
theorem GsAt.cells (h : GsAt w b n s e m t f) : w.cell? ⟨b, 0, none⟩ = some (.bool n) ∧ w.cell? ⟨b, 1, none⟩ = some (.string s) ∧ w.cell? ⟨b, 2, none⟩ = some (.int .i64 e) ∧ w.cell? ⟨b, 3, none⟩ = some (.bool m) ∧ w.cell? ⟨b, 4, none⟩ = some (.string t) ∧ w.cell? ⟨b, 5, none⟩ = some (.int .i64 f) :=
 ⟨Blk.at h 0 (by simp), Blk.at h 1 (by simp), Blk.at h 2 (by simp), Blk.at h 3 (by simp), Blk.at h 4 (by simp), Blk.at h 5 (by simp)⟩
theorem GsAt.frees (h : GsAt w b n s e m t f) : w.frozen? ⟨b, 0, none⟩ = false ∧ w.frozen? ⟨b, 1, none⟩ = false ∧ w.frozen? ⟨b, 2, none⟩ = false ∧ w.frozen? ⟨b, 3, none⟩ = false ∧ w.frozen? ⟨b, 4, none⟩ = false ∧ w.frozen? ⟨b, 5, none⟩ = false :=
 ⟨Blk.free h 0, Blk.free h 1, Blk.free h 2, Blk.free h 3, Blk.free h 4, Blk.free h 5⟩
theorem GsAt.put (w : World) (n : Bool) (s : ByteArray) (e : Int) (m : Bool) (t : ByteArray) (f : Int) : GsAt (w.alloc (.cells #[.bool n, .string s, .int .i64 e, .bool m, .string t, .int .i64 f] 28)) w.heap.size n s e m t f := Blk.put _ _ _
theorem GsAt.keep (h : GsAt w b n s e m t f) (hb : Below w.heap.size w w') : GsAt w' b n s e m t f := Blk.keep h hb
theorem GsAt.drew (h : GsAt w b n s e m t f) : GsAt w.drew b n s e m t f := h
end

theorem Blk.setAt {w : World} {b : Nat} {cs : Array Value} {t : TypeId} (h : Blk w b cs t) (i : Nat) (u : Value) : Blk (w.setCell ⟨b, i, none⟩ u) b (cs.setIfInBounds i u) t := by
 have hlt := Blk.lt h
 have h' : w.heap[b] = .cells cs t (0, 0) := by
  have h0 : w.heap[b]? = some (.cells cs t (0, 0)) := h
  simpa [Array.getElem?_eq_getElem hlt] using h0
 show (w.heap.modify b _)[b]? = _
 rw [Array.getElem?_eq_getElem (by simpa using hlt), Array.getElem_modify_self, h']
 rfl
/-- a store of a whole Gauss -/
theorem GsAt.store {w : World} {b : Nat} {n m : Bool} {s t : ByteArray} {e f : Int} (h : GsAt w b n s e m t f) (n' : Bool) (s' : ByteArray) (e' : Int) (m' : Bool) (t' : ByteArray) (f' : Int) :
  GsAt ((((((w.setCell ⟨b, 0, none⟩ (.bool n')).setCell ⟨b, 1, none⟩ (.string s')).setCell ⟨b, 2, none⟩ (.int .i64 e')).setCell ⟨b, 3, none⟩ (.bool m')).setCell ⟨b, 4, none⟩ (.string t')).setCell ⟨b, 5, none⟩ (.int .i64 f')) b n' s' e' m' t' f' :=
 (((((Blk.setAt h 0 (.bool n')).setAt 1 (.string s')).setAt 2 (.int .i64 e')).setAt 3 (.bool m')).setAt 4 (.string t')).setAt 5 (.int .i64 f')
theorem Blk.far6 {w : World} {b b' : Nat} {cs : Array Value} {t : TypeId} (h : Blk w b cs t) (hne : b ≠ b') (v0 v1 v2 v3 v4 v5 : Value) : Blk ((((((w.setCell ⟨b', 0, none⟩ v0).setCell ⟨b', 1, none⟩ v1).setCell ⟨b', 2, none⟩ v2).setCell ⟨b', 3, none⟩ v3).setCell ⟨b', 4, none⟩ v4).setCell ⟨b', 5, none⟩ v5) b cs t :=
 (((((h.far 0 v0 hne).far 1 v1 hne).far 2 v2 hne).far 3 v3 hne).far 4 v4 hne).far 5 v5 hne
theorem below_put6 {B b : Nat} {w w' : World} (h : Below B w w') (hb : B ≤ b) (v0 v1 v2 v3 v4 v5 : Value) : Below B w ((((((w'.setCell ⟨b, 0, none⟩ v0).setCell ⟨b, 1, none⟩ v1).setCell ⟨b, 2, none⟩ v2).setCell ⟨b, 3, none⟩ v3).setCell ⟨b, 4, none⟩ v4).setCell ⟨b, 5, none⟩ v5) := (((((h.setCell hb _).setCell hb _).setCell hb _).setCell hb _).setCell hb _).setCell hb _

set_option maxHeartbeats 2000000 in
theorem gcheck_any (n : Bool) (s : ByteArray) (e : Int) (m : Bool) (t : ByteArray) (f : Int) (w : World) (hs : s.size ≤ 9223372036854775807) (ht : t.size ≤ 9223372036854775807) :
  Calls Tryz.prog 23 #[.agg #[.bool n, .string s, .int .i64 e, .bool m, .string t, .int .i64 f]] w fun r w' => r = .returned (.int .i64 (okE (mayB n s e && mayB m t f))) ∧ Below w.heap.size w w' := by
 have G0 := GsAt.put w n s e m t f
 have B0 := (Below.refl w.heap.size w).alloc (Nat.le_refl _) (.cells #[.bool n, .string s, .int .i64 e, .bool m, .string t, .int .i64 f] 28)
 have h1 := fun W => check_any n s e W hs
 have h2 := fun W => check_any m t f W ht
 obtain ⟨c0, c1, c2, c3, c4, c5⟩ := G0.cells
 clear hs ht
 cases hm : mayB n s e
 ·rw [hm, okE_f] at h1
  rw [Bool.false_and, okE_f]
  clear hm
  go_enter Tryz.func23, Tryz.ntmps23
  go_wp2_with fail
  (with_reducible refine (h1 _).mono ?_)
  rintro r w1 ⟨rfl, hb1⟩
  go_wp2
  go_ret
  exact ⟨rfl, B0.trans (hb1.mono B0.size)⟩
 ·rw [hm, okE_t] at h1
  rw [Bool.true_and]
  clear hm
  cases hm : mayB m t f
  ·rw [hm, okE_f] at h2
   rw [okE_f]
   clear hm
   go_enter Tryz.func23, Tryz.ntmps23
   go_wp2_with fail
   (with_reducible refine (h1 _).mono ?_)
   rintro r w1 ⟨rfl, hb1⟩
   clear c0 c1 c2 c3 c4 c5
   replace G0 := G0.keep hb1
   replace B0 := B0.trans (hb1.mono B0.size)
   obtain ⟨c0, c1, c2, c3, c4, c5⟩ := G0.cells
   clear hb1
   go_wp2_with fail
   (with_reducible refine (h2 _).mono ?_)
   rintro r w2 ⟨rfl, hb1⟩
   go_wp2
   go_ret
   exact ⟨rfl, B0.trans (hb1.mono B0.size)⟩
  ·rw [hm, okE_t] at h2
   rw [okE_t]
   clear hm
   go_enter Tryz.func23, Tryz.ntmps23
   go_wp2_with fail
   (with_reducible refine (h1 _).mono ?_)
   rintro r w1 ⟨rfl, hb1⟩
   clear c0 c1 c2 c3 c4 c5
   replace G0 := G0.keep hb1
   replace B0 := B0.trans (hb1.mono B0.size)
   obtain ⟨c0, c1, c2, c3, c4, c5⟩ := G0.cells
   clear hb1
   go_wp2_with fail
   (with_reducible refine (h2 _).mono ?_)
   rintro r w2 ⟨rfl, hb1⟩
   go_wp2
   go_ret
   exact ⟨rfl, B0.trans (hb1.mono B0.size)⟩

/-- Gausses in a slice -/
structure GR where
 n : Bool
 s : ByteArray
 e : Int
 m : Bool
 t : ByteArray
 f : Int
def GR.may (g : GR) : Bool := mayB g.n g.s g.e && mayB g.m g.t g.f
def Gss (w : World) (A : Option Addr) (n : Nat) (G : Nat → GR) : Prop :=
 0 < n → ∃ b o, A = some ⟨b, o, none⟩ ∧ b < w.heap.size ∧ ∀ i, i < n → w.cell? ⟨b, o + i * 6, none⟩ = some (.bool (G i).n) ∧ w.cell? ⟨b, o + i * 6 + 1, none⟩ = some (.string (G i).s) ∧ w.cell? ⟨b, o + i * 6 + 2, none⟩ = some (.int .i64 (G i).e) ∧ w.cell? ⟨b, o + i * 6 + 3, none⟩ = some (.bool (G i).m) ∧ w.cell? ⟨b, o + i * 6 + 4, none⟩ = some (.string (G i).t) ∧ w.cell? ⟨b, o + i * 6 + 5, none⟩ = some (.int .i64 (G i).f)
theorem Gss.below {w w' : World} {A : Option Addr} {n : Nat} {G : Nat → GR} (h : Gss w A n G) (hb : Below w.heap.size w w') : Gss w' A n G := fun hn => by
 obtain ⟨b, o, hA, hlt, hc⟩ := h hn
 refine ⟨b, o, hA, Nat.lt_of_lt_of_le hlt hb.size, fun i hi => ?_⟩
 obtain ⟨c0, c1, c2, c3, c4, c5⟩ := hc i hi
 exact ⟨(hb.cell (p := ⟨b, _, none⟩) hlt).trans c0, (hb.cell (p := ⟨b, _, none⟩) hlt).trans c1, (hb.cell (p := ⟨b, _, none⟩) hlt).trans c2, (hb.cell (p := ⟨b, _, none⟩) hlt).trans c3, (hb.cell (p := ⟨b, _, none⟩) hlt).trans c4, (hb.cell (p := ⟨b, _, none⟩) hlt).trans c5⟩

set_option maxHeartbeats 2000000 in
theorem gall_any (A : Option Addr) (n c : Nat) (G : Nat → GR) (w : World) (hn : n ≤ 2305843009213693951) (h : Gss w A n G) (hs : ∀ i, i < n → (G i).s.size ≤ 9223372036854775807) (ht : ∀ i, i < n → (G i).t.size ≤ 9223372036854775807) :
  Calls Tryz.prog 77 #[.slice A n c] w fun r w' => r = .returned (.bool (allB n fun i => (G i).may)) ∧ Below w.heap.size w w' := by
 go_enter Tryz.func77, Tryz.ntmps77
 go_wp2
 go_loopg [7] n (fun g s7 wr => ∃ i : Nat, i ≤ n ∧ g = n - i ∧ s7 = .int .i64 i ∧ (∀ j, j < i → (G j).may = true) ∧ Below w.heap.size w wr)
 case atStart => exact ⟨0, by omega, by omega, rfl, fun j hj => absurd hj (by omega), Below.refl _ _⟩
 case round =>
  obtain ⟨i, hi, hg, rfl, hall, hbel⟩ := hrel
  have Hg := Lib.hid hg
  have Hall := Lib.hid hall
  clear hg hall
  by_cases hin : i < n
  ·obtain ⟨b, o, rfl, hlt, hc⟩ := h.below hbel (by omega)
   obtain ⟨k0, k1, k2, k3, k4, k5⟩ := hc i hin
   have H := Lib.hid h
   have hcon := fun W => gcheck_any (G i).n (G i).s (G i).e (G i).m (G i).t (G i).f W (hs i hin) (ht i hin)
   have hmay : (mayB (G i).n (G i).s (G i).e && mayB (G i).m (G i).t (G i).f) = (G i).may := rfl
   rw [hmay] at hcon
   clear hc h hs ht hmay
   cases hm : (G i).may
   ·have Hm := Lib.hid hm
    rw [hm, okE_f] at hcon
    clear hm
    go_wp2_with fail
    (with_reducible refine (hcon _).mono ?_)
    rintro r w1 ⟨rfl, hb1⟩
    go_wp2
    go_ret
    exact ⟨by rw [allB_no hin Hm.out]; rfl, (hbel.alloc hbel.size _).trans (hb1.mono (by have := hbel.size; simp; omega))⟩
   ·have Hm := Lib.hid hm
    rw [hm, okE_t] at hcon
    clear hm
    go_wp2_with fail
    (with_reducible refine (hcon _).mono ?_)
    rintro r w1 ⟨rfl, hb1⟩
    go_wp2
    go_roundg (n - (i + 1))
    case measure => have := Hg.out; omega
    case rel => exact ⟨i + 1, by omega, rfl, by go_num, fun j hj => by
     by_cases e : j = i
     ·subst e; exact Hm.out
     ·exact Hall.out j (by omega), (hbel.alloc hbel.size _).trans (hb1.mono (by have := hbel.size; simp; omega))⟩
  ·obtain rfl : i = n := by omega
   go_wp2
   go_ret
   exact ⟨by rw [allB_yes Hall.out]; rfl, hbel⟩

set_option maxHeartbeats 2000000 in
/-- number: what was worked out -/
theorem knum_ok (n : Bool) (s : ByteArray) (e : Int) (m : Bool) (t : ByteArray) (f : Int) (K : Nat) (w : World) (hK : KAt w K 0) :
  Calls Tryz.prog 80 #[.pointer (some ⟨K, 0, none⟩), .agg #[.bool n, .string s, .int .i64 e], .agg #[.bool m, .string t, .int .i64 f]] w fun r w' => r = .returned (.tuple #[.agg #[.bool n, .string s, .int .i64 e, .bool m, .string t, .int .i64 f], .int .i64 0]) ∧ Below w.heap.size w w' := by
 have K0 := ((Blk.allocd hK (.cells #[.bool n, .string s, .int .i64 e] 24)).allocd (.cells #[.bool m, .string t, .int .i64 f] 24)).allocd (.cells #[.bool false, .string { data := #[] }, .int .i64 0, .bool false, .string { data := #[] }, .int .i64 0] 28)
 obtain ⟨k0, -⟩ := K0.one
 clear hK K0
 have G0 := GsAt.put ((w.alloc (.cells #[.bool n, .string s, .int .i64 e] 24)).alloc (.cells #[.bool m, .string t, .int .i64 f] 24)) n s e m t f
 rw [show ((w.alloc (.cells #[.bool n, .string s, .int .i64 e] 24)).alloc (.cells #[.bool m, .string t, .int .i64 f] 24)).heap.size = w.heap.size + 1 + 1 by simp] at G0
 obtain ⟨c0, c1, c2, c3, c4, c5⟩ := G0.cells
 have D0 := ((DyAt.put w n s e).allocd (.cells #[.bool m, .string t, .int .i64 f] 24)).allocd (.cells #[.bool false, .string { data := #[] }, .int .i64 0, .bool false, .string { data := #[] }, .int .i64 0] 28)
 have D1 := (DyAt.put (w.alloc (.cells #[.bool n, .string s, .int .i64 e] 24)) m t f).allocd (.cells #[.bool false, .string { data := #[] }, .int .i64 0, .bool false, .string { data := #[] }, .int .i64 0] 28)
 rw [show (w.alloc (.cells #[.bool n, .string s, .int .i64 e] 24)).heap.size = w.heap.size + 1 by simp] at D1
 obtain ⟨x00, x01, x02, -, -, -⟩ := D0
 obtain ⟨x10, x11, x12, -, -, -⟩ := D1
 have B0 := (((Below.refl w.heap.size w).alloc (Nat.le_refl _) (.cells #[.bool n, .string s, .int .i64 e] 24)).alloc (by simp) (.cells #[.bool m, .string t, .int .i64 f] 24)).alloc (by simp; omega) (.cells #[.bool n, .string s, .int .i64 e, .bool m, .string t, .int .i64 f] 28)
 clear G0
 go_enter Tryz.func80, Tryz.ntmps80
 go_wp2
 exact bodyPost_ret (v := .tuple #[.agg #[.bool n, .string s, .int .i64 e, .bool m, .string t, .int .i64 f], .int .i64 0]) (by simp [results, Tryz.results80, go_sem, c0, c1, c2, c3, c4, c5]) rfl ⟨rfl, B0⟩

set_option maxHeartbeats 2000000 in
/-- number behind an error -/
theorem knum_bad (n : Bool) (s : ByteArray) (e : Int) (m : Bool) (t : ByteArray) (f : Int) (x : Int) (K : Nat) (w : World) (hx : ¬ x = 0) (hK : KAt w K x) :
  Calls Tryz.prog 80 #[.pointer (some ⟨K, 0, none⟩), .agg #[.bool n, .string s, .int .i64 e], .agg #[.bool m, .string t, .int .i64 f]] w fun r w' => r = .returned (.tuple #[.agg #[.bool false, .string { data := #[] }, .int .i64 0, .bool false, .string { data := #[] }, .int .i64 0], .int .i64 x]) ∧ Below w.heap.size w w' := by
 have K0 := ((Blk.allocd hK (.cells #[.bool n, .string s, .int .i64 e] 24)).allocd (.cells #[.bool m, .string t, .int .i64 f] 24)).allocd (.cells #[.bool false, .string { data := #[] }, .int .i64 0, .bool false, .string { data := #[] }, .int .i64 0] 28)
 have hx2 : (x != 0) = true := by simpa using hx
 obtain ⟨k0, -⟩ := K0.one
 have G0 := GsAt.put ((w.alloc (.cells #[.bool n, .string s, .int .i64 e] 24)).alloc (.cells #[.bool m, .string t, .int .i64 f] 24)) false { data := #[] } 0 false { data := #[] } 0
 rw [show ((w.alloc (.cells #[.bool n, .string s, .int .i64 e] 24)).alloc (.cells #[.bool m, .string t, .int .i64 f] 24)).heap.size = w.heap.size + 1 + 1 by simp] at G0
 have B0 := (((Below.refl w.heap.size w).alloc (Nat.le_refl _) (.cells #[.bool n, .string s, .int .i64 e] 24)).alloc (by simp) (.cells #[.bool m, .string t, .int .i64 f] 24)).alloc (by simp; omega) (.cells #[.bool false, .string { data := #[] }, .int .i64 0, .bool false, .string { data := #[] }, .int .i64 0] 28)
 have hne : K ≠ w.heap.size + 1 + 1 := by have := Blk.lt hK; omega
 go_enter Tryz.func80, Tryz.ntmps80
 go_wp2_with fail
 generalize (((w.alloc (.cells #[.bool n, .string s, .int .i64 e] 24)).alloc (.cells #[.bool m, .string t, .int .i64 f] 24)).alloc (.cells #[.bool false, .string { data := #[] }, .int .i64 0, .bool false, .string { data := #[] }, .int .i64 0] 28)) = W5 at *
 refine wp_region_any (by kernel_rfl) ?_
 refine wpAny_of_held (S := fun w' : World => w'.cell? ⟨K, 0, none⟩ = some (.int .i64 x)) _ _ _ _ ?_
 generalize hW6 : ({ heap := W5.heap, tape := W5.tape, drawn := W5.drawn + 1, os := W5.os, output := W5.output } : World) = W6
 replace hW6 : W5.drew = W6 := hW6
 replace G0 := G0.drew
 replace B0 := B0.drew
 replace K0 := K0.drew
 rw [hW6] at G0 B0 K0
 obtain ⟨f0, f1, f2, f3, f4, f5⟩ := G0.frees
 obtain ⟨z0, z1, z2, z3, z4, z5⟩ := G0.cells
 replace k0 := K0.one.1
 clear hW6
 have Hk := Lib.hid (Blk.far6 K0 hne (.bool false) (.string { data := #[] }) (.int .i64 0) (.bool false) (.string { data := #[] }) (.int .i64 0))
 have Hg := Lib.hid (GsAt.store G0 false { data := #[] } 0 false { data := #[] } 0)
 have Hb := Lib.hid (below_put6 B0 (show w.heap.size ≤ w.heap.size + 1 + 1 by omega) (.bool false) (.string { data := #[] }) (.int .i64 0) (.bool false) (.string { data := #[] }) (.int .i64 0))
 clear K0 G0 B0
 have hHeld := k0
 refine tkA 0 ?_
 (try dsimp only [Act.put]); (try go_frame)
 refine tkA 1 ?_
 (try dsimp only [Act.put]); (try go_frame)
 refine tkA 2 ?_
 (try dsimp only [Act.put]); (try go_frame)
 refine tkA 3 ?_
 (try dsimp only [Act.put]); (try go_frame)
 refine tkA 4 ?_
 (try dsimp only [Act.put]); (try go_frame)
 refine wpAnyH_ready (rs := [5]) (by kernel_rfl) (by simp) ?_
 refine AllReadyH.cons rfl (fun K hK => ?_) AllReadyH.nil
 go_simp
 refine hK.out _ _ ?_ (fun hHeld => ?_)
 ·exact Hk.out.one.1
 clear hK K
 (try dsimp only [Act.put]); (try go_frame)
 refine tkA 6 ?_
 (try dsimp only [Act.put]); (try go_frame)
 refine wpAnyH_done (by kernel_rfl) ?_ _
 try simp only [QCut]
 obtain ⟨c0, c1, c2, c3, c4, c5⟩ := GsAt.cells Hg.out
 go_wp2
 exact bodyPost_ret (v := .tuple #[.agg #[.bool false, .string { data := #[] }, .int .i64 0, .bool false, .string { data := #[] }, .int .i64 0], .int .i64 x]) (by simp [results, Tryz.results80, go_sem, c0, c1, c2, c3, c4, c5]) rfl ⟨rfl, Hb.out⟩
end Go.Proofs.YtfbkopepkklkjaaGreatDoor
