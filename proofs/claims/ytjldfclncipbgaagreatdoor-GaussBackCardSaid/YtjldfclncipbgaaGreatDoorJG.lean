/- Merged: J7 J8 JA JC JD JG -/
import Derived.Test.YtjldfclncipbgaaGreatDoorJ3
import Derived.Laws.CopyOwn
import Derived.Deep.CutBlock
import Derived.Test.YtjldfclncipbgaaGreatDoorB5
import Derived.OneCell
import Derived.Shelf.RegionOpenPlain
import Derived.OwnWalk

/- A fraction in its block; wide.Rat's norm. -/
namespace Go.Proofs.YtjldfclncipbgaaGreatDoor
open Go Go.RowKit Fil

/-- the fraction in a block -/
def RatAt (w : World) (b : Nat) (r : Rat) : Prop := IntAt w b 0 r.num ∧ IntAt w b 2 (r.den : Int)
/-- room for a fraction -/
def RRoom (w : World) (b : Nat) : Prop := Room w b 0 ∧ Room w b 2
/-- all that was there is as it was, but for one block that is no row of digits -/
structure Far (w w' : World) (b : Nat) : Prop where
  os : w'.os = w.os
  tape : w'.tape = w.tape
  output : w'.output = w.output
  size : w.heap.size ≤ w'.heap.size
  far : ∀ k, k < w.heap.size → k ≠ b → w'.heap[k]? = w.heap[k]?
  near : ∃ (cs : Array Value) (t : TypeId), w.heap[b]? = some (.cells cs t (0, 0)) ∧ t ≠ 89
section
variable {w w' w'' : World} {b o b1 o1 : Nat} {z : Int} {r : Rat}
theorem But.toFar (h : But w w' b o) : Far w w' b :=
  ⟨h.os, h.tape, h.output, h.size, h.far, by obtain ⟨cs, _, t, h1, _, h3, _⟩ := h.near; exact ⟨cs, t, h1, h3⟩⟩
theorem Far.trans (h : Far w w' b) (k : Far w' w'' b) : Far w w'' b :=
  ⟨k.os.trans h.os, k.tape.trans h.tape, k.output.trans h.output, Nat.le_trans h.size k.size, fun i hi hb => (k.far i (Nat.lt_of_lt_of_le hi h.size) hb).trans (h.far i hi hb), h.near⟩
theorem Far.after (h : Below w.heap.size w w') (k : Far w' w'' b) (hb : RRoom w b) : Far w w'' b := by
  obtain ⟨cs, t, h1, h2, _⟩ := hb.1
  exact ⟨k.os.trans h.os, k.tape.trans h.tape, k.output.trans h.output, Nat.le_trans h.size k.size, fun i hi hne => (k.far i (Nat.lt_of_lt_of_le hi h.size) hne).trans (h.block i hi), ⟨cs, t, h1, h2⟩⟩
theorem Far.below (h : Far w w' b) {B : Nat} (hb : B ≤ b) (hB : B ≤ w.heap.size) : Below B w w' :=
  ⟨h.os, h.tape, h.output, h.size, fun k hk => h.far k (by omega) (by omega)⟩
theorem Dig.far {A : Option Addr} {n c x : Nat} (h : Dig w A n c x) (hw : Far w w' b) : Dig w' A n c x := ⟨h.1, h.2.1, h.2.2.keep fun k cs fz hc => by
  obtain ⟨cs', t, h1, h2⟩ := hw.near
  refine hw.far k (lt_of_heap hc) fun e => ?_
  subst e
  rw [hc] at h1
  injection h1 with h1; injection h1 with _ h1; exact h2 h1.symm⟩
theorem IntAt.far (h : IntAt w b1 o1 z) (hw : Far w w' b) (hne : b1 ≠ b) : IntAt w' b1 o1 z := by
  obtain ⟨cs, t, A, n, c, h1, h2, h3, h4, h5⟩ := h
  exact ⟨cs, t, A, n, c, (hw.far b1 (lt_of_heap h1) hne).trans h1, h2, h3, h4, h5.far hw⟩
theorem Room.far (h : Room w b1 o1) (hw : Far w w' b) (hne : b1 ≠ b) : Room w' b1 o1 := by
  obtain ⟨cs, t, h1, h2, h3⟩ := h
  exact ⟨cs, t, (hw.far b1 (lt_of_heap h1) hne).trans h1, h2, h3⟩
theorem RatAt.lt (h : RatAt w b r) : b < w.heap.size := h.1.lt
theorem RatAt.room (h : RatAt w b r) : RRoom w b := ⟨h.1.room, h.2.room⟩
theorem RatAt.below (h : RatAt w b r) (hb : Below w.heap.size w w') : RatAt w' b r := ⟨h.1.below hb, h.2.below hb⟩
theorem RatAt.alloc (h : RatAt w b r) (ob : Obj) : RatAt (w.alloc ob) b r := ⟨h.1.alloc ob, h.2.alloc ob⟩
theorem RatAt.far (h : RatAt w b1 r) (hw : Far w w' b) (hne : b1 ≠ b) : RatAt w' b1 r := ⟨h.1.far hw hne, h.2.far hw hne⟩
theorem RatAt.drewN (h : RatAt w b r) (k : Nat) : RatAt (w.drewN k) b r := h
theorem RatAt.but (h : RatAt w b1 r) (hw : But w w' b o) (hne : b1 ≠ b) : RatAt w' b1 r := h.far hw.toFar hne
theorem RRoom.lt (h : RRoom w b) : b < w.heap.size := h.1.lt
theorem RRoom.below (h : RRoom w b) (hb : Below w.heap.size w w') : RRoom w' b := ⟨h.1.below hb, h.2.below hb⟩
theorem RRoom.alloc (h : RRoom w b) (ob : Obj) : RRoom (w.alloc ob) b := ⟨h.1.alloc ob, h.2.alloc ob⟩
theorem RRoom.far (h : RRoom w b1) (hw : Far w w' b) (hne : b1 ≠ b) : RRoom w' b1 := ⟨h.1.far hw hne, h.2.far hw hne⟩
theorem RRoom.but (h : RRoom w b1) (hw : But w w' b o) (hne : b1 ≠ b) : RRoom w' b1 := h.far hw.toFar hne
theorem IntAt.zero (w : World) : IntAt (w.alloc (.cells #[.bool false, .slice none 0 0] 85)) w.heap.size 0 0 :=
  ⟨_, 85, none, 0, 0, heap_alloc_new w _, by decide, rfl, rfl, Dig.nil _ _⟩
theorem Below.cellAt {B : Nat} (h : Below B w w') (hb : b < B) (i : Nat) : w'.cell? ⟨b, i, none⟩ = w.cell? ⟨b, i, none⟩ := by
  simp only [World.cell?, h.block b hb]
theorem Far.cellAt (h : Far w w' b) (hb : b1 < w.heap.size) (hne : b1 ≠ b) (i : Nat) : w'.cell? ⟨b1, i, none⟩ = w.cell? ⟨b1, i, none⟩ := by
  simp only [World.cell?, h.far b1 hb hne]
end

end Go.Proofs.YtjldfclncipbgaaGreatDoor

/- wide.Rat's functions. -/
namespace Go.Proofs.YtjldfclncipbgaaGreatDoor
open Go Go.RowKit Fil

/-- a fraction whose parts have not too many digits -/
def Szd (K : Nat) (r : Rat) : Prop := dn 32 r.num.natAbs ≤ K ∧ dn 32 r.den ≤ K
theorem dn_mul {x y j k : Nat} (hx : dn 32 x ≤ j) (hy : dn 32 y ≤ k) : dn 32 (x * y) ≤ j + k := dn_le (by omega) (by rw [padd]; exact Nat.mul_lt_mul'' (lt_of_dn (by omega) hx) (lt_of_dn (by omega) hy))
theorem dn_add {x y k : Nat} (hx : dn 32 x ≤ k) (hy : dn 32 y ≤ k) : dn 32 (x + y) ≤ k + 1 := dn_le (by omega) (add_lt_succ (by omega) (lt_of_dn (by omega) hx) (lt_of_dn (by omega) hy))
theorem dn_mulI {x y : Int} {j k : Nat} (hx : dn 32 x.natAbs ≤ j) (hy : dn 32 y.natAbs ≤ k) : dn 32 (x * y).natAbs ≤ j + k := by rw [Int.natAbs_mul]; exact dn_mul hx hy
theorem dn_addI {x y : Int} {k : Nat} (hx : dn 32 x.natAbs ≤ k) (hy : dn 32 y.natAbs ≤ k) : dn 32 (x + y).natAbs ≤ k + 1 :=
  Nat.le_trans (dn_mono (by omega) (Int.natAbs_add_le x y)) (dn_add hx hy)
theorem Szd.den {K : Nat} {r : Rat} (h : Szd K r) : dn 32 (r.den : Int).natAbs ≤ K := by rw [Int.natAbs_natCast]; exact h.2
theorem Szd.neg {K : Nat} {r : Rat} (h : Szd K r) : Szd K (-r) := ⟨by rw [Rat.neg_num, Int.natAbs_neg]; exact h.1, h.2⟩
theorem den_mul_ne (x y : Rat) : (x.den : Int) * (y.den : Int) ≠ 0 := Int.mul_ne_zero (den_ne x) (den_ne y)

end Go.Proofs.YtjldfclncipbgaaGreatDoor

/- Blocks by their cells (as in the texts of package gauss); ratio.whole, laid; wide.Rat's Num, Denom. -/
namespace Go.Proofs.YtjldfclncipbgaaGreatDoor
open Go Go.RowKit Go.PlainAid Fil

/-- a block of cells -/
def Blk (w : World) (b : Nat) (cs : Array Value) (t : TypeId) : Prop := w.heap[b]? = some (.cells cs t (0, 0))
section
variable {w w' : World} {b : Nat} {cs : Array Value} {t : TypeId} {v0 v1 v2 v3 : Value}
theorem Blk.lt (h : Blk w b cs t) : b < w.heap.size := lt_of_block h
theorem Blk.put (w : World) (cs : Array Value) (t : TypeId) : Blk (w.alloc (.cells cs t)) w.heap.size cs t := heap_alloc_new w _
theorem Blk.below (h : Blk w b cs t) {B : Nat} (hb : Below B w w') (hB : b < B) : Blk w' b cs t := (hb.block b hB).trans h
theorem Blk.keep (h : Blk w b cs t) (hb : Below w.heap.size w w') : Blk w' b cs t := h.below hb h.lt
theorem Blk.allocd (h : Blk w b cs t) (o : Obj) : Blk (w.alloc o) b cs t := h.keep ((Below.refl _ _).alloc (Nat.le_refl _) _)
theorem Blk.drew (h : Blk w b cs t) : Blk w.drew b cs t := h
theorem Blk.far (h : Blk w b cs t) {b' : Nat} (o : Nat) (v : Value) (hne : b ≠ b') : Blk (w.setCell ⟨b', o, none⟩ v) b cs t := (Below.heap_setCell _ _ _ _ hne).trans h
theorem Blk.at (h : Blk w b cs t) (i : Nat) (hi : i < cs.size) : w.cell? ⟨b, i, none⟩ = some cs[i] := by
  have h' : w.heap[b]? = some (.cells cs t (0, 0)) := h
  simp [World.cell?, h', hi]
theorem Blk.free (h : Blk w b cs t) (i : Nat) : w.frozen? ⟨b, i, none⟩ = false := by
  have h' : w.heap[b]? = some (.cells cs t (0, 0)) := h
  simp [World.frozen?, h']
theorem Blk.setAt (h : Blk w b cs t) (i : Nat) (u : Value) : Blk (w.setCell ⟨b, i, none⟩ u) b (cs.setIfInBounds i u) t := by
  have hlt := Blk.lt h
  have h' : w.heap[b] = .cells cs t (0, 0) := by
    have h0 : w.heap[b]? = some (.cells cs t (0, 0)) := h
    simpa [Array.getElem?_eq_getElem hlt] using h0
  show (w.heap.modify b _)[b]? = _
  rw [Array.getElem?_eq_getElem (by simpa using hlt), Array.getElem_modify_self, h']
  rfl
theorem Blk.ce1 (h : Blk w b #[v0] t) : w.cell? ⟨b, 0, none⟩ = some v0 := Blk.at h 0 (by simp)
theorem Blk.ce3 (h : Blk w b #[v0, v1, v2] t) : w.cell? ⟨b, 0, none⟩ = some v0 ∧ w.cell? ⟨b, 1, none⟩ = some v1 ∧ w.cell? ⟨b, 2, none⟩ = some v2 := ⟨Blk.at h 0 (by simp), Blk.at h 1 (by simp), Blk.at h 2 (by simp)⟩
theorem Blk.fr3 (h : Blk w b #[v0, v1, v2] t) : w.frozen? ⟨b, 0, none⟩ = false ∧ w.frozen? ⟨b, 1, none⟩ = false ∧ w.frozen? ⟨b, 2, none⟩ = false := ⟨Blk.free h 0, Blk.free h 1, Blk.free h 2⟩
end

end Go.Proofs.YtjldfclncipbgaaGreatDoor

/- ratio.rat; ratio.do at each of the four operations. -/
namespace Go.Proofs.YtjldfclncipbgaaGreatDoor
open Go Go.RowKit Go.PlainAid Fil

theorem Szd.mono {K L : Nat} {x : Rat} (h : Szd K x) (hL : K ≤ L) : Szd L x := ⟨Nat.le_trans h.1 hL, Nat.le_trans h.2 hL⟩
end Go.Proofs.YtjldfclncipbgaaGreatDoor

/- wide.Int.GCD; ratio.May. -/
namespace Go.Proofs.YtjldfclncipbgaaGreatDoor
open Go Go.RowKit Go.PlainAid Fil

theorem natB_bstr {x : Nat} (h : Fil.dn 8 x ≤ 16384) : natB (bstr x) = true := by
  unfold natB
  rw [bstr_size]
  by_cases hx : x = 0
  · subst hx; rw [dn_zero]; rfl
  have hp := dn_pos (k := 8) hx
  rw [bstr_bt x 0 hp]
  have ht := dg_top (k := 8) (by omega) hx
  have d1 : decide (Fil.dn 8 x ≤ 16384) = true := decide_eq_true h
  have d2 : ((dg 8 x (Fil.dn 8 x - 1 - 0) : Int) == 0) = false := by rw [beq_eq_false_iff_ne, Nat.sub_zero]; omega
  rw [d1, d2]; simp
theorem nb_bstr (x : Nat) : nb (bstr x).toList = x := by rw [bstr_toList, nb_bs]
end Go.Proofs.YtjldfclncipbgaaGreatDoor

/- slices.Reverse at bytes; rows of bytes of the call's own. -/
namespace Go.Proofs.YtjldfclncipbgaaGreatDoor
open Go Go.RowKit Go.PlainAid Fil

/-- i cells from both ends exchanged -/
def rvs (f : Nat → Value) (n i j : Nat) : Value := if j < n ∧ (j < i ∨ n ≤ i + j) then f (n - 1 - j) else f j
theorem rvs_zero (f : Nat → Value) (n j : Nat) : rvs f n 0 j = f j := by unfold rvs; rw [if_neg (by omega)]
theorem rvs_step {f : Nat → Value} {n i j : Nat} (h : i + i + 1 < n) : (if j = n - 1 - i then f i else if j = i then f (n - 1 - i) else rvs f n i j) = rvs f n (i + 1) j := by
  unfold rvs
  by_cases h1 : j = n - 1 - i
  · subst h1; rw [if_pos rfl, if_pos (by omega), show n - 1 - (n - 1 - i) = i by omega]
  · rw [if_neg h1]
    by_cases h2 : j = i
    · subst h2; rw [if_pos rfl, if_pos (by omega)]
    · rw [if_neg h2]
      by_cases h3 : j < n ∧ (j < i ∨ n ≤ i + j)
      · rw [if_pos h3, if_pos (by omega)]
      · rw [if_neg h3, if_neg (by omega)]
theorem rvs_all {f : Nat → Value} {n i j : Nat} (h : n ≤ i + i + 1) : rvs f n i j = if j < n then f (n - 1 - j) else f j := by
  unfold rvs
  by_cases h1 : j < n
  · rw [if_pos h1]
    by_cases h2 : j < i ∨ n ≤ i + j
    · rw [if_pos ⟨h1, h2⟩]
    · rw [if_neg (fun k => h2 k.2), show n - 1 - j = j by omega]
  · rw [if_neg h1, if_neg (fun k => h1 k.1)]
theorem rvs_lo {f : Nat → Value} {n i : Nat} (h : i + i + 1 < n) : rvs f n i i = f i := by unfold rvs; rw [if_neg (by omega)]
theorem rvs_hi {f : Nat → Value} {n i : Nat} (h : i + i + 1 < n) : rvs f n i (n - 1 - i) = f (n - 1 - i) := by unfold rvs; rw [if_neg (by omega)]
set_option maxRecDepth 1000000 in
set_option maxHeartbeats 4000000 in
theorem reverse_any (g n cap : Nat) (f : Nat → Value) (w : World) (h : w.rowIs g 5 cap f) (hn : n ≤ cap) (hc : n ≤ 1099511627776) (hu : ∀ j, j < n → ∃ x : Nat, f j = .int .u8 x) :
    Calls Tryz.prog 45 #[.slice (some ⟨g, 0, none⟩) n cap] w fun e w' => e = .returned (.tuple #[]) ∧ w'.rowIs g 5 cap (fun j => if j < n then f (n - 1 - j) else f j) ∧ Below g w w' := by
  have lg := h.lt
  have mixed : Tryz.prog.follows .mixedOrders = true := by kernel_rfl
  go_enter Tryz.func45, Tryz.ntmps45
  go_wp2
  go_loopg [2, 3] n (fun gg s2 s3 wr => ∃ i : Nat, i ≤ n ∧ gg = n - i ∧ s2 = .int .i64 i ∧ s3 = .int .i64 ((n : Int) - 1 - i) ∧ wr.rowIs g 5 cap (rvs f n i) ∧ Below g w wr)
  case atStart => exact ⟨0, by omega, by omega, rfl, by go_num, h.congr (fun j _ => (rvs_zero _ _ _).symm), Below.refl _ _⟩
  case round =>
    obtain ⟨i, hi, hg, rfl, rfl, hrow, hbel⟩ := hrel
    by_cases hlt : i + i + 1 < n
    · obtain ⟨k, hk⟩ : ∃ k, k = n - 1 - i := ⟨_, rfl⟩
      have hkc : (n : Int) - 1 - i = (k : Int) := by omega
      have c1 := hrow.cell (i := i) (by omega)
      have c2 := hrow.cell (i := n - 1 - i) (by omega)
      have f1 := hrow.frozen i
      have f2 := hrow.frozen (n - 1 - i)
      rw [rvs_lo hlt] at c1
      rw [rvs_hi hlt, ← hk] at c2
      rw [← hk] at f2
      obtain ⟨x, hx⟩ := hu i (by omega)
      obtain ⟨y, hy⟩ := hu k (by omega)
      rw [hx] at c1
      rw [hy] at c2
      rw [hkc]
      have hik : i < k := by omega
      have hkn : k < n := by omega
      have hne : ¬ i = k := by omega
      have hin : i < n := by omega
      have Hk := Lib.hid (And.intro hk (And.intro hlt (And.intro hg (And.intro hx hy))))
      clear hk hkc hlt hg hx hy hu
      go_wp2_with fail
      go_region_o
      go_wp2
      go_roundg (n - (i + 1))
      case measure => have := Hk.out; omega
      case rel =>
        refine ⟨i + 1, by omega, rfl, by go_num, congrArg (Value.int IntKind.i64) (by have := Hk.out; omega), ((hrow.set i _).set k _).drew.congr (fun j _ => ?_), ((hbel.setCell (Nat.le_refl _) _).setCell (Nat.le_refl _) _).drew⟩
        rw [← rvs_step Hk.out.2.1, ← Hk.out.1, Hk.out.2.2.2.1, Hk.out.2.2.2.2]
    · have hlt' : ¬ (i : Int) < (n : Int) - 1 - i := by omega
      have Hl := Lib.hid hlt
      clear hlt hg
      go_wp2
      go_end0
      exact ⟨rfl, hrow.congr (fun j _ => rvs_all (by have := Hl.out; omega)), hbel⟩

/-- a row of bytes that the call has made -/
def OwnB (w : World) (B : Nat) (v : Value) (l : List UInt8) : Prop := w.ownsRow B 5 1 v l.length (l.map fun c => .int .u8 (c.toNat : Int))
theorem OwnB.nil (w : World) (B : Nat) : OwnB w B (.slice none 0 0) [] := World.ownsRow_nil _ _ _ _
theorem OwnB.row {w : World} {B : Nat} {v : Value} {l : List UInt8} (h : OwnB w B v l) (h0 : l ≠ []) : ∃ (g cap : Nat) (f : Nat → Value), v = .slice (some ⟨g, 0, none⟩) l.length cap ∧ B ≤ g ∧ l.length ≤ cap ∧ w.rowIs g 5 cap f ∧ ∀ (j : Nat) (hj : j < l.length), f j = .int .u8 (l[j].toNat : Int) := by
  rcases h.2 with ⟨_, h1⟩ | ⟨g, cap, cur, hv, hg, hh, hc, hx, hs, ht⟩
  · exact absurd (List.eq_nil_of_length_eq_zero h1) h0
  · refine ⟨g, cap, fun j => cur.getD j undef, hv, hg, hc, ⟨cur, hh, by simpa using hs, fun i hi => ?_⟩, fun j hj => ?_⟩
    · have : i < cur.size := by rw [show cur.size = cap by simpa using hs]; exact hi
      simp [this]
    · have h1 : (cur.toList.take (l.length * 1))[j]? = (l.map fun c => Value.int .u8 (c.toNat : Int))[j]? := by rw [ht]
      rw [List.getElem?_take_of_lt (by omega), List.getElem?_map, List.getElem?_eq_getElem hj] at h1
      have h2 : cur[j]? = some (.int .u8 (l[j].toNat : Int)) := by simpa using h1
      show cur.getD j undef = _
      rw [Array.getD_eq_getD_getElem?, h2]; rfl
end Go.Proofs.YtjldfclncipbgaaGreatDoor
