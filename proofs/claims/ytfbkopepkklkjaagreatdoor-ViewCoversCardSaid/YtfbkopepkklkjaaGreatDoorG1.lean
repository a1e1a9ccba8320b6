/- Gauss: values, their boxes; the keeper of package gauss and its closures. -/
import Derived.Test.YtfbkopepkklkjaaGreatDoorBN
import Derived.OneCell
namespace Go.Proofs.YtfbkopepkklkjaaGreatDoor
open Go Go.RowKit Go.PlainAid Fil

/-- all blocks but K are as they were -/
structure KB (K : Nat) (w w' : World) : Prop where
 os : w'.os = w.os
 tape : w'.tape = w.tape
 output : w'.output = w.output
 size : w.heap.size ≤ w'.heap.size
 far : ∀ k, k < w.heap.size → k ≠ K → w'.heap[k]? = w.heap[k]?
section
variable {K : Nat} {w w' w'' : World}
theorem KB.refl (K : Nat) (w : World) : KB K w w := ⟨rfl, rfl, rfl, Nat.le_refl _, fun _ _ _ => rfl⟩
theorem KB.trans (h : KB K w w') (k : KB K w' w'') : KB K w w'' :=
 ⟨k.os.trans h.os, k.tape.trans h.tape, k.output.trans h.output, Nat.le_trans h.size k.size, fun i hi hk => (k.far i (Nat.lt_of_lt_of_le hi h.size) hk).trans (h.far i hi hk)⟩
theorem KB.of (h : Below w.heap.size w w') : KB K w w' := ⟨h.os, h.tape, h.output, h.size, fun k hk _ => h.block k hk⟩
theorem KB.then (h : KB K w w') (k : Below w'.heap.size w' w'') : KB K w w'' := h.trans (KB.of k)
theorem KB.alloc (h : KB K w w') (o : Obj) : KB K w (w'.alloc o) := h.then ((Below.refl _ _).alloc (Nat.le_refl _) o)
/-- a store into K, or into a block of the call's own -/
theorem KB.setCell (h : KB K w w') {b : Nat} (o : Nat) (v : Value) (hb : b = K ∨ w.heap.size ≤ b) : KB K w (w'.setCell ⟨b, o, none⟩ v) :=
 ⟨h.os, h.tape, h.output, by show _ ≤ (w'.heap.modify b _).size; rw [Array.size_modify]; exact h.size, fun i hi hk => (Below.heap_setCell _ _ _ _ (by show i ≠ b; omega)).trans (h.far i hi hk)⟩
theorem KB.below (h : KB K w w') {B : Nat} (hB : B ≤ K) (hs : B ≤ w.heap.size) : Below B w w' := ⟨h.os, h.tape, h.output, h.size, fun k hk => h.far k (by omega) (by omega)⟩
end

/-- a block of cells -/
def Blk (w : World) (b : Nat) (cs : Array Value) (t : TypeId) : Prop := w.heap[b]? = some (.cells cs t (0, 0))
section
variable {w w' : World} {b : Nat} {cs : Array Value} {t : TypeId}
theorem Blk.lt (h : Blk w b cs t) : b < w.heap.size := lt_of_block h
theorem Blk.put (w : World) (cs : Array Value) (t : TypeId) : Blk (w.alloc (.cells cs t)) w.heap.size cs t := heap_alloc_new w _
theorem Blk.below (h : Blk w b cs t) {B : Nat} (hb : Below B w w') (hB : b < B) : Blk w' b cs t := (hb.block b hB).trans h
theorem Blk.keep (h : Blk w b cs t) (hb : Below w.heap.size w w') : Blk w' b cs t := h.below hb h.lt
theorem Blk.allocd (h : Blk w b cs t) (o : Obj) : Blk (w.alloc o) b cs t := h.keep ((Below.refl _ _).alloc (Nat.le_refl _) _)
theorem Blk.drew (h : Blk w b cs t) : Blk w.drew b cs t := h
theorem Blk.kb {K : Nat} (h : Blk w b cs t) (hb : KB K w w') (hne : b ≠ K) : Blk w' b cs t := (hb.far b h.lt hne).trans h
theorem Blk.far (h : Blk w b cs t) {b' : Nat} (o : Nat) (v : Value) (hne : b ≠ b') : Blk (w.setCell ⟨b', o, none⟩ v) b cs t := (Below.heap_setCell _ _ _ _ hne).trans h
theorem Blk.set1 {v : Value} (h : Blk w b #[v] t) (u : Value) : Blk (w.setCell ⟨b, 0, none⟩ u) b #[u] t := one_setCell h
theorem Blk.one {v : Value} (h : Blk w b #[v] t) : w.cell? ⟨b, 0, none⟩ = some v ∧ w.frozen? ⟨b, 0, none⟩ = false := ⟨cell_of_one h, free_of_one h⟩
theorem Blk.at (h : Blk w b cs t) (i : Nat) (hi : i < cs.size) : w.cell? ⟨b, i, none⟩ = some cs[i] := by
 have h' : w.heap[b]? = some (.cells cs t (0, 0)) := h
 simp [World.cell?, h', hi]
theorem Blk.free (h : Blk w b cs t) (i : Nat) : w.frozen? ⟨b, i, none⟩ = false := by
 have h' : w.heap[b]? = some (.cells cs t (0, 0)) := h
 simp [World.frozen?, h']
end
/-- a keeper -/
def KAt (w : World) (K : Nat) (e : Int) : Prop := Blk w K #[.int .i64 e] 136
/-- what a closure of the keeper has captured -/
def KOp (w : World) (N K b : Nat) : Prop := Blk w b #[.pointer (some ⟨K, 0, none⟩)] 134 ∧ Blk w (b + 1) #[.func (.func N) #[] #[]] 139
theorem KOp.keep {w w' : World} {N K b : Nat} (h : KOp w N K b) (hb : Below w.heap.size w w') : KOp w' N K b := ⟨Blk.keep h.1 hb, Blk.keep h.2 hb⟩
theorem KOp.drew {w : World} {N K b : Nat} (h : KOp w N K b) : KOp w.drew N K b := h
theorem KOp.allocd {w : World} {N K b : Nat} (h : KOp w N K b) (o : Obj) : KOp (w.alloc o) N K b := ⟨h.1.allocd o, h.2.allocd o⟩
theorem KOp.kb {w w' : World} {N K b : Nat} (h : KOp w N K b) (hb : KB K w w') (h1 : K < b) : KOp w' N K b := ⟨Blk.kb h.1 hb (by omega), Blk.kb h.2 hb (by omega)⟩

set_option maxHeartbeats 1000000 in
/-- a closure is made -/
theorem kept_make (N K : Nat) (w : World) :
  Calls Tryz.prog 78 #[.pointer (some ⟨K, 0, none⟩), .func (.func N) #[] #[]] w fun r w' => (∃ b, b = w.heap.size ∧ r = .returned (.func (.func 120) #[] #[.pointer (some ⟨b, 0, none⟩), .pointer (some ⟨b + 1, 0, none⟩)]) ∧ KOp w' N K b) ∧ Below w.heap.size w w' := by
 have h1 := Blk.put w #[.pointer (some ⟨K, 0, none⟩)] 134
 have h2 := Blk.put (w.alloc (.cells #[.pointer (some ⟨K, 0, none⟩)] 134)) #[.func (.func N) #[] #[]] 139
 rw [show (w.alloc (.cells #[.pointer (some ⟨K, 0, none⟩)] 134)).heap.size = w.heap.size + 1 by simp] at h2
 have HR : KOp ((w.alloc (.cells #[.pointer (some ⟨K, 0, none⟩)] 134)).alloc (.cells #[.func (.func N) #[] #[]] 139)) N K w.heap.size := ⟨h1.allocd _, h2⟩
 have HB : Below w.heap.size w ((w.alloc (.cells #[.pointer (some ⟨K, 0, none⟩)] 134)).alloc (.cells #[.func (.func N) #[] #[]] 139)) := ((Below.refl _ _).alloc (Nat.le_refl _) _).alloc (by simp) _
 have hmf : ∀ (fn : Fn) (first cap : Array Value) (w : World), (Instr.makeFunc fn first cap).run Tryz.prog w = .ok (.func fn first cap) w := fun _ _ _ _ => rfl
 clear h1 h2
 go_enter Tryz.func78, Tryz.ntmps78
 go_wp2
 go_ret
 exact ⟨⟨_, rfl, rfl, HR⟩, HB⟩

/-- what the keeper holds after one more operation; what the operation gives -/
def ke (e : Int) (p : DY × Int) : Int := if e = 0 then p.2 else e
def kv (e : Int) (p : DY × Int) : DY := if e = 0 then p.1 else DY.zero
theorem ke_go (p : DY × Int) : ke 0 p = p.2 := rfl
theorem kv_go (p : DY × Int) : kv 0 p = p.1 := rfl
theorem ke_stop {e : Int} (h : ¬ e = 0) (p : DY × Int) : ke e p = e := if_neg h
theorem kv_stop {e : Int} (h : ¬ e = 0) (p : DY × Int) : kv e p = DY.zero := if_neg h

/-! generated: the closures -/
set_option maxHeartbeats 2000000 in
theorem kcadd (a b : DY) (e : Int) (K c : Nat) (w : World) (ha : a.ok) (hb : b.ok) (hT : Tab w) (hK : KAt w K e) (ho : KOp w 94 K c) (_hc : K < c) :
  Calls Tryz.prog 120 #[.agg #[.bool a.n, .string (bstr a.x), .int .i64 a.e], .agg #[.bool b.n, .string (bstr b.x), .int .i64 b.e], .pointer (some ⟨c, 0, none⟩), .pointer (some ⟨c + 1, 0, none⟩)] w fun r w' => r = .returned (.agg #[.bool (kv e (yAdd a b)).n, .string (bstr (kv e (yAdd a b)).x), .int .i64 (kv e (yAdd a b)).e]) ∧ KAt w' K (ke e (yAdd a b)) ∧ KB K w w' := by
 have D0 := ((DyAt.put w a.n (bstr a.x) a.e).allocd (.cells #[.bool b.n, .string (bstr b.x), .int .i64 b.e] 24)).allocd (.cells #[.bool false, .string { data := #[] }, .int .i64 0] 24)
 have D1 := (DyAt.put (w.alloc (.cells #[.bool a.n, .string (bstr a.x), .int .i64 a.e] 24)) b.n (bstr b.x) b.e).allocd (.cells #[.bool false, .string { data := #[] }, .int .i64 0] 24)
 rw [show (w.alloc (.cells #[.bool a.n, .string (bstr a.x), .int .i64 a.e] 24)).heap.size = w.heap.size + 1 by simp] at D1
 have D2 := DyAt.put ((w.alloc (.cells #[.bool a.n, .string (bstr a.x), .int .i64 a.e] 24)).alloc (.cells #[.bool b.n, .string (bstr b.x), .int .i64 b.e] 24)) false { data := #[] } 0
 rw [show ((w.alloc (.cells #[.bool a.n, .string (bstr a.x), .int .i64 a.e] 24)).alloc (.cells #[.bool b.n, .string (bstr b.x), .int .i64 b.e] 24)).heap.size = w.heap.size + 1 + 1 by simp] at D2
 have K0 := ((Blk.allocd hK (.cells #[.bool a.n, .string (bstr a.x), .int .i64 a.e] 24)).allocd (.cells #[.bool b.n, .string (bstr b.x), .int .i64 b.e] 24)).allocd (.cells #[.bool false, .string { data := #[] }, .int .i64 0] 24)
 have O0 := ((ho.allocd (.cells #[.bool a.n, .string (bstr a.x), .int .i64 a.e] 24)).allocd (.cells #[.bool b.n, .string (bstr b.x), .int .i64 b.e] 24)).allocd (.cells #[.bool false, .string { data := #[] }, .int .i64 0] 24)
 have B0 := (((KB.refl K w).alloc (.cells #[.bool a.n, .string (bstr a.x), .int .i64 a.e] 24)).alloc (.cells #[.bool b.n, .string (bstr b.x), .int .i64 b.e] 24)).alloc (.cells #[.bool false, .string { data := #[] }, .int .i64 0] 24)
 have T0 := (((hT.below ((Below.refl w.heap.size w))).below ((Below.refl _ _).alloc (Nat.le_refl _) (.cells #[.bool a.n, .string (bstr a.x), .int .i64 a.e] 24))).below ((Below.refl _ _).alloc (Nat.le_refl _) (.cells #[.bool b.n, .string (bstr b.x), .int .i64 b.e] 24))).below ((Below.refl _ _).alloc (Nat.le_refl _) (.cells #[.bool false, .string { data := #[] }, .int .i64 0] 24))
 have hlt := Blk.lt hK
 have hlo := Blk.lt ho.2
 have L1 : w.heap.size ≤ w.heap.size + 1 + 1 := by omega
 clear hT hK ho
 obtain ⟨k0, k1⟩ := K0.one
 obtain ⟨o0, -⟩ := O0.1.one
 obtain ⟨o1, -⟩ := O0.2.one
 by_cases he : e = 0
 ·subst he
  rw [ke_go, kv_go]
  have hop := fun W hW => cadd a b W ha hb hW
  generalize yAdd a b = R at *
  obtain ⟨⟨rn, rx, re⟩, rr⟩ := R
  dsimp only at hop ⊢
  generalize bstr rx = rs at *
  clear ha hb
  obtain ⟨x00, x01, x02, -, -, -⟩ := id D0
  obtain ⟨x10, x11, x12, -, -, -⟩ := id D1
  go_enter Tryz.func120, Tryz.ntmps120
  go_wp2_with fail
  (with_reducible refine (hop _ T0).mono ?_)
  rintro r w1 ⟨rfl, hb1⟩
  clear x00 x01 x02 x10 x11 x12 k0 k1 o0 o1
  replace D2 := (D2.keep hb1).allocd (.cells #[.bool rn, .string rs, .int .i64 re] 24)
  have D3 := DyAt.put w1 rn rs re
  replace K0 := (Blk.keep K0 hb1).allocd (.cells #[.bool rn, .string rs, .int .i64 re] 24)
  replace O0 := (O0.keep hb1).allocd (.cells #[.bool rn, .string rs, .int .i64 re] 24)
  replace B0 := (B0.then hb1).alloc (.cells #[.bool rn, .string rs, .int .i64 re] 24)
  have hs1 : w.heap.size + 1 + 1 + 1 ≤ w1.heap.size := by
   have := hb1.size
   simpa using this
  clear hb1
  obtain ⟨k0, k1⟩ := K0.one
  obtain ⟨o0, -⟩ := O0.1.one
  obtain ⟨x30, x31, x32, -, -, -⟩ := id D3
  obtain ⟨x20, x21, x22, y20, y21, y22⟩ := id D2
  have n1 : K ≠ w1.heap.size := by omega
  have n2 : K ≠ w.heap.size + 1 + 1 := by omega
  have Q0 := Blk.set1 K0 (.int .i64 rr)
  have Q1 := ((Q0.far 0 (.bool rn) n2).far 1 (.string rs) n2).far 2 (.int .i64 re) n2
  have Q2 := (((B0.setCell 0 (.int .i64 rr) (.inl rfl)).setCell 0 (.bool rn) (.inr L1)).setCell 1 (.string rs) (.inr L1)).setCell 2 (.int .i64 re) (.inr L1)
  clear Q0
  go_wp2
  exact bodyPost_ret (v := .agg #[.bool rn, .string rs, .int .i64 re]) (by simp [results, Tryz.results120, go_sem, x20, x21, x22]) rfl ⟨rfl, Q1, Q2⟩
 ·rw [ke_stop he, kv_stop he]
  have he2 : (e != 0) = true := by simpa using he
  obtain ⟨x20, x21, x22, y20, y21, y22⟩ := id D2
  rw [show DY.zero.n = false from rfl, show bstr DY.zero.x = { data := #[] } from bstr_zero, show DY.zero.e = 0 from rfl]
  clear ha hb
  go_enter Tryz.func120, Tryz.ntmps120
  go_wp2
  exact bodyPost_ret (v := .agg #[.bool false, .string { data := #[] }, .int .i64 0]) (by simp [results, Tryz.results120, go_sem, x20, x21, x22]) rfl ⟨rfl, K0, B0⟩

set_option maxHeartbeats 2000000 in
theorem kcsub (a b : DY) (e : Int) (K c : Nat) (w : World) (ha : a.ok) (hb : b.ok) (hT : Tab w) (hK : KAt w K e) (ho : KOp w 79 K c) (_hc : K < c) :
  Calls Tryz.prog 120 #[.agg #[.bool a.n, .string (bstr a.x), .int .i64 a.e], .agg #[.bool b.n, .string (bstr b.x), .int .i64 b.e], .pointer (some ⟨c, 0, none⟩), .pointer (some ⟨c + 1, 0, none⟩)] w fun r w' => r = .returned (.agg #[.bool (kv e (ySub a b)).n, .string (bstr (kv e (ySub a b)).x), .int .i64 (kv e (ySub a b)).e]) ∧ KAt w' K (ke e (ySub a b)) ∧ KB K w w' := by
 have D0 := ((DyAt.put w a.n (bstr a.x) a.e).allocd (.cells #[.bool b.n, .string (bstr b.x), .int .i64 b.e] 24)).allocd (.cells #[.bool false, .string { data := #[] }, .int .i64 0] 24)
 have D1 := (DyAt.put (w.alloc (.cells #[.bool a.n, .string (bstr a.x), .int .i64 a.e] 24)) b.n (bstr b.x) b.e).allocd (.cells #[.bool false, .string { data := #[] }, .int .i64 0] 24)
 rw [show (w.alloc (.cells #[.bool a.n, .string (bstr a.x), .int .i64 a.e] 24)).heap.size = w.heap.size + 1 by simp] at D1
 have D2 := DyAt.put ((w.alloc (.cells #[.bool a.n, .string (bstr a.x), .int .i64 a.e] 24)).alloc (.cells #[.bool b.n, .string (bstr b.x), .int .i64 b.e] 24)) false { data := #[] } 0
 rw [show ((w.alloc (.cells #[.bool a.n, .string (bstr a.x), .int .i64 a.e] 24)).alloc (.cells #[.bool b.n, .string (bstr b.x), .int .i64 b.e] 24)).heap.size = w.heap.size + 1 + 1 by simp] at D2
 have K0 := ((Blk.allocd hK (.cells #[.bool a.n, .string (bstr a.x), .int .i64 a.e] 24)).allocd (.cells #[.bool b.n, .string (bstr b.x), .int .i64 b.e] 24)).allocd (.cells #[.bool false, .string { data := #[] }, .int .i64 0] 24)
 have O0 := ((ho.allocd (.cells #[.bool a.n, .string (bstr a.x), .int .i64 a.e] 24)).allocd (.cells #[.bool b.n, .string (bstr b.x), .int .i64 b.e] 24)).allocd (.cells #[.bool false, .string { data := #[] }, .int .i64 0] 24)
 have B0 := (((KB.refl K w).alloc (.cells #[.bool a.n, .string (bstr a.x), .int .i64 a.e] 24)).alloc (.cells #[.bool b.n, .string (bstr b.x), .int .i64 b.e] 24)).alloc (.cells #[.bool false, .string { data := #[] }, .int .i64 0] 24)
 have T0 := (((hT.below ((Below.refl w.heap.size w))).below ((Below.refl _ _).alloc (Nat.le_refl _) (.cells #[.bool a.n, .string (bstr a.x), .int .i64 a.e] 24))).below ((Below.refl _ _).alloc (Nat.le_refl _) (.cells #[.bool b.n, .string (bstr b.x), .int .i64 b.e] 24))).below ((Below.refl _ _).alloc (Nat.le_refl _) (.cells #[.bool false, .string { data := #[] }, .int .i64 0] 24))
 have hlt := Blk.lt hK
 have hlo := Blk.lt ho.2
 have L1 : w.heap.size ≤ w.heap.size + 1 + 1 := by omega
 clear hT hK ho
 obtain ⟨k0, k1⟩ := K0.one
 obtain ⟨o0, -⟩ := O0.1.one
 obtain ⟨o1, -⟩ := O0.2.one
 by_cases he : e = 0
 ·subst he
  rw [ke_go, kv_go]
  have hop := fun W hW => csub a b W ha hb hW
  generalize ySub a b = R at *
  obtain ⟨⟨rn, rx, re⟩, rr⟩ := R
  dsimp only at hop ⊢
  generalize bstr rx = rs at *
  clear ha hb
  obtain ⟨x00, x01, x02, -, -, -⟩ := id D0
  obtain ⟨x10, x11, x12, -, -, -⟩ := id D1
  go_enter Tryz.func120, Tryz.ntmps120
  go_wp2_with fail
  (with_reducible refine (hop _ T0).mono ?_)
  rintro r w1 ⟨rfl, hb1⟩
  clear x00 x01 x02 x10 x11 x12 k0 k1 o0 o1
  replace D2 := (D2.keep hb1).allocd (.cells #[.bool rn, .string rs, .int .i64 re] 24)
  have D3 := DyAt.put w1 rn rs re
  replace K0 := (Blk.keep K0 hb1).allocd (.cells #[.bool rn, .string rs, .int .i64 re] 24)
  replace O0 := (O0.keep hb1).allocd (.cells #[.bool rn, .string rs, .int .i64 re] 24)
  replace B0 := (B0.then hb1).alloc (.cells #[.bool rn, .string rs, .int .i64 re] 24)
  have hs1 : w.heap.size + 1 + 1 + 1 ≤ w1.heap.size := by
   have := hb1.size
   simpa using this
  clear hb1
  obtain ⟨k0, k1⟩ := K0.one
  obtain ⟨o0, -⟩ := O0.1.one
  obtain ⟨x30, x31, x32, -, -, -⟩ := id D3
  obtain ⟨x20, x21, x22, y20, y21, y22⟩ := id D2
  have n1 : K ≠ w1.heap.size := by omega
  have n2 : K ≠ w.heap.size + 1 + 1 := by omega
  have Q0 := Blk.set1 K0 (.int .i64 rr)
  have Q1 := ((Q0.far 0 (.bool rn) n2).far 1 (.string rs) n2).far 2 (.int .i64 re) n2
  have Q2 := (((B0.setCell 0 (.int .i64 rr) (.inl rfl)).setCell 0 (.bool rn) (.inr L1)).setCell 1 (.string rs) (.inr L1)).setCell 2 (.int .i64 re) (.inr L1)
  clear Q0
  go_wp2
  exact bodyPost_ret (v := .agg #[.bool rn, .string rs, .int .i64 re]) (by simp [results, Tryz.results120, go_sem, x20, x21, x22]) rfl ⟨rfl, Q1, Q2⟩
 ·rw [ke_stop he, kv_stop he]
  have he2 : (e != 0) = true := by simpa using he
  obtain ⟨x20, x21, x22, y20, y21, y22⟩ := id D2
  rw [show DY.zero.n = false from rfl, show bstr DY.zero.x = { data := #[] } from bstr_zero, show DY.zero.e = 0 from rfl]
  clear ha hb
  go_enter Tryz.func120, Tryz.ntmps120
  go_wp2
  exact bodyPost_ret (v := .agg #[.bool false, .string { data := #[] }, .int .i64 0]) (by simp [results, Tryz.results120, go_sem, x20, x21, x22]) rfl ⟨rfl, K0, B0⟩

set_option maxHeartbeats 2000000 in
theorem kcmul (a b : DY) (e : Int) (K c : Nat) (w : World) (ha : a.ok) (hb : b.ok) (hT : Tab w) (hK : KAt w K e) (ho : KOp w 83 K c) (_hc : K < c) :
  Calls Tryz.prog 120 #[.agg #[.bool a.n, .string (bstr a.x), .int .i64 a.e], .agg #[.bool b.n, .string (bstr b.x), .int .i64 b.e], .pointer (some ⟨c, 0, none⟩), .pointer (some ⟨c + 1, 0, none⟩)] w fun r w' => r = .returned (.agg #[.bool (kv e (yMul a b)).n, .string (bstr (kv e (yMul a b)).x), .int .i64 (kv e (yMul a b)).e]) ∧ KAt w' K (ke e (yMul a b)) ∧ KB K w w' := by
 have D0 := ((DyAt.put w a.n (bstr a.x) a.e).allocd (.cells #[.bool b.n, .string (bstr b.x), .int .i64 b.e] 24)).allocd (.cells #[.bool false, .string { data := #[] }, .int .i64 0] 24)
 have D1 := (DyAt.put (w.alloc (.cells #[.bool a.n, .string (bstr a.x), .int .i64 a.e] 24)) b.n (bstr b.x) b.e).allocd (.cells #[.bool false, .string { data := #[] }, .int .i64 0] 24)
 rw [show (w.alloc (.cells #[.bool a.n, .string (bstr a.x), .int .i64 a.e] 24)).heap.size = w.heap.size + 1 by simp] at D1
 have D2 := DyAt.put ((w.alloc (.cells #[.bool a.n, .string (bstr a.x), .int .i64 a.e] 24)).alloc (.cells #[.bool b.n, .string (bstr b.x), .int .i64 b.e] 24)) false { data := #[] } 0
 rw [show ((w.alloc (.cells #[.bool a.n, .string (bstr a.x), .int .i64 a.e] 24)).alloc (.cells #[.bool b.n, .string (bstr b.x), .int .i64 b.e] 24)).heap.size = w.heap.size + 1 + 1 by simp] at D2
 have K0 := ((Blk.allocd hK (.cells #[.bool a.n, .string (bstr a.x), .int .i64 a.e] 24)).allocd (.cells #[.bool b.n, .string (bstr b.x), .int .i64 b.e] 24)).allocd (.cells #[.bool false, .string { data := #[] }, .int .i64 0] 24)
 have O0 := ((ho.allocd (.cells #[.bool a.n, .string (bstr a.x), .int .i64 a.e] 24)).allocd (.cells #[.bool b.n, .string (bstr b.x), .int .i64 b.e] 24)).allocd (.cells #[.bool false, .string { data := #[] }, .int .i64 0] 24)
 have B0 := (((KB.refl K w).alloc (.cells #[.bool a.n, .string (bstr a.x), .int .i64 a.e] 24)).alloc (.cells #[.bool b.n, .string (bstr b.x), .int .i64 b.e] 24)).alloc (.cells #[.bool false, .string { data := #[] }, .int .i64 0] 24)
 have T0 := (((hT.below ((Below.refl w.heap.size w))).below ((Below.refl _ _).alloc (Nat.le_refl _) (.cells #[.bool a.n, .string (bstr a.x), .int .i64 a.e] 24))).below ((Below.refl _ _).alloc (Nat.le_refl _) (.cells #[.bool b.n, .string (bstr b.x), .int .i64 b.e] 24))).below ((Below.refl _ _).alloc (Nat.le_refl _) (.cells #[.bool false, .string { data := #[] }, .int .i64 0] 24))
 have hlt := Blk.lt hK
 have hlo := Blk.lt ho.2
 have L1 : w.heap.size ≤ w.heap.size + 1 + 1 := by omega
 clear hT hK ho
 obtain ⟨k0, k1⟩ := K0.one
 obtain ⟨o0, -⟩ := O0.1.one
 obtain ⟨o1, -⟩ := O0.2.one
 by_cases he : e = 0
 ·subst he
  rw [ke_go, kv_go]
  have hop := fun W hW => cmul a b W ha hb hW
  generalize yMul a b = R at *
  obtain ⟨⟨rn, rx, re⟩, rr⟩ := R
  dsimp only at hop ⊢
  generalize bstr rx = rs at *
  clear ha hb
  obtain ⟨x00, x01, x02, -, -, -⟩ := id D0
  obtain ⟨x10, x11, x12, -, -, -⟩ := id D1
  go_enter Tryz.func120, Tryz.ntmps120
  go_wp2_with fail
  (with_reducible refine (hop _ T0).mono ?_)
  rintro r w1 ⟨rfl, hb1⟩
  clear x00 x01 x02 x10 x11 x12 k0 k1 o0 o1
  replace D2 := (D2.keep hb1).allocd (.cells #[.bool rn, .string rs, .int .i64 re] 24)
  have D3 := DyAt.put w1 rn rs re
  replace K0 := (Blk.keep K0 hb1).allocd (.cells #[.bool rn, .string rs, .int .i64 re] 24)
  replace O0 := (O0.keep hb1).allocd (.cells #[.bool rn, .string rs, .int .i64 re] 24)
  replace B0 := (B0.then hb1).alloc (.cells #[.bool rn, .string rs, .int .i64 re] 24)
  have hs1 : w.heap.size + 1 + 1 + 1 ≤ w1.heap.size := by
   have := hb1.size
   simpa using this
  clear hb1
  obtain ⟨k0, k1⟩ := K0.one
  obtain ⟨o0, -⟩ := O0.1.one
  obtain ⟨x30, x31, x32, -, -, -⟩ := id D3
  obtain ⟨x20, x21, x22, y20, y21, y22⟩ := id D2
  have n1 : K ≠ w1.heap.size := by omega
  have n2 : K ≠ w.heap.size + 1 + 1 := by omega
  have Q0 := Blk.set1 K0 (.int .i64 rr)
  have Q1 := ((Q0.far 0 (.bool rn) n2).far 1 (.string rs) n2).far 2 (.int .i64 re) n2
  have Q2 := (((B0.setCell 0 (.int .i64 rr) (.inl rfl)).setCell 0 (.bool rn) (.inr L1)).setCell 1 (.string rs) (.inr L1)).setCell 2 (.int .i64 re) (.inr L1)
  clear Q0
  go_wp2
  exact bodyPost_ret (v := .agg #[.bool rn, .string rs, .int .i64 re]) (by simp [results, Tryz.results120, go_sem, x20, x21, x22]) rfl ⟨rfl, Q1, Q2⟩
 ·rw [ke_stop he, kv_stop he]
  have he2 : (e != 0) = true := by simpa using he
  obtain ⟨x20, x21, x22, y20, y21, y22⟩ := id D2
  rw [show DY.zero.n = false from rfl, show bstr DY.zero.x = { data := #[] } from bstr_zero, show DY.zero.e = 0 from rfl]
  clear ha hb
  go_enter Tryz.func120, Tryz.ntmps120
  go_wp2
  exact bodyPost_ret (v := .agg #[.bool false, .string { data := #[] }, .int .i64 0]) (by simp [results, Tryz.results120, go_sem, x20, x21, x22]) rfl ⟨rfl, K0, B0⟩
end Go.Proofs.YtfbkopepkklkjaaGreatDoor
