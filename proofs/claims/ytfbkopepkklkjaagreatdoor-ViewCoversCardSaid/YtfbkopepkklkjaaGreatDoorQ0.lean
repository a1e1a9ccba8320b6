/- Whole arrays stored and loaded, out of and into blocks of their own. -/
import Derived.Test.YtfbkopepkklkjaaGreatDoorG3
import Derived.Deep.MidRow
import Derived.Deep.WholeRow
import Derived.LoopN
namespace Go.Proofs.YtfbkopepkklkjaaGreatDoor
open Go Go.RowKit Go.PlainAid Fil

theorem Blk.inRow {w : World} {b : Nat} {cs : Array Value} {t : TypeId} (h : Blk w b cs t) (c' : Array Value) : Blk (w.setRow b c') b c' t := setRow_heap _ _ _ _ _ _ h
theorem Blk.outRow {w : World} {b : Nat} {cs : Array Value} {t : TypeId} (h : Blk w b cs t) {b' : Nat} (c' : Array Value) (hne : b ≠ b') : Blk (w.setRow b' c') b cs t := (setRow_other _ _ _ _ hne).trans h
theorem below_setRow {w w' : World} {B : Nat} (h : Below B w w') {b : Nat} (hB : B ≤ b) (c : Array Value) : Below B w (w'.setRow b c) :=
 ⟨h.os, h.tape, h.output, by rw [setRow_size]; exact h.size, fun k hk => (setRow_other _ _ _ _ (by omega)).trans (h.block k hk)⟩
/-- some cells of a row turned -/
def spl : Array Value → Nat → List Value → Array Value
 | cs, _, [] => cs
 | cs, o, v :: r => spl (cs.setIfInBounds o v) (o + 1) r
theorem setRow_self {w : World} {b : Nat} {cs : Array Value} {t : TypeId} (h : Blk w b cs t) : w.setRow b cs = w := by
 have hh : (w.setRow b cs).heap = w.heap := by
  apply Array.ext_getElem?
  intro k
  by_cases hk : k = b
  ·subst hk; rw [setRow_heap w k cs cs t (0, 0) h]; exact h.symm
  ·exact setRow_other w b k cs hk
 unfold World.setRow at hh ⊢
 cases w
 simp only at hh ⊢
 rw [hh]
theorem setCells_row {b : Nat} {t : TypeId} : ∀ (vs : List Value) (o : Nat) (cs : Array Value) (w : World), Blk w b cs t → w.setCells b o vs = w.setRow b (spl cs o vs)
 | [], _, cs, w, h => (setRow_self h).symm
 | v :: r, o, cs, w, h => by
  rw [World.setCells, setCell_eq_setRow w b o cs t (0, 0) v h, setCells_row r (o + 1) (cs.setIfInBounds o v) _ (h.inRow _), setRow_setRow]
  rfl
theorem spl_eq : ∀ (vs : List Value) (o : Nat) (cs : Array Value), o + vs.length ≤ cs.size → spl cs o vs = (cs.toList.take o ++ vs ++ cs.toList.drop (o + vs.length)).toArray
 | [], o, cs, _ => by simp [spl]
 | v :: r, o, cs, h => by
  have hl : o < cs.toList.length := by simp at h ⊢; omega
  rw [spl, spl_eq r (o + 1) (cs.setIfInBounds o v) (by simp at h ⊢; omega), Array.toList_setIfInBounds, List.take_add_one, List.take_set_of_le (Nat.le_refl _), List.drop_set_of_lt (by omega), List.getElem?_set_self hl]
  simp [Nat.add_comm, Nat.add_left_comm]
section
variable {P : Program} {ops : Array Oper} {rest : List Oper} {op : Oper} {a : Act} {w : World} {Q : Exit → Act → World → Prop}
theorem wpList_store_row (hgd : op.guard = none) (ty : TypeId) (x y : Operand) (ho : op.op = .store ty x y)
  (b : Nat) (c cells : Array Value) (hx : a.eval x = .pointer (some ⟨b, 0, none⟩)) (hy : a.eval y = .agg cells) (hb : Blk w b c ty) (hi : (P.info? ty).map (·.size) = some cells.size) (hs : c.size = cells.size) (h1 : cells.all (·.oneCell') = true)
  (h : wpList P ops Q rest (a.put op.dst undef) (w.setRow b cells)) : wpList P ops Q (op :: rest) a w :=
 wpList_plain hgd fun K hK => by
  unfold Oper.wp execOp
  simp only [ho, hx, hy, Instr.storeAt, Instr.sureAddr, Sem.run_bind, Sem.run_pure, Result.andThen_ok, run_storeVar_row w b ty ty c cells hb hi hs h1]
  exact hK _ _ h
theorem wpList_load_row (hgd : op.guard = none) (ty : TypeId) (x : Operand) (ho : op.op = .load ty x)
  (b : Nat) (c : Array Value) (n : Nat) (e : TypeId) (hx : a.eval x = .pointer (some ⟨b, 0, none⟩)) (hb : Blk w b c ty) (hu : P.underlying ty = some (.array n e)) (hi : (P.info? ty).map (·.size) = some c.size)
  (h : wpList P ops Q rest (a.put op.dst (.agg c)) w) : wpList P ops Q (op :: rest) a w :=
 wpList_plain hgd fun K hK => by
  unfold Oper.wp execOp
  simp only [ho, hx, Instr.loadAt, Instr.sureAddr, Sem.run_bind, Sem.run_pure, Result.andThen_ok, run_loadVar_row w b ty ty c (0, 0) (.array n e) hb hu rfl hi]
  exact hK _ _ h
theorem wpList_val (hgd : op.guard = none) (v : Value) (hr : (execOp a.eval op).run P w = .ok (.value v) w)
  (h : wpList P ops Q rest (a.put op.dst v) w) : wpList P ops Q (op :: rest) a w :=
 wpList_plain hgd fun K hK => by
  unfold Oper.wp
  rw [hr]
  exact hK _ _ h
theorem run_build_zero (w : World) (t e : TypeId) (n k : Nat) (Z : Array Value) (hz : ∀ w, (zeroValue t).run P w = .ok (.agg Z) w) (hu : P.underlying t = some (.array n e)) (hk : ∀ w, (sizeOf e).run P w = .ok k w) : (Instr.build t #[]).run P w = .ok (.agg Z) w := by
 unfold Instr.build
 simp [Sem.run_bind, hz, run_underlying hu, hk, Instr.fill, Value.cells]
theorem wpList_zero (hgd : op.guard = none) (t e : TypeId) (n k : Nat) (Z : Array Value) (ho : op.op = .build t #[]) (hz : ∀ w, (zeroValue t).run P w = .ok (.agg Z) w) (hu : P.underlying t = some (.array n e)) (hk : ∀ w, (sizeOf e).run P w = .ok k w)
  (h : wpList P ops Q rest (a.put op.dst (.agg Z)) w) : wpList P ops Q (op :: rest) a w :=
 wpList_val hgd (.agg Z) (by
  unfold execOp
  rw [ho]
  simp [run_build_zero w t e n k Z hz hu hk, Result.andThen]) h
theorem wpList_move (hgd : op.guard = none) (x : Operand) (ho : op.op = .move x ∨ op.op = .assign x) (v : Value) (hv : a.eval x = v)
  (h : wpList P ops Q rest (a.put op.dst v) w) : wpList P ops Q (op :: rest) a w := by
 subst hv
 exact wpList_val hgd (a.eval x) (by unfold execOp; rcases ho with ho | ho <;> rw [ho] <;> rfl) h
theorem wpList_store_elem (hgd : op.guard = none) (ty : TypeId) (x y : Operand) (ho : op.op = .store ty x y)
  (b o : Nat) (c cells new : Array Value) (t : TypeId) (hx : a.eval x = .pointer (some ⟨b, o, none⟩)) (hy : a.eval y = .agg cells) (hn : (c.toList.take o ++ cells.toList ++ c.toList.drop (o + cells.toList.length)).toArray = new) (hb : Blk w b c t) (hi : (P.info? ty).map (·.size) = some cells.size) (hs : o + cells.size ≤ c.size) (h1 : cells.all (·.oneCell') = true)
  (h : wpList P ops Q rest (a.put op.dst undef) (w.setRow b new)) : wpList P ops Q (op :: rest) a w := by
 rw [← spl_eq cells.toList o c (by simpa using hs)] at hn
 subst hn
 rw [← setCells_row cells.toList o c w hb] at h
 have ht : w.there b o cells.size := fun j hj => ⟨by rw [hb.at (o + j) (by omega)]; rfl, hb.free _⟩
 exact wpList_store_mid hgd ty x y ho b o cells hx hy ht hi h1 h
theorem wpList_load_elem (hgd : op.guard = none) (ty : TypeId) (x : Operand) (ho : op.op = .load ty x)
  (b o n : Nat) (c : Array Value) (t : TypeId) (cs : List Value) (d : TypeDesc) (hx : a.eval x = .pointer (some ⟨b, o, none⟩)) (hb : Blk w b c t) (hc : (c.toList.drop o).take n = cs) (hu : P.underlying ty = some d) (hd : d.isRow = true) (hi : (P.info? ty).map (·.size) = some cs.length)
  (h : wpList P ops Q rest (a.put op.dst (.agg cs.toArray)) w) : wpList P ops Q (op :: rest) a w := by
 refine wpList_load_mid hgd ty x ho b o hx cs d (fun j v hv => ?_) hu hd hi h
 subst hc
 have h1 : c.toList[o + j]? = some v := by
  rw [List.getElem?_take] at hv
  split at hv
  ·rw [List.getElem?_drop] at hv; exact hv
  ·cases hv
 have hlt := (List.getElem?_eq_some_iff.1 h1).1
 rw [hb.at (o + j) (by simpa using hlt)]
 have h2 := (List.getElem?_eq_some_iff.1 h1).2
 rw [← h2]
 simp
theorem wpList_elem (hgd : op.guard = none) (ty : TypeId) (x y : Operand) (ho : op.op = .indexAddr ty x y)
  (b n sz o : Nat) (e : TypeId) (k : Int) (hx : a.eval x = .pointer (some ⟨b, 0, none⟩)) (hy : a.eval y = .int .i64 k) (hu : P.underlying ty = some (.array n e)) (hz : ∀ w, (sizeOf e).run P w = .ok sz w) (h0 : 0 ≤ k) (h1 : k < n) (hoff : k.toNat * sz = o)
  (h : wpList P ops Q rest (a.put op.dst (.pointer (some ⟨b, o, none⟩))) w) : wpList P ops Q (op :: rest) a w :=
 wpList_val hgd (.pointer (some ⟨b, o, none⟩)) (by
  unfold execOp
  rw [ho]
  simp [hx, hy, Instr.indexAt, run_underlying hu, Instr.sureAddr, asIntOf, h0, h1, hz, hoff, Addr.add_mid, Result.andThen]) h
theorem wpList_index (hgd : op.guard = none) (ty : TypeId) (x y : Operand) (ho : op.op = .index ty x y)
  (n sz : Nat) (c vs : Array Value) (e : TypeId) (k : Int) (hx : a.eval x = .agg c) (hy : a.eval y = .int .i64 k) (hu : P.underlying ty = some (.array n e)) (hz : ∀ w, (sizeOf e).run P w = .ok sz w) (hg : ∀ w, (isAgg e).run P w = .ok true w) (h0 : 0 ≤ k) (h1 : k < n) (hv : (c.toList.drop (k.toNat * sz)).take sz = vs.toList)
  (h : wpList P ops Q rest (a.put op.dst (.agg vs)) w) : wpList P ops Q (op :: rest) a w := by
 have he : c.extract (k.toNat * sz) (k.toNat * sz + sz) = vs := by
  apply Array.toList_inj.1
  rw [← hv, Array.toList_extract, List.extract_eq_take_drop]
  congr 1
  omega
 exact wpList_val hgd (.agg vs) (by
  unfold execOp
  rw [ho]
  simp [hx, hy, Instr.index, run_underlying hu, asIntOf, h0, h1, hz, hg, part, he, Result.andThen]) h
theorem wpList_extract (hgd : op.guard = none) (x : Operand) (i : Nat) (ho : op.op = .extract x i) (vs : Array Value) (v : Value) (hx : a.eval x = .tuple vs) (hv : vs[i]? = some v)
  (h : wpList P ops Q rest (a.put op.dst v) w) : wpList P ops Q (op :: rest) a w :=
 wpList_val hgd v (by
  unfold execOp
  rw [ho]
  simp [hx, hv, Instr.extract]) h
theorem wpList_new (hgd : op.guard = none) (t : TypeId) (ho : op.op = .alloc t) (Z : Array Value) (hz : ∀ w, (zeroValue t).run P w = .ok (.agg Z) w)
  (h : wpList P ops Q rest (a.put op.dst (.pointer (some ⟨w.heap.size, 0, none⟩))) (w.alloc (.cells Z t))) : wpList P ops Q (op :: rest) a w :=
 wpList_plain hgd fun K hK => by
  unfold Oper.wp execOp
  simp only [ho]
  have hr : (Instr.alloc t true (.tuple #[])).run P w = .ok (.pointer (some ⟨w.heap.size, 0, none⟩)) (w.alloc (.cells Z t)) := by
   simp [Instr.alloc, hz, go_sem]
  simp only [Sem.run_bind, hr, Result.andThen_ok, Sem.run_pure]
  exact hK _ _ h
theorem wpList_store_new (hgd : op.guard = none) (ty : TypeId) (x y : Operand) (ho : op.op = .store ty x y)
  (c cells : Array Value) (hx : a.eval x = .pointer (some ⟨w.heap.size, 0, none⟩)) (hy : a.eval y = .agg cells) (hi : (P.info? ty).map (·.size) = some cells.size) (hs : c.size = cells.size) (h1 : cells.all (·.oneCell') = true)
  (h : wpList P ops Q rest (a.put op.dst undef) (w.alloc (.cells cells ty))) : wpList P ops Q (op :: rest) a (w.alloc (.cells c ty)) :=
 wpList_store_row hgd ty x y ho w.heap.size c cells hx hy (Blk.put w c ty) hi hs h1 (by rw [World.setRow_alloc_new]; exact h)
/-- a result of two: a whole array out of its cell, and a number -/
theorem results_row {fn : Func} {tmps : Array Value} {w : World} {x y : Nat} {ty : TypeId} (hr : fn.results = #[.cell x ty, .tmp y]) (b : Nat) (c : Array Value) (n : Nat) (e : TypeId) (v : Value) (hx : tmps.getD x undef = .pointer (some ⟨b, 0, none⟩)) (hy : tmps.getD y undef = v)
  (hb : Blk w b c ty) (hu : P.underlying ty = some (.array n e)) (hi : (P.info? ty).map (·.size) = some c.size) : (results fn tmps).run P w = .ok (.tuple #[.agg c, v]) w := by
 unfold results
 rw [Array.getD_eq_getD_getElem?] at hx hy
 rw [hr]
 simp [hx, hy, asAddr, run_loadVar_row w b ty ty c (0, 0) (.array n e) hb hu rfl hi, Result.andThen]
end
end Go.Proofs.YtfbkopepkklkjaaGreatDoor
