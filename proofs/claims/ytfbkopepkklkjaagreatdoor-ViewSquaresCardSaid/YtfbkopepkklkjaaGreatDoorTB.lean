/- Whole arrays of four Gausses, of four squares are equal to themselves. -/
import Derived.Test.YtfbkopepkklkjaaGreatDoorTA
import Derived.ChangeKeysEq
namespace Go.Proofs.YtfbkopepkklkjaaGreatDoor
open Go Go.RowKit Go.PlainAid Fil

theorem c_Gauss : Tryz.prog.cellsOf 28 = 6 := by kernel_rfl
theorem i_Gauss : ∃ i, Tryz.prog.info? 28 = some i := Option.isSome_iff_exists.1 (by kernel_rfl)
set_option maxRecDepth 100000 in
set_option maxHeartbeats 2000000 in
theorem eq24 (n0 n1 n2 n3 n4 n5 n6 n7 : Bool) (s0 s1 s2 s3 s4 s5 s6 s7 : ByteArray) (e0 e1 e2 e3 e4 e5 e6 e7 : Int) (w : World) : (Op.equalIn 10000 29 (.agg #[.bool n0, .string s0, .int .i64 e0, .bool n1, .string s1, .int .i64 e1, .bool n2, .string s2, .int .i64 e2, .bool n3, .string s3, .int .i64 e3, .bool n4, .string s4, .int .i64 e4, .bool n5, .string s5, .int .i64 e5, .bool n6, .string s6, .int .i64 e6, .bool n7, .string s7, .int .i64 e7]) (.agg #[.bool n0, .string s0, .int .i64 e0, .bool n1, .string s1, .int .i64 e1, .bool n2, .string s2, .int .i64 e2, .bool n3, .string s3, .int .i64 e3, .bool n4, .string s4, .int .i64 e4, .bool n5, .string s5, .int .i64 e5, .bool n6, .string s6, .int .i64 e6, .bool n7, .string s7, .int .i64 e7])).run Tryz.prog w = .ok true w := by
  obtain ⟨i, hi⟩ := i_Gauss
  have h := run_equalIn_array (P := Tryz.prog) w 9999 #[.bool n0, .string s0, .int .i64 e0, .bool n1, .string s1, .int .i64 e1, .bool n2, .string s2, .int .i64 e2, .bool n3, .string s3, .int .i64 e3, .bool n4, .string s4, .int .i64 e4, .bool n5, .string s5, .int .i64 e5, .bool n6, .string s6, .int .i64 e6, .bool n7, .string s7, .int .i64 e7] #[.bool n0, .string s0, .int .i64 e0, .bool n1, .string s1, .int .i64 e1, .bool n2, .string s2, .int .i64 e2, .bool n3, .string s3, .int .i64 e3, .bool n4, .string s4, .int .i64 e4, .bool n5, .string s5, .int .i64 e5, .bool n6, .string s6, .int .i64 e6, .bool n7, .string s7, .int .i64 e7] Tryz.underlying29 hi
  rw [c_Gauss, show List.range 4 = [0, 1, 2, 3] from rfl] at h
  refine h.trans ?_
  simp only [Op.eqItems]
  go_simp
theorem c_Square : Tryz.prog.cellsOf 26 = 7 := by kernel_rfl
theorem i_Square : ∃ i, Tryz.prog.info? 26 = some i := Option.isSome_iff_exists.1 (by kernel_rfl)
set_option maxRecDepth 100000 in
set_option maxHeartbeats 2000000 in
theorem eq28 (n0 n1 n2 n3 n4 n5 n6 n7 : Bool) (s0 s1 s2 s3 s4 s5 s6 s7 : ByteArray) (e0 e1 e2 e3 e4 e5 e6 e7 : Int) (x0 x1 x2 x3 : Int) (w : World) : (Op.equalIn 10000 37 (.agg #[.bool n0, .string s0, .int .i64 e0, .bool n1, .string s1, .int .i64 e1, .int .i64 x0, .bool n2, .string s2, .int .i64 e2, .bool n3, .string s3, .int .i64 e3, .int .i64 x1, .bool n4, .string s4, .int .i64 e4, .bool n5, .string s5, .int .i64 e5, .int .i64 x2, .bool n6, .string s6, .int .i64 e6, .bool n7, .string s7, .int .i64 e7, .int .i64 x3]) (.agg #[.bool n0, .string s0, .int .i64 e0, .bool n1, .string s1, .int .i64 e1, .int .i64 x0, .bool n2, .string s2, .int .i64 e2, .bool n3, .string s3, .int .i64 e3, .int .i64 x1, .bool n4, .string s4, .int .i64 e4, .bool n5, .string s5, .int .i64 e5, .int .i64 x2, .bool n6, .string s6, .int .i64 e6, .bool n7, .string s7, .int .i64 e7, .int .i64 x3])).run Tryz.prog w = .ok true w := by
  obtain ⟨i, hi⟩ := i_Square
  have h := run_equalIn_array (P := Tryz.prog) w 9999 #[.bool n0, .string s0, .int .i64 e0, .bool n1, .string s1, .int .i64 e1, .int .i64 x0, .bool n2, .string s2, .int .i64 e2, .bool n3, .string s3, .int .i64 e3, .int .i64 x1, .bool n4, .string s4, .int .i64 e4, .bool n5, .string s5, .int .i64 e5, .int .i64 x2, .bool n6, .string s6, .int .i64 e6, .bool n7, .string s7, .int .i64 e7, .int .i64 x3] #[.bool n0, .string s0, .int .i64 e0, .bool n1, .string s1, .int .i64 e1, .int .i64 x0, .bool n2, .string s2, .int .i64 e2, .bool n3, .string s3, .int .i64 e3, .int .i64 x1, .bool n4, .string s4, .int .i64 e4, .bool n5, .string s5, .int .i64 e5, .int .i64 x2, .bool n6, .string s6, .int .i64 e6, .bool n7, .string s7, .int .i64 e7, .int .i64 x3] Tryz.underlying37 hi
  rw [c_Square, show List.range 4 = [0, 1, 2, 3] from rfl] at h
  refine h.trans ?_
  simp only [Op.eqItems]
  go_simp
theorem exec_load_row {P : Program} {op : Oper} {ρ : Operand → Value} {w : World} (ty : TypeId) (x : Operand) (ho : op.op = .load ty x)
    (b : Nat) (c : Array Value) (n : Nat) (e : TypeId) (hx : ρ x = .pointer (some ⟨b, 0, none⟩)) (hb : Blk w b c ty) (hu : P.underlying ty = some (.array n e)) (hi : (P.info? ty).map (·.size) = some c.size) : (execOp ρ op).run P w = .ok (.value (.agg c)) w := by
  unfold execOp
  simp only [ho, hx, Instr.loadAt, Instr.sureAddr, Sem.run_bind, Sem.run_pure, Result.andThen_ok, run_loadVar_row w b ty ty c (0, 0) (.array n e) hb hu rfl hi]
/-- a whole array loaded, the operation guarded or not -/
theorem wpList_load_row_g {P : Program} {ops : Array Oper} {rest : List Oper} {op : Oper} {a : Act} {w : World} {Q : Exit → Act → World → Prop} (hwant : Region.wanted op (yielded ops a.tmps) = true) (ty : TypeId) (x : Operand) (ho : op.op = .load ty x)
    (b : Nat) (c : Array Value) (n : Nat) (e : TypeId) (hx : a.eval x = .pointer (some ⟨b, 0, none⟩)) (hb : Blk w b c ty) (hu : P.underlying ty = some (.array n e)) (hi : (P.info? ty).map (·.size) = some c.size)
    (h : wpList P ops Q rest (a.put op.dst (.agg c)) w) : wpList P ops Q (op :: rest) a w :=
  wpList_step fun K hK => by
    rw [hwant]
    simp only [if_true]
    unfold Oper.wp execOp
    simp only [ho, hx, Instr.loadAt, Instr.sureAddr, Sem.run_bind, Sem.run_pure, Result.andThen_ok, run_loadVar_row w b ty ty c (0, 0) (.array n e) hb hu rfl hi]
    exact hK _ _ h
end Go.Proofs.YtfbkopepkklkjaaGreatDoor
