/- filigreelaw04.RatioLong at all inputs. -/
import Derived.Test.YtbfnafcpjbdbpaaRP
namespace Go.Proofs.Ytbfnafcpjbdbpaa
open Go Go.RowKit Go.PlainAid Fil

set_option maxRecDepth 1000000 in
set_option maxHeartbeats 16000000 in
theorem long_far (n m x N M : Int) (w : World) (hN : (100000 : Int) + n.tmod 31000 = N)
    (hM : m.tmod 60000 = M)
    (hN0 : 69000 ≤ N)
    (hN1 : N ≤ 131000)
    (hMn : M < 0)
    (hl : ∀ W, Calls Try.prog 7 #[] W fun r w' => r = .returned (.bool true) ∧ Below W.heap.size W w') :
    Calls Try.prog 6 #[.int .i64 n, .int .i64 m, .int .i64 x] w fun r w' => r = .returned (.bool true) ∧ Below w.heap.size w w' := by
  go_enter Try.func6, Try.ntmps6
  have B0 := Below.refl w.heap.size w
  go_wp2_with fail
  (with_reducible refine (hl _).mono ?_)
  rintro r w1 ⟨rfl, hb1⟩
  replace B0 := B0.trans (hb1.mono B0.size)
  clear hb1
  go_wp2
  go_ret
  exact ⟨rfl, B0⟩
/-- a text of one byte over and over -/
def ba_rep (n : Nat) (c : UInt8) : ByteArray := ⟨(List.replicate n c).toArray⟩
theorem conv_row (W : World) (g o n : Nat) (c : UInt8) (N cap : Nat) (hN : o + n ≤ N) (h : W.rowIs g 5 N (fun _ => .int .u8 (c.toNat : Int))) :
    (convert 47 9 (.slice (some ⟨g, o, none⟩) n cap)).run Try.prog W = .ok (.string (ba_rep n c)) W := by
  have := run_convert_bytes_back (P := Try.prog) W 47 9 5 ⟨g, o, none⟩ cap (List.replicate n c) Try.underlying47 Try.underlying5 Try.underlying9 (fun j hj => by
    rw [List.length_replicate] at hj
    have h1 := h.cell (i := o + j) (by omega)
    have e : (Addr.add ⟨g, o, none⟩ j) = ⟨g, o + j, none⟩ := by unfold Addr.add; split <;> simp_all
    rw [e, h1, List.getElem_replicate])
  rw [List.length_replicate] at this
  exact this

set_option maxRecDepth 1000000 in
set_option maxHeartbeats 16000000 in
theorem long_0 (n m x N M Z : Int) (U V : ByteArray) (on : Bool) (oS oT : ByteArray) (oe : Int) (w : World) (hN : (100000 : Int) + n.tmod 31000 = N)
    (hM : m.tmod 60000 = M)
    (hN0 : 69000 ≤ N)
    (hN1 : N ≤ 131000)
    (hMn : 0 ≤ M)
    (hM1 : M ≤ 60000)
    (h1 : ∀ W, Calls Try.prog 21 #[.int .i64 N] W fun r w' => r = .returned (.string U) ∧ Below W.heap.size W w')
    (h2 : ∀ W, Calls Try.prog 21 #[.int .i64 M] W fun r w' => r = .returned (.string V) ∧ Below W.heap.size W w')
    (h3 : ∀ W, Calls Try.prog 10 #[.agg #[.bool false, .string U, .string { data := #[1] }], .agg #[.bool false, .string V, .string { data := #[3] }]] W fun r w' => r = .returned (.tuple #[.agg #[.bool false, .string { data := #[] }, .string { data := #[] }], .int .i64 4]) ∧ Below W.heap.size W w')
    (hS : N + M = Z)
    (hZ0 : Z ≤ 200000)
    (hZ : ¬ Z < 131072)
    (h5 : ∀ W, Calls Try.prog 22 #[.agg #[.bool false, .string { data := #[1] }, .int .i64 x]] W fun r w' => r = .returned (.tuple #[.agg #[.bool on, .string oS, .string oT], .int .i64 oe]) ∧ Below W.heap.size W w')
    (h6 : ∀ W, Calls Try.prog 23 #[.agg #[.bool false, .string { data := #[1] }, .int .i64 x]] W fun r w' => r = .returned (.tuple #[.agg #[.bool on, .string oS, .string oT], .int .i64 oe]) ∧ Below W.heap.size W w')
    (h7 : ∀ W, Calls Try.prog 18 #[.string (ones 4097)] W fun r w' => r = .returned (.tuple #[.agg #[.bool false, .string { data := #[] }, .string { data := #[] }], .int .i64 4]) ∧ Below W.heap.size W w')
    (dn : Bool) (dS dT : ByteArray)
    (h8 : ∀ W, Calls Try.prog 18 #[.string (ones 4096)] W fun r w' => r = .returned (.tuple #[.agg #[.bool dn, .string dS, .string dT], .int .i64 0]) ∧ Below W.heap.size W w')
    (h9 : ∀ W, Calls Try.prog 19 #[.string (ones 4097)] W fun r w' => r = .returned (.tuple #[.float .f64 0, .int .i64 4]) ∧ Below W.heap.size W w')
    (h10 : ∀ W, Calls Try.prog 17 #[.string (exes 80001)] W fun r w' => r = .returned (.tuple #[.agg #[.bool false, .string { data := #[] }, .string { data := #[] }], .int .i64 4]) ∧ Below W.heap.size W w')
    (h11 : ∀ W, Calls Try.prog 17 #[.string (exes 80000)] W fun r w' => r = .returned (.tuple #[.agg #[.bool false, .string { data := #[] }, .string { data := #[] }], .int .i64 40]) ∧ Below W.heap.size W w')
    (hl : ∀ W, Calls Try.prog 7 #[] W fun r w' => r = .returned (.bool true) ∧ Below W.heap.size W w') :
    Calls Try.prog 6 #[.int .i64 n, .int .i64 m, .int .i64 x] w fun r w' => r = .returned (.bool true) ∧ Below w.heap.size w w' := by
  go_enter Try.func6, Try.ntmps6
  have B0 := Below.refl w.heap.size w
  go_wp2_with fail
  (with_reducible refine (h1 _).mono ?_)
  rintro r w1 ⟨rfl, hb1⟩
  replace B0 := B0.trans (hb1.mono B0.size)
  clear hb1
  have F7 := Blk.put (w1) #[.bool false, .string U, (Value.string { data := #[1] })] 25
  replace B0 := B0.alloc B0.size (.cells #[.bool false, .string U, (Value.string { data := #[1] })] 25)
  go_wp2_with fail
  (with_reducible refine (h2 _).mono ?_)
  rintro r w2 ⟨rfl, hb2⟩
  replace F7 := F7.keep hb2
  replace B0 := B0.trans (hb2.mono B0.size)
  clear hb2
  replace F7 := F7.allocd (.cells #[.bool false, .string V, (Value.string { data := #[3] })] 25)
  have F8 := Blk.put (w2) #[.bool false, .string V, (Value.string { data := #[3] })] 25
  replace B0 := B0.alloc B0.size (.cells #[.bool false, .string V, (Value.string { data := #[3] })] 25)
  obtain ⟨xF72_0, xF72_1, xF72_2⟩ := F7.ce3
  obtain ⟨xF82_0, xF82_1, xF82_2⟩ := F8.ce3
  go_wp2_with fail
  (with_reducible refine (h3 _).mono ?_)
  rintro r w3 ⟨rfl, hb3⟩
  clear xF72_0 xF72_1 xF72_2 xF82_0 xF82_1 xF82_2
  replace F7 := F7.keep hb3
  replace F8 := F8.keep hb3
  replace B0 := B0.trans (hb3.mono B0.size)
  clear hb3
  clear F7
  clear F8
  have F9 := Blk.put (w3) #[.bool false, .string { data := #[] }, .string { data := #[] }] 25
  replace B0 := B0.alloc B0.size (.cells #[.bool false, .string { data := #[] }, .string { data := #[] }] 25)
  obtain ⟨xF93_0, xF93_1, xF93_2⟩ := F9.ce3
  go_wp2_with fail
  (with_reducible refine (h5 _).mono ?_)
  rintro r w4 ⟨rfl, hb4⟩
  clear xF93_0 xF93_1 xF93_2
  replace F9 := F9.keep hb4
  replace B0 := B0.trans (hb4.mono B0.size)
  clear hb4
  clear F9
  have F11 := Blk.put (w4) #[.bool on, .string oS, .string oT] 25
  replace B0 := B0.alloc B0.size (.cells #[.bool on, .string oS, .string oT] 25)
  go_wp2_with fail
  (with_reducible refine (h6 _).mono ?_)
  rintro r w5 ⟨rfl, hb5⟩
  replace F11 := F11.keep hb5
  replace B0 := B0.trans (hb5.mono B0.size)
  clear hb5
  replace F11 := F11.allocd (.cells #[.bool on, .string oS, .string oT] 25)
  have F13 := Blk.put (w5) #[.bool on, .string oS, .string oT] 25
  replace B0 := B0.alloc B0.size (.cells #[.bool on, .string oS, .string oT] 25)
  obtain ⟨xF115_0, xF115_1, xF115_2⟩ := F11.ce3
  obtain ⟨xF135_0, xF135_1, xF135_2⟩ := F13.ce3
  go_upto_region 16 with fail
  clear xF115_0 xF115_1 xF115_2 xF135_0 xF135_1 xF135_2
  clear F11
  clear F13
  generalize (w5).alloc (.cells #[.bool on, .string oS, .string oT] 25) = v1 at *
  have hmk1 := run_make_row' (P := Try.prog) 47 5 (.int .u8 0) 1 Try.underlying47 Try.info5 rfl .i64 .i64 4097 (by omega) (by omega)
  rw [show ((4097 : Nat) : Int) = 4097 from rfl] at hmk1
  have hmk2 := run_make_row' (P := Try.prog) 47 5 (.int .u8 0) 1 Try.underlying47 Try.info5 rfl .i64 .i64 80001 (by omega) (by omega)
  rw [show ((80001 : Nat) : Int) = 80001 from rfl] at hmk2
  have B8 := Lib.hid B0.size
  go_wp2
  go_loopg [16] 4097 (fun g sI wr => ∃ i : Nat, i ≤ 4097 ∧ g = 4097 - i ∧ sI = .int .i64 (i : Int) ∧ wr.rowIs v1.heap.size 5 4097 (fun j => if j < i then .int .u8 49 else .int .u8 0) ∧ Below w.heap.size w wr)
  case atStart => exact ⟨0, by omega, rfl, rfl, (World.rowIs_made v1 _ 4097 5).congr (fun j _ => by rw [if_neg (by omega)]), B0.alloc B0.size _⟩
  case round =>
    obtain ⟨i, hi, hg, rfl, hrow, hbel⟩ := hrel
    have Hg := Lib.hid hg
    clear hg
    by_cases hin : i < 4097
    · have k2 := hrow.cell (i := i) hin
      rw [if_neg (by omega)] at k2
      have k3 := hrow.frozen i
      have P0 : (0 : Int) ≤ (i : Int) := by omega
      have P1 : (i : Int) < 4097 := by omega
      have hrow2 := (hrow.set i (.int .u8 49)).congr (g := fun j => if j < i + 1 then Value.int .u8 49 else .int .u8 0) (fun j _ => by
        by_cases h : j = i
        · rw [if_pos h, if_pos (by omega)]
        · rw [if_neg h]
          by_cases h2 : j < i
          · rw [if_pos h2, if_pos (by omega)]
          · rw [if_neg h2, if_neg (by omega)])
      have hbel2 := hbel.setCell (p := ⟨v1.heap.size, i, none⟩) B8.out (.int .u8 49)
      have HV := Lib.hid (And.intro hrow2 hbel2)
      clear hrow2 hbel2
      go_wp2
      go_roundg (4097 - (i + 1))
      case measure => have := Hg.out; omega
      case rel => exact ⟨i + 1, by omega, rfl, by go_num, HV.out.1, HV.out.2⟩
    · obtain rfl : i = 4097 := by omega
      replace hrow := hrow.congr (g := fun _ => Value.int .u8 49) (fun j hj => if_pos hj)
      clear hi hin Hg
      have B0 := hbel
      clear hbel
      have HC := Lib.hid (fun W h => conv_row W v1.heap.size 0 4097 49 4097 4097 (by omega) h)
      have HC1 := Lib.hid (fun W h => conv_row W v1.heap.size 1 4096 49 4097 4096 (by omega) h)
      have cv := HC.out _ hrow
      rw [show (ba_rep 4097 49) = ones 4097 from rfl] at cv
      go_wp2_with fail
      refine (h7 _).mono ?_
      rintro r w3 ⟨rfl, hb9⟩
      replace hrow := row_keep hrow hb9
      replace B0 := B0.trans (hb9.mono B0.size)
      clear hb9
      clear cv
      replace hrow := hrow.alloc (.cells #[.bool false, .string { data := #[] }, .string { data := #[] }] 25)
      replace B0 := B0.alloc B0.size (.cells #[.bool false, .string { data := #[] }, .string { data := #[] }] 25)
      have cv := HC1.out _ hrow
      rw [show (ba_rep 4096 49) = ones 4096 from rfl] at cv
      go_wp2_with fail
      refine (h8 _).mono ?_
      rintro r w4 ⟨rfl, hb9⟩
      replace hrow := row_keep hrow hb9
      replace B0 := B0.trans (hb9.mono B0.size)
      clear hb9
      clear cv
      replace hrow := hrow.alloc (.cells #[.bool dn, .string dS, .string dT] 25)
      replace B0 := B0.alloc B0.size (.cells #[.bool dn, .string dS, .string dT] 25)
      have cv := HC.out _ hrow
      rw [show (ba_rep 4097 49) = ones 4097 from rfl] at cv
      go_wp2_with fail
      refine (h9 _).mono ?_
      rintro r w5 ⟨rfl, hb9⟩
      replace hrow := row_keep hrow hb9
      replace B0 := B0.trans (hb9.mono B0.size)
      clear hb9
      clear cv hrow HC HC1
      go_upto_region 24 with fail
      obtain ⟨v9, hv9⟩ : ∃ v9, v9 = w5 := ⟨_, rfl⟩
      rw [← hv9] at B0 ⊢
      have B9 := Lib.hid B0.size
      clear hv9 hmk1
      go_wp2
      go_loopg [24] 80001 (fun g sI wr => ∃ i : Nat, i ≤ 80001 ∧ g = 80001 - i ∧ sI = .int .i64 (i : Int) ∧ wr.rowIs v9.heap.size 5 80001 (fun j => if j < i then .int .u8 120 else .int .u8 0) ∧ Below w.heap.size w wr)
      case atStart => exact ⟨0, by omega, rfl, rfl, (World.rowIs_made v9 _ 80001 5).congr (fun j _ => by rw [if_neg (by omega)]), B0.alloc B0.size _⟩
      case round =>
        obtain ⟨i, hi, hg, rfl, hrow, hbel⟩ := hrel
        have Hg := Lib.hid hg
        clear hg
        by_cases hin : i < 80001
        · have k2 := hrow.cell (i := i) hin
          rw [if_neg (by omega)] at k2
          have k3 := hrow.frozen i
          have P0 : (0 : Int) ≤ (i : Int) := by omega
          have P1 : (i : Int) < 80001 := by omega
          have hrow2 := (hrow.set i (.int .u8 120)).congr (g := fun j => if j < i + 1 then Value.int .u8 120 else .int .u8 0) (fun j _ => by
            by_cases h : j = i
            · rw [if_pos h, if_pos (by omega)]
            · rw [if_neg h]
              by_cases h2 : j < i
              · rw [if_pos h2, if_pos (by omega)]
              · rw [if_neg h2, if_neg (by omega)])
          have hbel2 := hbel.setCell (p := ⟨v9.heap.size, i, none⟩) B9.out (.int .u8 120)
          have HV := Lib.hid (And.intro hrow2 hbel2)
          clear hrow2 hbel2
          go_wp2
          go_roundg (80001 - (i + 1))
          case measure => have := Hg.out; omega
          case rel => exact ⟨i + 1, by omega, rfl, by go_num, HV.out.1, HV.out.2⟩
        · obtain rfl : i = 80001 := by omega
          replace hrow := hrow.congr (g := fun _ => Value.int .u8 120) (fun j hj => if_pos hj)
          clear hi hin Hg
          have B0 := hbel
          clear hbel
          have HC := Lib.hid (fun W h => conv_row W v9.heap.size 0 80001 120 80001 80001 (by omega) h)
          have HC1 := Lib.hid (fun W h => conv_row W v9.heap.size 1 80000 120 80001 80000 (by omega) h)
          have cv := HC.out _ hrow
          rw [show (ba_rep 80001 120) = exes 80001 from rfl] at cv
          go_wp2_with fail
          refine (h10 _).mono ?_
          rintro r w6 ⟨rfl, hb9⟩
          replace hrow := row_keep hrow hb9
          replace B0 := B0.trans (hb9.mono B0.size)
          clear hb9
          clear cv
          replace hrow := hrow.alloc (.cells #[.bool false, .string { data := #[] }, .string { data := #[] }] 25)
          replace B0 := B0.alloc B0.size (.cells #[.bool false, .string { data := #[] }, .string { data := #[] }] 25)
          have cv := HC1.out _ hrow
          rw [show (ba_rep 80000 120) = exes 80000 from rfl] at cv
          go_wp2_with fail
          refine (h11 _).mono ?_
          rintro r w7 ⟨rfl, hb9⟩
          replace hrow := row_keep hrow hb9
          replace B0 := B0.trans (hb9.mono B0.size)
          clear hb9
          clear cv
          replace B0 := B0.alloc B0.size (.cells #[.bool false, .string { data := #[] }, .string { data := #[] }] 25)
          go_wp2_with fail
          refine (hl _).mono ?_
          rintro r w8 ⟨rfl, hb9⟩
          replace B0 := B0.trans (hb9.mono B0.size)
          go_wp2
          go_ret
          exact ⟨rfl, B0⟩

set_option maxRecDepth 1000000 in
set_option maxHeartbeats 16000000 in
theorem long_1 (n m x N M Z : Int) (U V P : ByteArray) (on : Bool) (oS oT : ByteArray) (oe : Int) (w : World) (hN : (100000 : Int) + n.tmod 31000 = N)
    (hM : m.tmod 60000 = M)
    (hN0 : 69000 ≤ N)
    (hN1 : N ≤ 131000)
    (hMn : 0 ≤ M)
    (hM1 : M ≤ 60000)
    (h1 : ∀ W, Calls Try.prog 21 #[.int .i64 N] W fun r w' => r = .returned (.string U) ∧ Below W.heap.size W w')
    (h2 : ∀ W, Calls Try.prog 21 #[.int .i64 M] W fun r w' => r = .returned (.string V) ∧ Below W.heap.size W w')
    (h3 : ∀ W, Calls Try.prog 10 #[.agg #[.bool false, .string U, .string { data := #[1] }], .agg #[.bool false, .string V, .string { data := #[3] }]] W fun r w' => r = .returned (.tuple #[.agg #[.bool false, .string P, .string { data := #[3] }], .int .i64 0]) ∧ Below W.heap.size W w')
    (hS : N + M = Z)
    (hZ : Z < 131072)
    (hZw : IntKind.i64.wrap Z = Z)
    (h4 : ∀ W, Calls Try.prog 21 #[.int .i64 Z] W fun r w' => r = .returned (.string P) ∧ Below W.heap.size W w')
    (h5 : ∀ W, Calls Try.prog 22 #[.agg #[.bool false, .string { data := #[1] }, .int .i64 x]] W fun r w' => r = .returned (.tuple #[.agg #[.bool on, .string oS, .string oT], .int .i64 oe]) ∧ Below W.heap.size W w')
    (h6 : ∀ W, Calls Try.prog 23 #[.agg #[.bool false, .string { data := #[1] }, .int .i64 x]] W fun r w' => r = .returned (.tuple #[.agg #[.bool on, .string oS, .string oT], .int .i64 oe]) ∧ Below W.heap.size W w')
    (h7 : ∀ W, Calls Try.prog 18 #[.string (ones 4097)] W fun r w' => r = .returned (.tuple #[.agg #[.bool false, .string { data := #[] }, .string { data := #[] }], .int .i64 4]) ∧ Below W.heap.size W w')
    (dn : Bool) (dS dT : ByteArray)
    (h8 : ∀ W, Calls Try.prog 18 #[.string (ones 4096)] W fun r w' => r = .returned (.tuple #[.agg #[.bool dn, .string dS, .string dT], .int .i64 0]) ∧ Below W.heap.size W w')
    (h9 : ∀ W, Calls Try.prog 19 #[.string (ones 4097)] W fun r w' => r = .returned (.tuple #[.float .f64 0, .int .i64 4]) ∧ Below W.heap.size W w')
    (h10 : ∀ W, Calls Try.prog 17 #[.string (exes 80001)] W fun r w' => r = .returned (.tuple #[.agg #[.bool false, .string { data := #[] }, .string { data := #[] }], .int .i64 4]) ∧ Below W.heap.size W w')
    (h11 : ∀ W, Calls Try.prog 17 #[.string (exes 80000)] W fun r w' => r = .returned (.tuple #[.agg #[.bool false, .string { data := #[] }, .string { data := #[] }], .int .i64 40]) ∧ Below W.heap.size W w')
    (hl : ∀ W, Calls Try.prog 7 #[] W fun r w' => r = .returned (.bool true) ∧ Below W.heap.size W w') :
    Calls Try.prog 6 #[.int .i64 n, .int .i64 m, .int .i64 x] w fun r w' => r = .returned (.bool true) ∧ Below w.heap.size w w' := by
  go_enter Try.func6, Try.ntmps6
  have B0 := Below.refl w.heap.size w
  go_wp2_with fail
  (with_reducible refine (h1 _).mono ?_)
  rintro r w1 ⟨rfl, hb1⟩
  replace B0 := B0.trans (hb1.mono B0.size)
  clear hb1
  have F7 := Blk.put (w1) #[.bool false, .string U, (Value.string { data := #[1] })] 25
  replace B0 := B0.alloc B0.size (.cells #[.bool false, .string U, (Value.string { data := #[1] })] 25)
  go_wp2_with fail
  (with_reducible refine (h2 _).mono ?_)
  rintro r w2 ⟨rfl, hb2⟩
  replace F7 := F7.keep hb2
  replace B0 := B0.trans (hb2.mono B0.size)
  clear hb2
  replace F7 := F7.allocd (.cells #[.bool false, .string V, (Value.string { data := #[3] })] 25)
  have F8 := Blk.put (w2) #[.bool false, .string V, (Value.string { data := #[3] })] 25
  replace B0 := B0.alloc B0.size (.cells #[.bool false, .string V, (Value.string { data := #[3] })] 25)
  obtain ⟨xF72_0, xF72_1, xF72_2⟩ := F7.ce3
  obtain ⟨xF82_0, xF82_1, xF82_2⟩ := F8.ce3
  go_wp2_with fail
  (with_reducible refine (h3 _).mono ?_)
  rintro r w3 ⟨rfl, hb3⟩
  clear xF72_0 xF72_1 xF72_2 xF82_0 xF82_1 xF82_2
  replace F7 := F7.keep hb3
  replace F8 := F8.keep hb3
  replace B0 := B0.trans (hb3.mono B0.size)
  clear hb3
  clear F7
  clear F8
  have F9 := Blk.put (w3) #[.bool false, .string P, .string { data := #[3] }] 25
  replace B0 := B0.alloc B0.size (.cells #[.bool false, .string P, .string { data := #[3] }] 25)
  go_wp2_with fail
  refine wp_region_any (by kernel_rfl) ?_
  obtain ⟨xF93_0, xF93_1, xF93_2⟩ := F9.ce3
  have hHeld : (fun w' : World => w'.cell? ⟨w3.heap.size, 0, none⟩ = some (.bool false) ∧ w'.cell? ⟨w3.heap.size, 1, none⟩ = some (.string P) ∧ w'.cell? ⟨w3.heap.size, 2, none⟩ = some (.string { data := #[3] })) ((w3).alloc (.cells #[.bool false, .string P, .string { data := #[3] }] 25)).drew := ⟨xF93_0, xF93_1, xF93_2⟩
  refine wpAny_of_held (S := fun w' : World => w'.cell? ⟨w3.heap.size, 0, none⟩ = some (.bool false) ∧ w'.cell? ⟨w3.heap.size, 1, none⟩ = some (.string P) ∧ w'.cell? ⟨w3.heap.size, 2, none⟩ = some (.string { data := #[3] })) _ _ _ _ ?_
  replace F9 := F9.drew
  replace B0 := B0.drew
  refine wpAnyH_take (i := 0) (v := _) (by first | (simp only [List.getElem?_toArray, List.getElem?_cons_zero]; rfl) | rfl) (by kernel_rfl) (by kernel_rfl) (by kernel_rfl) (by exact fun _ _ _ h => h) (Or.inl ⟨by rfl, by (intro w hSw; (try dsimp only at hSw); go_simp; try with_reducible rfl)⟩) (by assumption) ?_
  (try dsimp only [Act.put]); (try go_frame)
  refine wpAnyH_take (i := 1) (v := _) (by first | (simp only [List.getElem?_toArray, List.getElem?_cons_zero, List.getElem?_cons_succ]; rfl) | rfl) (by kernel_rfl) (by kernel_rfl) (by kernel_rfl) (by exact fun _ _ _ h => h) (Or.inl ⟨by rfl, by (intro w hSw; (try dsimp only at hSw); go_simp; try with_reducible rfl)⟩) (by assumption) ?_
  (try dsimp only [Act.put]); (try go_frame)
  refine wpAnyH_take (i := 2) (v := _) (by first | (simp only [List.getElem?_toArray, List.getElem?_cons_zero, List.getElem?_cons_succ]; rfl) | rfl) (by kernel_rfl) (by kernel_rfl) (by kernel_rfl) (by exact fun _ _ _ h => h) (Or.inl ⟨by rfl, by (intro w hSw; (try dsimp only at hSw); go_simp; try with_reducible rfl)⟩) (by assumption) ?_
  (try dsimp only [Act.put]); (try go_frame)
  refine wpAnyH_take (i := 3) (v := _) (by first | (simp only [List.getElem?_toArray, List.getElem?_cons_zero, List.getElem?_cons_succ]; rfl) | rfl) (by kernel_rfl) (by kernel_rfl) (by kernel_rfl) (by exact fun _ _ _ h => h) (Or.inl ⟨by rfl, by (intro w hSw; (try dsimp only at hSw); go_simp; try with_reducible rfl)⟩) (by assumption) ?_
  (try dsimp only [Act.put]); (try go_frame)
  refine wpAnyH_take (i := 4) (v := _) (by first | (simp only [List.getElem?_toArray, List.getElem?_cons_zero, List.getElem?_cons_succ]; rfl) | rfl) (by kernel_rfl) (by kernel_rfl) (by kernel_rfl) (by exact fun _ _ _ h => h) (Or.inl ⟨by rfl, by (intro w hSw; (try dsimp only at hSw); go_simp; try with_reducible rfl)⟩) (by assumption) ?_
  (try dsimp only [Act.put]); (try go_frame)
  refine wpAnyH_take (i := 5) (v := _) (by first | (simp only [List.getElem?_toArray, List.getElem?_cons_zero, List.getElem?_cons_succ]; rfl) | rfl) (by kernel_rfl) (by kernel_rfl) (by kernel_rfl) (by exact fun _ _ _ h => h) (Or.inl ⟨by rfl, by (intro w hSw; (try dsimp only at hSw); go_simp; try with_reducible rfl)⟩) (by assumption) ?_
  (try dsimp only [Act.put]); (try go_frame)
  refine wpAnyH_take (i := 6) (v := _) (by first | (simp only [List.getElem?_toArray, List.getElem?_cons_zero, List.getElem?_cons_succ]; rfl) | rfl) (by kernel_rfl) (by kernel_rfl) (by kernel_rfl) (by exact fun _ _ _ h => h) (Or.inl ⟨by rfl, by (intro w hSw; (try dsimp only at hSw); go_simp; try with_reducible rfl)⟩) (by assumption) ?_
  (try dsimp only [Act.put]); (try go_frame)
  refine wpAnyH_take (i := 7) (v := _) (by first | (simp only [List.getElem?_toArray, List.getElem?_cons_zero, List.getElem?_cons_succ]; rfl) | rfl) (by kernel_rfl) (by kernel_rfl) (by kernel_rfl) (by exact fun _ _ _ h => h) (Or.inl ⟨by rfl, by (intro w hSw; (try dsimp only at hSw); go_simp; try with_reducible rfl)⟩) (by assumption) ?_
  (try dsimp only [Act.put]); (try go_frame)
  refine wpAnyH_ready (rs := [8]) (by kernel_rfl) (by simp) ?_
  refine AllReadyH.cons rfl (fun K hK => ?_) AllReadyH.nil
  go_simp
  (with_reducible refine (h4 _).mono ?_)
  rintro r w4 ⟨rfl, hb4⟩
  clear xF93_0 xF93_1 xF93_2
  replace F9 := F9.keep hb4
  replace B0 := B0.trans (hb4.mono B0.size)
  clear hb4
  obtain ⟨xF95_0, xF95_1, xF95_2⟩ := F9.ce3
  refine hK.out _ _ ?_ (fun hHeld => ?_)
  · exact ⟨xF95_0, xF95_1, xF95_2⟩
  clear hK K
  (try dsimp only [Act.put]); (try go_frame)
  refine wpAnyH_take (i := 9) (v := _) (by first | (simp only [List.getElem?_toArray, List.getElem?_cons_zero, List.getElem?_cons_succ]; rfl) | rfl) (by kernel_rfl) (by kernel_rfl) (by kernel_rfl) (by exact fun _ _ _ h => h) (Or.inl ⟨by rfl, by (intro w hSw; (try dsimp only at hSw); go_simp; try with_reducible rfl)⟩) (by assumption) ?_
  (try dsimp only [Act.put]); (try go_frame)
  refine wpAnyH_take (i := 10) (v := _) (by first | (simp only [List.getElem?_toArray, List.getElem?_cons_zero, List.getElem?_cons_succ]; rfl) | rfl) (by kernel_rfl) (by kernel_rfl) (by kernel_rfl) (by exact fun _ _ _ h => h) (Or.inl ⟨by rfl, by (intro w hSw; (try dsimp only at hSw); go_simp; try with_reducible rfl)⟩) (by assumption) ?_
  (try dsimp only [Act.put]); (try go_frame)
  refine wpAnyH_take (i := 11) (v := _) (by first | (simp only [List.getElem?_toArray, List.getElem?_cons_zero, List.getElem?_cons_succ]; rfl) | rfl) (by kernel_rfl) (by kernel_rfl) (by kernel_rfl) (by exact fun _ _ _ h => h) (Or.inl ⟨by rfl, by (intro w hSw; (try dsimp only at hSw); go_simp; try with_reducible rfl)⟩) (by assumption) ?_
  (try dsimp only [Act.put]); (try go_frame)
  refine wpAnyH_take (i := 12) (v := _) (by first | (simp only [List.getElem?_toArray, List.getElem?_cons_zero, List.getElem?_cons_succ]; rfl) | rfl) (by kernel_rfl) (by kernel_rfl) (by kernel_rfl) (by exact fun _ _ _ h => h) (Or.inl ⟨by rfl, by (intro w hSw; (try dsimp only at hSw); go_simp; try with_reducible rfl)⟩) (by assumption) ?_
  (try dsimp only [Act.put]); (try go_frame)
  refine wpAnyH_take (i := 13) (v := _) (by first | (simp only [List.getElem?_toArray, List.getElem?_cons_zero, List.getElem?_cons_succ]; rfl) | rfl) (by kernel_rfl) (by kernel_rfl) (by kernel_rfl) (by exact fun _ _ _ h => h) (Or.inl ⟨by rfl, by (intro w hSw; (try dsimp only at hSw); go_simp; try with_reducible rfl)⟩) (by assumption) ?_
  (try dsimp only [Act.put]); (try go_frame)
  refine wpAnyH_take (i := 14) (v := _) (by first | (simp only [List.getElem?_toArray, List.getElem?_cons_zero, List.getElem?_cons_succ]; rfl) | rfl) (by kernel_rfl) (by kernel_rfl) (by kernel_rfl) (by exact fun _ _ _ h => h) (Or.inl ⟨by rfl, by (intro w hSw; (try dsimp only at hSw); go_simp; try with_reducible rfl)⟩) (by assumption) ?_
  (try dsimp only [Act.put]); (try go_frame)
  refine wpAnyH_take (i := 15) (v := _) (by first | (simp only [List.getElem?_toArray, List.getElem?_cons_zero, List.getElem?_cons_succ]; rfl) | rfl) (by kernel_rfl) (by kernel_rfl) (by kernel_rfl) (by exact fun _ _ _ h => h) (Or.inl ⟨by rfl, by (intro w hSw; (try dsimp only at hSw); go_simp; try with_reducible rfl)⟩) (by assumption) ?_
  (try dsimp only [Act.put]); (try go_frame)
  refine wpAnyH_done (by kernel_rfl) ?_ _
  try simp only [QCut]
  clear hHeld
  clear xF95_0 xF95_1 xF95_2
  go_wp2_with fail
  (with_reducible refine (h5 _).mono ?_)
  rintro r w5 ⟨rfl, hb5⟩
  replace F9 := F9.keep hb5
  replace B0 := B0.trans (hb5.mono B0.size)
  clear hb5
  clear F9
  have F11 := Blk.put (w5) #[.bool on, .string oS, .string oT] 25
  replace B0 := B0.alloc B0.size (.cells #[.bool on, .string oS, .string oT] 25)
  go_wp2_with fail
  (with_reducible refine (h6 _).mono ?_)
  rintro r w6 ⟨rfl, hb6⟩
  replace F11 := F11.keep hb6
  replace B0 := B0.trans (hb6.mono B0.size)
  clear hb6
  replace F11 := F11.allocd (.cells #[.bool on, .string oS, .string oT] 25)
  have F13 := Blk.put (w6) #[.bool on, .string oS, .string oT] 25
  replace B0 := B0.alloc B0.size (.cells #[.bool on, .string oS, .string oT] 25)
  obtain ⟨xF117_0, xF117_1, xF117_2⟩ := F11.ce3
  obtain ⟨xF137_0, xF137_1, xF137_2⟩ := F13.ce3
  go_upto_region 16 with fail
  clear xF117_0 xF117_1 xF117_2 xF137_0 xF137_1 xF137_2
  clear F11
  clear F13
  generalize (w6).alloc (.cells #[.bool on, .string oS, .string oT] 25) = v1 at *
  have hmk1 := run_make_row' (P := Try.prog) 47 5 (.int .u8 0) 1 Try.underlying47 Try.info5 rfl .i64 .i64 4097 (by omega) (by omega)
  rw [show ((4097 : Nat) : Int) = 4097 from rfl] at hmk1
  have hmk2 := run_make_row' (P := Try.prog) 47 5 (.int .u8 0) 1 Try.underlying47 Try.info5 rfl .i64 .i64 80001 (by omega) (by omega)
  rw [show ((80001 : Nat) : Int) = 80001 from rfl] at hmk2
  have B8 := Lib.hid B0.size
  go_wp2
  go_loopg [16] 4097 (fun g sI wr => ∃ i : Nat, i ≤ 4097 ∧ g = 4097 - i ∧ sI = .int .i64 (i : Int) ∧ wr.rowIs v1.heap.size 5 4097 (fun j => if j < i then .int .u8 49 else .int .u8 0) ∧ Below w.heap.size w wr)
  case atStart => exact ⟨0, by omega, rfl, rfl, (World.rowIs_made v1 _ 4097 5).congr (fun j _ => by rw [if_neg (by omega)]), B0.alloc B0.size _⟩
  case round =>
    obtain ⟨i, hi, hg, rfl, hrow, hbel⟩ := hrel
    have Hg := Lib.hid hg
    clear hg
    by_cases hin : i < 4097
    · have k2 := hrow.cell (i := i) hin
      rw [if_neg (by omega)] at k2
      have k3 := hrow.frozen i
      have P0 : (0 : Int) ≤ (i : Int) := by omega
      have P1 : (i : Int) < 4097 := by omega
      have hrow2 := (hrow.set i (.int .u8 49)).congr (g := fun j => if j < i + 1 then Value.int .u8 49 else .int .u8 0) (fun j _ => by
        by_cases h : j = i
        · rw [if_pos h, if_pos (by omega)]
        · rw [if_neg h]
          by_cases h2 : j < i
          · rw [if_pos h2, if_pos (by omega)]
          · rw [if_neg h2, if_neg (by omega)])
      have hbel2 := hbel.setCell (p := ⟨v1.heap.size, i, none⟩) B8.out (.int .u8 49)
      have HV := Lib.hid (And.intro hrow2 hbel2)
      clear hrow2 hbel2
      go_wp2
      go_roundg (4097 - (i + 1))
      case measure => have := Hg.out; omega
      case rel => exact ⟨i + 1, by omega, rfl, by go_num, HV.out.1, HV.out.2⟩
    · obtain rfl : i = 4097 := by omega
      replace hrow := hrow.congr (g := fun _ => Value.int .u8 49) (fun j hj => if_pos hj)
      clear hi hin Hg
      have B0 := hbel
      clear hbel
      have HC := Lib.hid (fun W h => conv_row W v1.heap.size 0 4097 49 4097 4097 (by omega) h)
      have HC1 := Lib.hid (fun W h => conv_row W v1.heap.size 1 4096 49 4097 4096 (by omega) h)
      have cv := HC.out _ hrow
      rw [show (ba_rep 4097 49) = ones 4097 from rfl] at cv
      go_wp2_with fail
      refine (h7 _).mono ?_
      rintro r w3 ⟨rfl, hb9⟩
      replace hrow := row_keep hrow hb9
      replace B0 := B0.trans (hb9.mono B0.size)
      clear hb9
      clear cv
      replace hrow := hrow.alloc (.cells #[.bool false, .string { data := #[] }, .string { data := #[] }] 25)
      replace B0 := B0.alloc B0.size (.cells #[.bool false, .string { data := #[] }, .string { data := #[] }] 25)
      have cv := HC1.out _ hrow
      rw [show (ba_rep 4096 49) = ones 4096 from rfl] at cv
      go_wp2_with fail
      refine (h8 _).mono ?_
      rintro r w4 ⟨rfl, hb9⟩
      replace hrow := row_keep hrow hb9
      replace B0 := B0.trans (hb9.mono B0.size)
      clear hb9
      clear cv
      replace hrow := hrow.alloc (.cells #[.bool dn, .string dS, .string dT] 25)
      replace B0 := B0.alloc B0.size (.cells #[.bool dn, .string dS, .string dT] 25)
      have cv := HC.out _ hrow
      rw [show (ba_rep 4097 49) = ones 4097 from rfl] at cv
      go_wp2_with fail
      refine (h9 _).mono ?_
      rintro r w5 ⟨rfl, hb9⟩
      replace hrow := row_keep hrow hb9
      replace B0 := B0.trans (hb9.mono B0.size)
      clear hb9
      clear cv hrow HC HC1
      go_upto_region 24 with fail
      obtain ⟨v9, hv9⟩ : ∃ v9, v9 = w5 := ⟨_, rfl⟩
      rw [← hv9] at B0 ⊢
      have B9 := Lib.hid B0.size
      clear hv9 hmk1
      go_wp2
      go_loopg [24] 80001 (fun g sI wr => ∃ i : Nat, i ≤ 80001 ∧ g = 80001 - i ∧ sI = .int .i64 (i : Int) ∧ wr.rowIs v9.heap.size 5 80001 (fun j => if j < i then .int .u8 120 else .int .u8 0) ∧ Below w.heap.size w wr)
      case atStart => exact ⟨0, by omega, rfl, rfl, (World.rowIs_made v9 _ 80001 5).congr (fun j _ => by rw [if_neg (by omega)]), B0.alloc B0.size _⟩
      case round =>
        obtain ⟨i, hi, hg, rfl, hrow, hbel⟩ := hrel
        have Hg := Lib.hid hg
        clear hg
        by_cases hin : i < 80001
        · have k2 := hrow.cell (i := i) hin
          rw [if_neg (by omega)] at k2
          have k3 := hrow.frozen i
          have P0 : (0 : Int) ≤ (i : Int) := by omega
          have P1 : (i : Int) < 80001 := by omega
          have hrow2 := (hrow.set i (.int .u8 120)).congr (g := fun j => if j < i + 1 then Value.int .u8 120 else .int .u8 0) (fun j _ => by
            by_cases h : j = i
            · rw [if_pos h, if_pos (by omega)]
            · rw [if_neg h]
              by_cases h2 : j < i
              · rw [if_pos h2, if_pos (by omega)]
              · rw [if_neg h2, if_neg (by omega)])
          have hbel2 := hbel.setCell (p := ⟨v9.heap.size, i, none⟩) B9.out (.int .u8 120)
          have HV := Lib.hid (And.intro hrow2 hbel2)
          clear hrow2 hbel2
          go_wp2
          go_roundg (80001 - (i + 1))
          case measure => have := Hg.out; omega
          case rel => exact ⟨i + 1, by omega, rfl, by go_num, HV.out.1, HV.out.2⟩
        · obtain rfl : i = 80001 := by omega
          replace hrow := hrow.congr (g := fun _ => Value.int .u8 120) (fun j hj => if_pos hj)
          clear hi hin Hg
          have B0 := hbel
          clear hbel
          have HC := Lib.hid (fun W h => conv_row W v9.heap.size 0 80001 120 80001 80001 (by omega) h)
          have HC1 := Lib.hid (fun W h => conv_row W v9.heap.size 1 80000 120 80001 80000 (by omega) h)
          have cv := HC.out _ hrow
          rw [show (ba_rep 80001 120) = exes 80001 from rfl] at cv
          go_wp2_with fail
          refine (h10 _).mono ?_
          rintro r w6 ⟨rfl, hb9⟩
          replace hrow := row_keep hrow hb9
          replace B0 := B0.trans (hb9.mono B0.size)
          clear hb9
          clear cv
          replace hrow := hrow.alloc (.cells #[.bool false, .string { data := #[] }, .string { data := #[] }] 25)
          replace B0 := B0.alloc B0.size (.cells #[.bool false, .string { data := #[] }, .string { data := #[] }] 25)
          have cv := HC1.out _ hrow
          rw [show (ba_rep 80000 120) = exes 80000 from rfl] at cv
          go_wp2_with fail
          refine (h11 _).mono ?_
          rintro r w7 ⟨rfl, hb9⟩
          replace hrow := row_keep hrow hb9
          replace B0 := B0.trans (hb9.mono B0.size)
          clear hb9
          clear cv
          replace B0 := B0.alloc B0.size (.cells #[.bool false, .string { data := #[] }, .string { data := #[] }] 25)
          go_wp2_with fail
          refine (hl _).mono ?_
          rintro r w8 ⟨rfl, hb9⟩
          replace B0 := B0.trans (hb9.mono B0.size)
          go_wp2
          go_ret
          exact ⟨rfl, B0⟩


theorem tmod_rng (n k : Int) (hk : 0 < k) : -k < n.tmod k ∧ n.tmod k < k := by
  refine ⟨?_, Int.tmod_lt_of_pos n hk⟩
  rcases Int.le_total 0 n with h | h
  · rw [Int.tmod_eq_emod_of_nonneg h]
    have := Int.emod_nonneg n (show k ≠ 0 by omega)
    omega
  · have h1 := Int.tmod_lt_of_pos (-n) hk
    rw [Int.neg_tmod] at h1
    omega
theorem ratioLong_any (n m x : Int) (w : World) (_n0 : -9223372036854775808 ≤ n) (_n1 : n ≤ 9223372036854775807) (_m0 : -9223372036854775808 ≤ m) (_m1 : m ≤ 9223372036854775807) (_x0 : -9223372036854775808 ≤ x) (_x1 : x ≤ 9223372036854775807) :
    Calls Try.prog 6 #[.int .i64 n, .int .i64 m, .int .i64 x] w fun r w' => r = .returned (.bool true) ∧ Below w.heap.size w w' := by
  obtain ⟨r1, r2⟩ := tmod_rng n 31000 (by decide)
  obtain ⟨r3, r4⟩ := tmod_rng m 60000 (by decide)
  have hl := fun W => l4lives_any W
  by_cases hm : m.tmod 60000 < 0
  · exact long_far n m x _ _ w rfl rfl (by omega) (by omega) hm hl
  · obtain ⟨a, ha⟩ : ∃ a : Nat, (100000 : Int) + n.tmod 31000 = (a : Int) := ⟨((100000 : Int) + n.tmod 31000).toNat, by omega⟩
    obtain ⟨b, hb⟩ : ∃ b : Nat, m.tmod 60000 = (b : Int) := ⟨(m.tmod 60000).toNat, by omega⟩
    have h1 := fun W => l4power_any a W (by omega)
    have h2 := fun W => l4power_any b W (by omega)
    obtain ⟨p1, p2⟩ := pow2_rat a
    obtain ⟨q1, q2⟩ := pow2_three b
    obtain ⟨s1, s2⟩ := pow2_three (a + b)
    have hp := divInt_mul (Rat.divInt ((2 ^ a : Nat) : Int) ((1 : Nat) : Int)) (Rat.divInt ((2 ^ b : Nat) : Int) ((3 : Nat) : Int))
    rw [p1, p2, q1, q2, show ((2 ^ a : Nat) : Int) * ((2 ^ b : Nat) : Int) = ((2 ^ (a + b) : Nat) : Int) by rw [Nat.pow_add]; simp, show (((1 : Nat) : Int) * ((3 : Nat) : Int)) = ((3 : Nat) : Int) from rfl] at hp
    have fx : Fits (Rat.divInt ((2 ^ a : Nat) : Int) ((1 : Nat) : Int)) := ⟨by rw [p1, Int.natAbs_natCast, dn_two]; omega, by rw [p2]; decide⟩
    have fy : Fits (Rat.divInt ((2 ^ b : Nat) : Int) ((3 : Nat) : Int)) := ⟨by rw [q1, Int.natAbs_natCast, dn_two]; omega, by rw [q2]; decide⟩
    have h3 := fun W => kmul_ok _ _ W fx fy
    rw [← hp] at h3
    have e1 : ∀ k : Nat, sg ((2 ^ k : Nat) : Int) = false := fun k => by unfold sg; exact decide_eq_false (Int.not_lt.2 (Int.natCast_nonneg _))
    unfold kA at h3
    rw [p1, p2, q1, q2, Int.natAbs_natCast, Int.natAbs_natCast, e1, e1, bstr_one, bstr3] at h3
    obtain ⟨on, oS, oT, oe, h5, h6⟩ := of_agree false { data := #[1] } x (by decide)
    have h7 := fun W => kdecimal_any (ones 4097) W (by rw [ones_size]; omega)
    rw [show decV (ones 4097) = errV 4 by unfold decV; rw [if_pos (by rw [ones_size]; omega)]] at h7
    have h8 := fun W => kdecimal_any (ones 4096) W (by rw [ones_size]; omega)
    rw [decV_ok ones_ok] at h8
    unfold kA at h8
    have h9 := fun W => knearest_err (ones 4097) W 4 rfl h7
    have h10 := fun W => kread_long (exes 80001) W (by rw [exes_size]; omega) (by rw [exes_size]; omega)
    have h11 := fun W => kread_not (exes 80000) W (by rw [exes_size]; omega) exes_none
    unfold errV at h7 h10 h11
    by_cases hf : a + b < 131072
    · have fz : kToldV (Rat.divInt ((2 ^ (a + b) : Nat) : Int) ((3 : Nat) : Int)) = .tuple #[.agg #[.bool false, .string (bstr (2 ^ (a + b))), .string { data := #[3] }], .int .i64 0] := by
        rw [kTold_fits ⟨by rw [s1, Int.natAbs_natCast, dn_two]; omega, by rw [s2]; decide⟩]
        unfold kA
        rw [s1, s2, Int.natAbs_natCast, e1, bstr3]
      rw [fz] at h3
      have h4 := fun W => l4power_any (a + b) W (by omega)
      exact long_1 n m x (a : Int) (b : Int) ((a + b : Nat) : Int) _ _ _ _ _ _ _ w ha hb (by omega) (by omega) (by omega) (by omega) h1 h2 h3 (by omega) (by omega) (IntWalk.i64_in _ ⟨by omega, by omega⟩) h4 h5 h6 h7 _ _ _ h8 h9 h10 h11 hl
    · have fz : kToldV (Rat.divInt ((2 ^ (a + b) : Nat) : Int) ((3 : Nat) : Int)) = .tuple #[.agg #[.bool false, .string { data := #[] }, .string { data := #[] }], .int .i64 4] := if_neg (by rw [s1, Int.natAbs_natCast, dn_two]; exact fun h => by omega)
      rw [fz] at h3
      exact long_0 n m x (a : Int) (b : Int) ((a + b : Nat) : Int) _ _ _ _ _ _ w ha hb (by omega) (by omega) (by omega) (by omega) h1 h2 h3 (by omega) (by omega) (by omega) h5 h6 h7 _ _ _ h8 h9 h10 h11 hl
end Go.Proofs.Ytbfnafcpjbdbpaa
