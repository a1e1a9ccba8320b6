/- Merged: Kq Kr Ka Ks -/
import Derived.Test.YtfbggddmmkmadaaKm
import Derived.Test.YtfbggddmmkmadaaKn
import Derived.Test.YtfbggddmmkmadaaKo
import Derived.Test.YtfbggddmmkmadaaKp
import Derived.Test.YtfbggddmmkmadaaRows
import Derived.Test.YtfbggddmmkmadaaB4
import Derived.ProofKit
import Derived.Lib.SmallJoins
import Derived.ChangeMaps5
import Derived.ChangeArms
import Derived.OpenShut
import Derived.Laws.Cover2

/- filigreelaw04.RatioBack: the walk, further ways. -/
namespace Go.Proofs.Ytfbggddmmkmadaa
open Go Go.RowKit Go.PlainAid Fil

set_option maxRecDepth 1000000 in
set_option maxHeartbeats 16000000 in
theorem back_110 (xn : Bool) (xS xT s : ByteArray) (nz : Int) (tx : ByteArray) (zn : Bool) (zS zT ts : ByteArray) (de : Int) (w : World) (hs : s.size ≤ 2000) (h0 : ∀ W, Calls Try.prog 13 #[.agg #[.bool xn, .string xS, .string xT]] W fun r w' => r = .returned (.bool true) ∧ Below W.heap.size W w') (hM : ∀ W, Calls Try.prog 14 #[.agg #[.bool xn, .string xS, .string xT]] W fun r w' => r = .returned (.bool true) ∧ Below W.heap.size W w') (hT : ∀ W, Calls Try.prog 15 #[.agg #[.bool xn, .string xS, .string xT]] W fun r w' => r = .returned (.tuple #[.string tx, .int .i64 0]) ∧ Below W.heap.size W w') (hR : ∀ W, Calls Try.prog 16 #[.string tx] W fun r w' => r = .returned (.tuple #[.agg #[.bool xn, .string xS, .string xT], .int .i64 0]) ∧ Below W.heap.size W w') (hS : ∀ W, Calls Try.prog 16 #[.string s] W fun r w' => r = .returned (.tuple #[.agg #[.bool zn, .string zS, .string zT], .int .i64 0]) ∧ Below W.heap.size W w') (hU : ∀ W, Calls Try.prog 15 #[.agg #[.bool zn, .string zS, .string zT]] W fun r w' => r = .returned (.tuple #[.string ts, .int .i64 0]) ∧ Below W.heap.size W w') (hts : (ts.toList == s.toList) = true) (hD : ∀ W, Calls Try.prog 17 #[.string s] W fun r w' => r = .returned (.tuple #[.agg #[.bool false, .string ⟨#[]⟩, .string ⟨#[]⟩], .int .i64 de]) ∧ Below W.heap.size W w') (hde : (de != 0) = true) (hL : ∀ W, Calls Try.prog 6 #[] W fun r w' => r = .returned (.bool true) ∧ Below W.heap.size W w') :
    Calls Try.prog 5 #[.agg #[.bool xn, .string xS, .string xT], .string s, .int .i64 nz] w fun r w' => r = .returned (.bool true) ∧ Below w.heap.size w w' := by
  have hq : decide ((2000 : Int) < (s.size : Int)) = false := decide_eq_false (by omega)
  have hb := Below.refl w.heap.size w
  go_enter Try.func5, Try.ntmps5
  have X := Blk.put w #[.bool xn, .string xS, .string xT] 25
  replace hb := hb.alloc hb.size (.cells #[.bool xn, .string xS, .string xT] 25)
  obtain ⟨xX0, xX1, xX2⟩ := X.ce3
  go_wp2_with fail
  refine (h0 _).mono ?_
  rintro r w1 ⟨rfl, hB⟩
  replace X := X.keep hB
  replace hb := hb.trans (hB.mono hb.size)
  clear hB
  clear xX0 xX1 xX2
  obtain ⟨xX0, xX1, xX2⟩ := X.ce3
  go_wp2_with fail
  refine (hM _).mono ?_
  rintro r w2 ⟨rfl, hB⟩
  replace X := X.keep hB
  replace hb := hb.trans (hB.mono hb.size)
  clear hB
  clear xX0 xX1 xX2
  obtain ⟨xX0, xX1, xX2⟩ := X.ce3
  go_wp2_with fail
  refine (hT _).mono ?_
  rintro r w3 ⟨rfl, hB⟩
  replace X := X.keep hB
  replace hb := hb.trans (hB.mono hb.size)
  clear hB
  clear xX0 xX1 xX2
  obtain ⟨xX0, xX1, xX2⟩ := X.ce3
  go_wp2_with fail
  refine (hR _).mono ?_
  rintro r w4 ⟨rfl, hB⟩
  replace X := X.keep hB
  replace hb := hb.trans (hB.mono hb.size)
  clear hB
  clear xX0 xX1 xX2
  have Y := Blk.put w4 #[.bool xn, .string xS, .string xT] 25
  replace X := X.allocd (.cells #[.bool xn, .string xS, .string xT] 25)
  replace hb := hb.alloc hb.size (.cells #[.bool xn, .string xS, .string xT] 25)
  obtain ⟨xX0, xX1, xX2⟩ := X.ce3
  obtain ⟨xY0, xY1, xY2⟩ := Y.ce3
  go_upto_region 8 with fail
  clear xX0 xX1 xX2
  clear xY0 xY1 xY2
  clear X Y
  generalize w4.alloc (.cells #[.bool xn, .string xS, .string xT] 25) = w5 at *
  go_wp2_with fail
  refine (hS _).mono ?_
  rintro r w6 ⟨rfl, hB⟩
  replace hb := hb.trans (hB.mono hb.size)
  clear hB
  have R := Blk.put w6 #[.bool zn, .string zS, .string zT] 25
  replace hb := hb.alloc hb.size (.cells #[.bool zn, .string zS, .string zT] 25)
  obtain ⟨xR0, xR1, xR2⟩ := R.ce3
  go_wp2_with fail
  refine (hU _).mono ?_
  rintro r w7 ⟨rfl, hB⟩
  replace R := R.keep hB
  replace hb := hb.trans (hB.mono hb.size)
  clear hB
  clear xR0 xR1 xR2
  go_wp2_with fail
  refine (hD _).mono ?_
  rintro r w8 ⟨rfl, hB⟩
  replace R := R.keep hB
  replace hb := hb.trans (hB.mono hb.size)
  clear hB
  have lR := R.lt
  have D := Blk.put w8 #[.bool false, .string ⟨#[]⟩, .string ⟨#[]⟩] 25
  replace R := R.allocd (.cells #[.bool false, .string ⟨#[]⟩, .string ⟨#[]⟩] 25)
  replace hb := hb.alloc hb.size (.cells #[.bool false, .string ⟨#[]⟩, .string ⟨#[]⟩] 25)
  have lD := D.lt
  go_upto_region 15 with fail
  generalize w8.alloc (.cells #[.bool false, .string ⟨#[]⟩, .string ⟨#[]⟩] 25) = w9 at *
  go_wp2_with fail
  go_loopg [17, 18, 19] s.size (fun g s17 s18 s19 wr => w9 = wr ∧ ∃ k : Nat, k ≤ s.size ∧ g = s.size - k ∧ s19 = .int .i64 k ∧ s17 = .bool (wh s k) ∧ s18 = .bool (pt s k))
  case atStart => exact ⟨rfl, 0, Nat.zero_le _, rfl, rfl, rfl, rfl⟩
  case round =>
    obtain ⟨rfl, k, hk, hg, rfl, rfl, rfl⟩ := hrel
    have Hg := Lib.hid hg
    clear hg
    by_cases hlt : k < s.size
    · have t1 : decide (k < s.size) = true := decide_eq_true hlt
      have HW := Lib.hid (And.intro (show wh s (k + 1) = (wh s k && !(byt s k == 46) && !(byt s k == 101)) from rfl) (show pt s (k + 1) = (pt s k || byt s k == 46) from rfl))
      have HB := Lib.hid (byt_in hlt)
      have hch : (s[k]'hlt).toNat = 46 ∨ (s[k]'hlt).toNat = 101 ∨ ((s[k]'hlt).toNat ≠ 46 ∧ (s[k]'hlt).toNat ≠ 101) := by omega
      generalize wh s k = a at *
      generalize pt s k = c at *
      rcases hch with hc | hc | ⟨hc, hc'⟩
      · have t2 : (((s[k]'hlt).toNat : Int) != 46) = false := by rw [hc]; rfl
        have t3 : (((s[k]'hlt).toNat : Int) == 46) = true := by rw [hc]; rfl
        have HE : Hid (wh s (k + 1) = false ∧ pt s (k + 1) = true) := Lib.hid (by rw [HW.out.1, HW.out.2, HB.out, hc]; simp)
        clear hc
        cases a <;> cases c
        all_goals
          go_wp2_with fail
          go_roundg (s.size - (k + 1))
          case measure => have := Hg.out; omega
          case rel => exact ⟨rfl, k + 1, by omega, rfl, by go_num, by rw [HE.out.1], by rw [HE.out.2]⟩
      · have t2 : (((s[k]'hlt).toNat : Int) != 46) = true := by rw [hc]; rfl
        have t3 : (((s[k]'hlt).toNat : Int) == 46) = false := by rw [hc]; rfl
        have t4 : (((s[k]'hlt).toNat : Int) != 101) = false := by rw [hc]; rfl
        have HE : Hid (wh s (k + 1) = false ∧ pt s (k + 1) = c) := Lib.hid (by rw [HW.out.1, HW.out.2, HB.out, hc]; simp)
        clear hc
        cases a <;> cases c
        all_goals
          go_wp2_with fail
          go_roundg (s.size - (k + 1))
          case measure => have := Hg.out; omega
          case rel => exact ⟨rfl, k + 1, by omega, rfl, by go_num, by rw [HE.out.1], by rw [HE.out.2]⟩
      · have t2 : (((s[k]'hlt).toNat : Int) != 46) = true := bne_iff_ne.2 (by omega)
        have t3 : (((s[k]'hlt).toNat : Int) == 46) = false := beq_eq_false_iff_ne.2 (by omega)
        have t4 : (((s[k]'hlt).toNat : Int) != 101) = true := bne_iff_ne.2 (by omega)
        have HE : Hid (wh s (k + 1) = a ∧ pt s (k + 1) = c) := Lib.hid (by rw [HW.out.1, HW.out.2, HB.out, beq_eq_false_iff_ne.2 hc, beq_eq_false_iff_ne.2 hc']; simp)
        clear hc hc'
        cases a <;> cases c
        all_goals
          go_wp2_with fail
          go_roundg (s.size - (k + 1))
          case measure => have := Hg.out; omega
          case rel => exact ⟨rfl, k + 1, by omega, rfl, by go_num, by rw [HE.out.1], by rw [HE.out.2]⟩
    · obtain rfl : k = s.size := by omega
      have t1 : decide (s.size < s.size) = false := decide_eq_false (by omega)
      go_wp2_with fail
      refine (hL _).mono ?_
      rintro r w10 ⟨rfl, hB⟩
      replace hb := hb.trans (hB.mono hb.size)
      clear hB R D
      go_wp2_with fail
      go_ret
      exact ⟨rfl, hb⟩

set_option maxRecDepth 1000000 in
set_option maxHeartbeats 16000000 in
theorem back_111 (xn : Bool) (xS xT s : ByteArray) (nz : Int) (tx : ByteArray) (zn : Bool) (zS zT ts : ByteArray) (yn : Bool) (yS yT : ByteArray) (f : Nat) (w : World) (hs : s.size ≤ 2000) (h0 : ∀ W, Calls Try.prog 13 #[.agg #[.bool xn, .string xS, .string xT]] W fun r w' => r = .returned (.bool true) ∧ Below W.heap.size W w') (hM : ∀ W, Calls Try.prog 14 #[.agg #[.bool xn, .string xS, .string xT]] W fun r w' => r = .returned (.bool true) ∧ Below W.heap.size W w') (hT : ∀ W, Calls Try.prog 15 #[.agg #[.bool xn, .string xS, .string xT]] W fun r w' => r = .returned (.tuple #[.string tx, .int .i64 0]) ∧ Below W.heap.size W w') (hR : ∀ W, Calls Try.prog 16 #[.string tx] W fun r w' => r = .returned (.tuple #[.agg #[.bool xn, .string xS, .string xT], .int .i64 0]) ∧ Below W.heap.size W w') (hS : ∀ W, Calls Try.prog 16 #[.string s] W fun r w' => r = .returned (.tuple #[.agg #[.bool zn, .string zS, .string zT], .int .i64 0]) ∧ Below W.heap.size W w') (hU : ∀ W, Calls Try.prog 15 #[.agg #[.bool zn, .string zS, .string zT]] W fun r w' => r = .returned (.tuple #[.string ts, .int .i64 0]) ∧ Below W.heap.size W w') (hts : (ts.toList == s.toList) = true) (hD : ∀ W, Calls Try.prog 17 #[.string s] W fun r w' => r = .returned (.tuple #[.agg #[.bool yn, .string yS, .string yT], .int .i64 0]) ∧ Below W.heap.size W w') (hN : ∀ W, Calls Try.prog 18 #[.string s] W fun r w' => r = .returned (.tuple #[.float .f64 f, .int .i64 0]) ∧ Below W.heap.size W w') (hK : ∀ W, Calls Try.prog 19 #[.float .f64 f, .float .f64 f] W fun r w' => r = .returned (.bool true) ∧ Below W.heap.size W w') (at0 : Nat) (hat1 : at0 ≤ s.size) (hat2 : Hid (∀ i, i < at0 → byt s i ≠ 101)) (hat3 : at0 = s.size ∨ byt s at0 = 101) (base : List UInt8) (hbase : Hid (base = s.data.toList.take at0 ++ (if pt s s.size then [] else [46, 48]))) (_hblen : base.length ≤ 2002) (hF : Hid (∀ (Z : ByteArray) (n : Nat), n < 50 → Z.data.toList = base ++ List.replicate n 48 → ∃ e : Int, ∀ W, (Calls Try.prog 17 #[.string (Z ++ s.extract at0 s.size)] W fun r w' => r = .returned (.tuple #[.agg #[.bool yn, .string yS, .string yT], .int .i64 0]) ∧ Below W.heap.size W w') ∧ (Calls Try.prog 18 #[.string (Z ++ s.extract at0 s.size)] W fun r w' => r = .returned (.tuple #[.float .f64 f, .int .i64 e]) ∧ Below W.heap.size W w'))) (hC : wh s s.size = false ∨ s.toList = [45, 48] ∨ (zn = yn ∧ zS = yS ∧ zT = yT)) (hL : ∀ W, Calls Try.prog 6 #[] W fun r w' => r = .returned (.bool true) ∧ Below W.heap.size W w') :
    Calls Try.prog 5 #[.agg #[.bool xn, .string xS, .string xT], .string s, .int .i64 nz] w fun r w' => r = .returned (.bool true) ∧ Below w.heap.size w w' := by
  have hq : decide ((2000 : Int) < (s.size : Int)) = false := decide_eq_false (by omega)
  have hb := Below.refl w.heap.size w
  go_enter Try.func5, Try.ntmps5
  have X := Blk.put w #[.bool xn, .string xS, .string xT] 25
  replace hb := hb.alloc hb.size (.cells #[.bool xn, .string xS, .string xT] 25)
  obtain ⟨xX0, xX1, xX2⟩ := X.ce3
  go_wp2_with fail
  refine (h0 _).mono ?_
  rintro r w1 ⟨rfl, hB⟩
  replace X := X.keep hB
  replace hb := hb.trans (hB.mono hb.size)
  clear hB
  clear xX0 xX1 xX2
  obtain ⟨xX0, xX1, xX2⟩ := X.ce3
  go_wp2_with fail
  refine (hM _).mono ?_
  rintro r w2 ⟨rfl, hB⟩
  replace X := X.keep hB
  replace hb := hb.trans (hB.mono hb.size)
  clear hB
  clear xX0 xX1 xX2
  obtain ⟨xX0, xX1, xX2⟩ := X.ce3
  go_wp2_with fail
  refine (hT _).mono ?_
  rintro r w3 ⟨rfl, hB⟩
  replace X := X.keep hB
  replace hb := hb.trans (hB.mono hb.size)
  clear hB
  clear xX0 xX1 xX2
  obtain ⟨xX0, xX1, xX2⟩ := X.ce3
  go_wp2_with fail
  refine (hR _).mono ?_
  rintro r w4 ⟨rfl, hB⟩
  replace X := X.keep hB
  replace hb := hb.trans (hB.mono hb.size)
  clear hB
  clear xX0 xX1 xX2
  have Y := Blk.put w4 #[.bool xn, .string xS, .string xT] 25
  replace X := X.allocd (.cells #[.bool xn, .string xS, .string xT] 25)
  replace hb := hb.alloc hb.size (.cells #[.bool xn, .string xS, .string xT] 25)
  obtain ⟨xX0, xX1, xX2⟩ := X.ce3
  obtain ⟨xY0, xY1, xY2⟩ := Y.ce3
  go_upto_region 8 with fail
  clear xX0 xX1 xX2
  clear xY0 xY1 xY2
  clear X Y
  generalize w4.alloc (.cells #[.bool xn, .string xS, .string xT] 25) = w5 at *
  go_wp2_with fail
  refine (hS _).mono ?_
  rintro r w6 ⟨rfl, hB⟩
  replace hb := hb.trans (hB.mono hb.size)
  clear hB
  have R := Blk.put w6 #[.bool zn, .string zS, .string zT] 25
  replace hb := hb.alloc hb.size (.cells #[.bool zn, .string zS, .string zT] 25)
  obtain ⟨xR0, xR1, xR2⟩ := R.ce3
  go_wp2_with fail
  refine (hU _).mono ?_
  rintro r w7 ⟨rfl, hB⟩
  replace R := R.keep hB
  replace hb := hb.trans (hB.mono hb.size)
  clear hB
  clear xR0 xR1 xR2
  go_wp2_with fail
  refine (hD _).mono ?_
  rintro r w8 ⟨rfl, hB⟩
  replace R := R.keep hB
  replace hb := hb.trans (hB.mono hb.size)
  clear hB
  have lR := R.lt
  have D := Blk.put w8 #[.bool yn, .string yS, .string yT] 25
  replace R := R.allocd (.cells #[.bool yn, .string yS, .string yT] 25)
  replace hb := hb.alloc hb.size (.cells #[.bool yn, .string yS, .string yT] 25)
  have lD := D.lt
  go_upto_region 15 with fail
  generalize w8.alloc (.cells #[.bool yn, .string yS, .string yT] 25) = w9 at *
  go_wp2_with fail
  go_loopg [17, 18, 19] s.size (fun g s17 s18 s19 wr => w9 = wr ∧ ∃ k : Nat, k ≤ s.size ∧ g = s.size - k ∧ s19 = .int .i64 k ∧ s17 = .bool (wh s k) ∧ s18 = .bool (pt s k))
  case atStart => exact ⟨rfl, 0, Nat.zero_le _, rfl, rfl, rfl, rfl⟩
  case round =>
    obtain ⟨rfl, k, hk, hg, rfl, rfl, rfl⟩ := hrel
    have Hg := Lib.hid hg
    clear hg
    by_cases hlt : k < s.size
    · have t1 : decide (k < s.size) = true := decide_eq_true hlt
      have HW := Lib.hid (And.intro (show wh s (k + 1) = (wh s k && !(byt s k == 46) && !(byt s k == 101)) from rfl) (show pt s (k + 1) = (pt s k || byt s k == 46) from rfl))
      have HB := Lib.hid (byt_in hlt)
      have hch : (s[k]'hlt).toNat = 46 ∨ (s[k]'hlt).toNat = 101 ∨ ((s[k]'hlt).toNat ≠ 46 ∧ (s[k]'hlt).toNat ≠ 101) := by omega
      generalize wh s k = a at *
      generalize pt s k = c at *
      rcases hch with hc | hc | ⟨hc, hc'⟩
      · have t2 : (((s[k]'hlt).toNat : Int) != 46) = false := by rw [hc]; rfl
        have t3 : (((s[k]'hlt).toNat : Int) == 46) = true := by rw [hc]; rfl
        have HE : Hid (wh s (k + 1) = false ∧ pt s (k + 1) = true) := Lib.hid (by rw [HW.out.1, HW.out.2, HB.out, hc]; simp)
        clear hc
        cases a <;> cases c
        all_goals
          go_wp2_with fail
          go_roundg (s.size - (k + 1))
          case measure => have := Hg.out; omega
          case rel => exact ⟨rfl, k + 1, by omega, rfl, by go_num, by rw [HE.out.1], by rw [HE.out.2]⟩
      · have t2 : (((s[k]'hlt).toNat : Int) != 46) = true := by rw [hc]; rfl
        have t3 : (((s[k]'hlt).toNat : Int) == 46) = false := by rw [hc]; rfl
        have t4 : (((s[k]'hlt).toNat : Int) != 101) = false := by rw [hc]; rfl
        have HE : Hid (wh s (k + 1) = false ∧ pt s (k + 1) = c) := Lib.hid (by rw [HW.out.1, HW.out.2, HB.out, hc]; simp)
        clear hc
        cases a <;> cases c
        all_goals
          go_wp2_with fail
          go_roundg (s.size - (k + 1))
          case measure => have := Hg.out; omega
          case rel => exact ⟨rfl, k + 1, by omega, rfl, by go_num, by rw [HE.out.1], by rw [HE.out.2]⟩
      · have t2 : (((s[k]'hlt).toNat : Int) != 46) = true := bne_iff_ne.2 (by omega)
        have t3 : (((s[k]'hlt).toNat : Int) == 46) = false := beq_eq_false_iff_ne.2 (by omega)
        have t4 : (((s[k]'hlt).toNat : Int) != 101) = true := bne_iff_ne.2 (by omega)
        have HE : Hid (wh s (k + 1) = a ∧ pt s (k + 1) = c) := Lib.hid (by rw [HW.out.1, HW.out.2, HB.out, beq_eq_false_iff_ne.2 hc, beq_eq_false_iff_ne.2 hc']; simp)
        clear hc hc'
        cases a <;> cases c
        all_goals
          go_wp2_with fail
          go_roundg (s.size - (k + 1))
          case measure => have := Hg.out; omega
          case rel => exact ⟨rfl, k + 1, by omega, rfl, by go_num, by rw [HE.out.1], by rw [HE.out.2]⟩
    · obtain rfl : k = s.size := by omega
      have t1 : decide (s.size < s.size) = false := decide_eq_false (by omega)
      obtain ⟨xR0, xR1, xR2⟩ := R.ce3
      obtain ⟨xD0, xD1, xD2⟩ := D.ce3
      cases hwh : wh s s.size
      · clear hC
        clear xR0 xR1 xR2 xD0 xD1 xD2 R
        go_wp2_with fail
        go_loopg [20] at0 (fun g s20 wr => w9 = wr ∧ ∃ k : Nat, k ≤ at0 ∧ g = at0 - k ∧ s20 = .int .i64 k)
        case atStart => exact ⟨rfl, 0, Nat.zero_le _, rfl, rfl⟩
        case round =>
          obtain ⟨rfl, k, hk, hg, rfl⟩ := hrel
          have Hg := Lib.hid hg
          clear hg
          by_cases hlt : k < at0
          · have hl : k < s.size := by omega
            have hne := hat2.out k hlt
            rw [byt_in hl] at hne
            have t1 : decide (k < s.size) = true := decide_eq_true hl
            have t2 : (((s[k]'hl).toNat : Int) != 101) = true := bne_iff_ne.2 (by omega)
            clear hne
            go_wp2_with fail
            go_roundg (at0 - (k + 1))
            case measure => have := Hg.out; omega
            case rel => exact ⟨rfl, k + 1, by omega, rfl, by go_num⟩
          · obtain rfl : k = at0 := by omega
            clear Hg
            have hend : decide (k < s.size) = false ∨ ∃ hl : k < s.size, decide (k < s.size) = true ∧ (((s[k]'hl).toNat : Int) != 101) = false := by
              rcases Nat.lt_or_ge k s.size with hl | hl
              · right
                rcases hat3 with h | h
                · omega
                · rw [byt_in hl] at h
                  exact ⟨hl, decide_eq_true hl, by rw [h]; rfl⟩
              · left; exact decide_eq_false (by omega)
            clear hat3 hat2
            obtain ⟨K, hK⟩ : ∃ K, K = Int.tmod nz 50 := ⟨_, rfl⟩
            have hK1 : -50 < K := by rw [hK]; exact (tmod50 nz).1
            have hK2 : K < 50 := by rw [hK]; exact (tmod50 nz).2
            have hKm := hK.symm
            clear hK
            obtain ⟨E, hE⟩ : ∃ E, s.extract 0 k = E := ⟨_, rfl⟩
            have hEz : E.size ≤ 2000 := by rw [← hE]; exact ext_size hs
            have hEl : E.data.toList = s.data.toList.take k := by rw [← hE]; simp
            obtain ⟨V, hV⟩ : ∃ V, s.extract k s.size = V := ⟨_, rfl⟩
            have hVz : V.size ≤ 2000 := by rw [← hV]; exact ext_size hs
            have hF9 := hF.out
            rw [hV] at hF9
            have HF := Lib.hid hF9
            have HB := Lib.hid (show base = E.data.toList ++ (if pt s s.size then [] else [46, 48]) from by rw [hEl]; exact hbase.out)
            clear hF9 hF hbase hEl
            rcases hend with t2 | ⟨hl, t2, t3⟩
            all_goals
              cases hp : pt s s.size
              all_goals
                go_wp2_with fail
                go_loopg [21, 22] K.toNat (fun g s21 s22 wr => w9 = wr ∧ ∃ (i : Nat) (Z : ByteArray), i ≤ K.toNat ∧ g = K.toNat - i ∧ s22 = .int .i64 i ∧ s21 = .string Z ∧ Z.data.toList = base ++ List.replicate i 48 ∧ Z.size ≤ 2002 + i)
                case atStart =>
                  have hb2 := HB.out
                  rw [hp] at hb2
                  first
                    | exact ⟨rfl, 0, E, Nat.zero_le _, rfl, rfl, rfl, by rw [hb2]; simp, by omega⟩
                    | exact ⟨rfl, 0, E ++ ⟨#[46, 48]⟩, Nat.zero_le _, rfl, rfl, rfl, by rw [hb2, app_data]; simp, by rw [ByteArray.size_append]; show E.size + 2 ≤ _; omega⟩
                case round =>
                  obtain ⟨rfl, i, Z, hi, hg, rfl, rfl, hZ, hZs⟩ := hrel
                  have HZ := Lib.hid (And.intro hZ hg)
                  clear hZ hg
                  by_cases hlt : i < K.toNat
                  · have t5 : decide ((i : Int) < K) = true := decide_eq_true (by omega)
                    go_wp2_with fail
                    go_roundg (K.toNat - (i + 1))
                    case measure => have := HZ.out.2; omega
                    case rel => exact ⟨rfl, i + 1, Z ++ ⟨#[48]⟩, by omega, rfl, by go_num, rfl, by rw [app_data, HZ.out.1, List.replicate_succ', List.append_assoc], by rw [ByteArray.size_append]; show Z.size + 1 ≤ _; omega⟩
                  · have t5 : decide ((i : Int) < K) = false := decide_eq_false (by omega)
                    obtain ⟨ne, hne⟩ := HF.out Z i (by omega) HZ.out.1
                    have hF1 := fun W => (hne W).1
                    have hF2 := fun W => (hne W).2
                    clear hne HZ
                    go_wp2_with fail
                    refine (hF1 _).mono ?_
                    rintro r w10 ⟨rfl, hB⟩
                    replace D := D.keep hB
                    replace hb := hb.trans (hB.mono hb.size)
                    clear hB
                    have lD2 := D.lt
                    have Q := Blk.put w10 #[.bool yn, .string yS, .string yT] 25
                    replace D := D.allocd (.cells #[.bool yn, .string yS, .string yT] 25)
                    replace hb := hb.alloc hb.size (.cells #[.bool yn, .string yS, .string yT] 25)
                    go_wp2_with fail
                    refine (hN _).mono ?_
                    rintro r w11 ⟨rfl, hB⟩
                    replace D := D.keep hB
                    replace Q := Q.keep hB
                    replace hb := hb.trans (hB.mono hb.size)
                    clear hB
                    go_wp2_with fail
                    refine (hF2 _).mono ?_
                    rintro r w12 ⟨rfl, hB⟩
                    replace D := D.keep hB
                    replace Q := Q.keep hB
                    replace hb := hb.trans (hB.mono hb.size)
                    clear hB
                    obtain ⟨xD0, xD1, xD2⟩ := D.ce3
                    obtain ⟨xQ0, xQ1, xQ2⟩ := Q.ce3
                    go_wp2_with fail
                    refine (hK _).mono ?_
                    rintro r w13 ⟨rfl, hB⟩
                    replace hb := hb.trans (hB.mono hb.size)
                    clear hB xD0 xD1 xD2 xQ0 xQ1 xQ2 D Q
                    go_wp2_with fail
                    refine (hL _).mono ?_
                    rintro r w14 ⟨rfl, hB⟩
                    replace hb := hb.trans (hB.mono hb.size)
                    clear hB
                    go_wp2_with fail
                    go_ret
                    exact ⟨rfl, hb⟩
      · by_cases hm : s.toList = [45, 48]
        · have hm2 : (s.toList == [45, 48]) = true := beq_iff_eq.2 hm
          clear hC hm
          clear xR0 xR1 xR2 xD0 xD1 xD2 R
          go_wp2_with fail
          go_loopg [20] at0 (fun g s20 wr => w9 = wr ∧ ∃ k : Nat, k ≤ at0 ∧ g = at0 - k ∧ s20 = .int .i64 k)
          case atStart => exact ⟨rfl, 0, Nat.zero_le _, rfl, rfl⟩
          case round =>
            obtain ⟨rfl, k, hk, hg, rfl⟩ := hrel
            have Hg := Lib.hid hg
            clear hg
            by_cases hlt : k < at0
            · have hl : k < s.size := by omega
              have hne := hat2.out k hlt
              rw [byt_in hl] at hne
              have t1 : decide (k < s.size) = true := decide_eq_true hl
              have t2 : (((s[k]'hl).toNat : Int) != 101) = true := bne_iff_ne.2 (by omega)
              clear hne
              go_wp2_with fail
              go_roundg (at0 - (k + 1))
              case measure => have := Hg.out; omega
              case rel => exact ⟨rfl, k + 1, by omega, rfl, by go_num⟩
            · obtain rfl : k = at0 := by omega
              clear Hg
              have hend : decide (k < s.size) = false ∨ ∃ hl : k < s.size, decide (k < s.size) = true ∧ (((s[k]'hl).toNat : Int) != 101) = false := by
                rcases Nat.lt_or_ge k s.size with hl | hl
                · right
                  rcases hat3 with h | h
                  · omega
                  · rw [byt_in hl] at h
                    exact ⟨hl, decide_eq_true hl, by rw [h]; rfl⟩
                · left; exact decide_eq_false (by omega)
              clear hat3 hat2
              obtain ⟨K, hK⟩ : ∃ K, K = Int.tmod nz 50 := ⟨_, rfl⟩
              have hK1 : -50 < K := by rw [hK]; exact (tmod50 nz).1
              have hK2 : K < 50 := by rw [hK]; exact (tmod50 nz).2
              have hKm := hK.symm
              clear hK
              obtain ⟨E, hE⟩ : ∃ E, s.extract 0 k = E := ⟨_, rfl⟩
              have hEz : E.size ≤ 2000 := by rw [← hE]; exact ext_size hs
              have hEl : E.data.toList = s.data.toList.take k := by rw [← hE]; simp
              obtain ⟨V, hV⟩ : ∃ V, s.extract k s.size = V := ⟨_, rfl⟩
              have hVz : V.size ≤ 2000 := by rw [← hV]; exact ext_size hs
              have hF9 := hF.out
              rw [hV] at hF9
              have HF := Lib.hid hF9
              have HB := Lib.hid (show base = E.data.toList ++ (if pt s s.size then [] else [46, 48]) from by rw [hEl]; exact hbase.out)
              clear hF9 hF hbase hEl
              rcases hend with t2 | ⟨hl, t2, t3⟩
              all_goals
                cases hp : pt s s.size
                all_goals
                  go_wp2_with fail
                  go_loopg [21, 22] K.toNat (fun g s21 s22 wr => w9 = wr ∧ ∃ (i : Nat) (Z : ByteArray), i ≤ K.toNat ∧ g = K.toNat - i ∧ s22 = .int .i64 i ∧ s21 = .string Z ∧ Z.data.toList = base ++ List.replicate i 48 ∧ Z.size ≤ 2002 + i)
                  case atStart =>
                    have hb2 := HB.out
                    rw [hp] at hb2
                    first
                      | exact ⟨rfl, 0, E, Nat.zero_le _, rfl, rfl, rfl, by rw [hb2]; simp, by omega⟩
                      | exact ⟨rfl, 0, E ++ ⟨#[46, 48]⟩, Nat.zero_le _, rfl, rfl, rfl, by rw [hb2, app_data]; simp, by rw [ByteArray.size_append]; show E.size + 2 ≤ _; omega⟩
                  case round =>
                    obtain ⟨rfl, i, Z, hi, hg, rfl, rfl, hZ, hZs⟩ := hrel
                    have HZ := Lib.hid (And.intro hZ hg)
                    clear hZ hg
                    by_cases hlt : i < K.toNat
                    · have t5 : decide ((i : Int) < K) = true := decide_eq_true (by omega)
                      go_wp2_with fail
                      go_roundg (K.toNat - (i + 1))
                      case measure => have := HZ.out.2; omega
                      case rel => exact ⟨rfl, i + 1, Z ++ ⟨#[48]⟩, by omega, rfl, by go_num, rfl, by rw [app_data, HZ.out.1, List.replicate_succ', List.append_assoc], by rw [ByteArray.size_append]; show Z.size + 1 ≤ _; omega⟩
                    · have t5 : decide ((i : Int) < K) = false := decide_eq_false (by omega)
                      obtain ⟨ne, hne⟩ := HF.out Z i (by omega) HZ.out.1
                      have hF1 := fun W => (hne W).1
                      have hF2 := fun W => (hne W).2
                      clear hne HZ
                      go_wp2_with fail
                      refine (hF1 _).mono ?_
                      rintro r w10 ⟨rfl, hB⟩
                      replace D := D.keep hB
                      replace hb := hb.trans (hB.mono hb.size)
                      clear hB
                      have lD2 := D.lt
                      have Q := Blk.put w10 #[.bool yn, .string yS, .string yT] 25
                      replace D := D.allocd (.cells #[.bool yn, .string yS, .string yT] 25)
                      replace hb := hb.alloc hb.size (.cells #[.bool yn, .string yS, .string yT] 25)
                      go_wp2_with fail
                      refine (hN _).mono ?_
                      rintro r w11 ⟨rfl, hB⟩
                      replace D := D.keep hB
                      replace Q := Q.keep hB
                      replace hb := hb.trans (hB.mono hb.size)
                      clear hB
                      go_wp2_with fail
                      refine (hF2 _).mono ?_
                      rintro r w12 ⟨rfl, hB⟩
                      replace D := D.keep hB
                      replace Q := Q.keep hB
                      replace hb := hb.trans (hB.mono hb.size)
                      clear hB
                      obtain ⟨xD0, xD1, xD2⟩ := D.ce3
                      obtain ⟨xQ0, xQ1, xQ2⟩ := Q.ce3
                      go_wp2_with fail
                      refine (hK _).mono ?_
                      rintro r w13 ⟨rfl, hB⟩
                      replace hb := hb.trans (hB.mono hb.size)
                      clear hB xD0 xD1 xD2 xQ0 xQ1 xQ2 D Q
                      go_wp2_with fail
                      refine (hL _).mono ?_
                      rintro r w14 ⟨rfl, hB⟩
                      replace hb := hb.trans (hB.mono hb.size)
                      clear hB
                      go_wp2_with fail
                      go_ret
                      exact ⟨rfl, hb⟩
        · have hm2 : (s.toList == [45, 48]) = false := beq_eq_false_iff_ne.2 hm
          obtain ⟨rfl, rfl, rfl⟩ : zn = yn ∧ zS = yS ∧ zT = yT := by
            rcases hC with h | h | h
            · rw [h] at hwh; exact Bool.noConfusion hwh
            · exact absurd h hm
            · exact h
          clear hC hm
          go_wp2_with fail
          clear xR0 xR1 xR2 xD0 xD1 xD2 R
          go_loopg [20] at0 (fun g s20 wr => w9 = wr ∧ ∃ k : Nat, k ≤ at0 ∧ g = at0 - k ∧ s20 = .int .i64 k)
          case atStart => exact ⟨rfl, 0, Nat.zero_le _, rfl, rfl⟩
          case round =>
            obtain ⟨rfl, k, hk, hg, rfl⟩ := hrel
            have Hg := Lib.hid hg
            clear hg
            by_cases hlt : k < at0
            · have hl : k < s.size := by omega
              have hne := hat2.out k hlt
              rw [byt_in hl] at hne
              have t1 : decide (k < s.size) = true := decide_eq_true hl
              have t2 : (((s[k]'hl).toNat : Int) != 101) = true := bne_iff_ne.2 (by omega)
              clear hne
              go_wp2_with fail
              go_roundg (at0 - (k + 1))
              case measure => have := Hg.out; omega
              case rel => exact ⟨rfl, k + 1, by omega, rfl, by go_num⟩
            · obtain rfl : k = at0 := by omega
              clear Hg
              have hend : decide (k < s.size) = false ∨ ∃ hl : k < s.size, decide (k < s.size) = true ∧ (((s[k]'hl).toNat : Int) != 101) = false := by
                rcases Nat.lt_or_ge k s.size with hl | hl
                · right
                  rcases hat3 with h | h
                  · omega
                  · rw [byt_in hl] at h
                    exact ⟨hl, decide_eq_true hl, by rw [h]; rfl⟩
                · left; exact decide_eq_false (by omega)
              clear hat3 hat2
              obtain ⟨K, hK⟩ : ∃ K, K = Int.tmod nz 50 := ⟨_, rfl⟩
              have hK1 : -50 < K := by rw [hK]; exact (tmod50 nz).1
              have hK2 : K < 50 := by rw [hK]; exact (tmod50 nz).2
              have hKm := hK.symm
              clear hK
              obtain ⟨E, hE⟩ : ∃ E, s.extract 0 k = E := ⟨_, rfl⟩
              have hEz : E.size ≤ 2000 := by rw [← hE]; exact ext_size hs
              have hEl : E.data.toList = s.data.toList.take k := by rw [← hE]; simp
              obtain ⟨V, hV⟩ : ∃ V, s.extract k s.size = V := ⟨_, rfl⟩
              have hVz : V.size ≤ 2000 := by rw [← hV]; exact ext_size hs
              have hF9 := hF.out
              rw [hV] at hF9
              have HF := Lib.hid hF9
              have HB := Lib.hid (show base = E.data.toList ++ (if pt s s.size then [] else [46, 48]) from by rw [hEl]; exact hbase.out)
              clear hF9 hF hbase hEl
              rcases hend with t2 | ⟨hl, t2, t3⟩
              all_goals
                cases hp : pt s s.size
                all_goals
                  go_wp2_with fail
                  go_loopg [21, 22] K.toNat (fun g s21 s22 wr => w9 = wr ∧ ∃ (i : Nat) (Z : ByteArray), i ≤ K.toNat ∧ g = K.toNat - i ∧ s22 = .int .i64 i ∧ s21 = .string Z ∧ Z.data.toList = base ++ List.replicate i 48 ∧ Z.size ≤ 2002 + i)
                  case atStart =>
                    have hb2 := HB.out
                    rw [hp] at hb2
                    first
                      | exact ⟨rfl, 0, E, Nat.zero_le _, rfl, rfl, rfl, by rw [hb2]; simp, by omega⟩
                      | exact ⟨rfl, 0, E ++ ⟨#[46, 48]⟩, Nat.zero_le _, rfl, rfl, rfl, by rw [hb2, app_data]; simp, by rw [ByteArray.size_append]; show E.size + 2 ≤ _; omega⟩
                  case round =>
                    obtain ⟨rfl, i, Z, hi, hg, rfl, rfl, hZ, hZs⟩ := hrel
                    have HZ := Lib.hid (And.intro hZ hg)
                    clear hZ hg
                    by_cases hlt : i < K.toNat
                    · have t5 : decide ((i : Int) < K) = true := decide_eq_true (by omega)
                      go_wp2_with fail
                      go_roundg (K.toNat - (i + 1))
                      case measure => have := HZ.out.2; omega
                      case rel => exact ⟨rfl, i + 1, Z ++ ⟨#[48]⟩, by omega, rfl, by go_num, rfl, by rw [app_data, HZ.out.1, List.replicate_succ', List.append_assoc], by rw [ByteArray.size_append]; show Z.size + 1 ≤ _; omega⟩
                    · have t5 : decide ((i : Int) < K) = false := decide_eq_false (by omega)
                      obtain ⟨ne, hne⟩ := HF.out Z i (by omega) HZ.out.1
                      have hF1 := fun W => (hne W).1
                      have hF2 := fun W => (hne W).2
                      clear hne HZ
                      go_wp2_with fail
                      refine (hF1 _).mono ?_
                      rintro r w10 ⟨rfl, hB⟩
                      replace D := D.keep hB
                      replace hb := hb.trans (hB.mono hb.size)
                      clear hB
                      have lD2 := D.lt
                      have Q := Blk.put w10 #[.bool zn, .string zS, .string zT] 25
                      replace D := D.allocd (.cells #[.bool zn, .string zS, .string zT] 25)
                      replace hb := hb.alloc hb.size (.cells #[.bool zn, .string zS, .string zT] 25)
                      go_wp2_with fail
                      refine (hN _).mono ?_
                      rintro r w11 ⟨rfl, hB⟩
                      replace D := D.keep hB
                      replace Q := Q.keep hB
                      replace hb := hb.trans (hB.mono hb.size)
                      clear hB
                      go_wp2_with fail
                      refine (hF2 _).mono ?_
                      rintro r w12 ⟨rfl, hB⟩
                      replace D := D.keep hB
                      replace Q := Q.keep hB
                      replace hb := hb.trans (hB.mono hb.size)
                      clear hB
                      obtain ⟨xD0, xD1, xD2⟩ := D.ce3
                      obtain ⟨xQ0, xQ1, xQ2⟩ := Q.ce3
                      go_wp2_with fail
                      refine (hK _).mono ?_
                      rintro r w13 ⟨rfl, hB⟩
                      replace hb := hb.trans (hB.mono hb.size)
                      clear hB xD0 xD1 xD2 xQ0 xQ1 xQ2 D Q
                      go_wp2_with fail
                      refine (hL _).mono ?_
                      rintro r w14 ⟨rfl, hB⟩
                      replace hb := hb.trans (hB.mono hb.size)
                      clear hB
                      go_wp2_with fail
                      go_ret
                      exact ⟨rfl, hb⟩

end Go.Proofs.Ytfbggddmmkmadaa

/- filigreelaw04.like of a float with itself; RatioBack. -/
namespace Go.Proofs.Ytfbggddmmkmadaa
open Go Go.RowKit Go.PlainAid Fil

set_option maxRecDepth 100000 in
set_option maxHeartbeats 2000000 in
theorem l4like_same (f : Nat) (w : World) : Calls Try.prog 19 #[.float .f64 f, .float .f64 f] w fun r w' => r = .returned (.bool true) ∧ Below w.heap.size w w' := by
  have h1 := run_f64bits
  have hb := Below.refl w.heap.size w
  cases ho : (FloatKind.f64.format.order f f != some .eq)
  all_goals
    go_enter Try.func19, Try.ntmps19
    go_wp2_with fail
    go_ret
    exact ⟨rfl, hb⟩
set_option maxRecDepth 1000000 in
set_option maxHeartbeats 4000000 in
theorem back_bad1 (xn : Bool) (xS xT s : ByteArray) (nz : Int) (w : World) (h0 : ∀ W, Calls Try.prog 13 #[.agg #[.bool xn, .string xS, .string xT]] W fun r w' => r = .returned (.bool false) ∧ Below W.heap.size W w') (hL : ∀ W, Calls Try.prog 6 #[] W fun r w' => r = .returned (.bool true) ∧ Below W.heap.size W w') :
    Calls Try.prog 5 #[.agg #[.bool xn, .string xS, .string xT], .string s, .int .i64 nz] w fun r w' => r = .returned (.bool true) ∧ Below w.heap.size w w' := by
  have hb := Below.refl w.heap.size w
  go_enter Try.func5, Try.ntmps5
  have X := Blk.put w #[.bool xn, .string xS, .string xT] 25
  replace hb := hb.alloc hb.size (.cells #[.bool xn, .string xS, .string xT] 25)
  obtain ⟨x0, x1, x2⟩ := X.ce3
  go_wp2_with fail
  refine (h0 _).mono ?_
  rintro r w1 ⟨rfl, hB⟩
  replace hb := hb.trans (hB.mono hb.size)
  clear hB x0 x1 x2 X
  go_wp2_with fail
  refine (hL _).mono ?_
  rintro r w2 ⟨rfl, hB⟩
  replace hb := hb.trans (hB.mono hb.size)
  clear hB
  go_wp2_with fail
  go_ret
  exact ⟨rfl, hb⟩
set_option maxRecDepth 1000000 in
set_option maxHeartbeats 4000000 in
theorem back_bad2 (xn : Bool) (xS xT s : ByteArray) (nz : Int) (w : World) (hs : 2000 < s.size) (hs2 : s.size ≤ 9223372036854775807) (h0 : ∀ W, Calls Try.prog 13 #[.agg #[.bool xn, .string xS, .string xT]] W fun r w' => r = .returned (.bool true) ∧ Below W.heap.size W w') (hL : ∀ W, Calls Try.prog 6 #[] W fun r w' => r = .returned (.bool true) ∧ Below W.heap.size W w') :
    Calls Try.prog 5 #[.agg #[.bool xn, .string xS, .string xT], .string s, .int .i64 nz] w fun r w' => r = .returned (.bool true) ∧ Below w.heap.size w w' := by
  have hq : decide ((2000 : Int) < (s.size : Int)) = true := decide_eq_true (by omega)
  have hb := Below.refl w.heap.size w
  go_enter Try.func5, Try.ntmps5
  have X := Blk.put w #[.bool xn, .string xS, .string xT] 25
  replace hb := hb.alloc hb.size (.cells #[.bool xn, .string xS, .string xT] 25)
  obtain ⟨x0, x1, x2⟩ := X.ce3
  go_wp2_with fail
  refine (h0 _).mono ?_
  rintro r w1 ⟨rfl, hB⟩
  replace hb := hb.trans (hB.mono hb.size)
  clear hB x0 x1 x2 X
  go_wp2_with fail
  refine (hL _).mono ?_
  rintro r w2 ⟨rfl, hB⟩
  replace hb := hb.trans (hB.mono hb.size)
  clear hB
  go_wp2_with fail
  go_ret
  exact ⟨rfl, hb⟩
theorem wh_iff (s : ByteArray) : ∀ n, wh s n = true ↔ ∀ i, i < n → byt s i ≠ 46 ∧ byt s i ≠ 101
  | 0 => ⟨fun _ i h => absurd h (by omega), fun _ => rfl⟩
  | n + 1 => by
    show (wh s n && !(byt s n == 46) && !(byt s n == 101)) = true ↔ _
    rw [Bool.and_eq_true, Bool.and_eq_true, wh_iff s n]
    simp only [Bool.not_eq_true', beq_eq_false_iff_ne]
    constructor
    · rintro ⟨⟨h1, h2⟩, h3⟩ i hi
      rcases Nat.lt_or_ge i n with h4 | h4
      · exact h1 i h4
      · obtain rfl : i = n := by omega
        exact ⟨h2, h3⟩
    · intro h
      exact ⟨⟨fun i hi => h i (by omega), (h n (by omega)).1⟩, (h n (by omega)).2⟩
theorem pt_iff (s : ByteArray) : ∀ n, pt s n = true ↔ ∃ i, i < n ∧ byt s i = 46
  | 0 => ⟨fun h => Bool.noConfusion h, fun ⟨i, h, _⟩ => absurd h (by omega)⟩
  | n + 1 => by
    show (pt s n || byt s n == 46) = true ↔ _
    rw [Bool.or_eq_true, pt_iff s n, beq_iff_eq]
    constructor
    · rintro (⟨i, h1, h2⟩ | h)
      · exact ⟨i, by omega, h2⟩
      · exact ⟨n, by omega, h⟩
    · rintro ⟨i, h1, h2⟩
      rcases Nat.lt_or_ge i n with h4 | h4
      · exact .inl ⟨i, h4, h2⟩
      · obtain rfl : i = n := by omega
        exact .inr h2
theorem byt_mem {s : ByteArray} {l : List UInt8} (h : s.data.toList = l) {i : Nat} (hi : i < l.length) : ∃ c, c ∈ l ∧ byt s i = c.toNat := ⟨l[i], List.getElem_mem hi, by rw [byt_list h, dif_pos hi]⟩
theorem byt_left {s : ByteArray} {A B : List UInt8} (h : s.data.toList = A ++ B) {i : Nat} (hi : i < A.length) : ∃ c, c ∈ A ∧ byt s i = c.toNat := by
  refine ⟨A[i], List.getElem_mem hi, ?_⟩
  rw [byt_list h, dif_pos (by rw [List.length_append]; omega)]
  congr 1
  exact List.getElem_append_left hi
theorem front_ne {neg : Bool} {H T : List UInt8} (hH : allDec H) (hT : allDec T) {c : UInt8} (hc : c ∈ signL neg ++ H ++ tailL T) : c.toNat ≠ 101 ∧ (T = [] → c.toNat ≠ 46) := by
  rcases List.mem_append.1 hc with h | h
  · rcases List.mem_append.1 h with h | h
    · cases neg
      · simp [signL] at h
      · have : c = 45 := by simpa [signL] using h
        subst this
        exact ⟨by decide, fun _ => by decide⟩
    · have := dec_toNat (hH c h)
      exact ⟨by omega, fun _ => by omega⟩
  · unfold tailL at h
    split at h
    · simp at h
    · rename_i hT0
      rcases List.mem_cons.1 h with h | h
      · subst h
        exact ⟨by decide, fun h => absurd h hT0⟩
      · have := dec_toNat (hT c h)
        exact ⟨by omega, fun _ => by omega⟩
theorem pow_ne {down : Bool} {Q : List UInt8} (hQ : allDec Q) {c : UInt8} (hc : c ∈ powL down Q) : c.toNat ≠ 46 := by
  unfold powL at hc
  split at hc
  · simp at hc
  · rcases List.mem_cons.1 hc with h | h
    · subst h; decide
    · rcases List.mem_append.1 h with h | h
      · cases down
        · simp at h
        · have : c = 45 := by simpa using h
          subst this; decide
      · have := dec_toNat (hQ c h); omega
theorem pt_tail {s : ByteArray} {neg down : Bool} {H T Q : List UInt8} (wf : Wf down H T Q) (h : s.data.toList = spell neg down H T Q) : pt s s.size = true ↔ T ≠ [] := by
  have hQ : allDec Q := by
    rcases wf.power with ⟨rfl, _⟩ | h
    · intro c hc; simp at hc
    · exact h.1.1
  have h2 : s.data.toList = (signL neg ++ H ++ tailL T) ++ powL down Q := by rw [h]; simp [spell]
  rw [pt_iff]
  constructor
  · rintro ⟨i, hi, h46⟩ rfl
    rcases Nat.lt_or_ge i (signL neg ++ H ++ tailL []).length with h3 | h3
    · obtain ⟨c, hc, e⟩ := byt_left h2 h3
      exact (front_ne wf.head.1 wf.tail hc).2 rfl (by rw [← e, h46])
    · obtain ⟨c, hc, e⟩ := byt_mem h2 (i := i) (by rw [← size_of h2]; exact hi)
      rcases List.mem_append.1 hc with h4 | h4
      · exact (front_ne wf.head.1 wf.tail h4).2 rfl (by rw [← e, h46])
      · exact pow_ne hQ h4 (by rw [← e, h46])
  · intro hT
    have h3 : s.data.toList = (signL neg ++ H) ++ 46 :: (T ++ powL down Q) := by rw [h]; simp [spell, tailL, hT]
    exact ⟨_, by rw [size_of h3, List.length_append]; simp, byt_mid h3⟩
/-- a text as Read and Decimal see it, with noughts -/
theorem spell_noughts {neg down : Bool} {H T Q : List UInt8} (n : Nat) : ∃ j, (signL neg ++ H ++ tailL T ++ (if T ≠ [] then [] else [46, 48])) ++ List.replicate n 48 ++ powL down Q = spell neg down H (T ++ List.replicate j 48) Q := by
  by_cases hT : T = []
  · subst hT
    refine ⟨n + 1, ?_⟩
    simp [spell, tailL, List.replicate_succ]
  · refine ⟨n, ?_⟩
    simp [spell, tailL, hT]
theorem back_plain {s : ByteArray} (hs : s.size ≤ 2000) (ok : decOk s) : ∃ at0, at0 ≤ s.size ∧ (∀ i, i < at0 → byt s i ≠ 101) ∧ (at0 = s.size ∨ byt s at0 = 101) ∧
    (∀ (Z : ByteArray) (n : Nat), n < 50 → Z.data.toList = s.data.toList.take at0 ++ (if pt s s.size then [] else [46, 48]) ++ List.replicate n 48 → decOk (Z ++ s.extract at0 s.size) ∧ dcmR (SP (Z ++ s.extract at0 s.size)).1 = dcmR (SP s).1 ∧ nrF (Z ++ s.extract at0 s.size) = nrF s ∧ (Z ++ s.extract at0 s.size).size ≤ 4096) ∧
    (wh s s.size = true → s.toList ≠ [45, 48] → ktx (dcmR (SP s).1) = s.data.toList) := by
  obtain ⟨neg, down, H, T, Q, wf, hl, hd⟩ := SP_conv (s := s) (d := (SP s).1) (by rw [← ok.2.1])
  have h2 : s.data.toList = (signL neg ++ H ++ tailL T) ++ powL down Q := by rw [hl]; simp [spell]
  have hz := size_of h2
  rw [List.length_append] at hz
  have hp := pt_tail wf hl
  refine ⟨(signL neg ++ H ++ tailL T).length, by omega, fun i hi => ?_, ?_, fun Z n hn hZ => ?_, fun hw hm => ?_⟩
  · obtain ⟨c, hc, e⟩ := byt_left h2 hi
    rw [e]
    exact (front_ne wf.head.1 wf.tail hc).1
  · by_cases hQ : Q = []
    · left
      rw [hz]; simp [powL, hQ]
    · right
      have h3 : s.data.toList = (signL neg ++ H ++ tailL T) ++ 101 :: ((if down then [45] else []) ++ Q) := by rw [h2]; simp [powL, hQ]
      exact byt_mid h3
  · have hx : (s.extract (signL neg ++ H ++ tailL T).length s.size).data.toList = powL down Q := by rw [ext_tail h2]
    have hlen : (Z ++ s.extract (signL neg ++ H ++ tailL T).length s.size).size ≤ 4096 := by
      rw [ByteArray.size_append, size_of hZ]
      have h5 := ext_size (i := (signL neg ++ H ++ tailL T).length) (j := s.size) hs
      simp only [List.length_append, List.length_replicate, List.length_take]
      split <;> simp <;> omega
    have htk : s.data.toList.take (signL neg ++ H ++ tailL T).length = signL neg ++ H ++ tailL T := by rw [h2]; exact List.take_left' rfl
    have hif : (if pt s s.size then ([] : List UInt8) else [46, 48]) = if T ≠ [] then [] else [46, 48] := by
      by_cases hT : T = []
      · rw [if_neg (fun k => hp.1 k hT), if_neg (fun k => k hT)]
      · rw [if_pos (hp.2 hT), if_pos hT]
    obtain ⟨j, hj⟩ := spell_noughts (neg := neg) (down := down) (H := H) (T := T) (Q := Q) n
    have h6 : (Z ++ s.extract (signL neg ++ H ++ tailL T).length s.size).data.toList = spell neg down H (T ++ List.replicate j 48) Q := by
      rw [app_data, hx, hZ, htk, hif, hj]
    obtain ⟨k1, k2, k3⟩ := back_noughts j wf hl h6 ok hlen
    exact ⟨k1, k2, k3, hlen⟩
  · rw [wh_iff] at hw
    have hT : T = [] := by
      rcases Classical.em (T = []) with h | h
      · exact h
      · obtain ⟨i, hi, h46⟩ := (pt_iff s s.size).1 (hp.2 h)
        exact absurd h46 (hw i hi).1
    have hQ : Q = [] := by
      rcases Classical.em (Q = []) with h | h
      · exact h
      · have h3 : s.data.toList = (signL neg ++ H ++ tailL T) ++ 101 :: ((if down then [45] else []) ++ Q) := by rw [h2]; simp [powL, h]
        exact absurd (byt_mid h3) (hw _ (by rw [hz]; simp [powL, h])).2
    subst hT
    subst hQ
    have hdn : down = false := by
      rcases wf.power with h | h
      · exact h.2
      · exact absurd rfl h.1.2.1
    subst hdn
    rw [hd, hl]
    refine whole_text wf.head fun hneg h48 => hm ?_
    subst hneg
    subst h48
    rw [ByteArray.toList_eq, hl]
    rfl
theorem ktx_short {x : Rat} (h : Bts 300 x) : (⟨(ktx x).toArray⟩ : ByteArray).size ≤ 80000 := by
  show (ktx x).toArray.size ≤ 80000
  rw [List.size_toArray]
  unfold ktx
  have h1 := dtx_len (dn32_8 h.1)
  have h2 := dtx_len (dn32_8 h.2)
  rw [List.length_append, List.length_append]
  split <;> split <;> simp <;> omega
theorem kread_text (z : Rat) (s : ByteArray) (w : World) (hz : Fits z) (hs : s.size ≤ 80000) (h : ktx z = s.data.toList) : Calls Try.prog 16 #[.string s] w fun e w' => e = .returned (.tuple #[kA z, .int .i64 0]) ∧ Below w.heap.size w w' :=
  (kread_any s w hs).mono fun e w' ⟨h1, h2⟩ => by
    rcases h1 with ⟨y, fy, hy, he⟩ | ⟨hn, _⟩
    · rw [ktx_inj fy (hy.trans h.symm)] at he
      exact ⟨he, h2⟩
    · exact absurd h (hn z hz)
theorem kread_none (s : ByteArray) (w : World) (hs : s.size ≤ 80000) (h : ¬ ∃ z, Fits z ∧ ktx z = s.data.toList) : Calls Try.prog 16 #[.string s] w fun e w' => e = .returned (errV 40) ∧ Below w.heap.size w w' :=
  (kread_any s w hs).mono fun e w' ⟨h1, h2⟩ => by
    rcases h1 with ⟨y, fy, hy, _⟩ | ⟨_, he⟩
    · exact absurd ⟨y, fy, hy⟩ h
    · exact ⟨he, h2⟩
theorem ratioBack_any (xn : Bool) (xS xT s : ByteArray) (nz : Int) (w : World) (b1 : xS.size ≤ 9223372036854775807) (b2 : xT.size ≤ 9223372036854775807) (b3 : s.size ≤ 9223372036854775807) (_b4 : -9223372036854775808 ≤ nz) (_b5 : nz ≤ 9223372036854775807) :
    Calls Try.prog 5 #[.agg #[.bool xn, .string xS, .string xT], .string s, .int .i64 nz] w fun r w' => r = .returned (.bool true) ∧ Below w.heap.size w w' := by
  have h0 := fun W => l4small_any xn xS xT W b1 b2
  have hM := fun W => kmay_any xn xS xT W b1 b2
  have hL := l4lives_any
  cases e0 : smallB xS xT
  · rw [e0] at h0; exact back_bad1 xn xS xT s nz w h0 hL
  rw [e0] at h0
  by_cases hs : s.size ≤ 2000
  case neg => exact back_bad2 xn xS xT s nz w (by omega) b3 h0 hL
  have hD := fun W => kdecimal_any s W b3
  have hU0 := fun W => ktext_bad false ⟨#[]⟩ ⟨#[]⟩ W (by decide) (by decide) (by rfl)
  have hA := fun f W => l4like_same f W
  have hz := small_sizes e0
  have tsame : ∀ z : Rat, ktx z = s.data.toList → ((⟨(ktx z).toArray⟩ : ByteArray).toList == s.toList) = true := fun z h => by rw [beq_iff_eq, ByteArray.toList_eq, ByteArray.toList_eq, ← h]
  by_cases ok : decOk s
  · rw [decV_ok ok] at hD
    have fy := dcm_fits ok.dcm ok.1 ok.2.2
    have hN := fun W => knearest_good s W b3 ok
    obtain ⟨at0, p1, p2, p3, p4, p5⟩ := back_plain hs ok
    have hblen : (s.data.toList.take at0 ++ (if pt s s.size then ([] : List UInt8) else [46, 48])).length ≤ 2002 := by
      rw [List.length_append, List.length_take, len_toList]
      split <;> simp <;> omega
    have hF : ∀ (Z : ByteArray) (n : Nat), n < 50 → Z.data.toList = s.data.toList.take at0 ++ (if pt s s.size then ([] : List UInt8) else [46, 48]) ++ List.replicate n 48 → ∃ e : Int, ∀ W, (Calls Try.prog 17 #[.string (Z ++ s.extract at0 s.size)] W fun r w' => r = .returned (.tuple #[kA (dcmR (SP s).1), .int .i64 0]) ∧ Below W.heap.size W w') ∧ (Calls Try.prog 18 #[.string (Z ++ s.extract at0 s.size)] W fun r w' => r = .returned (.tuple #[.float .f64 (nrF s), .int .i64 e]) ∧ Below W.heap.size W w') := fun Z n hn hZ => by
      obtain ⟨k1, k2, k3, k4⟩ := p4 Z n hn hZ
      refine ⟨0, fun W => ⟨?_, ?_⟩⟩
      · have := kdecimal_any (Z ++ s.extract at0 s.size) W (by omega)
        rw [decV_ok k1, k2] at this
        exact this
      · have := knearest_good (Z ++ s.extract at0 s.size) W (by omega) k1
        rw [k3] at this
        exact this
    unfold kA at hD hF
    by_cases hr : ∃ z, Fits z ∧ ktx z = s.data.toList
    · obtain ⟨z, fz, hzs⟩ := hr
      have hS := fun W => kread_text z s W fz (by omega) hzs
      have hU := fun W => ktext_ok z W fz
      have hC : wh s s.size = false ∨ s.toList = [45, 48] ∨ (sg z.num = sg (dcmR (SP s).1).num ∧ bstr z.num.natAbs = bstr (dcmR (SP s).1).num.natAbs ∧ bstr z.den = bstr (dcmR (SP s).1).den) := by
        by_cases hw : wh s s.size = true
        · by_cases hm : s.toList = [45, 48]
          · exact .inr (.inl hm)
          · have := ktx_inj fz (hzs.trans (p5 hw hm).symm)
            rw [this]
            exact .inr (.inr ⟨rfl, rfl, rfl⟩)
        · exact .inl (by simpa using hw)
      unfold kA at hS hU
      cases em : kMayB xn xS xT
      · rw [em] at hM
        exact back_011 xn xS xT s nz _ _ _ _ _ _ _ _ w hs h0 hM hS hU (tsame z hzs) hD hN (hA _) at0 p1 (Lib.hid p2) p3 _ (Lib.hid rfl) hblen (Lib.hid hF) hC hL
      · rw [em] at hM
        obtain ⟨x, fx, rfl, rfl, rfl⟩ := rat_of_may em
        rw [bstr_size, bstr_size] at hz
        have hT := fun W => ktext_ok x W fx
        have hR := fun W => kread_text x ⟨(ktx x).toArray⟩ W fx (ktx_short hz) (by simp)
        unfold kA at hT hR
        exact back_111 _ _ _ s nz _ _ _ _ _ _ _ _ _ w hs h0 hM hT hR hS hU (tsame z hzs) hD hN (hA _) at0 p1 (Lib.hid p2) p3 _ (Lib.hid rfl) hblen (Lib.hid hF) hC hL
    · have hS := fun W => kread_none s W (by omega) hr
      have hC : wh s s.size = false ∨ s.toList = [45, 48] := by
        by_cases hw : wh s s.size = true
        · by_cases hm : s.toList = [45, 48]
          · exact .inr hm
          · exact absurd ⟨_, fy, p5 hw hm⟩ hr
        · exact .inl (by simpa using hw)
      unfold errV at hS
      cases em : kMayB xn xS xT
      · rw [em] at hM
        exact back_001 xn xS xT s nz _ _ _ _ w hs h0 hM hS hU0 hD hN (hA _) at0 p1 (Lib.hid p2) p3 _ (Lib.hid rfl) hblen (Lib.hid hF) hC hL
      · rw [em] at hM
        obtain ⟨x, fx, rfl, rfl, rfl⟩ := rat_of_may em
        rw [bstr_size, bstr_size] at hz
        have hT := fun W => ktext_ok x W fx
        have hR := fun W => kread_text x ⟨(ktx x).toArray⟩ W fx (ktx_short hz) (by simp)
        unfold kA at hT hR
        exact back_101 _ _ _ s nz _ _ _ _ _ w hs h0 hM hT hR hS hU0 hD hN (hA _) at0 p1 (Lib.hid p2) p3 _ (Lib.hid rfl) hblen (Lib.hid hF) hC hL
  · obtain ⟨de, hde, hv⟩ := decV_bad ok
    rw [hv] at hD
    have hde2 : (de != 0) = true := by rcases hde with rfl | rfl <;> rfl
    unfold errV at hD
    by_cases hr : ∃ z, Fits z ∧ ktx z = s.data.toList
    · obtain ⟨z, fz, hzs⟩ := hr
      have hS := fun W => kread_text z s W fz (by omega) hzs
      have hU := fun W => ktext_ok z W fz
      unfold kA at hS hU
      cases em : kMayB xn xS xT
      · rw [em] at hM
        exact back_010 xn xS xT s nz _ _ _ _ de w hs h0 hM hS hU (tsame z hzs) hD hde2 hL
      · rw [em] at hM
        obtain ⟨x, fx, rfl, rfl, rfl⟩ := rat_of_may em
        rw [bstr_size, bstr_size] at hz
        have hT := fun W => ktext_ok x W fx
        have hR := fun W => kread_text x ⟨(ktx x).toArray⟩ W fx (ktx_short hz) (by simp)
        unfold kA at hT hR
        exact back_110 _ _ _ s nz _ _ _ _ _ de w hs h0 hM hT hR hS hU (tsame z hzs) hD hde2 hL
    · have hS := fun W => kread_none s W (by omega) hr
      unfold errV at hS
      cases em : kMayB xn xS xT
      · rw [em] at hM
        exact back_000 xn xS xT s nz de w hs h0 hM hS hU0 hD hde2 hL
      · rw [em] at hM
        obtain ⟨x, fx, rfl, rfl, rfl⟩ := rat_of_may em
        rw [bstr_size, bstr_size] at hz
        have hT := fun W => ktext_ok x W fx
        have hR := fun W => kread_text x ⟨(ktx x).toArray⟩ W fx (ktx_short hz) (by simp)
        unfold kA at hT hR
        exact back_100 _ _ _ s nz _ de w hs h0 hM hT hR hS hU0 hD hde2 hL
end Go.Proofs.Ytfbggddmmkmadaa

/- From a row's hypotheses to what the walks ask: a Ratio among the arguments. -/
namespace Go.Proofs.Ytfbggddmmkmadaa
open Go Go.RowKit Go.PlainAid Fil Go.Joins Go.ChangeShapes Go.WideShapes Go.ChangeAt

theorem own : ownKnob Try.prog.godebug = none := by kernel_rfl
section
variable {H : Type} {enc : TypeId × Value → H} {w w' : World} {base : Nat} {sp : Nat → Bool} {held : Bool}

set_option maxRecDepth 20000 in
theorem open_ratio {r : Reach} {b0 : Nat} {v : Value} {d : DataW H} {p : List MemPlace} (hv : Value.okWide Try.prog w r b0 25 v) (h : DataW.Trod enc Try.prog w base sp held 25 v d p) :
    ∃ (neg : Bool) (s t : ByteArray), v = .agg #[.bool neg, .string s, .string t] ∧ d = .agg [.lit (.bool neg), .lit (.string s.data.toList), .lit (.string t.data.toList)] ∧ p = [] ∧ s.size ≤ maxLen ∧ t.size ≤ maxLen := by
  obtain ⟨v0, v1, v2, y0, y1, y2, n, rfl, rfl, rfl, h0, h1, h2⟩ := open_agg3 Try.underlying25 (by kernel_rfl) (by kernel_rfl) hv h
  obtain ⟨neg, e0, rfl⟩ := DataW.trod_bool Try.underlying4 h0
  obtain ⟨s, e1, rfl, hs⟩ := DataW.trod_string Try.underlying23 h1
  obtain ⟨t, e2, rfl, ht⟩ := DataW.trod_string Try.underlying23 h2
  obtain rfl := (List.cons.inj e0).1
  obtain rfl := (List.cons.inj e1).1
  obtain rfl := (List.cons.inj e2).1
  exact ⟨neg, s, t, rfl, rfl, rfl, hs, ht⟩
theorem shut_ratio (neg : Bool) (s t : ByteArray) (hs : s.size ≤ maxLen) (ht : t.size ≤ maxLen) : DataW.Trod enc Try.prog w base sp held 25 (.agg #[.bool neg, .string s, .string t]) (.agg [.lit (.bool neg), .lit (.string s.data.toList), .lit (.string t.data.toList)]) [] := by
  have h1 : DataW.Trod enc Try.prog w base sp held 23 (.string s) (.lit (.string s.data.toList)) [] := Go.ChangeMaps.shut_string Try.underlying23 hs
  have h0 : DataW.Trod enc Try.prog w base sp held 4 (.bool neg) (.lit (.bool neg)) [] := shut_bool Try.underlying4 neg
  have h2 : DataW.Trod enc Try.prog w base sp held 23 (.string t) (.lit (.string t.data.toList)) [] := Go.ChangeMaps.shut_string Try.underlying23 ht
  obtain ⟨n0, k0⟩ := h0
  obtain ⟨n1, k1⟩ := h1
  obtain ⟨n2, k2⟩ := h2
  exact shut_agg3 (y0 := (_, [])) (y1 := (_, [])) (y2 := (_, [])) Try.underlying25 (by kernel_rfl) (by kernel_rfl) ⟨n0, k0⟩ ⟨n1, k1⟩ ⟨n2, k2⟩
end
end Go.Proofs.Ytfbggddmmkmadaa

/- Proved: filigreelaw04.RatioBack returns true for every input and leaves its arguments as they were. Conditions: none. -/
namespace Go.Proofs.Ytfbggddmmkmadaa
open Go Go.RowKit Go.PlainAid Fil Go.ChangeShapes Go.WideShapes Go.ChangeAt

set_option maxRecDepth 100000 in
theorem ratioBack_lifted (os : Os) (started : os.Started) (H : Type) (enc : TypeId × Value → H) :
    ReturnsInHanded {} Try.checked os 5 .any (Rows.ratioBackSpec.pre6 enc Try.prog Try.f5 Rows.ratioBackRow.domain false) (Rows.ratioBackSpec.post enc Try.prog Try.f5 false true false false) := by
  refine returnsInHanded_of_change (C := Try.checked) own started (by kernel_rfl) Try.func5
    (ChangeSpec.witness6 (enc := enc) (C := Try.checked) false ⟨#[], #[.agg #[.bool false, .string { data := #[] }, .string { data := #[] }], .string { data := #[] }, .int .i64 0], []⟩ 8 (by kernel_rfl) (by kernel_rfl) (by kernel_rfl) (by kernel_rfl)) ?_
  intro W base args ds gs before hval0 hW _ _
  have hval : ∀ (j : Nat) t v, Try.f5.params[j]? = some t → args[j]? = some v → Value.okWide Try.prog W .any base t v := hval0
  have hW' := hW
  obtain ⟨p, q, hA0, hV, rfl, _, _⟩ := hW
  have hA : DataW.TrodAll enc Try.prog W 0 (fun _ => true) true Try.f5.params.toList args.toList ds p := hA0
  rw [Try.params5] at hA hval
  obtain ⟨v0, v1, v2, d0, d1, d2, p0, p1, p2, rfl, rfl, rfl, h0, h1, h2⟩ := trodAll_three hA
  obtain ⟨rfl, rfl⟩ := trodVars_none hV
  obtain ⟨n0, s0, t0, rfl, rfl, rfl, hs0, ht0⟩ := open_ratio (hval 0 25 v0 rfl rfl) h0
  obtain ⟨s1, rfl, rfl, rfl, hs1⟩ := Go.ChangeMaps.open_string Try.underlying9 (hval 1 9 v1 rfl rfl) h1
  obtain ⟨z2, rfl, rfl, rfl, wz2⟩ := open_int Try.underlying3 (hval 2 3 v2 rfl rfl) h2
  have bz2 := bounds_i64 wz2
  simp only [List.append_nil] at hW'
  refine (ratioBack_any n0 s0 t0 s1 z2 W (by unfold maxLen at hs0; omega) (by unfold maxLen at ht0; omega) (by unfold maxLen at hs1; omega) bz2.1 bz2.2).mono fun r W' ⟨hr, hb⟩ => ?_
  subst hr
  exact ⟨_, rfl, _, _, _, [], [], [], hW', trodAll_mk1 (shut_bool Try.underlying4 _), trodAll_mk3 (shut_ratio n0 s0 t0 hs0 ht0) (Go.ChangeMaps.shut_string Try.underlying9 hs1) (shut_int Try.underlying3 wz2), rfl, hb.frame _, fun h => by cases h⟩

theorem ratioBack_holds : Rows.RatioBackSaid :=
  OpenClaim.holds_of_wide 5 Try.f5 rfl rfl rfl rfl rfl rfl rfl ⟨rfl, rfl, rfl, rfl, rfl⟩ rfl rfl rfl rfl rfl (by kernel_rfl) Try.func5 (by kernel_rfl)
    (of_decide_eq_true (by kernel_rfl)) (by unfold Func.isWrapper; first | (rw [if_pos (by decide +kernel)]; kernel_rfl) | (rw [if_neg (by decide +kernel)]; exact ⟨rfl, rfl⟩))
    (fun os started H enc _ => ratioBack_lifted os started H enc)
#print axioms ratioBack_holds
end Go.Proofs.Ytfbggddmmkmadaa
