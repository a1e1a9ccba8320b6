/- filigreelaw04.RatioBack: the walk, further ways. -/
import Derived.Test.YtfbggddmmkmadaaKm
namespace Go.Proofs.Ytfbggddmmkmadaa
open Go Go.RowKit Go.PlainAid Fil

set_option maxRecDepth 1000000 in
set_option maxHeartbeats 16000000 in
theorem back_100 (xn : Bool) (xS xT s : ByteArray) (nz : Int) (tx : ByteArray) (de : Int) (w : World) (hs : s.size ≤ 2000) (h0 : ∀ W, Calls Try.prog 13 #[.agg #[.bool xn, .string xS, .string xT]] W fun r w' => r = .returned (.bool true) ∧ Below W.heap.size W w') (hM : ∀ W, Calls Try.prog 14 #[.agg #[.bool xn, .string xS, .string xT]] W fun r w' => r = .returned (.bool true) ∧ Below W.heap.size W w') (hT : ∀ W, Calls Try.prog 15 #[.agg #[.bool xn, .string xS, .string xT]] W fun r w' => r = .returned (.tuple #[.string tx, .int .i64 0]) ∧ Below W.heap.size W w') (hR : ∀ W, Calls Try.prog 16 #[.string tx] W fun r w' => r = .returned (.tuple #[.agg #[.bool xn, .string xS, .string xT], .int .i64 0]) ∧ Below W.heap.size W w') (hS : ∀ W, Calls Try.prog 16 #[.string s] W fun r w' => r = .returned (.tuple #[.agg #[.bool false, .string ⟨#[]⟩, .string ⟨#[]⟩], .int .i64 40]) ∧ Below W.heap.size W w') (hU : ∀ W, Calls Try.prog 15 #[.agg #[.bool false, .string ⟨#[]⟩, .string ⟨#[]⟩]] W fun r w' => r = .returned (.tuple #[.string ⟨#[]⟩, .int .i64 2]) ∧ Below W.heap.size W w') (hD : ∀ W, Calls Try.prog 17 #[.string s] W fun r w' => r = .returned (.tuple #[.agg #[.bool false, .string ⟨#[]⟩, .string ⟨#[]⟩], .int .i64 de]) ∧ Below W.heap.size W w') (hde : (de != 0) = true) (hL : ∀ W, Calls Try.prog 6 #[] W fun r w' => r = .returned (.bool true) ∧ Below W.heap.size W w') :
    Calls Try.prog 5 #[.agg #[.bool xn, .string xS, .string xT], .string s, .int .i64 nz] w fun r w' => r = .returned (.bool true) ∧ Below w.heap.size w w' := by
  have hq : decide ((2000 : Int) < (s.size : Int)) = false := decide_eq_false (by omega)
  have hb := Below.refl w.heap.size w
  go_enter Try.func5, Try.ntmps5
  have X := Blk.put w #[.bool xn, .string xS, .string xT] 25
  replace hb := hb.alloc hb.size (.cells #[.bool xn, .string xS, .string xT] 25)
  obtain ⟨xX0, xX1, xX2⟩ := X.ce3
  go_wp2_with fail
  refine (h0 _).mono ?_
  rintro r w1 ⟨rfl, hB⟩
  replace X := X.keep hB
  replace hb := hb.trans (hB.mono hb.size)
  clear hB
  clear xX0 xX1 xX2
  obtain ⟨xX0, xX1, xX2⟩ := X.ce3
  go_wp2_with fail
  refine (hM _).mono ?_
  rintro r w2 ⟨rfl, hB⟩
  replace X := X.keep hB
  replace hb := hb.trans (hB.mono hb.size)
  clear hB
  clear xX0 xX1 xX2
  obtain ⟨xX0, xX1, xX2⟩ := X.ce3
  go_wp2_with fail
  refine (hT _).mono ?_
  rintro r w3 ⟨rfl, hB⟩
  replace X := X.keep hB
  replace hb := hb.trans (hB.mono hb.size)
  clear hB
  clear xX0 xX1 xX2
  obtain ⟨xX0, xX1, xX2⟩ := X.ce3
  go_wp2_with fail
  refine (hR _).mono ?_
  rintro r w4 ⟨rfl, hB⟩
  replace X := X.keep hB
  replace hb := hb.trans (hB.mono hb.size)
  clear hB
  clear xX0 xX1 xX2
  have Y := Blk.put w4 #[.bool xn, .string xS, .string xT] 25
  replace X := X.allocd (.cells #[.bool xn, .string xS, .string xT] 25)
  replace hb := hb.alloc hb.size (.cells #[.bool xn, .string xS, .string xT] 25)
  obtain ⟨xX0, xX1, xX2⟩ := X.ce3
  obtain ⟨xY0, xY1, xY2⟩ := Y.ce3
  go_upto_region 8 with fail
  clear xX0 xX1 xX2
  clear xY0 xY1 xY2
  clear X Y
  generalize w4.alloc (.cells #[.bool xn, .string xS, .string xT] 25) = w5 at *
  go_wp2_with fail
  refine (hS _).mono ?_
  rintro r w6 ⟨rfl, hB⟩
  replace hb := hb.trans (hB.mono hb.size)
  clear hB
  have R := Blk.put w6 #[.bool false, .string ⟨#[]⟩, .string ⟨#[]⟩] 25
  replace hb := hb.alloc hb.size (.cells #[.bool false, .string ⟨#[]⟩, .string ⟨#[]⟩] 25)
  obtain ⟨xR0, xR1, xR2⟩ := R.ce3
  go_wp2_with fail
  refine (hU _).mono ?_
  rintro r w7 ⟨rfl, hB⟩
  replace R := R.keep hB
  replace hb := hb.trans (hB.mono hb.size)
  clear hB
  clear xR0 xR1 xR2
  go_wp2_with fail
  refine (hD _).mono ?_
  rintro r w8 ⟨rfl, hB⟩
  replace R := R.keep hB
  replace hb := hb.trans (hB.mono hb.size)
  clear hB
  have lR := R.lt
  have D := Blk.put w8 #[.bool false, .string ⟨#[]⟩, .string ⟨#[]⟩] 25
  replace R := R.allocd (.cells #[.bool false, .string ⟨#[]⟩, .string ⟨#[]⟩] 25)
  replace hb := hb.alloc hb.size (.cells #[.bool false, .string ⟨#[]⟩, .string ⟨#[]⟩] 25)
  have lD := D.lt
  go_upto_region 15 with fail
  generalize w8.alloc (.cells #[.bool false, .string ⟨#[]⟩, .string ⟨#[]⟩] 25) = w9 at *
  go_wp2_with fail
  go_loopg [17, 18, 19] s.size (fun g s17 s18 s19 wr => w9 = wr ∧ ∃ k : Nat, k ≤ s.size ∧ g = s.size - k ∧ s19 = .int .i64 k ∧ s17 = .bool (wh s k) ∧ s18 = .bool (pt s k))
  case atStart => exact ⟨rfl, 0, Nat.zero_le _, rfl, rfl, rfl, rfl⟩
  case round =>
    obtain ⟨rfl, k, hk, hg, rfl, rfl, rfl⟩ := hrel
    have Hg := Lib.hid hg
    clear hg
    by_cases hlt : k < s.size
    · have t1 : decide (k < s.size) = true := decide_eq_true hlt
      have HW := Lib.hid (And.intro (show wh s (k + 1) = (wh s k && !(byt s k == 46) && !(byt s k == 101)) from rfl) (show pt s (k + 1) = (pt s k || byt s k == 46) from rfl))
      have HB := Lib.hid (byt_in hlt)
      have hch : (s[k]'hlt).toNat = 46 ∨ (s[k]'hlt).toNat = 101 ∨ ((s[k]'hlt).toNat ≠ 46 ∧ (s[k]'hlt).toNat ≠ 101) := by omega
      generalize wh s k = a at *
      generalize pt s k = c at *
      rcases hch with hc | hc | ⟨hc, hc'⟩
      · have t2 : (((s[k]'hlt).toNat : Int) != 46) = false := by rw [hc]; rfl
        have t3 : (((s[k]'hlt).toNat : Int) == 46) = true := by rw [hc]; rfl
        have HE : Hid (wh s (k + 1) = false ∧ pt s (k + 1) = true) := Lib.hid (by rw [HW.out.1, HW.out.2, HB.out, hc]; simp)
        clear hc
        cases a <;> cases c
        all_goals
          go_wp2_with fail
          go_roundg (s.size - (k + 1))
          case measure => have := Hg.out; omega
          case rel => exact ⟨rfl, k + 1, by omega, rfl, by go_num, by rw [HE.out.1], by rw [HE.out.2]⟩
      · have t2 : (((s[k]'hlt).toNat : Int) != 46) = true := by rw [hc]; rfl
        have t3 : (((s[k]'hlt).toNat : Int) == 46) = false := by rw [hc]; rfl
        have t4 : (((s[k]'hlt).toNat : Int) != 101) = false := by rw [hc]; rfl
        have HE : Hid (wh s (k + 1) = false ∧ pt s (k + 1) = c) := Lib.hid (by rw [HW.out.1, HW.out.2, HB.out, hc]; simp)
        clear hc
        cases a <;> cases c
        all_goals
          go_wp2_with fail
          go_roundg (s.size - (k + 1))
          case measure => have := Hg.out; omega
          case rel => exact ⟨rfl, k + 1, by omega, rfl, by go_num, by rw [HE.out.1], by rw [HE.out.2]⟩
      · have t2 : (((s[k]'hlt).toNat : Int) != 46) = true := bne_iff_ne.2 (by omega)
        have t3 : (((s[k]'hlt).toNat : Int) == 46) = false := beq_eq_false_iff_ne.2 (by omega)
        have t4 : (((s[k]'hlt).toNat : Int) != 101) = true := bne_iff_ne.2 (by omega)
        have HE : Hid (wh s (k + 1) = a ∧ pt s (k + 1) = c) := Lib.hid (by rw [HW.out.1, HW.out.2, HB.out, beq_eq_false_iff_ne.2 hc, beq_eq_false_iff_ne.2 hc']; simp)
        clear hc hc'
        cases a <;> cases c
        all_goals
          go_wp2_with fail
          go_roundg (s.size - (k + 1))
          case measure => have := Hg.out; omega
          case rel => exact ⟨rfl, k + 1, by omega, rfl, by go_num, by rw [HE.out.1], by rw [HE.out.2]⟩
    · obtain rfl : k = s.size := by omega
      have t1 : decide (s.size < s.size) = false := decide_eq_false (by omega)
      go_wp2_with fail
      refine (hL _).mono ?_
      rintro r w10 ⟨rfl, hB⟩
      replace hb := hb.trans (hB.mono hb.size)
      clear hB R D
      go_wp2_with fail
      go_ret
      exact ⟨rfl, hb⟩

set_option maxRecDepth 1000000 in
set_option maxHeartbeats 16000000 in
theorem back_101 (xn : Bool) (xS xT s : ByteArray) (nz : Int) (tx : ByteArray) (yn : Bool) (yS yT : ByteArray) (f : Nat) (w : World) (hs : s.size ≤ 2000) (h0 : ∀ W, Calls Try.prog 13 #[.agg #[.bool xn, .string xS, .string xT]] W fun r w' => r = .returned (.bool true) ∧ Below W.heap.size W w') (hM : ∀ W, Calls Try.prog 14 #[.agg #[.bool xn, .string xS, .string xT]] W fun r w' => r = .returned (.bool true) ∧ Below W.heap.size W w') (hT : ∀ W, Calls Try.prog 15 #[.agg #[.bool xn, .string xS, .string xT]] W fun r w' => r = .returned (.tuple #[.string tx, .int .i64 0]) ∧ Below W.heap.size W w') (hR : ∀ W, Calls Try.prog 16 #[.string tx] W fun r w' => r = .returned (.tuple #[.agg #[.bool xn, .string xS, .string xT], .int .i64 0]) ∧ Below W.heap.size W w') (hS : ∀ W, Calls Try.prog 16 #[.string s] W fun r w' => r = .returned (.tuple #[.agg #[.bool false, .string ⟨#[]⟩, .string ⟨#[]⟩], .int .i64 40]) ∧ Below W.heap.size W w') (hU : ∀ W, Calls Try.prog 15 #[.agg #[.bool false, .string ⟨#[]⟩, .string ⟨#[]⟩]] W fun r w' => r = .returned (.tuple #[.string ⟨#[]⟩, .int .i64 2]) ∧ Below W.heap.size W w') (hD : ∀ W, Calls Try.prog 17 #[.string s] W fun r w' => r = .returned (.tuple #[.agg #[.bool yn, .string yS, .string yT], .int .i64 0]) ∧ Below W.heap.size W w') (hN : ∀ W, Calls Try.prog 18 #[.string s] W fun r w' => r = .returned (.tuple #[.float .f64 f, .int .i64 0]) ∧ Below W.heap.size W w') (hK : ∀ W, Calls Try.prog 19 #[.float .f64 f, .float .f64 f] W fun r w' => r = .returned (.bool true) ∧ Below W.heap.size W w') (at0 : Nat) (hat1 : at0 ≤ s.size) (hat2 : Hid (∀ i, i < at0 → byt s i ≠ 101)) (hat3 : at0 = s.size ∨ byt s at0 = 101) (base : List UInt8) (hbase : Hid (base = s.data.toList.take at0 ++ (if pt s s.size then [] else [46, 48]))) (_hblen : base.length ≤ 2002) (hF : Hid (∀ (Z : ByteArray) (n : Nat), n < 50 → Z.data.toList = base ++ List.replicate n 48 → ∃ e : Int, ∀ W, (Calls Try.prog 17 #[.string (Z ++ s.extract at0 s.size)] W fun r w' => r = .returned (.tuple #[.agg #[.bool yn, .string yS, .string yT], .int .i64 0]) ∧ Below W.heap.size W w') ∧ (Calls Try.prog 18 #[.string (Z ++ s.extract at0 s.size)] W fun r w' => r = .returned (.tuple #[.float .f64 f, .int .i64 e]) ∧ Below W.heap.size W w'))) (hC : wh s s.size = false ∨ s.toList = [45, 48]) (hL : ∀ W, Calls Try.prog 6 #[] W fun r w' => r = .returned (.bool true) ∧ Below W.heap.size W w') :
    Calls Try.prog 5 #[.agg #[.bool xn, .string xS, .string xT], .string s, .int .i64 nz] w fun r w' => r = .returned (.bool true) ∧ Below w.heap.size w w' := by
  have hq : decide ((2000 : Int) < (s.size : Int)) = false := decide_eq_false (by omega)
  have hb := Below.refl w.heap.size w
  go_enter Try.func5, Try.ntmps5
  have X := Blk.put w #[.bool xn, .string xS, .string xT] 25
  replace hb := hb.alloc hb.size (.cells #[.bool xn, .string xS, .string xT] 25)
  obtain ⟨xX0, xX1, xX2⟩ := X.ce3
  go_wp2_with fail
  refine (h0 _).mono ?_
  rintro r w1 ⟨rfl, hB⟩
  replace X := X.keep hB
  replace hb := hb.trans (hB.mono hb.size)
  clear hB
  clear xX0 xX1 xX2
  obtain ⟨xX0, xX1, xX2⟩ := X.ce3
  go_wp2_with fail
  refine (hM _).mono ?_
  rintro r w2 ⟨rfl, hB⟩
  replace X := X.keep hB
  replace hb := hb.trans (hB.mono hb.size)
  clear hB
  clear xX0 xX1 xX2
  obtain ⟨xX0, xX1, xX2⟩ := X.ce3
  go_wp2_with fail
  refine (hT _).mono ?_
  rintro r w3 ⟨rfl, hB⟩
  replace X := X.keep hB
  replace hb := hb.trans (hB.mono hb.size)
  clear hB
  clear xX0 xX1 xX2
  obtain ⟨xX0, xX1, xX2⟩ := X.ce3
  go_wp2_with fail
  refine (hR _).mono ?_
  rintro r w4 ⟨rfl, hB⟩
  replace X := X.keep hB
  replace hb := hb.trans (hB.mono hb.size)
  clear hB
  clear xX0 xX1 xX2
  have Y := Blk.put w4 #[.bool xn, .string xS, .string xT] 25
  replace X := X.allocd (.cells #[.bool xn, .string xS, .string xT] 25)
  replace hb := hb.alloc hb.size (.cells #[.bool xn, .string xS, .string xT] 25)
  obtain ⟨xX0, xX1, xX2⟩ := X.ce3
  obtain ⟨xY0, xY1, xY2⟩ := Y.ce3
  go_upto_region 8 with fail
  clear xX0 xX1 xX2
  clear xY0 xY1 xY2
  clear X Y
  generalize w4.alloc (.cells #[.bool xn, .string xS, .string xT] 25) = w5 at *
  go_wp2_with fail
  refine (hS _).mono ?_
  rintro r w6 ⟨rfl, hB⟩
  replace hb := hb.trans (hB.mono hb.size)
  clear hB
  have R := Blk.put w6 #[.bool false, .string ⟨#[]⟩, .string ⟨#[]⟩] 25
  replace hb := hb.alloc hb.size (.cells #[.bool false, .string ⟨#[]⟩, .string ⟨#[]⟩] 25)
  obtain ⟨xR0, xR1, xR2⟩ := R.ce3
  go_wp2_with fail
  refine (hU _).mono ?_
  rintro r w7 ⟨rfl, hB⟩
  replace R := R.keep hB
  replace hb := hb.trans (hB.mono hb.size)
  clear hB
  clear xR0 xR1 xR2
  go_wp2_with fail
  refine (hD _).mono ?_
  rintro r w8 ⟨rfl, hB⟩
  replace R := R.keep hB
  replace hb := hb.trans (hB.mono hb.size)
  clear hB
  have lR := R.lt
  have D := Blk.put w8 #[.bool yn, .string yS, .string yT] 25
  replace R := R.allocd (.cells #[.bool yn, .string yS, .string yT] 25)
  replace hb := hb.alloc hb.size (.cells #[.bool yn, .string yS, .string yT] 25)
  have lD := D.lt
  go_upto_region 15 with fail
  generalize w8.alloc (.cells #[.bool yn, .string yS, .string yT] 25) = w9 at *
  go_wp2_with fail
  go_loopg [17, 18, 19] s.size (fun g s17 s18 s19 wr => w9 = wr ∧ ∃ k : Nat, k ≤ s.size ∧ g = s.size - k ∧ s19 = .int .i64 k ∧ s17 = .bool (wh s k) ∧ s18 = .bool (pt s k))
  case atStart => exact ⟨rfl, 0, Nat.zero_le _, rfl, rfl, rfl, rfl⟩
  case round =>
    obtain ⟨rfl, k, hk, hg, rfl, rfl, rfl⟩ := hrel
    have Hg := Lib.hid hg
    clear hg
    by_cases hlt : k < s.size
    · have t1 : decide (k < s.size) = true := decide_eq_true hlt
      have HW := Lib.hid (And.intro (show wh s (k + 1) = (wh s k && !(byt s k == 46) && !(byt s k == 101)) from rfl) (show pt s (k + 1) = (pt s k || byt s k == 46) from rfl))
      have HB := Lib.hid (byt_in hlt)
      have hch : (s[k]'hlt).toNat = 46 ∨ (s[k]'hlt).toNat = 101 ∨ ((s[k]'hlt).toNat ≠ 46 ∧ (s[k]'hlt).toNat ≠ 101) := by omega
      generalize wh s k = a at *
      generalize pt s k = c at *
      rcases hch with hc | hc | ⟨hc, hc'⟩
      · have t2 : (((s[k]'hlt).toNat : Int) != 46) = false := by rw [hc]; rfl
        have t3 : (((s[k]'hlt).toNat : Int) == 46) = true := by rw [hc]; rfl
        have HE : Hid (wh s (k + 1) = false ∧ pt s (k + 1) = true) := Lib.hid (by rw [HW.out.1, HW.out.2, HB.out, hc]; simp)
        clear hc
        cases a <;> cases c
        all_goals
          go_wp2_with fail
          go_roundg (s.size - (k + 1))
          case measure => have := Hg.out; omega
          case rel => exact ⟨rfl, k + 1, by omega, rfl, by go_num, by rw [HE.out.1], by rw [HE.out.2]⟩
      · have t2 : (((s[k]'hlt).toNat : Int) != 46) = true := by rw [hc]; rfl
        have t3 : (((s[k]'hlt).toNat : Int) == 46) = false := by rw [hc]; rfl
        have t4 : (((s[k]'hlt).toNat : Int) != 101) = false := by rw [hc]; rfl
        have HE : Hid (wh s (k + 1) = false ∧ pt s (k + 1) = c) := Lib.hid (by rw [HW.out.1, HW.out.2, HB.out, hc]; simp)
        clear hc
        cases a <;> cases c
        all_goals
          go_wp2_with fail
          go_roundg (s.size - (k + 1))
          case measure => have := Hg.out; omega
          case rel => exact ⟨rfl, k + 1, by omega, rfl, by go_num, by rw [HE.out.1], by rw [HE.out.2]⟩
      · have t2 : (((s[k]'hlt).toNat : Int) != 46) = true := bne_iff_ne.2 (by omega)
        have t3 : (((s[k]'hlt).toNat : Int) == 46) = false := beq_eq_false_iff_ne.2 (by omega)
        have t4 : (((s[k]'hlt).toNat : Int) != 101) = true := bne_iff_ne.2 (by omega)
        have HE : Hid (wh s (k + 1) = a ∧ pt s (k + 1) = c) := Lib.hid (by rw [HW.out.1, HW.out.2, HB.out, beq_eq_false_iff_ne.2 hc, beq_eq_false_iff_ne.2 hc']; simp)
        clear hc hc'
        cases a <;> cases c
        all_goals
          go_wp2_with fail
          go_roundg (s.size - (k + 1))
          case measure => have := Hg.out; omega
          case rel => exact ⟨rfl, k + 1, by omega, rfl, by go_num, by rw [HE.out.1], by rw [HE.out.2]⟩
    · obtain rfl : k = s.size := by omega
      have t1 : decide (s.size < s.size) = false := decide_eq_false (by omega)
      obtain ⟨xR0, xR1, xR2⟩ := R.ce3
      obtain ⟨xD0, xD1, xD2⟩ := D.ce3
      cases hwh : wh s s.size
      · clear hC
        clear xR0 xR1 xR2 xD0 xD1 xD2 R
        go_wp2_with fail
        go_loopg [20] at0 (fun g s20 wr => w9 = wr ∧ ∃ k : Nat, k ≤ at0 ∧ g = at0 - k ∧ s20 = .int .i64 k)
        case atStart => exact ⟨rfl, 0, Nat.zero_le _, rfl, rfl⟩
        case round =>
          obtain ⟨rfl, k, hk, hg, rfl⟩ := hrel
          have Hg := Lib.hid hg
          clear hg
          by_cases hlt : k < at0
          · have hl : k < s.size := by omega
            have hne := hat2.out k hlt
            rw [byt_in hl] at hne
            have t1 : decide (k < s.size) = true := decide_eq_true hl
            have t2 : (((s[k]'hl).toNat : Int) != 101) = true := bne_iff_ne.2 (by omega)
            clear hne
            go_wp2_with fail
            go_roundg (at0 - (k + 1))
            case measure => have := Hg.out; omega
            case rel => exact ⟨rfl, k + 1, by omega, rfl, by go_num⟩
          · obtain rfl : k = at0 := by omega
            clear Hg
            have hend : decide (k < s.size) = false ∨ ∃ hl : k < s.size, decide (k < s.size) = true ∧ (((s[k]'hl).toNat : Int) != 101) = false := by
              rcases Nat.lt_or_ge k s.size with hl | hl
              · right
                rcases hat3 with h | h
                · omega
                · rw [byt_in hl] at h
                  exact ⟨hl, decide_eq_true hl, by rw [h]; rfl⟩
              · left; exact decide_eq_false (by omega)
            clear hat3 hat2
            obtain ⟨K, hK⟩ : ∃ K, K = Int.tmod nz 50 := ⟨_, rfl⟩
            have hK1 : -50 < K := by rw [hK]; exact (tmod50 nz).1
            have hK2 : K < 50 := by rw [hK]; exact (tmod50 nz).2
            have hKm := hK.symm
            clear hK
            obtain ⟨E, hE⟩ : ∃ E, s.extract 0 k = E := ⟨_, rfl⟩
            have hEz : E.size ≤ 2000 := by rw [← hE]; exact ext_size hs
            have hEl : E.data.toList = s.data.toList.take k := by rw [← hE]; simp
            obtain ⟨V, hV⟩ : ∃ V, s.extract k s.size = V := ⟨_, rfl⟩
            have hVz : V.size ≤ 2000 := by rw [← hV]; exact ext_size hs
            have hF9 := hF.out
            rw [hV] at hF9
            have HF := Lib.hid hF9
            have HB := Lib.hid (show base = E.data.toList ++ (if pt s s.size then [] else [46, 48]) from by rw [hEl]; exact hbase.out)
            clear hF9 hF hbase hEl
            rcases hend with t2 | ⟨hl, t2, t3⟩
            all_goals
              cases hp : pt s s.size
              all_goals
                go_wp2_with fail
                go_loopg [21, 22] K.toNat (fun g s21 s22 wr => w9 = wr ∧ ∃ (i : Nat) (Z : ByteArray), i ≤ K.toNat ∧ g = K.toNat - i ∧ s22 = .int .i64 i ∧ s21 = .string Z ∧ Z.data.toList = base ++ List.replicate i 48 ∧ Z.size ≤ 2002 + i)
                case atStart =>
                  have hb2 := HB.out
                  rw [hp] at hb2
                  first
                    | exact ⟨rfl, 0, E, Nat.zero_le _, rfl, rfl, rfl, by rw [hb2]; simp, by omega⟩
                    | exact ⟨rfl, 0, E ++ ⟨#[46, 48]⟩, Nat.zero_le _, rfl, rfl, rfl, by rw [hb2, app_data]; simp, by rw [ByteArray.size_append]; show E.size + 2 ≤ _; omega⟩
                case round =>
                  obtain ⟨rfl, i, Z, hi, hg, rfl, rfl, hZ, hZs⟩ := hrel
                  have HZ := Lib.hid (And.intro hZ hg)
                  clear hZ hg
                  by_cases hlt : i < K.toNat
                  · have t5 : decide ((i : Int) < K) = true := decide_eq_true (by omega)
                    go_wp2_with fail
                    go_roundg (K.toNat - (i + 1))
                    case measure => have := HZ.out.2; omega
                    case rel => exact ⟨rfl, i + 1, Z ++ ⟨#[48]⟩, by omega, rfl, by go_num, rfl, by rw [app_data, HZ.out.1, List.replicate_succ', List.append_assoc], by rw [ByteArray.size_append]; show Z.size + 1 ≤ _; omega⟩
                  · have t5 : decide ((i : Int) < K) = false := decide_eq_false (by omega)
                    obtain ⟨ne, hne⟩ := HF.out Z i (by omega) HZ.out.1
                    have hF1 := fun W => (hne W).1
                    have hF2 := fun W => (hne W).2
                    clear hne HZ
                    go_wp2_with fail
                    refine (hF1 _).mono ?_
                    rintro r w10 ⟨rfl, hB⟩
                    replace D := D.keep hB
                    replace hb := hb.trans (hB.mono hb.size)
                    clear hB
                    have lD2 := D.lt
                    have Q := Blk.put w10 #[.bool yn, .string yS, .string yT] 25
                    replace D := D.allocd (.cells #[.bool yn, .string yS, .string yT] 25)
                    replace hb := hb.alloc hb.size (.cells #[.bool yn, .string yS, .string yT] 25)
                    go_wp2_with fail
                    refine (hN _).mono ?_
                    rintro r w11 ⟨rfl, hB⟩
                    replace D := D.keep hB
                    replace Q := Q.keep hB
                    replace hb := hb.trans (hB.mono hb.size)
                    clear hB
                    go_wp2_with fail
                    refine (hF2 _).mono ?_
                    rintro r w12 ⟨rfl, hB⟩
                    replace D := D.keep hB
                    replace Q := Q.keep hB
                    replace hb := hb.trans (hB.mono hb.size)
                    clear hB
                    obtain ⟨xD0, xD1, xD2⟩ := D.ce3
                    obtain ⟨xQ0, xQ1, xQ2⟩ := Q.ce3
                    go_wp2_with fail
                    refine (hK _).mono ?_
                    rintro r w13 ⟨rfl, hB⟩
                    replace hb := hb.trans (hB.mono hb.size)
                    clear hB xD0 xD1 xD2 xQ0 xQ1 xQ2 D Q
                    go_wp2_with fail
                    refine (hL _).mono ?_
                    rintro r w14 ⟨rfl, hB⟩
                    replace hb := hb.trans (hB.mono hb.size)
                    clear hB
                    go_wp2_with fail
                    go_ret
                    exact ⟨rfl, hb⟩
      · by_cases hm : s.toList = [45, 48]
        · have hm2 : (s.toList == [45, 48]) = true := beq_iff_eq.2 hm
          clear hC hm
          clear xR0 xR1 xR2 xD0 xD1 xD2 R
          go_wp2_with fail
          go_loopg [20] at0 (fun g s20 wr => w9 = wr ∧ ∃ k : Nat, k ≤ at0 ∧ g = at0 - k ∧ s20 = .int .i64 k)
          case atStart => exact ⟨rfl, 0, Nat.zero_le _, rfl, rfl⟩
          case round =>
            obtain ⟨rfl, k, hk, hg, rfl⟩ := hrel
            have Hg := Lib.hid hg
            clear hg
            by_cases hlt : k < at0
            · have hl : k < s.size := by omega
              have hne := hat2.out k hlt
              rw [byt_in hl] at hne
              have t1 : decide (k < s.size) = true := decide_eq_true hl
              have t2 : (((s[k]'hl).toNat : Int) != 101) = true := bne_iff_ne.2 (by omega)
              clear hne
              go_wp2_with fail
              go_roundg (at0 - (k + 1))
              case measure => have := Hg.out; omega
              case rel => exact ⟨rfl, k + 1, by omega, rfl, by go_num⟩
            · obtain rfl : k = at0 := by omega
              clear Hg
              have hend : decide (k < s.size) = false ∨ ∃ hl : k < s.size, decide (k < s.size) = true ∧ (((s[k]'hl).toNat : Int) != 101) = false := by
                rcases Nat.lt_or_ge k s.size with hl | hl
                · right
                  rcases hat3 with h | h
                  · omega
                  · rw [byt_in hl] at h
                    exact ⟨hl, decide_eq_true hl, by rw [h]; rfl⟩
                · left; exact decide_eq_false (by omega)
              clear hat3 hat2
              obtain ⟨K, hK⟩ : ∃ K, K = Int.tmod nz 50 := ⟨_, rfl⟩
              have hK1 : -50 < K := by rw [hK]; exact (tmod50 nz).1
              have hK2 : K < 50 := by rw [hK]; exact (tmod50 nz).2
              have hKm := hK.symm
              clear hK
              obtain ⟨E, hE⟩ : ∃ E, s.extract 0 k = E := ⟨_, rfl⟩
              have hEz : E.size ≤ 2000 := by rw [← hE]; exact ext_size hs
              have hEl : E.data.toList = s.data.toList.take k := by rw [← hE]; simp
              obtain ⟨V, hV⟩ : ∃ V, s.extract k s.size = V := ⟨_, rfl⟩
              have hVz : V.size ≤ 2000 := by rw [← hV]; exact ext_size hs
              have hF9 := hF.out
              rw [hV] at hF9
              have HF := Lib.hid hF9
              have HB := Lib.hid (show base = E.data.toList ++ (if pt s s.size then [] else [46, 48]) from by rw [hEl]; exact hbase.out)
              clear hF9 hF hbase hEl
              rcases hend with t2 | ⟨hl, t2, t3⟩
              all_goals
                cases hp : pt s s.size
                all_goals
                  go_wp2_with fail
                  go_loopg [21, 22] K.toNat (fun g s21 s22 wr => w9 = wr ∧ ∃ (i : Nat) (Z : ByteArray), i ≤ K.toNat ∧ g = K.toNat - i ∧ s22 = .int .i64 i ∧ s21 = .string Z ∧ Z.data.toList = base ++ List.replicate i 48 ∧ Z.size ≤ 2002 + i)
                  case atStart =>
                    have hb2 := HB.out
                    rw [hp] at hb2
                    first
                      | exact ⟨rfl, 0, E, Nat.zero_le _, rfl, rfl, rfl, by rw [hb2]; simp, by omega⟩
                      | exact ⟨rfl, 0, E ++ ⟨#[46, 48]⟩, Nat.zero_le _, rfl, rfl, rfl, by rw [hb2, app_data]; simp, by rw [ByteArray.size_append]; show E.size + 2 ≤ _; omega⟩
                  case round =>
                    obtain ⟨rfl, i, Z, hi, hg, rfl, rfl, hZ, hZs⟩ := hrel
                    have HZ := Lib.hid (And.intro hZ hg)
                    clear hZ hg
                    by_cases hlt : i < K.toNat
                    · have t5 : decide ((i : Int) < K) = true := decide_eq_true (by omega)
                      go_wp2_with fail
                      go_roundg (K.toNat - (i + 1))
                      case measure => have := HZ.out.2; omega
                      case rel => exact ⟨rfl, i + 1, Z ++ ⟨#[48]⟩, by omega, rfl, by go_num, rfl, by rw [app_data, HZ.out.1, List.replicate_succ', List.append_assoc], by rw [ByteArray.size_append]; show Z.size + 1 ≤ _; omega⟩
                    · have t5 : decide ((i : Int) < K) = false := decide_eq_false (by omega)
                      obtain ⟨ne, hne⟩ := HF.out Z i (by omega) HZ.out.1
                      have hF1 := fun W => (hne W).1
                      have hF2 := fun W => (hne W).2
                      clear hne HZ
                      go_wp2_with fail
                      refine (hF1 _).mono ?_
                      rintro r w10 ⟨rfl, hB⟩
                      replace D := D.keep hB
                      replace hb := hb.trans (hB.mono hb.size)
                      clear hB
                      have lD2 := D.lt
                      have Q := Blk.put w10 #[.bool yn, .string yS, .string yT] 25
                      replace D := D.allocd (.cells #[.bool yn, .string yS, .string yT] 25)
                      replace hb := hb.alloc hb.size (.cells #[.bool yn, .string yS, .string yT] 25)
                      go_wp2_with fail
                      refine (hN _).mono ?_
                      rintro r w11 ⟨rfl, hB⟩
                      replace D := D.keep hB
                      replace Q := Q.keep hB
                      replace hb := hb.trans (hB.mono hb.size)
                      clear hB
                      go_wp2_with fail
                      refine (hF2 _).mono ?_
                      rintro r w12 ⟨rfl, hB⟩
                      replace D := D.keep hB
                      replace Q := Q.keep hB
                      replace hb := hb.trans (hB.mono hb.size)
                      clear hB
                      obtain ⟨xD0, xD1, xD2⟩ := D.ce3
                      obtain ⟨xQ0, xQ1, xQ2⟩ := Q.ce3
                      go_wp2_with fail
                      refine (hK _).mono ?_
                      rintro r w13 ⟨rfl, hB⟩
                      replace hb := hb.trans (hB.mono hb.size)
                      clear hB xD0 xD1 xD2 xQ0 xQ1 xQ2 D Q
                      go_wp2_with fail
                      refine (hL _).mono ?_
                      rintro r w14 ⟨rfl, hB⟩
                      replace hb := hb.trans (hB.mono hb.size)
                      clear hB
                      go_wp2_with fail
                      go_ret
                      exact ⟨rfl, hb⟩
        · rcases hC with h | h
          · rw [h] at hwh; exact Bool.noConfusion hwh
          · exact absurd h hm

end Go.Proofs.Ytfbggddmmkmadaa
