/- filigreelaw04.RatioField. -/
import Derived.Test.YtfbggddmmkmadaaJY
namespace Go.Proofs.Ytfbggddmmkmadaa
open Go Go.RowKit Go.PlainAid Fil

set_option maxRecDepth 1000000 in
set_option maxHeartbeats 16000000 in
theorem field_1 (xn : Bool) (xS xT : ByteArray) (yn : Bool) (yS yT : ByteArray) (zn : Bool) (zS zT : ByteArray) (pn : Bool) (pS pT : ByteArray) (qn : Bool) (qS qT : ByteArray) (rn : Bool) (rS rT : ByteArray) (sn : Bool) (sS sT : ByteArray) (tn : Bool) (tS tT : ByteArray) (un : Bool) (uS uT : ByteArray) (vn : Bool) (vS vT : ByteArray) (mn : Bool) (mS mT : ByteArray) (cc : Int) (w : World) (h0 : ∀ W, Calls Try.prog 7 #[.agg #[.bool xn, .string xS, .string xT], .agg #[.bool yn, .string yS, .string yT], .agg #[.bool zn, .string zS, .string zT]] W fun r w' => r = .returned (.bool true) ∧ Below W.heap.size W w') (h1 : ∀ W, Calls Try.prog 8 #[.agg #[.bool xn, .string xS, .string xT], .agg #[.bool yn, .string yS, .string yT]] W fun r w' => r = .returned (.tuple #[.agg #[.bool pn, .string pS, .string pT], .int .i64 0]) ∧ Below W.heap.size W w') (h2 : ∀ W, Calls Try.prog 8 #[.agg #[.bool yn, .string yS, .string yT], .agg #[.bool xn, .string xS, .string xT]] W fun r w' => r = .returned (.tuple #[.agg #[.bool pn, .string pS, .string pT], .int .i64 0]) ∧ Below W.heap.size W w') (h3 : ∀ W, Calls Try.prog 8 #[.agg #[.bool yn, .string yS, .string yT], .agg #[.bool zn, .string zS, .string zT]] W fun r w' => r = .returned (.tuple #[.agg #[.bool qn, .string qS, .string qT], .int .i64 0]) ∧ Below W.heap.size W w') (h4 : ∀ W, Calls Try.prog 8 #[.agg #[.bool pn, .string pS, .string pT], .agg #[.bool zn, .string zS, .string zT]] W fun r w' => r = .returned (.tuple #[.agg #[.bool rn, .string rS, .string rT], .int .i64 0]) ∧ Below W.heap.size W w') (h5 : ∀ W, Calls Try.prog 8 #[.agg #[.bool xn, .string xS, .string xT], .agg #[.bool qn, .string qS, .string qT]] W fun r w' => r = .returned (.tuple #[.agg #[.bool rn, .string rS, .string rT], .int .i64 0]) ∧ Below W.heap.size W w') (h6 : ∀ W, Calls Try.prog 9 #[.agg #[.bool xn, .string xS, .string xT], .agg #[.bool yn, .string yS, .string yT]] W fun r w' => r = .returned (.tuple #[.agg #[.bool sn, .string sS, .string sT], .int .i64 0]) ∧ Below W.heap.size W w') (h7 : ∀ W, Calls Try.prog 9 #[.agg #[.bool xn, .string xS, .string xT], .agg #[.bool zn, .string zS, .string zT]] W fun r w' => r = .returned (.tuple #[.agg #[.bool tn, .string tS, .string tT], .int .i64 0]) ∧ Below W.heap.size W w') (h8 : ∀ W, Calls Try.prog 9 #[.agg #[.bool sn, .string sS, .string sT], .agg #[.bool zn, .string zS, .string zT]] W fun r w' => r = .returned (.tuple #[.agg #[.bool un, .string uS, .string uT], .int .i64 0]) ∧ Below W.heap.size W w') (h9 : ∀ W, Calls Try.prog 9 #[.agg #[.bool tn, .string tS, .string tT], .agg #[.bool yn, .string yS, .string yT]] W fun r w' => r = .returned (.tuple #[.agg #[.bool un, .string uS, .string uT], .int .i64 0]) ∧ Below W.heap.size W w') (h10 : ∀ W, Calls Try.prog 8 #[.agg #[.bool sn, .string sS, .string sT], .agg #[.bool tn, .string tS, .string tT]] W fun r w' => r = .returned (.tuple #[.agg #[.bool vn, .string vS, .string vT], .int .i64 0]) ∧ Below W.heap.size W w') (h11 : ∀ W, Calls Try.prog 9 #[.agg #[.bool xn, .string xS, .string xT], .agg #[.bool qn, .string qS, .string qT]] W fun r w' => r = .returned (.tuple #[.agg #[.bool vn, .string vS, .string vT], .int .i64 0]) ∧ Below W.heap.size W w') (h12 : ∀ W, Calls Try.prog 10 #[.agg #[.bool pn, .string pS, .string pT], .agg #[.bool yn, .string yS, .string yT]] W fun r w' => r = .returned (.tuple #[.agg #[.bool xn, .string xS, .string xT], .int .i64 0]) ∧ Below W.heap.size W w') (h13 : ∀ W, Calls Try.prog 11 #[.agg #[.bool sn, .string sS, .string sT], .agg #[.bool yn, .string yS, .string yT]] W fun r w' => r = .returned (.tuple #[.agg #[.bool xn, .string xS, .string xT], .int .i64 0]) ∧ Below W.heap.size W w') (h14 : ∀ W, Calls Try.prog 10 #[.agg #[.bool xn, .string xS, .string xT], .agg #[.bool yn, .string yS, .string yT]] W fun r w' => r = .returned (.tuple #[.agg #[.bool mn, .string mS, .string mT], .int .i64 0]) ∧ Below W.heap.size W w') (h15 : ∀ W, Calls Try.prog 12 #[.agg #[.bool xn, .string xS, .string xT], .agg #[.bool yn, .string yS, .string yT]] W fun r w' => r = .returned (.tuple #[.int .i64 cc, .int .i64 0]) ∧ Below W.heap.size W w') (h16 : ∀ W, Calls Try.prog 6 #[] W fun r w' => r = .returned (.bool true) ∧ Below W.heap.size W w') (hy : yS.toList.isEmpty = false) (_hy2 : ¬ yS.toList = []) (HC : Hid (cc = -1 ∧ mn = true ∧ mS.toList.isEmpty = false ∨ cc = 0 ∧ mn = false ∧ mS.toList = [] ∨ cc = 1 ∧ mn = false ∧ mS.toList.isEmpty = false)) :
    Calls Try.prog 4 #[.agg #[.bool xn, .string xS, .string xT], .agg #[.bool yn, .string yS, .string yT], .agg #[.bool zn, .string zS, .string zT]] w fun r w' => r = .returned (.bool true) ∧ Below w.heap.size w w' := by
  go_enter Try.func4, Try.ntmps4
  have B0 := Below.refl w.heap.size w
  have F3 := Blk.put (w) #[.bool xn, .string xS, .string xT] 25
  replace B0 := B0.alloc B0.size (.cells #[.bool xn, .string xS, .string xT] 25)
  replace F3 := F3.allocd (.cells #[.bool yn, .string yS, .string yT] 25)
  have F4 := Blk.put ((w).alloc (.cells #[.bool xn, .string xS, .string xT] 25)) #[.bool yn, .string yS, .string yT] 25
  rw [show ((w).alloc (.cells #[.bool xn, .string xS, .string xT] 25)).heap.size = w.heap.size + 1 by simp] at F4
  replace B0 := B0.alloc B0.size (.cells #[.bool yn, .string yS, .string yT] 25)
  replace F3 := F3.allocd (.cells #[.bool zn, .string zS, .string zT] 25)
  replace F4 := F4.allocd (.cells #[.bool zn, .string zS, .string zT] 25)
  have F5 := Blk.put (((w).alloc (.cells #[.bool xn, .string xS, .string xT] 25)).alloc (.cells #[.bool yn, .string yS, .string yT] 25)) #[.bool zn, .string zS, .string zT] 25
  rw [show (((w).alloc (.cells #[.bool xn, .string xS, .string xT] 25)).alloc (.cells #[.bool yn, .string yS, .string yT] 25)).heap.size = w.heap.size + 1 + 1 by simp] at F5
  replace B0 := B0.alloc B0.size (.cells #[.bool zn, .string zS, .string zT] 25)
  obtain ⟨xF30_0, xF30_1, xF30_2⟩ := F3.ce3
  obtain ⟨xF40_0, xF40_1, xF40_2⟩ := F4.ce3
  obtain ⟨xF50_0, xF50_1, xF50_2⟩ := F5.ce3
  go_wp2_with fail
  (with_reducible refine (h0 _).mono ?_)
  rintro r w1 ⟨rfl, hb1⟩
  clear xF30_0 xF30_1 xF30_2 xF40_0 xF40_1 xF40_2 xF50_0 xF50_1 xF50_2
  replace F3 := F3.keep hb1
  replace F4 := F4.keep hb1
  replace F5 := F5.keep hb1
  replace B0 := B0.trans (hb1.mono B0.size)
  clear hb1
  obtain ⟨xF31_0, xF31_1, xF31_2⟩ := F3.ce3
  obtain ⟨xF41_0, xF41_1, xF41_2⟩ := F4.ce3
  go_wp2_with fail
  (with_reducible refine (h1 _).mono ?_)
  rintro r w2 ⟨rfl, hb2⟩
  clear xF31_0 xF31_1 xF31_2 xF41_0 xF41_1 xF41_2
  replace F3 := F3.keep hb2
  replace F4 := F4.keep hb2
  replace F5 := F5.keep hb2
  replace B0 := B0.trans (hb2.mono B0.size)
  clear hb2
  replace F3 := F3.allocd (.cells #[.bool pn, .string pS, .string pT] 25)
  replace F4 := F4.allocd (.cells #[.bool pn, .string pS, .string pT] 25)
  replace F5 := F5.allocd (.cells #[.bool pn, .string pS, .string pT] 25)
  have F7 := Blk.put (w2) #[.bool pn, .string pS, .string pT] 25
  replace B0 := B0.alloc B0.size (.cells #[.bool pn, .string pS, .string pT] 25)
  obtain ⟨xF42_0, xF42_1, xF42_2⟩ := F4.ce3
  obtain ⟨xF32_0, xF32_1, xF32_2⟩ := F3.ce3
  go_wp2_with fail
  (with_reducible refine (h2 _).mono ?_)
  rintro r w3 ⟨rfl, hb3⟩
  clear xF42_0 xF42_1 xF42_2 xF32_0 xF32_1 xF32_2
  replace F3 := F3.keep hb3
  replace F4 := F4.keep hb3
  replace F5 := F5.keep hb3
  replace F7 := F7.keep hb3
  replace B0 := B0.trans (hb3.mono B0.size)
  clear hb3
  replace F3 := F3.allocd (.cells #[.bool pn, .string pS, .string pT] 25)
  replace F4 := F4.allocd (.cells #[.bool pn, .string pS, .string pT] 25)
  replace F5 := F5.allocd (.cells #[.bool pn, .string pS, .string pT] 25)
  replace F7 := F7.allocd (.cells #[.bool pn, .string pS, .string pT] 25)
  have F9 := Blk.put (w3) #[.bool pn, .string pS, .string pT] 25
  replace B0 := B0.alloc B0.size (.cells #[.bool pn, .string pS, .string pT] 25)
  obtain ⟨xF43_0, xF43_1, xF43_2⟩ := F4.ce3
  obtain ⟨xF53_0, xF53_1, xF53_2⟩ := F5.ce3
  go_wp2_with fail
  (with_reducible refine (h3 _).mono ?_)
  rintro r w4 ⟨rfl, hb4⟩
  clear xF43_0 xF43_1 xF43_2 xF53_0 xF53_1 xF53_2
  replace F3 := F3.keep hb4
  replace F4 := F4.keep hb4
  replace F5 := F5.keep hb4
  replace F7 := F7.keep hb4
  replace F9 := F9.keep hb4
  replace B0 := B0.trans (hb4.mono B0.size)
  clear hb4
  replace F3 := F3.allocd (.cells #[.bool qn, .string qS, .string qT] 25)
  replace F4 := F4.allocd (.cells #[.bool qn, .string qS, .string qT] 25)
  replace F5 := F5.allocd (.cells #[.bool qn, .string qS, .string qT] 25)
  replace F7 := F7.allocd (.cells #[.bool qn, .string qS, .string qT] 25)
  replace F9 := F9.allocd (.cells #[.bool qn, .string qS, .string qT] 25)
  have F11 := Blk.put (w4) #[.bool qn, .string qS, .string qT] 25
  replace B0 := B0.alloc B0.size (.cells #[.bool qn, .string qS, .string qT] 25)
  obtain ⟨xF74_0, xF74_1, xF74_2⟩ := F7.ce3
  obtain ⟨xF54_0, xF54_1, xF54_2⟩ := F5.ce3
  go_wp2_with fail
  (with_reducible refine (h4 _).mono ?_)
  rintro r w5 ⟨rfl, hb5⟩
  clear xF74_0 xF74_1 xF74_2 xF54_0 xF54_1 xF54_2
  replace F3 := F3.keep hb5
  replace F4 := F4.keep hb5
  replace F5 := F5.keep hb5
  replace F7 := F7.keep hb5
  replace F9 := F9.keep hb5
  replace F11 := F11.keep hb5
  replace B0 := B0.trans (hb5.mono B0.size)
  clear hb5
  replace F3 := F3.allocd (.cells #[.bool rn, .string rS, .string rT] 25)
  replace F4 := F4.allocd (.cells #[.bool rn, .string rS, .string rT] 25)
  replace F5 := F5.allocd (.cells #[.bool rn, .string rS, .string rT] 25)
  replace F7 := F7.allocd (.cells #[.bool rn, .string rS, .string rT] 25)
  replace F9 := F9.allocd (.cells #[.bool rn, .string rS, .string rT] 25)
  replace F11 := F11.allocd (.cells #[.bool rn, .string rS, .string rT] 25)
  have F13 := Blk.put (w5) #[.bool rn, .string rS, .string rT] 25
  replace B0 := B0.alloc B0.size (.cells #[.bool rn, .string rS, .string rT] 25)
  obtain ⟨xF35_0, xF35_1, xF35_2⟩ := F3.ce3
  obtain ⟨xF115_0, xF115_1, xF115_2⟩ := F11.ce3
  go_wp2_with fail
  (with_reducible refine (h5 _).mono ?_)
  rintro r w6 ⟨rfl, hb6⟩
  clear xF35_0 xF35_1 xF35_2 xF115_0 xF115_1 xF115_2
  replace F3 := F3.keep hb6
  replace F4 := F4.keep hb6
  replace F5 := F5.keep hb6
  replace F7 := F7.keep hb6
  replace F9 := F9.keep hb6
  replace F11 := F11.keep hb6
  replace F13 := F13.keep hb6
  replace B0 := B0.trans (hb6.mono B0.size)
  clear hb6
  replace F3 := F3.allocd (.cells #[.bool rn, .string rS, .string rT] 25)
  replace F4 := F4.allocd (.cells #[.bool rn, .string rS, .string rT] 25)
  replace F5 := F5.allocd (.cells #[.bool rn, .string rS, .string rT] 25)
  replace F7 := F7.allocd (.cells #[.bool rn, .string rS, .string rT] 25)
  replace F9 := F9.allocd (.cells #[.bool rn, .string rS, .string rT] 25)
  replace F11 := F11.allocd (.cells #[.bool rn, .string rS, .string rT] 25)
  replace F13 := F13.allocd (.cells #[.bool rn, .string rS, .string rT] 25)
  have F15 := Blk.put (w6) #[.bool rn, .string rS, .string rT] 25
  replace B0 := B0.alloc B0.size (.cells #[.bool rn, .string rS, .string rT] 25)
  obtain ⟨xF76_0, xF76_1, xF76_2⟩ := F7.ce3
  obtain ⟨xF96_0, xF96_1, xF96_2⟩ := F9.ce3
  obtain ⟨xF136_0, xF136_1, xF136_2⟩ := F13.ce3
  obtain ⟨xF156_0, xF156_1, xF156_2⟩ := F15.ce3
  obtain ⟨xF36_0, xF36_1, xF36_2⟩ := F3.ce3
  obtain ⟨xF46_0, xF46_1, xF46_2⟩ := F4.ce3
  go_wp2_with fail
  (with_reducible refine (h6 _).mono ?_)
  rintro r w7 ⟨rfl, hb7⟩
  clear xF76_0 xF76_1 xF76_2 xF96_0 xF96_1 xF96_2 xF136_0 xF136_1 xF136_2 xF156_0 xF156_1 xF156_2 xF36_0 xF36_1 xF36_2 xF46_0 xF46_1 xF46_2
  replace F3 := F3.keep hb7
  replace F4 := F4.keep hb7
  replace F5 := F5.keep hb7
  replace F7 := F7.keep hb7
  replace F9 := F9.keep hb7
  replace F11 := F11.keep hb7
  replace F13 := F13.keep hb7
  replace F15 := F15.keep hb7
  replace B0 := B0.trans (hb7.mono B0.size)
  clear hb7
  replace F3 := F3.allocd (.cells #[.bool sn, .string sS, .string sT] 25)
  replace F4 := F4.allocd (.cells #[.bool sn, .string sS, .string sT] 25)
  replace F5 := F5.allocd (.cells #[.bool sn, .string sS, .string sT] 25)
  replace F7 := F7.allocd (.cells #[.bool sn, .string sS, .string sT] 25)
  clear F9
  replace F11 := F11.allocd (.cells #[.bool sn, .string sS, .string sT] 25)
  clear F13
  clear F15
  have F17 := Blk.put (w7) #[.bool sn, .string sS, .string sT] 25
  replace B0 := B0.alloc B0.size (.cells #[.bool sn, .string sS, .string sT] 25)
  obtain ⟨xF37_0, xF37_1, xF37_2⟩ := F3.ce3
  obtain ⟨xF57_0, xF57_1, xF57_2⟩ := F5.ce3
  go_wp2_with fail
  (with_reducible refine (h7 _).mono ?_)
  rintro r w8 ⟨rfl, hb8⟩
  clear xF37_0 xF37_1 xF37_2 xF57_0 xF57_1 xF57_2
  replace F3 := F3.keep hb8
  replace F4 := F4.keep hb8
  replace F5 := F5.keep hb8
  replace F7 := F7.keep hb8
  replace F11 := F11.keep hb8
  replace F17 := F17.keep hb8
  replace B0 := B0.trans (hb8.mono B0.size)
  clear hb8
  replace F3 := F3.allocd (.cells #[.bool tn, .string tS, .string tT] 25)
  replace F4 := F4.allocd (.cells #[.bool tn, .string tS, .string tT] 25)
  replace F5 := F5.allocd (.cells #[.bool tn, .string tS, .string tT] 25)
  replace F7 := F7.allocd (.cells #[.bool tn, .string tS, .string tT] 25)
  replace F11 := F11.allocd (.cells #[.bool tn, .string tS, .string tT] 25)
  replace F17 := F17.allocd (.cells #[.bool tn, .string tS, .string tT] 25)
  have F18 := Blk.put (w8) #[.bool tn, .string tS, .string tT] 25
  replace B0 := B0.alloc B0.size (.cells #[.bool tn, .string tS, .string tT] 25)
  obtain ⟨xF178_0, xF178_1, xF178_2⟩ := F17.ce3
  obtain ⟨xF58_0, xF58_1, xF58_2⟩ := F5.ce3
  go_wp2_with fail
  (with_reducible refine (h8 _).mono ?_)
  rintro r w9 ⟨rfl, hb9⟩
  clear xF178_0 xF178_1 xF178_2 xF58_0 xF58_1 xF58_2
  replace F3 := F3.keep hb9
  replace F4 := F4.keep hb9
  replace F5 := F5.keep hb9
  replace F7 := F7.keep hb9
  replace F11 := F11.keep hb9
  replace F17 := F17.keep hb9
  replace F18 := F18.keep hb9
  replace B0 := B0.trans (hb9.mono B0.size)
  clear hb9
  replace F3 := F3.allocd (.cells #[.bool un, .string uS, .string uT] 25)
  replace F4 := F4.allocd (.cells #[.bool un, .string uS, .string uT] 25)
  clear F5
  replace F7 := F7.allocd (.cells #[.bool un, .string uS, .string uT] 25)
  replace F11 := F11.allocd (.cells #[.bool un, .string uS, .string uT] 25)
  replace F17 := F17.allocd (.cells #[.bool un, .string uS, .string uT] 25)
  replace F18 := F18.allocd (.cells #[.bool un, .string uS, .string uT] 25)
  have F19 := Blk.put (w9) #[.bool un, .string uS, .string uT] 25
  replace B0 := B0.alloc B0.size (.cells #[.bool un, .string uS, .string uT] 25)
  obtain ⟨xF189_0, xF189_1, xF189_2⟩ := F18.ce3
  obtain ⟨xF49_0, xF49_1, xF49_2⟩ := F4.ce3
  go_wp2_with fail
  (with_reducible refine (h9 _).mono ?_)
  rintro r w10 ⟨rfl, hb10⟩
  clear xF189_0 xF189_1 xF189_2 xF49_0 xF49_1 xF49_2
  replace F3 := F3.keep hb10
  replace F4 := F4.keep hb10
  replace F7 := F7.keep hb10
  replace F11 := F11.keep hb10
  replace F17 := F17.keep hb10
  replace F18 := F18.keep hb10
  replace F19 := F19.keep hb10
  replace B0 := B0.trans (hb10.mono B0.size)
  clear hb10
  replace F3 := F3.allocd (.cells #[.bool un, .string uS, .string uT] 25)
  replace F4 := F4.allocd (.cells #[.bool un, .string uS, .string uT] 25)
  replace F7 := F7.allocd (.cells #[.bool un, .string uS, .string uT] 25)
  replace F11 := F11.allocd (.cells #[.bool un, .string uS, .string uT] 25)
  replace F17 := F17.allocd (.cells #[.bool un, .string uS, .string uT] 25)
  replace F18 := F18.allocd (.cells #[.bool un, .string uS, .string uT] 25)
  replace F19 := F19.allocd (.cells #[.bool un, .string uS, .string uT] 25)
  have F20 := Blk.put (w10) #[.bool un, .string uS, .string uT] 25
  replace B0 := B0.alloc B0.size (.cells #[.bool un, .string uS, .string uT] 25)
  obtain ⟨xF1710_0, xF1710_1, xF1710_2⟩ := F17.ce3
  obtain ⟨xF1810_0, xF1810_1, xF1810_2⟩ := F18.ce3
  go_wp2_with fail
  (with_reducible refine (h10 _).mono ?_)
  rintro r w11 ⟨rfl, hb11⟩
  clear xF1710_0 xF1710_1 xF1710_2 xF1810_0 xF1810_1 xF1810_2
  replace F3 := F3.keep hb11
  replace F4 := F4.keep hb11
  replace F7 := F7.keep hb11
  replace F11 := F11.keep hb11
  replace F17 := F17.keep hb11
  replace F18 := F18.keep hb11
  replace F19 := F19.keep hb11
  replace F20 := F20.keep hb11
  replace B0 := B0.trans (hb11.mono B0.size)
  clear hb11
  replace F3 := F3.allocd (.cells #[.bool vn, .string vS, .string vT] 25)
  replace F4 := F4.allocd (.cells #[.bool vn, .string vS, .string vT] 25)
  replace F7 := F7.allocd (.cells #[.bool vn, .string vS, .string vT] 25)
  replace F11 := F11.allocd (.cells #[.bool vn, .string vS, .string vT] 25)
  replace F17 := F17.allocd (.cells #[.bool vn, .string vS, .string vT] 25)
  clear F18
  replace F19 := F19.allocd (.cells #[.bool vn, .string vS, .string vT] 25)
  replace F20 := F20.allocd (.cells #[.bool vn, .string vS, .string vT] 25)
  have F21 := Blk.put (w11) #[.bool vn, .string vS, .string vT] 25
  replace B0 := B0.alloc B0.size (.cells #[.bool vn, .string vS, .string vT] 25)
  obtain ⟨xF311_0, xF311_1, xF311_2⟩ := F3.ce3
  obtain ⟨xF1111_0, xF1111_1, xF1111_2⟩ := F11.ce3
  go_wp2_with fail
  (with_reducible refine (h11 _).mono ?_)
  rintro r w12 ⟨rfl, hb12⟩
  clear xF311_0 xF311_1 xF311_2 xF1111_0 xF1111_1 xF1111_2
  replace F3 := F3.keep hb12
  replace F4 := F4.keep hb12
  replace F7 := F7.keep hb12
  replace F11 := F11.keep hb12
  replace F17 := F17.keep hb12
  replace F19 := F19.keep hb12
  replace F20 := F20.keep hb12
  replace F21 := F21.keep hb12
  replace B0 := B0.trans (hb12.mono B0.size)
  clear hb12
  replace F3 := F3.allocd (.cells #[.bool vn, .string vS, .string vT] 25)
  replace F4 := F4.allocd (.cells #[.bool vn, .string vS, .string vT] 25)
  replace F7 := F7.allocd (.cells #[.bool vn, .string vS, .string vT] 25)
  clear F11
  replace F17 := F17.allocd (.cells #[.bool vn, .string vS, .string vT] 25)
  replace F19 := F19.allocd (.cells #[.bool vn, .string vS, .string vT] 25)
  replace F20 := F20.allocd (.cells #[.bool vn, .string vS, .string vT] 25)
  replace F21 := F21.allocd (.cells #[.bool vn, .string vS, .string vT] 25)
  have F22 := Blk.put (w12) #[.bool vn, .string vS, .string vT] 25
  replace B0 := B0.alloc B0.size (.cells #[.bool vn, .string vS, .string vT] 25)
  obtain ⟨xF1912_0, xF1912_1, xF1912_2⟩ := F19.ce3
  obtain ⟨xF2012_0, xF2012_1, xF2012_2⟩ := F20.ce3
  obtain ⟨xF2112_0, xF2112_1, xF2112_2⟩ := F21.ce3
  obtain ⟨xF2212_0, xF2212_1, xF2212_2⟩ := F22.ce3
  obtain ⟨xF712_0, xF712_1, xF712_2⟩ := F7.ce3
  obtain ⟨xF412_0, xF412_1, xF412_2⟩ := F4.ce3
  go_wp2_with fail
  (with_reducible refine (h12 _).mono ?_)
  rintro r w13 ⟨rfl, hb13⟩
  clear xF1912_0 xF1912_1 xF1912_2 xF2012_0 xF2012_1 xF2012_2 xF2112_0 xF2112_1 xF2112_2 xF2212_0 xF2212_1 xF2212_2 xF712_0 xF712_1 xF712_2 xF412_0 xF412_1 xF412_2
  replace F3 := F3.keep hb13
  replace F4 := F4.keep hb13
  replace F7 := F7.keep hb13
  replace F17 := F17.keep hb13
  replace F19 := F19.keep hb13
  replace F20 := F20.keep hb13
  replace F21 := F21.keep hb13
  replace F22 := F22.keep hb13
  replace B0 := B0.trans (hb13.mono B0.size)
  clear hb13
  replace F3 := F3.allocd (.cells #[.bool xn, .string xS, .string xT] 25)
  replace F4 := F4.allocd (.cells #[.bool xn, .string xS, .string xT] 25)
  clear F7
  replace F17 := F17.allocd (.cells #[.bool xn, .string xS, .string xT] 25)
  clear F19
  clear F20
  clear F21
  clear F22
  have F24 := Blk.put (w13) #[.bool xn, .string xS, .string xT] 25
  replace B0 := B0.alloc B0.size (.cells #[.bool xn, .string xS, .string xT] 25)
  obtain ⟨xF2413_0, xF2413_1, xF2413_2⟩ := F24.ce3
  obtain ⟨xF313_0, xF313_1, xF313_2⟩ := F3.ce3
  obtain ⟨xF413_0, xF413_1, xF413_2⟩ := F4.ce3
  obtain ⟨xF1713_0, xF1713_1, xF1713_2⟩ := F17.ce3
  go_wp2_with fail
  (with_reducible refine (h13 _).mono ?_)
  rintro r w14 ⟨rfl, hb14⟩
  clear xF2413_0 xF2413_1 xF2413_2 xF313_0 xF313_1 xF313_2 xF413_0 xF413_1 xF413_2 xF1713_0 xF1713_1 xF1713_2
  replace F3 := F3.keep hb14
  replace F4 := F4.keep hb14
  replace F17 := F17.keep hb14
  replace F24 := F24.keep hb14
  replace B0 := B0.trans (hb14.mono B0.size)
  clear hb14
  replace F3 := F3.allocd (.cells #[.bool xn, .string xS, .string xT] 25)
  replace F4 := F4.allocd (.cells #[.bool xn, .string xS, .string xT] 25)
  clear F17
  clear F24
  have F25 := Blk.put (w14) #[.bool xn, .string xS, .string xT] 25
  replace B0 := B0.alloc B0.size (.cells #[.bool xn, .string xS, .string xT] 25)
  obtain ⟨xF2514_0, xF2514_1, xF2514_2⟩ := F25.ce3
  obtain ⟨xF314_0, xF314_1, xF314_2⟩ := F3.ce3
  obtain ⟨xF414_0, xF414_1, xF414_2⟩ := F4.ce3
  go_wp2_with fail
  (with_reducible refine (h14 _).mono ?_)
  rintro r w15 ⟨rfl, hb15⟩
  clear xF2514_0 xF2514_1 xF2514_2 xF314_0 xF314_1 xF314_2 xF414_0 xF414_1 xF414_2
  replace F3 := F3.keep hb15
  replace F4 := F4.keep hb15
  replace F25 := F25.keep hb15
  replace B0 := B0.trans (hb15.mono B0.size)
  clear hb15
  replace F3 := F3.allocd (.cells #[.bool mn, .string mS, .string mT] 25)
  replace F4 := F4.allocd (.cells #[.bool mn, .string mS, .string mT] 25)
  clear F25
  have F27 := Blk.put (w15) #[.bool mn, .string mS, .string mT] 25
  replace B0 := B0.alloc B0.size (.cells #[.bool mn, .string mS, .string mT] 25)
  obtain ⟨xF315_0, xF315_1, xF315_2⟩ := F3.ce3
  obtain ⟨xF415_0, xF415_1, xF415_2⟩ := F4.ce3
  go_wp2_with fail
  (with_reducible refine (h15 _).mono ?_)
  rintro r w16 ⟨rfl, hb16⟩
  clear xF315_0 xF315_1 xF315_2 xF415_0 xF415_1 xF415_2
  replace F3 := F3.keep hb16
  replace F4 := F4.keep hb16
  replace F27 := F27.keep hb16
  replace B0 := B0.trans (hb16.mono B0.size)
  clear hb16
  rcases HC.out with ⟨k1, k2, k3⟩ | ⟨k1, k2, k3⟩ | ⟨k1, k2, k3⟩
  all_goals
    obtain ⟨xF2716_0, xF2716_1, xF2716_2⟩ := F27.ce3
    go_wp2_with fail
    (with_reducible refine (h16 _).mono ?_)
    rintro r w17 ⟨rfl, hb17⟩
    clear xF2716_0 xF2716_1 xF2716_2
    clear F3
    clear F4
    replace F27 := F27.keep hb17
    replace B0 := B0.trans (hb17.mono B0.size)
    clear hb17
    go_wp2
    go_ret
    exact ⟨rfl, B0⟩
set_option maxRecDepth 1000000 in
set_option maxHeartbeats 16000000 in
theorem field_0 (xn : Bool) (xS xT : ByteArray) (yn : Bool) (yS yT : ByteArray) (zn : Bool) (zS zT : ByteArray) (pn : Bool) (pS pT : ByteArray) (qn : Bool) (qS qT : ByteArray) (rn : Bool) (rS rT : ByteArray) (sn : Bool) (sS sT : ByteArray) (tn : Bool) (tS tT : ByteArray) (un : Bool) (uS uT : ByteArray) (vn : Bool) (vS vT : ByteArray) (mn : Bool) (mS mT : ByteArray) (cc : Int) (w : World) (h0 : ∀ W, Calls Try.prog 7 #[.agg #[.bool xn, .string xS, .string xT], .agg #[.bool yn, .string yS, .string yT], .agg #[.bool zn, .string zS, .string zT]] W fun r w' => r = .returned (.bool true) ∧ Below W.heap.size W w') (h1 : ∀ W, Calls Try.prog 8 #[.agg #[.bool xn, .string xS, .string xT], .agg #[.bool yn, .string yS, .string yT]] W fun r w' => r = .returned (.tuple #[.agg #[.bool pn, .string pS, .string pT], .int .i64 0]) ∧ Below W.heap.size W w') (h2 : ∀ W, Calls Try.prog 8 #[.agg #[.bool yn, .string yS, .string yT], .agg #[.bool xn, .string xS, .string xT]] W fun r w' => r = .returned (.tuple #[.agg #[.bool pn, .string pS, .string pT], .int .i64 0]) ∧ Below W.heap.size W w') (h3 : ∀ W, Calls Try.prog 8 #[.agg #[.bool yn, .string yS, .string yT], .agg #[.bool zn, .string zS, .string zT]] W fun r w' => r = .returned (.tuple #[.agg #[.bool qn, .string qS, .string qT], .int .i64 0]) ∧ Below W.heap.size W w') (h4 : ∀ W, Calls Try.prog 8 #[.agg #[.bool pn, .string pS, .string pT], .agg #[.bool zn, .string zS, .string zT]] W fun r w' => r = .returned (.tuple #[.agg #[.bool rn, .string rS, .string rT], .int .i64 0]) ∧ Below W.heap.size W w') (h5 : ∀ W, Calls Try.prog 8 #[.agg #[.bool xn, .string xS, .string xT], .agg #[.bool qn, .string qS, .string qT]] W fun r w' => r = .returned (.tuple #[.agg #[.bool rn, .string rS, .string rT], .int .i64 0]) ∧ Below W.heap.size W w') (h6 : ∀ W, Calls Try.prog 9 #[.agg #[.bool xn, .string xS, .string xT], .agg #[.bool yn, .string yS, .string yT]] W fun r w' => r = .returned (.tuple #[.agg #[.bool sn, .string sS, .string sT], .int .i64 0]) ∧ Below W.heap.size W w') (h7 : ∀ W, Calls Try.prog 9 #[.agg #[.bool xn, .string xS, .string xT], .agg #[.bool zn, .string zS, .string zT]] W fun r w' => r = .returned (.tuple #[.agg #[.bool tn, .string tS, .string tT], .int .i64 0]) ∧ Below W.heap.size W w') (h8 : ∀ W, Calls Try.prog 9 #[.agg #[.bool sn, .string sS, .string sT], .agg #[.bool zn, .string zS, .string zT]] W fun r w' => r = .returned (.tuple #[.agg #[.bool un, .string uS, .string uT], .int .i64 0]) ∧ Below W.heap.size W w') (h9 : ∀ W, Calls Try.prog 9 #[.agg #[.bool tn, .string tS, .string tT], .agg #[.bool yn, .string yS, .string yT]] W fun r w' => r = .returned (.tuple #[.agg #[.bool un, .string uS, .string uT], .int .i64 0]) ∧ Below W.heap.size W w') (h10 : ∀ W, Calls Try.prog 8 #[.agg #[.bool sn, .string sS, .string sT], .agg #[.bool tn, .string tS, .string tT]] W fun r w' => r = .returned (.tuple #[.agg #[.bool vn, .string vS, .string vT], .int .i64 0]) ∧ Below W.heap.size W w') (h11 : ∀ W, Calls Try.prog 9 #[.agg #[.bool xn, .string xS, .string xT], .agg #[.bool qn, .string qS, .string qT]] W fun r w' => r = .returned (.tuple #[.agg #[.bool vn, .string vS, .string vT], .int .i64 0]) ∧ Below W.heap.size W w') (h12 : ∀ W, Calls Try.prog 10 #[.agg #[.bool pn, .string pS, .string pT], .agg #[.bool yn, .string yS, .string yT]] W fun r w' => r = .returned (.tuple #[.agg #[.bool xn, .string xS, .string xT], .int .i64 0]) ∧ Below W.heap.size W w') (h14 : ∀ W, Calls Try.prog 10 #[.agg #[.bool xn, .string xS, .string xT], .agg #[.bool yn, .string yS, .string yT]] W fun r w' => r = .returned (.tuple #[.agg #[.bool mn, .string mS, .string mT], .int .i64 0]) ∧ Below W.heap.size W w') (h15 : ∀ W, Calls Try.prog 12 #[.agg #[.bool xn, .string xS, .string xT], .agg #[.bool yn, .string yS, .string yT]] W fun r w' => r = .returned (.tuple #[.int .i64 cc, .int .i64 0]) ∧ Below W.heap.size W w') (h16 : ∀ W, Calls Try.prog 6 #[] W fun r w' => r = .returned (.bool true) ∧ Below W.heap.size W w') (hy : yS.toList = []) (HC : Hid (cc = -1 ∧ mn = true ∧ mS.toList.isEmpty = false ∨ cc = 0 ∧ mn = false ∧ mS.toList = [] ∨ cc = 1 ∧ mn = false ∧ mS.toList.isEmpty = false)) :
    Calls Try.prog 4 #[.agg #[.bool xn, .string xS, .string xT], .agg #[.bool yn, .string yS, .string yT], .agg #[.bool zn, .string zS, .string zT]] w fun r w' => r = .returned (.bool true) ∧ Below w.heap.size w w' := by
  go_enter Try.func4, Try.ntmps4
  have B0 := Below.refl w.heap.size w
  have F3 := Blk.put (w) #[.bool xn, .string xS, .string xT] 25
  replace B0 := B0.alloc B0.size (.cells #[.bool xn, .string xS, .string xT] 25)
  replace F3 := F3.allocd (.cells #[.bool yn, .string yS, .string yT] 25)
  have F4 := Blk.put ((w).alloc (.cells #[.bool xn, .string xS, .string xT] 25)) #[.bool yn, .string yS, .string yT] 25
  rw [show ((w).alloc (.cells #[.bool xn, .string xS, .string xT] 25)).heap.size = w.heap.size + 1 by simp] at F4
  replace B0 := B0.alloc B0.size (.cells #[.bool yn, .string yS, .string yT] 25)
  replace F3 := F3.allocd (.cells #[.bool zn, .string zS, .string zT] 25)
  replace F4 := F4.allocd (.cells #[.bool zn, .string zS, .string zT] 25)
  have F5 := Blk.put (((w).alloc (.cells #[.bool xn, .string xS, .string xT] 25)).alloc (.cells #[.bool yn, .string yS, .string yT] 25)) #[.bool zn, .string zS, .string zT] 25
  rw [show (((w).alloc (.cells #[.bool xn, .string xS, .string xT] 25)).alloc (.cells #[.bool yn, .string yS, .string yT] 25)).heap.size = w.heap.size + 1 + 1 by simp] at F5
  replace B0 := B0.alloc B0.size (.cells #[.bool zn, .string zS, .string zT] 25)
  obtain ⟨xF30_0, xF30_1, xF30_2⟩ := F3.ce3
  obtain ⟨xF40_0, xF40_1, xF40_2⟩ := F4.ce3
  obtain ⟨xF50_0, xF50_1, xF50_2⟩ := F5.ce3
  go_wp2_with fail
  (with_reducible refine (h0 _).mono ?_)
  rintro r w1 ⟨rfl, hb1⟩
  clear xF30_0 xF30_1 xF30_2 xF40_0 xF40_1 xF40_2 xF50_0 xF50_1 xF50_2
  replace F3 := F3.keep hb1
  replace F4 := F4.keep hb1
  replace F5 := F5.keep hb1
  replace B0 := B0.trans (hb1.mono B0.size)
  clear hb1
  obtain ⟨xF31_0, xF31_1, xF31_2⟩ := F3.ce3
  obtain ⟨xF41_0, xF41_1, xF41_2⟩ := F4.ce3
  go_wp2_with fail
  (with_reducible refine (h1 _).mono ?_)
  rintro r w2 ⟨rfl, hb2⟩
  clear xF31_0 xF31_1 xF31_2 xF41_0 xF41_1 xF41_2
  replace F3 := F3.keep hb2
  replace F4 := F4.keep hb2
  replace F5 := F5.keep hb2
  replace B0 := B0.trans (hb2.mono B0.size)
  clear hb2
  replace F3 := F3.allocd (.cells #[.bool pn, .string pS, .string pT] 25)
  replace F4 := F4.allocd (.cells #[.bool pn, .string pS, .string pT] 25)
  replace F5 := F5.allocd (.cells #[.bool pn, .string pS, .string pT] 25)
  have F7 := Blk.put (w2) #[.bool pn, .string pS, .string pT] 25
  replace B0 := B0.alloc B0.size (.cells #[.bool pn, .string pS, .string pT] 25)
  obtain ⟨xF42_0, xF42_1, xF42_2⟩ := F4.ce3
  obtain ⟨xF32_0, xF32_1, xF32_2⟩ := F3.ce3
  go_wp2_with fail
  (with_reducible refine (h2 _).mono ?_)
  rintro r w3 ⟨rfl, hb3⟩
  clear xF42_0 xF42_1 xF42_2 xF32_0 xF32_1 xF32_2
  replace F3 := F3.keep hb3
  replace F4 := F4.keep hb3
  replace F5 := F5.keep hb3
  replace F7 := F7.keep hb3
  replace B0 := B0.trans (hb3.mono B0.size)
  clear hb3
  replace F3 := F3.allocd (.cells #[.bool pn, .string pS, .string pT] 25)
  replace F4 := F4.allocd (.cells #[.bool pn, .string pS, .string pT] 25)
  replace F5 := F5.allocd (.cells #[.bool pn, .string pS, .string pT] 25)
  replace F7 := F7.allocd (.cells #[.bool pn, .string pS, .string pT] 25)
  have F9 := Blk.put (w3) #[.bool pn, .string pS, .string pT] 25
  replace B0 := B0.alloc B0.size (.cells #[.bool pn, .string pS, .string pT] 25)
  obtain ⟨xF43_0, xF43_1, xF43_2⟩ := F4.ce3
  obtain ⟨xF53_0, xF53_1, xF53_2⟩ := F5.ce3
  go_wp2_with fail
  (with_reducible refine (h3 _).mono ?_)
  rintro r w4 ⟨rfl, hb4⟩
  clear xF43_0 xF43_1 xF43_2 xF53_0 xF53_1 xF53_2
  replace F3 := F3.keep hb4
  replace F4 := F4.keep hb4
  replace F5 := F5.keep hb4
  replace F7 := F7.keep hb4
  replace F9 := F9.keep hb4
  replace B0 := B0.trans (hb4.mono B0.size)
  clear hb4
  replace F3 := F3.allocd (.cells #[.bool qn, .string qS, .string qT] 25)
  replace F4 := F4.allocd (.cells #[.bool qn, .string qS, .string qT] 25)
  replace F5 := F5.allocd (.cells #[.bool qn, .string qS, .string qT] 25)
  replace F7 := F7.allocd (.cells #[.bool qn, .string qS, .string qT] 25)
  replace F9 := F9.allocd (.cells #[.bool qn, .string qS, .string qT] 25)
  have F11 := Blk.put (w4) #[.bool qn, .string qS, .string qT] 25
  replace B0 := B0.alloc B0.size (.cells #[.bool qn, .string qS, .string qT] 25)
  obtain ⟨xF74_0, xF74_1, xF74_2⟩ := F7.ce3
  obtain ⟨xF54_0, xF54_1, xF54_2⟩ := F5.ce3
  go_wp2_with fail
  (with_reducible refine (h4 _).mono ?_)
  rintro r w5 ⟨rfl, hb5⟩
  clear xF74_0 xF74_1 xF74_2 xF54_0 xF54_1 xF54_2
  replace F3 := F3.keep hb5
  replace F4 := F4.keep hb5
  replace F5 := F5.keep hb5
  replace F7 := F7.keep hb5
  replace F9 := F9.keep hb5
  replace F11 := F11.keep hb5
  replace B0 := B0.trans (hb5.mono B0.size)
  clear hb5
  replace F3 := F3.allocd (.cells #[.bool rn, .string rS, .string rT] 25)
  replace F4 := F4.allocd (.cells #[.bool rn, .string rS, .string rT] 25)
  replace F5 := F5.allocd (.cells #[.bool rn, .string rS, .string rT] 25)
  replace F7 := F7.allocd (.cells #[.bool rn, .string rS, .string rT] 25)
  replace F9 := F9.allocd (.cells #[.bool rn, .string rS, .string rT] 25)
  replace F11 := F11.allocd (.cells #[.bool rn, .string rS, .string rT] 25)
  have F13 := Blk.put (w5) #[.bool rn, .string rS, .string rT] 25
  replace B0 := B0.alloc B0.size (.cells #[.bool rn, .string rS, .string rT] 25)
  obtain ⟨xF35_0, xF35_1, xF35_2⟩ := F3.ce3
  obtain ⟨xF115_0, xF115_1, xF115_2⟩ := F11.ce3
  go_wp2_with fail
  (with_reducible refine (h5 _).mono ?_)
  rintro r w6 ⟨rfl, hb6⟩
  clear xF35_0 xF35_1 xF35_2 xF115_0 xF115_1 xF115_2
  replace F3 := F3.keep hb6
  replace F4 := F4.keep hb6
  replace F5 := F5.keep hb6
  replace F7 := F7.keep hb6
  replace F9 := F9.keep hb6
  replace F11 := F11.keep hb6
  replace F13 := F13.keep hb6
  replace B0 := B0.trans (hb6.mono B0.size)
  clear hb6
  replace F3 := F3.allocd (.cells #[.bool rn, .string rS, .string rT] 25)
  replace F4 := F4.allocd (.cells #[.bool rn, .string rS, .string rT] 25)
  replace F5 := F5.allocd (.cells #[.bool rn, .string rS, .string rT] 25)
  replace F7 := F7.allocd (.cells #[.bool rn, .string rS, .string rT] 25)
  replace F9 := F9.allocd (.cells #[.bool rn, .string rS, .string rT] 25)
  replace F11 := F11.allocd (.cells #[.bool rn, .string rS, .string rT] 25)
  replace F13 := F13.allocd (.cells #[.bool rn, .string rS, .string rT] 25)
  have F15 := Blk.put (w6) #[.bool rn, .string rS, .string rT] 25
  replace B0 := B0.alloc B0.size (.cells #[.bool rn, .string rS, .string rT] 25)
  obtain ⟨xF76_0, xF76_1, xF76_2⟩ := F7.ce3
  obtain ⟨xF96_0, xF96_1, xF96_2⟩ := F9.ce3
  obtain ⟨xF136_0, xF136_1, xF136_2⟩ := F13.ce3
  obtain ⟨xF156_0, xF156_1, xF156_2⟩ := F15.ce3
  obtain ⟨xF36_0, xF36_1, xF36_2⟩ := F3.ce3
  obtain ⟨xF46_0, xF46_1, xF46_2⟩ := F4.ce3
  go_wp2_with fail
  (with_reducible refine (h6 _).mono ?_)
  rintro r w7 ⟨rfl, hb7⟩
  clear xF76_0 xF76_1 xF76_2 xF96_0 xF96_1 xF96_2 xF136_0 xF136_1 xF136_2 xF156_0 xF156_1 xF156_2 xF36_0 xF36_1 xF36_2 xF46_0 xF46_1 xF46_2
  replace F3 := F3.keep hb7
  replace F4 := F4.keep hb7
  replace F5 := F5.keep hb7
  replace F7 := F7.keep hb7
  replace F9 := F9.keep hb7
  replace F11 := F11.keep hb7
  replace F13 := F13.keep hb7
  replace F15 := F15.keep hb7
  replace B0 := B0.trans (hb7.mono B0.size)
  clear hb7
  replace F3 := F3.allocd (.cells #[.bool sn, .string sS, .string sT] 25)
  replace F4 := F4.allocd (.cells #[.bool sn, .string sS, .string sT] 25)
  replace F5 := F5.allocd (.cells #[.bool sn, .string sS, .string sT] 25)
  replace F7 := F7.allocd (.cells #[.bool sn, .string sS, .string sT] 25)
  clear F9
  replace F11 := F11.allocd (.cells #[.bool sn, .string sS, .string sT] 25)
  clear F13
  clear F15
  have F17 := Blk.put (w7) #[.bool sn, .string sS, .string sT] 25
  replace B0 := B0.alloc B0.size (.cells #[.bool sn, .string sS, .string sT] 25)
  obtain ⟨xF37_0, xF37_1, xF37_2⟩ := F3.ce3
  obtain ⟨xF57_0, xF57_1, xF57_2⟩ := F5.ce3
  go_wp2_with fail
  (with_reducible refine (h7 _).mono ?_)
  rintro r w8 ⟨rfl, hb8⟩
  clear xF37_0 xF37_1 xF37_2 xF57_0 xF57_1 xF57_2
  replace F3 := F3.keep hb8
  replace F4 := F4.keep hb8
  replace F5 := F5.keep hb8
  replace F7 := F7.keep hb8
  replace F11 := F11.keep hb8
  replace F17 := F17.keep hb8
  replace B0 := B0.trans (hb8.mono B0.size)
  clear hb8
  replace F3 := F3.allocd (.cells #[.bool tn, .string tS, .string tT] 25)
  replace F4 := F4.allocd (.cells #[.bool tn, .string tS, .string tT] 25)
  replace F5 := F5.allocd (.cells #[.bool tn, .string tS, .string tT] 25)
  replace F7 := F7.allocd (.cells #[.bool tn, .string tS, .string tT] 25)
  replace F11 := F11.allocd (.cells #[.bool tn, .string tS, .string tT] 25)
  replace F17 := F17.allocd (.cells #[.bool tn, .string tS, .string tT] 25)
  have F18 := Blk.put (w8) #[.bool tn, .string tS, .string tT] 25
  replace B0 := B0.alloc B0.size (.cells #[.bool tn, .string tS, .string tT] 25)
  obtain ⟨xF178_0, xF178_1, xF178_2⟩ := F17.ce3
  obtain ⟨xF58_0, xF58_1, xF58_2⟩ := F5.ce3
  go_wp2_with fail
  (with_reducible refine (h8 _).mono ?_)
  rintro r w9 ⟨rfl, hb9⟩
  clear xF178_0 xF178_1 xF178_2 xF58_0 xF58_1 xF58_2
  replace F3 := F3.keep hb9
  replace F4 := F4.keep hb9
  replace F5 := F5.keep hb9
  replace F7 := F7.keep hb9
  replace F11 := F11.keep hb9
  replace F17 := F17.keep hb9
  replace F18 := F18.keep hb9
  replace B0 := B0.trans (hb9.mono B0.size)
  clear hb9
  replace F3 := F3.allocd (.cells #[.bool un, .string uS, .string uT] 25)
  replace F4 := F4.allocd (.cells #[.bool un, .string uS, .string uT] 25)
  clear F5
  replace F7 := F7.allocd (.cells #[.bool un, .string uS, .string uT] 25)
  replace F11 := F11.allocd (.cells #[.bool un, .string uS, .string uT] 25)
  replace F17 := F17.allocd (.cells #[.bool un, .string uS, .string uT] 25)
  replace F18 := F18.allocd (.cells #[.bool un, .string uS, .string uT] 25)
  have F19 := Blk.put (w9) #[.bool un, .string uS, .string uT] 25
  replace B0 := B0.alloc B0.size (.cells #[.bool un, .string uS, .string uT] 25)
  obtain ⟨xF189_0, xF189_1, xF189_2⟩ := F18.ce3
  obtain ⟨xF49_0, xF49_1, xF49_2⟩ := F4.ce3
  go_wp2_with fail
  (with_reducible refine (h9 _).mono ?_)
  rintro r w10 ⟨rfl, hb10⟩
  clear xF189_0 xF189_1 xF189_2 xF49_0 xF49_1 xF49_2
  replace F3 := F3.keep hb10
  replace F4 := F4.keep hb10
  replace F7 := F7.keep hb10
  replace F11 := F11.keep hb10
  replace F17 := F17.keep hb10
  replace F18 := F18.keep hb10
  replace F19 := F19.keep hb10
  replace B0 := B0.trans (hb10.mono B0.size)
  clear hb10
  replace F3 := F3.allocd (.cells #[.bool un, .string uS, .string uT] 25)
  replace F4 := F4.allocd (.cells #[.bool un, .string uS, .string uT] 25)
  replace F7 := F7.allocd (.cells #[.bool un, .string uS, .string uT] 25)
  replace F11 := F11.allocd (.cells #[.bool un, .string uS, .string uT] 25)
  replace F17 := F17.allocd (.cells #[.bool un, .string uS, .string uT] 25)
  replace F18 := F18.allocd (.cells #[.bool un, .string uS, .string uT] 25)
  replace F19 := F19.allocd (.cells #[.bool un, .string uS, .string uT] 25)
  have F20 := Blk.put (w10) #[.bool un, .string uS, .string uT] 25
  replace B0 := B0.alloc B0.size (.cells #[.bool un, .string uS, .string uT] 25)
  obtain ⟨xF1710_0, xF1710_1, xF1710_2⟩ := F17.ce3
  obtain ⟨xF1810_0, xF1810_1, xF1810_2⟩ := F18.ce3
  go_wp2_with fail
  (with_reducible refine (h10 _).mono ?_)
  rintro r w11 ⟨rfl, hb11⟩
  clear xF1710_0 xF1710_1 xF1710_2 xF1810_0 xF1810_1 xF1810_2
  replace F3 := F3.keep hb11
  replace F4 := F4.keep hb11
  replace F7 := F7.keep hb11
  replace F11 := F11.keep hb11
  replace F17 := F17.keep hb11
  replace F18 := F18.keep hb11
  replace F19 := F19.keep hb11
  replace F20 := F20.keep hb11
  replace B0 := B0.trans (hb11.mono B0.size)
  clear hb11
  replace F3 := F3.allocd (.cells #[.bool vn, .string vS, .string vT] 25)
  replace F4 := F4.allocd (.cells #[.bool vn, .string vS, .string vT] 25)
  replace F7 := F7.allocd (.cells #[.bool vn, .string vS, .string vT] 25)
  replace F11 := F11.allocd (.cells #[.bool vn, .string vS, .string vT] 25)
  clear F17
  clear F18
  replace F19 := F19.allocd (.cells #[.bool vn, .string vS, .string vT] 25)
  replace F20 := F20.allocd (.cells #[.bool vn, .string vS, .string vT] 25)
  have F21 := Blk.put (w11) #[.bool vn, .string vS, .string vT] 25
  replace B0 := B0.alloc B0.size (.cells #[.bool vn, .string vS, .string vT] 25)
  obtain ⟨xF311_0, xF311_1, xF311_2⟩ := F3.ce3
  obtain ⟨xF1111_0, xF1111_1, xF1111_2⟩ := F11.ce3
  go_wp2_with fail
  (with_reducible refine (h11 _).mono ?_)
  rintro r w12 ⟨rfl, hb12⟩
  clear xF311_0 xF311_1 xF311_2 xF1111_0 xF1111_1 xF1111_2
  replace F3 := F3.keep hb12
  replace F4 := F4.keep hb12
  replace F7 := F7.keep hb12
  replace F11 := F11.keep hb12
  replace F19 := F19.keep hb12
  replace F20 := F20.keep hb12
  replace F21 := F21.keep hb12
  replace B0 := B0.trans (hb12.mono B0.size)
  clear hb12
  replace F3 := F3.allocd (.cells #[.bool vn, .string vS, .string vT] 25)
  replace F4 := F4.allocd (.cells #[.bool vn, .string vS, .string vT] 25)
  replace F7 := F7.allocd (.cells #[.bool vn, .string vS, .string vT] 25)
  clear F11
  replace F19 := F19.allocd (.cells #[.bool vn, .string vS, .string vT] 25)
  replace F20 := F20.allocd (.cells #[.bool vn, .string vS, .string vT] 25)
  replace F21 := F21.allocd (.cells #[.bool vn, .string vS, .string vT] 25)
  have F22 := Blk.put (w12) #[.bool vn, .string vS, .string vT] 25
  replace B0 := B0.alloc B0.size (.cells #[.bool vn, .string vS, .string vT] 25)
  obtain ⟨xF1912_0, xF1912_1, xF1912_2⟩ := F19.ce3
  obtain ⟨xF2012_0, xF2012_1, xF2012_2⟩ := F20.ce3
  obtain ⟨xF2112_0, xF2112_1, xF2112_2⟩ := F21.ce3
  obtain ⟨xF2212_0, xF2212_1, xF2212_2⟩ := F22.ce3
  obtain ⟨xF712_0, xF712_1, xF712_2⟩ := F7.ce3
  obtain ⟨xF412_0, xF412_1, xF412_2⟩ := F4.ce3
  go_wp2_with fail
  (with_reducible refine (h12 _).mono ?_)
  rintro r w13 ⟨rfl, hb13⟩
  clear xF1912_0 xF1912_1 xF1912_2 xF2012_0 xF2012_1 xF2012_2 xF2112_0 xF2112_1 xF2112_2 xF2212_0 xF2212_1 xF2212_2 xF712_0 xF712_1 xF712_2 xF412_0 xF412_1 xF412_2
  replace F3 := F3.keep hb13
  replace F4 := F4.keep hb13
  replace F7 := F7.keep hb13
  replace F19 := F19.keep hb13
  replace F20 := F20.keep hb13
  replace F21 := F21.keep hb13
  replace F22 := F22.keep hb13
  replace B0 := B0.trans (hb13.mono B0.size)
  clear hb13
  replace F3 := F3.allocd (.cells #[.bool xn, .string xS, .string xT] 25)
  replace F4 := F4.allocd (.cells #[.bool xn, .string xS, .string xT] 25)
  clear F7
  clear F19
  clear F20
  clear F21
  clear F22
  have F24 := Blk.put (w13) #[.bool xn, .string xS, .string xT] 25
  replace B0 := B0.alloc B0.size (.cells #[.bool xn, .string xS, .string xT] 25)
  obtain ⟨xF2413_0, xF2413_1, xF2413_2⟩ := F24.ce3
  obtain ⟨xF313_0, xF313_1, xF313_2⟩ := F3.ce3
  obtain ⟨xF413_0, xF413_1, xF413_2⟩ := F4.ce3
  go_wp2_with fail
  (with_reducible refine (h14 _).mono ?_)
  rintro r w14 ⟨rfl, hb14⟩
  clear xF2413_0 xF2413_1 xF2413_2 xF313_0 xF313_1 xF313_2 xF413_0 xF413_1 xF413_2
  replace F3 := F3.keep hb14
  replace F4 := F4.keep hb14
  replace F24 := F24.keep hb14
  replace B0 := B0.trans (hb14.mono B0.size)
  clear hb14
  replace F3 := F3.allocd (.cells #[.bool mn, .string mS, .string mT] 25)
  replace F4 := F4.allocd (.cells #[.bool mn, .string mS, .string mT] 25)
  clear F24
  have F27 := Blk.put (w14) #[.bool mn, .string mS, .string mT] 25
  replace B0 := B0.alloc B0.size (.cells #[.bool mn, .string mS, .string mT] 25)
  obtain ⟨xF314_0, xF314_1, xF314_2⟩ := F3.ce3
  obtain ⟨xF414_0, xF414_1, xF414_2⟩ := F4.ce3
  go_wp2_with fail
  (with_reducible refine (h15 _).mono ?_)
  rintro r w15 ⟨rfl, hb15⟩
  clear xF314_0 xF314_1 xF314_2 xF414_0 xF414_1 xF414_2
  replace F3 := F3.keep hb15
  replace F4 := F4.keep hb15
  replace F27 := F27.keep hb15
  replace B0 := B0.trans (hb15.mono B0.size)
  clear hb15
  rcases HC.out with ⟨k1, k2, k3⟩ | ⟨k1, k2, k3⟩ | ⟨k1, k2, k3⟩
  all_goals
    obtain ⟨xF2715_0, xF2715_1, xF2715_2⟩ := F27.ce3
    go_wp2_with fail
    (with_reducible refine (h16 _).mono ?_)
    rintro r w16 ⟨rfl, hb16⟩
    clear xF2715_0 xF2715_1 xF2715_2
    clear F3
    clear F4
    replace F27 := F27.keep hb16
    replace B0 := B0.trans (hb16.mono B0.size)
    clear hb16
    go_wp2
    go_ret
    exact ⟨rfl, B0⟩
set_option maxRecDepth 100000 in
set_option maxHeartbeats 8000000 in
theorem field_bad (xn : Bool) (xS xT : ByteArray) (yn : Bool) (yS yT : ByteArray) (zn : Bool) (zS zT : ByteArray) (w : World) (h0 : ∀ W, Calls Try.prog 7 #[.agg #[.bool xn, .string xS, .string xT], .agg #[.bool yn, .string yS, .string yT], .agg #[.bool zn, .string zS, .string zT]] W fun r w' => r = .returned (.bool false) ∧ Below W.heap.size W w') (h16 : ∀ W, Calls Try.prog 6 #[] W fun r w' => r = .returned (.bool true) ∧ Below W.heap.size W w') :
    Calls Try.prog 4 #[.agg #[.bool xn, .string xS, .string xT], .agg #[.bool yn, .string yS, .string yT], .agg #[.bool zn, .string zS, .string zT]] w fun r w' => r = .returned (.bool true) ∧ Below w.heap.size w w' := by
  go_enter Try.func4, Try.ntmps4
  have B0 := Below.refl w.heap.size w
  have F3 := Blk.put (w) #[.bool xn, .string xS, .string xT] 25
  replace B0 := B0.alloc B0.size (.cells #[.bool xn, .string xS, .string xT] 25)
  replace F3 := F3.allocd (.cells #[.bool yn, .string yS, .string yT] 25)
  have F4 := Blk.put ((w).alloc (.cells #[.bool xn, .string xS, .string xT] 25)) #[.bool yn, .string yS, .string yT] 25
  rw [show ((w).alloc (.cells #[.bool xn, .string xS, .string xT] 25)).heap.size = w.heap.size + 1 by simp] at F4
  replace B0 := B0.alloc B0.size (.cells #[.bool yn, .string yS, .string yT] 25)
  replace F3 := F3.allocd (.cells #[.bool zn, .string zS, .string zT] 25)
  replace F4 := F4.allocd (.cells #[.bool zn, .string zS, .string zT] 25)
  have F5 := Blk.put (((w).alloc (.cells #[.bool xn, .string xS, .string xT] 25)).alloc (.cells #[.bool yn, .string yS, .string yT] 25)) #[.bool zn, .string zS, .string zT] 25
  rw [show (((w).alloc (.cells #[.bool xn, .string xS, .string xT] 25)).alloc (.cells #[.bool yn, .string yS, .string yT] 25)).heap.size = w.heap.size + 1 + 1 by simp] at F5
  replace B0 := B0.alloc B0.size (.cells #[.bool zn, .string zS, .string zT] 25)
  obtain ⟨xF30_0, xF30_1, xF30_2⟩ := F3.ce3
  obtain ⟨xF40_0, xF40_1, xF40_2⟩ := F4.ce3
  obtain ⟨xF50_0, xF50_1, xF50_2⟩ := F5.ce3
  go_wp2_with fail
  (with_reducible refine (h0 _).mono ?_)
  rintro r w1 ⟨rfl, hb1⟩
  clear xF30_0 xF30_1 xF30_2 xF40_0 xF40_1 xF40_2 xF50_0 xF50_1 xF50_2
  replace F3 := F3.keep hb1
  replace F4 := F4.keep hb1
  replace F5 := F5.keep hb1
  replace B0 := B0.trans (hb1.mono B0.size)
  clear hb1
  go_wp2_with fail
  (with_reducible refine (h16 _).mono ?_)
  rintro r w2 ⟨rfl, hb2⟩
  clear F3
  clear F4
  clear F5
  replace B0 := B0.trans (hb2.mono B0.size)
  clear hb2
  go_wp2
  go_ret
  exact ⟨rfl, B0⟩
/-- few bytes -/
def Bts (K : Nat) (x : Rat) : Prop := Fil.dn 8 x.num.natAbs ≤ K ∧ Fil.dn 8 x.den ≤ K
theorem Bts.fits {K : Nat} {x : Rat} (h : Bts K x) (hK : K ≤ 16384) : Fits x := ⟨Nat.le_trans h.1 hK, Nat.le_trans h.2 hK⟩
theorem dn8_mul {x y j k : Nat} (hx : Fil.dn 8 x ≤ j) (hy : Fil.dn 8 y ≤ k) : Fil.dn 8 (x * y) ≤ j + k := dn_le (by omega) (by rw [padd]; exact Nat.mul_lt_mul'' (lt_of_dn (by omega) hx) (lt_of_dn (by omega) hy))
theorem dn8_add {x y k : Nat} (hx : Fil.dn 8 x ≤ k) (hy : Fil.dn 8 y ≤ k) : Fil.dn 8 (x + y) ≤ k + 1 := dn_le (by omega) (add_lt_succ (by omega) (lt_of_dn (by omega) hx) (lt_of_dn (by omega) hy))
theorem dn8_mulI {x y : Int} {j k : Nat} (hx : Fil.dn 8 x.natAbs ≤ j) (hy : Fil.dn 8 y.natAbs ≤ k) : Fil.dn 8 (x * y).natAbs ≤ j + k := by rw [Int.natAbs_mul]; exact dn8_mul hx hy
theorem dn8_addI {x y : Int} {k : Nat} (hx : Fil.dn 8 x.natAbs ≤ k) (hy : Fil.dn 8 y.natAbs ≤ k) : Fil.dn 8 (x + y).natAbs ≤ k + 1 :=
  Nat.le_trans (dn_mono (by omega) (Int.natAbs_add_le x y)) (dn8_add hx hy)
theorem bts_div {K : Nat} {p q : Int} (hq : q ≠ 0) (hp : Fil.dn 8 p.natAbs ≤ K) (hd : Fil.dn 8 q.natAbs ≤ K) : Bts K (Rat.divInt p q) := by
  refine ⟨?_, ?_⟩
  · rw [← norm_num p q hq, sz_abs]
    exact Nat.le_trans (dn_mono (by omega) (Nat.div_le_self _ _)) hp
  · rw [← norm_den p q hq]
    exact Nat.le_trans (dn_mono (by omega) (Nat.div_le_self _ _)) hd
theorem Bts.denI {K : Nat} {x : Rat} (h : Bts K x) : Fil.dn 8 ((x.den : Int)).natAbs ≤ K := by rw [Int.natAbs_natCast]; exact h.2
theorem Bts.mono {K L : Nat} {x : Rat} (h : Bts K x) (hL : K ≤ L) : Bts L x := ⟨Nat.le_trans h.1 hL, Nat.le_trans h.2 hL⟩
theorem Bts.mul {J K : Nat} {x y : Rat} (hx : Bts J x) (hy : Bts K y) : Bts (J + K) (x * y) := by
  rw [← divInt_mul]
  exact bts_div (den_mul_ne x y) (dn8_mulI hx.1 hy.1) (dn8_mulI hx.denI hy.denI)
theorem Bts.add {J K : Nat} {x y : Rat} (hx : Bts J x) (hy : Bts K y) : Bts (J + K + 1) (x + y) := by
  rw [← divInt_add]
  exact bts_div (den_mul_ne x y) (dn8_addI (dn8_mulI hx.1 hy.denI) (by rw [Nat.add_comm J K]; exact dn8_mulI hy.1 hx.denI)) (Nat.le_trans (dn8_mulI hx.denI hy.denI) (by omega))
theorem Bts.neg {K : Nat} {x : Rat} (h : Bts K x) : Bts K (-x) := ⟨by rw [Rat.neg_num, Int.natAbs_neg]; exact h.1, h.2⟩
theorem Bts.sub {J K : Nat} {x y : Rat} (hx : Bts J x) (hy : Bts K y) : Bts (J + K + 1) (x - y) := by rw [Rat.sub_eq_add_neg]; exact hx.add hy.neg
theorem sub_cases (x y : Rat) : cmpR x y = -1 ∧ sg (x - y).num = true ∧ (bstr (x - y).num.natAbs).toList.isEmpty = false ∨ cmpR x y = 0 ∧ sg (x - y).num = false ∧ (bstr (x - y).num.natAbs).toList = [] ∨ cmpR x y = 1 ∧ sg (x - y).num = false ∧ (bstr (x - y).num.natAbs).toList.isEmpty = false := by
  have hne : ∀ z : Rat, z.num ≠ 0 → (bstr z.num.natAbs).toList.isEmpty = false := fun z hz => str_cons (by rw [bstr_size]; exact dn_pos (by omega))
  unfold cmpR
  by_cases h1 : x < y
  · left
    have h2 : (x - y).num < 0 := by
      rcases Int.lt_or_le (x - y).num 0 with h | h
      · exact h
      · exact absurd ((Rat.le_iff_sub_nonneg y x).2 (Rat.num_nonneg.1 h)) (Rat.not_le.2 h1)
    rw [if_pos h1]
    exact ⟨rfl, by unfold sg; exact decide_eq_true h2, hne _ (by omega)⟩
  · rw [if_neg h1]
    by_cases h2 : y < x
    · right; right
      have h3 : 0 < (x - y).num := by
        have h4 := (Rat.lt_iff_sub_pos y x).1 h2
        have h5 : 0 ≤ (x - y).num := Rat.num_nonneg.2 (Rat.le_of_lt h4)
        have h6 : (x - y).num ≠ 0 := fun h => by rw [Rat.num_eq_zero.1 h] at h4; exact Rat.lt_irrefl h4
        omega
      rw [if_pos h2]
      exact ⟨rfl, by unfold sg; exact decide_eq_false (by omega), hne _ (by omega)⟩
    · right; left
      have h3 : x = y := Rat.le_antisymm (Rat.not_lt.1 h2) (Rat.not_lt.1 h1)
      subst h3
      rw [if_neg h2, Rat.sub_self]
      exact ⟨rfl, rfl, bstr_eq_nil.2 rfl⟩
theorem field_good (x y z : Rat) (w : World) (fx : Bts 300 x) (fy : Bts 300 y) (fz : Bts 300 z) :
    Calls Try.prog 4 #[kA x, kA y, kA z] w fun r w' => r = .returned (.bool true) ∧ Below w.heap.size w w' := by
  have gp := fx.add fy
  have gq := fy.add fz
  have gr := gp.add fz
  have gs := fx.mul fy
  have gt := fx.mul fz
  have gu := gs.mul fz
  have gv := gs.add gt
  have gm := fx.sub fy
  have F : ∀ {K : Nat} {a : Rat}, Bts K a → K ≤ 16384 → Fits a := fun h hK => h.fits hK
  have Fx := F fx (by omega)
  have Fy := F fy (by omega)
  have Fz := F fz (by omega)
  have Fp := F gp (by omega)
  have Fq := F gq (by omega)
  have Fr := F gr (by omega)
  have Fs := F gs (by omega)
  have Ft := F gt (by omega)
  have Fu := F gu (by omega)
  have Fv := F gv (by omega)
  have Fm := F gm (by omega)
  have h0 : ∀ W, Calls Try.prog 7 #[kA x, kA y, kA z] W fun r w' => r = .returned (.bool true) ∧ Below W.heap.size W w' := fun W => by
    have sz : ∀ n, (bstr n).size = Fil.dn 8 n := bstr_size
    have h := l4three_any (sg x.num) (bstr x.num.natAbs) (bstr x.den) (sg y.num) (bstr y.num.natAbs) (bstr y.den) (sg z.num) (bstr z.num.natAbs) (bstr z.den) W (by rw [sz]; have := fx.1; omega) (by rw [sz]; have := fx.2; omega) (by rw [sz]; have := fy.1; omega) (by rw [sz]; have := fy.2; omega) (by rw [sz]; have := fz.1; omega) (by rw [sz]; have := fz.2; omega)
    have e : threeB (sg x.num) (bstr x.num.natAbs) (bstr x.den) (sg y.num) (bstr y.num.natAbs) (bstr y.den) (sg z.num) (bstr z.num.natAbs) (bstr z.den) = true := by
      unfold threeB smallB
      rw [may_of_rat Fx, may_of_rat Fy, may_of_rat Fz, sz, sz, sz, sz, sz, sz, decide_eq_true fx.1, decide_eq_true fx.2, decide_eq_true fy.1, decide_eq_true fy.2, decide_eq_true fz.1, decide_eq_true fz.2]
      rfl
    rw [e] at h
    exact h
  have h1 := fun W => kadd_ok x y W Fx Fy
  have h2 := fun W => kadd_ok y x W Fy Fx
  have h3 := fun W => kadd_ok y z W Fy Fz
  have h4 := fun W => kadd_ok (x + y) z W Fp Fz
  have h5 := fun W => kadd_ok x (y + z) W Fx Fq
  have h6 := fun W => kmul_ok x y W Fx Fy
  have h7 := fun W => kmul_ok x z W Fx Fz
  have h8 := fun W => kmul_ok (x * y) z W Fs Fz
  have h9 := fun W => kmul_ok (x * z) y W Ft Fy
  have h10 := fun W => kadd_ok (x * y) (x * z) W Fs Ft
  have h11 := fun W => kmul_ok x (y + z) W Fx Fq
  have h12 := fun W => ksub_ok (x + y) y W Fp Fy
  have h14 := fun W => ksub_ok x y W Fx Fy
  have h15 := fun W => kcompare_ok x y W Fx Fy
  have h16 := fun W => l4lives_any W
  rw [kTold_fits Fp] at h1
  rw [Rat.add_comm y x, kTold_fits Fp] at h2
  rw [kTold_fits Fq] at h3
  rw [kTold_fits Fr] at h4
  rw [← Rat.add_assoc, kTold_fits Fr] at h5
  rw [kTold_fits Fs] at h6
  rw [kTold_fits Ft] at h7
  rw [kTold_fits Fu] at h8
  rw [show x * z * y = x * y * z by rw [Rat.mul_assoc, Rat.mul_comm z y, ← Rat.mul_assoc], kTold_fits Fu] at h9
  rw [kTold_fits Fv] at h10
  rw [Rat.mul_add, kTold_fits Fv] at h11
  rw [show x + y - y = x by rw [Rat.sub_eq_add_neg, Rat.add_assoc, ← Rat.sub_eq_add_neg, Rat.sub_self, Rat.add_zero], kTold_fits Fx] at h12
  rw [kTold_fits Fm] at h14
  have HC := Lib.hid (sub_cases x y)
  by_cases h0y : y = 0
  · have hy : (bstr y.num.natAbs).toList = [] := bstr_eq_nil.2 (by rw [h0y]; rfl)
    clear h0y
    exact field_0 _ _ _ _ _ _ _ _ _ _ _ _ _ _ _ _ _ _ _ _ _ _ _ _ _ _ _ _ _ _ _ _ _ _ w h0 h1 h2 h3 h4 h5 h6 h7 h8 h9 h10 h11 h12 h14 h15 h16 hy HC
  · have hy := str_cons (s := bstr y.num.natAbs) (by rw [bstr_size]; have := num_ne h0y; exact dn_pos (by omega))
    have h13 := fun W => kquo_ok (x * y) y W Fs Fy h0y
    rw [show x * y / y = x by rw [Rat.div_def, Rat.mul_assoc, Rat.mul_inv_cancel y h0y, Rat.mul_one], kTold_fits Fx] at h13
    exact field_1 _ _ _ _ _ _ _ _ _ _ _ _ _ _ _ _ _ _ _ _ _ _ _ _ _ _ _ _ _ _ _ _ _ _ w h0 h1 h2 h3 h4 h5 h6 h7 h8 h9 h10 h11 h12 h13 h14 h15 h16 hy (fun h => by rw [h] at hy; exact Bool.noConfusion hy) HC
theorem ratioField_any (xn : Bool) (xS xT : ByteArray) (yn : Bool) (yS yT : ByteArray) (zn : Bool) (zS zT : ByteArray) (w : World) (b1 : xS.size ≤ 9223372036854775807) (b2 : xT.size ≤ 9223372036854775807) (b3 : yS.size ≤ 9223372036854775807) (b4 : yT.size ≤ 9223372036854775807) (b5 : zS.size ≤ 9223372036854775807) (b6 : zT.size ≤ 9223372036854775807) :
    Calls Try.prog 4 #[.agg #[.bool xn, .string xS, .string xT], .agg #[.bool yn, .string yS, .string yT], .agg #[.bool zn, .string zS, .string zT]] w fun r w' => r = .returned (.bool true) ∧ Below w.heap.size w w' := by
  have h0 := fun W => l4three_any xn xS xT yn yS yT zn zS zT W b1 b2 b3 b4 b5 b6
  cases e : threeB xn xS xT yn yS yT zn zS zT
  · rw [e] at h0
    exact field_bad xn xS xT yn yS yT zn zS zT w h0 l4lives_any
  · unfold threeB at e
    simp only [Bool.and_eq_true] at e
    obtain ⟨⟨⟨⟨⟨e1, e2⟩, e3⟩, e4⟩, e5⟩, e6⟩ := e
    obtain ⟨x, fx, rfl, rfl, rfl⟩ := rat_of_may e4
    obtain ⟨y, fy, rfl, rfl, rfl⟩ := rat_of_may e5
    obtain ⟨z, fz, rfl, rfl, rfl⟩ := rat_of_may e6
    have s1 := small_sizes e1
    have s2 := small_sizes e2
    have s3 := small_sizes e3
    rw [bstr_size, bstr_size] at s1 s2 s3
    exact field_good x y z w s1 s2 s3
end Go.Proofs.Ytfbggddmmkmadaa
