/- filigreelaw03.DyadGo: the walk. -/
import Derived.Test.YtgcifpjhhoalmaaDoorV3
import Derived.Test.YtgcifpjhhoalmaaDoorV4
import Derived.Test.YtgcifpjhhoalmaaDoorG3
namespace Go.Proofs.YtgcifpjhhoalmaaDoor
open Go Go.RowKit Go.PlainAid Fil

/-- what the extern gives, by the exact answer -/
def fmaOf (x y z : Nat) (q : Option Nat) : Sem Value :=
  match q with
  | some r => pure (.float .f64 r)
  | none => do
    let (a, b) := if Extern.MathFMA.isNaN x then (x, y) else if Extern.MathFMA.isNaN y then (y, z) else (z, z)
    pure (.float .f64 (← choose (.nanBits .f64 a b)))
theorem run_fma {x y z o : Nat} (h : Ieee.double.fma x y z = some o) (w : World) : (callFunc 97 #[.float .f64 x, .float .f64 y, .float .f64 z]).run Tryd.prog w = .ok (.value (.float .f64 o)) w := by
  rw [run_callFunc_extern (e := Extern.MathFMA.fma) Tryd.func97 (by kernel_rfl) (by kernel_rfl) (by kernel_rfl) (by kernel_rfl)]
  have e : FloatKind.f64.format.fma x y z = some o := h
  have k : Extern.MathFMA.fma #[.float .f64 x, .float .f64 y, .float .f64 z] = fmaOf x y z (FloatKind.f64.format.fma x y z) := rfl
  rw [k, e]
  rfl
theorem Blk.ce9 {w : World} {b : Nat} {v0 v1 v2 v3 v4 v5 v6 v7 v8 : Value} {t : TypeId} (h : Blk w b #[v0, v1, v2, v3, v4, v5, v6, v7, v8] t) : w.cell? ⟨b, 0, none⟩ = some v0 ∧ w.cell? ⟨b, 1, none⟩ = some v1 ∧ w.cell? ⟨b, 2, none⟩ = some v2 ∧ w.cell? ⟨b, 3, none⟩ = some v3 ∧ w.cell? ⟨b, 4, none⟩ = some v4 ∧ w.cell? ⟨b, 5, none⟩ = some v5 ∧ w.cell? ⟨b, 6, none⟩ = some v6 ∧ w.cell? ⟨b, 7, none⟩ = some v7 ∧ w.cell? ⟨b, 8, none⟩ = some v8 :=
  ⟨h.at 0 (by simp), h.at 1 (by simp), h.at 2 (by simp), h.at 3 (by simp), h.at 4 (by simp), h.at 5 (by simp), h.at 6 (by simp), h.at 7 (by simp), h.at 8 (by simp)⟩
/-- dyad.Float of any float: the Dyad, the error -/
def flZ (b : Nat) : DY := if flQ b = 2047 then DY.zero else flY b
def flR (b : Nat) : Int := if flQ b = 2047 then 5 else 0
theorem flR_ok {b : Nat} (h : flR b = 0) : flQ b ≠ 2047 := by
  intro e; unfold flR at h; rw [if_pos e] at h; omega
theorem flZ_ok {b : Nat} (h : flQ b ≠ 2047) : flZ b = flY b := if_neg h
theorem cfloat (b : Nat) (w : World) (hb : b < 18446744073709551616) (hT : Tab w) :
    Calls Tryd.prog 56 #[.float .f64 b] w fun r w' => r = .returned (.tuple #[.agg #[.bool (flZ b).n, .string (bstr (flZ b).x), .int .i64 (flZ b).e], .int .i64 (flR b)]) ∧ Below w.heap.size w w' := by
  unfold flZ flR
  by_cases h : flQ b = 2047
  · rw [if_pos h, if_pos h]; exact dfloat_bad b w hb h
  · rw [if_neg h, if_neg h]
    have k := dfloat_ok b w hb h hT
    unfold mkV dyR at k
    rw [show mkR (sz (fs b) (flM b)) (flE b) = 0 from mkR_ok (fl_ok h)] at k
    exact k

set_option maxRecDepth 1000000 in
set_option maxHeartbeats 16000000 in
theorem go_none (x y z : Nat) (w : World) (an : Bool) (aS : ByteArray) (ae : Int) (bn : Bool) (bS : ByteArray) (be : Int) (cn : Bool) (cS : ByteArray) (ce : Int) (ex ey ez : Int) (hT : Tab w) (hk : oks [ex, ey, ez] = false)
    (hx : ∀ W, Tab W → Calls Tryd.prog 56 #[.float .f64 x] W fun r w' => r = .returned (.tuple #[.agg #[.bool an, .string aS, .int .i64 ae], .int .i64 ex]) ∧ Below W.heap.size W w')
    (hy : ∀ W, Tab W → Calls Tryd.prog 56 #[.float .f64 y] W fun r w' => r = .returned (.tuple #[.agg #[.bool bn, .string bS, .int .i64 be], .int .i64 ey]) ∧ Below W.heap.size W w')
    (hz : ∀ W, Tab W → Calls Tryd.prog 56 #[.float .f64 z] W fun r w' => r = .returned (.tuple #[.agg #[.bool cn, .string cS, .int .i64 ce], .int .i64 ez]) ∧ Below W.heap.size W w') :
    Calls Tryd.prog 18 #[.float .f64 x, .float .f64 y, .float .f64 z] w fun r w' => r = .returned (.bool true) ∧ Below w.heap.size w w' := by
  have haw := fun W hW => awake_any W hW
  have hall := fun Bk W h => l3all_3_on ex ey ez Bk W h
  rw [hk] at hall
  clear hk
  go_enter Tryd.func18, Tryd.ntmps18
  have B0 := Below.refl w.heap.size w
  go_wp2_with fail
  (with_reducible refine (haw _ (hT.below B0)).mono ?_)
  rintro r w1 ⟨rfl, hb1⟩
  replace B0 := B0.trans (hb1.mono B0.size)
  clear hb1
  go_wp2_with fail
  (with_reducible refine (hx _ (hT.below B0)).mono ?_)
  rintro r w2 ⟨rfl, hb2⟩
  replace B0 := B0.trans (hb2.mono B0.size)
  clear hb2
  replace B0 := B0.alloc B0.size (.cells #[.bool an, .string aS, .int .i64 ae] 24)
  go_wp2_with fail
  (with_reducible refine (hy _ (hT.below B0)).mono ?_)
  rintro r w3 ⟨rfl, hb3⟩
  replace B0 := B0.trans (hb3.mono B0.size)
  clear hb3
  replace B0 := B0.alloc B0.size (.cells #[.bool bn, .string bS, .int .i64 be] 24)
  go_wp2_with fail
  (with_reducible refine (hz _ (hT.below B0)).mono ?_)
  rintro r w4 ⟨rfl, hb4⟩
  replace B0 := B0.trans (hb4.mono B0.size)
  clear hb4
  replace B0 := B0.alloc B0.size (.cells #[.bool cn, .string cS, .int .i64 ce] 24)
  go_wp2_with fail
  (with_reducible refine (hall _ _ (by simp)).mono ?_)
  rintro r w5 ⟨rfl, hb5⟩
  replace B0 := B0.trans (hb5.mono B0.size)
  clear hb5
  go_wp2
  go_ret
  exact ⟨rfl, B0⟩

set_option maxRecDepth 1000000 in
set_option maxHeartbeats 16000000 in
theorem go_all (x y z : Nat) (w : World) (an : Bool) (aS : ByteArray) (ae : Int) (bn : Bool) (bS : ByteArray) (be : Int) (cn : Bool) (cS : ByteArray) (ce : Int) (sn : Bool) (sS : ByteArray) (se : Int) (pn : Bool) (pS : ByteArray) (pe : Int) (tn : Bool) (tS : ByteArray) (te : Int) (n1 n2 n3 o1 o2 o3 : Nat) (hT : Tab w)
    (hx : ∀ W, Tab W → Calls Tryd.prog 56 #[.float .f64 x] W fun r w' => r = .returned (.tuple #[.agg #[.bool an, .string aS, .int .i64 ae], .int .i64 0]) ∧ Below W.heap.size W w')
    (hy : ∀ W, Tab W → Calls Tryd.prog 56 #[.float .f64 y] W fun r w' => r = .returned (.tuple #[.agg #[.bool bn, .string bS, .int .i64 be], .int .i64 0]) ∧ Below W.heap.size W w')
    (hz : ∀ W, Tab W → Calls Tryd.prog 56 #[.float .f64 z] W fun r w' => r = .returned (.tuple #[.agg #[.bool cn, .string cS, .int .i64 ce], .int .i64 0]) ∧ Below W.heap.size W w')
    (hs : ∀ W, Tab W → Calls Tryd.prog 51 #[.agg #[.bool an, .string aS, .int .i64 ae], .agg #[.bool bn, .string bS, .int .i64 be]] W fun r w' => r = .returned (.tuple #[.agg #[.bool sn, .string sS, .int .i64 se], .int .i64 0]) ∧ Below W.heap.size W w')
    (hp : ∀ W, Tab W → Calls Tryd.prog 46 #[.agg #[.bool an, .string aS, .int .i64 ae], .agg #[.bool bn, .string bS, .int .i64 be]] W fun r w' => r = .returned (.tuple #[.agg #[.bool pn, .string pS, .int .i64 pe], .int .i64 0]) ∧ Below W.heap.size W w')
    (ht : ∀ W, Tab W → Calls Tryd.prog 51 #[.agg #[.bool pn, .string pS, .int .i64 pe], .agg #[.bool cn, .string cS, .int .i64 ce]] W fun r w' => r = .returned (.tuple #[.agg #[.bool tn, .string tS, .int .i64 te], .int .i64 0]) ∧ Below W.heap.size W w')
    (hn1 : ∀ W, Tab W → Calls Tryd.prog 19 #[.agg #[.bool sn, .string sS, .int .i64 se]] W fun r w' => r = .returned (.tuple #[.float .f64 n1, .int .i64 0]) ∧ Below W.heap.size W w')
    (hn2 : ∀ W, Tab W → Calls Tryd.prog 19 #[.agg #[.bool pn, .string pS, .int .i64 pe]] W fun r w' => r = .returned (.tuple #[.float .f64 n2, .int .i64 0]) ∧ Below W.heap.size W w')
    (hn3 : ∀ W, Tab W → Calls Tryd.prog 19 #[.agg #[.bool tn, .string tS, .int .i64 te]] W fun r w' => r = .returned (.tuple #[.float .f64 n3, .int .i64 0]) ∧ Below W.heap.size W w')
    (e1 : (FloatKind.f64.format.order n1 o1 != some .eq) = false) (hb1 : ∀ W : World, Calls Tryd.prog 23 #[.float .f64 o1, .float .f64 o1] W fun r w' => r = .returned (.bool true) ∧ Below W.heap.size W w')
    (K1 : Hid ((sn = false ∧ sS = { data := #[] } ∧ se = 0) ∨ (sS.toList.isEmpty = false ∧ sS.toList ≠ [] ∧ n1 = o1)))
    (e2 : (FloatKind.f64.format.order n2 o2 != some .eq) = false) (hb2 : ∀ W : World, Calls Tryd.prog 23 #[.float .f64 o2, .float .f64 o2] W fun r w' => r = .returned (.bool true) ∧ Below W.heap.size W w')
    (K2 : Hid ((pn = false ∧ pS = { data := #[] } ∧ pe = 0) ∨ (pS.toList.isEmpty = false ∧ pS.toList ≠ [] ∧ n2 = o2)))
    (e3 : (FloatKind.f64.format.order n3 o3 != some .eq) = false) (hb3 : ∀ W : World, Calls Tryd.prog 23 #[.float .f64 o3, .float .f64 o3] W fun r w' => r = .returned (.bool true) ∧ Below W.heap.size W w')
    (K3 : Hid ((tn = false ∧ tS = { data := #[] } ∧ te = 0) ∨ (tS.toList.isEmpty = false ∧ tS.toList ≠ [] ∧ n3 = o3)))
    (f1 : floatBits .add .f64 x y = some o1) (f2 : floatBits .mul .f64 x y = some o2) (f3 : ∀ W : World, (callFunc 97 #[.float .f64 x, .float .f64 y, .float .f64 z]).run Tryd.prog W = .ok (.value (.float .f64 o3)) W) :
    Calls Tryd.prog 18 #[.float .f64 x, .float .f64 y, .float .f64 z] w fun r w' => r = .returned (.bool true) ∧ Below w.heap.size w w' := by
  have haw := fun W hW => awake_any W hW
  have hall := fun Bk W h => l3all_3_on 0 0 0 Bk W h
  rw [show oks [0, 0, 0] = true from rfl] at hall
  have r1 := fun W => run_float_arith (P := Tryd.prog) W .add 25 .f64 x y o1 f1
  have r2 := fun W => run_float_arith (P := Tryd.prog) W .mul 25 .f64 x y o2 f2
  have hst := fun (a : Addr) (v : Nat) (m : Mode) (W : World) => (run_store Tryd.prog W a (.float .f64 v) m rfl : (store a (.float .f64 v) m).run Tryd.prog W = stored Tryd.prog W a (.float .f64 v) m)
  clear f1 f2
  go_enter Tryd.func18, Tryd.ntmps18
  have B0 := Below.refl w.heap.size w
  go_wp2_with fail
  (with_reducible refine (haw _ (hT.below B0)).mono ?_)
  rintro r w1 ⟨rfl, hb1⟩
  replace B0 := B0.trans (hb1.mono B0.size)
  clear hb1
  go_wp2_with fail
  (with_reducible refine (hx _ (hT.below B0)).mono ?_)
  rintro r w2 ⟨rfl, hb2⟩
  replace B0 := B0.trans (hb2.mono B0.size)
  clear hb2
  have F7 := Blk.put (w2) #[.bool an, .string aS, .int .i64 ae] 24
  replace B0 := B0.alloc B0.size (.cells #[.bool an, .string aS, .int .i64 ae] 24)
  go_wp2_with fail
  (with_reducible refine (hy _ (hT.below B0)).mono ?_)
  rintro r w3 ⟨rfl, hb3⟩
  replace F7 := F7.keep hb3
  replace B0 := B0.trans (hb3.mono B0.size)
  clear hb3
  replace F7 := F7.allocd (.cells #[.bool bn, .string bS, .int .i64 be] 24)
  have F9 := Blk.put (w3) #[.bool bn, .string bS, .int .i64 be] 24
  replace B0 := B0.alloc B0.size (.cells #[.bool bn, .string bS, .int .i64 be] 24)
  go_wp2_with fail
  (with_reducible refine (hz _ (hT.below B0)).mono ?_)
  rintro r w4 ⟨rfl, hb4⟩
  replace F7 := F7.keep hb4
  replace F9 := F9.keep hb4
  replace B0 := B0.trans (hb4.mono B0.size)
  clear hb4
  replace F7 := F7.allocd (.cells #[.bool cn, .string cS, .int .i64 ce] 24)
  replace F9 := F9.allocd (.cells #[.bool cn, .string cS, .int .i64 ce] 24)
  have F11 := Blk.put (w4) #[.bool cn, .string cS, .int .i64 ce] 24
  replace B0 := B0.alloc B0.size (.cells #[.bool cn, .string cS, .int .i64 ce] 24)
  go_wp2_with fail
  (with_reducible refine (hall _ _ (by simp)).mono ?_)
  rintro r w5 ⟨rfl, hb5⟩
  replace F7 := F7.keep hb5
  replace F9 := F9.keep hb5
  replace F11 := F11.keep hb5
  replace B0 := B0.trans (hb5.mono B0.size)
  clear hb5
  obtain ⟨xF75_0, xF75_1, xF75_2⟩ := F7.ce3
  obtain ⟨xF95_0, xF95_1, xF95_2⟩ := F9.ce3
  go_wp2_with fail
  (with_reducible refine (hs _ (hT.below B0)).mono ?_)
  rintro r w6 ⟨rfl, hb6⟩
  clear xF75_0 xF75_1 xF75_2 xF95_0 xF95_1 xF95_2
  replace F7 := F7.keep hb6
  replace F9 := F9.keep hb6
  replace F11 := F11.keep hb6
  replace B0 := B0.trans (hb6.mono B0.size)
  clear hb6
  replace F7 := F7.allocd (.cells #[.bool sn, .string sS, .int .i64 se] 24)
  replace F9 := F9.allocd (.cells #[.bool sn, .string sS, .int .i64 se] 24)
  replace F11 := F11.allocd (.cells #[.bool sn, .string sS, .int .i64 se] 24)
  have F13 := Blk.put (w6) #[.bool sn, .string sS, .int .i64 se] 24
  replace B0 := B0.alloc B0.size (.cells #[.bool sn, .string sS, .int .i64 se] 24)
  obtain ⟨xF76_0, xF76_1, xF76_2⟩ := F7.ce3
  obtain ⟨xF96_0, xF96_1, xF96_2⟩ := F9.ce3
  go_wp2_with fail
  (with_reducible refine (hp _ (hT.below B0)).mono ?_)
  rintro r w7 ⟨rfl, hb7⟩
  clear xF76_0 xF76_1 xF76_2 xF96_0 xF96_1 xF96_2
  replace F7 := F7.keep hb7
  replace F9 := F9.keep hb7
  replace F11 := F11.keep hb7
  replace F13 := F13.keep hb7
  replace B0 := B0.trans (hb7.mono B0.size)
  clear hb7
  clear F7
  clear F9
  replace F11 := F11.allocd (.cells #[.bool pn, .string pS, .int .i64 pe] 24)
  replace F13 := F13.allocd (.cells #[.bool pn, .string pS, .int .i64 pe] 24)
  have F14 := Blk.put (w7) #[.bool pn, .string pS, .int .i64 pe] 24
  replace B0 := B0.alloc B0.size (.cells #[.bool pn, .string pS, .int .i64 pe] 24)
  obtain ⟨xF147_0, xF147_1, xF147_2⟩ := F14.ce3
  obtain ⟨xF117_0, xF117_1, xF117_2⟩ := F11.ce3
  go_wp2_with fail
  (with_reducible refine (ht _ (hT.below B0)).mono ?_)
  rintro r w8 ⟨rfl, hb8⟩
  clear xF147_0 xF147_1 xF147_2 xF117_0 xF117_1 xF117_2
  replace F11 := F11.keep hb8
  replace F13 := F13.keep hb8
  replace F14 := F14.keep hb8
  replace B0 := B0.trans (hb8.mono B0.size)
  clear hb8
  clear F11
  replace F13 := F13.allocd (.cells #[.bool tn, .string tS, .int .i64 te] 24)
  replace F14 := F14.allocd (.cells #[.bool tn, .string tS, .int .i64 te] 24)
  have F15 := Blk.put (w8) #[.bool tn, .string tS, .int .i64 te] 24
  replace B0 := B0.alloc B0.size (.cells #[.bool tn, .string tS, .int .i64 te] 24)
  go_wp2_with fail
  (with_reducible refine (hall _ _ (by simp)).mono ?_)
  rintro r w9 ⟨rfl, hb9⟩
  replace F13 := F13.keep hb9
  replace F14 := F14.keep hb9
  replace F15 := F15.keep hb9
  replace B0 := B0.trans (hb9.mono B0.size)
  clear hb9
  obtain ⟨xF139_0, xF139_1, xF139_2⟩ := F13.ce3
  obtain ⟨xF149_0, xF149_1, xF149_2⟩ := F14.ce3
  obtain ⟨xF159_0, xF159_1, xF159_2⟩ := F15.ce3
  replace F13 := F13.allocd (.cells #[.bool sn, .string sS, .int .i64 se, .bool pn, .string pS, .int .i64 pe, .bool tn, .string tS, .int .i64 te] 105)
  replace F14 := F14.allocd (.cells #[.bool sn, .string sS, .int .i64 se, .bool pn, .string pS, .int .i64 pe, .bool tn, .string tS, .int .i64 te] 105)
  replace F15 := F15.allocd (.cells #[.bool sn, .string sS, .int .i64 se, .bool pn, .string pS, .int .i64 pe, .bool tn, .string tS, .int .i64 te] 105)
  have F19 := Blk.put (w9) #[.bool sn, .string sS, .int .i64 se, .bool pn, .string pS, .int .i64 pe, .bool tn, .string tS, .int .i64 te] 105
  replace B0 := B0.alloc B0.size (.cells #[.bool sn, .string sS, .int .i64 se, .bool pn, .string pS, .int .i64 pe, .bool tn, .string tS, .int .i64 te] 105)
  replace F13 := F13.allocd (.cells #[.float .f64 o1, .float .f64 o2, .float .f64 o3] 106)
  replace F14 := F14.allocd (.cells #[.float .f64 o1, .float .f64 o2, .float .f64 o3] 106)
  replace F15 := F15.allocd (.cells #[.float .f64 o1, .float .f64 o2, .float .f64 o3] 106)
  replace F19 := F19.allocd (.cells #[.float .f64 o1, .float .f64 o2, .float .f64 o3] 106)
  have F20 := Blk.put ((w9).alloc (.cells #[.bool sn, .string sS, .int .i64 se, .bool pn, .string pS, .int .i64 pe, .bool tn, .string tS, .int .i64 te] 105)) #[.float .f64 o1, .float .f64 o2, .float .f64 o3] 106
  rw [show ((w9).alloc (.cells #[.bool sn, .string sS, .int .i64 se, .bool pn, .string pS, .int .i64 pe, .bool tn, .string tS, .int .i64 te] 105)).heap.size = w9.heap.size + 1 by simp] at F20
  replace B0 := B0.alloc B0.size (.cells #[.float .f64 o1, .float .f64 o2, .float .f64 o3] 106)
  go_wp2_with fail
  clear xF139_0 xF139_1 xF139_2 xF149_0 xF149_1 xF149_2 xF159_0 xF159_1 xF159_2
  go_loopg [21] 3 (fun gh s21 wr => ∃ k : Int, ((k = 0 ∧ gh = 3) ∨ (k = 1 ∧ gh = 2) ∨ (k = 2 ∧ gh = 1) ∨ (k = 3 ∧ gh = 0)) ∧ s21 = .int .i64 k ∧ Blk wr (w9.heap.size) #[.bool sn, .string sS, .int .i64 se, .bool pn, .string pS, .int .i64 pe, .bool tn, .string tS, .int .i64 te] 105 ∧ Blk wr (w9.heap.size + 1) #[.float .f64 o1, .float .f64 o2, .float .f64 o3] 106 ∧ Below w.heap.size w wr)
  case atStart => exact ⟨0, .inl ⟨rfl, rfl⟩, rfl, F19, F20, B0⟩
  case round =>
    clear F19 F20 B0
    obtain ⟨k, hk, rfl, F19, F20, B0⟩ := hrel
    rcases hk with ⟨rfl, rfl⟩ | ⟨rfl, rfl⟩ | ⟨rfl, rfl⟩ | ⟨rfl, rfl⟩
    · rcases K1.out with ⟨rfl, rfl, rfl⟩ | ⟨i1, i2, rfl⟩
      · clear K1 K2 K3
        obtain ⟨xF1950_0, xF1950_1, xF1950_2, xF1950_3, xF1950_4, xF1950_5, xF1950_6, xF1950_7, xF1950_8⟩ := F19.ce9
        go_wp2_with fail
        (with_reducible refine (hn1 _ (hT.below B0)).mono ?_)
        rintro r w21 ⟨rfl, hb21⟩
        clear xF1950_0 xF1950_1 xF1950_2 xF1950_3 xF1950_4 xF1950_5 xF1950_6 xF1950_7 xF1950_8
        replace F19 := F19.keep hb21
        replace F20 := F20.keep hb21
        replace B0 := B0.trans (hb21.mono B0.size)
        clear hb21
        obtain ⟨xF2051_0, xF2051_1, xF2051_2⟩ := F20.ce3
        obtain ⟨xF1951_0, xF1951_1, xF1951_2, xF1951_3, xF1951_4, xF1951_5, xF1951_6, xF1951_7, xF1951_8⟩ := F19.ce9
        go_wp2
        go_roundg 2
        case measure => omega
        case rel => exact ⟨1, by simp, by go_num, F19, F20, B0⟩
      · clear K1 K2 K3
        obtain ⟨xF1950_0, xF1950_1, xF1950_2, xF1950_3, xF1950_4, xF1950_5, xF1950_6, xF1950_7, xF1950_8⟩ := F19.ce9
        go_wp2_with fail
        (with_reducible refine (hn1 _ (hT.below B0)).mono ?_)
        rintro r w21 ⟨rfl, hb21⟩
        clear xF1950_0 xF1950_1 xF1950_2 xF1950_3 xF1950_4 xF1950_5 xF1950_6 xF1950_7 xF1950_8
        replace F19 := F19.keep hb21
        replace F20 := F20.keep hb21
        replace B0 := B0.trans (hb21.mono B0.size)
        clear hb21
        obtain ⟨xF2051_0, xF2051_1, xF2051_2⟩ := F20.ce3
        obtain ⟨xF1951_0, xF1951_1, xF1951_2, xF1951_3, xF1951_4, xF1951_5, xF1951_6, xF1951_7, xF1951_8⟩ := F19.ce9
        go_wp2_with fail
        (with_reducible refine (hb1 _).mono ?_)
        rintro r w22 ⟨rfl, hb22⟩
        clear xF2051_0 xF2051_1 xF2051_2 xF1951_0 xF1951_1 xF1951_2 xF1951_3 xF1951_4 xF1951_5 xF1951_6 xF1951_7 xF1951_8
        replace F19 := F19.keep hb22
        replace F20 := F20.keep hb22
        replace B0 := B0.trans (hb22.mono B0.size)
        clear hb22
        go_wp2
        go_roundg 2
        case measure => omega
        case rel => exact ⟨1, by simp, by go_num, F19, F20, B0⟩
    · rcases K2.out with ⟨rfl, rfl, rfl⟩ | ⟨i1, i2, rfl⟩
      · clear K1 K2 K3
        obtain ⟨xF1950_0, xF1950_1, xF1950_2, xF1950_3, xF1950_4, xF1950_5, xF1950_6, xF1950_7, xF1950_8⟩ := F19.ce9
        go_wp2_with fail
        (with_reducible refine (hn2 _ (hT.below B0)).mono ?_)
        rintro r w21 ⟨rfl, hb21⟩
        clear xF1950_0 xF1950_1 xF1950_2 xF1950_3 xF1950_4 xF1950_5 xF1950_6 xF1950_7 xF1950_8
        replace F19 := F19.keep hb21
        replace F20 := F20.keep hb21
        replace B0 := B0.trans (hb21.mono B0.size)
        clear hb21
        obtain ⟨xF2051_0, xF2051_1, xF2051_2⟩ := F20.ce3
        obtain ⟨xF1951_0, xF1951_1, xF1951_2, xF1951_3, xF1951_4, xF1951_5, xF1951_6, xF1951_7, xF1951_8⟩ := F19.ce9
        go_wp2
        go_roundg 1
        case measure => omega
        case rel => exact ⟨2, by simp, by go_num, F19, F20, B0⟩
      · clear K1 K2 K3
        obtain ⟨xF1950_0, xF1950_1, xF1950_2, xF1950_3, xF1950_4, xF1950_5, xF1950_6, xF1950_7, xF1950_8⟩ := F19.ce9
        go_wp2_with fail
        (with_reducible refine (hn2 _ (hT.below B0)).mono ?_)
        rintro r w21 ⟨rfl, hb21⟩
        clear xF1950_0 xF1950_1 xF1950_2 xF1950_3 xF1950_4 xF1950_5 xF1950_6 xF1950_7 xF1950_8
        replace F19 := F19.keep hb21
        replace F20 := F20.keep hb21
        replace B0 := B0.trans (hb21.mono B0.size)
        clear hb21
        obtain ⟨xF2051_0, xF2051_1, xF2051_2⟩ := F20.ce3
        obtain ⟨xF1951_0, xF1951_1, xF1951_2, xF1951_3, xF1951_4, xF1951_5, xF1951_6, xF1951_7, xF1951_8⟩ := F19.ce9
        go_wp2_with fail
        (with_reducible refine (hb2 _).mono ?_)
        rintro r w22 ⟨rfl, hb22⟩
        clear xF2051_0 xF2051_1 xF2051_2 xF1951_0 xF1951_1 xF1951_2 xF1951_3 xF1951_4 xF1951_5 xF1951_6 xF1951_7 xF1951_8
        replace F19 := F19.keep hb22
        replace F20 := F20.keep hb22
        replace B0 := B0.trans (hb22.mono B0.size)
        clear hb22
        go_wp2
        go_roundg 1
        case measure => omega
        case rel => exact ⟨2, by simp, by go_num, F19, F20, B0⟩
    · rcases K3.out with ⟨rfl, rfl, rfl⟩ | ⟨i1, i2, rfl⟩
      · clear K1 K2 K3
        obtain ⟨xF1950_0, xF1950_1, xF1950_2, xF1950_3, xF1950_4, xF1950_5, xF1950_6, xF1950_7, xF1950_8⟩ := F19.ce9
        go_wp2_with fail
        (with_reducible refine (hn3 _ (hT.below B0)).mono ?_)
        rintro r w21 ⟨rfl, hb21⟩
        clear xF1950_0 xF1950_1 xF1950_2 xF1950_3 xF1950_4 xF1950_5 xF1950_6 xF1950_7 xF1950_8
        replace F19 := F19.keep hb21
        replace F20 := F20.keep hb21
        replace B0 := B0.trans (hb21.mono B0.size)
        clear hb21
        obtain ⟨xF2051_0, xF2051_1, xF2051_2⟩ := F20.ce3
        obtain ⟨xF1951_0, xF1951_1, xF1951_2, xF1951_3, xF1951_4, xF1951_5, xF1951_6, xF1951_7, xF1951_8⟩ := F19.ce9
        go_wp2
        go_roundg 0
        case measure => omega
        case rel => exact ⟨3, by simp, by go_num, F19, F20, B0⟩
      · clear K1 K2 K3
        obtain ⟨xF1950_0, xF1950_1, xF1950_2, xF1950_3, xF1950_4, xF1950_5, xF1950_6, xF1950_7, xF1950_8⟩ := F19.ce9
        go_wp2_with fail
        (with_reducible refine (hn3 _ (hT.below B0)).mono ?_)
        rintro r w21 ⟨rfl, hb21⟩
        clear xF1950_0 xF1950_1 xF1950_2 xF1950_3 xF1950_4 xF1950_5 xF1950_6 xF1950_7 xF1950_8
        replace F19 := F19.keep hb21
        replace F20 := F20.keep hb21
        replace B0 := B0.trans (hb21.mono B0.size)
        clear hb21
        obtain ⟨xF2051_0, xF2051_1, xF2051_2⟩ := F20.ce3
        obtain ⟨xF1951_0, xF1951_1, xF1951_2, xF1951_3, xF1951_4, xF1951_5, xF1951_6, xF1951_7, xF1951_8⟩ := F19.ce9
        go_wp2_with fail
        (with_reducible refine (hb3 _).mono ?_)
        rintro r w22 ⟨rfl, hb22⟩
        clear xF2051_0 xF2051_1 xF2051_2 xF1951_0 xF1951_1 xF1951_2 xF1951_3 xF1951_4 xF1951_5 xF1951_6 xF1951_7 xF1951_8
        replace F19 := F19.keep hb22
        replace F20 := F20.keep hb22
        replace B0 := B0.trans (hb22.mono B0.size)
        clear hb22
        go_wp2
        go_roundg 0
        case measure => omega
        case rel => exact ⟨3, by simp, by go_num, F19, F20, B0⟩
    · clear K1 K2 K3
      go_wp2
      go_ret
      exact ⟨rfl, B0⟩

theorem goes_k {d : DY} {o : Nat} (h : Goes d o) : Hid ((d.n = false ∧ bstr d.x = { data := #[] } ∧ d.e = 0) ∨ ((bstr d.x).toList.isEmpty = false ∧ (bstr d.x).toList ≠ [] ∧ nearF d.n d.x d.e = o)) := Lib.hid (by
  by_cases hx : d.x = 0
  · left
    have hk : okD d.n d.x d.e := h.ok
    rw [hx] at hk
    obtain ⟨k1, k2⟩ := hk.nil
    exact ⟨k1, by rw [hx, bstr_zero], k2⟩
  · right
    obtain ⟨k1, k2⟩ := bstr_ne hx
    exact ⟨k1, k2, h.same hx⟩)
theorem goes_e {d : DY} {o : Nat} (h : Goes d o) : (FloatKind.f64.format.order (nearF d.n d.x d.e) o != some .eq) = false := by
  rw [ord_ne (nearF_ok (n := d.n) h.ok).1 h.fr, h.fk, decide_eq_true rfl]; rfl
theorem goes_b {d : DY} {o : Nat} (h : Goes d o) (W : World) : Calls Tryd.prog 23 #[.float .f64 o, .float .f64 o] W fun r w' => r = .returned (.bool true) ∧ Below W.heap.size W w' := by
  have := cbits o o W h.fr
  rw [decide_eq_true rfl] at this; exact this
theorem dyadGo_any (x y z : Nat) (w : World) (hT : Tab w) (hx : x < 18446744073709551616) (hy : y < 18446744073709551616) (hz : z < 18446744073709551616) :
    Calls Tryd.prog 18 #[.float .f64 x, .float .f64 y, .float .f64 z] w fun r w' => r = .returned (.bool true) ∧ Below w.heap.size w w' := by
  have h1 := fun W hW => cfloat x W hx hW
  have h2 := fun W hW => cfloat y W hy hW
  have h3 := fun W hW => cfloat z W hz hW
  cases hk : oks [flR x, flR y, flR z]
  · exact go_none x y z w _ _ _ _ _ _ _ _ _ _ _ _ hT hk h1 h2 h3
  · simp only [oks, List.all_cons, List.all_nil, Bool.and_eq_true, beq_iff_eq, Bool.and_true] at hk
    obtain ⟨e1, e2, e3⟩ := hk
    have q1 := flR_ok e1
    have q2 := flR_ok e2
    have q3 := flR_ok e3
    obtain ⟨r1, r2, r3, ⟨o1, a1, g1⟩, ⟨o2, a2, g2⟩, ⟨o3, a3, g3⟩⟩ := go_three q1 q2 q3
    have hs := fun W hW => cadd (flY x) (flY y) W (flY_ok x) (flY_ok y) hW
    have hp := fun W hW => cmul (flY x) (flY y) W (flY_ok x) (flY_ok y) hW
    have ht := fun W hW => cadd (yMul (flY x) (flY y)).1 (flY z) W (yMul_ok _ _) (flY_ok z) hW
    rw [r1] at hs
    rw [r2] at hp
    rw [r3] at ht
    rw [e1, flZ_ok q1] at h1
    rw [e2, flZ_ok q2] at h2
    rw [e3, flZ_ok q3] at h3
    exact go_all x y z w _ _ _ _ _ _ _ _ _ _ _ _ _ _ _ _ _ _ _ _ _ o1 o2 o3 hT h1 h2 h3 hs hp ht
      (fun W hW => dnear_ok _ _ _ W g1.ok hW) (fun W hW => dnear_ok _ _ _ W g2.ok hW) (fun W hW => dnear_ok _ _ _ W g3.ok hW)
      (goes_e g1) (goes_b g1) (goes_k g1) (goes_e g2) (goes_b g2) (goes_k g2) (goes_e g3) (goes_b g3) (goes_k g3) a1 a2 (run_fma a3)
end Go.Proofs.YtgcifpjhhoalmaaDoor
