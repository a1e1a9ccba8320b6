/- view.Cover at every square that may be. -/
import Derived.Test.YtppebjnmollojaaDoorQR
import Derived.Test.YtppebjnmollojaaDoorQA
import Derived.Test.YtppebjnmollojaaDoorV2
namespace Go.Proofs.YtppebjnmollojaaDoor
open Go Go.RowKit Go.PlainAid Fil


set_option maxRecDepth 100000 in
set_option maxHeartbeats 8000000 in
theorem gcomplex_f (x y : Nat) (ex ey : Int) (pn : Bool) (pS : ByteArray) (pe : Int) (qn : Bool) (qS : ByteArray) (qe : Int) (w : World) (h1 : ∀ W : World, Tab W → Calls Tryd.prog 23 #[.float .f64 x] W fun r w' => r = .returned (.tuple #[.agg #[.bool pn, .string pS, .int .i64 pe], .int .i64 ex]) ∧ Below W.heap.size W w') (h2 : ∀ W : World, Tab W → Calls Tryd.prog 23 #[.float .f64 y] W fun r w' => r = .returned (.tuple #[.agg #[.bool qn, .string qS, .int .i64 qe], .int .i64 ey]) ∧ Below W.heap.size W w') (hx : ex ≠ 0 ∨ (ex = 0 ∧ ey ≠ 0)) (hT : Tab w) :
    Calls Tryd.prog 22 #[.complex .f64 x y] w fun r w' => r = .returned (.tuple #[.agg #[.bool false, .string { data := #[] }, .int .i64 0, .bool false, .string { data := #[] }, .int .i64 0], .int .i64 5]) ∧ Below w.heap.size w w' := by
  go_enter Tryd.func22, Tryd.ntmps22
  have B0 := Below.refl w.heap.size w
  have q_w_F2 : Hid (w.heap.size ≤ w.heap.size) := Lib.hid (by omega)
  have F2 := Blk.put (w) #[.bool false, .string { data := #[] }, .int .i64 0, .bool false, .string { data := #[] }, .int .i64 0] 27
  replace B0 := B0.alloc B0.size (.cells #[.bool false, .string { data := #[] }, .int .i64 0, .bool false, .string { data := #[] }, .int .i64 0] 27)
  go_wp2_with fail
  (with_reducible refine (h1 _ (hT.below B0)).mono ?_)
  rintro r w1 ⟨rfl, hb1⟩
  replace F2 := F2.keep hb1
  replace B0 := B0.trans (hb1.mono B0.size)
  clear hb1
  replace F2 := F2.allocd (.cells #[.bool pn, .string pS, .int .i64 pe] 25)
  replace B0 := B0.alloc B0.size (.cells #[.bool pn, .string pS, .int .i64 pe] 25)
  go_wp2_with fail
  (with_reducible refine (h2 _ (hT.below B0)).mono ?_)
  rintro r w2 ⟨rfl, hb2⟩
  replace F2 := F2.keep hb2
  replace B0 := B0.trans (hb2.mono B0.size)
  clear hb2
  replace F2 := F2.allocd (.cells #[.bool qn, .string qS, .int .i64 qe] 25)
  replace B0 := B0.alloc B0.size (.cells #[.bool qn, .string qS, .int .i64 qe] 25)
  rcases hx with h | ⟨rfl, h⟩
  · have g2 : (ex != 0) = true := by simpa using h
    clear h
    obtain ⟨xF22_0, xF22_1, xF22_2, xF22_3, xF22_4, xF22_5⟩ := F2.ce6
    obtain ⟨xF22_0f, xF22_1f, xF22_2f, xF22_3f, xF22_4f, xF22_5f⟩ := F2.fr6
    replace F2 : Blk ((((((((w2).alloc (.cells #[.bool qn, .string qS, .int .i64 qe] 25)).setCell ⟨w.heap.size, 0, none⟩ (.bool false)).setCell ⟨w.heap.size, 1, none⟩ (.string { data := #[] })).setCell ⟨w.heap.size, 2, none⟩ (.int .i64 0)).setCell ⟨w.heap.size, 3, none⟩ (.bool false)).setCell ⟨w.heap.size, 4, none⟩ (.string { data := #[] })).setCell ⟨w.heap.size, 5, none⟩ (.int .i64 0)) (w.heap.size) #[.bool false, .string { data := #[] }, .int .i64 0, .bool false, .string { data := #[] }, .int .i64 0] 27 := ((((((F2.setAt 0 (.bool false)).setAt 1 (.string { data := #[] })).setAt 2 (.int .i64 0)).setAt 3 (.bool false)).setAt 4 (.string { data := #[] })).setAt 5 (.int .i64 0))
    replace B0 := ((((((B0.setCell (p := ⟨w.heap.size, 0, none⟩) q_w_F2.out (.bool false)).setCell (p := ⟨w.heap.size, 1, none⟩) q_w_F2.out (.string { data := #[] })).setCell (p := ⟨w.heap.size, 2, none⟩) q_w_F2.out (.int .i64 0)).setCell (p := ⟨w.heap.size, 3, none⟩) q_w_F2.out (.bool false)).setCell (p := ⟨w.heap.size, 4, none⟩) q_w_F2.out (.string { data := #[] })).setCell (p := ⟨w.heap.size, 5, none⟩) q_w_F2.out (.int .i64 0))
    obtain ⟨xF23_0, xF23_1, xF23_2, xF23_3, xF23_4, xF23_5⟩ := F2.ce6
    go_wp2
    exact bodyPost_ret (v := .tuple #[.agg #[.bool false, .string { data := #[] }, .int .i64 0, .bool false, .string { data := #[] }, .int .i64 0], .int .i64 5]) (by simp [results, Tryd.results22, go_sem, xF23_0, xF23_1, xF23_2, xF23_3, xF23_4, xF23_5]) rfl ⟨rfl, B0⟩
  · have g2 : (ey != 0) = true := by simpa using h
    clear h
    obtain ⟨xF22_0, xF22_1, xF22_2, xF22_3, xF22_4, xF22_5⟩ := F2.ce6
    obtain ⟨xF22_0f, xF22_1f, xF22_2f, xF22_3f, xF22_4f, xF22_5f⟩ := F2.fr6
    replace F2 : Blk ((((((((w2).alloc (.cells #[.bool qn, .string qS, .int .i64 qe] 25)).setCell ⟨w.heap.size, 0, none⟩ (.bool false)).setCell ⟨w.heap.size, 1, none⟩ (.string { data := #[] })).setCell ⟨w.heap.size, 2, none⟩ (.int .i64 0)).setCell ⟨w.heap.size, 3, none⟩ (.bool false)).setCell ⟨w.heap.size, 4, none⟩ (.string { data := #[] })).setCell ⟨w.heap.size, 5, none⟩ (.int .i64 0)) (w.heap.size) #[.bool false, .string { data := #[] }, .int .i64 0, .bool false, .string { data := #[] }, .int .i64 0] 27 := ((((((F2.setAt 0 (.bool false)).setAt 1 (.string { data := #[] })).setAt 2 (.int .i64 0)).setAt 3 (.bool false)).setAt 4 (.string { data := #[] })).setAt 5 (.int .i64 0))
    replace B0 := ((((((B0.setCell (p := ⟨w.heap.size, 0, none⟩) q_w_F2.out (.bool false)).setCell (p := ⟨w.heap.size, 1, none⟩) q_w_F2.out (.string { data := #[] })).setCell (p := ⟨w.heap.size, 2, none⟩) q_w_F2.out (.int .i64 0)).setCell (p := ⟨w.heap.size, 3, none⟩) q_w_F2.out (.bool false)).setCell (p := ⟨w.heap.size, 4, none⟩) q_w_F2.out (.string { data := #[] })).setCell (p := ⟨w.heap.size, 5, none⟩) q_w_F2.out (.int .i64 0))
    obtain ⟨xF23_0, xF23_1, xF23_2, xF23_3, xF23_4, xF23_5⟩ := F2.ce6
    go_wp2
    exact bodyPost_ret (v := .tuple #[.agg #[.bool false, .string { data := #[] }, .int .i64 0, .bool false, .string { data := #[] }, .int .i64 0], .int .i64 5]) (by simp [results, Tryd.results22, go_sem, xF23_0, xF23_1, xF23_2, xF23_3, xF23_4, xF23_5]) rfl ⟨rfl, B0⟩

theorem cfl_bad (b : Nat) (w : World) (hb : b < 18446744073709551616) (h : flQ b = 2047) :
    Calls Tryd.prog 23 #[.float .f64 b] w fun r w' => r = .returned (.tuple #[.agg #[.bool false, .string { data := #[] }, .int .i64 0], .int .i64 5]) ∧ Below w.heap.size w w' := by
  have k := dfloat_bad b w hb h
  rw [show dyR false 0 0 5 = .tuple #[.agg #[.bool false, .string (bstr 0), .int .i64 0], .int .i64 5] from rfl, bstr_zero] at k
  exact k
theorem cfl_ex (b : Nat) (hb : b < 18446744073709551616) : ∃ (n : Bool) (s : ByteArray) (f : Int) (e : Int), (flQ b ≠ 2047 → e = 0) ∧ (flQ b = 2047 → e = 5) ∧ ∀ W : World, Tab W → Calls Tryd.prog 23 #[.float .f64 b] W fun r w' => r = .returned (.tuple #[.agg #[.bool n, .string s, .int .i64 f], .int .i64 e]) ∧ Below W.heap.size W w' := by
  by_cases h : flQ b = 2047
  · exact ⟨_, _, _, _, fun k => absurd h k, fun _ => rfl, fun W _ => cfl_bad b W hb h⟩
  · exact ⟨_, _, _, _, fun _ => rfl, fun k => absurd k h, fun W hW => cfl b W hb h hW⟩
theorem gcomplex_bad (x y : Nat) (hx : x < 18446744073709551616) (hy : y < 18446744073709551616) (h : flQ x = 2047 ∨ flQ y = 2047) (w : World) (hT : Tab w) :
    Calls Tryd.prog 22 #[.complex .f64 x y] w fun r w' => r = .returned (.tuple #[.agg #[.bool false, .string { data := #[] }, .int .i64 0, .bool false, .string { data := #[] }, .int .i64 0], .int .i64 5]) ∧ Below w.heap.size w w' := by
  obtain ⟨_, _, _, ex, a1, a2, h1⟩ := cfl_ex x hx
  obtain ⟨_, _, _, ey, b1, b2, h2⟩ := cfl_ex y hy
  refine gcomplex_f x y ex ey _ _ _ _ _ _ w h1 h2 ?_ hT
  by_cases k : flQ x = 2047
  · have := a2 k; exact .inl (by omega)
  · have := a1 k
    rcases h with h | h
    · exact absurd h k
    · have := b2 h; exact .inr ⟨by omega, by omega⟩
theorem max_step (N U : DY) (hN : N.ok) (hU : U.ok) : ∃ V : DY, V.ok ∧ N.v ≤ V.v ∧ U.v ≤ V.v ∧ (V = N ∨ V = U) ∧
    ((0 < yCmp N U ∧ N.n = V.n ∧ bstr N.x = bstr V.x ∧ N.e = V.e) ∨ (¬ 0 < yCmp N U ∧ U.n = V.n ∧ bstr U.x = bstr V.x ∧ U.e = V.e)) := by
  by_cases h : 0 < yCmp N U
  · have := yCmp_gt.1 h
    exact ⟨N, hN, by omega, by omega, .inl rfl, .inl ⟨h, rfl, rfl, rfl⟩⟩
  · have : ¬ U.v < N.v := fun k => h (yCmp_gt.2 k)
    exact ⟨U, hU, by omega, by omega, .inr rfl, .inr ⟨h, rfl, rfl, rfl⟩⟩

theorem gNorm_z (a : GY) : (gNorm a).2 = 0 ∨ gNorm a = (DY.zero, 4) := yTwo_e _ _ _ _ _
/-- a corner's squared distance is worked out, and at most U -/
def cvK (c Z : GY) (U : DY) : Prop := (gSub c Z).2 = 0 ∧ (gNorm (gSub c Z).1).2 = 0 ∧ (gNorm (gSub c Z).1).1.v ≤ U.v

theorem cover_any (l b : DY) (e : Int) (okl : l.ok) (okb : b.ok) (e1 : -4096 ≤ e) (e2 : e ≤ 4096) :
    (∃ er : Int, er ≠ 0 ∧ (∀ W : World, Tab W → Calls Tryd.prog 20 #[.agg #[.bool l.n, .string (bstr l.x), .int .i64 l.e, .bool b.n, .string (bstr b.x), .int .i64 b.e, .int .i64 e]] W fun r w' => r = .returned (.tuple #[.agg #[.complex .f64 0 0, .float .f64 0], .int .i64 er]) ∧ Below W.heap.size W w')) ∨
    (∃ (x y : Nat) (U : DY), (flQ x ≠ 2047 ∧ flQ y ≠ 2047 ∧ x < 18446744073709551616 ∧ y < 18446744073709551616 ∧ (vM l 2 (e - 1)).2 = 0 ∧ (vM b 2 (e - 1)).2 = 0 ∧ U.ok ∧ rpB U 9218868437227405311 = true ∧ cvK (⟨l, b⟩ : GY) (⟨flY x, flY y⟩ : GY) U ∧ cvK (⟨(vM l 2 (e - 1)).1, b⟩ : GY) (⟨flY x, flY y⟩ : GY) U ∧ cvK (⟨l, (vM b 2 (e - 1)).1⟩ : GY) (⟨flY x, flY y⟩ : GY) U ∧ cvK (⟨(vM l 2 (e - 1)).1, (vM b 2 (e - 1)).1⟩ : GY) (⟨flY x, flY y⟩ : GY) U ∧ (U = DY.zero ∨ U = (gNorm (gSub (⟨l, b⟩ : GY) (⟨flY x, flY y⟩ : GY)).1).1 ∨ U = (gNorm (gSub (⟨(vM l 2 (e - 1)).1, b⟩ : GY) (⟨flY x, flY y⟩ : GY)).1).1 ∨ U = (gNorm (gSub (⟨l, (vM b 2 (e - 1)).1⟩ : GY) (⟨flY x, flY y⟩ : GY)).1).1 ∨ U = (gNorm (gSub (⟨(vM l 2 (e - 1)).1, (vM b 2 (e - 1)).1⟩ : GY) (⟨flY x, flY y⟩ : GY)).1).1)) ∧ (∀ W : World, Tab W → Calls Tryd.prog 20 #[.agg #[.bool l.n, .string (bstr l.x), .int .i64 l.e, .bool b.n, .string (bstr b.x), .int .i64 b.e, .int .i64 e]] W fun r w' => r = .returned (.tuple #[.agg #[.complex .f64 x y, .float .f64 (lst (rpB U) 9218868437227405311 : Nat)], .int .i64 0]) ∧ Below W.heap.size W w')) := by
  by_cases hp : (vM l 2 (e - 1)).2 = 0
  rotate_left
  · have hE := fun W hW => vcorners_1 l b e W okl okb e1 e2 hp hW
    exact .inl ⟨4, by decide, fun W hW => cover_main e 4 4 0 0 0 0 0 0 0 0 0 0 0 0 0 0 false 0 0 0 0 0 0 _ _ _ _ _ _ false { data := #[] } 0 false { data := #[] } 0 false { data := #[] } 0 false { data := #[] } 0 false { data := #[] } 0 false { data := #[] } 0 false { data := #[] } 0 false { data := #[] } 0 false { data := #[] } 0 false { data := #[] } 0 false { data := #[] } 0 false { data := #[] } 0 false { data := #[] } 0 false { data := #[] } 0 false { data := #[] } 0 false { data := #[] } 0 false { data := #[] } 0 false { data := #[] } 0 false { data := #[] } 0 false { data := #[] } 0 false { data := #[] } 0 false { data := #[] } 0 False False False False False W (fun W => vright_ok l b e W okl okb e1 e2) (.inl ⟨by decide, rfl, rfl, rfl, rfl, hE⟩) (fun h => h.elim) (fun h => h.elim) (fun h => h.elim) (fun h => h.elim) (fun h => h.elim) hW⟩
  by_cases hq : (vM b 2 (e - 1)).2 = 0
  rotate_left
  · have hE := fun W hW => vcorners_2 l b e _ rfl W okl okb e1 e2 hp hq hW
    exact .inl ⟨4, by decide, fun W hW => cover_main e 4 4 0 0 0 0 0 0 0 0 0 0 0 0 0 0 false 0 0 0 0 0 0 _ _ _ _ _ _ false { data := #[] } 0 false { data := #[] } 0 false { data := #[] } 0 false { data := #[] } 0 false { data := #[] } 0 false { data := #[] } 0 false { data := #[] } 0 false { data := #[] } 0 false { data := #[] } 0 false { data := #[] } 0 false { data := #[] } 0 false { data := #[] } 0 false { data := #[] } 0 false { data := #[] } 0 false { data := #[] } 0 false { data := #[] } 0 false { data := #[] } 0 false { data := #[] } 0 false { data := #[] } 0 false { data := #[] } 0 false { data := #[] } 0 false { data := #[] } 0 False False False False False W (fun W => vright_ok l b e W okl okb e1 e2) (.inl ⟨by decide, rfl, rfl, rfl, rfl, hE⟩) (fun h => h.elim) (fun h => h.elim) (fun h => h.elim) (fun h => h.elim) (fun h => h.elim) hW⟩
  have hC := fun W hW => vcorners_0 l b e _ _ rfl rfl W okl okb e1 e2 hp hq hW
  have okp := vM_ok l 2 (e - 1)
  have okq := vM_ok b 2 (e - 1)
  obtain ⟨p, hpe⟩ : ∃ p, (vM l 2 (e - 1)).1 = p := ⟨_, rfl⟩
  obtain ⟨q, hqe⟩ : ∃ q, (vM b 2 (e - 1)).1 = q := ⟨_, rfl⟩
  rw [hpe] at hC okp
  rw [hqe] at hC okq
  have hM := fun W hW => vmiddle ⟨l, b, e⟩ W ⟨okl, okb, e1, e2⟩ hW
  by_cases hm : (vM l 1 (e - 1)).2 = 0 ∧ (vM b 1 (e - 1)).2 = 0
  rotate_left
  · have hE := hM
    rw [show sqMid ⟨l, b, e⟩ = (GY.zero, 4) from gB_no hm, show bstr GY.zero.re.x = { data := #[] } from bstr_zero, show bstr GY.zero.im.x = { data := #[] } from bstr_zero] at hE
    exact .inl ⟨4, by decide, fun W hW => cover_main e 4 0 4 0 0 0 0 0 0 0 0 0 0 0 0 0 false 0 0 0 0 0 0 _ _ _ _ _ _ _ _ _ _ _ _ false { data := #[] } 0 false { data := #[] } 0 false { data := #[] } 0 false { data := #[] } 0 false { data := #[] } 0 false { data := #[] } 0 false { data := #[] } 0 false { data := #[] } 0 false { data := #[] } 0 false { data := #[] } 0 false { data := #[] } 0 false { data := #[] } 0 false { data := #[] } 0 false { data := #[] } 0 false { data := #[] } 0 false { data := #[] } 0 false { data := #[] } 0 false { data := #[] } 0 false { data := #[] } 0 false { data := #[] } 0 False False False False False W (fun W => vright_ok l b e W okl okb e1 e2) (.inr ⟨hC, .inl ⟨by decide, rfl, rfl, rfl, rfl, hE⟩⟩) (fun h => h.elim) (fun h => h.elim) (fun h => h.elim) (fun h => h.elim) (fun h => h.elim) hW⟩
  rw [show sqMid ⟨l, b, e⟩ = (⟨(vM l 1 (e - 1)).1, (vM b 1 (e - 1)).1⟩, 0) from gB_yes hm.1 hm.2] at hM
  have okM : (⟨(vM l 1 (e - 1)).1, (vM b 1 (e - 1)).1⟩ : GY).ok := ⟨vM_ok _ _ _, vM_ok _ _ _⟩
  generalize (⟨(vM l 1 (e - 1)).1, (vM b 1 (e - 1)).1⟩ : GY) = M at *
  have hn := fun W hW => gnear_w M _ _ rfl rfl W okM hW
  have fx := nearF_ok (n := M.re.n) (x := M.re.x) (e := M.re.e) okM.1
  have fy := nearF_ok (n := M.im.n) (x := M.im.x) (e := M.im.e) okM.2
  generalize nearF M.re.n M.re.x M.re.e = x at *
  generalize nearF M.im.n M.im.x M.im.e = y at *
  by_cases hxy : flQ x = 2047 ∨ flQ y = 2047
  · have hE := fun W hW => gcomplex_bad x y fx.2 fy.2 hxy W hW
    exact .inl ⟨5, by decide, fun W hW => cover_main e 5 0 0 5 0 0 0 0 0 0 0 0 0 0 0 0 false x y 0 0 0 0 _ _ _ _ _ _ _ _ _ _ _ _ _ _ _ _ _ _ false { data := #[] } 0 false { data := #[] } 0 false { data := #[] } 0 false { data := #[] } 0 false { data := #[] } 0 false { data := #[] } 0 false { data := #[] } 0 false { data := #[] } 0 false { data := #[] } 0 false { data := #[] } 0 false { data := #[] } 0 false { data := #[] } 0 false { data := #[] } 0 false { data := #[] } 0 false { data := #[] } 0 false { data := #[] } 0 false { data := #[] } 0 false { data := #[] } 0 False False False False False W (fun W => vright_ok l b e W okl okb e1 e2) (.inr ⟨hC, .inr ⟨hM, hn, .inl ⟨by decide, rfl, rfl, rfl, rfl, hE⟩⟩⟩) (fun h => h.elim) (fun h => h.elim) (fun h => h.elim) (fun h => h.elim) (fun h => h.elim) hW⟩
  have hx2 : flQ x ≠ 2047 := fun h => hxy (.inl h)
  have hy2 : flQ y ≠ 2047 := fun h => hxy (.inr h)
  have hZ := fun W hW => gcomplex_w x y _ _ rfl rfl W fx.2 hx2 fy.2 hy2 hW
  obtain ⟨Z, hZe⟩ : ∃ Z : GY, (⟨flY x, flY y⟩ : GY) = Z := ⟨_, rfl⟩
  have okZ : Z.ok := hZe ▸ ⟨flY_ok _, flY_ok _⟩
  rw [show flY x = Z.re from hZe ▸ rfl, show flY y = Z.im from hZe ▸ rfl] at hZ
  have hS0 := fun W hW => gsub (⟨l, b⟩ : GY) Z W ⟨okl, okb⟩ okZ hW
  by_cases kS0 : (gSub (⟨l, b⟩ : GY) Z).2 = 0
  rotate_left
  · have hE := hS0
    rw [(gSub_e (⟨l, b⟩ : GY) Z).resolve_left kS0, show bstr GY.zero.re.x = { data := #[] } from bstr_zero, show bstr GY.zero.im.x = { data := #[] } from bstr_zero] at hE
    exact .inl ⟨4, by decide, fun W hW => cover_main e 4 0 0 0 4 0 0 0 0 0 0 0 0 0 0 0 false x y 0 0 0 0 _ _ _ _ _ _ _ _ _ _ _ _ _ _ _ _ _ _ _ _ _ _ _ _ false { data := #[] } 0 false { data := #[] } 0 false { data := #[] } 0 false { data := #[] } 0 false { data := #[] } 0 false { data := #[] } 0 false { data := #[] } 0 false { data := #[] } 0 false { data := #[] } 0 false { data := #[] } 0 false { data := #[] } 0 false { data := #[] } 0 false { data := #[] } 0 false { data := #[] } 0 false { data := #[] } 0 false { data := #[] } 0 True False False False False W (fun W => vright_ok l b e W okl okb e1 e2) (.inr ⟨hC, .inr ⟨hM, hn, .inr ⟨hZ, trivial⟩⟩⟩) (fun _ => .inl ⟨by decide, rfl, rfl, rfl, rfl, hE⟩) (fun h => h.elim) (fun h => h.elim) (fun h => h.elim) (fun h => h.elim) hW⟩
  rw [kS0] at hS0
  have hN0 := fun W hW => gnorm (gSub (⟨l, b⟩ : GY) Z).1 W (gSub_ok _ _) hW
  by_cases kN0 : (gNorm (gSub (⟨l, b⟩ : GY) Z).1).2 = 0
  rotate_left
  · have hE := hN0
    rw [(gNorm_z (gSub (⟨l, b⟩ : GY) Z).1).resolve_left kN0, show bstr DY.zero.x = { data := #[] } from bstr_zero] at hE
    exact .inl ⟨4, by decide, fun W hW => cover_main e 4 0 0 0 0 0 0 0 4 0 0 0 0 0 0 0 false x y 0 0 0 0 _ _ _ _ _ _ _ _ _ _ _ _ _ _ _ _ _ _ _ _ _ _ _ _ _ _ _ false { data := #[] } 0 false { data := #[] } 0 false { data := #[] } 0 _ _ _ false { data := #[] } 0 false { data := #[] } 0 false { data := #[] } 0 false { data := #[] } 0 false { data := #[] } 0 false { data := #[] } 0 false { data := #[] } 0 false { data := #[] } 0 false { data := #[] } 0 false { data := #[] } 0 false { data := #[] } 0 True False False False False W (fun W => vright_ok l b e W okl okb e1 e2) (.inr ⟨hC, .inr ⟨hM, hn, .inr ⟨hZ, trivial⟩⟩⟩) (fun _ => .inr ⟨hS0, .inl ⟨by decide, rfl, rfl, rfl, rfl, hE⟩⟩) (fun h => h.elim) (fun h => h.elim) (fun h => h.elim) (fun h => h.elim) hW⟩
  rw [kN0] at hN0
  have okN0 := gNorm_ok (gSub (⟨l, b⟩ : GY) Z).1
  obtain ⟨U0, okU0, gN0, gU0, or0, hm0⟩ := max_step (gNorm (gSub (⟨l, b⟩ : GY) Z).1).1 DY.zero okN0 DY.zero_ok
  have hK0 := fun W => ccmp (gNorm (gSub (⟨l, b⟩ : GY) Z).1).1 DY.zero W okN0 DY.zero_ok
  rw [show bstr DY.zero.x = { data := #[] } from bstr_zero] at hK0 hm0
  have hS1 := fun W hW => gsub (⟨p, b⟩ : GY) Z W ⟨okp, okb⟩ okZ hW
  by_cases kS1 : (gSub (⟨p, b⟩ : GY) Z).2 = 0
  rotate_left
  · have hE := hS1
    rw [(gSub_e (⟨p, b⟩ : GY) Z).resolve_left kS1, show bstr GY.zero.re.x = { data := #[] } from bstr_zero, show bstr GY.zero.im.x = { data := #[] } from bstr_zero] at hE
    exact .inl ⟨4, by decide, fun W hW => cover_main e 4 0 0 0 0 4 0 0 0 0 0 0 _ 0 0 0 false x y 0 0 0 0 _ _ _ _ _ _ _ _ _ _ _ _ _ _ _ _ _ _ _ _ _ _ _ _ _ _ _ false { data := #[] } 0 false { data := #[] } 0 false { data := #[] } 0 _ _ _ false { data := #[] } 0 false { data := #[] } 0 false { data := #[] } 0 _ _ _ false { data := #[] } 0 false { data := #[] } 0 false { data := #[] } 0 _ _ _ false { data := #[] } 0 false { data := #[] } 0 false { data := #[] } 0 True True False False False W (fun W => vright_ok l b e W okl okb e1 e2) (.inr ⟨hC, .inr ⟨hM, hn, .inr ⟨hZ, trivial⟩⟩⟩) (fun _ => .inr ⟨hS0, .inr ⟨hN0, hK0, hm0, trivial⟩⟩) (fun _ => .inl ⟨by decide, rfl, rfl, rfl, rfl, hE⟩) (fun h => h.elim) (fun h => h.elim) (fun h => h.elim) hW⟩
  rw [kS1] at hS1
  have hN1 := fun W hW => gnorm (gSub (⟨p, b⟩ : GY) Z).1 W (gSub_ok _ _) hW
  by_cases kN1 : (gNorm (gSub (⟨p, b⟩ : GY) Z).1).2 = 0
  rotate_left
  · have hE := hN1
    rw [(gNorm_z (gSub (⟨p, b⟩ : GY) Z).1).resolve_left kN1, show bstr DY.zero.x = { data := #[] } from bstr_zero] at hE
    exact .inl ⟨4, by decide, fun W hW => cover_main e 4 0 0 0 0 0 0 0 0 4 0 0 _ 0 0 0 false x y 0 0 0 0 _ _ _ _ _ _ _ _ _ _ _ _ _ _ _ _ _ _ _ _ _ _ _ _ _ _ _ _ _ _ false { data := #[] } 0 false { data := #[] } 0 _ _ _ _ _ _ false { data := #[] } 0 false { data := #[] } 0 _ _ _ false { data := #[] } 0 false { data := #[] } 0 false { data := #[] } 0 _ _ _ false { data := #[] } 0 false { data := #[] } 0 false { data := #[] } 0 True True False False False W (fun W => vright_ok l b e W okl okb e1 e2) (.inr ⟨hC, .inr ⟨hM, hn, .inr ⟨hZ, trivial⟩⟩⟩) (fun _ => .inr ⟨hS0, .inr ⟨hN0, hK0, hm0, trivial⟩⟩) (fun _ => .inr ⟨hS1, .inl ⟨by decide, rfl, rfl, rfl, rfl, hE⟩⟩) (fun h => h.elim) (fun h => h.elim) (fun h => h.elim) hW⟩
  rw [kN1] at hN1
  have okN1 := gNorm_ok (gSub (⟨p, b⟩ : GY) Z).1
  obtain ⟨U1, okU1, gN1, gU1, or1, hm1⟩ := max_step (gNorm (gSub (⟨p, b⟩ : GY) Z).1).1 U0 okN1 okU0
  have hK1 := fun W => ccmp (gNorm (gSub (⟨p, b⟩ : GY) Z).1).1 U0 W okN1 okU0
  have hS2 := fun W hW => gsub (⟨l, q⟩ : GY) Z W ⟨okl, okq⟩ okZ hW
  by_cases kS2 : (gSub (⟨l, q⟩ : GY) Z).2 = 0
  rotate_left
  · have hE := hS2
    rw [(gSub_e (⟨l, q⟩ : GY) Z).resolve_left kS2, show bstr GY.zero.re.x = { data := #[] } from bstr_zero, show bstr GY.zero.im.x = { data := #[] } from bstr_zero] at hE
    exact .inl ⟨4, by decide, fun W hW => cover_main e 4 0 0 0 0 0 4 0 0 0 0 0 _ _ 0 0 false x y 0 0 0 0 _ _ _ _ _ _ _ _ _ _ _ _ _ _ _ _ _ _ _ _ _ _ _ _ _ _ _ _ _ _ false { data := #[] } 0 false { data := #[] } 0 _ _ _ _ _ _ false { data := #[] } 0 false { data := #[] } 0 _ _ _ _ _ _ false { data := #[] } 0 false { data := #[] } 0 _ _ _ _ _ _ false { data := #[] } 0 false { data := #[] } 0 True True True False False W (fun W => vright_ok l b e W okl okb e1 e2) (.inr ⟨hC, .inr ⟨hM, hn, .inr ⟨hZ, trivial⟩⟩⟩) (fun _ => .inr ⟨hS0, .inr ⟨hN0, hK0, hm0, trivial⟩⟩) (fun _ => .inr ⟨hS1, .inr ⟨hN1, hK1, hm1, trivial⟩⟩) (fun _ => .inl ⟨by decide, rfl, rfl, rfl, rfl, hE⟩) (fun h => h.elim) (fun h => h.elim) hW⟩
  rw [kS2] at hS2
  have hN2 := fun W hW => gnorm (gSub (⟨l, q⟩ : GY) Z).1 W (gSub_ok _ _) hW
  by_cases kN2 : (gNorm (gSub (⟨l, q⟩ : GY) Z).1).2 = 0
  rotate_left
  · have hE := hN2
    rw [(gNorm_z (gSub (⟨l, q⟩ : GY) Z).1).resolve_left kN2, show bstr DY.zero.x = { data := #[] } from bstr_zero] at hE
    exact .inl ⟨4, by decide, fun W hW => cover_main e 4 0 0 0 0 0 0 0 0 0 4 0 _ _ 0 0 false x y 0 0 0 0 _ _ _ _ _ _ _ _ _ _ _ _ _ _ _ _ _ _ _ _ _ _ _ _ _ _ _ _ _ _ _ _ _ false { data := #[] } 0 _ _ _ _ _ _ _ _ _ false { data := #[] } 0 _ _ _ _ _ _ false { data := #[] } 0 false { data := #[] } 0 _ _ _ _ _ _ false { data := #[] } 0 false { data := #[] } 0 True True True False False W (fun W => vright_ok l b e W okl okb e1 e2) (.inr ⟨hC, .inr ⟨hM, hn, .inr ⟨hZ, trivial⟩⟩⟩) (fun _ => .inr ⟨hS0, .inr ⟨hN0, hK0, hm0, trivial⟩⟩) (fun _ => .inr ⟨hS1, .inr ⟨hN1, hK1, hm1, trivial⟩⟩) (fun _ => .inr ⟨hS2, .inl ⟨by decide, rfl, rfl, rfl, rfl, hE⟩⟩) (fun h => h.elim) (fun h => h.elim) hW⟩
  rw [kN2] at hN2
  have okN2 := gNorm_ok (gSub (⟨l, q⟩ : GY) Z).1
  obtain ⟨U2, okU2, gN2, gU2, or2, hm2⟩ := max_step (gNorm (gSub (⟨l, q⟩ : GY) Z).1).1 U1 okN2 okU1
  have hK2 := fun W => ccmp (gNorm (gSub (⟨l, q⟩ : GY) Z).1).1 U1 W okN2 okU1
  have hS3 := fun W hW => gsub (⟨p, q⟩ : GY) Z W ⟨okp, okq⟩ okZ hW
  by_cases kS3 : (gSub (⟨p, q⟩ : GY) Z).2 = 0
  rotate_left
  · have hE := hS3
    rw [(gSub_e (⟨p, q⟩ : GY) Z).resolve_left kS3, show bstr GY.zero.re.x = { data := #[] } from bstr_zero, show bstr GY.zero.im.x = { data := #[] } from bstr_zero] at hE
    exact .inl ⟨4, by decide, fun W hW => cover_main e 4 0 0 0 0 0 0 4 0 0 0 0 _ _ _ 0 false x y 0 0 0 0 _ _ _ _ _ _ _ _ _ _ _ _ _ _ _ _ _ _ _ _ _ _ _ _ _ _ _ _ _ _ _ _ _ false { data := #[] } 0 _ _ _ _ _ _ _ _ _ false { data := #[] } 0 _ _ _ _ _ _ _ _ _ false { data := #[] } 0 _ _ _ _ _ _ _ _ _ false { data := #[] } 0 True True True True False W (fun W => vright_ok l b e W okl okb e1 e2) (.inr ⟨hC, .inr ⟨hM, hn, .inr ⟨hZ, trivial⟩⟩⟩) (fun _ => .inr ⟨hS0, .inr ⟨hN0, hK0, hm0, trivial⟩⟩) (fun _ => .inr ⟨hS1, .inr ⟨hN1, hK1, hm1, trivial⟩⟩) (fun _ => .inr ⟨hS2, .inr ⟨hN2, hK2, hm2, trivial⟩⟩) (fun _ => .inl ⟨by decide, rfl, rfl, rfl, rfl, hE⟩) (fun h => h.elim) hW⟩
  rw [kS3] at hS3
  have hN3 := fun W hW => gnorm (gSub (⟨p, q⟩ : GY) Z).1 W (gSub_ok _ _) hW
  by_cases kN3 : (gNorm (gSub (⟨p, q⟩ : GY) Z).1).2 = 0
  rotate_left
  · have hE := hN3
    rw [(gNorm_z (gSub (⟨p, q⟩ : GY) Z).1).resolve_left kN3, show bstr DY.zero.x = { data := #[] } from bstr_zero] at hE
    exact .inl ⟨4, by decide, fun W hW => cover_main e 4 0 0 0 0 0 0 0 0 0 0 4 _ _ _ 0 false x y 0 0 0 0 _ _ _ _ _ _ _ _ _ _ _ _ _ _ _ _ _ _ _ _ _ _ _ _ _ _ _ _ _ _ _ _ _ _ _ _ _ _ _ _ _ _ _ _ _ _ _ _ _ _ _ _ _ _ _ _ _ false { data := #[] } 0 _ _ _ _ _ _ _ _ _ false { data := #[] } 0 True True True True False W (fun W => vright_ok l b e W okl okb e1 e2) (.inr ⟨hC, .inr ⟨hM, hn, .inr ⟨hZ, trivial⟩⟩⟩) (fun _ => .inr ⟨hS0, .inr ⟨hN0, hK0, hm0, trivial⟩⟩) (fun _ => .inr ⟨hS1, .inr ⟨hN1, hK1, hm1, trivial⟩⟩) (fun _ => .inr ⟨hS2, .inr ⟨hN2, hK2, hm2, trivial⟩⟩) (fun _ => .inr ⟨hS3, .inl ⟨by decide, rfl, rfl, rfl, rfl, hE⟩⟩) (fun h => h.elim) hW⟩
  rw [kN3] at hN3
  have okN3 := gNorm_ok (gSub (⟨p, q⟩ : GY) Z).1
  obtain ⟨U3, okU3, gN3, gU3, or3, hm3⟩ := max_step (gNorm (gSub (⟨p, q⟩ : GY) Z).1).1 U2 okN3 okU2
  have hK3 := fun W => ccmp (gNorm (gSub (⟨p, q⟩ : GY) Z).1).1 U2 W okN3 okU2
  by_cases hr : rpB U3 9218868437227405311 = true
  rotate_left
  · have hR := fun W hW => vroot_no U3 W okU3 (by simpa using hr) hW
    exact .inl ⟨5, by decide, fun W hW => cover_main e 5 0 0 0 0 0 0 0 0 0 0 0 _ _ _ _ false x y _ 0 0 0 _ _ _ _ _ _ _ _ _ _ _ _ _ _ _ _ _ _ _ _ _ _ _ _ _ _ _ _ _ _ _ _ _ _ _ _ _ _ _ _ _ _ _ _ _ _ _ _ _ _ _ _ _ _ _ _ _ _ _ _ _ _ _ _ _ _ _ _ _ _ _ _ True True True True True W (fun W => vright_ok l b e W okl okb e1 e2) (.inr ⟨hC, .inr ⟨hM, hn, .inr ⟨hZ, trivial⟩⟩⟩) (fun _ => .inr ⟨hS0, .inr ⟨hN0, hK0, hm0, trivial⟩⟩) (fun _ => .inr ⟨hS1, .inr ⟨hN1, hK1, hm1, trivial⟩⟩) (fun _ => .inr ⟨hS2, .inr ⟨hN2, hK2, hm2, trivial⟩⟩) (fun _ => .inr ⟨hS3, .inr ⟨hN3, hK3, hm3, trivial⟩⟩) (fun _ => ⟨hR, .inl ⟨rfl, rfl, rfl, rfl, rfl⟩⟩) hW⟩
  have hR := fun W hW => vroot_yes U3 _ rfl W okU3 hr hW
  refine .inr ⟨x, y, U3, ⟨hx2, hy2, fx.2, fy.2, hp, hq, okU3, hr, ?_⟩, fun W hW => cover_main e 0 0 0 0 0 0 0 0 0 0 0 0 _ _ _ _ true x y _ _ _ _ _ _ _ _ _ _ _ _ _ _ _ _ _ _ _ _ _ _ _ _ _ _ _ _ _ _ _ _ _ _ _ _ _ _ _ _ _ _ _ _ _ _ _ _ _ _ _ _ _ _ _ _ _ _ _ _ _ _ _ _ _ _ _ _ _ _ _ _ _ _ _ _ True True True True True W (fun W => vright_ok l b e W okl okb e1 e2) (.inr ⟨hC, .inr ⟨hM, hn, .inr ⟨hZ, trivial⟩⟩⟩) (fun _ => .inr ⟨hS0, .inr ⟨hN0, hK0, hm0, trivial⟩⟩) (fun _ => .inr ⟨hS1, .inr ⟨hN1, hK1, hm1, trivial⟩⟩) (fun _ => .inr ⟨hS2, .inr ⟨hN2, hK2, hm2, trivial⟩⟩) (fun _ => .inr ⟨hS3, .inr ⟨hN3, hK3, hm3, trivial⟩⟩) (fun _ => ⟨hR, .inr ⟨rfl, rfl, rfl, rfl, rfl⟩⟩) hW⟩
  rw [hpe, hqe, hZe]
  refine ⟨⟨kS0, kN0, by omega⟩, ⟨kS1, kN1, by omega⟩, ⟨kS2, kN2, by omega⟩, ⟨kS3, kN3, by omega⟩, ?_⟩
  rcases or3 with h | h
  · exact .inr (.inr (.inr (.inr h)))
  · rw [h]
    rcases or2 with h | h
    · exact .inr (.inr (.inr (.inl h)))
    · rw [h]
      rcases or1 with h | h
      · exact .inr (.inr (.inl h))
      · rw [h]
        rcases or0 with h | h
        · exact .inr (.inl h)
        · exact .inl h


end Go.Proofs.YtppebjnmollojaaDoor
