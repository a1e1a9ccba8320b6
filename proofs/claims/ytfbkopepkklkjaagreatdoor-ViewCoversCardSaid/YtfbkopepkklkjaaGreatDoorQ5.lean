/- Walks of view.root, gauss.Near, gauss.Complex. -/
import Derived.Test.YtfbkopepkklkjaaGreatDoorQ3
import Derived.Test.YtfbkopepkklkjaaGreatDoorQ4
namespace Go.Proofs.YtfbkopepkklkjaaGreatDoor
open Go Go.RowKit Go.PlainAid Fil

theorem run_from_nat (b : Nat) (w : World) : (callFunc 51 #[.int .u64 (b : Int)]).run Tryz.prog w = .ok (.value (.float .f64 b)) w := run_f64from b w
set_option maxRecDepth 10000 in
set_option maxHeartbeats 4000000 in
theorem rootA_w (b : Nat) (n : DY) (p : DY) (q : DY × Int) (M : Int) (E_p : flY b = p) (E_q : yMul p p = q) (E_M : yCmp q.1 n = M) (w : World) (ok_n : n.ok) (bn : Nat) (BN : Blk w bn #[.bool n.n, .string (bstr n.x), .int .i64 n.e] 24) (hb : b < 9218868437227405312) (hT : Tab w) :
  Calls Tryz.prog 82 #[.int .i64 (b : Int), .pointer (some ⟨bn, 0, none⟩)] w fun r w' => r = .returned (.bool (decide (0 ≤ M))) ∧ Below w.heap.size w w' := by
 have ok_p : p.ok := E_p ▸ flY_ok b
 have ok_q : q.1.ok := E_q ▸ yMul_ok _ _
 have h1 := fun W hW => cfl b W (by omega) (pos_fin hb) hW
 rw [E_p] at h1
 have h2 := fun W hW => cmul p p W ok_p ok_p hW
 rw [E_q] at h2
 have h3 := fun W => ccmp q.1 n W ok_q ok_n
 rw [E_M] at h3
 have hfr := run_from_nat b
 have hb2 : (b : Int) < 9218868437227405312 := by omega
 clear hb
 clear E_p E_q E_M ok_p ok_q ok_n
 obtain ⟨nn, nX, ne⟩ := n
 obtain ⟨pn, pX, pe⟩ := p
 obtain ⟨⟨qn, qX, qe⟩, qr⟩ := q
 dsimp only at *
 generalize bstr nX = nS at *
 generalize bstr pX = pS at *
 generalize bstr qX = qS at *
 go_enter Tryz.func82, Tryz.ntmps82
 have B0 := Below.refl w.heap.size w
 go_wp2_with fail
 (with_reducible refine (h1 _ (hT.below B0)).mono ?_)
 rintro r w1 ⟨rfl, hb1⟩
 replace BN := BN.keep hb1
 replace B0 := B0.trans (hb1.mono B0.size)
 clear hb1
 replace BN := BN.allocd (.cells #[.bool pn, .string pS, .int .i64 pe] 24)
 have F4 := Blk.put (w1) #[.bool pn, .string pS, .int .i64 pe] 24
 replace B0 := B0.alloc B0.size (.cells #[.bool pn, .string pS, .int .i64 pe] 24)
 obtain ⟨xF41_0, xF41_1, xF41_2⟩ := F4.ce3
 go_wp2_with fail
 (with_reducible refine (h2 _ (hT.below B0)).mono ?_)
 rintro r w2 ⟨rfl, hb2⟩
 clear xF41_0 xF41_1 xF41_2
 replace BN := BN.keep hb2
 replace F4 := F4.keep hb2
 replace B0 := B0.trans (hb2.mono B0.size)
 clear hb2
 replace BN := BN.allocd (.cells #[.bool qn, .string qS, .int .i64 qe] 24)
 clear F4
 have F6 := Blk.put (w2) #[.bool qn, .string qS, .int .i64 qe] 24
 replace B0 := B0.alloc B0.size (.cells #[.bool qn, .string qS, .int .i64 qe] 24)
 obtain ⟨xF62_0, xF62_1, xF62_2⟩ := F6.ce3
 obtain ⟨xBN2_0, xBN2_1, xBN2_2⟩ := BN.ce3
 go_wp2_with fail
 (with_reducible refine (h3 _).mono ?_)
 rintro r w3 ⟨rfl, hb3⟩
 clear xF62_0 xF62_1 xF62_2 xBN2_0 xBN2_1 xBN2_2
 replace BN := BN.keep hb3
 replace F6 := F6.keep hb3
 replace B0 := B0.trans (hb3.mono B0.size)
 clear hb3
 go_wp2
 go_ret
 exact ⟨rfl, B0⟩

theorem rootA (bn b : Nat) (n : DY) (w : World) (hn : n.ok) (BN : Blk w bn #[.bool n.n, .string (bstr n.x), .int .i64 n.e] 24) (hb : b < 9218868437227405312) (hT : Tab w) :
  Calls Tryz.prog 82 #[.int .i64 (b : Int), .pointer (some ⟨bn, 0, none⟩)] w fun r w' => r = .returned (.bool (rpB n b)) ∧ Below w.heap.size w w' :=
 rootA_w b n _ _ _ rfl rfl rfl w hn bn BN hb hT
theorem rootA_most (bn : Nat) (n : DY) (w : World) (hn : n.ok) (BN : Blk w bn #[.bool n.n, .string (bstr n.x), .int .i64 n.e] 24) (hT : Tab w) :
  Calls Tryz.prog 82 #[.int .i64 9218868437227405311, .pointer (some ⟨bn, 0, none⟩)] w fun r w' => r = .returned (.bool (rpB n 9218868437227405311)) ∧ Below w.heap.size w w' :=
 rootA bn 9218868437227405311 n w hn BN (by omega) hT
theorem cl_root : ∀ args w, (callFunc 82 args).run Tryz.prog w = .ok (.enter 82 args) w := enters_of Tryz.func82 (by kernel_rfl) rfl
theorem root_search (bn : Nat) (n : DY) (w : World) (hn : n.ok) (BN : Blk w bn #[.bool n.n, .string (bstr n.x), .int .i64 n.e] 24) (hT : Tab w) :
  Calls Tryz.prog 84 #[.int .i64 9218868437227405311, .func (.func 82) #[] #[.pointer (some ⟨bn, 0, none⟩)]] w fun r w' => r = .returned (.int .i64 (lst (rpB n) 9218868437227405311 : Nat)) ∧ Below w.heap.size w w' :=
 search_any 82 _ _ 9218868437227405311 (rpB n) w rfl cl_root (by omega) (fun W i hi hW => rootA bn i n W hn (BN.keep hW) (by omega) (hT.below hW)) (fun a b hab hb h => rpB_mono hab (by omega) h)

set_option maxRecDepth 10000 in
set_option maxHeartbeats 4000000 in
theorem vroot_yes (n : DY) (R : Nat) (E_R : lst (rpB n) 9218868437227405311 = R) (w : World) (ok_n : n.ok) (hr : rpB n 9218868437227405311 = true) (hT : Tab w) :
  Calls Tryz.prog 41 #[.agg #[.bool n.n, .string (bstr n.x), .int .i64 n.e]] w fun r w' => r = .returned (.tuple #[.float .f64 R, .bool true]) ∧ Below w.heap.size w w' := by
 have hA := fun (bn : Nat) W (BN : Blk W bn #[.bool n.n, .string (bstr n.x), .int .i64 n.e] 24) hW => rootA_most bn n W ok_n BN hW
 have hS := fun (bn : Nat) W (BN : Blk W bn #[.bool n.n, .string (bstr n.x), .int .i64 n.e] 24) hW => root_search bn n W ok_n BN hW
 rw [E_R] at hS
 rw [hr] at hA
 have hbits := run_f64bits 9218868437227405311
 clear hr
 have hR : R ≤ 9218868437227405311 := E_R ▸ lst_le _ _
 have hF := fun W => finite_any R W (pos_fin (by omega))
 have hfr := run_from_nat R
 have hR2 : (R : Int) ≤ 9218868437227405311 := by omega
 clear hR
 clear E_R ok_n
 obtain ⟨nn, nX, ne⟩ := n
 dsimp only at *
 generalize bstr nX = nS at *
 go_enter Tryz.func41, Tryz.ntmps41
 have B0 := Below.refl w.heap.size w
 have F1 := Blk.put (w) #[.bool nn, .string nS, .int .i64 ne] 24
 replace B0 := B0.alloc B0.size (.cells #[.bool nn, .string nS, .int .i64 ne] 24)
 go_wp2_with fail
 (with_reducible refine (hA w.heap.size _ F1 (hT.below B0)).mono ?_)
 rintro r w1 ⟨rfl, hb1⟩
 replace F1 := F1.keep hb1
 replace B0 := B0.trans (hb1.mono B0.size)
 clear hb1
 go_wp2_with fail
 (with_reducible refine (hS w.heap.size _ F1 (hT.below B0)).mono ?_)
 rintro r w2 ⟨rfl, hb2⟩
 replace F1 := F1.keep hb2
 replace B0 := B0.trans (hb2.mono B0.size)
 clear hb2
 go_wp2_with fail
 (with_reducible refine (hF _).mono ?_)
 rintro r w3 ⟨rfl, hb3⟩
 clear F1
 replace B0 := B0.trans (hb3.mono B0.size)
 clear hb3
 go_wp2
 go_ret2
 exact ⟨rfl, B0⟩

set_option maxRecDepth 10000 in
set_option maxHeartbeats 4000000 in
theorem vroot_no (n : DY) (w : World) (ok_n : n.ok) (hr : rpB n 9218868437227405311 = false) (hT : Tab w) :
  Calls Tryz.prog 41 #[.agg #[.bool n.n, .string (bstr n.x), .int .i64 n.e]] w fun r w' => r = .returned (.tuple #[.float .f64 0, .bool false]) ∧ Below w.heap.size w w' := by
 have hA := fun (bn : Nat) W (BN : Blk W bn #[.bool n.n, .string (bstr n.x), .int .i64 n.e] 24) hW => rootA_most bn n W ok_n BN hW
 rw [hr] at hA
 have hbits := run_f64bits 9218868437227405311
 clear hr
 clear ok_n
 obtain ⟨nn, nX, ne⟩ := n
 dsimp only at *
 generalize bstr nX = nS at *
 go_enter Tryz.func41, Tryz.ntmps41
 have B0 := Below.refl w.heap.size w
 have F1 := Blk.put (w) #[.bool nn, .string nS, .int .i64 ne] 24
 replace B0 := B0.alloc B0.size (.cells #[.bool nn, .string nS, .int .i64 ne] 24)
 go_wp2_with fail
 (with_reducible refine (hA w.heap.size _ F1 (hT.below B0)).mono ?_)
 rintro r w1 ⟨rfl, hb1⟩
 replace F1 := F1.keep hb1
 replace B0 := B0.trans (hb1.mono B0.size)
 clear hb1
 go_wp2
 go_ret2
 exact ⟨rfl, B0⟩

set_option maxRecDepth 10000 in
set_option maxHeartbeats 4000000 in
theorem gnear_w (g : GY) (x : Nat) (y : Nat) (E_x : nearF g.re.n g.re.x g.re.e = x) (E_y : nearF g.im.n g.im.x g.im.e = y) (w : World) (ok_g : g.ok)  (hT : Tab w) :
  Calls Tryz.prog 37 #[.agg #[.bool g.re.n, .string (bstr g.re.x), .int .i64 g.re.e, .bool g.im.n, .string (bstr g.im.x), .int .i64 g.im.e]] w fun r w' => r = .returned (.tuple #[.complex .f64 x y, .int .i64 0]) ∧ Below w.heap.size w w' := by
 have h1 := fun W => gcheck_ok g W ok_g
 have h2 := fun W hW => dnear_ok g.re.n g.re.x g.re.e W ok_g.1 hW
 rw [E_x] at h2
 have h3 := fun W hW => dnear_ok g.im.n g.im.x g.im.e W ok_g.2 hW
 rw [E_y] at h3
 clear E_x E_y ok_g
 obtain ⟨⟨gn, gX, ge⟩, ⟨gm, gY, gf⟩⟩ := g
 dsimp only at *
 generalize bstr gX = gS at *
 generalize bstr gY = gT at *
 go_enter Tryz.func37, Tryz.ntmps37
 have B0 := Below.refl w.heap.size w
 have F1 := Blk.put (w) #[.bool gn, .string gS, .int .i64 ge, .bool gm, .string gT, .int .i64 gf] 28
 replace B0 := B0.alloc B0.size (.cells #[.bool gn, .string gS, .int .i64 ge, .bool gm, .string gT, .int .i64 gf] 28)
 obtain ⟨xF10_0, xF10_1, xF10_2, xF10_3, xF10_4, xF10_5⟩ := F1.ce6
 go_wp2_with fail
 (with_reducible refine (h1 _).mono ?_)
 rintro r w1 ⟨rfl, hb1⟩
 clear xF10_0 xF10_1 xF10_2 xF10_3 xF10_4 xF10_5
 replace F1 := F1.keep hb1
 replace B0 := B0.trans (hb1.mono B0.size)
 clear hb1
 obtain ⟨xF11_0, xF11_1, xF11_2, xF11_3, xF11_4, xF11_5⟩ := F1.ce6
 go_wp2_with fail
 (with_reducible refine (h2 _ (hT.below B0)).mono ?_)
 rintro r w2 ⟨rfl, hb2⟩
 clear xF11_0 xF11_1 xF11_2 xF11_3 xF11_4 xF11_5
 replace F1 := F1.keep hb2
 replace B0 := B0.trans (hb2.mono B0.size)
 clear hb2
 obtain ⟨xF12_0, xF12_1, xF12_2, xF12_3, xF12_4, xF12_5⟩ := F1.ce6
 go_wp2_with fail
 (with_reducible refine (h3 _ (hT.below B0)).mono ?_)
 rintro r w3 ⟨rfl, hb3⟩
 clear xF12_0 xF12_1 xF12_2 xF12_3 xF12_4 xF12_5
 replace F1 := F1.keep hb3
 replace B0 := B0.trans (hb3.mono B0.size)
 clear hb3
 go_wp2
 go_ret2
 exact ⟨rfl, B0⟩

set_option maxRecDepth 10000 in
set_option maxHeartbeats 4000000 in
theorem gcomplex_w (x : Nat) (y : Nat) (p : DY) (q : DY) (E_p : flY x = p) (E_q : flY y = q) (w : World) (x1 : x < 18446744073709551616) (x2 : flQ x ≠ 2047) (y1 : y < 18446744073709551616) (y2 : flQ y ≠ 2047) (hT : Tab w) :
  Calls Tryz.prog 38 #[.complex .f64 x y] w fun r w' => r = .returned (.tuple #[.agg #[.bool p.n, .string (bstr p.x), .int .i64 p.e, .bool q.n, .string (bstr q.x), .int .i64 q.e], .int .i64 0]) ∧ Below w.heap.size w w' := by
 have h1 := fun W hW => cfl x W x1 x2 hW
 rw [E_p] at h1
 have h2 := fun W hW => cfl y W y1 y2 hW
 rw [E_q] at h2
 clear E_p E_q
 obtain ⟨pn, pX, pe⟩ := p
 obtain ⟨qn, qX, qe⟩ := q
 dsimp only at *
 generalize bstr pX = pS at *
 generalize bstr qX = qS at *
 clear x1 x2 y1 y2
 go_enter Tryz.func38, Tryz.ntmps38
 have B0 := Below.refl w.heap.size w
 have q_w_F2 : Hid (w.heap.size ≤ w.heap.size) := Lib.hid (by omega)
 have F2 := Blk.put (w) #[.bool false, .string { data := #[] }, .int .i64 0, .bool false, .string { data := #[] }, .int .i64 0] 28
 replace B0 := B0.alloc B0.size (.cells #[.bool false, .string { data := #[] }, .int .i64 0, .bool false, .string { data := #[] }, .int .i64 0] 28)
 go_wp2_with fail
 (with_reducible refine (h1 _ (hT.below B0)).mono ?_)
 rintro r w1 ⟨rfl, hb1⟩
 replace F2 := F2.keep hb1
 replace B0 := B0.trans (hb1.mono B0.size)
 clear hb1
 have q_F2_F4 : Hid (w.heap.size < w1.heap.size) := Lib.hid (by have := F2.lt; first | exact this | omega | (simp; done) | simpa using this)
 replace F2 := F2.allocd (.cells #[.bool pn, .string pS, .int .i64 pe] 24)
 have F4 := Blk.put (w1) #[.bool pn, .string pS, .int .i64 pe] 24
 replace B0 := B0.alloc B0.size (.cells #[.bool pn, .string pS, .int .i64 pe] 24)
 go_wp2_with fail
 (with_reducible refine (h2 _ (hT.below B0)).mono ?_)
 rintro r w2 ⟨rfl, hb2⟩
 replace F2 := F2.keep hb2
 replace F4 := F4.keep hb2
 replace B0 := B0.trans (hb2.mono B0.size)
 clear hb2
 have q_F2_F6 : Hid (w.heap.size < w2.heap.size) := Lib.hid (by have := F2.lt; first | exact this | omega | (simp; done) | simpa using this)
 replace F2 := F2.allocd (.cells #[.bool qn, .string qS, .int .i64 qe] 24)
 replace F4 := F4.allocd (.cells #[.bool qn, .string qS, .int .i64 qe] 24)
 have F6 := Blk.put (w2) #[.bool qn, .string qS, .int .i64 qe] 24
 replace B0 := B0.alloc B0.size (.cells #[.bool qn, .string qS, .int .i64 qe] 24)
 obtain ⟨xF42_0, xF42_1, xF42_2⟩ := F4.ce3
 obtain ⟨xF62_0, xF62_1, xF62_2⟩ := F6.ce3
 obtain ⟨xF22_0, xF22_1, xF22_2, xF22_3, xF22_4, xF22_5⟩ := F2.ce6
 obtain ⟨xF22_0f, xF22_1f, xF22_2f, xF22_3f, xF22_4f, xF22_5f⟩ := F2.fr6
 replace F4 := ((((((F4.far 0 (.bool pn) (Nat.ne_of_gt q_F2_F4.out)).far 1 (.string pS) (Nat.ne_of_gt q_F2_F4.out)).far 2 (.int .i64 pe) (Nat.ne_of_gt q_F2_F4.out)).far 3 (.bool qn) (Nat.ne_of_gt q_F2_F4.out)).far 4 (.string qS) (Nat.ne_of_gt q_F2_F4.out)).far 5 (.int .i64 qe) (Nat.ne_of_gt q_F2_F4.out))
 replace F6 := ((((((F6.far 0 (.bool pn) (Nat.ne_of_gt q_F2_F6.out)).far 1 (.string pS) (Nat.ne_of_gt q_F2_F6.out)).far 2 (.int .i64 pe) (Nat.ne_of_gt q_F2_F6.out)).far 3 (.bool qn) (Nat.ne_of_gt q_F2_F6.out)).far 4 (.string qS) (Nat.ne_of_gt q_F2_F6.out)).far 5 (.int .i64 qe) (Nat.ne_of_gt q_F2_F6.out))
 replace F2 : Blk ((((((((w2).alloc (.cells #[.bool qn, .string qS, .int .i64 qe] 24)).setCell ⟨w.heap.size, 0, none⟩ (.bool pn)).setCell ⟨w.heap.size, 1, none⟩ (.string pS)).setCell ⟨w.heap.size, 2, none⟩ (.int .i64 pe)).setCell ⟨w.heap.size, 3, none⟩ (.bool qn)).setCell ⟨w.heap.size, 4, none⟩ (.string qS)).setCell ⟨w.heap.size, 5, none⟩ (.int .i64 qe)) (w.heap.size) #[.bool pn, .string pS, .int .i64 pe, .bool qn, .string qS, .int .i64 qe] 28 := ((((((F2.setAt 0 (.bool pn)).setAt 1 (.string pS)).setAt 2 (.int .i64 pe)).setAt 3 (.bool qn)).setAt 4 (.string qS)).setAt 5 (.int .i64 qe))
 replace B0 := ((((((B0.setCell (p := ⟨w.heap.size, 0, none⟩) q_w_F2.out (.bool pn)).setCell (p := ⟨w.heap.size, 1, none⟩) q_w_F2.out (.string pS)).setCell (p := ⟨w.heap.size, 2, none⟩) q_w_F2.out (.int .i64 pe)).setCell (p := ⟨w.heap.size, 3, none⟩) q_w_F2.out (.bool qn)).setCell (p := ⟨w.heap.size, 4, none⟩) q_w_F2.out (.string qS)).setCell (p := ⟨w.heap.size, 5, none⟩) q_w_F2.out (.int .i64 qe))
 obtain ⟨xF23_0, xF23_1, xF23_2, xF23_3, xF23_4, xF23_5⟩ := F2.ce6
 go_wp2
 exact bodyPost_ret (v := .tuple #[.agg #[.bool pn, .string pS, .int .i64 pe, .bool qn, .string qS, .int .i64 qe], .int .i64 0]) (by simp [results, Tryz.results38, go_sem, xF23_0, xF23_1, xF23_2, xF23_3, xF23_4, xF23_5]) rfl ⟨rfl, B0⟩

end Go.Proofs.YtfbkopepkklkjaaGreatDoor
