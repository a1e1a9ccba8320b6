/- Walks of package view, by a program (walk.py): what may be; moved; corners, middles, cells. -/
import Derived.Test.YtfbkopepkklkjaaGreatDoorQ1
import Derived.Test.YtfbkopepkklkjaaGreatDoorG6
namespace Go.Proofs.YtfbkopepkklkjaaGreatDoor
open Go Go.RowKit Go.PlainAid Fil

def sideB (e : Int) : Bool := decide (-4096 ≤ e) && decide (e ≤ 4096)
def countB (n : Int) : Bool := decide (1 ≤ n) && decide (n ≤ 65536)
theorem sideB_iff {e : Int} : sideB e = true ↔ -4096 ≤ e ∧ e ≤ 4096 := by unfold sideB; rw [Bool.and_eq_true, decide_eq_true_iff, decide_eq_true_iff]
theorem countB_iff {n : Int} : countB n = true ↔ 1 ≤ n ∧ n ≤ 65536 := by unfold countB; rw [Bool.and_eq_true, decide_eq_true_iff, decide_eq_true_iff]
theorem vside_any (e : Int) (w : World) : Calls Tryz.prog 29 #[.int .i64 e] w fun r w' => r = .returned (.bool (sideB e)) ∧ Below w.heap.size w w' := by
 have B0 := Below.refl w.heap.size w
 unfold sideB
 by_cases h1 : -4096 ≤ e
 ·by_cases h2 : e ≤ 4096
  ·rw [decide_eq_true h1, decide_eq_true h2]
   go_enter Tryz.func29, Tryz.ntmps29
   go_wp2
   go_ret
   exact ⟨rfl, B0⟩
  ·rw [decide_eq_true h1, decide_eq_false h2]
   go_enter Tryz.func29, Tryz.ntmps29
   go_wp2
   go_ret
   exact ⟨rfl, B0⟩
 ·rw [decide_eq_false h1, Bool.false_and]
  go_enter Tryz.func29, Tryz.ntmps29
  go_wp2
  go_ret
  exact ⟨rfl, B0⟩
theorem vcount_any (e : Int) (w : World) : Calls Tryz.prog 63 #[.int .i64 e] w fun r w' => r = .returned (.bool (countB e)) ∧ Below w.heap.size w w' := by
 have B0 := Below.refl w.heap.size w
 unfold countB
 by_cases h1 : 1 ≤ e
 ·by_cases h2 : e ≤ 65536
  ·rw [decide_eq_true h1, decide_eq_true h2]
   go_enter Tryz.func63, Tryz.ntmps63
   go_wp2
   go_ret
   exact ⟨rfl, B0⟩
  ·rw [decide_eq_true h1, decide_eq_false h2]
   go_enter Tryz.func63, Tryz.ntmps63
   go_wp2
   go_ret
   exact ⟨rfl, B0⟩
 ·rw [decide_eq_false h1, Bool.false_and]
  go_enter Tryz.func63, Tryz.ntmps63
  go_wp2
  go_ret
  exact ⟨rfl, B0⟩
theorem Blk.ce9 {w : World} {b : Nat} {v0 v1 v2 v3 v4 v5 v6 v7 v8 : Value} {t : TypeId} (h : Blk w b #[v0, v1, v2, v3, v4, v5, v6, v7, v8] t) : w.cell? ⟨b, 0, none⟩ = some v0 ∧ w.cell? ⟨b, 1, none⟩ = some v1 ∧ w.cell? ⟨b, 2, none⟩ = some v2 ∧ w.cell? ⟨b, 3, none⟩ = some v3 ∧ w.cell? ⟨b, 4, none⟩ = some v4 ∧ w.cell? ⟨b, 5, none⟩ = some v5 ∧ w.cell? ⟨b, 6, none⟩ = some v6 ∧ w.cell? ⟨b, 7, none⟩ = some v7 ∧ w.cell? ⟨b, 8, none⟩ = some v8 :=
 ⟨h.at 0 (by simp), h.at 1 (by simp), h.at 2 (by simp), h.at 3 (by simp), h.at 4 (by simp), h.at 5 (by simp), h.at 6 (by simp), h.at 7 (by simp), h.at 8 (by simp)⟩
theorem Blk.fr9 {w : World} {b : Nat} {v0 v1 v2 v3 v4 v5 v6 v7 v8 : Value} {t : TypeId} (h : Blk w b #[v0, v1, v2, v3, v4, v5, v6, v7, v8] t) : w.frozen? ⟨b, 0, none⟩ = false ∧ w.frozen? ⟨b, 1, none⟩ = false ∧ w.frozen? ⟨b, 2, none⟩ = false ∧ w.frozen? ⟨b, 3, none⟩ = false ∧ w.frozen? ⟨b, 4, none⟩ = false ∧ w.frozen? ⟨b, 5, none⟩ = false ∧ w.frozen? ⟨b, 6, none⟩ = false ∧ w.frozen? ⟨b, 7, none⟩ = false ∧ w.frozen? ⟨b, 8, none⟩ = false :=
 ⟨h.free 0, h.free 1, h.free 2, h.free 3, h.free 4, h.free 5, h.free 6, h.free 7, h.free 8⟩
theorem Blk.ce7 {w : World} {b : Nat} {v0 v1 v2 v3 v4 v5 v6 : Value} {t : TypeId} (h : Blk w b #[v0, v1, v2, v3, v4, v5, v6] t) : w.cell? ⟨b, 0, none⟩ = some v0 ∧ w.cell? ⟨b, 1, none⟩ = some v1 ∧ w.cell? ⟨b, 2, none⟩ = some v2 ∧ w.cell? ⟨b, 3, none⟩ = some v3 ∧ w.cell? ⟨b, 4, none⟩ = some v4 ∧ w.cell? ⟨b, 5, none⟩ = some v5 ∧ w.cell? ⟨b, 6, none⟩ = some v6 :=
 ⟨h.at 0 (by simp), h.at 1 (by simp), h.at 2 (by simp), h.at 3 (by simp), h.at 4 (by simp), h.at 5 (by simp), h.at 6 (by simp)⟩
theorem Blk.fr7 {w : World} {b : Nat} {v0 v1 v2 v3 v4 v5 v6 : Value} {t : TypeId} (h : Blk w b #[v0, v1, v2, v3, v4, v5, v6] t) : w.frozen? ⟨b, 0, none⟩ = false ∧ w.frozen? ⟨b, 1, none⟩ = false ∧ w.frozen? ⟨b, 2, none⟩ = false ∧ w.frozen? ⟨b, 3, none⟩ = false ∧ w.frozen? ⟨b, 4, none⟩ = false ∧ w.frozen? ⟨b, 5, none⟩ = false ∧ w.frozen? ⟨b, 6, none⟩ = false :=
 ⟨h.free 0, h.free 1, h.free 2, h.free 3, h.free 4, h.free 5, h.free 6⟩
theorem Blk.ce2 {w : World} {b : Nat} {v0 v1 : Value} {t : TypeId} (h : Blk w b #[v0, v1] t) : w.cell? ⟨b, 0, none⟩ = some v0 ∧ w.cell? ⟨b, 1, none⟩ = some v1 := ⟨h.at 0 (by simp), h.at 1 (by simp)⟩
theorem Blk.fr2 {w : World} {b : Nat} {v0 v1 : Value} {t : TypeId} (h : Blk w b #[v0, v1] t) : w.frozen? ⟨b, 0, none⟩ = false ∧ w.frozen? ⟨b, 1, none⟩ = false := ⟨h.free 0, h.free 1⟩
def winB (g : GR) (e a d : Int) : Bool := g.may && (sideB e && (countB a && countB d))
def sqB (l b : DRw) (e : Int) : Bool := l.may && (b.may && sideB e)

set_option maxRecDepth 10000 in
set_option maxHeartbeats 4000000 in
theorem vcheck_any (g : GR) (e : Int) (a : Int) (d : Int) (w : World) (ok_g : g.fit)  :
  Calls Tryz.prog 64 #[.agg #[.bool g.n, .string g.s, .int .i64 g.e, .bool g.m, .string g.t, .int .i64 g.f, .int .i64 e, .int .i64 a, .int .i64 d]] w fun r w' => r = .returned (.int .i64 (if winB g e a d = true then 0 else 240)) ∧ Below w.heap.size w w' := by
 have h1 := fun W => gcheck_any g.n g.s g.e g.m g.t g.f W ok_g.1 ok_g.2
 have h2 := fun W => vside_any e W
 have h3 := fun W => vcount_any a W
 have h4 := fun W => vcount_any d W
 unfold winB GR.may
 clear ok_g
 obtain ⟨gn, gS, ge, gm, gT, gf⟩ := g
 dsimp only at *
 generalize (mayB gn gS ge && mayB gm gT gf) = M at *
 generalize sideB e = S at *
 generalize countB a = CA at *
 generalize countB d = CD at *
 cases M
 ·simp only [okE_f] at h1
  clear h2 h3 h4
  go_enter Tryz.func64, Tryz.ntmps64
  have B0 := Below.refl w.heap.size w
  have F1 := Blk.put (w) #[.bool gn, .string gS, .int .i64 ge, .bool gm, .string gT, .int .i64 gf, .int .i64 e, .int .i64 a, .int .i64 d] 74
  replace B0 := B0.alloc B0.size (.cells #[.bool gn, .string gS, .int .i64 ge, .bool gm, .string gT, .int .i64 gf, .int .i64 e, .int .i64 a, .int .i64 d] 74)
  obtain ⟨xF10_0, xF10_1, xF10_2, xF10_3, xF10_4, xF10_5, xF10_6, xF10_7, xF10_8⟩ := F1.ce9
  go_wp2_with fail
  (with_reducible refine (h1 _).mono ?_)
  rintro r w1 ⟨rfl, hb1⟩
  clear xF10_0 xF10_1 xF10_2 xF10_3 xF10_4 xF10_5 xF10_6 xF10_7 xF10_8
  replace F1 := F1.keep hb1
  replace B0 := B0.trans (hb1.mono B0.size)
  clear hb1
  go_wp2
  go_ret
  exact ⟨rfl, B0⟩
 ·simp only [okE_t] at h1
  cases S
  ·clear h3 h4
   go_enter Tryz.func64, Tryz.ntmps64
   have B0 := Below.refl w.heap.size w
   have F1 := Blk.put (w) #[.bool gn, .string gS, .int .i64 ge, .bool gm, .string gT, .int .i64 gf, .int .i64 e, .int .i64 a, .int .i64 d] 74
   replace B0 := B0.alloc B0.size (.cells #[.bool gn, .string gS, .int .i64 ge, .bool gm, .string gT, .int .i64 gf, .int .i64 e, .int .i64 a, .int .i64 d] 74)
   obtain ⟨xF10_0, xF10_1, xF10_2, xF10_3, xF10_4, xF10_5, xF10_6, xF10_7, xF10_8⟩ := F1.ce9
   go_wp2_with fail
   (with_reducible refine (h1 _).mono ?_)
   rintro r w1 ⟨rfl, hb1⟩
   clear xF10_0 xF10_1 xF10_2 xF10_3 xF10_4 xF10_5 xF10_6 xF10_7 xF10_8
   replace F1 := F1.keep hb1
   replace B0 := B0.trans (hb1.mono B0.size)
   clear hb1
   obtain ⟨xF11_0, xF11_1, xF11_2, xF11_3, xF11_4, xF11_5, xF11_6, xF11_7, xF11_8⟩ := F1.ce9
   go_wp2_with fail
   (with_reducible refine (h2 _).mono ?_)
   rintro r w2 ⟨rfl, hb2⟩
   clear xF11_0 xF11_1 xF11_2 xF11_3 xF11_4 xF11_5 xF11_6 xF11_7 xF11_8
   replace F1 := F1.keep hb2
   replace B0 := B0.trans (hb2.mono B0.size)
   clear hb2
   go_wp2
   go_ret
   exact ⟨rfl, B0⟩
  ·cases CA
   ·clear h4
    go_enter Tryz.func64, Tryz.ntmps64
    have B0 := Below.refl w.heap.size w
    have F1 := Blk.put (w) #[.bool gn, .string gS, .int .i64 ge, .bool gm, .string gT, .int .i64 gf, .int .i64 e, .int .i64 a, .int .i64 d] 74
    replace B0 := B0.alloc B0.size (.cells #[.bool gn, .string gS, .int .i64 ge, .bool gm, .string gT, .int .i64 gf, .int .i64 e, .int .i64 a, .int .i64 d] 74)
    obtain ⟨xF10_0, xF10_1, xF10_2, xF10_3, xF10_4, xF10_5, xF10_6, xF10_7, xF10_8⟩ := F1.ce9
    go_wp2_with fail
    (with_reducible refine (h1 _).mono ?_)
    rintro r w1 ⟨rfl, hb1⟩
    clear xF10_0 xF10_1 xF10_2 xF10_3 xF10_4 xF10_5 xF10_6 xF10_7 xF10_8
    replace F1 := F1.keep hb1
    replace B0 := B0.trans (hb1.mono B0.size)
    clear hb1
    obtain ⟨xF11_0, xF11_1, xF11_2, xF11_3, xF11_4, xF11_5, xF11_6, xF11_7, xF11_8⟩ := F1.ce9
    go_wp2_with fail
    (with_reducible refine (h2 _).mono ?_)
    rintro r w2 ⟨rfl, hb2⟩
    clear xF11_0 xF11_1 xF11_2 xF11_3 xF11_4 xF11_5 xF11_6 xF11_7 xF11_8
    replace F1 := F1.keep hb2
    replace B0 := B0.trans (hb2.mono B0.size)
    clear hb2
    obtain ⟨xF12_0, xF12_1, xF12_2, xF12_3, xF12_4, xF12_5, xF12_6, xF12_7, xF12_8⟩ := F1.ce9
    go_wp2_with fail
    (with_reducible refine (h3 _).mono ?_)
    rintro r w3 ⟨rfl, hb3⟩
    clear xF12_0 xF12_1 xF12_2 xF12_3 xF12_4 xF12_5 xF12_6 xF12_7 xF12_8
    replace F1 := F1.keep hb3
    replace B0 := B0.trans (hb3.mono B0.size)
    clear hb3
    go_wp2
    go_ret
    exact ⟨rfl, B0⟩
   ·cases CD
    ·go_enter Tryz.func64, Tryz.ntmps64
     have B0 := Below.refl w.heap.size w
     have F1 := Blk.put (w) #[.bool gn, .string gS, .int .i64 ge, .bool gm, .string gT, .int .i64 gf, .int .i64 e, .int .i64 a, .int .i64 d] 74
     replace B0 := B0.alloc B0.size (.cells #[.bool gn, .string gS, .int .i64 ge, .bool gm, .string gT, .int .i64 gf, .int .i64 e, .int .i64 a, .int .i64 d] 74)
     obtain ⟨xF10_0, xF10_1, xF10_2, xF10_3, xF10_4, xF10_5, xF10_6, xF10_7, xF10_8⟩ := F1.ce9
     go_wp2_with fail
     (with_reducible refine (h1 _).mono ?_)
     rintro r w1 ⟨rfl, hb1⟩
     clear xF10_0 xF10_1 xF10_2 xF10_3 xF10_4 xF10_5 xF10_6 xF10_7 xF10_8
     replace F1 := F1.keep hb1
     replace B0 := B0.trans (hb1.mono B0.size)
     clear hb1
     obtain ⟨xF11_0, xF11_1, xF11_2, xF11_3, xF11_4, xF11_5, xF11_6, xF11_7, xF11_8⟩ := F1.ce9
     go_wp2_with fail
     (with_reducible refine (h2 _).mono ?_)
     rintro r w2 ⟨rfl, hb2⟩
     clear xF11_0 xF11_1 xF11_2 xF11_3 xF11_4 xF11_5 xF11_6 xF11_7 xF11_8
     replace F1 := F1.keep hb2
     replace B0 := B0.trans (hb2.mono B0.size)
     clear hb2
     obtain ⟨xF12_0, xF12_1, xF12_2, xF12_3, xF12_4, xF12_5, xF12_6, xF12_7, xF12_8⟩ := F1.ce9
     go_wp2_with fail
     (with_reducible refine (h3 _).mono ?_)
     rintro r w3 ⟨rfl, hb3⟩
     clear xF12_0 xF12_1 xF12_2 xF12_3 xF12_4 xF12_5 xF12_6 xF12_7 xF12_8
     replace F1 := F1.keep hb3
     replace B0 := B0.trans (hb3.mono B0.size)
     clear hb3
     obtain ⟨xF13_0, xF13_1, xF13_2, xF13_3, xF13_4, xF13_5, xF13_6, xF13_7, xF13_8⟩ := F1.ce9
     go_wp2_with fail
     (with_reducible refine (h4 _).mono ?_)
     rintro r w4 ⟨rfl, hb4⟩
     clear xF13_0 xF13_1 xF13_2 xF13_3 xF13_4 xF13_5 xF13_6 xF13_7 xF13_8
     replace F1 := F1.keep hb4
     replace B0 := B0.trans (hb4.mono B0.size)
     clear hb4
     go_wp2
     go_ret
     exact ⟨rfl, B0⟩
    ·go_enter Tryz.func64, Tryz.ntmps64
     have B0 := Below.refl w.heap.size w
     have F1 := Blk.put (w) #[.bool gn, .string gS, .int .i64 ge, .bool gm, .string gT, .int .i64 gf, .int .i64 e, .int .i64 a, .int .i64 d] 74
     replace B0 := B0.alloc B0.size (.cells #[.bool gn, .string gS, .int .i64 ge, .bool gm, .string gT, .int .i64 gf, .int .i64 e, .int .i64 a, .int .i64 d] 74)
     obtain ⟨xF10_0, xF10_1, xF10_2, xF10_3, xF10_4, xF10_5, xF10_6, xF10_7, xF10_8⟩ := F1.ce9
     go_wp2_with fail
     (with_reducible refine (h1 _).mono ?_)
     rintro r w1 ⟨rfl, hb1⟩
     clear xF10_0 xF10_1 xF10_2 xF10_3 xF10_4 xF10_5 xF10_6 xF10_7 xF10_8
     replace F1 := F1.keep hb1
     replace B0 := B0.trans (hb1.mono B0.size)
     clear hb1
     obtain ⟨xF11_0, xF11_1, xF11_2, xF11_3, xF11_4, xF11_5, xF11_6, xF11_7, xF11_8⟩ := F1.ce9
     go_wp2_with fail
     (with_reducible refine (h2 _).mono ?_)
     rintro r w2 ⟨rfl, hb2⟩
     clear xF11_0 xF11_1 xF11_2 xF11_3 xF11_4 xF11_5 xF11_6 xF11_7 xF11_8
     replace F1 := F1.keep hb2
     replace B0 := B0.trans (hb2.mono B0.size)
     clear hb2
     obtain ⟨xF12_0, xF12_1, xF12_2, xF12_3, xF12_4, xF12_5, xF12_6, xF12_7, xF12_8⟩ := F1.ce9
     go_wp2_with fail
     (with_reducible refine (h3 _).mono ?_)
     rintro r w3 ⟨rfl, hb3⟩
     clear xF12_0 xF12_1 xF12_2 xF12_3 xF12_4 xF12_5 xF12_6 xF12_7 xF12_8
     replace F1 := F1.keep hb3
     replace B0 := B0.trans (hb3.mono B0.size)
     clear hb3
     obtain ⟨xF13_0, xF13_1, xF13_2, xF13_3, xF13_4, xF13_5, xF13_6, xF13_7, xF13_8⟩ := F1.ce9
     go_wp2_with fail
     (with_reducible refine (h4 _).mono ?_)
     rintro r w4 ⟨rfl, hb4⟩
     clear xF13_0 xF13_1 xF13_2 xF13_3 xF13_4 xF13_5 xF13_6 xF13_7 xF13_8
     replace F1 := F1.keep hb4
     replace B0 := B0.trans (hb4.mono B0.size)
     clear hb4
     go_wp2
     go_ret
     exact ⟨rfl, B0⟩

set_option maxRecDepth 10000 in
set_option maxHeartbeats 4000000 in
theorem vright_any (l : DRw) (b : DRw) (e : Int) (w : World) (ok_l : l.fit) (ok_b : b.fit)  :
  Calls Tryz.prog 11 #[.agg #[.bool l.n, .string l.s, .int .i64 l.e, .bool b.n, .string b.s, .int .i64 b.e, .int .i64 e]] w fun r w' => r = .returned (.int .i64 (if sqB l b e = true then 0 else 240)) ∧ Below w.heap.size w w' := by
 have h1 := fun W => check_any l.n l.s l.e W ok_l
 have h2 := fun W => check_any b.n b.s b.e W ok_b
 have h3 := fun W => vside_any e W
 unfold sqB DRw.may
 clear ok_l ok_b
 obtain ⟨ln, lS, le⟩ := l
 obtain ⟨bn, bS, be⟩ := b
 dsimp only at *
 generalize mayB ln lS le = M at *
 generalize mayB bn bS be = N at *
 generalize sideB e = S at *
 cases M
 ·simp only [okE_f] at h1
  clear h2 h3
  go_enter Tryz.func11, Tryz.ntmps11
  have B0 := Below.refl w.heap.size w
  have F1 := Blk.put (w) #[.bool ln, .string lS, .int .i64 le, .bool bn, .string bS, .int .i64 be, .int .i64 e] 26
  replace B0 := B0.alloc B0.size (.cells #[.bool ln, .string lS, .int .i64 le, .bool bn, .string bS, .int .i64 be, .int .i64 e] 26)
  obtain ⟨xF10_0, xF10_1, xF10_2, xF10_3, xF10_4, xF10_5, xF10_6⟩ := F1.ce7
  go_wp2_with fail
  (with_reducible refine (h1 _).mono ?_)
  rintro r w1 ⟨rfl, hb1⟩
  clear xF10_0 xF10_1 xF10_2 xF10_3 xF10_4 xF10_5 xF10_6
  replace F1 := F1.keep hb1
  replace B0 := B0.trans (hb1.mono B0.size)
  clear hb1
  go_wp2
  go_ret
  exact ⟨rfl, B0⟩
 ·simp only [okE_t] at h1
  cases N
  ·simp only [okE_f] at h2
   clear h3
   go_enter Tryz.func11, Tryz.ntmps11
   have B0 := Below.refl w.heap.size w
   have F1 := Blk.put (w) #[.bool ln, .string lS, .int .i64 le, .bool bn, .string bS, .int .i64 be, .int .i64 e] 26
   replace B0 := B0.alloc B0.size (.cells #[.bool ln, .string lS, .int .i64 le, .bool bn, .string bS, .int .i64 be, .int .i64 e] 26)
   obtain ⟨xF10_0, xF10_1, xF10_2, xF10_3, xF10_4, xF10_5, xF10_6⟩ := F1.ce7
   go_wp2_with fail
   (with_reducible refine (h1 _).mono ?_)
   rintro r w1 ⟨rfl, hb1⟩
   clear xF10_0 xF10_1 xF10_2 xF10_3 xF10_4 xF10_5 xF10_6
   replace F1 := F1.keep hb1
   replace B0 := B0.trans (hb1.mono B0.size)
   clear hb1
   obtain ⟨xF11_0, xF11_1, xF11_2, xF11_3, xF11_4, xF11_5, xF11_6⟩ := F1.ce7
   go_wp2_with fail
   (with_reducible refine (h2 _).mono ?_)
   rintro r w2 ⟨rfl, hb2⟩
   clear xF11_0 xF11_1 xF11_2 xF11_3 xF11_4 xF11_5 xF11_6
   replace F1 := F1.keep hb2
   replace B0 := B0.trans (hb2.mono B0.size)
   clear hb2
   go_wp2
   go_ret
   exact ⟨rfl, B0⟩
  ·simp only [okE_t] at h2
   cases S
   ·go_enter Tryz.func11, Tryz.ntmps11
    have B0 := Below.refl w.heap.size w
    have F1 := Blk.put (w) #[.bool ln, .string lS, .int .i64 le, .bool bn, .string bS, .int .i64 be, .int .i64 e] 26
    replace B0 := B0.alloc B0.size (.cells #[.bool ln, .string lS, .int .i64 le, .bool bn, .string bS, .int .i64 be, .int .i64 e] 26)
    obtain ⟨xF10_0, xF10_1, xF10_2, xF10_3, xF10_4, xF10_5, xF10_6⟩ := F1.ce7
    go_wp2_with fail
    (with_reducible refine (h1 _).mono ?_)
    rintro r w1 ⟨rfl, hb1⟩
    clear xF10_0 xF10_1 xF10_2 xF10_3 xF10_4 xF10_5 xF10_6
    replace F1 := F1.keep hb1
    replace B0 := B0.trans (hb1.mono B0.size)
    clear hb1
    obtain ⟨xF11_0, xF11_1, xF11_2, xF11_3, xF11_4, xF11_5, xF11_6⟩ := F1.ce7
    go_wp2_with fail
    (with_reducible refine (h2 _).mono ?_)
    rintro r w2 ⟨rfl, hb2⟩
    clear xF11_0 xF11_1 xF11_2 xF11_3 xF11_4 xF11_5 xF11_6
    replace F1 := F1.keep hb2
    replace B0 := B0.trans (hb2.mono B0.size)
    clear hb2
    obtain ⟨xF12_0, xF12_1, xF12_2, xF12_3, xF12_4, xF12_5, xF12_6⟩ := F1.ce7
    go_wp2_with fail
    (with_reducible refine (h3 _).mono ?_)
    rintro r w3 ⟨rfl, hb3⟩
    clear xF12_0 xF12_1 xF12_2 xF12_3 xF12_4 xF12_5 xF12_6
    replace F1 := F1.keep hb3
    replace B0 := B0.trans (hb3.mono B0.size)
    clear hb3
    go_wp2
    go_ret
    exact ⟨rfl, B0⟩
   ·go_enter Tryz.func11, Tryz.ntmps11
    have B0 := Below.refl w.heap.size w
    have F1 := Blk.put (w) #[.bool ln, .string lS, .int .i64 le, .bool bn, .string bS, .int .i64 be, .int .i64 e] 26
    replace B0 := B0.alloc B0.size (.cells #[.bool ln, .string lS, .int .i64 le, .bool bn, .string bS, .int .i64 be, .int .i64 e] 26)
    obtain ⟨xF10_0, xF10_1, xF10_2, xF10_3, xF10_4, xF10_5, xF10_6⟩ := F1.ce7
    go_wp2_with fail
    (with_reducible refine (h1 _).mono ?_)
    rintro r w1 ⟨rfl, hb1⟩
    clear xF10_0 xF10_1 xF10_2 xF10_3 xF10_4 xF10_5 xF10_6
    replace F1 := F1.keep hb1
    replace B0 := B0.trans (hb1.mono B0.size)
    clear hb1
    obtain ⟨xF11_0, xF11_1, xF11_2, xF11_3, xF11_4, xF11_5, xF11_6⟩ := F1.ce7
    go_wp2_with fail
    (with_reducible refine (h2 _).mono ?_)
    rintro r w2 ⟨rfl, hb2⟩
    clear xF11_0 xF11_1 xF11_2 xF11_3 xF11_4 xF11_5 xF11_6
    replace F1 := F1.keep hb2
    replace B0 := B0.trans (hb2.mono B0.size)
    clear hb2
    obtain ⟨xF12_0, xF12_1, xF12_2, xF12_3, xF12_4, xF12_5, xF12_6⟩ := F1.ce7
    go_wp2_with fail
    (with_reducible refine (h3 _).mono ?_)
    rintro r w3 ⟨rfl, hb3⟩
    clear xF12_0 xF12_1 xF12_2 xF12_3 xF12_4 xF12_5 xF12_6
    replace F1 := F1.keep hb3
    replace B0 := B0.trans (hb3.mono B0.size)
    clear hb3
    go_wp2
    go_ret
    exact ⟨rfl, B0⟩

theorem vright_ok (l b : DY) (e : Int) (w : World) (hl : l.ok) (hb : b.ok) (e1 : -4096 ≤ e) (e2 : e ≤ 4096) :
  Calls Tryz.prog 11 #[.agg #[.bool l.n, .string (bstr l.x), .int .i64 l.e, .bool b.n, .string (bstr b.x), .int .i64 b.e, .int .i64 e]] w fun r w' => r = .returned (.int .i64 0) ∧ Below w.heap.size w w' := by
 have h := vright_any l.raw b.raw e w (DY.raw_fit hl) (DY.raw_fit hb)
 rw [if_pos (by unfold sqB; rw [DY.raw_may hl, DY.raw_may hb, sideB_iff.2 ⟨e1, e2⟩]; rfl)] at h
 exact h
theorem vcheck_ok (g : GY) (e a d : Int) (w : World) (hg : g.ok) (e1 : -4096 ≤ e) (e2 : e ≤ 4096) (a1 : 1 ≤ a) (a2 : a ≤ 65536) (d1 : 1 ≤ d) (d2 : d ≤ 65536) :
  Calls Tryz.prog 64 #[.agg #[.bool g.re.n, .string (bstr g.re.x), .int .i64 g.re.e, .bool g.im.n, .string (bstr g.im.x), .int .i64 g.im.e, .int .i64 e, .int .i64 a, .int .i64 d]] w fun r w' => r = .returned (.int .i64 0) ∧ Below w.heap.size w w' := by
 have h := vcheck_any g.raw e a d w (GY.raw_fit hg)
 rw [if_pos (by unfold winB; rw [GY.raw_may hg, sideB_iff.2 ⟨e1, e2⟩, countB_iff.2 ⟨a1, a2⟩, countB_iff.2 ⟨d1, d2⟩]; rfl)] at h
 exact h

set_option maxRecDepth 10000 in
set_option maxHeartbeats 4000000 in
theorem vmoved_w (d : DY) (n : Int) (e : Int) (p : DY × Int) (R : DY × Int) (E_p : (mkD n e, mkR n e) = p) (E_R : yAdd d p.1 = R) (w : World) (ok_d : d.ok) (n1 : -549755813888 ≤ n) (n2 : n ≤ 549755813888) (e1 : -10000 ≤ e) (e2 : e ≤ 10000) (hp : p.2 = 0) (hT : Tab w) :
  Calls Tryz.prog 52 #[.agg #[.bool d.n, .string (bstr d.x), .int .i64 d.e], .int .i64 n, .int .i64 e] w fun r w' => r = .returned (.tuple #[.agg #[.bool R.1.n, .string (bstr R.1.x), .int .i64 R.1.e], .int .i64 R.2]) ∧ Below w.heap.size w w' := by
 have ok_p : p.1.ok := E_p ▸ mkD_ok _ _
 have h1 := fun W hW => cof n e W hW (by omega) (by omega) (by omega) (by omega)
 rw [E_p] at h1
 have h2 := fun W hW => cadd d p.1 W ok_d ok_p hW
 rw [E_R] at h2
 clear E_p E_R ok_p ok_d
 obtain ⟨dn, dX, de⟩ := d
 obtain ⟨⟨pn, pX, pe⟩, pr⟩ := p
 obtain ⟨⟨Rn, RX, Re⟩, Rr⟩ := R
 dsimp only at *
 generalize bstr dX = dS at *
 generalize bstr pX = pS at *
 generalize bstr RX = RS at *
 have hu : (pr != 0) = false := by simp [hp]
 clear hp n1 n2 e1 e2
 go_enter Tryz.func52, Tryz.ntmps52
 have B0 := Below.refl w.heap.size w
 have F3 := Blk.put (w) #[.bool dn, .string dS, .int .i64 de] 24
 replace B0 := B0.alloc B0.size (.cells #[.bool dn, .string dS, .int .i64 de] 24)
 have q_w_F6 : Hid (w.heap.size ≤ w.heap.size + 1) := Lib.hid (by omega)
 replace F3 := F3.allocd (.cells #[.bool false, .string { data := #[] }, .int .i64 0] 24)
 have F6 := Blk.put ((w).alloc (.cells #[.bool dn, .string dS, .int .i64 de] 24)) #[.bool false, .string { data := #[] }, .int .i64 0] 24
 rw [show ((w).alloc (.cells #[.bool dn, .string dS, .int .i64 de] 24)).heap.size = w.heap.size + 1 by simp] at F6
 replace B0 := B0.alloc B0.size (.cells #[.bool false, .string { data := #[] }, .int .i64 0] 24)
 go_wp2_with fail
 (with_reducible refine (h1 _ (hT.below B0)).mono ?_)
 rintro r w1 ⟨rfl, hb1⟩
 replace F3 := F3.keep hb1
 replace F6 := F6.keep hb1
 replace B0 := B0.trans (hb1.mono B0.size)
 clear hb1
 replace F3 := F3.allocd (.cells #[.bool pn, .string pS, .int .i64 pe] 24)
 replace F6 := F6.allocd (.cells #[.bool pn, .string pS, .int .i64 pe] 24)
 have F8 := Blk.put (w1) #[.bool pn, .string pS, .int .i64 pe] 24
 replace B0 := B0.alloc B0.size (.cells #[.bool pn, .string pS, .int .i64 pe] 24)
 obtain ⟨xF31_0, xF31_1, xF31_2⟩ := F3.ce3
 obtain ⟨xF81_0, xF81_1, xF81_2⟩ := F8.ce3
 go_wp2_with fail
 (with_reducible refine (h2 _ (hT.below B0)).mono ?_)
 rintro r w2 ⟨rfl, hb2⟩
 clear xF31_0 xF31_1 xF31_2 xF81_0 xF81_1 xF81_2
 replace F3 := F3.keep hb2
 replace F6 := F6.keep hb2
 replace F8 := F8.keep hb2
 replace B0 := B0.trans (hb2.mono B0.size)
 clear hb2
 obtain ⟨xF62_0, xF62_1, xF62_2⟩ := F6.ce3
 obtain ⟨xF62_0f, xF62_1f, xF62_2f⟩ := F6.fr3
 clear F3
 clear F8
 replace F6 : Blk ((((w2).setCell ⟨w.heap.size + 1, 0, none⟩ (.bool Rn)).setCell ⟨w.heap.size + 1, 1, none⟩ (.string RS)).setCell ⟨w.heap.size + 1, 2, none⟩ (.int .i64 Re)) (w.heap.size + 1) #[.bool Rn, .string RS, .int .i64 Re] 24 := (((F6.setAt 0 (.bool Rn)).setAt 1 (.string RS)).setAt 2 (.int .i64 Re))
 replace B0 := (((B0.setCell (p := ⟨w.heap.size + 1, 0, none⟩) q_w_F6.out (.bool Rn)).setCell (p := ⟨w.heap.size + 1, 1, none⟩) q_w_F6.out (.string RS)).setCell (p := ⟨w.heap.size + 1, 2, none⟩) q_w_F6.out (.int .i64 Re))
 obtain ⟨xF63_0, xF63_1, xF63_2⟩ := F6.ce3
 go_wp2
 exact bodyPost_ret (v := .tuple #[.agg #[.bool Rn, .string RS, .int .i64 Re], .int .i64 Rr]) (by simp [results, Tryz.results52, go_sem, xF63_0, xF63_1, xF63_2]) rfl ⟨rfl, B0⟩

theorem vmoved (d : DY) (n e : Int) (w : World) (hd : d.ok) (n1 : -549755813888 ≤ n) (n2 : n ≤ 549755813888) (e1 : -10000 ≤ e) (e2 : e ≤ 10000) (hT : Tab w) :
  Calls Tryz.prog 52 #[.agg #[.bool d.n, .string (bstr d.x), .int .i64 d.e], .int .i64 n, .int .i64 e] w fun r w' => r = .returned (.tuple #[.agg #[.bool (vM d n e).1.n, .string (bstr (vM d n e).1.x), .int .i64 (vM d n e).1.e], .int .i64 (vM d n e).2]) ∧ Below w.heap.size w w' :=
 vmoved_w d n e _ _ rfl rfl w hd n1 n2 e1 e2 (unit_r (by omega) (by omega) (by omega)) hT

end Go.Proofs.YtfbkopepkklkjaaGreatDoor
