/- ratio.split. -/
import Derived.Test.YtbhfnigblhfikaaGreatJS
import Derived.Test.YtbhfnigblhfikaaGreatJA
import Derived.WalkMore
namespace Go.Proofs.YtbhfnigblhfikaaGreat
open Go Go.RowKit Go.PlainAid Fil

def splF (g : Nat → Value) : Array Value := #[g 0, g 1, g 2, g 3, g 4, g 5, g 6, g 7, g 8, g 9, g 10, g 11, g 12, g 13, g 14, g 15, g 16, g 17, g 18, g 19, g 20, g 21, g 22, g 23, g 24, g 25, g 26, g 27, g 28, g 29, g 30, g 31, g 32, g 33, g 34, g 35, g 36, g 37, g 38, g 39, g 40, g 41, g 42, g 43, g 44, g 45, g 46, g 47, g 48, g 49, g 50, g 51, g 52, g 53, g 54, g 55, g 56, g 57, g 58, g 59, g 60, g 61, g 62, g 63, g 64, g 65, g 66, g 67, g 68, g 69, g 70, g 71, g 72, g 73, g 74, g 75, g 76, g 77, g 78, g 79, g 80, g 81, g 82, g 83, g 84, g 85, g 86, g 87, g 88, g 89, g 90, g 91, g 92, g 93, g 94, g 95, g 96, g 97, g 98, g 99, g 100, g 101, g 102, g 103, g 104, g 105, g 106, g 107, g 108, g 109, g 110, g 111, g 112, g 113, g 114, g 115, g 116, g 117, g 118, g 119, g 120, g 121, g 122, g 123, g 124, g 125, g 126, g 127, g 128, g 129, g 130, g 131, g 132, g 133, g 134, g 135, g 136, g 137, g 138, g 139]
theorem splF_of (tm : Array Value) (h : tm.size = 140) : splF (fun k => tm.getD k undef) = tm := by
  have e : splF (fun k => tm.getD k undef) = ((List.range 140).map fun k => tm.getD k undef).toArray := rfl
  rw [e]
  apply Array.ext
  · simp [h]
  · intro i h1 h2
    simp [h2]
/-- the frame at a label -/
def splA (s : ByteArray) (B f i : Nat) (u : Nat → Value) : Act := { tmps := #[.string s, u 1, .pointer (some ⟨B, 0, none⟩), .bool false, .pointer (some ⟨B + 1, 0, none⟩), .int .i64 (i : Int), .int .i64 (f : Int), u 7, u 8, u 9, u 10, u 11, u 12, u 13, u 14, u 15, u 16, u 17, u 18, u 19, u 20, u 21, u 22, u 23, u 24, u 25, u 26, u 27, u 28, u 29, u 30, u 31, u 32, u 33, u 34, u 35, u 36, u 37, u 38, u 39, u 40, u 41, u 42, u 43, u 44, u 45, u 46, u 47, u 48, u 49, u 50, u 51, u 52, u 53, u 54, u 55, u 56, u 57, u 58, u 59, u 60, u 61, u 62, u 63, u 64, u 65, u 66, u 67, u 68, u 69, u 70, u 71, u 72, u 73, u 74, u 75, u 76, u 77, u 78, u 79, u 80, u 81, u 82, u 83, u 84, u 85, u 86, u 87, u 88, u 89, u 90, u 91, u 92, u 93, u 94, u 95, u 96, u 97, u 98, u 99, u 100, u 101, u 102, u 103, u 104, u 105, u 106, u 107, u 108, u 109, u 110, u 111, u 112, u 113, u 114, u 115, u 116, u 117, u 118, u 119, u 120, u 121, u 122, u 123, u 124, u 125, u 126, u 127, u 128, u 129, u 130, u 131, u 132, u 133, u 134, u 135, u 136, u 137, u 138, u 139], defers := [] }
theorem splA_of {tm : Array Value} {s : ByteArray} {B f i : Nat} (h : tm.size = 140) (h0 : tm.getD 0 undef = .string s) (h2 : tm.getD 2 undef = .pointer (some ⟨B, 0, none⟩)) (h3 : tm.getD 3 undef = .bool false) (h4 : tm.getD 4 undef = .pointer (some ⟨B + 1, 0, none⟩)) (h5 : tm.getD 5 undef = .int .i64 (i : Int)) (h6 : tm.getD 6 undef = .int .i64 (f : Int)) : ({ tmps := tm, defers := [] } : Act) = splA s B f i fun k => tm.getD k undef := by
  have e := splF_of tm h
  unfold splA
  rw [← h0, ← h2, ← h3, ← h4, ← h5, ← h6]
  exact congrArg (fun t => ({ tmps := t, defers := [] } : Act)) e.symm
def splM (s : ByteArray) (l : Nat) (a : Act) (_ : World) : Nat := (if l = 0 then 3 else if l = 3 then 2 else if l = 2 then 1 else 0) * (s.size + 1) + (s.size - (intOf (a.tmps.getD 5 undef)).toNat)
theorem splM1 (s : ByteArray) (a : Act) (w : World) : splM s 1 a w ≤ s.size := by unfold splM; simp
theorem splM2 (s : ByteArray) (a : Act) (w : World) : s.size < splM s 2 a w ∧ splM s 2 a w ≤ 2 * s.size + 1 := by unfold splM; simp; omega
theorem splM3 (s : ByteArray) (a : Act) (w : World) : 2 * s.size + 1 < splM s 3 a w ∧ splM s 3 a w ≤ 3 * s.size + 2 := by unfold splM; simp; omega
theorem splM0 (s : ByteArray) (a : Act) (w : World) : 3 * s.size + 2 < splM s 0 a w := by unfold splM; simp; omega
def Dcm.cells (d : Dcm) : Array Value := #[.bool d.neg, .bool d.down, .string d.head, .string d.tail, .string d.power]
def ret0 : Array Value := #[.bool false, .bool false, .string ⟨#[]⟩, .string ⟨#[]⟩, .string ⟨#[]⟩]
/-- what holds at a label -/
def splJ (s : ByteArray) (w0 : World) (RES : Dcm × Bool) (l : Nat) (a : Act) (w : World) : Prop :=
  ∃ (d : Dcm) (f i : Nat) (u : Nat → Value), a = splA s w0.heap.size f i u ∧ Blk w w0.heap.size ret0 61 ∧ Blk w (w0.heap.size + 1) d.cells 61 ∧ Below w0.heap.size w0 w ∧ f ≤ i ∧ i ≤ s.size ∧ d.head.size ≤ s.size ∧
    ((l = 0 ∧ d.down = false ∧ HD s d f i = RES) ∨ (l = 3 ∧ d.down = false ∧ TL s d f i = RES) ∨ (l = 2 ∧ d.down = false ∧ i < s.size ∧ PW s d i = RES) ∨ (l = 1 ∧ (d, goodB d.head.data.toList) = RES))
theorem splJ.mk {s : ByteArray} {w0 w : World} {RES : Dcm × Bool} {l : Nat} {tm : Array Value} {B f i : Nat} (d : Dcm) (hB : B = w0.heap.size) (h : tm.size = 140) (h0 : tm.getD 0 undef = .string s) (h2 : tm.getD 2 undef = .pointer (some ⟨B, 0, none⟩)) (h3 : tm.getD 3 undef = .bool false) (h4 : tm.getD 4 undef = .pointer (some ⟨B + 1, 0, none⟩)) (h5 : tm.getD 5 undef = .int .i64 (i : Int)) (h6 : tm.getD 6 undef = .int .i64 (f : Int)) (k1 : Blk w B ret0 61) (k2 : Blk w (B + 1) d.cells 61) (k3 : Below B w0 w) (k4 : f ≤ i) (k5 : i ≤ s.size) (k7 : d.head.size ≤ s.size)
    (k6 : (l = 0 ∧ d.down = false ∧ HD s d f i = RES) ∨ (l = 3 ∧ d.down = false ∧ TL s d f i = RES) ∨ (l = 2 ∧ d.down = false ∧ i < s.size ∧ PW s d i = RES) ∨ (l = 1 ∧ (d, goodB d.head.data.toList) = RES)) : splJ s w0 RES l { tmps := tm, defers := [] } w := by
  subst hB
  exact ⟨d, f, i, _, splA_of h h0 h2 h3 h4 h5 h6, k1, k2, k3, k4, k5, k7, k6⟩
theorem Blk.ce5 {w : World} {b : Nat} {t : TypeId} {v0 v1 v2 v3 v4 : Value} (h : Blk w b #[v0, v1, v2, v3, v4] t) : w.cell? ⟨b, 0, none⟩ = some v0 ∧ w.cell? ⟨b, 1, none⟩ = some v1 ∧ w.cell? ⟨b, 2, none⟩ = some v2 ∧ w.cell? ⟨b, 3, none⟩ = some v3 ∧ w.cell? ⟨b, 4, none⟩ = some v4 := ⟨Blk.at h 0 (by simp), Blk.at h 1 (by simp), Blk.at h 2 (by simp), Blk.at h 3 (by simp), Blk.at h 4 (by simp)⟩
theorem Blk.fr5 {w : World} {b : Nat} {t : TypeId} {v0 v1 v2 v3 v4 : Value} (h : Blk w b #[v0, v1, v2, v3, v4] t) : w.frozen? ⟨b, 0, none⟩ = false ∧ w.frozen? ⟨b, 1, none⟩ = false ∧ w.frozen? ⟨b, 2, none⟩ = false ∧ w.frozen? ⟨b, 3, none⟩ = false ∧ w.frozen? ⟨b, 4, none⟩ = false := ⟨Blk.free h 0, Blk.free h 1, Blk.free h 2, Blk.free h 3, Blk.free h 4⟩

theorem Blk.fill5 {w : World} {b : Nat} {t : TypeId} {v0 v1 v2 v3 v4 : Value} (h : Blk w b #[v0, v1, v2, v3, v4] t) (u0 u1 u2 u3 u4 : Value) :
    Blk (((((w.setCell ⟨b, 0, none⟩ u0).setCell ⟨b, 1, none⟩ u1).setCell ⟨b, 2, none⟩ u2).setCell ⟨b, 3, none⟩ u3).setCell ⟨b, 4, none⟩ u4) b #[u0, u1, u2, u3, u4] t := ((((h.setAt 0 u0).setAt 1 u1).setAt 2 u2).setAt 3 u3).setAt 4 u4
theorem below_fill5 {w0 w : World} {B b : Nat} (h : Below B w0 w) (hB : B ≤ b) (u0 u1 u2 u3 u4 : Value) :
    Below B w0 (((((w.setCell ⟨b, 0, none⟩ u0).setCell ⟨b, 1, none⟩ u1).setCell ⟨b, 2, none⟩ u2).setCell ⟨b, 3, none⟩ u3).setCell ⟨b, 4, none⟩ u4) := ((((h.setCell hB _).setCell hB _).setCell hB _).setCell hB _).setCell hB _
theorem kdigits_as (s : ByteArray) (g : Bool) (w : World) (h1 : s.size ≤ 1000000) (hg : goodB s.data.toList = g) :
    Calls Tryz.prog 26 #[.string s] w fun e w' => ∃ p, e = .returned (.tuple #[.pointer p, .bool g]) ∧ Below w.heap.size w w' := by
  subst hg
  exact kdigits_ok s w h1
theorem ext_size {s : ByteArray} {i j n : Nat} (hs : s.size ≤ n) : (s.extract i j).size ≤ n := by rw [ByteArray.size_extract]; omega
theorem eq_48 {s : ByteArray} {b : Bool} (h : decide (s.data.toList = [48]) = b) : decide (s.toList = [48]) = b := by rw [ByteArray.toList_eq]; exact h

set_option maxRecDepth 1000000 in
set_option maxHeartbeats 40000000 in
theorem ksplit_any (s : ByteArray) (w : World) (h1 : s.size ≤ 1000000) :
    Calls Tryz.prog 30 #[.string s] w fun e w' => e = .returned (.tuple #[(SP s).1.v, .bool (SP s).2]) ∧ Below w.heap.size w w' := by
  go_enter Tryz.func30, Tryz.ntmps30
  go_wp2_with fail
  refine wp_scope4 (splJ s w (SP s)) (splM s) 1 2 3 0 ?_ rfl rfl rfl rfl ?_ ?_ ?_ ?_ ?_
  · rintro l a w' ⟨d, f, i, u, _, _, _, _, _, _, _, ⟨h, _⟩ | ⟨h, _⟩ | ⟨h, _⟩ | ⟨h, _⟩⟩ <;> omega
  · rintro JJ a w' ⟨d, f, i, u, rfl, k1, k2, hb, hfi, his, hhs, ⟨h, _⟩ | ⟨h, _⟩ | ⟨h, _⟩ | ⟨_, hr⟩⟩ HJ
    · omega
    · omega
    · omega
    · obtain ⟨dn, dd, H, T, Q⟩ := d
      have HG := Lib.hid (show (SP s).1.v = .agg #[.bool dn, .bool dd, .string H, .string T, .string Q] ∧ (SP s).2 = goodB H.data.toList from by rw [← hr]; exact ⟨rfl, rfl⟩)
      clear hr
      have hB : w.heap.size + 1 < w'.heap.size := k2.lt
      clear HJ hfi his
      replace hhs : H.size ≤ s.size := hhs
      obtain ⟨c0, c1, c2, c3, c4⟩ := Blk.ce5 k2
      unfold splA
      go_wp2_with fail
      refine (kdigits_ok H _ (by omega)).mono ?_
      rintro e w1 ⟨p, rfl, hb1⟩
      replace k1 := k1.keep hb1
      replace k2 := k2.keep hb1
      replace hb := hb.trans (hb1.mono hb.size)
      clear c0 c1 c2 c3 c4 hb1
      replace hB : w.heap.size + 1 < w1.heap.size := k2.lt
      obtain ⟨c0, c1, c2, c3, c4⟩ := Blk.ce5 k2
      obtain ⟨d0, d1, d2, d3, d4⟩ := Blk.ce5 k1
      obtain ⟨f0, f1, f2, f3, f4⟩ := Blk.fr5 k1
      go_wp2_with fail
      simp only [jumpsQ]
      have kf := Blk.fill5 k1 (.bool dn) (.bool dd) (.string H) (.string T) (.string Q)
      have hbf := below_fill5 hb (Nat.le_refl _) (.bool dn) (.bool dd) (.string H) (.string T) (.string Q)
      clear c0 c1 c2 c3 c4 d0 d1 d2 d3 d4 f0 f1 f2 f3 f4 k1 k2 hb
      generalize (((((w1.setCell ⟨w.heap.size, 0, none⟩ (.bool dn)).setCell ⟨w.heap.size, 1, none⟩ (.bool dd)).setCell ⟨w.heap.size, 2, none⟩ (.string H)).setCell ⟨w.heap.size, 3, none⟩ (.string T)).setCell ⟨w.heap.size, 4, none⟩ (.string Q)) = wf at *
      obtain ⟨c0, c1, c2, c3, c4⟩ := Blk.ce5 kf
      refine bodyPost_ret (v := .tuple #[.agg #[.bool dn, .bool dd, .string H, .string T, .string Q], .bool (goodB H.data.toList)]) (by simp [results, Tryz.results30, go_sem, c0, c1, c2, c3, c4]) rfl ⟨by rw [HG.out.1, HG.out.2], hbf⟩
  · intro P1
    rintro JJ a w' ⟨d, f, i, u, rfl, k1, k2, hb, hfi, his, hhs, ⟨h, _⟩ | ⟨h, _⟩ | ⟨_, hd0, hi, hr⟩ | ⟨h, _⟩⟩ HJ
    · omega
    · omega
    · obtain ⟨dn, dd, H, T, Q⟩ := d
      obtain rfl : dd = false := hd0
      have hB : w.heap.size + 1 < w'.heap.size := k2.lt
      replace hhs : H.size ≤ s.size := hhs
      have HJ' := Lib.hid HJ
      clear HJ
      by_cases he : byt s i = 101
      · by_cases hm : byt s (i + 1) = 45
        · have hl := byt_lt (s := s) (i := i + 1) (by omega)
          rw [PW_down he hm] at hr
          rw [byt_in hi] at he
          rw [byt_in hl] at hm
          have t1 : (((s[i]'hi).toNat : Int) == 101) = true := by rw [he]; rfl
          have t1' : (((s[i]'hi).toNat : Int) != 101) = false := by rw [he]; rfl
          have t2 : (((s[i + 1]'hl).toNat : Int) == 45) = true := by rw [hm]; rfl
          have t3 : decide ((i + 1 : Int) < s.size) = true := decide_eq_true (by omega)
          clear he hm
          obtain ⟨c0, c1, c2, c3, c4⟩ := Blk.ce5 k2
          obtain ⟨f0, f1, f2, f3, f4⟩ := Blk.fr5 k2
          unfold splA
          rcases hgb : goodB (s.extract (i + 1 + 1) s.size).data.toList with _ | _
          · rw [hgb] at hr
            obtain ⟨g, hgf⟩ : ∃ g, g = false := ⟨_, rfl⟩
            have hg : goodB (s.extract (i + 1 + 1) s.size).data.toList = g := by rw [hgb, hgf]
            clear hgb
            have HG := Lib.hid (show (SP s).1.v = .agg #[.bool dn, .bool true, .string H, .string T, .string (s.extract (i + 1 + 1) s.size)] ∧ (SP s).2 = false from by rw [← hr]; exact ⟨rfl, rfl⟩)
            clear hr
            subst hgf
            have Hg := Lib.hid hg
            clear hg
            go_wp2_with fail
            refine (kdigits_as (s.extract (i + 1 + 1) s.size) false _ (ext_size (by omega)) Hg.out).mono ?_
            rintro e w1 ⟨p, rfl, hb1⟩
            have k1b := (Blk.far (Blk.far k1 1 (.bool true) (show w.heap.size ≠ w.heap.size + 1 by omega)) 4 (.string (s.extract (i + 1 + 1) s.size)) (show w.heap.size ≠ w.heap.size + 1 by omega)).keep hb1
            have k2b := ((k2.setAt 1 (.bool true)).setAt 4 (.string (s.extract (i + 1 + 1) s.size))).keep hb1
            have hbb := ((hb.setCell (p := ⟨w.heap.size + 1, 1, none⟩) (by simp) (.bool true)).setCell (p := ⟨w.heap.size + 1, 4, none⟩) (by simp) (.string (s.extract (i + 1 + 1) s.size))).trans (hb1.mono (by simp; omega))
            replace k2b : Blk w1 (w.heap.size + 1) #[.bool dn, .bool true, .string H, .string T, .string (s.extract (i + 1 + 1) s.size)] 61 := k2b
            clear c0 c1 c2 c3 c4 f0 f1 f2 f3 f4 k1 k2 hb hb1 hB
            have k1 := k1b
            have k2 := k2b
            have hb := hbb
            clear k1b k2b hbb
            have hB : w.heap.size + 1 < w1.heap.size := k2.lt
            obtain ⟨c0, c1, c2, c3, c4⟩ := Blk.ce5 k2
            obtain ⟨d0, d1, d2, d3, d4⟩ := Blk.ce5 k1
            obtain ⟨f0, f1, f2, f3, f4⟩ := Blk.fr5 k1
            go_wp2_with fail
            simp only [jumpsQ]
            have kf := Blk.fill5 k1 (.bool dn) (.bool true) (.string H) (.string T) (.string (s.extract (i + 1 + 1) s.size))
            have hbf := below_fill5 hb (Nat.le_refl _) (.bool dn) (.bool true) (.string H) (.string T) (.string (s.extract (i + 1 + 1) s.size))
            clear c0 c1 c2 c3 c4 d0 d1 d2 d3 d4 f0 f1 f2 f3 f4 k1 k2 hb
            generalize (((((w1.setCell ⟨w.heap.size, 0, none⟩ (.bool dn)).setCell ⟨w.heap.size, 1, none⟩ (.bool true)).setCell ⟨w.heap.size, 2, none⟩ (.string H)).setCell ⟨w.heap.size, 3, none⟩ (.string T)).setCell ⟨w.heap.size, 4, none⟩ (.string (s.extract (i + 1 + 1) s.size))) = wf at *
            obtain ⟨c0, c1, c2, c3, c4⟩ := Blk.ce5 kf
            refine bodyPost_ret (v := .tuple #[.agg #[.bool dn, .bool true, .string H, .string T, .string (s.extract (i + 1 + 1) s.size)], .bool false]) (by simp [results, Tryz.results30, go_sem, c0, c1, c2, c3, c4]) rfl ⟨by rw [HG.out.1, HG.out.2], hbf⟩
          · rw [hgb] at hr
            have Hg := Lib.hid hgb
            clear hgb
            by_cases h48 : (s.extract (i + 1 + 1) s.size).data.toList = [48]
            · have e50 : ((s.extract (i + 1 + 1) s.size).toList == [48]) = true := beq_iff_eq.2 (of_decide_eq_true (eq_48 (decide_eq_true h48)))
              have hr2 : (({ neg := dn, down := true, head := H, tail := T, power := (s.extract (i + 1 + 1) s.size) } : Dcm), false) = SP s := by rw [← hr, h48]; rfl
              clear hr h48
              have hr := hr2
              clear hr2
              have HG := Lib.hid (show (SP s).1.v = .agg #[.bool dn, .bool true, .string H, .string T, .string (s.extract (i + 1 + 1) s.size)] ∧ (SP s).2 = false from by rw [← hr]; exact ⟨rfl, rfl⟩)
              clear hr
              go_wp2_with fail
              refine (kdigits_as (s.extract (i + 1 + 1) s.size) true _ (ext_size (by omega)) Hg.out).mono ?_
              rintro e w1 ⟨p, rfl, hb1⟩
              have k1b := (Blk.far (Blk.far k1 1 (.bool true) (show w.heap.size ≠ w.heap.size + 1 by omega)) 4 (.string (s.extract (i + 1 + 1) s.size)) (show w.heap.size ≠ w.heap.size + 1 by omega)).keep hb1
              have k2b := ((k2.setAt 1 (.bool true)).setAt 4 (.string (s.extract (i + 1 + 1) s.size))).keep hb1
              have hbb := ((hb.setCell (p := ⟨w.heap.size + 1, 1, none⟩) (by simp) (.bool true)).setCell (p := ⟨w.heap.size + 1, 4, none⟩) (by simp) (.string (s.extract (i + 1 + 1) s.size))).trans (hb1.mono (by simp; omega))
              replace k2b : Blk w1 (w.heap.size + 1) #[.bool dn, .bool true, .string H, .string T, .string (s.extract (i + 1 + 1) s.size)] 61 := k2b
              clear c0 c1 c2 c3 c4 f0 f1 f2 f3 f4 k1 k2 hb hb1 hB
              have k1 := k1b
              have k2 := k2b
              have hb := hbb
              clear k1b k2b hbb
              have hB : w.heap.size + 1 < w1.heap.size := k2.lt
              obtain ⟨c0, c1, c2, c3, c4⟩ := Blk.ce5 k2
              obtain ⟨d0, d1, d2, d3, d4⟩ := Blk.ce5 k1
              obtain ⟨f0, f1, f2, f3, f4⟩ := Blk.fr5 k1
              go_wp2_with fail
              simp only [jumpsQ]
              have kf := Blk.fill5 k1 (.bool dn) (.bool true) (.string H) (.string T) (.string (s.extract (i + 1 + 1) s.size))
              have hbf := below_fill5 hb (Nat.le_refl _) (.bool dn) (.bool true) (.string H) (.string T) (.string (s.extract (i + 1 + 1) s.size))
              clear c0 c1 c2 c3 c4 d0 d1 d2 d3 d4 f0 f1 f2 f3 f4 k1 k2 hb
              generalize (((((w1.setCell ⟨w.heap.size, 0, none⟩ (.bool dn)).setCell ⟨w.heap.size, 1, none⟩ (.bool true)).setCell ⟨w.heap.size, 2, none⟩ (.string H)).setCell ⟨w.heap.size, 3, none⟩ (.string T)).setCell ⟨w.heap.size, 4, none⟩ (.string (s.extract (i + 1 + 1) s.size))) = wf at *
              obtain ⟨c0, c1, c2, c3, c4⟩ := Blk.ce5 kf
              refine bodyPost_ret (v := .tuple #[.agg #[.bool dn, .bool true, .string H, .string T, .string (s.extract (i + 1 + 1) s.size)], .bool false]) (by simp [results, Tryz.results30, go_sem, c0, c1, c2, c3, c4]) rfl ⟨by rw [HG.out.1, HG.out.2], hbf⟩
            · have e50 : ((s.extract (i + 1 + 1) s.size).toList == [48]) = false := beq_eq_false_iff_ne.2 (of_decide_eq_false (eq_48 (decide_eq_false h48)))
              have hr2 : (({ neg := dn, down := true, head := H, tail := T, power := (s.extract (i + 1 + 1) s.size) } : Dcm), goodB H.data.toList) = SP s := by rw [← hr, beq_eq_false_iff_ne.2 h48]; rfl
              have HR := Lib.hid hr2
              clear hr h48 hr2
              go_wp2_with fail
              refine (kdigits_as (s.extract (i + 1 + 1) s.size) true _ (ext_size (by omega)) Hg.out).mono ?_
              rintro e w1 ⟨p, rfl, hb1⟩
              have k1b := (Blk.far (Blk.far k1 1 (.bool true) (show w.heap.size ≠ w.heap.size + 1 by omega)) 4 (.string (s.extract (i + 1 + 1) s.size)) (show w.heap.size ≠ w.heap.size + 1 by omega)).keep hb1
              have k2b := ((k2.setAt 1 (.bool true)).setAt 4 (.string (s.extract (i + 1 + 1) s.size))).keep hb1
              have hbb := ((hb.setCell (p := ⟨w.heap.size + 1, 1, none⟩) (by simp) (.bool true)).setCell (p := ⟨w.heap.size + 1, 4, none⟩) (by simp) (.string (s.extract (i + 1 + 1) s.size))).trans (hb1.mono (by simp; omega))
              replace k2b : Blk w1 (w.heap.size + 1) #[.bool dn, .bool true, .string H, .string T, .string (s.extract (i + 1 + 1) s.size)] 61 := k2b
              clear c0 c1 c2 c3 c4 f0 f1 f2 f3 f4 k1 k2 hb hb1 hB
              have k1 := k1b
              have k2 := k2b
              have hb := hbb
              clear k1b k2b hbb
              have hB : w.heap.size + 1 < w1.heap.size := k2.lt
              obtain ⟨c0, c1, c2, c3, c4⟩ := Blk.ce5 k2
              go_wp2_with fail
              go_step3
              go_step
              apply_assumption
              refine P1 _ _ _ ?_ fun l' a' w9 hJ hlt => HJ'.out l' a' w9 hJ (Nat.lt_of_lt_of_le hlt (Nat.le_trans (splM1 _ _ _) (Nat.le_of_lt (splM2 _ _ _).1)))
              exact splJ.mk (f := f) (i := (i + 1 + 1)) ⟨dn, true, H, T, (s.extract (i + 1 + 1) s.size)⟩ rfl rfl rfl rfl rfl rfl (congrArg (Value.int .i64) (show (i : Int) + 1 + 1 = ((i + 1 + 1 : Nat) : Int) by omega)) rfl k1 k2 hb (by omega) (by omega) hhs (.inr (.inr (.inr ⟨rfl, HR.out⟩)))
        · rw [PW_up he hm] at hr
          rw [byt_in hi] at he
          have t1 : (((s[i]'hi).toNat : Int) == 101) = true := by rw [he]; rfl
          have t1' : (((s[i]'hi).toNat : Int) != 101) = false := by rw [he]; rfl
          have hm2 : (∃ hl : i + 1 < s.size, (((s[i + 1]'hl).toNat : Int) == 45) = false ∧ decide ((i + 1 : Int) < s.size) = true) ∨ (s.size ≤ i + 1 ∧ decide ((i + 1 : Int) < s.size) = false) := by
            rcases Nat.lt_or_ge (i + 1) s.size with hl | hl
            · left
              rw [byt_in hl] at hm
              exact ⟨hl, beq_eq_false_iff_ne.2 (by omega), decide_eq_true (by omega)⟩
            · right; exact ⟨hl, decide_eq_false (by omega)⟩
          clear he hm
          rcases hm2 with ⟨hl, t2, t3⟩ | ⟨hl, t3⟩
          all_goals
            obtain ⟨c0, c1, c2, c3, c4⟩ := Blk.ce5 k2
            obtain ⟨f0, f1, f2, f3, f4⟩ := Blk.fr5 k2
            unfold splA
            rcases hgb : goodB (s.extract (i + 1) s.size).data.toList with _ | _
            · rw [hgb] at hr
              obtain ⟨g, hgf⟩ : ∃ g, g = false := ⟨_, rfl⟩
              have hg : goodB (s.extract (i + 1) s.size).data.toList = g := by rw [hgb, hgf]
              clear hgb
              have HG := Lib.hid (show (SP s).1.v = .agg #[.bool dn, .bool false, .string H, .string T, .string (s.extract (i + 1) s.size)] ∧ (SP s).2 = false from by rw [← hr]; exact ⟨rfl, rfl⟩)
              clear hr
              subst hgf
              have Hg := Lib.hid hg
              clear hg
              go_wp2_with fail
              refine (kdigits_as (s.extract (i + 1) s.size) false _ (ext_size (by omega)) Hg.out).mono ?_
              rintro e w1 ⟨p, rfl, hb1⟩
              have k1b := (Blk.far k1 4 (.string (s.extract (i + 1) s.size)) (show w.heap.size ≠ w.heap.size + 1 by omega)).keep hb1
              have k2b := (k2.setAt 4 (.string (s.extract (i + 1) s.size))).keep hb1
              have hbb := (hb.setCell (p := ⟨w.heap.size + 1, 4, none⟩) (by simp) (.string (s.extract (i + 1) s.size))).trans (hb1.mono (by simp; omega))
              replace k2b : Blk w1 (w.heap.size + 1) #[.bool dn, .bool false, .string H, .string T, .string (s.extract (i + 1) s.size)] 61 := k2b
              clear c0 c1 c2 c3 c4 f0 f1 f2 f3 f4 k1 k2 hb hb1 hB
              have k1 := k1b
              have k2 := k2b
              have hb := hbb
              clear k1b k2b hbb
              have hB : w.heap.size + 1 < w1.heap.size := k2.lt
              obtain ⟨c0, c1, c2, c3, c4⟩ := Blk.ce5 k2
              obtain ⟨d0, d1, d2, d3, d4⟩ := Blk.ce5 k1
              obtain ⟨f0, f1, f2, f3, f4⟩ := Blk.fr5 k1
              go_wp2_with fail
              simp only [jumpsQ]
              have kf := Blk.fill5 k1 (.bool dn) (.bool false) (.string H) (.string T) (.string (s.extract (i + 1) s.size))
              have hbf := below_fill5 hb (Nat.le_refl _) (.bool dn) (.bool false) (.string H) (.string T) (.string (s.extract (i + 1) s.size))
              clear c0 c1 c2 c3 c4 d0 d1 d2 d3 d4 f0 f1 f2 f3 f4 k1 k2 hb
              generalize (((((w1.setCell ⟨w.heap.size, 0, none⟩ (.bool dn)).setCell ⟨w.heap.size, 1, none⟩ (.bool false)).setCell ⟨w.heap.size, 2, none⟩ (.string H)).setCell ⟨w.heap.size, 3, none⟩ (.string T)).setCell ⟨w.heap.size, 4, none⟩ (.string (s.extract (i + 1) s.size))) = wf at *
              obtain ⟨c0, c1, c2, c3, c4⟩ := Blk.ce5 kf
              refine bodyPost_ret (v := .tuple #[.agg #[.bool dn, .bool false, .string H, .string T, .string (s.extract (i + 1) s.size)], .bool false]) (by simp [results, Tryz.results30, go_sem, c0, c1, c2, c3, c4]) rfl ⟨by rw [HG.out.1, HG.out.2], hbf⟩
            · rw [hgb, Bool.true_and] at hr
              have Hg := Lib.hid hgb
              have HR := Lib.hid hr
              clear hgb hr
              go_wp2_with fail
              refine (kdigits_as (s.extract (i + 1) s.size) true _ (ext_size (by omega)) Hg.out).mono ?_
              rintro e w1 ⟨p, rfl, hb1⟩
              have k1b := (Blk.far k1 4 (.string (s.extract (i + 1) s.size)) (show w.heap.size ≠ w.heap.size + 1 by omega)).keep hb1
              have k2b := (k2.setAt 4 (.string (s.extract (i + 1) s.size))).keep hb1
              have hbb := (hb.setCell (p := ⟨w.heap.size + 1, 4, none⟩) (by simp) (.string (s.extract (i + 1) s.size))).trans (hb1.mono (by simp; omega))
              replace k2b : Blk w1 (w.heap.size + 1) #[.bool dn, .bool false, .string H, .string T, .string (s.extract (i + 1) s.size)] 61 := k2b
              clear c0 c1 c2 c3 c4 f0 f1 f2 f3 f4 k1 k2 hb hb1 hB
              have k1 := k1b
              have k2 := k2b
              have hb := hbb
              clear k1b k2b hbb
              have hB : w.heap.size + 1 < w1.heap.size := k2.lt
              obtain ⟨c0, c1, c2, c3, c4⟩ := Blk.ce5 k2
              go_wp2_with fail
              go_step3
              go_step
              apply_assumption
              refine P1 _ _ _ ?_ fun l' a' w9 hJ hlt => HJ'.out l' a' w9 hJ (Nat.lt_of_lt_of_le hlt (Nat.le_trans (splM1 _ _ _) (Nat.le_of_lt (splM2 _ _ _).1)))
              exact splJ.mk (f := f) (i := (i + 1)) ⟨dn, false, H, T, (s.extract (i + 1) s.size)⟩ rfl rfl rfl rfl rfl rfl (congrArg (Value.int .i64) (show (i : Int) + 1 = ((i + 1 : Nat) : Int) by omega)) rfl k1 k2 hb (by omega) (by omega) hhs (.inr (.inr (.inr ⟨rfl, HR.out⟩)))
      · rw [PW_not he] at hr
        rw [byt_in hi] at he
        have t1 : (((s[i]'hi).toNat : Int) == 101) = false := beq_eq_false_iff_ne.2 (by omega)
        have t1' : (((s[i]'hi).toNat : Int) != 101) = true := bne_iff_ne.2 (by omega)
        clear he
        have HG := Lib.hid (show (SP s).1.v = .agg #[.bool dn, .bool false, .string H, .string T, .string Q] ∧ (SP s).2 = false from by rw [← hr]; exact ⟨rfl, rfl⟩)
        clear hr
        obtain ⟨c0, c1, c2, c3, c4⟩ := Blk.ce5 k2
        unfold splA
        obtain ⟨d0, d1, d2, d3, d4⟩ := Blk.ce5 k1
        obtain ⟨f0, f1, f2, f3, f4⟩ := Blk.fr5 k1
        go_wp2_with fail
        simp only [jumpsQ]
        have kf := Blk.fill5 k1 (.bool dn) (.bool false) (.string H) (.string T) (.string Q)
        have hbf := below_fill5 hb (Nat.le_refl _) (.bool dn) (.bool false) (.string H) (.string T) (.string Q)
        clear c0 c1 c2 c3 c4 d0 d1 d2 d3 d4 f0 f1 f2 f3 f4 k1 k2 hb
        generalize (((((w'.setCell ⟨w.heap.size, 0, none⟩ (.bool dn)).setCell ⟨w.heap.size, 1, none⟩ (.bool false)).setCell ⟨w.heap.size, 2, none⟩ (.string H)).setCell ⟨w.heap.size, 3, none⟩ (.string T)).setCell ⟨w.heap.size, 4, none⟩ (.string Q)) = wf at *
        obtain ⟨c0, c1, c2, c3, c4⟩ := Blk.ce5 kf
        refine bodyPost_ret (v := .tuple #[.agg #[.bool dn, .bool false, .string H, .string T, .string Q], .bool false]) (by simp [results, Tryz.results30, go_sem, c0, c1, c2, c3, c4]) rfl ⟨by rw [HG.out.1, HG.out.2], hbf⟩
    · omega
  · intro P1 P2
    rintro JJ a w' ⟨d, f, i, u, rfl, k1, k2, hb, hfi, his, hhs, ⟨h, _⟩ | ⟨_, hd0, hr⟩ | ⟨h, _⟩ | ⟨h, _⟩⟩ HJ
    · omega
    · obtain ⟨dn, dd, H, T, Q⟩ := d
      obtain rfl : dd = false := hd0
      have hB : w.heap.size + 1 < w'.heap.size := k2.lt
      replace hhs : H.size ≤ s.size := hhs
      have HJ' := Lib.hid HJ
      clear HJ
      by_cases hdg : dgt s i
      · rw [TL_dig hdg] at hr
        have hl := dgt_lt hdg
        obtain ⟨hg1, hg2⟩ := hdg
        rw [byt_in hl] at hg1 hg2
        have HR := Lib.hid hr
        clear hr
        have t1 : decide (i < s.size) = true := decide_eq_true hl
        have t2 : decide ((48 : Int) ≤ ((s[i]'hl).toNat : Int)) = true := decide_eq_true (by omega)
        have t3 : decide (((s[i]'hl).toNat : Int) ≤ 57) = true := decide_eq_true (by omega)
        unfold splA
        go_wp2_with fail
        go_step3
        refine HJ'.out 3 _ _ (splJ.mk (f := f) (i := i + 1) ⟨dn, false, H, T, Q⟩ rfl rfl rfl rfl rfl rfl (congrArg (Value.int .i64) (show (i : Int) + 1 = ((i + 1 : Nat) : Int) by omega)) rfl k1 k2 hb (by omega) (by omega) hhs (.inr (.inl ⟨rfl, rfl, HR.out⟩))) ?_
        simp [splM, intOf, splA]
        omega
      · have hnd : (∃ hl : i < s.size, decide (i < s.size) = true ∧ (decide ((48 : Int) ≤ ((s[i]'hl).toNat : Int)) = false ∨ (decide ((48 : Int) ≤ ((s[i]'hl).toNat : Int)) = true ∧ decide (((s[i]'hl).toNat : Int) ≤ 57) = false))) ∨ (s.size ≤ i ∧ decide (i < s.size) = false) := by
          rcases Nat.lt_or_ge i s.size with hl | hl
          · left
            refine ⟨hl, decide_eq_true hl, ?_⟩
            by_cases h48 : 48 ≤ (s[i]'hl).toNat
            · right
              refine ⟨decide_eq_true (by omega), decide_eq_false fun h => hdg ?_⟩
              unfold dgt; rw [byt_in hl]; omega
            · left; exact decide_eq_false (by omega)
          · right; exact ⟨hl, decide_eq_false (by omega)⟩
        by_cases hfe : i = f
        · subst hfe
          rw [TL_none hdg] at hr
          have hT : s.extract i i = ByteArray.empty := by simp
          rw [hT] at hr
          clear hT
          have HG := Lib.hid (show (SP s).1.v = .agg #[.bool dn, .bool false, .string H, .string ByteArray.empty, .string Q] ∧ (SP s).2 = false from by rw [← hr]; exact ⟨rfl, rfl⟩)
          clear hr
          clear hdg
          rcases hnd with ⟨hl, t1, t2 | ⟨t2, t3⟩⟩ | ⟨hl, t1⟩
          all_goals
            obtain ⟨c0, c1, c2, c3, c4⟩ := Blk.ce5 k2
            obtain ⟨f0, f1, f2, f3, f4⟩ := Blk.fr5 k2
            unfold splA
            obtain ⟨d0, d1, d2, d3, d4⟩ := Blk.ce5 k1
            obtain ⟨g0, g1, g2, g3, g4⟩ := Blk.fr5 k1
            go_wp2_with fail
            simp only [jumpsQ]
            have kf := Blk.fill5 (Blk.far k1 3 (.string ByteArray.empty) (show w.heap.size ≠ w.heap.size + 1 by omega)) (.bool dn) (.bool false) (.string H) (.string ByteArray.empty) (.string Q)
            have hbf := below_fill5 (hb.setCell (p := ⟨w.heap.size + 1, 3, none⟩) (by simp) (.string ByteArray.empty)) (Nat.le_refl _) (.bool dn) (.bool false) (.string H) (.string ByteArray.empty) (.string Q)
            clear c0 c1 c2 c3 c4 d0 d1 d2 d3 d4 f0 f1 f2 f3 f4 g0 g1 g2 g3 g4 k1 k2 hb
            generalize ((((((w'.setCell ⟨w.heap.size + 1, 3, none⟩ (.string ByteArray.empty)).setCell ⟨w.heap.size, 0, none⟩ (.bool dn)).setCell ⟨w.heap.size, 1, none⟩ (.bool false)).setCell ⟨w.heap.size, 2, none⟩ (.string H)).setCell ⟨w.heap.size, 3, none⟩ (.string ByteArray.empty)).setCell ⟨w.heap.size, 4, none⟩ (.string Q)) = wf at *
            obtain ⟨c0, c1, c2, c3, c4⟩ := Blk.ce5 kf
            refine bodyPost_ret (v := .tuple #[.agg #[.bool dn, .bool false, .string H, .string ByteArray.empty, .string Q], .bool false]) (by simp [results, Tryz.results30, go_sem, c0, c1, c2, c3, c4]) rfl ⟨by rw [HG.out.1, HG.out.2], hbf⟩
        · have hne := str_cons (s := s.extract f i) (by rw [ByteArray.size_extract]; omega)
          rcases hnd with ⟨hl, t1, h23⟩ | ⟨hl, t1⟩
          · rw [TL_pw hdg hfe (by omega)] at hr
            have HR := Lib.hid hr
            have t4 : (i == s.size) = false := beq_eq_false_iff_ne.2 (by omega)
            clear hr hdg hfe
            rcases h23 with t2 | ⟨t2, t3⟩
            all_goals
              obtain ⟨c0, c1, c2, c3, c4⟩ := Blk.ce5 k2
              obtain ⟨f0, f1, f2, f3, f4⟩ := Blk.fr5 k2
              unfold splA
              go_wp2_with fail
              go_step3
              go_step
              apply_assumption
              refine P2 _ _ _ ?_ fun l' a' w9 hJ hlt => HJ'.out l' a' w9 hJ (Nat.lt_of_lt_of_le hlt (Nat.le_trans (splM2 _ _ _).2 (Nat.le_of_lt (splM3 _ _ _).1)))
              exact splJ.mk (f := f) (i := i) ⟨dn, false, H, (s.extract f i), Q⟩ rfl rfl rfl rfl rfl rfl rfl rfl (Blk.far k1 3 (.string (s.extract f i)) (show w.heap.size ≠ w.heap.size + 1 by omega)) (k2.setAt 3 (.string (s.extract f i))) (hb.setCell (p := ⟨w.heap.size + 1, 3, none⟩) (by simp) (.string (s.extract f i))) (by omega) (by omega) hhs (.inr (.inr (.inl ⟨rfl, rfl, hl, HR.out⟩)))
          · obtain rfl : i = s.size := by omega
            rw [TL_end hdg hfe rfl] at hr
            have HR := Lib.hid hr
            clear hr hdg hfe
            obtain ⟨c0, c1, c2, c3, c4⟩ := Blk.ce5 k2
            obtain ⟨f0, f1, f2, f3, f4⟩ := Blk.fr5 k2
            unfold splA
            go_wp2_with fail
            go_step3
            exact HJ'.out 1 _ _ (splJ.mk (f := f) (i := s.size) ⟨dn, false, H, (s.extract f s.size), Q⟩ rfl rfl rfl rfl rfl rfl rfl rfl (Blk.far k1 3 (.string (s.extract f s.size)) (show w.heap.size ≠ w.heap.size + 1 by omega)) (k2.setAt 3 (.string (s.extract f s.size))) (hb.setCell (p := ⟨w.heap.size + 1, 3, none⟩) (by simp) (.string (s.extract f s.size))) (by omega) (by omega) hhs (.inr (.inr (.inr ⟨rfl, HR.out⟩)))) (by have h1 := splM1 s; have h3 := splM3 s; exact Nat.lt_of_le_of_lt (h1 _ _) (Nat.lt_of_le_of_lt (by omega) (h3 _ _).1))
    · omega
    · omega
  · intro P1 P2 P3
    rintro JJ a w' ⟨d, f, i, u, rfl, k1, k2, hb, hfi, his, hhs, ⟨_, hd0, hr⟩ | ⟨h, _⟩ | ⟨h, _⟩ | ⟨h, _⟩⟩ HJ
    · obtain ⟨dn, dd, H, T, Q⟩ := d
      obtain rfl : dd = false := hd0
      have hB : w.heap.size + 1 < w'.heap.size := k2.lt
      replace hhs : H.size ≤ s.size := hhs
      have HJ' := Lib.hid HJ
      clear HJ
      by_cases hdg : dgt s i
      · rw [HD_dig hdg] at hr
        have hl := dgt_lt hdg
        obtain ⟨hg1, hg2⟩ := hdg
        rw [byt_in hl] at hg1 hg2
        have HR := Lib.hid hr
        clear hr
        have t1 : decide (i < s.size) = true := decide_eq_true hl
        have t2 : decide ((48 : Int) ≤ ((s[i]'hl).toNat : Int)) = true := decide_eq_true (by omega)
        have t3 : decide (((s[i]'hl).toNat : Int) ≤ 57) = true := decide_eq_true (by omega)
        unfold splA
        go_wp2_with fail
        go_step3
        refine HJ'.out 0 _ _ (splJ.mk (f := f) (i := i + 1) ⟨dn, false, H, T, Q⟩ rfl rfl rfl rfl rfl rfl (congrArg (Value.int .i64) (show (i : Int) + 1 = ((i + 1 : Nat) : Int) by omega)) rfl k1 k2 hb (by omega) (by omega) hhs (.inl ⟨rfl, rfl, HR.out⟩)) ?_
        simp [splM, intOf, splA]
        omega
      · have hnd : (∃ hl : i < s.size, decide (i < s.size) = true ∧ (decide ((48 : Int) ≤ ((s[i]'hl).toNat : Int)) = false ∨ (decide ((48 : Int) ≤ ((s[i]'hl).toNat : Int)) = true ∧ decide (((s[i]'hl).toNat : Int) ≤ 57) = false))) ∨ (s.size ≤ i ∧ decide (i < s.size) = false) := by
          rcases Nat.lt_or_ge i s.size with hl | hl
          · left
            refine ⟨hl, decide_eq_true hl, ?_⟩
            by_cases h48 : 48 ≤ (s[i]'hl).toNat
            · right
              refine ⟨decide_eq_true (by omega), decide_eq_false fun h => hdg ?_⟩
              unfold dgt; rw [byt_in hl]; omega
            · left; exact decide_eq_false (by omega)
          · right; exact ⟨hl, decide_eq_false (by omega)⟩
        rcases hnd with ⟨hl, t1, h23⟩ | ⟨hl, t1⟩
        · have t4 : (i == s.size) = false := beq_eq_false_iff_ne.2 (by omega)
          by_cases h46 : byt s i = 46
          · rw [HD_pt h46] at hr
            have HR := Lib.hid hr
            rw [byt_in hl] at h46
            have t5 : (((s[i]'hl).toNat : Int) != 46) = false := by rw [h46]; rfl
            have t2 : decide ((48 : Int) ≤ ((s[i]'hl).toNat : Int)) = false := decide_eq_false (by omega)
            clear hr hdg h23 h46
            obtain ⟨c0, c1, c2, c3, c4⟩ := Blk.ce5 k2
            obtain ⟨f0, f1, f2, f3, f4⟩ := Blk.fr5 k2
            unfold splA
            go_wp2_with fail
            go_step3
            go_step
            apply_assumption
            refine P3 _ _ _ ?_ fun l' a' w9 hJ hlt => HJ'.out l' a' w9 hJ (Nat.lt_of_lt_of_le hlt (Nat.le_trans (splM3 _ _ _).2 (Nat.le_of_lt (splM0 _ _ _))))
            exact splJ.mk (f := (i + 1)) (i := (i + 1)) ⟨dn, false, (s.extract f i), T, Q⟩ rfl rfl rfl rfl rfl rfl (congrArg (Value.int .i64) (show (i : Int) + 1 = ((i + 1 : Nat) : Int) by omega)) (congrArg (Value.int .i64) (show (i : Int) + 1 = ((i + 1 : Nat) : Int) by omega)) (Blk.far k1 2 (.string (s.extract f i)) (show w.heap.size ≠ w.heap.size + 1 by omega)) (k2.setAt 2 (.string (s.extract f i))) (hb.setCell (p := ⟨w.heap.size + 1, 2, none⟩) (by simp) (.string (s.extract f i))) (by omega) (by omega) (ext_size (Nat.le_refl _)) (.inr (.inl ⟨rfl, rfl, HR.out⟩))
          · rw [HD_pw hdg (by omega) h46] at hr
            have HR := Lib.hid hr
            rw [byt_in hl] at h46
            have t5 : (((s[i]'hl).toNat : Int) != 46) = true := bne_iff_ne.2 (by omega)
            clear hr hdg h46
            rcases h23 with t2 | ⟨t2, t3⟩
            all_goals
              obtain ⟨c0, c1, c2, c3, c4⟩ := Blk.ce5 k2
              obtain ⟨f0, f1, f2, f3, f4⟩ := Blk.fr5 k2
              unfold splA
              go_wp2_with fail
              go_step3
              exact HJ'.out 2 _ _ (splJ.mk (f := f) (i := i) ⟨dn, false, (s.extract f i), T, Q⟩ rfl rfl rfl rfl rfl rfl rfl rfl (Blk.far k1 2 (.string (s.extract f i)) (show w.heap.size ≠ w.heap.size + 1 by omega)) (k2.setAt 2 (.string (s.extract f i))) (hb.setCell (p := ⟨w.heap.size + 1, 2, none⟩) (by simp) (.string (s.extract f i))) (by omega) (by omega) (ext_size (Nat.le_refl _)) (.inr (.inr (.inl ⟨rfl, rfl, hl, HR.out⟩)))) (by have h1 := splM2 s; have h3 := splM0 s; exact Nat.lt_of_le_of_lt (h1 _ _).2 (Nat.lt_of_le_of_lt (by omega) (h3 _ _)))
        · obtain rfl : i = s.size := by omega
          rw [HD_end hdg rfl] at hr
          have HR := Lib.hid hr
          clear hr hdg
          obtain ⟨c0, c1, c2, c3, c4⟩ := Blk.ce5 k2
          obtain ⟨f0, f1, f2, f3, f4⟩ := Blk.fr5 k2
          unfold splA
          go_wp2_with fail
          go_step3
          exact HJ'.out 1 _ _ (splJ.mk (f := f) (i := s.size) ⟨dn, false, (s.extract f s.size), T, Q⟩ rfl rfl rfl rfl rfl rfl rfl rfl (Blk.far k1 2 (.string (s.extract f s.size)) (show w.heap.size ≠ w.heap.size + 1 by omega)) (k2.setAt 2 (.string (s.extract f s.size))) (hb.setCell (p := ⟨w.heap.size + 1, 2, none⟩) (by simp) (.string (s.extract f s.size))) (by omega) (by omega) (ext_size (Nat.le_refl _)) (.inr (.inr (.inr ⟨rfl, HR.out⟩)))) (by have h1 := splM1 s; have h3 := splM0 s; exact Nat.lt_of_le_of_lt (h1 _ _) (Nat.lt_of_le_of_lt (by omega) (h3 _ _)))
    · omega
    · omega
    · omega
  · intro P4
    by_cases hm : byt s 0 = 45
    · have hlt := byt_lt (s := s) (i := 0) (by omega)
      have hJ : HD s (dcm0 true) 1 1 = SP s := by unfold SP; rw [if_pos hm]
      rw [byt_in hlt] at hm
      have t1 : decide ((0 : Int) < s.size) = true := decide_eq_true (by omega)
      have t2 : (((s[0]'hlt).toNat : Int) == 45) = true := by rw [hm]; rfl
      have HJ := Lib.hid hJ
      clear hJ
      go_wp2_with fail
      go_step3
      go_step
      apply_assumption
      refine P4 _ _ _ ?_ fun _ _ _ h _ => h
      have kk := Blk.put w ret0 61
      exact splJ.mk (i := 1) (f := 1) (dcm0 true) rfl rfl rfl rfl rfl rfl rfl rfl (kk.allocd _) (by have := Blk.put (w.alloc (.cells ret0 61)) (dcm0 true).cells 61; rw [show (w.alloc (.cells ret0 61)).heap.size = w.heap.size + 1 by simp] at this; exact this) (((Below.refl _ _).alloc (Nat.le_refl _) _).alloc (by simp) _) (Nat.le_refl _) (by omega) (Nat.zero_le _) (.inl ⟨rfl, rfl, HJ.out⟩)
    · have hJ : HD s (dcm0 false) 0 0 = SP s := by unfold SP; rw [if_neg hm]
      have HJ := Lib.hid hJ
      have hm2 : (∃ hl : 0 < s.size, (((s[0]'hl).toNat : Int) == 45) = false ∧ decide ((0 : Int) < s.size) = true) ∨ (s.size ≤ 0 ∧ decide ((0 : Int) < s.size) = false) := by
        rcases Nat.lt_or_ge 0 s.size with hl | hl
        · left
          rw [byt_in hl] at hm
          exact ⟨hl, beq_eq_false_iff_ne.2 (by omega), decide_eq_true (by omega)⟩
        · right; exact ⟨hl, decide_eq_false (by omega)⟩
      clear hJ hm
      rcases hm2 with ⟨hl, t2, t3⟩ | ⟨hl, t3⟩
      all_goals
        go_wp2_with fail
        go_step3
        go_step
        apply_assumption
        refine P4 _ _ _ ?_ fun _ _ _ h _ => h
        have kk := Blk.put w ret0 61
        exact splJ.mk (i := 0) (f := 0) (dcm0 false) rfl rfl rfl rfl rfl rfl rfl rfl (kk.allocd _) (by have := Blk.put (w.alloc (.cells ret0 61)) (dcm0 false).cells 61; rw [show (w.alloc (.cells ret0 61)).heap.size = w.heap.size + 1 by simp] at this; exact this) (((Below.refl _ _).alloc (Nat.le_refl _) _).alloc (by simp) _) (Nat.le_refl _) (by omega) (Nat.zero_le _) (.inl ⟨rfl, rfl, HJ.out⟩)
end Go.Proofs.YtbhfnigblhfikaaGreat
