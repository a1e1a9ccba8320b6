/- Merged: JA JB JC -/
import Derived.Test.YtbhfnigblhfikaaGreatDoorBJ
import Derived.Test.YtbhfnigblhfikaaGreatDoorJ9
import Derived.OneCell

/- Blocks by their cells (as in the texts of package gauss); ratio.whole, laid; wide.Rat's Num, Denom. -/
namespace Go.Proofs.YtbhfnigblhfikaaGreatDoor
open Go Go.RowKit Go.PlainAid Fil

/-- a block of cells -/
def Blk (w : World) (b : Nat) (cs : Array Value) (t : TypeId) : Prop := w.heap[b]? = some (.cells cs t (0, 0))
section
variable {w w' : World} {b : Nat} {cs : Array Value} {t : TypeId} {v0 v1 v2 v3 : Value}
theorem Blk.lt (h : Blk w b cs t) : b < w.heap.size := lt_of_block h
theorem Blk.put (w : World) (cs : Array Value) (t : TypeId) : Blk (w.alloc (.cells cs t)) w.heap.size cs t := heap_alloc_new w _
theorem Blk.below (h : Blk w b cs t) {B : Nat} (hb : Below B w w') (hB : b < B) : Blk w' b cs t := (hb.block b hB).trans h
theorem Blk.keep (h : Blk w b cs t) (hb : Below w.heap.size w w') : Blk w' b cs t := h.below hb h.lt
theorem Blk.allocd (h : Blk w b cs t) (o : Obj) : Blk (w.alloc o) b cs t := h.keep ((Below.refl _ _).alloc (Nat.le_refl _) _)
theorem Blk.drew (h : Blk w b cs t) : Blk w.drew b cs t := h
theorem Blk.ofFar {k : Nat} (h : Blk w b cs t) (hb : Far w w' k) (hne : b ≠ k) : Blk w' b cs t := (hb.far b h.lt hne).trans h
theorem Blk.far (h : Blk w b cs t) {b' : Nat} (o : Nat) (v : Value) (hne : b ≠ b') : Blk (w.setCell ⟨b', o, none⟩ v) b cs t := (Below.heap_setCell _ _ _ _ hne).trans h
theorem Blk.at (h : Blk w b cs t) (i : Nat) (hi : i < cs.size) : w.cell? ⟨b, i, none⟩ = some cs[i] := by
  have h' : w.heap[b]? = some (.cells cs t (0, 0)) := h
  simp [World.cell?, h', hi]
theorem Blk.free (h : Blk w b cs t) (i : Nat) : w.frozen? ⟨b, i, none⟩ = false := by
  have h' : w.heap[b]? = some (.cells cs t (0, 0)) := h
  simp [World.frozen?, h']
theorem Blk.setAt (h : Blk w b cs t) (i : Nat) (u : Value) : Blk (w.setCell ⟨b, i, none⟩ u) b (cs.setIfInBounds i u) t := by
  have hlt := Blk.lt h
  have h' : w.heap[b] = .cells cs t (0, 0) := by
    have h0 : w.heap[b]? = some (.cells cs t (0, 0)) := h
    simpa [Array.getElem?_eq_getElem hlt] using h0
  show (w.heap.modify b _)[b]? = _
  rw [Array.getElem?_eq_getElem (by simpa using hlt), Array.getElem_modify_self, h']
  rfl
theorem Blk.ce3 (h : Blk w b #[v0, v1, v2] t) : w.cell? ⟨b, 0, none⟩ = some v0 ∧ w.cell? ⟨b, 1, none⟩ = some v1 ∧ w.cell? ⟨b, 2, none⟩ = some v2 := ⟨Blk.at h 0 (by simp), Blk.at h 1 (by simp), Blk.at h 2 (by simp)⟩
theorem Blk.fr3 (h : Blk w b #[v0, v1, v2] t) : w.frozen? ⟨b, 0, none⟩ = false ∧ w.frozen? ⟨b, 1, none⟩ = false ∧ w.frozen? ⟨b, 2, none⟩ = false := ⟨Blk.free h 0, Blk.free h 1, Blk.free h 2⟩
end

/-- a fraction as a ratio -/
def kA (r : Rat) : Value := .agg #[.bool (sg r.num), .string (bstr r.num.natAbs), .string (bstr r.den)]
set_option maxHeartbeats 1000000 in
theorem kwhole_any (x : Nat) (w : World) (hx : Fil.dn 8 x ≤ 1099511627776) :
    Calls Tryz.prog 28 #[.string (bstr x)] w fun r w' => r = .returned (.pointer (some ⟨w.heap.size, 0, none⟩)) ∧ IntAt w' w.heap.size 0 x ∧ Below w.heap.size w w' := by
  have hsz := bstr_size x
  have hrc := run_conv
  go_enter Tryz.func28, Tryz.ntmps28
  go_wp2_with fail
  have hbx : Below w.heap.size w (w.alloc (Obj.cells #[Value.bool false, Value.slice none 0 0] 58)) := (Below.refl _ _).alloc (Nat.le_refl _) _
  have hr0 : Room (w.alloc (Obj.cells #[Value.bool false, Value.slice none 0 0] 58)) w.heap.size 0 := Room.new _ 58 _ (by decide) (by simp)
  have hsz2 : (w.alloc (Obj.cells #[Value.bool false, Value.slice none 0 0] 58)).heap.size = w.heap.size + 1 := by simp
  have hslc := convW_slc (w.alloc (Obj.cells #[Value.bool false, Value.slice none 0 0] 58)) x
  have hcb := convW_below (w.alloc (Obj.cells #[Value.bool false, Value.slice none 0 0] 58)) (bstr x)
  rw [hsz2] at hslc
  have hr1 := hr0.below hcb
  refine (setbytes_any w.heap.size 0 _ (Fil.dn 8 x) _ x _ hr1 (lt_dn (by omega) x) hx hslc).mono ?_
  rintro r w1 ⟨rfl, hI, hB⟩
  have hb2 := hbx.trans (hcb.mono (by rw [hsz2]; omega))
  have hb3 := hb2.trans (hB.below (B := w.heap.size) (Nat.le_refl _) (by have := hcb.size; omega))
  clear hb2 hB hr0 hr1 hslc hcb hbx hsz2 hrc hsz
  go_wp2
  go_ret
  exact ⟨rfl, hI, hb3⟩
set_option maxHeartbeats 1000000 in
theorem klaid_any (b o : Nat) (z : Int) (w : World) (h : IntAt w b o z) (hz : Fil.dn 32 z.natAbs ≤ 1099511627776) :
    Calls Tryz.prog 65 #[.pointer (some ⟨b, o, none⟩)] w fun r w' => r = .returned (.string (bstr z.natAbs)) ∧ Below w.heap.size w w' := by
  have hby := fun W h => bytes_any b o z W h hz
  go_enter Tryz.func65, Tryz.ntmps65
  go_wp2_with fail
  refine (hby _ h).mono ?_
  rintro r w1 ⟨rfl, hrow, hb1⟩
  have hrb := run_back w1 w.heap.size z.natAbs hrow
  clear hby h hrow
  go_wp2
  go_ret
  exact ⟨rfl, by first | exact hb1 | exact hb1.drew⟩
theorem ratnum_any (b : Nat) (w : World) : Calls Tryz.prog 67 #[.pointer (some ⟨b, 0, none⟩)] w fun e w' => e = .returned (.pointer (some ⟨b, 0, none⟩)) ∧ w = w' := by
  go_enter Tryz.func67, Tryz.ntmps67
  go_wp2
  go_ret
  exact ⟨rfl, rfl⟩
theorem ratden_any (b : Nat) (w : World) : Calls Tryz.prog 68 #[.pointer (some ⟨b, 0, none⟩)] w fun e w' => e = .returned (.pointer (some ⟨b, 2, none⟩)) ∧ w = w' := by
  go_enter Tryz.func68, Tryz.ntmps68
  go_wp2
  go_ret
  exact ⟨rfl, rfl⟩
end Go.Proofs.YtbhfnigblhfikaaGreatDoor

/- ratio.told, rat, May, New, do. -/
namespace Go.Proofs.YtbhfnigblhfikaaGreatDoor
open Go Go.RowKit Go.PlainAid Fil

theorem dn32_of8 {x k : Nat} (h : Fil.dn 32 x ≤ k) : Fil.dn 8 x ≤ 4 * k := by have := dn8_le32 x; omega
/-- what told gives -/
def kToldV (r : Rat) : Value := if Fil.dn 8 r.num.natAbs ≤ 16384 ∧ Fil.dn 8 r.den ≤ 16384 then .tuple #[kA r, .int .i64 0] else .tuple #[.agg #[.bool false, .string { data := #[] }, .string { data := #[] }], .int .i64 4]
set_option maxRecDepth 100000 in
set_option maxHeartbeats 4000000 in
theorem ktold_any (b : Nat) (x : Rat) (w : World) (R : RatAt w b x) (hx : Szd 100000000000 x) :
    Calls Tryz.prog 43 #[.pointer (some ⟨b, 0, none⟩)] w fun r w' => r = .returned (kToldV x) ∧ Below w.heap.size w w' := by
  have hsn := sign_sg x.num
  have lb := R.lt
  have s1 : Fil.dn 32 x.num.natAbs ≤ 1099511627776 := Nat.le_trans hx.1 (by omega)
  have s2 : Fil.dn 32 (x.den : Int).natAbs ≤ 1099511627776 := Nat.le_trans hx.den (by omega)
  have hl1 := bstr_size x.num.natAbs
  have hl2 := bstr_size x.den
  have hq1 := dn32_of8 hx.1
  have hq2 := dn32_of8 hx.2
  have hS := Lib.hid (And.intro s1 s2)
  clear hx s1 s2
  go_enter Tryz.func43, Tryz.ntmps43
  have F2 := Blk.put w #[.bool false, .string { data := #[] }, .string { data := #[] }] 24
  have B0 := (Below.refl w.heap.size w).alloc (Nat.le_refl _) (.cells #[.bool false, .string { data := #[] }, .string { data := #[] }] 24)
  replace R := R.alloc (.cells #[.bool false, .string { data := #[] }, .string { data := #[] }] 24)
  go_wp2_with fail
  refine (ratsign_any b x _ R).mono ?_
  rintro r w0 ⟨rfl, hw0⟩
  generalize w.alloc (.cells #[.bool false, .string { data := #[] }, .string { data := #[] }] 24) = v0 at *
  subst hw0
  have l2 := F2.lt
  have hlB := R.lt
  have I := IntAt.zero v0
  replace F2 := F2.allocd (.cells #[.bool false, .slice none 0 0] 58)
  replace R := R.alloc (.cells #[.bool false, .slice none 0 0] 58)
  replace B0 := B0.alloc B0.size (.cells #[.bool false, .slice none 0 0] 58)
  go_wp2_with fail
  refine (ratnum_any b _).mono ?_
  rintro r w1 ⟨rfl, rfl⟩
  go_wp2_with fail
  refine (abs_any v0.heap.size 0 b 0 x.num _ I.room R.1 hS.out.1).mono ?_
  rintro r w1 ⟨rfl, I1, hB⟩
  replace F2 := F2.ofFar hB.toFar (by omega)
  replace R := R.but hB (by omega)
  replace B0 := B0.trans (hB.below (by omega) (by simp; omega))
  clear I hB
  go_wp2_with fail
  refine (klaid_any v0.heap.size 0 _ w1 I1 (by rw [Int.natAbs_natCast]; exact hS.out.1)).mono ?_
  rintro r w2 ⟨rfl, hB⟩
  rw [Int.natAbs_natCast] at *
  replace F2 := F2.keep hB
  replace R := R.below hB
  replace B0 := B0.trans (hB.mono B0.size)
  clear hB I1
  go_wp2_with fail
  refine (ratden_any b _).mono ?_
  rintro r w2 ⟨rfl, rfl⟩
  go_wp2_with fail
  refine (klaid_any b 2 _ _ R.2 hS.out.2).mono ?_
  rintro r w3 ⟨rfl, hB⟩
  rw [Int.natAbs_natCast] at *
  replace F2 := F2.keep hB
  replace B0 := B0.trans (hB.mono B0.size)
  clear hB R
  have hV : kToldV x = (if Fil.dn 8 x.num.natAbs ≤ 16384 ∧ Fil.dn 8 x.den ≤ 16384 then .tuple #[.agg #[.bool (decide (x.num < 0)), .string (bstr x.num.natAbs), .string (bstr x.den)], .int .i64 0] else .tuple #[.agg #[.bool false, .string { data := #[] }, .string { data := #[] }], .int .i64 4]) := rfl
  rw [← hl1, ← hl2] at hV
  have HV := Lib.hid hV
  rw [← hl1] at hq1
  rw [← hl2] at hq2
  clear hV hl1 hl2 hsn
  generalize decide (x.num < 0) = N at *
  generalize bstr x.num.natAbs = S at *
  generalize bstr x.den = T at *
  have F4 := Blk.put w3 #[.bool N, .string S, .string T] 24
  have l2' := F2.lt
  replace F2 := F2.allocd (.cells #[.bool N, .string S, .string T] 24)
  replace B0 := B0.alloc B0.size (.cells #[.bool N, .string S, .string T] 24)
  obtain ⟨x0, x1, x2⟩ := F4.ce3
  obtain ⟨y0, y1, y2⟩ := F2.fr3
  obtain ⟨z0, z1, z2⟩ := F2.ce3
  have hne : w.heap.size ≠ w3.heap.size := by omega
  have hbZ := ((B0.setCell (p := ⟨w.heap.size, 0, none⟩) (Nat.le_refl _) (.bool false)).setCell (p := ⟨w.heap.size, 1, none⟩) (Nat.le_refl _) (.string { data := #[] })).setCell (p := ⟨w.heap.size, 2, none⟩) (Nat.le_refl _) (.string { data := #[] })
  have hbY := ((B0.setCell (p := ⟨w.heap.size, 0, none⟩) (Nat.le_refl _) (.bool N)).setCell (p := ⟨w.heap.size, 1, none⟩) (Nat.le_refl _) (.string S)).setCell (p := ⟨w.heap.size, 2, none⟩) (Nat.le_refl _) (.string T)
  have G0 : Blk ((((w3.alloc (.cells #[.bool N, .string S, .string T] 24)).setCell ⟨w.heap.size, 0, none⟩ (.bool N)).setCell ⟨w.heap.size, 1, none⟩ (.string S)).setCell ⟨w.heap.size, 2, none⟩ (.string T)) w.heap.size #[.bool N, .string S, .string T] 24 := ((F2.setAt 0 _).setAt 1 _).setAt 2 _
  have G1 : Blk ((((w3.alloc (.cells #[.bool N, .string S, .string T] 24)).setCell ⟨w.heap.size, 0, none⟩ (.bool false)).setCell ⟨w.heap.size, 1, none⟩ (.string { data := #[] })).setCell ⟨w.heap.size, 2, none⟩ (.string { data := #[] })) w.heap.size #[.bool false, .string { data := #[] }, .string { data := #[] }] 24 := ((F2.setAt 0 _).setAt 1 _).setAt 2 _
  obtain ⟨g0, g1, g2⟩ := G0.ce3
  obtain ⟨k0, k1, k2⟩ := G1.ce3
  have HB := Lib.hid (And.intro hbZ hbY)
  have HG := Lib.hid (And.intro (And.intro g0 (And.intro g1 g2)) (And.intro k0 (And.intro k1 k2)))
  clear hbZ hbY G0 G1 F2 F4 B0 g0 g1 g2 k0 k1 k2 l2' l2 hlB lb
  by_cases h1 : S.size ≤ 16384
  · have t1 : decide (16384 < S.size) = false := by simp; omega
    have t1' : decide ((16384 : Int) < (S.size : Int)) = false := by simp; omega
    by_cases h2 : T.size ≤ 16384
    · have t2 : decide (16384 < T.size) = false := by simp; omega
      have t2' : decide ((16384 : Int) < (T.size : Int)) = false := by simp; omega
      have hv := HV.out
      rw [if_pos ⟨h1, h2⟩] at hv
      clear h1 h2
      have Hv := Lib.hid hv
      clear hv
      go_wp2
      obtain ⟨⟨g0, g1, g2⟩, -⟩ := HG.out
      exact bodyPost_ret (v := .tuple #[.agg #[.bool N, .string S, .string T], .int .i64 0]) (by simp [results, Tryz.results43, go_sem, g0, g1, g2]) rfl ⟨by rw [Hv.out], HB.out.2⟩
    · have t2 : decide (16384 < T.size) = true := by simp; omega
      have t2' : decide ((16384 : Int) < (T.size : Int)) = true := by simp; omega
      have hv := HV.out
      rw [if_neg (fun k => h2 k.2)] at hv
      clear h1 h2
      have Hv := Lib.hid hv
      clear hv
      go_wp2
      obtain ⟨-, ⟨g0, g1, g2⟩⟩ := HG.out
      exact bodyPost_ret (v := .tuple #[.agg #[.bool false, .string { data := #[] }, .string { data := #[] }], .int .i64 4]) (by simp [results, Tryz.results43, go_sem, g0, g1, g2]) rfl ⟨by rw [Hv.out], HB.out.1⟩
  · have t1 : decide (16384 < S.size) = true := by simp; omega
    have t1' : decide ((16384 : Int) < (S.size : Int)) = true := by simp; omega
    have hv := HV.out
    rw [if_neg (fun k => h1 k.1)] at hv
    clear h1
    have Hv := Lib.hid hv
    clear hv
    go_wp2
    obtain ⟨-, ⟨g0, g1, g2⟩⟩ := HG.out
    exact bodyPost_ret (v := .tuple #[.agg #[.bool false, .string { data := #[] }, .string { data := #[] }], .int .i64 4]) (by simp [results, Tryz.results43, go_sem, g0, g1, g2]) rfl ⟨by rw [Hv.out], HB.out.1⟩
end Go.Proofs.YtbhfnigblhfikaaGreatDoor

/- ratio.rat; ratio.do at each of the four operations. -/
namespace Go.Proofs.YtbhfnigblhfikaaGreatDoor
open Go Go.RowKit Go.PlainAid Fil

/-- a fraction that is a ratio -/
def Fits (x : Rat) : Prop := Fil.dn 8 x.num.natAbs ≤ 16384 ∧ Fil.dn 8 x.den ≤ 16384
theorem dn32_8 {x n : Nat} (h : Fil.dn 8 x ≤ n) : Fil.dn 32 x ≤ n / 4 + 1 := dn8_32 x n (lt_of_dn (by omega) h)
theorem Fits.szd {x : Rat} (h : Fits x) : Szd 5000 x := ⟨Nat.le_trans (dn32_8 h.1) (by omega), Nat.le_trans (dn32_8 h.2) (by omega)⟩
theorem Szd.mono {K L : Nat} {x : Rat} (h : Szd K x) (hL : K ≤ L) : Szd L x := ⟨Nat.le_trans h.1 hL, Nat.le_trans h.2 hL⟩
theorem mag_pos {x : Rat} (h : sg x.num = false) : Rat.divInt (x.num.natAbs : Int) (x.den : Int) = x := by
  have : ¬ x.num < 0 := by simpa [sg] using h
  rw [show (x.num.natAbs : Int) = x.num by omega, Rat.num_divInt_den]
theorem mag_neg {x : Rat} (h : sg x.num = true) : -(Rat.divInt (x.num.natAbs : Int) (x.den : Int)) = x := by
  have : x.num < 0 := by simpa [sg] using h
  rw [Rat.neg_divInt, show -(x.num.natAbs : Int) = x.num by omega, Rat.num_divInt_den]
theorem mag_szd {K : Nat} {x : Rat} (h : Szd K x) : Szd K (Rat.divInt (x.num.natAbs : Int) (x.den : Int)) := by
  cases hs : sg x.num
  · rw [mag_pos hs]; exact h
  · have := mag_neg hs
    rw [← Rat.neg_neg (Rat.divInt _ _), this]; exact h.neg

set_option maxRecDepth 100000 in
set_option maxHeartbeats 4000000 in
theorem krat_any (x : Rat) (w : World) (hx : Fits x) :
    Calls Tryz.prog 22 #[kA x] w fun e w' => ∃ B, e = .returned (.pointer (some ⟨B, 0, none⟩)) ∧ RatAt w' B x ∧ w.heap.size ≤ B ∧ B < w'.heap.size ∧ Below w.heap.size w w' := by
  have h32 := hx.szd
  have hx8 := hx
  have sM := mag_szd h32
  have hw1 := fun W => kwhole_any x.num.natAbs W (Nat.le_trans hx.1 (by omega))
  have hw2 := fun W => kwhole_any x.den W (Nat.le_trans hx.2 (by omega))
  have hng := fun W B a c => ratneg_any B B (Rat.divInt (x.num.natAbs : Int) (x.den : Int)) W a c (sM.mono (by omega))
  have sp : Hid (Fil.dn 32 (x.num.natAbs : Int).natAbs ≤ 1099511627000 ∧ Fil.dn 32 (x.den : Int).natAbs ≤ 1099511627000) := Lib.hid ⟨by rw [Int.natAbs_natCast]; exact Nat.le_trans h32.1 (by omega), by rw [Int.natAbs_natCast]; exact Nat.le_trans h32.2 (by omega)⟩
  unfold kA
  clear hx hx8 h32 sM
  have hp := fun h => mag_pos (x := x) h
  have hn := fun h => mag_neg (x := x) h
  generalize sg x.num = N at *
  generalize bstr x.num.natAbs = S at *
  generalize bstr x.den = T at *
  have HP := Lib.hid (And.intro hp hn)
  clear hp hn
  have hb := Below.refl w.heap.size w
  go_enter Tryz.func22, Tryz.ntmps22
  have F := Blk.put (w) #[.bool N, .string S, .string T] 24
  replace hb := hb.alloc hb.size (.cells #[.bool N, .string S, .string T] 24)
  have q_BX : Hid (w.heap.size ≤ w.heap.size) := Lib.hid (by omega)
  go_upto_region 1 with fail
  generalize w.alloc (.cells #[.bool N, .string S, .string T] 24) = v1 at *
  go_cut [3] from 4 to 11 (fun s3 wx => ∃ BR : Nat, s3 = .pointer (some ⟨BR, 0, none⟩) ∧ RatAt wx BR (Rat.divInt (x.num.natAbs : Int) (x.den : Int)) ∧ w.heap.size < BR ∧ Blk wx w.heap.size #[.bool N, .string S, .string T] 24 ∧ Below w.heap.size w wx)
  case first =>
    go_wp2_with fail
    refine wp_region_any (by kernel_rfl) ?_
    have hHeld : (fun w' : World => w'.cell? ⟨w.heap.size, 1, none⟩ = some (.string S) ∧ w'.cell? ⟨w.heap.size, 2, none⟩ = some (.string T)) v1.drew := ⟨F.ce3.2.1, F.ce3.2.2⟩
    refine wpAny_of_held (S := fun w' : World => w'.cell? ⟨w.heap.size, 1, none⟩ = some (.string S) ∧ w'.cell? ⟨w.heap.size, 2, none⟩ = some (.string T)) _ _ _ (v1.drew) ?_
    replace F : Blk (v1.drew) (w.heap.size) #[.bool N, .string S, .string T] 24 := F
    replace hb : Below w.heap.size w v1.drew := hb.drew
    generalize v1.drew = v2 at *
    refine wpAnyH_take (i := 1) (v := _) (by first | (simp only [List.getElem?_toArray, List.getElem?_cons_zero, List.getElem?_cons_succ]; rfl) | rfl) (by kernel_rfl) (by kernel_rfl) (by kernel_rfl) (by exact fun _ _ _ h => h) (Or.inl ⟨by rfl, by (intro w hSw; (try dsimp only at hSw); go_simp; try with_reducible rfl)⟩) (by assumption) ?_
    (try dsimp only [Act.put]); (try go_frame)
    refine wpAnyH_take (i := 2) (v := _) (by first | (simp only [List.getElem?_toArray, List.getElem?_cons_zero, List.getElem?_cons_succ]; rfl) | rfl) (by kernel_rfl) (by kernel_rfl) (by kernel_rfl) (by exact fun _ _ _ h => h) (Or.inl ⟨by rfl, by (intro w hSw; (try dsimp only at hSw); go_simp; try with_reducible rfl)⟩) (by assumption) ?_
    (try dsimp only [Act.put]); (try go_frame)
    refine wpAnyH_take (i := 4) (v := _) (by first | (simp only [List.getElem?_toArray, List.getElem?_cons_zero, List.getElem?_cons_succ]; rfl) | rfl) (by kernel_rfl) (by kernel_rfl) (by kernel_rfl) (by exact fun _ _ _ h => h) (Or.inl ⟨by rfl, by (intro w hSw; (try dsimp only at hSw); go_simp; try with_reducible rfl)⟩) (by assumption) ?_
    (try dsimp only [Act.put]); (try go_frame)
    refine wpAnyH_take (i := 5) (v := _) (by first | (simp only [List.getElem?_toArray, List.getElem?_cons_zero, List.getElem?_cons_succ]; rfl) | rfl) (by kernel_rfl) (by kernel_rfl) (by kernel_rfl) (by exact fun _ _ _ h => h) (Or.inl ⟨by rfl, by (intro w hSw; (try dsimp only at hSw); go_simp; try with_reducible rfl)⟩) (by assumption) ?_
    (try dsimp only [Act.put]); (try go_frame)
    refine wpAnyH_ready (rs := [0, 3]) (by kernel_rfl) (by simp) ?_
    refine AllReadyH.cons rfl (fun K hK => ?_) (AllReadyH.cons rfl (fun K hK => ?_) AllReadyH.nil)
    · go_simp
      have R := RRoom.new v2
      have q0 : Hid (w.heap.size ≤ v2.heap.size) := Lib.hid hb.size
      have q0_BX : Hid (w.heap.size < v2.heap.size) := Lib.hid F.lt
      replace F := F.allocd (.cells #[.bool false, .slice none 0 0, .bool false, .slice none 0 0] 80)
      replace hb := hb.alloc hb.size (.cells #[.bool false, .slice none 0 0, .bool false, .slice none 0 0] 80)
      refine hK.out _ _ ?_ (fun hHeld => ?_)
      · exact ⟨F.ce3.2.1, F.ce3.2.2⟩
      clear hK K
      generalize v2.alloc (.cells #[.bool false, .slice none 0 0, .bool false, .slice none 0 0] 80) = v3 at *
      generalize v2.heap.size = BR at *
      have q_BR := q0
      clear q0
      have q_BX_BR := q0_BX
      clear q0_BX
      (try dsimp only [Act.put]); (try go_frame)
      refine wpAnyH_ready (rs := [3]) (by kernel_rfl) (by simp) ?_
      refine AllReadyH.cons rfl (fun K hK => ?_) AllReadyH.nil
      go_simp
      have q_BX_B10 : w.heap.size < v3.heap.size := F.lt
      have q_BR_B10 : BR < v3.heap.size := R.lt
      have q_B10 : w.heap.size ≤ v3.heap.size := hb.size
      refine (hw1 v3).mono ?_
      rintro r ww14 ⟨rfl, I1, hB⟩
      replace F := F.keep hB
      replace R := R.below hB
      replace hb := hb.trans (hB.mono hb.size)
      clear hB
      refine hK.out _ _ ?_ (fun hHeld => ?_)
      · exact ⟨F.ce3.2.1, F.ce3.2.2⟩
      clear hK K
      generalize v3.heap.size = B1 at *
      have q_B1 := Lib.hid q_B10
      clear q_B10
      have q_BX_B1 := Lib.hid q_BX_B10
      clear q_BX_B10
      have q_BR_B1 := Lib.hid q_BR_B10
      clear q_BR_B10
      (try dsimp only [Act.put]); (try go_frame)
      refine wpAnyH_ready (rs := [6]) (by kernel_rfl) (by simp) ?_
      refine AllReadyH.cons rfl (fun K hK => ?_) AllReadyH.nil
      go_simp
      have q_BX_B20 : w.heap.size < ww14.heap.size := F.lt
      have q_BR_B20 : BR < ww14.heap.size := R.lt
      have q_B1_B20 : B1 < ww14.heap.size := I1.lt
      have q_B20 : w.heap.size ≤ ww14.heap.size := hb.size
      refine (hw2 ww14).mono ?_
      rintro r ww28 ⟨rfl, I2, hB⟩
      replace F := F.keep hB
      replace R := R.below hB
      replace I1 := I1.below hB
      replace hb := hb.trans (hB.mono hb.size)
      clear hB
      refine hK.out _ _ ?_ (fun hHeld => ?_)
      · exact ⟨F.ce3.2.1, F.ce3.2.2⟩
      clear hK K
      generalize ww14.heap.size = B2 at *
      have q_B2 := Lib.hid q_B20
      clear q_B20
      have q_BX_B2 := Lib.hid q_BX_B20
      clear q_BX_B20
      have q_BR_B2 := Lib.hid q_BR_B20
      clear q_BR_B20
      have q_B1_B2 := Lib.hid q_B1_B20
      clear q_B1_B20
      (try dsimp only [Act.put]); (try go_frame)
      refine wpAnyH_ready (rs := [7]) (by kernel_rfl) (by simp) ?_
      refine AllReadyH.cons rfl (fun K hK => ?_) AllReadyH.nil
      go_simp
      refine (ratsetfrac_any BR B1 B2 (x.num.natAbs : Int) (x.den : Int) ww28 R I1 I2 (by have := q_BR_B1.out; omega) (by have := q_BR_B2.out; omega) (den_ne x) sp.out.1 sp.out.2).mono ?_
      rintro r wz ⟨rfl, R0, hF⟩
      replace F := F.ofFar hF (by have := q_BX_BR.out; omega)
      replace I1 := I1.far hF (by have := q_BR_B1.out; omega)
      replace I2 := I2.far hF (by have := q_BR_B2.out; omega)
      replace hb := hb.trans (hF.below q_BR.out hb.size)
      clear hF R
      have R := R0
      clear R0
      refine hK.out _ _ ?_ (fun hHeld => ?_)
      · exact ⟨F.ce3.2.1, F.ce3.2.2⟩
      clear hK K
      (try dsimp only [Act.put]); (try go_frame)
      refine wpAnyH_take (i := 8) (v := _) (by first | (simp only [List.getElem?_toArray, List.getElem?_cons_zero, List.getElem?_cons_succ]; rfl) | rfl) (by kernel_rfl) (by kernel_rfl) (by kernel_rfl) (by exact fun _ _ _ h => h) (Or.inl ⟨by rfl, by (intro w hSw; (try dsimp only at hSw); go_simp; try with_reducible rfl)⟩) (by assumption) ?_
      (try dsimp only [Act.put]); (try go_frame)
      refine wpAnyH_done (by kernel_rfl) ?_ _
      try simp only [QCut]
      go_wp2_with fail
      go_meet
      exact ⟨BR, rfl, R, q_BX_BR.out, F, hb⟩
    · go_simp
      have q_BX_B10 : w.heap.size < v2.heap.size := F.lt
      have q_B10 : w.heap.size ≤ v2.heap.size := hb.size
      refine (hw1 v2).mono ?_
      rintro r ww3 ⟨rfl, I1, hB⟩
      replace F := F.keep hB
      replace hb := hb.trans (hB.mono hb.size)
      clear hB
      refine hK.out _ _ ?_ (fun hHeld => ?_)
      · exact ⟨F.ce3.2.1, F.ce3.2.2⟩
      clear hK K
      generalize v2.heap.size = B1 at *
      have q_B1 := Lib.hid q_B10
      clear q_B10
      have q_BX_B1 := Lib.hid q_BX_B10
      clear q_BX_B10
      (try dsimp only [Act.put]); (try go_frame)
      refine wpAnyH_ready (rs := [0, 6]) (by kernel_rfl) (by simp) ?_
      refine AllReadyH.cons rfl (fun K hK => ?_) (AllReadyH.cons rfl (fun K hK => ?_) AllReadyH.nil)
      · go_simp
        have R := RRoom.new ww3
        have q0 : Hid (w.heap.size ≤ ww3.heap.size) := Lib.hid hb.size
        have q0_BX : Hid (w.heap.size < ww3.heap.size) := Lib.hid F.lt
        have q0_B1 : Hid (B1 < ww3.heap.size) := Lib.hid I1.lt
        replace F := F.allocd (.cells #[.bool false, .slice none 0 0, .bool false, .slice none 0 0] 80)
        replace I1 := I1.alloc (.cells #[.bool false, .slice none 0 0, .bool false, .slice none 0 0] 80)
        replace hb := hb.alloc hb.size (.cells #[.bool false, .slice none 0 0, .bool false, .slice none 0 0] 80)
        refine hK.out _ _ ?_ (fun hHeld => ?_)
        · exact ⟨F.ce3.2.1, F.ce3.2.2⟩
        clear hK K
        generalize ww3.alloc (.cells #[.bool false, .slice none 0 0, .bool false, .slice none 0 0] 80) = v3 at *
        generalize ww3.heap.size = BR at *
        have q_BR := q0
        clear q0
        have q_BX_BR := q0_BX
        clear q0_BX
        have q_B1_BR := q0_B1
        clear q0_B1
        (try dsimp only [Act.put]); (try go_frame)
        refine wpAnyH_ready (rs := [6]) (by kernel_rfl) (by simp) ?_
        refine AllReadyH.cons rfl (fun K hK => ?_) AllReadyH.nil
        go_simp
        have q_BX_B20 : w.heap.size < v3.heap.size := F.lt
        have q_B1_B20 : B1 < v3.heap.size := I1.lt
        have q_BR_B20 : BR < v3.heap.size := R.lt
        have q_B20 : w.heap.size ≤ v3.heap.size := hb.size
        refine (hw2 v3).mono ?_
        rintro r ww18 ⟨rfl, I2, hB⟩
        replace F := F.keep hB
        replace I1 := I1.below hB
        replace R := R.below hB
        replace hb := hb.trans (hB.mono hb.size)
        clear hB
        refine hK.out _ _ ?_ (fun hHeld => ?_)
        · exact ⟨F.ce3.2.1, F.ce3.2.2⟩
        clear hK K
        generalize v3.heap.size = B2 at *
        have q_B2 := Lib.hid q_B20
        clear q_B20
        have q_BX_B2 := Lib.hid q_BX_B20
        clear q_BX_B20
        have q_B1_B2 := Lib.hid q_B1_B20
        clear q_B1_B20
        have q_BR_B2 := Lib.hid q_BR_B20
        clear q_BR_B20
        (try dsimp only [Act.put]); (try go_frame)
        refine wpAnyH_ready (rs := [7]) (by kernel_rfl) (by simp) ?_
        refine AllReadyH.cons rfl (fun K hK => ?_) AllReadyH.nil
        go_simp
        refine (ratsetfrac_any BR B1 B2 (x.num.natAbs : Int) (x.den : Int) ww18 R I1 I2 (by have := q_B1_BR.out; omega) (by have := q_BR_B2.out; omega) (den_ne x) sp.out.1 sp.out.2).mono ?_
        rintro r wz ⟨rfl, R0, hF⟩
        replace F := F.ofFar hF (by have := q_BX_BR.out; omega)
        replace I1 := I1.far hF (by have := q_B1_BR.out; omega)
        replace I2 := I2.far hF (by have := q_BR_B2.out; omega)
        replace hb := hb.trans (hF.below q_BR.out hb.size)
        clear hF R
        have R := R0
        clear R0
        refine hK.out _ _ ?_ (fun hHeld => ?_)
        · exact ⟨F.ce3.2.1, F.ce3.2.2⟩
        clear hK K
        (try dsimp only [Act.put]); (try go_frame)
        refine wpAnyH_take (i := 8) (v := _) (by first | (simp only [List.getElem?_toArray, List.getElem?_cons_zero, List.getElem?_cons_succ]; rfl) | rfl) (by kernel_rfl) (by kernel_rfl) (by kernel_rfl) (by exact fun _ _ _ h => h) (Or.inl ⟨by rfl, by (intro w hSw; (try dsimp only at hSw); go_simp; try with_reducible rfl)⟩) (by assumption) ?_
        (try dsimp only [Act.put]); (try go_frame)
        refine wpAnyH_done (by kernel_rfl) ?_ _
        try simp only [QCut]
        go_wp2_with fail
        go_meet
        exact ⟨BR, rfl, R, q_BX_BR.out, F, hb⟩
      · go_simp
        have q_BX_B20 : w.heap.size < ww3.heap.size := F.lt
        have q_B1_B20 : B1 < ww3.heap.size := I1.lt
        have q_B20 : w.heap.size ≤ ww3.heap.size := hb.size
        refine (hw2 ww3).mono ?_
        rintro r ww4 ⟨rfl, I2, hB⟩
        replace F := F.keep hB
        replace I1 := I1.below hB
        replace hb := hb.trans (hB.mono hb.size)
        clear hB
        refine hK.out _ _ ?_ (fun hHeld => ?_)
        · exact ⟨F.ce3.2.1, F.ce3.2.2⟩
        clear hK K
        generalize ww3.heap.size = B2 at *
        have q_B2 := Lib.hid q_B20
        clear q_B20
        have q_BX_B2 := Lib.hid q_BX_B20
        clear q_BX_B20
        have q_B1_B2 := Lib.hid q_B1_B20
        clear q_B1_B20
        (try dsimp only [Act.put]); (try go_frame)
        refine wpAnyH_ready (rs := [0]) (by kernel_rfl) (by simp) ?_
        refine AllReadyH.cons rfl (fun K hK => ?_) AllReadyH.nil
        go_simp
        have R := RRoom.new ww4
        have q0 : Hid (w.heap.size ≤ ww4.heap.size) := Lib.hid hb.size
        have q0_BX : Hid (w.heap.size < ww4.heap.size) := Lib.hid F.lt
        have q0_B1 : Hid (B1 < ww4.heap.size) := Lib.hid I1.lt
        have q0_B2 : Hid (B2 < ww4.heap.size) := Lib.hid I2.lt
        replace F := F.allocd (.cells #[.bool false, .slice none 0 0, .bool false, .slice none 0 0] 80)
        replace I1 := I1.alloc (.cells #[.bool false, .slice none 0 0, .bool false, .slice none 0 0] 80)
        replace I2 := I2.alloc (.cells #[.bool false, .slice none 0 0, .bool false, .slice none 0 0] 80)
        replace hb := hb.alloc hb.size (.cells #[.bool false, .slice none 0 0, .bool false, .slice none 0 0] 80)
        refine hK.out _ _ ?_ (fun hHeld => ?_)
        · exact ⟨F.ce3.2.1, F.ce3.2.2⟩
        clear hK K
        generalize ww4.alloc (.cells #[.bool false, .slice none 0 0, .bool false, .slice none 0 0] 80) = v3 at *
        generalize ww4.heap.size = BR at *
        have q_BR := q0
        clear q0
        have q_BX_BR := q0_BX
        clear q0_BX
        have q_B1_BR := q0_B1
        clear q0_B1
        have q_B2_BR := q0_B2
        clear q0_B2
        (try dsimp only [Act.put]); (try go_frame)
        refine wpAnyH_ready (rs := [7]) (by kernel_rfl) (by simp) ?_
        refine AllReadyH.cons rfl (fun K hK => ?_) AllReadyH.nil
        go_simp
        refine (ratsetfrac_any BR B1 B2 (x.num.natAbs : Int) (x.den : Int) v3 R I1 I2 (by have := q_B1_BR.out; omega) (by have := q_B2_BR.out; omega) (den_ne x) sp.out.1 sp.out.2).mono ?_
        rintro r wz ⟨rfl, R0, hF⟩
        replace F := F.ofFar hF (by have := q_BX_BR.out; omega)
        replace I1 := I1.far hF (by have := q_B1_BR.out; omega)
        replace I2 := I2.far hF (by have := q_B2_BR.out; omega)
        replace hb := hb.trans (hF.below q_BR.out hb.size)
        clear hF R
        have R := R0
        clear R0
        refine hK.out _ _ ?_ (fun hHeld => ?_)
        · exact ⟨F.ce3.2.1, F.ce3.2.2⟩
        clear hK K
        (try dsimp only [Act.put]); (try go_frame)
        refine wpAnyH_take (i := 8) (v := _) (by first | (simp only [List.getElem?_toArray, List.getElem?_cons_zero, List.getElem?_cons_succ]; rfl) | rfl) (by kernel_rfl) (by kernel_rfl) (by kernel_rfl) (by exact fun _ _ _ h => h) (Or.inl ⟨by rfl, by (intro w hSw; (try dsimp only at hSw); go_simp; try with_reducible rfl)⟩) (by assumption) ?_
        (try dsimp only [Act.put]); (try go_frame)
        refine wpAnyH_done (by kernel_rfl) ?_ _
        try simp only [QCut]
        go_wp2_with fail
        go_meet
        exact ⟨BR, rfl, R, q_BX_BR.out, F, hb⟩
  case rest =>
    clear F hb
    obtain ⟨BR, rfl, R, qR, F, hb⟩ := hcut
    obtain ⟨x0, x1, x2⟩ := F.ce3
    clear hw1 hw2
    cases N
    · rw [HP.out.1 (by first | rfl | trivial)] at R
      clear hng F
      go_wp2
      go_ret
      exact ⟨BR, rfl, R, by omega, R.lt, hb⟩
    · go_wp2_with fail
      refine (hng _ _ R.room R).mono ?_
      rintro r wz ⟨rfl, R0, hF⟩
      rw [HP.out.2 (by first | rfl | trivial)] at R0
      replace hb := hb.trans (hF.below (by omega) hb.size)
      clear hng R F hF x0 x1 x2
      go_wp2
      go_ret
      exact ⟨BR, rfl, R0, by omega, R0.lt, hb⟩

end Go.Proofs.YtbhfnigblhfikaaGreatDoor
