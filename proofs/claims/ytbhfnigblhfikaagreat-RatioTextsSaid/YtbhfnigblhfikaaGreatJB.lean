/- ratio.told, rat, May, New, do. -/
import Derived.Test.YtbhfnigblhfikaaGreatJA
namespace Go.Proofs.YtbhfnigblhfikaaGreat
open Go Go.RowKit Go.PlainAid Fil

theorem dn32_of8 {x k : Nat} (h : Fil.dn 32 x ≤ k) : Fil.dn 8 x ≤ 4 * k := by have := dn8_le32 x; omega
def kZ : Array Value := #[.bool false, .string { data := #[] }, .string { data := #[] }]
/-- what told gives -/
def kToldV (r : Rat) : Value := if Fil.dn 8 r.num.natAbs ≤ 16384 ∧ Fil.dn 8 r.den ≤ 16384 then .tuple #[kA r, .int .i64 0] else .tuple #[.agg #[.bool false, .string { data := #[] }, .string { data := #[] }], .int .i64 4]
set_option maxRecDepth 100000 in
set_option maxHeartbeats 4000000 in
theorem ktold_any (b : Nat) (x : Rat) (w : World) (R : RatAt w b x) (hx : Szd 100000000000 x) :
    Calls Tryz.prog 37 #[.pointer (some ⟨b, 0, none⟩)] w fun r w' => r = .returned (kToldV x) ∧ Below w.heap.size w w' := by
  have hsn := sign_sg x.num
  have lb := R.lt
  have s1 : Fil.dn 32 x.num.natAbs ≤ 1099511627776 := Nat.le_trans hx.1 (by omega)
  have s2 : Fil.dn 32 (x.den : Int).natAbs ≤ 1099511627776 := Nat.le_trans hx.den (by omega)
  have hl1 := bstr_size x.num.natAbs
  have hl2 := bstr_size x.den
  have hq1 := dn32_of8 hx.1
  have hq2 := dn32_of8 hx.2
  have hS := Lib.hid (And.intro s1 s2)
  clear hx s1 s2
  go_enter Tryz.func37, Tryz.ntmps37
  have F2 := Blk.put w #[.bool false, .string { data := #[] }, .string { data := #[] }] 24
  have B0 := (Below.refl w.heap.size w).alloc (Nat.le_refl _) (.cells #[.bool false, .string { data := #[] }, .string { data := #[] }] 24)
  replace R := R.alloc (.cells #[.bool false, .string { data := #[] }, .string { data := #[] }] 24)
  go_wp2_with fail
  refine (ratsign_any b x _ R).mono ?_
  rintro r w0 ⟨rfl, hw0⟩
  generalize w.alloc (.cells #[.bool false, .string { data := #[] }, .string { data := #[] }] 24) = v0 at *
  subst hw0
  have l2 := F2.lt
  have hlB := R.lt
  have I := IntAt.zero v0
  replace F2 := F2.allocd (.cells #[.bool false, .slice none 0 0] 70)
  replace R := R.alloc (.cells #[.bool false, .slice none 0 0] 70)
  replace B0 := B0.alloc B0.size (.cells #[.bool false, .slice none 0 0] 70)
  go_wp2_with fail
  refine (ratnum_any b _).mono ?_
  rintro r w1 ⟨rfl, rfl⟩
  go_wp2_with fail
  refine (abs_any v0.heap.size 0 b 0 x.num _ I.room R.1 hS.out.1).mono ?_
  rintro r w1 ⟨rfl, I1, hB⟩
  replace F2 := F2.ofFar hB.toFar (by omega)
  replace R := R.but hB (by omega)
  replace B0 := B0.trans (hB.below (by omega) (by simp; omega))
  clear I hB
  go_wp2_with fail
  refine (klaid_any v0.heap.size 0 _ w1 I1 (by rw [Int.natAbs_natCast]; exact hS.out.1)).mono ?_
  rintro r w2 ⟨rfl, hB⟩
  rw [Int.natAbs_natCast] at *
  replace F2 := F2.keep hB
  replace R := R.below hB
  replace B0 := B0.trans (hB.mono B0.size)
  clear hB I1
  go_wp2_with fail
  refine (ratden_any b _).mono ?_
  rintro r w2 ⟨rfl, rfl⟩
  go_wp2_with fail
  refine (klaid_any b 2 _ _ R.2 hS.out.2).mono ?_
  rintro r w3 ⟨rfl, hB⟩
  rw [Int.natAbs_natCast] at *
  replace F2 := F2.keep hB
  replace B0 := B0.trans (hB.mono B0.size)
  clear hB R
  have hV : kToldV x = (if Fil.dn 8 x.num.natAbs ≤ 16384 ∧ Fil.dn 8 x.den ≤ 16384 then .tuple #[.agg #[.bool (decide (x.num < 0)), .string (bstr x.num.natAbs), .string (bstr x.den)], .int .i64 0] else .tuple #[.agg #[.bool false, .string { data := #[] }, .string { data := #[] }], .int .i64 4]) := rfl
  rw [← hl1, ← hl2] at hV
  have HV := Lib.hid hV
  rw [← hl1] at hq1
  rw [← hl2] at hq2
  clear hV hl1 hl2 hsn
  generalize decide (x.num < 0) = N at *
  generalize bstr x.num.natAbs = S at *
  generalize bstr x.den = T at *
  have F4 := Blk.put w3 #[.bool N, .string S, .string T] 24
  have l2' := F2.lt
  replace F2 := F2.allocd (.cells #[.bool N, .string S, .string T] 24)
  replace B0 := B0.alloc B0.size (.cells #[.bool N, .string S, .string T] 24)
  obtain ⟨x0, x1, x2⟩ := F4.ce3
  obtain ⟨y0, y1, y2⟩ := F2.fr3
  obtain ⟨z0, z1, z2⟩ := F2.ce3
  have hne : w.heap.size ≠ w3.heap.size := by omega
  have hbZ := ((B0.setCell (p := ⟨w.heap.size, 0, none⟩) (Nat.le_refl _) (.bool false)).setCell (p := ⟨w.heap.size, 1, none⟩) (Nat.le_refl _) (.string { data := #[] })).setCell (p := ⟨w.heap.size, 2, none⟩) (Nat.le_refl _) (.string { data := #[] })
  have hbY := ((B0.setCell (p := ⟨w.heap.size, 0, none⟩) (Nat.le_refl _) (.bool N)).setCell (p := ⟨w.heap.size, 1, none⟩) (Nat.le_refl _) (.string S)).setCell (p := ⟨w.heap.size, 2, none⟩) (Nat.le_refl _) (.string T)
  have G0 : Blk ((((w3.alloc (.cells #[.bool N, .string S, .string T] 24)).setCell ⟨w.heap.size, 0, none⟩ (.bool N)).setCell ⟨w.heap.size, 1, none⟩ (.string S)).setCell ⟨w.heap.size, 2, none⟩ (.string T)) w.heap.size #[.bool N, .string S, .string T] 24 := ((F2.setAt 0 _).setAt 1 _).setAt 2 _
  have G1 : Blk ((((w3.alloc (.cells #[.bool N, .string S, .string T] 24)).setCell ⟨w.heap.size, 0, none⟩ (.bool false)).setCell ⟨w.heap.size, 1, none⟩ (.string { data := #[] })).setCell ⟨w.heap.size, 2, none⟩ (.string { data := #[] })) w.heap.size #[.bool false, .string { data := #[] }, .string { data := #[] }] 24 := ((F2.setAt 0 _).setAt 1 _).setAt 2 _
  obtain ⟨g0, g1, g2⟩ := G0.ce3
  obtain ⟨k0, k1, k2⟩ := G1.ce3
  have HB := Lib.hid (And.intro hbZ hbY)
  have HG := Lib.hid (And.intro (And.intro g0 (And.intro g1 g2)) (And.intro k0 (And.intro k1 k2)))
  clear hbZ hbY G0 G1 F2 F4 B0 g0 g1 g2 k0 k1 k2 l2' l2 hlB lb
  by_cases h1 : S.size ≤ 16384
  · have t1 : decide (16384 < S.size) = false := by simp; omega
    have t1' : decide ((16384 : Int) < (S.size : Int)) = false := by simp; omega
    by_cases h2 : T.size ≤ 16384
    · have t2 : decide (16384 < T.size) = false := by simp; omega
      have t2' : decide ((16384 : Int) < (T.size : Int)) = false := by simp; omega
      have hv := HV.out
      rw [if_pos ⟨h1, h2⟩] at hv
      clear h1 h2
      have Hv := Lib.hid hv
      clear hv
      go_wp2
      obtain ⟨⟨g0, g1, g2⟩, -⟩ := HG.out
      exact bodyPost_ret (v := .tuple #[.agg #[.bool N, .string S, .string T], .int .i64 0]) (by simp [results, Tryz.results37, go_sem, g0, g1, g2]) rfl ⟨by rw [Hv.out], HB.out.2⟩
    · have t2 : decide (16384 < T.size) = true := by simp; omega
      have t2' : decide ((16384 : Int) < (T.size : Int)) = true := by simp; omega
      have hv := HV.out
      rw [if_neg (fun k => h2 k.2)] at hv
      clear h1 h2
      have Hv := Lib.hid hv
      clear hv
      go_wp2
      obtain ⟨-, ⟨g0, g1, g2⟩⟩ := HG.out
      exact bodyPost_ret (v := .tuple #[.agg #[.bool false, .string { data := #[] }, .string { data := #[] }], .int .i64 4]) (by simp [results, Tryz.results37, go_sem, g0, g1, g2]) rfl ⟨by rw [Hv.out], HB.out.1⟩
  · have t1 : decide (16384 < S.size) = true := by simp; omega
    have t1' : decide ((16384 : Int) < (S.size : Int)) = true := by simp; omega
    have hv := HV.out
    rw [if_neg (fun k => h1 k.1)] at hv
    clear h1
    have Hv := Lib.hid hv
    clear hv
    go_wp2
    obtain ⟨-, ⟨g0, g1, g2⟩⟩ := HG.out
    exact bodyPost_ret (v := .tuple #[.agg #[.bool false, .string { data := #[] }, .string { data := #[] }], .int .i64 4]) (by simp [results, Tryz.results37, go_sem, g0, g1, g2]) rfl ⟨by rw [Hv.out], HB.out.1⟩
end Go.Proofs.YtbhfnigblhfikaaGreat
