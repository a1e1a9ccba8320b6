/- ratio.New, ratio.Text. -/
import Derived.Test.YtbhfnigblhfikaaGreatJF
import Derived.Test.YtbhfnigblhfikaaGreatJH
namespace Go.Proofs.YtbhfnigblhfikaaGreat
open Go Go.RowKit Go.PlainAid Fil

set_option maxRecDepth 100000 in
set_option maxHeartbeats 4000000 in
theorem new_ok (N : Bool) (n d : Nat) (w : World) (h1 : Fil.dn 8 n ≤ 16384) (h2 : Fil.dn 8 d ≤ 16384) (hd : d ≠ 0) (z : Rat) (hz : z = if N then -(Rat.divInt (n : Int) (d : Int)) else Rat.divInt (n : Int) (d : Int)) :
    Calls Tryz.prog 17 #[.bool N, .string (bstr n), .string (bstr d)] w fun e w' => e = .returned (kToldV z) ∧ Below w.heap.size w w' := by
  have s1 := dn32_8 h1
  have s2 := dn32_8 h2
  have hd' : (d : Int) ≠ 0 := by omega
  have hsz : Szd 5000 (Rat.divInt (n : Int) (d : Int)) := Szd.div hd' (by rw [Int.natAbs_natCast]; omega) (by rw [Int.natAbs_natCast]; omega)
  have hzz : Szd 5000 z := by rw [hz]; cases N; exact hsz; exact hsz.neg
  have hc1 := fun W => natcheck_any (bstr n) W (by rw [bstr_size]; omega)
  have hc2 := fun W => natcheck_any (bstr d) W (by rw [bstr_size]; omega)
  rw [natB_bstr h1] at hc1
  rw [natB_bstr h2] at hc2
  have hw1 := fun W => kwhole_any n W (Nat.le_trans h1 (by omega))
  have hw2 := fun W => kwhole_any d W (Nat.le_trans h2 (by omega))
  obtain ⟨hT1, hT2⟩ := bstr_ne hd
  obtain ⟨tn, tS, tT, te, hV⟩ := kTold_parts z
  have htd := fun W B R => ktold_any B z W R (hzz.mono (by omega))
  rw [hV] at htd ⊢
  have hng := fun W B a c => ratneg_any B B (Rat.divInt (n : Int) (d : Int)) W a c (hsz.mono (by omega))
  have sp : Hid (Fil.dn 32 (n : Int).natAbs ≤ 1099511627000 ∧ Fil.dn 32 (d : Int).natAbs ≤ 1099511627000) := Lib.hid ⟨by rw [Int.natAbs_natCast]; omega, by rw [Int.natAbs_natCast]; omega⟩
  have Hz := Lib.hid (And.intro hz hd')
  clear s1 s2 hsz hzz h1 h2 hd hV hz hd'
  generalize bstr n = S at *
  generalize bstr d = T at *
  have Z := Blk.put w #[.bool false, .string { data := #[] }, .string { data := #[] }] 24
  have hb := (Below.refl w.heap.size w).alloc (Nat.le_refl _) (.cells #[.bool false, .string { data := #[] }, .string { data := #[] }] 24)
  go_enter Tryz.func17, Tryz.ntmps17
  go_wp2_with fail
  refine (hc1 _).mono ?_
  rintro r w1 ⟨rfl, hB⟩
  rw [okE_t]
  replace Z := Z.keep hB
  replace hb := hb.trans (hB.mono hb.size)
  clear hB hc1
  go_wp2_with fail
  refine (hc2 _).mono ?_
  rintro r w2 ⟨rfl, hB⟩
  rw [okE_t]
  replace Z := Z.keep hB
  replace hb := hb.trans (hB.mono hb.size)
  clear hB hc2
  have R := RRoom.new w2
  have lz := Z.lt
  have hbs := hb.size
  replace Z := Z.allocd (.cells #[.bool false, .slice none 0 0, .bool false, .slice none 0 0] 77)
  replace hb := hb.alloc hb.size (.cells #[.bool false, .slice none 0 0, .bool false, .slice none 0 0] 77)
  have lR := R.lt
  go_wp2_with fail
  refine (hw1 _).mono ?_
  rintro r w3 ⟨rfl, I1, hB⟩
  generalize (w2.alloc (.cells #[.bool false, .slice none 0 0, .bool false, .slice none 0 0] 77)) = v2 at *
  replace Z := Z.keep hB
  replace R := R.below hB
  replace hb := hb.trans (hB.mono hb.size)
  have l1 := I1.lt
  clear hB hw1
  go_wp2_with fail
  refine (hw2 _).mono ?_
  rintro r w4 ⟨rfl, I2, hB⟩
  replace Z := Z.keep hB
  replace R := R.below hB
  replace I1 := I1.below hB
  replace hb := hb.trans (hB.mono hb.size)
  clear hB hw2
  have n1 : v2.heap.size ≠ w2.heap.size := by omega
  have n2 : w3.heap.size ≠ w2.heap.size := by omega
  have nz : w.heap.size ≠ w2.heap.size := by omega
  have HN := Lib.hid (And.intro n1 (And.intro n2 (And.intro nz hbs)))
  clear n1 n2 nz lz lR l1 hbs
  go_wp2_with fail
  refine (ratsetfrac_any w2.heap.size v2.heap.size w3.heap.size (n : Int) (d : Int) w4 R I1 I2 HN.out.1 HN.out.2.1 Hz.out.2 sp.out.1 sp.out.2).mono ?_
  rintro r w5 ⟨rfl, R5, hF⟩
  replace Z := Z.ofFar hF HN.out.2.2.1
  replace hb := hb.trans (hF.below HN.out.2.2.2 hb.size)
  clear hF R I1 I2
  cases N
  · have hR : RatAt w5 w2.heap.size z := by rw [Hz.out.1]; exact R5
    clear R5 hng
    go_wp2_with fail
    refine (htd _ _ hR).mono ?_
    rintro r w6 ⟨rfl, hB⟩
    replace Z := Z.keep hB
    replace hb := hb.trans (hB.mono hb.size)
    clear hB hR htd
    obtain ⟨zf0, zf1, zf2⟩ := Z.fr3
    obtain ⟨z0, z1, z2⟩ := Z.ce3
    have G0 : Blk (((w6.setCell ⟨w.heap.size, 0, none⟩ (.bool tn)).setCell ⟨w.heap.size, 1, none⟩ (.string tS)).setCell ⟨w.heap.size, 2, none⟩ (.string tT)) w.heap.size #[.bool tn, .string tS, .string tT] 24 := ((Z.setAt 0 _).setAt 1 _).setAt 2 _
    obtain ⟨g0, g1, g2⟩ := G0.ce3
    have hbY := ((hb.setCell (p := ⟨w.heap.size, 0, none⟩) (Nat.le_refl _) (.bool tn)).setCell (p := ⟨w.heap.size, 1, none⟩) (Nat.le_refl _) (.string tS)).setCell (p := ⟨w.heap.size, 2, none⟩) (Nat.le_refl _) (.string tT)
    have HG := Lib.hid (And.intro (And.intro g0 (And.intro g1 g2)) hbY)
    clear g0 g1 g2 hbY G0 Z hb
    go_wp2
    obtain ⟨⟨g0, g1, g2⟩, hbY⟩ := HG.out
    exact bodyPost_ret (v := .tuple #[.agg #[.bool tn, .string tS, .string tT], .int .i64 te]) (by simp [results, Tryz.results17, go_sem, g0, g1, g2]) rfl ⟨rfl, hbY⟩
  · go_wp2_with fail
    refine (hng _ _ R5.room R5).mono ?_
    rintro r w6 ⟨rfl, R6, hF⟩
    have hR : RatAt w6 w2.heap.size z := by rw [Hz.out.1]; exact R6
    replace Z := Z.ofFar hF HN.out.2.2.1
    replace hb := hb.trans (hF.below HN.out.2.2.2 hb.size)
    clear R5 R6 hng hF
    go_wp2_with fail
    refine (htd _ _ hR).mono ?_
    rintro r w6 ⟨rfl, hB⟩
    replace Z := Z.keep hB
    replace hb := hb.trans (hB.mono hb.size)
    clear hB hR htd
    obtain ⟨zf0, zf1, zf2⟩ := Z.fr3
    obtain ⟨z0, z1, z2⟩ := Z.ce3
    have G0 : Blk (((w6.setCell ⟨w.heap.size, 0, none⟩ (.bool tn)).setCell ⟨w.heap.size, 1, none⟩ (.string tS)).setCell ⟨w.heap.size, 2, none⟩ (.string tT)) w.heap.size #[.bool tn, .string tS, .string tT] 24 := ((Z.setAt 0 _).setAt 1 _).setAt 2 _
    obtain ⟨g0, g1, g2⟩ := G0.ce3
    have hbY := ((hb.setCell (p := ⟨w.heap.size, 0, none⟩) (Nat.le_refl _) (.bool tn)).setCell (p := ⟨w.heap.size, 1, none⟩) (Nat.le_refl _) (.string tS)).setCell (p := ⟨w.heap.size, 2, none⟩) (Nat.le_refl _) (.string tT)
    have HG := Lib.hid (And.intro (And.intro g0 (And.intro g1 g2)) hbY)
    clear g0 g1 g2 hbY G0 Z hb
    go_wp2
    obtain ⟨⟨g0, g1, g2⟩, hbY⟩ := HG.out
    exact bodyPost_ret (v := .tuple #[.agg #[.bool tn, .string tS, .string tT], .int .i64 te]) (by simp [results, Tryz.results17, go_sem, g0, g1, g2]) rfl ⟨rfl, hbY⟩

/-- a ratio's text -/
def ktx (x : Rat) : List UInt8 := (if sg x.num then [45] else []) ++ dtx x.num.natAbs ++ (if x.den = 1 then [] else 47 :: dtx x.den)
theorem ba_append (a b : List UInt8) : (⟨a.toArray⟩ : ByteArray) ++ ⟨b.toArray⟩ = ⟨(a ++ b).toArray⟩ := by
  apply ByteArray.ext; simp
theorem one_str (d : Nat) : ((bstr d).toList = [1]) = (d = 1) := propext bstr_eq_one

end Go.Proofs.YtbhfnigblhfikaaGreat
