/- ratio.Text. -/
import Derived.Test.YtbhfnigblhfikaaGreatJI
namespace Go.Proofs.YtbhfnigblhfikaaGreat
open Go Go.RowKit Go.PlainAid Fil

theorem dtx_len {x K : Nat} (h : Fil.dn 32 x ≤ K) : (dtx x).length ≤ 10 * K + 1 := by
  unfold dtx
  split
  · simp
  · rw [List.length_reverse]; have := decs_len h; omega
theorem bstr_one : bstr 1 = { data := #[1] } := by
  apply ByteArray.ext
  apply Array.ext'
  show bs 1 = [1]
  unfold bs
  rw [show Fil.dn 8 1 = 1 by rw [dn8_bl]; decide]
  rfl
set_option maxRecDepth 100000 in
set_option maxHeartbeats 2000000 in
theorem ktext_ok (x : Rat) (w : World) (hx : Fits x) :
    Calls Tryz.prog 6 #[kA x] w fun e w' => e = .returned (.tuple #[.string ⟨(ktx x).toArray⟩, .int .i64 0]) ∧ Below w.heap.size w w' := by
  have hm1 := fun W => kmay_any (sg x.num) (bstr x.num.natAbs) (bstr x.den) W (by rw [bstr_size]; have := hx.1; omega) (by rw [bstr_size]; have := hx.2; omega)
  rw [may_of_rat hx] at hm1
  have hw1 := fun W => kwhole_any x.num.natAbs W (Nat.le_trans hx.1 (by omega))
  have hw2 := fun W => kwhole_any x.den W (Nat.le_trans hx.2 (by omega))
  have hs1 := fun b W I => string_any b 0 x.num.natAbs W I (Nat.le_trans (dn32_8 hx.1) (by omega))
  have hs2 := fun b W I => string_any b 0 x.den W I (Nat.le_trans (dn32_8 hx.2) (by omega))
  have z1 : (⟨(dtx x.num.natAbs).toArray⟩ : ByteArray).size ≤ 100000 := by
    have := dtx_len (dn32_8 hx.1)
    show (dtx x.num.natAbs).toArray.size ≤ 100000
    rw [List.size_toArray]; omega
  have z2 : (⟨(dtx x.den).toArray⟩ : ByteArray).size ≤ 100000 := by
    have := dtx_len (dn32_8 hx.2)
    show (dtx x.den).toArray.size ≤ 100000
    rw [List.size_toArray]; omega
  have e1 := one_str x.den
  have eT : x.den = 1 → bstr x.den = { data := #[1] } := fun h => by rw [h]; exact bstr_one
  clear hx
  unfold kA ktx
  generalize sg x.num = N at *
  generalize bstr x.num.natAbs = S at *
  generalize bstr x.den = T at *
  generalize x.num.natAbs = n at *
  generalize x.den = d at *
  obtain ⟨X1, hX1⟩ : ∃ X1 : ByteArray, X1 = ⟨(dtx n).toArray⟩ := ⟨_, rfl⟩
  obtain ⟨X2, hX2⟩ : ∃ X2 : ByteArray, X2 = ⟨(dtx d).toArray⟩ := ⟨_, rfl⟩
  rw [← hX1] at hs1 z1
  rw [← hX2] at hs2 z2
  have HX := Lib.hid (And.intro hX1 hX2)
  clear hX1 hX2
  have hb := Below.refl w.heap.size w
  by_cases hd : d = 1
  · have hT := eT hd
    rw [if_pos hd]
    clear e1 eT hd hw2 hs2
    subst hT
    cases N
    · go_enter Tryz.func6, Tryz.ntmps6
      have F := Blk.put (w) #[.bool false, .string S, .string { data := #[1] }] 24
      replace hb := hb.alloc hb.size (.cells #[.bool false, .string S, .string { data := #[1] }] 24)
      obtain ⟨x0, x1, x2⟩ := F.ce3
      go_wp2_with fail
      refine (hm1 _).mono ?_
      rintro r w1 ⟨rfl, hB⟩
      replace F := F.keep hB
      replace hb := hb.trans (hB.mono hb.size)
      clear x0 x1 x2 hB hm1
      obtain ⟨x0, x1, x2⟩ := F.ce3
      go_wp2_with fail
      refine (hw1 _).mono ?_
      rintro r w1 ⟨rfl, I1, hB⟩
      replace F := F.keep hB
      replace hb := hb.trans (hB.mono hb.size)
      clear x0 x1 x2 hB hw1
      obtain ⟨x0, x1, x2⟩ := F.ce3
      go_wp2_with fail
      refine (hs1 _ _ I1).mono ?_
      rintro r w1 ⟨rfl, hB⟩
      replace F := F.keep hB
      replace hb := hb.trans (hB.mono hb.size)
      clear x0 x1 x2 hB hs1 I1
      obtain ⟨x0, x1, x2⟩ := F.ce3
      go_wp2_with fail
      go_returns
      exact ⟨by rw [HX.out.1]; rfl, hb⟩
    · go_enter Tryz.func6, Tryz.ntmps6
      have F := Blk.put (w) #[.bool true, .string S, .string { data := #[1] }] 24
      replace hb := hb.alloc hb.size (.cells #[.bool true, .string S, .string { data := #[1] }] 24)
      obtain ⟨x0, x1, x2⟩ := F.ce3
      go_wp2_with fail
      refine (hm1 _).mono ?_
      rintro r w1 ⟨rfl, hB⟩
      replace F := F.keep hB
      replace hb := hb.trans (hB.mono hb.size)
      clear x0 x1 x2 hB hm1
      obtain ⟨x0, x1, x2⟩ := F.ce3
      go_wp2_with fail
      refine (hw1 _).mono ?_
      rintro r w1 ⟨rfl, I1, hB⟩
      replace F := F.keep hB
      replace hb := hb.trans (hB.mono hb.size)
      clear x0 x1 x2 hB hw1
      obtain ⟨x0, x1, x2⟩ := F.ce3
      go_wp2_with fail
      refine (hs1 _ _ I1).mono ?_
      rintro r w1 ⟨rfl, hB⟩
      replace F := F.keep hB
      replace hb := hb.trans (hB.mono hb.size)
      clear x0 x1 x2 hB hs1 I1
      obtain ⟨x0, x1, x2⟩ := F.ce3
      go_wp2_with fail
      go_returns
      exact ⟨by rw [HX.out.1]; simp [ba_append], hb⟩
  · have hT : ¬ T.toList = [1] := by rw [e1]; exact hd
    have hT2 : (T.toList == [1]) = false := beq_eq_false_iff_ne.2 hT
    have hT3 : (T.toList != [1]) = true := by rw [bne, hT2]; rfl
    rw [if_neg hd]
    clear e1 eT hd
    cases N
    · go_enter Tryz.func6, Tryz.ntmps6
      have F := Blk.put (w) #[.bool false, .string S, .string T] 24
      replace hb := hb.alloc hb.size (.cells #[.bool false, .string S, .string T] 24)
      obtain ⟨x0, x1, x2⟩ := F.ce3
      go_wp2_with fail
      refine (hm1 _).mono ?_
      rintro r w1 ⟨rfl, hB⟩
      replace F := F.keep hB
      replace hb := hb.trans (hB.mono hb.size)
      clear x0 x1 x2 hB hm1
      obtain ⟨x0, x1, x2⟩ := F.ce3
      go_wp2_with fail
      refine (hw1 _).mono ?_
      rintro r w1 ⟨rfl, I1, hB⟩
      replace F := F.keep hB
      replace hb := hb.trans (hB.mono hb.size)
      clear x0 x1 x2 hB hw1
      obtain ⟨x0, x1, x2⟩ := F.ce3
      go_wp2_with fail
      refine (hs1 _ _ I1).mono ?_
      rintro r w1 ⟨rfl, hB⟩
      replace F := F.keep hB
      replace hb := hb.trans (hB.mono hb.size)
      clear x0 x1 x2 hB hs1 I1
      obtain ⟨x0, x1, x2⟩ := F.ce3
      go_wp2_with fail
      refine (hw2 _).mono ?_
      rintro r w1 ⟨rfl, I1, hB⟩
      replace F := F.keep hB
      replace hb := hb.trans (hB.mono hb.size)
      clear x0 x1 x2 hB hw2
      obtain ⟨x0, x1, x2⟩ := F.ce3
      go_wp2_with fail
      refine (hs2 _ _ I1).mono ?_
      rintro r w1 ⟨rfl, hB⟩
      replace F := F.keep hB
      replace hb := hb.trans (hB.mono hb.size)
      clear x0 x1 x2 hB hs2 I1
      obtain ⟨x0, x1, x2⟩ := F.ce3
      go_wp2_with fail
      go_returns
      exact ⟨by rw [HX.out.1, HX.out.2]; simp [ba_append], hb⟩
    · go_enter Tryz.func6, Tryz.ntmps6
      have F := Blk.put (w) #[.bool true, .string S, .string T] 24
      replace hb := hb.alloc hb.size (.cells #[.bool true, .string S, .string T] 24)
      obtain ⟨x0, x1, x2⟩ := F.ce3
      go_wp2_with fail
      refine (hm1 _).mono ?_
      rintro r w1 ⟨rfl, hB⟩
      replace F := F.keep hB
      replace hb := hb.trans (hB.mono hb.size)
      clear x0 x1 x2 hB hm1
      obtain ⟨x0, x1, x2⟩ := F.ce3
      go_wp2_with fail
      refine (hw1 _).mono ?_
      rintro r w1 ⟨rfl, I1, hB⟩
      replace F := F.keep hB
      replace hb := hb.trans (hB.mono hb.size)
      clear x0 x1 x2 hB hw1
      obtain ⟨x0, x1, x2⟩ := F.ce3
      go_wp2_with fail
      refine (hs1 _ _ I1).mono ?_
      rintro r w1 ⟨rfl, hB⟩
      replace F := F.keep hB
      replace hb := hb.trans (hB.mono hb.size)
      clear x0 x1 x2 hB hs1 I1
      obtain ⟨x0, x1, x2⟩ := F.ce3
      go_wp2_with fail
      refine (hw2 _).mono ?_
      rintro r w1 ⟨rfl, I1, hB⟩
      replace F := F.keep hB
      replace hb := hb.trans (hB.mono hb.size)
      clear x0 x1 x2 hB hw2
      obtain ⟨x0, x1, x2⟩ := F.ce3
      go_wp2_with fail
      refine (hs2 _ _ I1).mono ?_
      rintro r w1 ⟨rfl, hB⟩
      replace F := F.keep hB
      replace hb := hb.trans (hB.mono hb.size)
      clear x0 x1 x2 hB hs2 I1
      obtain ⟨x0, x1, x2⟩ := F.ce3
      go_wp2_with fail
      go_returns
      exact ⟨by rw [HX.out.1, HX.out.2]; simp [ba_append], hb⟩
end Go.Proofs.YtbhfnigblhfikaaGreat
