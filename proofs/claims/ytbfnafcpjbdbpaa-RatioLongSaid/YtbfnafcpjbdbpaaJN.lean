/- Merged: JM JN -/
import Derived.Test.YtbfnafcpjbdbpaaJI
import Derived.Laws.RangeAny

/- ratio.Text. -/
namespace Go.Proofs.Ytbfnafcpjbdbpaa
open Go Go.RowKit Go.PlainAid Fil

theorem dtx_len {x K : Nat} (h : Fil.dn 32 x ≤ K) : (dtx x).length ≤ 10 * K + 1 := by
  unfold dtx
  split
  · simp
  · rw [List.length_reverse]; have := decs_len h; omega
theorem bstr_one : bstr 1 = { data := #[1] } := by
  apply ByteArray.ext
  apply Array.ext'
  show bs 1 = [1]
  unfold bs
  rw [show Fil.dn 8 1 = 1 by rw [dn8_bl]; decide]
  rfl
set_option maxRecDepth 100000 in
set_option maxHeartbeats 2000000 in
theorem ktext_ok (x : Rat) (w : World) (hx : Fits x) :
    Calls Try.prog 16 #[kA x] w fun e w' => e = .returned (.tuple #[.string ⟨(ktx x).toArray⟩, .int .i64 0]) ∧ Below w.heap.size w w' := by
  have hm1 := fun W => kmay_any (sg x.num) (bstr x.num.natAbs) (bstr x.den) W (by rw [bstr_size]; have := hx.1; omega) (by rw [bstr_size]; have := hx.2; omega)
  rw [may_of_rat hx] at hm1
  have hw1 := fun W => kwhole_any x.num.natAbs W (Nat.le_trans hx.1 (by omega))
  have hw2 := fun W => kwhole_any x.den W (Nat.le_trans hx.2 (by omega))
  have hs1 := fun b W I => string_any b 0 x.num.natAbs W I (Nat.le_trans (dn32_8 hx.1) (by omega))
  have hs2 := fun b W I => string_any b 0 x.den W I (Nat.le_trans (dn32_8 hx.2) (by omega))
  have z1 : (⟨(dtx x.num.natAbs).toArray⟩ : ByteArray).size ≤ 100000 := by
    have := dtx_len (dn32_8 hx.1)
    show (dtx x.num.natAbs).toArray.size ≤ 100000
    rw [List.size_toArray]; omega
  have z2 : (⟨(dtx x.den).toArray⟩ : ByteArray).size ≤ 100000 := by
    have := dtx_len (dn32_8 hx.2)
    show (dtx x.den).toArray.size ≤ 100000
    rw [List.size_toArray]; omega
  have e1 := one_str x.den
  have eT : x.den = 1 → bstr x.den = { data := #[1] } := fun h => by rw [h]; exact bstr_one
  clear hx
  unfold kA ktx
  generalize sg x.num = N at *
  generalize bstr x.num.natAbs = S at *
  generalize bstr x.den = T at *
  generalize x.num.natAbs = n at *
  generalize x.den = d at *
  obtain ⟨X1, hX1⟩ : ∃ X1 : ByteArray, X1 = ⟨(dtx n).toArray⟩ := ⟨_, rfl⟩
  obtain ⟨X2, hX2⟩ : ∃ X2 : ByteArray, X2 = ⟨(dtx d).toArray⟩ := ⟨_, rfl⟩
  rw [← hX1] at hs1 z1
  rw [← hX2] at hs2 z2
  have HX := Lib.hid (And.intro hX1 hX2)
  clear hX1 hX2
  have hb := Below.refl w.heap.size w
  by_cases hd : d = 1
  · have hT := eT hd
    rw [if_pos hd]
    clear e1 eT hd hw2 hs2
    subst hT
    cases N
    · go_enter Try.func16, Try.ntmps16
      have F := Blk.put (w) #[.bool false, .string S, .string { data := #[1] }] 25
      replace hb := hb.alloc hb.size (.cells #[.bool false, .string S, .string { data := #[1] }] 25)
      obtain ⟨x0, x1, x2⟩ := F.ce3
      go_wp2_with fail
      refine (hm1 _).mono ?_
      rintro r w1 ⟨rfl, hB⟩
      replace F := F.keep hB
      replace hb := hb.trans (hB.mono hb.size)
      clear x0 x1 x2 hB hm1
      obtain ⟨x0, x1, x2⟩ := F.ce3
      go_wp2_with fail
      refine (hw1 _).mono ?_
      rintro r w1 ⟨rfl, I1, hB⟩
      replace F := F.keep hB
      replace hb := hb.trans (hB.mono hb.size)
      clear x0 x1 x2 hB hw1
      obtain ⟨x0, x1, x2⟩ := F.ce3
      go_wp2_with fail
      refine (hs1 _ _ I1).mono ?_
      rintro r w1 ⟨rfl, hB⟩
      replace F := F.keep hB
      replace hb := hb.trans (hB.mono hb.size)
      clear x0 x1 x2 hB hs1 I1
      obtain ⟨x0, x1, x2⟩ := F.ce3
      go_wp2_with fail
      go_returns
      exact ⟨by rw [HX.out.1]; rfl, hb⟩
    · go_enter Try.func16, Try.ntmps16
      have F := Blk.put (w) #[.bool true, .string S, .string { data := #[1] }] 25
      replace hb := hb.alloc hb.size (.cells #[.bool true, .string S, .string { data := #[1] }] 25)
      obtain ⟨x0, x1, x2⟩ := F.ce3
      go_wp2_with fail
      refine (hm1 _).mono ?_
      rintro r w1 ⟨rfl, hB⟩
      replace F := F.keep hB
      replace hb := hb.trans (hB.mono hb.size)
      clear x0 x1 x2 hB hm1
      obtain ⟨x0, x1, x2⟩ := F.ce3
      go_wp2_with fail
      refine (hw1 _).mono ?_
      rintro r w1 ⟨rfl, I1, hB⟩
      replace F := F.keep hB
      replace hb := hb.trans (hB.mono hb.size)
      clear x0 x1 x2 hB hw1
      obtain ⟨x0, x1, x2⟩ := F.ce3
      go_wp2_with fail
      refine (hs1 _ _ I1).mono ?_
      rintro r w1 ⟨rfl, hB⟩
      replace F := F.keep hB
      replace hb := hb.trans (hB.mono hb.size)
      clear x0 x1 x2 hB hs1 I1
      obtain ⟨x0, x1, x2⟩ := F.ce3
      go_wp2_with fail
      go_returns
      exact ⟨by rw [HX.out.1]; simp [ba_append], hb⟩
  · have hT : ¬ T.toList = [1] := by rw [e1]; exact hd
    have hT2 : (T.toList == [1]) = false := beq_eq_false_iff_ne.2 hT
    have hT3 : (T.toList != [1]) = true := by rw [bne, hT2]; rfl
    rw [if_neg hd]
    clear e1 eT hd
    cases N
    · go_enter Try.func16, Try.ntmps16
      have F := Blk.put (w) #[.bool false, .string S, .string T] 25
      replace hb := hb.alloc hb.size (.cells #[.bool false, .string S, .string T] 25)
      obtain ⟨x0, x1, x2⟩ := F.ce3
      go_wp2_with fail
      refine (hm1 _).mono ?_
      rintro r w1 ⟨rfl, hB⟩
      replace F := F.keep hB
      replace hb := hb.trans (hB.mono hb.size)
      clear x0 x1 x2 hB hm1
      obtain ⟨x0, x1, x2⟩ := F.ce3
      go_wp2_with fail
      refine (hw1 _).mono ?_
      rintro r w1 ⟨rfl, I1, hB⟩
      replace F := F.keep hB
      replace hb := hb.trans (hB.mono hb.size)
      clear x0 x1 x2 hB hw1
      obtain ⟨x0, x1, x2⟩ := F.ce3
      go_wp2_with fail
      refine (hs1 _ _ I1).mono ?_
      rintro r w1 ⟨rfl, hB⟩
      replace F := F.keep hB
      replace hb := hb.trans (hB.mono hb.size)
      clear x0 x1 x2 hB hs1 I1
      obtain ⟨x0, x1, x2⟩ := F.ce3
      go_wp2_with fail
      refine (hw2 _).mono ?_
      rintro r w1 ⟨rfl, I1, hB⟩
      replace F := F.keep hB
      replace hb := hb.trans (hB.mono hb.size)
      clear x0 x1 x2 hB hw2
      obtain ⟨x0, x1, x2⟩ := F.ce3
      go_wp2_with fail
      refine (hs2 _ _ I1).mono ?_
      rintro r w1 ⟨rfl, hB⟩
      replace F := F.keep hB
      replace hb := hb.trans (hB.mono hb.size)
      clear x0 x1 x2 hB hs2 I1
      obtain ⟨x0, x1, x2⟩ := F.ce3
      go_wp2_with fail
      go_returns
      exact ⟨by rw [HX.out.1, HX.out.2]; simp [ba_append], hb⟩
    · go_enter Try.func16, Try.ntmps16
      have F := Blk.put (w) #[.bool true, .string S, .string T] 25
      replace hb := hb.alloc hb.size (.cells #[.bool true, .string S, .string T] 25)
      obtain ⟨x0, x1, x2⟩ := F.ce3
      go_wp2_with fail
      refine (hm1 _).mono ?_
      rintro r w1 ⟨rfl, hB⟩
      replace F := F.keep hB
      replace hb := hb.trans (hB.mono hb.size)
      clear x0 x1 x2 hB hm1
      obtain ⟨x0, x1, x2⟩ := F.ce3
      go_wp2_with fail
      refine (hw1 _).mono ?_
      rintro r w1 ⟨rfl, I1, hB⟩
      replace F := F.keep hB
      replace hb := hb.trans (hB.mono hb.size)
      clear x0 x1 x2 hB hw1
      obtain ⟨x0, x1, x2⟩ := F.ce3
      go_wp2_with fail
      refine (hs1 _ _ I1).mono ?_
      rintro r w1 ⟨rfl, hB⟩
      replace F := F.keep hB
      replace hb := hb.trans (hB.mono hb.size)
      clear x0 x1 x2 hB hs1 I1
      obtain ⟨x0, x1, x2⟩ := F.ce3
      go_wp2_with fail
      refine (hw2 _).mono ?_
      rintro r w1 ⟨rfl, I1, hB⟩
      replace F := F.keep hB
      replace hb := hb.trans (hB.mono hb.size)
      clear x0 x1 x2 hB hw2
      obtain ⟨x0, x1, x2⟩ := F.ce3
      go_wp2_with fail
      refine (hs2 _ _ I1).mono ?_
      rintro r w1 ⟨rfl, hB⟩
      replace F := F.keep hB
      replace hb := hb.trans (hB.mono hb.size)
      clear x0 x1 x2 hB hs2 I1
      obtain ⟨x0, x1, x2⟩ := F.ce3
      go_wp2_with fail
      go_returns
      exact ⟨by rw [HX.out.1, HX.out.2]; simp [ba_append], hb⟩
end Go.Proofs.Ytbfnafcpjbdbpaa

/- ratio.digits. -/
namespace Go.Proofs.Ytbfnafcpjbdbpaa
open Go Go.RowKit Go.PlainAid Fil

set_option maxRecDepth 100000 in
set_option maxHeartbeats 2000000 in
theorem kdigits_good (s : ByteArray) (w : World) (h0 : 0 < s.size) (h1 : s.size ≤ 1000000) (hd : ∀ (i : Nat) (h : i < s.size), 48 ≤ (s[i]'h).toNat ∧ (s[i]'h).toNat ≤ 57) (hh : (s[0]'h0).toNat = 48 → s.size = 1) (v : Int)
    (hs : ∀ W b, Room W b 0 → Calls Try.prog 46 #[.pointer (some ⟨b, 0, none⟩), .string s, .int .i64 10] W fun e w' => e = .returned (.tuple #[.pointer (some ⟨b, 0, none⟩), .bool true]) ∧ IntAt w' b 0 v ∧ But W w' b 0) :
    Calls Try.prog 41 #[.string s] w fun e w' => ∃ B, e = .returned (.tuple #[.pointer (some ⟨B, 0, none⟩), .bool true]) ∧ IntAt w' B 0 v ∧ w.heap.size ≤ B ∧ Below w.heap.size w w' := by
  have e0 := str_cons h0
  have hb0 := Below.refl w.heap.size w
  by_cases c48 : (s[0]'h0).toNat = 48
  · have t1 : (((s[0]'h0).toNat : Int) == 48) = true := by rw [c48]; rfl
    have t2 : decide (1 < (s.size : Int)) = false := by rw [hh c48]; rfl
    clear hh c48
    go_enter Try.func41, Try.ntmps41
    go_wp2_with fail
    go_loopw [5] (fun _ w' => ∃ pos : Nat, w' = w.iter s pos ∧ pos ≤ s.size) (fun _ w' => s.size - w'.iterPos w.heap.size)
    case atStart => exact ⟨0, rfl, by omega⟩
    case round =>
      obtain ⟨pos, rfl, hp0⟩ := hrel
      by_cases hp : pos < s.size
      · obtain ⟨ha, hz⟩ := hd pos hp
        have hnx : ∀ ty, (Instr.next (.pointer (some ⟨w.heap.size, 0, none⟩)) true ty).run Try.prog (w.iter s pos) = _ := fun ty => run_next_ascii w s pos ty hp (by omega)
        generalize (s[pos]'hp).toNat = c at *
        have t3 : decide ((c : Int) < 48) = false := decide_eq_false (by omega)
        have t4 : decide ((57 : Int) < c) = false := decide_eq_false (by omega)
        go_wp2_with fail
        go_roundw
        case rel => exact ⟨pos + 1, rfl, by omega⟩
        case measure =>
          simp
          omega
      · have hnx : ∀ ty, (Instr.next (.pointer (some ⟨w.heap.size, 0, none⟩)) true ty).run Try.prog (w.iter s pos) = _ := fun ty => run_next_end w s pos ty hp
        have hbi : Below w.heap.size w (w.iter s pos) := hb0.alloc (Nat.le_refl _) (.stringIter s pos)
        have hbz := hbi.size
        go_wp2_with fail
        have R := Room.new (w.iter s pos) 63 #[.bool false, .slice none 0 0] (o := 0) (by decide) (by simp)
        refine (hs _ _ R).mono ?_
        rintro r w1 ⟨rfl, I, hB⟩
        have hb := (hbi.alloc hbz (.cells #[.bool false, .slice none 0 0] 63)).trans (hB.toFar.below hbz (by simp; omega))
        go_wp2_with fail
        go_returns
        exact ⟨_, rfl, I, hbz, hb⟩
  · have t1 : (((s[0]'h0).toNat : Int) == 48) = false := by rw [beq_eq_false_iff_ne]; omega
    clear hh c48
    go_enter Try.func41, Try.ntmps41
    go_wp2_with fail
    go_loopw [5] (fun _ w' => ∃ pos : Nat, w' = w.iter s pos ∧ pos ≤ s.size) (fun _ w' => s.size - w'.iterPos w.heap.size)
    case atStart => exact ⟨0, rfl, by omega⟩
    case round =>
      obtain ⟨pos, rfl, hp0⟩ := hrel
      by_cases hp : pos < s.size
      · obtain ⟨ha, hz⟩ := hd pos hp
        have hnx : ∀ ty, (Instr.next (.pointer (some ⟨w.heap.size, 0, none⟩)) true ty).run Try.prog (w.iter s pos) = _ := fun ty => run_next_ascii w s pos ty hp (by omega)
        generalize (s[pos]'hp).toNat = c at *
        have t3 : decide ((c : Int) < 48) = false := decide_eq_false (by omega)
        have t4 : decide ((57 : Int) < c) = false := decide_eq_false (by omega)
        go_wp2_with fail
        go_roundw
        case rel => exact ⟨pos + 1, rfl, by omega⟩
        case measure =>
          simp
          omega
      · have hnx : ∀ ty, (Instr.next (.pointer (some ⟨w.heap.size, 0, none⟩)) true ty).run Try.prog (w.iter s pos) = _ := fun ty => run_next_end w s pos ty hp
        have hbi : Below w.heap.size w (w.iter s pos) := hb0.alloc (Nat.le_refl _) (.stringIter s pos)
        have hbz := hbi.size
        go_wp2_with fail
        have R := Room.new (w.iter s pos) 63 #[.bool false, .slice none 0 0] (o := 0) (by decide) (by simp)
        refine (hs _ _ R).mono ?_
        rintro r w1 ⟨rfl, I, hB⟩
        have hb := (hbi.alloc hbz (.cells #[.bool false, .slice none 0 0] 63)).trans (hB.toFar.below hbz (by simp; omega))
        go_wp2_with fail
        go_returns
        exact ⟨_, rfl, I, hbz, hb⟩

set_option maxRecDepth 100000 in
set_option maxHeartbeats 2000000 in
theorem kdigits_empty (s : ByteArray) (w : World) (h0 : s.size = 0) :
    Calls Try.prog 41 #[.string s] w fun e w' => e = .returned (.tuple #[.pointer none, .bool false]) ∧ Below w.heap.size w w' := by
  have e0 := str_nil h0
  have hb0 := Below.refl w.heap.size w
  go_enter Try.func41, Try.ntmps41
  go_wp2_with fail
  go_returns
  exact ⟨rfl, hb0⟩

set_option maxRecDepth 100000 in
set_option maxHeartbeats 2000000 in
theorem kdigits_nought (s : ByteArray) (w : World) (h0 : 1 < s.size) (h1 : s.size ≤ 1000000) (c48 : (s[0]'(by omega)).toNat = 48) :
    Calls Try.prog 41 #[.string s] w fun e w' => e = .returned (.tuple #[.pointer none, .bool false]) ∧ Below w.heap.size w w' := by
  have hp : 0 < s.size := by omega
  have e0 := str_cons hp
  have hb0 := Below.refl w.heap.size w
  have t1 : (((s[0]'hp).toNat : Int) == 48) = true := by rw [c48]; rfl
  have t2 : decide (1 < (s.size : Int)) = true := decide_eq_true (by omega)
  clear c48
  go_enter Try.func41, Try.ntmps41
  go_wp2_with fail
  go_returns
  exact ⟨rfl, hb0⟩

set_option maxRecDepth 100000 in
set_option maxHeartbeats 2000000 in
theorem kdigits_other (s : ByteArray) (w : World) (i0 : Nat) (h0 : i0 < s.size) (h1 : s.size ≤ 1000000) (hd : ∀ (i : Nat) (h : i < i0), 48 ≤ (s[i]'(by omega)).toNat ∧ (s[i]'(by omega)).toNat ≤ 57) (hbad : ¬ (48 ≤ (s[i0]'h0).toNat ∧ (s[i0]'h0).toNat ≤ 57)) (hh : (s[0]'(by omega)).toNat ≠ 48) :
    Calls Try.prog 41 #[.string s] w fun e w' => e = .returned (.tuple #[.pointer none, .bool false]) ∧ Below w.heap.size w w' := by
  have hz0 : 0 < s.size := by omega
  have e0 := str_cons hz0
  have hb0 := Below.refl w.heap.size w
  have t1 : (((s[0]'hz0).toNat : Int) == 48) = false := by rw [beq_eq_false_iff_ne]; omega
  clear hh
  go_enter Try.func41, Try.ntmps41
  go_wp2_with fail
  go_loopw [5] (fun _ w' => ∃ pos : Nat, w' = w.iter s pos ∧ pos ≤ i0) (fun _ w' => s.size - w'.iterPos w.heap.size)
  case atStart => exact ⟨0, rfl, by omega⟩
  case round =>
    obtain ⟨pos, rfl, hp0⟩ := hrel
    have hp : pos < s.size := by omega
    by_cases hlt : pos < i0
    · obtain ⟨ha, hz⟩ := hd pos hlt
      have hnx : ∀ ty, (Instr.next (.pointer (some ⟨w.heap.size, 0, none⟩)) true ty).run Try.prog (w.iter s pos) = _ := fun ty => run_next_ascii w s pos ty hp (by omega)
      generalize (s[pos]'hp).toNat = c at *
      have t3 : decide ((c : Int) < 48) = false := decide_eq_false (by omega)
      have t4 : decide ((57 : Int) < c) = false := decide_eq_false (by omega)
      go_wp2_with fail
      go_roundw
      case rel => exact ⟨pos + 1, rfl, by omega⟩
      case measure =>
        simp
        omega
    · obtain rfl : pos = i0 := by omega
      have hnx : ∀ ty, (Instr.next (.pointer (some ⟨w.heap.size, 0, none⟩)) true ty).run Try.prog (w.iter s pos) = _ := fun ty => run_next_any w s pos ty hp
      have hbi : ∀ q, Below w.heap.size w (w.iter s q) := fun q => hb0.alloc (Nat.le_refl _) (.stringIter s q)
      have hr : (Utf8.decode s pos).1 < 48 ∨ 57 < (Utf8.decode s pos).1 := by
        by_cases ha : (s[pos]'hp).toNat < 128
        · rw [decode_ascii s pos hp ha]; show (s[pos]'hp).toNat < 48 ∨ 57 < (s[pos]'hp).toNat; omega
        · have := (decode_high s pos hp (by omega)).1; omega
      have hle := decode_le s pos
      generalize (Utf8.decode s pos).1 = c at *
      generalize pos + (Utf8.decode s pos).2 = q at *
      clear hbad hd
      by_cases hc : c < 48
      · have t3 : decide ((c : Int) < 48) = true := decide_eq_true (by omega)
        go_wp2_with fail
        go_returns
        exact ⟨rfl, hbi q⟩
      · have t3 : decide ((c : Int) < 48) = false := decide_eq_false (by omega)
        have t4 : decide ((57 : Int) < c) = true := decide_eq_true (by omega)
        go_wp2_with fail
        go_returns
        exact ⟨rfl, hbi q⟩
end Go.Proofs.Ytbfnafcpjbdbpaa
