/- The reference of layer 4: Decimal, its ways. -/
import Derived.Test.YtbhfnigblhfikaaGreatM6
import Derived.Test.YtbhfnigblhfikaaGreatM9
namespace Go.Proofs.YtbhfnigblhfikaaGreat
open Go Go.RowKit Go.PlainAid Fil

theorem dval_nought (l : List UInt8) : dval 0 (48 :: l) = dval 0 l := by rw [dval_cons]; rfl
theorem drop_one {B : ByteArray} (h : 0 < B.size) : B.data.toList = (B[0]'h) :: (B.extract 1 B.size).data.toList := by
  have e : (B.extract 1 B.size).data.toList = (B.data.toList.drop 1).take (B.size - 1) := by simp
  rw [e, List.take_of_length_le (by rw [List.length_drop, Array.length_toList]; exact Nat.le_refl _)]
  have hh := head_get h
  cases hl : B.data.toList with
  | nil => rw [hl] at hh; exact absurd hh (by simp)
  | cons a l => rw [hl] at hh; rw [← Option.some.inj hh]; rfl
theorem clamp_step (a d : Nat) : min (10 * min a 5001 + d) 5001 = min (10 * a + d) 5001 := by omega
/-- the power of ten of a decimal -/
def dcmZ (dn : Bool) (M T : ByteArray) : Int := (if dn = true then -((dvt M M.size : Nat) : Int) else (dvt M M.size : Nat)) - T.size
set_option maxRecDepth 1000000 in
set_option maxHeartbeats 4000000 in
theorem p4dec_long (s : ByteArray) (w : World) (hs : 4096 < s.size) (hs2 : s.size ≤ 9223372036854775807) :
    Calls Tryz.prog 12 #[.string s] w fun r w' => r = .returned (errV 4) ∧ Below w.heap.size w w' := by
  have ts : (4096 : Int) < (s.size : Int) := by omega
  have F2 := Blk.put w #[.bool false, .string { data := #[] }, .string { data := #[] }] 24
  have B0 := (Below.refl w.heap.size w).alloc (Nat.le_refl _) (.cells #[.bool false, .string { data := #[] }, .string { data := #[] }] 24)
  go_enter Tryz.func12, Tryz.ntmps12
  obtain ⟨z0, z1, z2⟩ := F2.ce3
  obtain ⟨f0, f1, f2⟩ := F2.fr3
  go_wp2
  exact bodyPost_ret (v := errV 4) (by simp [results, Tryz.results12, go_sem, z0, z1, z2, errV]) rfl ⟨rfl, B0⟩
set_option maxRecDepth 1000000 in
set_option maxHeartbeats 4000000 in
theorem p4dec_text (s t : ByteArray) (ng : Bool) (w : World) (hs : s.size ≤ 4096) (hsg : Sgn s ng t)
    (H T P : ByteArray)
    (h1 : ∀ W, Calls Tryz.prog 41 #[.string t] W fun r w' => r = .returned (.tuple #[.string H, .string T, .string P, .bool false]) ∧ Below W.heap.size W w') :
    Calls Tryz.prog 12 #[.string s] w fun r w' => r = .returned (errV 40) ∧ Below w.heap.size w w' := by
  have ht := hsg.size
  have ts : ¬ (4096 : Int) < (s.size : Int) := by omega
  have F2 := Blk.put w #[.bool false, .string { data := #[] }, .string { data := #[] }] 24
  have B0 := (Below.refl w.heap.size w).alloc (Nat.le_refl _) (.cells #[.bool false, .string { data := #[] }, .string { data := #[] }] 24)
  have HS := Lib.hid hsg
  clear hsg
  go_enter Tryz.func12, Tryz.ntmps12
  go_upto_region 4 with fail
  go_cut [5] (fun s5 wx => s5 = .bool ng ∧ Blk wx (w.heap.size) #[.bool false, .string { data := #[] }, .string { data := #[] }] 24 ∧ Below w.heap.size w wx)
  case first =>
    rcases HS.out with ⟨hb, rfl, _⟩ | ⟨hb, rfl, _⟩
    · have h0 := byt_lt (s := s) (i := 0) (by omega)
      rw [byt_in h0] at hb
      have t1 : (0 : Int) < (s.size : Int) := by omega
      have t2 : (((s[0]'h0).toNat : Int) == 45) = true := by simp; omega
      go_wp2_with fail
      go_meet
      exact ⟨by first | rfl | simp, F2, B0⟩
    · rcases Nat.eq_zero_or_pos s.size with h0 | h0
      · have t1 : ¬ (0 : Int) < (s.size : Int) := by omega
        go_wp2_with fail
        go_meet
        exact ⟨by first | rfl | simp, F2, B0⟩
      · rw [byt_in h0] at hb
        have t1 : (0 : Int) < (s.size : Int) := by omega
        have t2 : (((s[0]'h0).toNat : Int) == 45) = false := by simp; omega
        go_wp2_with fail
        go_meet
        exact ⟨by first | rfl | simp, F2, B0⟩
  case rest =>
    clear B0 F2
    obtain ⟨rfl, F2, B0⟩ := hcut
    generalize wc = v1 at *
    go_upto_if 31 with fail
    go_cut [4] (fun s4 wx => s4 = .string t ∧ Blk wx (w.heap.size) #[.bool false, .string { data := #[] }, .string { data := #[] }] 24 ∧ Below w.heap.size w wx)
    case first =>
      rcases HS.out with ⟨hb, rfl, hE⟩ | ⟨hb, rfl, hE⟩
      · have h0 := byt_lt (s := s) (i := 0) (by omega)
        go_wp2_with fail
        go_meet
        exact ⟨by rw [hE], F2, B0⟩
      · go_wp2_with fail
        go_meet
        exact ⟨by rw [hE], F2, B0⟩
    case rest =>
      clear B0 F2
      obtain ⟨rfl, F2, B0⟩ := hcut
      generalize wc = v2 at *
      go_wp2_with fail
      refine (h1 _).mono ?_
      rintro r w1 ⟨rfl, hB⟩
      replace F2 := F2.keep hB
      replace B0 := B0.trans (hB.mono B0.size)
      clear hB h1
      obtain ⟨z0, z1, z2⟩ := F2.ce3
      obtain ⟨f0, f1, f2⟩ := F2.fr3
      replace F2 : Blk ((((w1).setCell ⟨w.heap.size, 0, none⟩ (.bool false)).setCell ⟨w.heap.size, 1, none⟩ (.string { data := #[] })).setCell ⟨w.heap.size, 2, none⟩ (.string { data := #[] })) (w.heap.size) #[.bool false, .string { data := #[] }, .string { data := #[] }] 24 := (((F2.setAt 0 (.bool false)).setAt 1 (.string { data := #[] })).setAt 2 (.string { data := #[] }))
      replace B0 := (((B0.setCell (p := ⟨w.heap.size, 0, none⟩) (Nat.le_refl _) (.bool false)).setCell (p := ⟨w.heap.size, 1, none⟩) (Nat.le_refl _) (.string { data := #[] })).setCell (p := ⟨w.heap.size, 2, none⟩) (Nat.le_refl _) (.string { data := #[] }))
      obtain ⟨y0, y1, y2⟩ := F2.ce3
      go_wp2
      exact bodyPost_ret (v := errV 40) (by simp [results, Tryz.results12, go_sem, y0, y1, y2, errV]) rfl ⟨rfl, B0⟩
set_option maxRecDepth 1000000 in
set_option maxHeartbeats 4000000 in
theorem p4dec_power (s t : ByteArray) (ng : Bool) (w : World) (hs : s.size ≤ 4096) (hsg : Sgn s ng t)
    (H T P : ByteArray)
    (h1 : ∀ W, Calls Tryz.prog 41 #[.string t] W fun r w' => r = .returned (.tuple #[.string H, .string T, .string P, .bool true]) ∧ Below W.heap.size W w')
    (dn : Bool) (M : ByteArray) (HM : Hid ((byt P 0 = 45 ∧ dn = true ∧ M = P.extract 1 P.size) ∨ (byt P 0 ≠ 45 ∧ dn = false ∧ M = P))) (p0 : 0 < P.size) (hP8 : P.size ≤ 4097) (hd : ∀ (i : Nat) (h : i < M.size), 48 ≤ (M[i]'h).toNat ∧ (M[i]'h).toNat ≤ 57) (hM8 : M.size ≤ 4096)
    (hp : 5000 < dvt M M.size) :
    Calls Tryz.prog 12 #[.string s] w fun r w' => r = .returned (errV 4) ∧ Below w.heap.size w w' := by
  have ht := hsg.size
  have ts : ¬ (4096 : Int) < (s.size : Int) := by omega
  have F2 := Blk.put w #[.bool false, .string { data := #[] }, .string { data := #[] }] 24
  have B0 := (Below.refl w.heap.size w).alloc (Nat.le_refl _) (.cells #[.bool false, .string { data := #[] }, .string { data := #[] }] 24)
  have HS := Lib.hid hsg
  clear hsg
  go_enter Tryz.func12, Tryz.ntmps12
  go_upto_region 4 with fail
  go_cut [5] (fun s5 wx => s5 = .bool ng ∧ Blk wx (w.heap.size) #[.bool false, .string { data := #[] }, .string { data := #[] }] 24 ∧ Below w.heap.size w wx)
  case first =>
    rcases HS.out with ⟨hb, rfl, _⟩ | ⟨hb, rfl, _⟩
    · have h0 := byt_lt (s := s) (i := 0) (by omega)
      rw [byt_in h0] at hb
      have t1 : (0 : Int) < (s.size : Int) := by omega
      have t2 : (((s[0]'h0).toNat : Int) == 45) = true := by simp; omega
      go_wp2_with fail
      go_meet
      exact ⟨by first | rfl | simp, F2, B0⟩
    · rcases Nat.eq_zero_or_pos s.size with h0 | h0
      · have t1 : ¬ (0 : Int) < (s.size : Int) := by omega
        go_wp2_with fail
        go_meet
        exact ⟨by first | rfl | simp, F2, B0⟩
      · rw [byt_in h0] at hb
        have t1 : (0 : Int) < (s.size : Int) := by omega
        have t2 : (((s[0]'h0).toNat : Int) == 45) = false := by simp; omega
        go_wp2_with fail
        go_meet
        exact ⟨by first | rfl | simp, F2, B0⟩
  case rest =>
    clear B0 F2
    obtain ⟨rfl, F2, B0⟩ := hcut
    generalize wc = v1 at *
    go_upto_if 31 with fail
    go_cut [4] (fun s4 wx => s4 = .string t ∧ Blk wx (w.heap.size) #[.bool false, .string { data := #[] }, .string { data := #[] }] 24 ∧ Below w.heap.size w wx)
    case first =>
      rcases HS.out with ⟨hb, rfl, hE⟩ | ⟨hb, rfl, hE⟩
      · have h0 := byt_lt (s := s) (i := 0) (by omega)
        go_wp2_with fail
        go_meet
        exact ⟨by rw [hE], F2, B0⟩
      · go_wp2_with fail
        go_meet
        exact ⟨by rw [hE], F2, B0⟩
    case rest =>
      clear B0 F2
      obtain ⟨rfl, F2, B0⟩ := hcut
      generalize wc = v2 at *
      go_wp2_with fail
      refine (h1 _).mono ?_
      rintro r w1 ⟨rfl, hB⟩
      replace F2 := F2.keep hB
      replace B0 := B0.trans (hB.mono B0.size)
      clear hB h1
      have hP0 := p0
      go_upto_region 10 with fail
      go_cut [10] (fun s10 wx => s10 = .bool dn ∧ Blk wx (w.heap.size) #[.bool false, .string { data := #[] }, .string { data := #[] }] 24 ∧ Below w.heap.size w wx)
      case first =>
        rcases HM.out with ⟨hb, rfl, _⟩ | ⟨hb, rfl, _⟩
        · rw [byt_in hP0] at hb
          have t2 : (((P[0]'hP0).toNat : Int) == 45) = true := by simp; omega
          go_wp2_with fail
          go_meet
          exact ⟨by first | rfl | simp, F2, B0⟩
        · rw [byt_in hP0] at hb
          have t2 : (((P[0]'hP0).toNat : Int) == 45) = false := by simp; omega
          go_wp2_with fail
          go_meet
          exact ⟨by first | rfl | simp, F2, B0⟩
      case rest =>
        clear B0 F2
        obtain ⟨rfl, F2, B0⟩ := hcut
        generalize wc = v3 at *
        go_upto_if 47 with fail
        go_cut [8] (fun s8 wx => s8 = .string M ∧ Blk wx (w.heap.size) #[.bool false, .string { data := #[] }, .string { data := #[] }] 24 ∧ Below w.heap.size w wx)
        case first =>
          rcases HM.out with ⟨hb, rfl, hE⟩ | ⟨hb, rfl, hE⟩
          · go_wp2_with fail
            go_meet
            exact ⟨by rw [hE], F2, B0⟩
          · go_wp2_with fail
            go_meet
            exact ⟨by rw [hE], F2, B0⟩
        case rest =>
          clear B0 F2
          obtain ⟨rfl, F2, B0⟩ := hcut
          generalize wc = v4 at *
          go_wp2_with fail
          go_loopg [11, 12] (M.size + 1) (fun g s11 s12 wr => ∃ i : Nat, i ≤ M.size ∧ g = M.size + 1 - i ∧ s12 = .int .i64 i ∧ s11 = .int .i64 (min (dvt M i) 5001 : Nat) ∧ wr = v4)
          case atStart => exact ⟨0, by omega, by omega, rfl, rfl, rfl⟩
          case round =>
            obtain ⟨i, hi, hg, rfl, rfl, rfl⟩ := hrel
            by_cases hlt : i < M.size
            · obtain ⟨ha, hz⟩ := hd i hlt
              have HV := Lib.hid (dvt_succ hlt)
              obtain ⟨c, hc⟩ : ∃ c, (M[i]'hlt).toNat = c := ⟨_, rfl⟩
              rw [hc] at ha hz HV
              obtain ⟨v, hv⟩ : ∃ v, v = min (dvt M i) 5001 := ⟨_, rfl⟩
              have hv5 : v ≤ 5001 := by omega
              rw [← hv]
              obtain ⟨x, hx⟩ : ∃ x, x = 10 * v + (c - 48) := ⟨_, rfl⟩
              have hxb : x ≤ 60000 := by omega
              have W1 : IntKind.i64.wrap ((10 : Int) * (v : Int)) = 10 * (v : Int) := IntWalk.i64_in _ (by omega)
              have W2 : IntKind.i64.wrap ((10 : Int) * (v : Int) + ((c : Int) - 48)) = (x : Int) := by rw [IntWalk.i64_in _ (by omega)]; omega
              have E1 : (10 : Int) * (v : Int) + ((c : Int) - 48) = (x : Int) := by omega
              have hnew : min (10 * v + (c - 48)) 5001 = min (dvt M (i + 1)) 5001 := by rw [HV.out, hv]; exact clamp_step _ _
              rw [← hx] at hnew
              have HN := Lib.hid hnew
              clear hv hnew hx
              by_cases hx5 : x ≤ 5001
              · have em : min x 5001 = x := by omega
                have ei : min (x : Int) 5001 = (x : Int) := by omega
                have d1 : decide ((5001 : Int) < x) = false := decide_eq_false (by omega)
                go_wp2
                go_roundg (M.size + 1 - (i + 1))
                case measure => omega
                case rel => exact ⟨i + 1, by omega, rfl, by go_num, by rw [← HN.out, em], rfl⟩
              · have em : min x 5001 = 5001 := by omega
                have ei : min (x : Int) 5001 = 5001 := by omega
                have d1 : decide ((5001 : Int) < x) = true := decide_eq_true (by omega)
                have d2 : decide ((x : Int) < 5001) = false := decide_eq_false (by omega)
                go_wp2
                go_roundg (M.size + 1 - (i + 1))
                case measure => omega
                case rel => exact ⟨i + 1, by omega, rfl, by go_num, by rw [← HN.out, em]; rfl, rfl⟩
            · obtain rfl : i = M.size := by omega
              clear hg hlt hi
              have hpv : min (dvt M M.size) 5001 = 5001 := by omega
              rw [hpv]
              clear hp hpv hd
              obtain ⟨z0, z1, z2⟩ := F2.ce3
              obtain ⟨f0, f1, f2⟩ := F2.fr3
              replace F2 : Blk ((((wr).setCell ⟨w.heap.size, 0, none⟩ (.bool false)).setCell ⟨w.heap.size, 1, none⟩ (.string { data := #[] })).setCell ⟨w.heap.size, 2, none⟩ (.string { data := #[] })) (w.heap.size) #[.bool false, .string { data := #[] }, .string { data := #[] }] 24 := (((F2.setAt 0 (.bool false)).setAt 1 (.string { data := #[] })).setAt 2 (.string { data := #[] }))
              replace B0 := (((B0.setCell (p := ⟨w.heap.size, 0, none⟩) (Nat.le_refl _) (.bool false)).setCell (p := ⟨w.heap.size, 1, none⟩) (Nat.le_refl _) (.string { data := #[] })).setCell (p := ⟨w.heap.size, 2, none⟩) (Nat.le_refl _) (.string { data := #[] }))
              obtain ⟨y0, y1, y2⟩ := F2.ce3
              go_wp2
              exact bodyPost_ret (v := errV 4) (by simp [results, Tryz.results12, go_sem, y0, y1, y2, errV]) rfl ⟨rfl, B0⟩
set_option maxRecDepth 1000000 in
set_option maxHeartbeats 4000000 in
theorem p4dec_neg (s t : ByteArray) (ng : Bool) (w : World) (hs : s.size ≤ 4096) (hsg : Sgn s ng t)
    (H T P : ByteArray)
    (h1 : ∀ W, Calls Tryz.prog 41 #[.string t] W fun r w' => r = .returned (.tuple #[.string H, .string T, .string P, .bool true]) ∧ Below W.heap.size W w')
    (dn : Bool) (M : ByteArray) (HM : Hid ((byt P 0 = 45 ∧ dn = true ∧ M = P.extract 1 P.size) ∨ (byt P 0 ≠ 45 ∧ dn = false ∧ M = P))) (p0 : 0 < P.size) (hP8 : P.size ≤ 4097) (hd : ∀ (i : Nat) (h : i < M.size), 48 ≤ (M[i]'h).toNat ∧ (M[i]'h).toNat ≤ 57) (hM8 : M.size ≤ 4096)
    (p : Nat) (hp : p = dvt M M.size) (hp5 : p ≤ 5000) (hH8 : H.size ≤ 4096) (hT8 : T.size ≤ 4096) (N : Nat) (hN : Fil.dn 8 N ≤ 2100) (hA1 : 1 ≤ (H ++ T).size) (hAd : allDec (H ++ T).data.toList) (hAN : dval 0 (H ++ T).data.toList = N) (hzs : Hid (dcmZ dn M T < 0)) (vn : Bool) (vS vT : ByteArray)
    (hlw : ∀ W, Calls Tryz.prog 43 #[.bool ng, .string (bstr N), .string (bstr (10 ^ (dcmZ dn M T).natAbs))] W fun r w' => r = .returned (.agg #[.bool vn, .string vS, .string vT]) ∧ Below W.heap.size W w') :
    Calls Tryz.prog 12 #[.string s] w fun r w' => r = .returned (.tuple #[.agg #[.bool vn, .string vS, .string vT], .int .i64 0]) ∧ Below w.heap.size w w' := by
  have ht := hsg.size
  have ts : ¬ (4096 : Int) < (s.size : Int) := by omega
  have F2 := Blk.put w #[.bool false, .string { data := #[] }, .string { data := #[] }] 24
  have B0 := (Below.refl w.heap.size w).alloc (Nat.le_refl _) (.cells #[.bool false, .string { data := #[] }, .string { data := #[] }] 24)
  have HS := Lib.hid hsg
  clear hsg
  go_enter Tryz.func12, Tryz.ntmps12
  go_upto_region 4 with fail
  go_cut [5] (fun s5 wx => s5 = .bool ng ∧ Blk wx (w.heap.size) #[.bool false, .string { data := #[] }, .string { data := #[] }] 24 ∧ Below w.heap.size w wx)
  case first =>
    rcases HS.out with ⟨hb, rfl, _⟩ | ⟨hb, rfl, _⟩
    · have h0 := byt_lt (s := s) (i := 0) (by omega)
      rw [byt_in h0] at hb
      have t1 : (0 : Int) < (s.size : Int) := by omega
      have t2 : (((s[0]'h0).toNat : Int) == 45) = true := by simp; omega
      go_wp2_with fail
      go_meet
      exact ⟨by first | rfl | simp, F2, B0⟩
    · rcases Nat.eq_zero_or_pos s.size with h0 | h0
      · have t1 : ¬ (0 : Int) < (s.size : Int) := by omega
        go_wp2_with fail
        go_meet
        exact ⟨by first | rfl | simp, F2, B0⟩
      · rw [byt_in h0] at hb
        have t1 : (0 : Int) < (s.size : Int) := by omega
        have t2 : (((s[0]'h0).toNat : Int) == 45) = false := by simp; omega
        go_wp2_with fail
        go_meet
        exact ⟨by first | rfl | simp, F2, B0⟩
  case rest =>
    clear B0 F2
    obtain ⟨rfl, F2, B0⟩ := hcut
    generalize wc = v1 at *
    go_upto_if 31 with fail
    go_cut [4] (fun s4 wx => s4 = .string t ∧ Blk wx (w.heap.size) #[.bool false, .string { data := #[] }, .string { data := #[] }] 24 ∧ Below w.heap.size w wx)
    case first =>
      rcases HS.out with ⟨hb, rfl, hE⟩ | ⟨hb, rfl, hE⟩
      · have h0 := byt_lt (s := s) (i := 0) (by omega)
        go_wp2_with fail
        go_meet
        exact ⟨by rw [hE], F2, B0⟩
      · go_wp2_with fail
        go_meet
        exact ⟨by rw [hE], F2, B0⟩
    case rest =>
      clear B0 F2
      obtain ⟨rfl, F2, B0⟩ := hcut
      generalize wc = v2 at *
      go_wp2_with fail
      refine (h1 _).mono ?_
      rintro r w1 ⟨rfl, hB⟩
      replace F2 := F2.keep hB
      replace B0 := B0.trans (hB.mono B0.size)
      clear hB h1
      have hP0 := p0
      go_upto_region 10 with fail
      go_cut [10] (fun s10 wx => s10 = .bool dn ∧ Blk wx (w.heap.size) #[.bool false, .string { data := #[] }, .string { data := #[] }] 24 ∧ Below w.heap.size w wx)
      case first =>
        rcases HM.out with ⟨hb, rfl, _⟩ | ⟨hb, rfl, _⟩
        · rw [byt_in hP0] at hb
          have t2 : (((P[0]'hP0).toNat : Int) == 45) = true := by simp; omega
          go_wp2_with fail
          go_meet
          exact ⟨by first | rfl | simp, F2, B0⟩
        · rw [byt_in hP0] at hb
          have t2 : (((P[0]'hP0).toNat : Int) == 45) = false := by simp; omega
          go_wp2_with fail
          go_meet
          exact ⟨by first | rfl | simp, F2, B0⟩
      case rest =>
        clear B0 F2
        obtain ⟨rfl, F2, B0⟩ := hcut
        generalize wc = v3 at *
        go_upto_if 47 with fail
        go_cut [8] (fun s8 wx => s8 = .string M ∧ Blk wx (w.heap.size) #[.bool false, .string { data := #[] }, .string { data := #[] }] 24 ∧ Below w.heap.size w wx)
        case first =>
          rcases HM.out with ⟨hb, rfl, hE⟩ | ⟨hb, rfl, hE⟩
          · go_wp2_with fail
            go_meet
            exact ⟨by rw [hE], F2, B0⟩
          · go_wp2_with fail
            go_meet
            exact ⟨by rw [hE], F2, B0⟩
        case rest =>
          clear B0 F2
          obtain ⟨rfl, F2, B0⟩ := hcut
          generalize wc = v4 at *
          go_wp2_with fail
          go_loopg [11, 12] (M.size + 1) (fun g s11 s12 wr => ∃ i : Nat, i ≤ M.size ∧ g = M.size + 1 - i ∧ s12 = .int .i64 i ∧ s11 = .int .i64 (min (dvt M i) 5001 : Nat) ∧ wr = v4)
          case atStart => exact ⟨0, by omega, by omega, rfl, rfl, rfl⟩
          case round =>
            obtain ⟨i, hi, hg, rfl, rfl, rfl⟩ := hrel
            by_cases hlt : i < M.size
            · obtain ⟨ha, hz⟩ := hd i hlt
              have HV := Lib.hid (dvt_succ hlt)
              obtain ⟨c, hc⟩ : ∃ c, (M[i]'hlt).toNat = c := ⟨_, rfl⟩
              rw [hc] at ha hz HV
              obtain ⟨v, hv⟩ : ∃ v, v = min (dvt M i) 5001 := ⟨_, rfl⟩
              have hv5 : v ≤ 5001 := by omega
              rw [← hv]
              obtain ⟨x, hx⟩ : ∃ x, x = 10 * v + (c - 48) := ⟨_, rfl⟩
              have hxb : x ≤ 60000 := by omega
              have W1 : IntKind.i64.wrap ((10 : Int) * (v : Int)) = 10 * (v : Int) := IntWalk.i64_in _ (by omega)
              have W2 : IntKind.i64.wrap ((10 : Int) * (v : Int) + ((c : Int) - 48)) = (x : Int) := by rw [IntWalk.i64_in _ (by omega)]; omega
              have E1 : (10 : Int) * (v : Int) + ((c : Int) - 48) = (x : Int) := by omega
              have hnew : min (10 * v + (c - 48)) 5001 = min (dvt M (i + 1)) 5001 := by rw [HV.out, hv]; exact clamp_step _ _
              rw [← hx] at hnew
              have HN := Lib.hid hnew
              clear hv hnew hx
              by_cases hx5 : x ≤ 5001
              · have em : min x 5001 = x := by omega
                have ei : min (x : Int) 5001 = (x : Int) := by omega
                have d1 : decide ((5001 : Int) < x) = false := decide_eq_false (by omega)
                go_wp2
                go_roundg (M.size + 1 - (i + 1))
                case measure => omega
                case rel => exact ⟨i + 1, by omega, rfl, by go_num, by rw [← HN.out, em], rfl⟩
              · have em : min x 5001 = 5001 := by omega
                have ei : min (x : Int) 5001 = 5001 := by omega
                have d1 : decide ((5001 : Int) < x) = true := decide_eq_true (by omega)
                have d2 : decide ((x : Int) < 5001) = false := decide_eq_false (by omega)
                go_wp2
                go_roundg (M.size + 1 - (i + 1))
                case measure => omega
                case rel => exact ⟨i + 1, by omega, rfl, by go_num, by rw [← HN.out, em]; rfl, rfl⟩
            · obtain rfl : i = M.size := by omega
              clear hg hlt hi
              have hpv : min (dvt M M.size) 5001 = p := by rw [hp]; omega
              rw [hpv]
              have tp : decide ((5000 : Int) < p) = false := decide_eq_false (by omega)
              have HP := Lib.hid (And.intro hp hpv)
              clear hp hpv hd
              go_upto_if 68 with fail
              go_cut [11] (fun s11 wx => s11 = .int .i64 (if dn then -(p : Int) else p) ∧ Blk wx (w.heap.size) #[.bool false, .string { data := #[] }, .string { data := #[] }] 24 ∧ Below w.heap.size w wx)
              case first =>
                have W9 : IntKind.i64.wrap (-(p : Int)) = -(p : Int) := IntWalk.i64_in _ (by omega)
                cases dn
                · go_wp2_with fail
                  go_meet
                  exact ⟨by first | rfl | simp, F2, B0⟩
                · go_wp2_with fail
                  go_meet
                  exact ⟨by first | rfl | simp, F2, B0⟩
              case rest =>
                clear B0 F2
                obtain ⟨rfl, F2, B0⟩ := hcut
                generalize wc = v5 at *
                obtain ⟨z0, hz0⟩ : ∃ z0 : Int, z0 = if dn = true then -(p : Int) else p := ⟨_, rfl⟩
                rw [← hz0]
                have hz0b : -5000 ≤ z0 ∧ z0 ≤ 5000 := by rw [hz0]; cases dn <;> simp <;> omega
                obtain ⟨hz1, hz2⟩ := hz0b
                have HZ := Lib.hid hz0
                clear hz0
                go_wp2_with fail
                go_loopg [13] (H ++ T).size (fun g s13 wr => ∃ B : ByteArray, g = B.size ∧ s13 = .string B ∧ 1 ≤ B.size ∧ B.size ≤ 8192 ∧ allDec B.data.toList ∧ dval 0 B.data.toList = N ∧ wr = v5)
                case atStart => exact ⟨H ++ T, rfl, rfl, hA1, by rw [ByteArray.size_append]; omega, hAd, hAN, rfl⟩
                case round =>
                  obtain ⟨B, hg, rfl, hB1, hB8, hBd, hBN, rfl⟩ := hrel
                  have hB0 : 0 < B.size := hB1
                  have hcons := drop_one hB0
                  obtain ⟨c, hc⟩ : ∃ c, (B[0]'hB0).toNat = c := ⟨_, rfl⟩
                  have HD9 := Lib.hid (And.intro hBd (And.intro hBN (And.intro hcons hg)))
                  clear hBd hBN hcons hg hAd hAN hA1
                  by_cases hgo : 1 < B.size ∧ c = 48
                  · obtain ⟨hg1, hg2⟩ := hgo
                    have t1 : (1 : Int) < (B.size : Int) := by omega
                    have t2 : ((c : Int) == 48) = true := by simp; omega
                    have HC := Lib.hid (And.intro hc hg2)
                    have hz9 : (B.extract 1 B.size).size = B.size - 1 := by rw [ByteArray.size_extract]; omega
                    have HZ9 := Lib.hid hz9
                    clear hg2 hz9
                    go_wp2
                    go_roundg (B.extract 1 B.size).size
                    case measure => rw [HZ9.out, HD9.out.2.2.2]; omega
                    case rel =>
                      obtain ⟨k1, k2, k3, _⟩ := HD9.out
                      have h48 : (B[0]'hB0) = 48 := UInt8.toNat_inj.1 (by rw [HC.out.1, HC.out.2]; rfl)
                      rw [k3] at k1 k2
                      refine ⟨_, rfl, rfl, by rw [HZ9.out]; omega, by rw [HZ9.out]; omega, fun x hx => k1 x (List.mem_cons_of_mem _ hx), ?_, rfl⟩
                      rw [h48, dval_nought] at k2
                      exact k2
                  · have hend : (B.size = 1) ∨ (1 < B.size ∧ c ≠ 48) := by omega
                    have hgood : goodL B.data.toList := by
                      obtain ⟨k1, _, _, _⟩ := HD9.out
                      refine good_of hB0 (fun i hi => ?_) (fun h => ?_)
                      · have := k1 _ (List.getElem_mem (l := B.data.toList) (n := i) (by rw [Array.length_toList]; exact hi))
                        exact of_decide_eq_true this
                      · rw [hc] at h; omega
                    have hrd := fun W => r2read_any B W (by omega)
                    have hV : readV B = .tuple #[.string (bstr N), .int .i64 0] := by
                      rcases readV_cases B with ⟨_, _, h3⟩ | ⟨e, _, _, h4⟩
                      · rw [h3, HD9.out.2.1]
                      · exact absurd ⟨hgood, by omega, by rw [HD9.out.2.1]; omega⟩ h4
                    rw [hV] at hrd
                    have t1 : decide ((1 : Int) < (B.size : Int)) = false ∨ decide ((1 : Int) < (B.size : Int)) = true ∧ ((c : Int) == 48) = false := by
                      rcases hend with h | ⟨h1, h2⟩
                      · left; exact decide_eq_false (by omega)
                      · right; exact ⟨decide_eq_true (by omega), by simp; omega⟩
                    clear hgo hend hgood hV
                    obtain ⟨z, hz⟩ : ∃ z, z = z0 - T.size := ⟨_, rfl⟩
                    have W7 : IntKind.i64.wrap (z0 - (T.size : Int)) = z := by rw [IntWalk.i64_in _ (by omega), hz]
                    have E7 : z0 - (T.size : Int) = z := hz.symm
                    have hzb : -9096 ≤ z ∧ z ≤ 5000 := by omega
                    obtain ⟨m, hm⟩ : ∃ m, m = z.natAbs := ⟨_, rfl⟩
                    have W8 : IntKind.i64.wrap (-z) = -z := IntWalk.i64_in _ (by omega)
                    have E8 : max z (-z) = (m : Int) := by omega
                    have hpw := fun W => r2pow_ten m W (by omega)
                    have HM9 := Lib.hid (And.intro hz hm)
                    have hsgn : z < 0 := by rw [hz]; have := HZ.out; have := HP.out.1; rw [HZ.out, HP.out.1]; have h9 := hzs.out; unfold dcmZ at h9; omega
                    have lo : -9096 ≤ z := hzb.1
                    have hi9 : z ≤ 5000 := hzb.2
                    have tz : decide (z < 0) = true := decide_eq_true hsgn
                    have tm : decide (z < -z) = true := decide_eq_true (by omega)
                    have tm2 : decide (-z < z) = false := decide_eq_false (by omega)
                    have hlw9 := hlw
                    rw [show (dcmZ dn M T).natAbs = m by rw [hm, hz, HZ.out, HP.out.1]; rfl] at hlw9
                    skip
                    have HL := Lib.hid hlw9
                    clear hz hm hzb hlw hlw9 hsgn hzs
                    rcases t1 with t1 | ⟨t1, t2⟩
                    · go_wp2_with fail
                      refine (hrd _).mono ?_
                      rintro r w6 ⟨rfl, hB⟩
                      replace F2 := F2.keep hB
                      replace B0 := B0.trans (hB.mono B0.size)
                      clear hB
                      go_wp2_with fail
                      refine (hpw _).mono ?_
                      rintro r w6 ⟨rfl, hB⟩
                      replace F2 := F2.keep hB
                      replace B0 := B0.trans (hB.mono B0.size)
                      clear hB
                      go_wp2_with fail
                      refine (HL.out _).mono ?_
                      rintro r w6 ⟨rfl, hB⟩
                      replace F2 := F2.keep hB
                      replace B0 := B0.trans (hB.mono B0.size)
                      clear hB
                      obtain ⟨z0, z1, z2⟩ := F2.ce3
                      obtain ⟨f0, f1, f2⟩ := F2.fr3
                      replace F2 : Blk ((((w6).setCell ⟨w.heap.size, 0, none⟩ (.bool vn)).setCell ⟨w.heap.size, 1, none⟩ (.string vS)).setCell ⟨w.heap.size, 2, none⟩ (.string vT)) (w.heap.size) #[.bool vn, .string vS, .string vT] 24 := (((F2.setAt 0 (.bool vn)).setAt 1 (.string vS)).setAt 2 (.string vT))
                      replace B0 := (((B0.setCell (p := ⟨w.heap.size, 0, none⟩) (Nat.le_refl _) (.bool vn)).setCell (p := ⟨w.heap.size, 1, none⟩) (Nat.le_refl _) (.string vS)).setCell (p := ⟨w.heap.size, 2, none⟩) (Nat.le_refl _) (.string vT))
                      obtain ⟨y0, y1, y2⟩ := F2.ce3
                      go_wp2
                      exact bodyPost_ret (v := .tuple #[.agg #[.bool vn, .string vS, .string vT], .int .i64 0]) (by simp [results, Tryz.results12, go_sem, y0, y1, y2]) rfl ⟨rfl, B0⟩
                    · go_wp2_with fail
                      refine (hrd _).mono ?_
                      rintro r w6 ⟨rfl, hB⟩
                      replace F2 := F2.keep hB
                      replace B0 := B0.trans (hB.mono B0.size)
                      clear hB
                      go_wp2_with fail
                      refine (hpw _).mono ?_
                      rintro r w6 ⟨rfl, hB⟩
                      replace F2 := F2.keep hB
                      replace B0 := B0.trans (hB.mono B0.size)
                      clear hB
                      go_wp2_with fail
                      refine (HL.out _).mono ?_
                      rintro r w6 ⟨rfl, hB⟩
                      replace F2 := F2.keep hB
                      replace B0 := B0.trans (hB.mono B0.size)
                      clear hB
                      obtain ⟨z0, z1, z2⟩ := F2.ce3
                      obtain ⟨f0, f1, f2⟩ := F2.fr3
                      replace F2 : Blk ((((w6).setCell ⟨w.heap.size, 0, none⟩ (.bool vn)).setCell ⟨w.heap.size, 1, none⟩ (.string vS)).setCell ⟨w.heap.size, 2, none⟩ (.string vT)) (w.heap.size) #[.bool vn, .string vS, .string vT] 24 := (((F2.setAt 0 (.bool vn)).setAt 1 (.string vS)).setAt 2 (.string vT))
                      replace B0 := (((B0.setCell (p := ⟨w.heap.size, 0, none⟩) (Nat.le_refl _) (.bool vn)).setCell (p := ⟨w.heap.size, 1, none⟩) (Nat.le_refl _) (.string vS)).setCell (p := ⟨w.heap.size, 2, none⟩) (Nat.le_refl _) (.string vT))
                      obtain ⟨y0, y1, y2⟩ := F2.ce3
                      go_wp2
                      exact bodyPost_ret (v := .tuple #[.agg #[.bool vn, .string vS, .string vT], .int .i64 0]) (by simp [results, Tryz.results12, go_sem, y0, y1, y2]) rfl ⟨rfl, B0⟩
set_option maxRecDepth 1000000 in
set_option maxHeartbeats 4000000 in
theorem p4dec_pos (s t : ByteArray) (ng : Bool) (w : World) (hs : s.size ≤ 4096) (hsg : Sgn s ng t)
    (H T P : ByteArray)
    (h1 : ∀ W, Calls Tryz.prog 41 #[.string t] W fun r w' => r = .returned (.tuple #[.string H, .string T, .string P, .bool true]) ∧ Below W.heap.size W w')
    (dn : Bool) (M : ByteArray) (HM : Hid ((byt P 0 = 45 ∧ dn = true ∧ M = P.extract 1 P.size) ∨ (byt P 0 ≠ 45 ∧ dn = false ∧ M = P))) (p0 : 0 < P.size) (hP8 : P.size ≤ 4097) (hd : ∀ (i : Nat) (h : i < M.size), 48 ≤ (M[i]'h).toNat ∧ (M[i]'h).toNat ≤ 57) (hM8 : M.size ≤ 4096)
    (p : Nat) (hp : p = dvt M M.size) (hp5 : p ≤ 5000) (hH8 : H.size ≤ 4096) (hT8 : T.size ≤ 4096) (N : Nat) (hN : Fil.dn 8 N ≤ 2100) (hA1 : 1 ≤ (H ++ T).size) (hAd : allDec (H ++ T).data.toList) (hAN : dval 0 (H ++ T).data.toList = N) (hzs : Hid (¬ dcmZ dn M T < 0)) (vn : Bool) (vS vT : ByteArray)
    (X : ByteArray) (htm : ∀ W, Calls Tryz.prog 44 #[.string (bstr N), .string (bstr (10 ^ (dcmZ dn M T).natAbs))] W fun r w' => r = .returned (.string X) ∧ Below W.heap.size W w') (hlw : ∀ W, Calls Tryz.prog 43 #[.bool ng, .string X, .string { data := #[1] }] W fun r w' => r = .returned (.agg #[.bool vn, .string vS, .string vT]) ∧ Below W.heap.size W w') :
    Calls Tryz.prog 12 #[.string s] w fun r w' => r = .returned (.tuple #[.agg #[.bool vn, .string vS, .string vT], .int .i64 0]) ∧ Below w.heap.size w w' := by
  have ht := hsg.size
  have ts : ¬ (4096 : Int) < (s.size : Int) := by omega
  have F2 := Blk.put w #[.bool false, .string { data := #[] }, .string { data := #[] }] 24
  have B0 := (Below.refl w.heap.size w).alloc (Nat.le_refl _) (.cells #[.bool false, .string { data := #[] }, .string { data := #[] }] 24)
  have HS := Lib.hid hsg
  clear hsg
  go_enter Tryz.func12, Tryz.ntmps12
  go_upto_region 4 with fail
  go_cut [5] (fun s5 wx => s5 = .bool ng ∧ Blk wx (w.heap.size) #[.bool false, .string { data := #[] }, .string { data := #[] }] 24 ∧ Below w.heap.size w wx)
  case first =>
    rcases HS.out with ⟨hb, rfl, _⟩ | ⟨hb, rfl, _⟩
    · have h0 := byt_lt (s := s) (i := 0) (by omega)
      rw [byt_in h0] at hb
      have t1 : (0 : Int) < (s.size : Int) := by omega
      have t2 : (((s[0]'h0).toNat : Int) == 45) = true := by simp; omega
      go_wp2_with fail
      go_meet
      exact ⟨by first | rfl | simp, F2, B0⟩
    · rcases Nat.eq_zero_or_pos s.size with h0 | h0
      · have t1 : ¬ (0 : Int) < (s.size : Int) := by omega
        go_wp2_with fail
        go_meet
        exact ⟨by first | rfl | simp, F2, B0⟩
      · rw [byt_in h0] at hb
        have t1 : (0 : Int) < (s.size : Int) := by omega
        have t2 : (((s[0]'h0).toNat : Int) == 45) = false := by simp; omega
        go_wp2_with fail
        go_meet
        exact ⟨by first | rfl | simp, F2, B0⟩
  case rest =>
    clear B0 F2
    obtain ⟨rfl, F2, B0⟩ := hcut
    generalize wc = v1 at *
    go_upto_if 31 with fail
    go_cut [4] (fun s4 wx => s4 = .string t ∧ Blk wx (w.heap.size) #[.bool false, .string { data := #[] }, .string { data := #[] }] 24 ∧ Below w.heap.size w wx)
    case first =>
      rcases HS.out with ⟨hb, rfl, hE⟩ | ⟨hb, rfl, hE⟩
      · have h0 := byt_lt (s := s) (i := 0) (by omega)
        go_wp2_with fail
        go_meet
        exact ⟨by rw [hE], F2, B0⟩
      · go_wp2_with fail
        go_meet
        exact ⟨by rw [hE], F2, B0⟩
    case rest =>
      clear B0 F2
      obtain ⟨rfl, F2, B0⟩ := hcut
      generalize wc = v2 at *
      go_wp2_with fail
      refine (h1 _).mono ?_
      rintro r w1 ⟨rfl, hB⟩
      replace F2 := F2.keep hB
      replace B0 := B0.trans (hB.mono B0.size)
      clear hB h1
      have hP0 := p0
      go_upto_region 10 with fail
      go_cut [10] (fun s10 wx => s10 = .bool dn ∧ Blk wx (w.heap.size) #[.bool false, .string { data := #[] }, .string { data := #[] }] 24 ∧ Below w.heap.size w wx)
      case first =>
        rcases HM.out with ⟨hb, rfl, _⟩ | ⟨hb, rfl, _⟩
        · rw [byt_in hP0] at hb
          have t2 : (((P[0]'hP0).toNat : Int) == 45) = true := by simp; omega
          go_wp2_with fail
          go_meet
          exact ⟨by first | rfl | simp, F2, B0⟩
        · rw [byt_in hP0] at hb
          have t2 : (((P[0]'hP0).toNat : Int) == 45) = false := by simp; omega
          go_wp2_with fail
          go_meet
          exact ⟨by first | rfl | simp, F2, B0⟩
      case rest =>
        clear B0 F2
        obtain ⟨rfl, F2, B0⟩ := hcut
        generalize wc = v3 at *
        go_upto_if 47 with fail
        go_cut [8] (fun s8 wx => s8 = .string M ∧ Blk wx (w.heap.size) #[.bool false, .string { data := #[] }, .string { data := #[] }] 24 ∧ Below w.heap.size w wx)
        case first =>
          rcases HM.out with ⟨hb, rfl, hE⟩ | ⟨hb, rfl, hE⟩
          · go_wp2_with fail
            go_meet
            exact ⟨by rw [hE], F2, B0⟩
          · go_wp2_with fail
            go_meet
            exact ⟨by rw [hE], F2, B0⟩
        case rest =>
          clear B0 F2
          obtain ⟨rfl, F2, B0⟩ := hcut
          generalize wc = v4 at *
          go_wp2_with fail
          go_loopg [11, 12] (M.size + 1) (fun g s11 s12 wr => ∃ i : Nat, i ≤ M.size ∧ g = M.size + 1 - i ∧ s12 = .int .i64 i ∧ s11 = .int .i64 (min (dvt M i) 5001 : Nat) ∧ wr = v4)
          case atStart => exact ⟨0, by omega, by omega, rfl, rfl, rfl⟩
          case round =>
            obtain ⟨i, hi, hg, rfl, rfl, rfl⟩ := hrel
            by_cases hlt : i < M.size
            · obtain ⟨ha, hz⟩ := hd i hlt
              have HV := Lib.hid (dvt_succ hlt)
              obtain ⟨c, hc⟩ : ∃ c, (M[i]'hlt).toNat = c := ⟨_, rfl⟩
              rw [hc] at ha hz HV
              obtain ⟨v, hv⟩ : ∃ v, v = min (dvt M i) 5001 := ⟨_, rfl⟩
              have hv5 : v ≤ 5001 := by omega
              rw [← hv]
              obtain ⟨x, hx⟩ : ∃ x, x = 10 * v + (c - 48) := ⟨_, rfl⟩
              have hxb : x ≤ 60000 := by omega
              have W1 : IntKind.i64.wrap ((10 : Int) * (v : Int)) = 10 * (v : Int) := IntWalk.i64_in _ (by omega)
              have W2 : IntKind.i64.wrap ((10 : Int) * (v : Int) + ((c : Int) - 48)) = (x : Int) := by rw [IntWalk.i64_in _ (by omega)]; omega
              have E1 : (10 : Int) * (v : Int) + ((c : Int) - 48) = (x : Int) := by omega
              have hnew : min (10 * v + (c - 48)) 5001 = min (dvt M (i + 1)) 5001 := by rw [HV.out, hv]; exact clamp_step _ _
              rw [← hx] at hnew
              have HN := Lib.hid hnew
              clear hv hnew hx
              by_cases hx5 : x ≤ 5001
              · have em : min x 5001 = x := by omega
                have ei : min (x : Int) 5001 = (x : Int) := by omega
                have d1 : decide ((5001 : Int) < x) = false := decide_eq_false (by omega)
                go_wp2
                go_roundg (M.size + 1 - (i + 1))
                case measure => omega
                case rel => exact ⟨i + 1, by omega, rfl, by go_num, by rw [← HN.out, em], rfl⟩
              · have em : min x 5001 = 5001 := by omega
                have ei : min (x : Int) 5001 = 5001 := by omega
                have d1 : decide ((5001 : Int) < x) = true := decide_eq_true (by omega)
                have d2 : decide ((x : Int) < 5001) = false := decide_eq_false (by omega)
                go_wp2
                go_roundg (M.size + 1 - (i + 1))
                case measure => omega
                case rel => exact ⟨i + 1, by omega, rfl, by go_num, by rw [← HN.out, em]; rfl, rfl⟩
            · obtain rfl : i = M.size := by omega
              clear hg hlt hi
              have hpv : min (dvt M M.size) 5001 = p := by rw [hp]; omega
              rw [hpv]
              have tp : decide ((5000 : Int) < p) = false := decide_eq_false (by omega)
              have HP := Lib.hid (And.intro hp hpv)
              clear hp hpv hd
              go_upto_if 68 with fail
              go_cut [11] (fun s11 wx => s11 = .int .i64 (if dn then -(p : Int) else p) ∧ Blk wx (w.heap.size) #[.bool false, .string { data := #[] }, .string { data := #[] }] 24 ∧ Below w.heap.size w wx)
              case first =>
                have W9 : IntKind.i64.wrap (-(p : Int)) = -(p : Int) := IntWalk.i64_in _ (by omega)
                cases dn
                · go_wp2_with fail
                  go_meet
                  exact ⟨by first | rfl | simp, F2, B0⟩
                · go_wp2_with fail
                  go_meet
                  exact ⟨by first | rfl | simp, F2, B0⟩
              case rest =>
                clear B0 F2
                obtain ⟨rfl, F2, B0⟩ := hcut
                generalize wc = v5 at *
                obtain ⟨z0, hz0⟩ : ∃ z0 : Int, z0 = if dn = true then -(p : Int) else p := ⟨_, rfl⟩
                rw [← hz0]
                have hz0b : -5000 ≤ z0 ∧ z0 ≤ 5000 := by rw [hz0]; cases dn <;> simp <;> omega
                obtain ⟨hz1, hz2⟩ := hz0b
                have HZ := Lib.hid hz0
                clear hz0
                go_wp2_with fail
                go_loopg [13] (H ++ T).size (fun g s13 wr => ∃ B : ByteArray, g = B.size ∧ s13 = .string B ∧ 1 ≤ B.size ∧ B.size ≤ 8192 ∧ allDec B.data.toList ∧ dval 0 B.data.toList = N ∧ wr = v5)
                case atStart => exact ⟨H ++ T, rfl, rfl, hA1, by rw [ByteArray.size_append]; omega, hAd, hAN, rfl⟩
                case round =>
                  obtain ⟨B, hg, rfl, hB1, hB8, hBd, hBN, rfl⟩ := hrel
                  have hB0 : 0 < B.size := hB1
                  have hcons := drop_one hB0
                  obtain ⟨c, hc⟩ : ∃ c, (B[0]'hB0).toNat = c := ⟨_, rfl⟩
                  have HD9 := Lib.hid (And.intro hBd (And.intro hBN (And.intro hcons hg)))
                  clear hBd hBN hcons hg hAd hAN hA1
                  by_cases hgo : 1 < B.size ∧ c = 48
                  · obtain ⟨hg1, hg2⟩ := hgo
                    have t1 : (1 : Int) < (B.size : Int) := by omega
                    have t2 : ((c : Int) == 48) = true := by simp; omega
                    have HC := Lib.hid (And.intro hc hg2)
                    have hz9 : (B.extract 1 B.size).size = B.size - 1 := by rw [ByteArray.size_extract]; omega
                    have HZ9 := Lib.hid hz9
                    clear hg2 hz9
                    go_wp2
                    go_roundg (B.extract 1 B.size).size
                    case measure => rw [HZ9.out, HD9.out.2.2.2]; omega
                    case rel =>
                      obtain ⟨k1, k2, k3, _⟩ := HD9.out
                      have h48 : (B[0]'hB0) = 48 := UInt8.toNat_inj.1 (by rw [HC.out.1, HC.out.2]; rfl)
                      rw [k3] at k1 k2
                      refine ⟨_, rfl, rfl, by rw [HZ9.out]; omega, by rw [HZ9.out]; omega, fun x hx => k1 x (List.mem_cons_of_mem _ hx), ?_, rfl⟩
                      rw [h48, dval_nought] at k2
                      exact k2
                  · have hend : (B.size = 1) ∨ (1 < B.size ∧ c ≠ 48) := by omega
                    have hgood : goodL B.data.toList := by
                      obtain ⟨k1, _, _, _⟩ := HD9.out
                      refine good_of hB0 (fun i hi => ?_) (fun h => ?_)
                      · have := k1 _ (List.getElem_mem (l := B.data.toList) (n := i) (by rw [Array.length_toList]; exact hi))
                        exact of_decide_eq_true this
                      · rw [hc] at h; omega
                    have hrd := fun W => r2read_any B W (by omega)
                    have hV : readV B = .tuple #[.string (bstr N), .int .i64 0] := by
                      rcases readV_cases B with ⟨_, _, h3⟩ | ⟨e, _, _, h4⟩
                      · rw [h3, HD9.out.2.1]
                      · exact absurd ⟨hgood, by omega, by rw [HD9.out.2.1]; omega⟩ h4
                    rw [hV] at hrd
                    have t1 : decide ((1 : Int) < (B.size : Int)) = false ∨ decide ((1 : Int) < (B.size : Int)) = true ∧ ((c : Int) == 48) = false := by
                      rcases hend with h | ⟨h1, h2⟩
                      · left; exact decide_eq_false (by omega)
                      · right; exact ⟨decide_eq_true (by omega), by simp; omega⟩
                    clear hgo hend hgood hV
                    obtain ⟨z, hz⟩ : ∃ z, z = z0 - T.size := ⟨_, rfl⟩
                    have W7 : IntKind.i64.wrap (z0 - (T.size : Int)) = z := by rw [IntWalk.i64_in _ (by omega), hz]
                    have E7 : z0 - (T.size : Int) = z := hz.symm
                    have hzb : -9096 ≤ z ∧ z ≤ 5000 := by omega
                    obtain ⟨m, hm⟩ : ∃ m, m = z.natAbs := ⟨_, rfl⟩
                    have W8 : IntKind.i64.wrap (-z) = -z := IntWalk.i64_in _ (by omega)
                    have E8 : max z (-z) = (m : Int) := by omega
                    have hpw := fun W => r2pow_ten m W (by omega)
                    have HM9 := Lib.hid (And.intro hz hm)
                    have hsgn : ¬ z < 0 := by rw [hz]; have := HZ.out; have := HP.out.1; rw [HZ.out, HP.out.1]; have h9 := hzs.out; unfold dcmZ at h9; omega
                    have lo : -9096 ≤ z := hzb.1
                    have hi9 : z ≤ 5000 := hzb.2
                    have tz : decide (z < 0) = false := decide_eq_false hsgn
                    have tm : decide (z < -z) = false := decide_eq_false (by omega)
                    have tm2 : decide (-z < z) = decide (0 < z) := by simp; omega
                    have hlw9 := hlw
                    skip
                    have ht9 := htm
                    rw [show (dcmZ dn M T).natAbs = m by rw [hm, hz, HZ.out, HP.out.1]; rfl] at ht9
                    have HT := Lib.hid ht9
                    clear ht9 htm
                    have HL := Lib.hid hlw9
                    clear hz hm hzb hlw hlw9 hsgn hzs
                    rcases t1 with t1 | ⟨t1, t2⟩
                    · go_wp2_with fail
                      refine (hrd _).mono ?_
                      rintro r w6 ⟨rfl, hB⟩
                      replace F2 := F2.keep hB
                      replace B0 := B0.trans (hB.mono B0.size)
                      clear hB
                      go_wp2_with fail
                      refine (hpw _).mono ?_
                      rintro r w6 ⟨rfl, hB⟩
                      replace F2 := F2.keep hB
                      replace B0 := B0.trans (hB.mono B0.size)
                      clear hB
                      go_wp2_with fail
                      refine (HT.out _).mono ?_
                      rintro r w6 ⟨rfl, hB⟩
                      replace F2 := F2.keep hB
                      replace B0 := B0.trans (hB.mono B0.size)
                      clear hB
                      go_wp2_with fail
                      refine (HL.out _).mono ?_
                      rintro r w6 ⟨rfl, hB⟩
                      replace F2 := F2.keep hB
                      replace B0 := B0.trans (hB.mono B0.size)
                      clear hB
                      obtain ⟨z0, z1, z2⟩ := F2.ce3
                      obtain ⟨f0, f1, f2⟩ := F2.fr3
                      replace F2 : Blk ((((w6).setCell ⟨w.heap.size, 0, none⟩ (.bool vn)).setCell ⟨w.heap.size, 1, none⟩ (.string vS)).setCell ⟨w.heap.size, 2, none⟩ (.string vT)) (w.heap.size) #[.bool vn, .string vS, .string vT] 24 := (((F2.setAt 0 (.bool vn)).setAt 1 (.string vS)).setAt 2 (.string vT))
                      replace B0 := (((B0.setCell (p := ⟨w.heap.size, 0, none⟩) (Nat.le_refl _) (.bool vn)).setCell (p := ⟨w.heap.size, 1, none⟩) (Nat.le_refl _) (.string vS)).setCell (p := ⟨w.heap.size, 2, none⟩) (Nat.le_refl _) (.string vT))
                      obtain ⟨y0, y1, y2⟩ := F2.ce3
                      go_wp2
                      exact bodyPost_ret (v := .tuple #[.agg #[.bool vn, .string vS, .string vT], .int .i64 0]) (by simp [results, Tryz.results12, go_sem, y0, y1, y2]) rfl ⟨rfl, B0⟩
                    · go_wp2_with fail
                      refine (hrd _).mono ?_
                      rintro r w6 ⟨rfl, hB⟩
                      replace F2 := F2.keep hB
                      replace B0 := B0.trans (hB.mono B0.size)
                      clear hB
                      go_wp2_with fail
                      refine (hpw _).mono ?_
                      rintro r w6 ⟨rfl, hB⟩
                      replace F2 := F2.keep hB
                      replace B0 := B0.trans (hB.mono B0.size)
                      clear hB
                      go_wp2_with fail
                      refine (HT.out _).mono ?_
                      rintro r w6 ⟨rfl, hB⟩
                      replace F2 := F2.keep hB
                      replace B0 := B0.trans (hB.mono B0.size)
                      clear hB
                      go_wp2_with fail
                      refine (HL.out _).mono ?_
                      rintro r w6 ⟨rfl, hB⟩
                      replace F2 := F2.keep hB
                      replace B0 := B0.trans (hB.mono B0.size)
                      clear hB
                      obtain ⟨z0, z1, z2⟩ := F2.ce3
                      obtain ⟨f0, f1, f2⟩ := F2.fr3
                      replace F2 : Blk ((((w6).setCell ⟨w.heap.size, 0, none⟩ (.bool vn)).setCell ⟨w.heap.size, 1, none⟩ (.string vS)).setCell ⟨w.heap.size, 2, none⟩ (.string vT)) (w.heap.size) #[.bool vn, .string vS, .string vT] 24 := (((F2.setAt 0 (.bool vn)).setAt 1 (.string vS)).setAt 2 (.string vT))
                      replace B0 := (((B0.setCell (p := ⟨w.heap.size, 0, none⟩) (Nat.le_refl _) (.bool vn)).setCell (p := ⟨w.heap.size, 1, none⟩) (Nat.le_refl _) (.string vS)).setCell (p := ⟨w.heap.size, 2, none⟩) (Nat.le_refl _) (.string vT))
                      obtain ⟨y0, y1, y2⟩ := F2.ce3
                      go_wp2
                      exact bodyPost_ret (v := .tuple #[.agg #[.bool vn, .string vS, .string vT], .int .i64 0]) (by simp [results, Tryz.results12, go_sem, y0, y1, y2]) rfl ⟨rfl, B0⟩
end Go.Proofs.YtbhfnigblhfikaaGreat
