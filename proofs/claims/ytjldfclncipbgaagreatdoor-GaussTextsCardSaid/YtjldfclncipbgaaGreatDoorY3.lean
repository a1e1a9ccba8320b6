/- The reference of layer 3: Read: its ways, by letters (more). -/
import Derived.Test.YtjldfclncipbgaaGreatDoorY1
namespace Go.Proofs.YtjldfclncipbgaaGreatDoor
open Go Go.RowKit Go.PlainAid Fil

set_option maxRecDepth 1000000 in
set_option maxHeartbeats 16000000 in
theorem r3read_mu (s t : ByteArray) (ng : Bool) (w : World) (hs0 : (s.toList == [48]) = false) (hs : s.size ≤ 9223372036854775807) (hsg : Sg3 s ng t)
    (i : Nat) (hi : i < t.size) (h112 : byt t i = 112)
    (hn : ∀ k, k < i → byt t k ≠ 112)
    (AA X : ByteArray) (hA : t.extract 0 i = AA) (E : ByteArray) (hE : t.extract (i + 1) t.size = E)
    (h1 : ∀ W, Calls Tryz.prog 31 #[.string AA] W fun r w' => r = .returned (.tuple #[.string X, .int .i64 0]) ∧ Below W.heap.size W w')
    (dn : Bool) (M : ByteArray) (hsE : Sg3 E dn M)
    (Y : ByteArray) (y : Nat)
    (h2 : ∀ W, Calls Tryz.prog 31 #[.string M] W fun r w' => r = .returned (.tuple #[.string Y, .int .i64 0]) ∧ Below W.heap.size W w')
    (h3 : ∀ W, Calls Tryz.prog 32 #[.string Y] W fun r w' => r = .returned (.tuple #[.int .u64 (y : Nat), .bool true]) ∧ Below W.heap.size W w')
    (hy : (y : Int) ≤ 1048576)
    (hdn : dn = false)
    (h0 : X.toList.isEmpty = false)
    (h4 : ∀ W, Calls Tryz.prog 10 #[.agg #[.bool ng, .string X, .int .i64 (y : Int)]] W fun r w' => r = .returned (.bool false) ∧ Below W.heap.size W w') :
    Calls Tryz.prog 9 #[.string s] w fun r w' => r = .returned (.tuple #[.agg #[.bool false, .string { data := #[] }, .int .i64 0], .int .i64 30]) ∧ Below w.heap.size w w' := by
  have hsEz := hsE.size
  have HE := Lib.hid hsE
  clear hsE
  have HD := Lib.hid hdn
  clear hdn
  have HY := Lib.hid hy
  clear hy
  have h02 : ¬ X.toList = [] := fun h => by rw [h] at h0; exact Bool.noConfusion h0
  have h03 : (X.toList == []) = false := by simpa using h02
  have hEs : E.size ≤ t.size := by rw [← hE, ByteArray.size_extract]; omega
  have hth := hsg.size
  have ht : t.size ≤ 9223372036854775807 := by omega
  have F2 := Blk.put w #[.bool false, .string { data := #[] }, .int .i64 0] 24
  have B0 := (Below.refl w.heap.size w).alloc (Nat.le_refl _) (.cells #[.bool false, .string { data := #[] }, .int .i64 0] 24)
  have HN := Lib.hid hn
  have HS := Lib.hid hsg
  clear hn hsg hth
  go_enter Tryz.func9, Tryz.ntmps9
  go_upto_region 3 with fail
  go_cut [4] (fun sb wx => sb = .bool ng ∧ Blk wx (w.heap.size) #[.bool false, .string { data := #[] }, .int .i64 0] 24 ∧ Below w.heap.size w wx)
  case first =>
    rcases HS.out with ⟨hb, rfl, _⟩ | ⟨hb, rfl, _⟩
    · have h0 := byt_lt (s := s) (i := 0) (by omega)
      rw [byt_in h0] at hb
      have t1 : (0 : Int) < (s.size : Int) := by omega
      have t2 : (((s[0]'h0).toNat : Int) == 45) = true := by simp; omega
      go_wp2_with fail
      go_meet
      exact ⟨by first | rfl | simp, F2, B0⟩
    · rcases Nat.eq_zero_or_pos s.size with h0 | h0
      · have t1 : ¬ (0 : Int) < (s.size : Int) := by omega
        go_wp2_with fail
        go_meet
        exact ⟨by first | rfl | simp, F2, B0⟩
      · rw [byt_in h0] at hb
        have t1 : (0 : Int) < (s.size : Int) := by omega
        have t2 : (((s[0]'h0).toNat : Int) == 45) = false := by simp; omega
        go_wp2_with fail
        go_meet
        exact ⟨by first | rfl | simp, F2, B0⟩
  case rest =>
    clear B0 F2
    obtain ⟨rfl, F2, B0⟩ := hcut
    generalize wc = va5 at *
    go_upto_if 27 with fail
    go_cut [5] (fun sb wx => sb = .string t ∧ Blk wx (w.heap.size) #[.bool false, .string { data := #[] }, .int .i64 0] 24 ∧ Below w.heap.size w wx)
    case first =>
      rcases HS.out with ⟨hb, rfl, hE2⟩ | ⟨hb, rfl, hE2⟩
      · have h0 := byt_lt (s := s) (i := 0) (by omega)
        go_wp2_with fail
        go_meet
        exact ⟨by rw [hE2], F2, B0⟩
      · go_wp2_with fail
        go_meet
        exact ⟨by rw [hE2], F2, B0⟩
    case rest =>
      clear B0 F2
      obtain ⟨rfl, F2, B0⟩ := hcut
      generalize wc = v5 at *
      go_wp2_with fail
      go_loopg [6] (i + 1) (fun g s6 wr => ∃ k : Nat, k ≤ i ∧ g = i + 1 - k ∧ s6 = .int .i64 k ∧ wr = v5)
      case atStart => exact ⟨0, by omega, by omega, rfl, rfl⟩
      case round =>
        obtain ⟨k, hk, hg, rfl, rfl⟩ := hrel
        by_cases hki : k < i
        · have hkt : k < t.size := by omega
          have hb := HN.out k hki
          rw [byt_in hkt] at hb
          have t1 : decide ((k : Int) < t.size) = true := decide_eq_true (by omega)
          have t2 : (((t[k]'hkt).toNat : Int) != 112) = true := by simp; omega
          clear hb
          go_wp2
          go_roundg (i + 1 - (k + 1))
          case measure => omega
          case rel => exact ⟨k + 1, by omega, rfl, by go_num, rfl⟩
        · obtain rfl : i = k := by omega
          clear hg hki hk
          have hb : byt t i = 112 := h112
          rw [byt_in hi] at hb
          have t1 : decide ((i : Int) < t.size) = true := decide_eq_true (by omega)
          have t2 : (((t[i]'hi).toNat : Int) != 112) = false := by simp; omega
          have t3 : ((i : Int) == (t.size : Int)) = false := by simp; omega
          have t4 : (i == t.size) = false := by simp; omega
          have e1 : ((i : Int) + 1).toNat = i + 1 := by omega
          clear hb h112
          go_wp2_with fail
          (with_reducible refine (h1 _).mono ?_)
          rintro r w2 ⟨rfl, hb2⟩
          replace F2 := F2.keep hb2
          replace B0 := B0.trans (hb2.mono B0.size)
          clear hb2
          go_upto_region 16 with fail
          go_cut [10] (fun sb wx => sb = .bool dn ∧ Blk wx (w.heap.size) #[.bool false, .string { data := #[] }, .int .i64 0] 24 ∧ Below w.heap.size w wx)
          case first =>
            rcases HE.out with ⟨hb, rfl, _⟩ | ⟨hb, rfl, _⟩
            · have h0 := byt_lt (s := E) (i := 0) (by omega)
              rw [byt_in h0] at hb
              have t1 : (0 : Int) < (E.size : Int) := by omega
              have t2 : (((E[0]'h0).toNat : Int) == 45) = true := by simp; omega
              go_wp2_with fail
              go_meet
              exact ⟨by first | rfl | simp, F2, B0⟩
            · rcases Nat.eq_zero_or_pos E.size with h0 | h0
              · have t1 : ¬ (0 : Int) < (E.size : Int) := by omega
                go_wp2_with fail
                go_meet
                exact ⟨by first | rfl | simp, F2, B0⟩
              · rw [byt_in h0] at hb
                have t1 : (0 : Int) < (E.size : Int) := by omega
                have t2 : (((E[0]'h0).toNat : Int) == 45) = false := by simp; omega
                go_wp2_with fail
                go_meet
                exact ⟨by first | rfl | simp, F2, B0⟩
          case rest =>
            clear B0 F2
            obtain ⟨rfl, F2, B0⟩ := hcut
            generalize wc = va9 at *
            go_upto_if 69 with fail
            go_cut [9] (fun sb wx => sb = .string M ∧ Blk wx (w.heap.size) #[.bool false, .string { data := #[] }, .int .i64 0] 24 ∧ Below w.heap.size w wx)
            case first =>
              rcases HE.out with ⟨hb, rfl, hE2⟩ | ⟨hb, rfl, hE2⟩
              · have h0 := byt_lt (s := E) (i := 0) (by omega)
                go_wp2_with fail
                go_meet
                exact ⟨by rw [hE2], F2, B0⟩
              · go_wp2_with fail
                go_meet
                exact ⟨by rw [hE2], F2, B0⟩
            case rest =>
              clear B0 F2
              obtain ⟨rfl, F2, B0⟩ := hcut
              generalize wc = v9 at *

              have q_w_F2 : Hid (w.heap.size ≤ w.heap.size) := Lib.hid (Nat.le_refl _)
              have hdn := HD.out
              subst hdn
              have hy := HY.out
              have t5 : ¬ (1048576 : Int) < (y : Int) := by omega
              have W1 : IntKind.i64.wrap (y : Int) = y := IntWalk.i64_in _ (by omega)
              have W2 : IntKind.i64.wrap (-(y : Int)) = -(y : Int) := IntWalk.i64_in _ (by omega)
              go_wp2_with fail
              (with_reducible refine (h2 _).mono ?_)
              rintro r w3 ⟨rfl, hb3⟩
              replace F2 := F2.keep hb3
              replace B0 := B0.trans (hb3.mono B0.size)
              clear hb3
              go_wp2_with fail
              (with_reducible refine (h3 _).mono ?_)
              rintro r w4 ⟨rfl, hb4⟩
              replace F2 := F2.keep hb4
              replace B0 := B0.trans (hb4.mono B0.size)
              clear hb4
              replace F2 := F2.allocd (.cells #[.bool ng, .string X, .int .i64 (y : Int)] 24)
              have F14 := Blk.put (w4) #[.bool ng, .string X, .int .i64 (y : Int)] 24
              replace B0 := B0.alloc B0.size (.cells #[.bool ng, .string X, .int .i64 (y : Int)] 24)
              obtain ⟨xF148_0, xF148_1, xF148_2⟩ := F14.ce3
              go_wp2_with fail
              (with_reducible refine (h4 _).mono ?_)
              rintro r w5 ⟨rfl, hb5⟩
              clear xF148_0 xF148_1 xF148_2
              replace F2 := F2.keep hb5
              replace F14 := F14.keep hb5
              replace B0 := B0.trans (hb5.mono B0.size)
              clear hb5
              obtain ⟨xF29_0, xF29_1, xF29_2⟩ := F2.ce3
              obtain ⟨xF29_0f, xF29_1f, xF29_2f⟩ := F2.fr3
              clear F14
              replace F2 : Blk ((((w5).setCell ⟨w.heap.size, 0, none⟩ (.bool false)).setCell ⟨w.heap.size, 1, none⟩ (.string { data := #[] })).setCell ⟨w.heap.size, 2, none⟩ (.int .i64 0)) (w.heap.size) #[.bool false, .string { data := #[] }, .int .i64 0] 24 := (((F2.setAt 0 (.bool false)).setAt 1 (.string { data := #[] })).setAt 2 (.int .i64 0))
              replace B0 := (((B0.setCell (p := ⟨w.heap.size, 0, none⟩) q_w_F2.out (.bool false)).setCell (p := ⟨w.heap.size, 1, none⟩) q_w_F2.out (.string { data := #[] })).setCell (p := ⟨w.heap.size, 2, none⟩) q_w_F2.out (.int .i64 0))
              obtain ⟨xF210_0, xF210_1, xF210_2⟩ := F2.ce3
              go_wp2
              exact bodyPost_ret (v := .tuple #[.agg #[.bool false, .string { data := #[] }, .int .i64 0], .int .i64 30]) (by simp [results, Tryz.results9, go_sem, xF210_0, xF210_1, xF210_2]) rfl ⟨rfl, B0⟩
set_option maxRecDepth 1000000 in
set_option maxHeartbeats 16000000 in
theorem r3read_md (s t : ByteArray) (ng : Bool) (w : World) (hs0 : (s.toList == [48]) = false) (hs : s.size ≤ 9223372036854775807) (hsg : Sg3 s ng t)
    (i : Nat) (hi : i < t.size) (h112 : byt t i = 112)
    (hn : ∀ k, k < i → byt t k ≠ 112)
    (AA X : ByteArray) (hA : t.extract 0 i = AA) (E : ByteArray) (hE : t.extract (i + 1) t.size = E)
    (h1 : ∀ W, Calls Tryz.prog 31 #[.string AA] W fun r w' => r = .returned (.tuple #[.string X, .int .i64 0]) ∧ Below W.heap.size W w')
    (dn : Bool) (M : ByteArray) (hsE : Sg3 E dn M)
    (Y : ByteArray) (y : Nat)
    (h2 : ∀ W, Calls Tryz.prog 31 #[.string M] W fun r w' => r = .returned (.tuple #[.string Y, .int .i64 0]) ∧ Below W.heap.size W w')
    (h3 : ∀ W, Calls Tryz.prog 32 #[.string Y] W fun r w' => r = .returned (.tuple #[.int .u64 (y : Nat), .bool true]) ∧ Below W.heap.size W w')
    (hy : (y : Int) ≤ 1048576)
    (hdn : dn = true)
    (hy0 : ((y : Int) == 0) = false)
    (h0 : X.toList.isEmpty = false)
    (h4 : ∀ W, Calls Tryz.prog 10 #[.agg #[.bool ng, .string X, .int .i64 (-(y : Int))]] W fun r w' => r = .returned (.bool false) ∧ Below W.heap.size W w') :
    Calls Tryz.prog 9 #[.string s] w fun r w' => r = .returned (.tuple #[.agg #[.bool false, .string { data := #[] }, .int .i64 0], .int .i64 30]) ∧ Below w.heap.size w w' := by
  have hsEz := hsE.size
  have HE := Lib.hid hsE
  clear hsE
  have HD := Lib.hid hdn
  clear hdn
  have HY := Lib.hid hy
  clear hy
  have h02 : ¬ X.toList = [] := fun h => by rw [h] at h0; exact Bool.noConfusion h0
  have h03 : (X.toList == []) = false := by simpa using h02
  have hEs : E.size ≤ t.size := by rw [← hE, ByteArray.size_extract]; omega
  have hth := hsg.size
  have ht : t.size ≤ 9223372036854775807 := by omega
  have F2 := Blk.put w #[.bool false, .string { data := #[] }, .int .i64 0] 24
  have B0 := (Below.refl w.heap.size w).alloc (Nat.le_refl _) (.cells #[.bool false, .string { data := #[] }, .int .i64 0] 24)
  have HN := Lib.hid hn
  have HS := Lib.hid hsg
  clear hn hsg hth
  go_enter Tryz.func9, Tryz.ntmps9
  go_upto_region 3 with fail
  go_cut [4] (fun sb wx => sb = .bool ng ∧ Blk wx (w.heap.size) #[.bool false, .string { data := #[] }, .int .i64 0] 24 ∧ Below w.heap.size w wx)
  case first =>
    rcases HS.out with ⟨hb, rfl, _⟩ | ⟨hb, rfl, _⟩
    · have h0 := byt_lt (s := s) (i := 0) (by omega)
      rw [byt_in h0] at hb
      have t1 : (0 : Int) < (s.size : Int) := by omega
      have t2 : (((s[0]'h0).toNat : Int) == 45) = true := by simp; omega
      go_wp2_with fail
      go_meet
      exact ⟨by first | rfl | simp, F2, B0⟩
    · rcases Nat.eq_zero_or_pos s.size with h0 | h0
      · have t1 : ¬ (0 : Int) < (s.size : Int) := by omega
        go_wp2_with fail
        go_meet
        exact ⟨by first | rfl | simp, F2, B0⟩
      · rw [byt_in h0] at hb
        have t1 : (0 : Int) < (s.size : Int) := by omega
        have t2 : (((s[0]'h0).toNat : Int) == 45) = false := by simp; omega
        go_wp2_with fail
        go_meet
        exact ⟨by first | rfl | simp, F2, B0⟩
  case rest =>
    clear B0 F2
    obtain ⟨rfl, F2, B0⟩ := hcut
    generalize wc = va5 at *
    go_upto_if 27 with fail
    go_cut [5] (fun sb wx => sb = .string t ∧ Blk wx (w.heap.size) #[.bool false, .string { data := #[] }, .int .i64 0] 24 ∧ Below w.heap.size w wx)
    case first =>
      rcases HS.out with ⟨hb, rfl, hE2⟩ | ⟨hb, rfl, hE2⟩
      · have h0 := byt_lt (s := s) (i := 0) (by omega)
        go_wp2_with fail
        go_meet
        exact ⟨by rw [hE2], F2, B0⟩
      · go_wp2_with fail
        go_meet
        exact ⟨by rw [hE2], F2, B0⟩
    case rest =>
      clear B0 F2
      obtain ⟨rfl, F2, B0⟩ := hcut
      generalize wc = v5 at *
      go_wp2_with fail
      go_loopg [6] (i + 1) (fun g s6 wr => ∃ k : Nat, k ≤ i ∧ g = i + 1 - k ∧ s6 = .int .i64 k ∧ wr = v5)
      case atStart => exact ⟨0, by omega, by omega, rfl, rfl⟩
      case round =>
        obtain ⟨k, hk, hg, rfl, rfl⟩ := hrel
        by_cases hki : k < i
        · have hkt : k < t.size := by omega
          have hb := HN.out k hki
          rw [byt_in hkt] at hb
          have t1 : decide ((k : Int) < t.size) = true := decide_eq_true (by omega)
          have t2 : (((t[k]'hkt).toNat : Int) != 112) = true := by simp; omega
          clear hb
          go_wp2
          go_roundg (i + 1 - (k + 1))
          case measure => omega
          case rel => exact ⟨k + 1, by omega, rfl, by go_num, rfl⟩
        · obtain rfl : i = k := by omega
          clear hg hki hk
          have hb : byt t i = 112 := h112
          rw [byt_in hi] at hb
          have t1 : decide ((i : Int) < t.size) = true := decide_eq_true (by omega)
          have t2 : (((t[i]'hi).toNat : Int) != 112) = false := by simp; omega
          have t3 : ((i : Int) == (t.size : Int)) = false := by simp; omega
          have t4 : (i == t.size) = false := by simp; omega
          have e1 : ((i : Int) + 1).toNat = i + 1 := by omega
          clear hb h112
          go_wp2_with fail
          (with_reducible refine (h1 _).mono ?_)
          rintro r w2 ⟨rfl, hb2⟩
          replace F2 := F2.keep hb2
          replace B0 := B0.trans (hb2.mono B0.size)
          clear hb2
          go_upto_region 16 with fail
          go_cut [10] (fun sb wx => sb = .bool dn ∧ Blk wx (w.heap.size) #[.bool false, .string { data := #[] }, .int .i64 0] 24 ∧ Below w.heap.size w wx)
          case first =>
            rcases HE.out with ⟨hb, rfl, _⟩ | ⟨hb, rfl, _⟩
            · have h0 := byt_lt (s := E) (i := 0) (by omega)
              rw [byt_in h0] at hb
              have t1 : (0 : Int) < (E.size : Int) := by omega
              have t2 : (((E[0]'h0).toNat : Int) == 45) = true := by simp; omega
              go_wp2_with fail
              go_meet
              exact ⟨by first | rfl | simp, F2, B0⟩
            · rcases Nat.eq_zero_or_pos E.size with h0 | h0
              · have t1 : ¬ (0 : Int) < (E.size : Int) := by omega
                go_wp2_with fail
                go_meet
                exact ⟨by first | rfl | simp, F2, B0⟩
              · rw [byt_in h0] at hb
                have t1 : (0 : Int) < (E.size : Int) := by omega
                have t2 : (((E[0]'h0).toNat : Int) == 45) = false := by simp; omega
                go_wp2_with fail
                go_meet
                exact ⟨by first | rfl | simp, F2, B0⟩
          case rest =>
            clear B0 F2
            obtain ⟨rfl, F2, B0⟩ := hcut
            generalize wc = va9 at *
            go_upto_if 69 with fail
            go_cut [9] (fun sb wx => sb = .string M ∧ Blk wx (w.heap.size) #[.bool false, .string { data := #[] }, .int .i64 0] 24 ∧ Below w.heap.size w wx)
            case first =>
              rcases HE.out with ⟨hb, rfl, hE2⟩ | ⟨hb, rfl, hE2⟩
              · have h0 := byt_lt (s := E) (i := 0) (by omega)
                go_wp2_with fail
                go_meet
                exact ⟨by rw [hE2], F2, B0⟩
              · go_wp2_with fail
                go_meet
                exact ⟨by rw [hE2], F2, B0⟩
            case rest =>
              clear B0 F2
              obtain ⟨rfl, F2, B0⟩ := hcut
              generalize wc = v9 at *

              have q_w_F2 : Hid (w.heap.size ≤ w.heap.size) := Lib.hid (Nat.le_refl _)
              have hdn := HD.out
              subst hdn
              have hy := HY.out
              have t5 : ¬ (1048576 : Int) < (y : Int) := by omega
              have W1 : IntKind.i64.wrap (y : Int) = y := IntWalk.i64_in _ (by omega)
              have W2 : IntKind.i64.wrap (-(y : Int)) = -(y : Int) := IntWalk.i64_in _ (by omega)
              go_wp2_with fail
              (with_reducible refine (h2 _).mono ?_)
              rintro r w3 ⟨rfl, hb3⟩
              replace F2 := F2.keep hb3
              replace B0 := B0.trans (hb3.mono B0.size)
              clear hb3
              go_wp2_with fail
              (with_reducible refine (h3 _).mono ?_)
              rintro r w4 ⟨rfl, hb4⟩
              replace F2 := F2.keep hb4
              replace B0 := B0.trans (hb4.mono B0.size)
              clear hb4
              have q_F2_F14 : Hid (w.heap.size < w4.heap.size) := Lib.hid (by have := F2.lt; first | exact this | omega | (simp; done) | simpa using this)
              have q_w_F14 : Hid (w.heap.size ≤ w4.heap.size) := Lib.hid (by have := B0.size; first | exact this | omega | (simp; done) | simpa using this)
              replace F2 := F2.allocd (.cells #[.bool ng, .string X, .int .i64 (y : Int)] 24)
              have F14 := Blk.put (w4) #[.bool ng, .string X, .int .i64 (y : Int)] 24
              replace B0 := B0.alloc B0.size (.cells #[.bool ng, .string X, .int .i64 (y : Int)] 24)
              go_upto_region 25 with fail
              generalize (w4).alloc (.cells #[.bool ng, .string X, .int .i64 (y : Int)] 24) = v1 at *
              obtain ⟨xF149_0, xF149_1, xF149_2⟩ := F14.ce3
              obtain ⟨xF149_0f, xF149_1f, xF149_2f⟩ := F14.fr3
              replace F2 := (F2.far 2 (.int .i64 (-(y : Int))) (Nat.ne_of_lt q_F2_F14.out))
              replace F14 : Blk ((v1).setCell ⟨w4.heap.size, 2, none⟩ (.int .i64 (-(y : Int)))) (w4.heap.size) #[.bool ng, .string X, .int .i64 (-(y : Int))] 24 := (F14.setAt 2 (.int .i64 (-(y : Int))))
              replace B0 := (B0.setCell (p := ⟨w4.heap.size, 2, none⟩) q_w_F14.out (.int .i64 (-(y : Int))))
              obtain ⟨xF1410_0, xF1410_1, xF1410_2⟩ := F14.ce3
              go_wp2_with fail
              (with_reducible refine (h4 _).mono ?_)
              rintro r w5 ⟨rfl, hb5⟩
              clear xF149_0 xF149_1 xF149_2 xF149_0f xF149_1f xF149_2f xF1410_0 xF1410_1 xF1410_2
              replace F2 := F2.keep hb5
              replace F14 := F14.keep hb5
              replace B0 := B0.trans (hb5.mono B0.size)
              clear hb5
              obtain ⟨xF211_0, xF211_1, xF211_2⟩ := F2.ce3
              obtain ⟨xF211_0f, xF211_1f, xF211_2f⟩ := F2.fr3
              clear F14
              replace F2 : Blk ((((w5).setCell ⟨w.heap.size, 0, none⟩ (.bool false)).setCell ⟨w.heap.size, 1, none⟩ (.string { data := #[] })).setCell ⟨w.heap.size, 2, none⟩ (.int .i64 0)) (w.heap.size) #[.bool false, .string { data := #[] }, .int .i64 0] 24 := (((F2.setAt 0 (.bool false)).setAt 1 (.string { data := #[] })).setAt 2 (.int .i64 0))
              replace B0 := (((B0.setCell (p := ⟨w.heap.size, 0, none⟩) q_w_F2.out (.bool false)).setCell (p := ⟨w.heap.size, 1, none⟩) q_w_F2.out (.string { data := #[] })).setCell (p := ⟨w.heap.size, 2, none⟩) q_w_F2.out (.int .i64 0))
              obtain ⟨xF212_0, xF212_1, xF212_2⟩ := F2.ce3
              go_wp2
              exact bodyPost_ret (v := .tuple #[.agg #[.bool false, .string { data := #[] }, .int .i64 0], .int .i64 30]) (by simp [results, Tryz.results9, go_sem, xF212_0, xF212_1, xF212_2]) rfl ⟨rfl, B0⟩
set_option maxRecDepth 1000000 in
set_option maxHeartbeats 16000000 in
theorem r3read_ku (s t : ByteArray) (ng : Bool) (w : World) (hs0 : (s.toList == [48]) = false) (hs : s.size ≤ 9223372036854775807) (hsg : Sg3 s ng t)
    (i : Nat) (hi : i < t.size) (h112 : byt t i = 112)
    (hn : ∀ k, k < i → byt t k ≠ 112)
    (AA X : ByteArray) (hA : t.extract 0 i = AA) (E : ByteArray) (hE : t.extract (i + 1) t.size = E)
    (h1 : ∀ W, Calls Tryz.prog 31 #[.string AA] W fun r w' => r = .returned (.tuple #[.string X, .int .i64 0]) ∧ Below W.heap.size W w')
    (dn : Bool) (M : ByteArray) (hsE : Sg3 E dn M)
    (Y : ByteArray) (y : Nat)
    (h2 : ∀ W, Calls Tryz.prog 31 #[.string M] W fun r w' => r = .returned (.tuple #[.string Y, .int .i64 0]) ∧ Below W.heap.size W w')
    (h3 : ∀ W, Calls Tryz.prog 32 #[.string Y] W fun r w' => r = .returned (.tuple #[.int .u64 (y : Nat), .bool true]) ∧ Below W.heap.size W w')
    (hy : (y : Int) ≤ 1048576)
    (hdn : dn = false)
    (h0 : X.toList.isEmpty = false)
    (h4 : ∀ W, Calls Tryz.prog 10 #[.agg #[.bool ng, .string X, .int .i64 (y : Int)]] W fun r w' => r = .returned (.bool true) ∧ Below W.heap.size W w') :
    Calls Tryz.prog 9 #[.string s] w fun r w' => r = .returned (.tuple #[.agg #[.bool ng, .string X, .int .i64 (y : Int)], .int .i64 0]) ∧ Below w.heap.size w w' := by
  have hsEz := hsE.size
  have HE := Lib.hid hsE
  clear hsE
  have HD := Lib.hid hdn
  clear hdn
  have HY := Lib.hid hy
  clear hy
  have h02 : ¬ X.toList = [] := fun h => by rw [h] at h0; exact Bool.noConfusion h0
  have h03 : (X.toList == []) = false := by simpa using h02
  have hEs : E.size ≤ t.size := by rw [← hE, ByteArray.size_extract]; omega
  have hth := hsg.size
  have ht : t.size ≤ 9223372036854775807 := by omega
  have F2 := Blk.put w #[.bool false, .string { data := #[] }, .int .i64 0] 24
  have B0 := (Below.refl w.heap.size w).alloc (Nat.le_refl _) (.cells #[.bool false, .string { data := #[] }, .int .i64 0] 24)
  have HN := Lib.hid hn
  have HS := Lib.hid hsg
  clear hn hsg hth
  go_enter Tryz.func9, Tryz.ntmps9
  go_upto_region 3 with fail
  go_cut [4] (fun sb wx => sb = .bool ng ∧ Blk wx (w.heap.size) #[.bool false, .string { data := #[] }, .int .i64 0] 24 ∧ Below w.heap.size w wx)
  case first =>
    rcases HS.out with ⟨hb, rfl, _⟩ | ⟨hb, rfl, _⟩
    · have h0 := byt_lt (s := s) (i := 0) (by omega)
      rw [byt_in h0] at hb
      have t1 : (0 : Int) < (s.size : Int) := by omega
      have t2 : (((s[0]'h0).toNat : Int) == 45) = true := by simp; omega
      go_wp2_with fail
      go_meet
      exact ⟨by first | rfl | simp, F2, B0⟩
    · rcases Nat.eq_zero_or_pos s.size with h0 | h0
      · have t1 : ¬ (0 : Int) < (s.size : Int) := by omega
        go_wp2_with fail
        go_meet
        exact ⟨by first | rfl | simp, F2, B0⟩
      · rw [byt_in h0] at hb
        have t1 : (0 : Int) < (s.size : Int) := by omega
        have t2 : (((s[0]'h0).toNat : Int) == 45) = false := by simp; omega
        go_wp2_with fail
        go_meet
        exact ⟨by first | rfl | simp, F2, B0⟩
  case rest =>
    clear B0 F2
    obtain ⟨rfl, F2, B0⟩ := hcut
    generalize wc = va5 at *
    go_upto_if 27 with fail
    go_cut [5] (fun sb wx => sb = .string t ∧ Blk wx (w.heap.size) #[.bool false, .string { data := #[] }, .int .i64 0] 24 ∧ Below w.heap.size w wx)
    case first =>
      rcases HS.out with ⟨hb, rfl, hE2⟩ | ⟨hb, rfl, hE2⟩
      · have h0 := byt_lt (s := s) (i := 0) (by omega)
        go_wp2_with fail
        go_meet
        exact ⟨by rw [hE2], F2, B0⟩
      · go_wp2_with fail
        go_meet
        exact ⟨by rw [hE2], F2, B0⟩
    case rest =>
      clear B0 F2
      obtain ⟨rfl, F2, B0⟩ := hcut
      generalize wc = v5 at *
      go_wp2_with fail
      go_loopg [6] (i + 1) (fun g s6 wr => ∃ k : Nat, k ≤ i ∧ g = i + 1 - k ∧ s6 = .int .i64 k ∧ wr = v5)
      case atStart => exact ⟨0, by omega, by omega, rfl, rfl⟩
      case round =>
        obtain ⟨k, hk, hg, rfl, rfl⟩ := hrel
        by_cases hki : k < i
        · have hkt : k < t.size := by omega
          have hb := HN.out k hki
          rw [byt_in hkt] at hb
          have t1 : decide ((k : Int) < t.size) = true := decide_eq_true (by omega)
          have t2 : (((t[k]'hkt).toNat : Int) != 112) = true := by simp; omega
          clear hb
          go_wp2
          go_roundg (i + 1 - (k + 1))
          case measure => omega
          case rel => exact ⟨k + 1, by omega, rfl, by go_num, rfl⟩
        · obtain rfl : i = k := by omega
          clear hg hki hk
          have hb : byt t i = 112 := h112
          rw [byt_in hi] at hb
          have t1 : decide ((i : Int) < t.size) = true := decide_eq_true (by omega)
          have t2 : (((t[i]'hi).toNat : Int) != 112) = false := by simp; omega
          have t3 : ((i : Int) == (t.size : Int)) = false := by simp; omega
          have t4 : (i == t.size) = false := by simp; omega
          have e1 : ((i : Int) + 1).toNat = i + 1 := by omega
          clear hb h112
          go_wp2_with fail
          (with_reducible refine (h1 _).mono ?_)
          rintro r w2 ⟨rfl, hb2⟩
          replace F2 := F2.keep hb2
          replace B0 := B0.trans (hb2.mono B0.size)
          clear hb2
          go_upto_region 16 with fail
          go_cut [10] (fun sb wx => sb = .bool dn ∧ Blk wx (w.heap.size) #[.bool false, .string { data := #[] }, .int .i64 0] 24 ∧ Below w.heap.size w wx)
          case first =>
            rcases HE.out with ⟨hb, rfl, _⟩ | ⟨hb, rfl, _⟩
            · have h0 := byt_lt (s := E) (i := 0) (by omega)
              rw [byt_in h0] at hb
              have t1 : (0 : Int) < (E.size : Int) := by omega
              have t2 : (((E[0]'h0).toNat : Int) == 45) = true := by simp; omega
              go_wp2_with fail
              go_meet
              exact ⟨by first | rfl | simp, F2, B0⟩
            · rcases Nat.eq_zero_or_pos E.size with h0 | h0
              · have t1 : ¬ (0 : Int) < (E.size : Int) := by omega
                go_wp2_with fail
                go_meet
                exact ⟨by first | rfl | simp, F2, B0⟩
              · rw [byt_in h0] at hb
                have t1 : (0 : Int) < (E.size : Int) := by omega
                have t2 : (((E[0]'h0).toNat : Int) == 45) = false := by simp; omega
                go_wp2_with fail
                go_meet
                exact ⟨by first | rfl | simp, F2, B0⟩
          case rest =>
            clear B0 F2
            obtain ⟨rfl, F2, B0⟩ := hcut
            generalize wc = va9 at *
            go_upto_if 69 with fail
            go_cut [9] (fun sb wx => sb = .string M ∧ Blk wx (w.heap.size) #[.bool false, .string { data := #[] }, .int .i64 0] 24 ∧ Below w.heap.size w wx)
            case first =>
              rcases HE.out with ⟨hb, rfl, hE2⟩ | ⟨hb, rfl, hE2⟩
              · have h0 := byt_lt (s := E) (i := 0) (by omega)
                go_wp2_with fail
                go_meet
                exact ⟨by rw [hE2], F2, B0⟩
              · go_wp2_with fail
                go_meet
                exact ⟨by rw [hE2], F2, B0⟩
            case rest =>
              clear B0 F2
              obtain ⟨rfl, F2, B0⟩ := hcut
              generalize wc = v9 at *

              have q_w_F2 : Hid (w.heap.size ≤ w.heap.size) := Lib.hid (Nat.le_refl _)
              have hdn := HD.out
              subst hdn
              have hy := HY.out
              have t5 : ¬ (1048576 : Int) < (y : Int) := by omega
              have W1 : IntKind.i64.wrap (y : Int) = y := IntWalk.i64_in _ (by omega)
              have W2 : IntKind.i64.wrap (-(y : Int)) = -(y : Int) := IntWalk.i64_in _ (by omega)
              go_wp2_with fail
              (with_reducible refine (h2 _).mono ?_)
              rintro r w3 ⟨rfl, hb3⟩
              replace F2 := F2.keep hb3
              replace B0 := B0.trans (hb3.mono B0.size)
              clear hb3
              go_wp2_with fail
              (with_reducible refine (h3 _).mono ?_)
              rintro r w4 ⟨rfl, hb4⟩
              replace F2 := F2.keep hb4
              replace B0 := B0.trans (hb4.mono B0.size)
              clear hb4
              have q_F2_F14 : Hid (w.heap.size < w4.heap.size) := Lib.hid (by have := F2.lt; first | exact this | omega | (simp; done) | simpa using this)
              replace F2 := F2.allocd (.cells #[.bool ng, .string X, .int .i64 (y : Int)] 24)
              have F14 := Blk.put (w4) #[.bool ng, .string X, .int .i64 (y : Int)] 24
              replace B0 := B0.alloc B0.size (.cells #[.bool ng, .string X, .int .i64 (y : Int)] 24)
              obtain ⟨xF148_0, xF148_1, xF148_2⟩ := F14.ce3
              go_wp2_with fail
              (with_reducible refine (h4 _).mono ?_)
              rintro r w5 ⟨rfl, hb5⟩
              clear xF148_0 xF148_1 xF148_2
              replace F2 := F2.keep hb5
              replace F14 := F14.keep hb5
              replace B0 := B0.trans (hb5.mono B0.size)
              clear hb5
              obtain ⟨xF149_0, xF149_1, xF149_2⟩ := F14.ce3
              obtain ⟨xF29_0, xF29_1, xF29_2⟩ := F2.ce3
              obtain ⟨xF29_0f, xF29_1f, xF29_2f⟩ := F2.fr3
              replace F14 := (((F14.far 0 (.bool ng) (Nat.ne_of_gt q_F2_F14.out)).far 1 (.string X) (Nat.ne_of_gt q_F2_F14.out)).far 2 (.int .i64 (y : Int)) (Nat.ne_of_gt q_F2_F14.out))
              replace F2 : Blk ((((w5).setCell ⟨w.heap.size, 0, none⟩ (.bool ng)).setCell ⟨w.heap.size, 1, none⟩ (.string X)).setCell ⟨w.heap.size, 2, none⟩ (.int .i64 (y : Int))) (w.heap.size) #[.bool ng, .string X, .int .i64 (y : Int)] 24 := (((F2.setAt 0 (.bool ng)).setAt 1 (.string X)).setAt 2 (.int .i64 (y : Int)))
              replace B0 := (((B0.setCell (p := ⟨w.heap.size, 0, none⟩) q_w_F2.out (.bool ng)).setCell (p := ⟨w.heap.size, 1, none⟩) q_w_F2.out (.string X)).setCell (p := ⟨w.heap.size, 2, none⟩) q_w_F2.out (.int .i64 (y : Int)))
              obtain ⟨xF210_0, xF210_1, xF210_2⟩ := F2.ce3
              go_wp2
              exact bodyPost_ret (v := .tuple #[.agg #[.bool ng, .string X, .int .i64 (y : Int)], .int .i64 0]) (by simp [results, Tryz.results9, go_sem, xF210_0, xF210_1, xF210_2]) rfl ⟨rfl, B0⟩
set_option maxRecDepth 1000000 in
set_option maxHeartbeats 16000000 in
theorem r3read_kd (s t : ByteArray) (ng : Bool) (w : World) (hs0 : (s.toList == [48]) = false) (hs : s.size ≤ 9223372036854775807) (hsg : Sg3 s ng t)
    (i : Nat) (hi : i < t.size) (h112 : byt t i = 112)
    (hn : ∀ k, k < i → byt t k ≠ 112)
    (AA X : ByteArray) (hA : t.extract 0 i = AA) (E : ByteArray) (hE : t.extract (i + 1) t.size = E)
    (h1 : ∀ W, Calls Tryz.prog 31 #[.string AA] W fun r w' => r = .returned (.tuple #[.string X, .int .i64 0]) ∧ Below W.heap.size W w')
    (dn : Bool) (M : ByteArray) (hsE : Sg3 E dn M)
    (Y : ByteArray) (y : Nat)
    (h2 : ∀ W, Calls Tryz.prog 31 #[.string M] W fun r w' => r = .returned (.tuple #[.string Y, .int .i64 0]) ∧ Below W.heap.size W w')
    (h3 : ∀ W, Calls Tryz.prog 32 #[.string Y] W fun r w' => r = .returned (.tuple #[.int .u64 (y : Nat), .bool true]) ∧ Below W.heap.size W w')
    (hy : (y : Int) ≤ 1048576)
    (hdn : dn = true)
    (hy0 : ((y : Int) == 0) = false)
    (h0 : X.toList.isEmpty = false)
    (h4 : ∀ W, Calls Tryz.prog 10 #[.agg #[.bool ng, .string X, .int .i64 (-(y : Int))]] W fun r w' => r = .returned (.bool true) ∧ Below W.heap.size W w') :
    Calls Tryz.prog 9 #[.string s] w fun r w' => r = .returned (.tuple #[.agg #[.bool ng, .string X, .int .i64 (-(y : Int))], .int .i64 0]) ∧ Below w.heap.size w w' := by
  have hsEz := hsE.size
  have HE := Lib.hid hsE
  clear hsE
  have HD := Lib.hid hdn
  clear hdn
  have HY := Lib.hid hy
  clear hy
  have h02 : ¬ X.toList = [] := fun h => by rw [h] at h0; exact Bool.noConfusion h0
  have h03 : (X.toList == []) = false := by simpa using h02
  have hEs : E.size ≤ t.size := by rw [← hE, ByteArray.size_extract]; omega
  have hth := hsg.size
  have ht : t.size ≤ 9223372036854775807 := by omega
  have F2 := Blk.put w #[.bool false, .string { data := #[] }, .int .i64 0] 24
  have B0 := (Below.refl w.heap.size w).alloc (Nat.le_refl _) (.cells #[.bool false, .string { data := #[] }, .int .i64 0] 24)
  have HN := Lib.hid hn
  have HS := Lib.hid hsg
  clear hn hsg hth
  go_enter Tryz.func9, Tryz.ntmps9
  go_upto_region 3 with fail
  go_cut [4] (fun sb wx => sb = .bool ng ∧ Blk wx (w.heap.size) #[.bool false, .string { data := #[] }, .int .i64 0] 24 ∧ Below w.heap.size w wx)
  case first =>
    rcases HS.out with ⟨hb, rfl, _⟩ | ⟨hb, rfl, _⟩
    · have h0 := byt_lt (s := s) (i := 0) (by omega)
      rw [byt_in h0] at hb
      have t1 : (0 : Int) < (s.size : Int) := by omega
      have t2 : (((s[0]'h0).toNat : Int) == 45) = true := by simp; omega
      go_wp2_with fail
      go_meet
      exact ⟨by first | rfl | simp, F2, B0⟩
    · rcases Nat.eq_zero_or_pos s.size with h0 | h0
      · have t1 : ¬ (0 : Int) < (s.size : Int) := by omega
        go_wp2_with fail
        go_meet
        exact ⟨by first | rfl | simp, F2, B0⟩
      · rw [byt_in h0] at hb
        have t1 : (0 : Int) < (s.size : Int) := by omega
        have t2 : (((s[0]'h0).toNat : Int) == 45) = false := by simp; omega
        go_wp2_with fail
        go_meet
        exact ⟨by first | rfl | simp, F2, B0⟩
  case rest =>
    clear B0 F2
    obtain ⟨rfl, F2, B0⟩ := hcut
    generalize wc = va5 at *
    go_upto_if 27 with fail
    go_cut [5] (fun sb wx => sb = .string t ∧ Blk wx (w.heap.size) #[.bool false, .string { data := #[] }, .int .i64 0] 24 ∧ Below w.heap.size w wx)
    case first =>
      rcases HS.out with ⟨hb, rfl, hE2⟩ | ⟨hb, rfl, hE2⟩
      · have h0 := byt_lt (s := s) (i := 0) (by omega)
        go_wp2_with fail
        go_meet
        exact ⟨by rw [hE2], F2, B0⟩
      · go_wp2_with fail
        go_meet
        exact ⟨by rw [hE2], F2, B0⟩
    case rest =>
      clear B0 F2
      obtain ⟨rfl, F2, B0⟩ := hcut
      generalize wc = v5 at *
      go_wp2_with fail
      go_loopg [6] (i + 1) (fun g s6 wr => ∃ k : Nat, k ≤ i ∧ g = i + 1 - k ∧ s6 = .int .i64 k ∧ wr = v5)
      case atStart => exact ⟨0, by omega, by omega, rfl, rfl⟩
      case round =>
        obtain ⟨k, hk, hg, rfl, rfl⟩ := hrel
        by_cases hki : k < i
        · have hkt : k < t.size := by omega
          have hb := HN.out k hki
          rw [byt_in hkt] at hb
          have t1 : decide ((k : Int) < t.size) = true := decide_eq_true (by omega)
          have t2 : (((t[k]'hkt).toNat : Int) != 112) = true := by simp; omega
          clear hb
          go_wp2
          go_roundg (i + 1 - (k + 1))
          case measure => omega
          case rel => exact ⟨k + 1, by omega, rfl, by go_num, rfl⟩
        · obtain rfl : i = k := by omega
          clear hg hki hk
          have hb : byt t i = 112 := h112
          rw [byt_in hi] at hb
          have t1 : decide ((i : Int) < t.size) = true := decide_eq_true (by omega)
          have t2 : (((t[i]'hi).toNat : Int) != 112) = false := by simp; omega
          have t3 : ((i : Int) == (t.size : Int)) = false := by simp; omega
          have t4 : (i == t.size) = false := by simp; omega
          have e1 : ((i : Int) + 1).toNat = i + 1 := by omega
          clear hb h112
          go_wp2_with fail
          (with_reducible refine (h1 _).mono ?_)
          rintro r w2 ⟨rfl, hb2⟩
          replace F2 := F2.keep hb2
          replace B0 := B0.trans (hb2.mono B0.size)
          clear hb2
          go_upto_region 16 with fail
          go_cut [10] (fun sb wx => sb = .bool dn ∧ Blk wx (w.heap.size) #[.bool false, .string { data := #[] }, .int .i64 0] 24 ∧ Below w.heap.size w wx)
          case first =>
            rcases HE.out with ⟨hb, rfl, _⟩ | ⟨hb, rfl, _⟩
            · have h0 := byt_lt (s := E) (i := 0) (by omega)
              rw [byt_in h0] at hb
              have t1 : (0 : Int) < (E.size : Int) := by omega
              have t2 : (((E[0]'h0).toNat : Int) == 45) = true := by simp; omega
              go_wp2_with fail
              go_meet
              exact ⟨by first | rfl | simp, F2, B0⟩
            · rcases Nat.eq_zero_or_pos E.size with h0 | h0
              · have t1 : ¬ (0 : Int) < (E.size : Int) := by omega
                go_wp2_with fail
                go_meet
                exact ⟨by first | rfl | simp, F2, B0⟩
              · rw [byt_in h0] at hb
                have t1 : (0 : Int) < (E.size : Int) := by omega
                have t2 : (((E[0]'h0).toNat : Int) == 45) = false := by simp; omega
                go_wp2_with fail
                go_meet
                exact ⟨by first | rfl | simp, F2, B0⟩
          case rest =>
            clear B0 F2
            obtain ⟨rfl, F2, B0⟩ := hcut
            generalize wc = va9 at *
            go_upto_if 69 with fail
            go_cut [9] (fun sb wx => sb = .string M ∧ Blk wx (w.heap.size) #[.bool false, .string { data := #[] }, .int .i64 0] 24 ∧ Below w.heap.size w wx)
            case first =>
              rcases HE.out with ⟨hb, rfl, hE2⟩ | ⟨hb, rfl, hE2⟩
              · have h0 := byt_lt (s := E) (i := 0) (by omega)
                go_wp2_with fail
                go_meet
                exact ⟨by rw [hE2], F2, B0⟩
              · go_wp2_with fail
                go_meet
                exact ⟨by rw [hE2], F2, B0⟩
            case rest =>
              clear B0 F2
              obtain ⟨rfl, F2, B0⟩ := hcut
              generalize wc = v9 at *

              have q_w_F2 : Hid (w.heap.size ≤ w.heap.size) := Lib.hid (Nat.le_refl _)
              have hdn := HD.out
              subst hdn
              have hy := HY.out
              have t5 : ¬ (1048576 : Int) < (y : Int) := by omega
              have W1 : IntKind.i64.wrap (y : Int) = y := IntWalk.i64_in _ (by omega)
              have W2 : IntKind.i64.wrap (-(y : Int)) = -(y : Int) := IntWalk.i64_in _ (by omega)
              go_wp2_with fail
              (with_reducible refine (h2 _).mono ?_)
              rintro r w3 ⟨rfl, hb3⟩
              replace F2 := F2.keep hb3
              replace B0 := B0.trans (hb3.mono B0.size)
              clear hb3
              go_wp2_with fail
              (with_reducible refine (h3 _).mono ?_)
              rintro r w4 ⟨rfl, hb4⟩
              replace F2 := F2.keep hb4
              replace B0 := B0.trans (hb4.mono B0.size)
              clear hb4
              have q_F2_F14 : Hid (w.heap.size < w4.heap.size) := Lib.hid (by have := F2.lt; first | exact this | omega | (simp; done) | simpa using this)
              have q_w_F14 : Hid (w.heap.size ≤ w4.heap.size) := Lib.hid (by have := B0.size; first | exact this | omega | (simp; done) | simpa using this)
              replace F2 := F2.allocd (.cells #[.bool ng, .string X, .int .i64 (y : Int)] 24)
              have F14 := Blk.put (w4) #[.bool ng, .string X, .int .i64 (y : Int)] 24
              replace B0 := B0.alloc B0.size (.cells #[.bool ng, .string X, .int .i64 (y : Int)] 24)
              go_upto_region 25 with fail
              generalize (w4).alloc (.cells #[.bool ng, .string X, .int .i64 (y : Int)] 24) = v1 at *
              obtain ⟨xF149_0, xF149_1, xF149_2⟩ := F14.ce3
              obtain ⟨xF149_0f, xF149_1f, xF149_2f⟩ := F14.fr3
              replace F2 := (F2.far 2 (.int .i64 (-(y : Int))) (Nat.ne_of_lt q_F2_F14.out))
              replace F14 : Blk ((v1).setCell ⟨w4.heap.size, 2, none⟩ (.int .i64 (-(y : Int)))) (w4.heap.size) #[.bool ng, .string X, .int .i64 (-(y : Int))] 24 := (F14.setAt 2 (.int .i64 (-(y : Int))))
              replace B0 := (B0.setCell (p := ⟨w4.heap.size, 2, none⟩) q_w_F14.out (.int .i64 (-(y : Int))))
              obtain ⟨xF1410_0, xF1410_1, xF1410_2⟩ := F14.ce3
              go_wp2_with fail
              (with_reducible refine (h4 _).mono ?_)
              rintro r w5 ⟨rfl, hb5⟩
              clear xF149_0 xF149_1 xF149_2 xF149_0f xF149_1f xF149_2f xF1410_0 xF1410_1 xF1410_2
              replace F2 := F2.keep hb5
              replace F14 := F14.keep hb5
              replace B0 := B0.trans (hb5.mono B0.size)
              clear hb5
              obtain ⟨xF1411_0, xF1411_1, xF1411_2⟩ := F14.ce3
              obtain ⟨xF211_0, xF211_1, xF211_2⟩ := F2.ce3
              obtain ⟨xF211_0f, xF211_1f, xF211_2f⟩ := F2.fr3
              replace F14 := (((F14.far 0 (.bool ng) (Nat.ne_of_gt q_F2_F14.out)).far 1 (.string X) (Nat.ne_of_gt q_F2_F14.out)).far 2 (.int .i64 (-(y : Int))) (Nat.ne_of_gt q_F2_F14.out))
              replace F2 : Blk ((((w5).setCell ⟨w.heap.size, 0, none⟩ (.bool ng)).setCell ⟨w.heap.size, 1, none⟩ (.string X)).setCell ⟨w.heap.size, 2, none⟩ (.int .i64 (-(y : Int)))) (w.heap.size) #[.bool ng, .string X, .int .i64 (-(y : Int))] 24 := (((F2.setAt 0 (.bool ng)).setAt 1 (.string X)).setAt 2 (.int .i64 (-(y : Int))))
              replace B0 := (((B0.setCell (p := ⟨w.heap.size, 0, none⟩) q_w_F2.out (.bool ng)).setCell (p := ⟨w.heap.size, 1, none⟩) q_w_F2.out (.string X)).setCell (p := ⟨w.heap.size, 2, none⟩) q_w_F2.out (.int .i64 (-(y : Int))))
              obtain ⟨xF212_0, xF212_1, xF212_2⟩ := F2.ce3
              go_wp2
              exact bodyPost_ret (v := .tuple #[.agg #[.bool ng, .string X, .int .i64 (-(y : Int))], .int .i64 0]) (by simp [results, Tryz.results9, go_sem, xF212_0, xF212_1, xF212_2]) rfl ⟨rfl, B0⟩
end Go.Proofs.YtjldfclncipbgaaGreatDoor
