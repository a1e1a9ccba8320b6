/- The walk over filigreelaw03.DyadLists. -/
import Derived.Test.YtgcifpjhhoalmaaDoorLl
import Derived.Test.YtgcifpjhhoalmaaDoorB7
namespace Go.Proofs.YtgcifpjhhoalmaaDoor
open Go Go.RowKit Go.PlainAid Fil

theorem Row3.dysN {w : World} {g n : Nat} {N : Nat → Bool} {S : Nat → ByteArray} {E : Nat → Int} (h : Row3 w g (n + 1) (cpN N n) (cpS S n) (fun j => if j < n then E j else 77)) : Dys w (some ⟨g, 0, none⟩) n N S E := fun hn => by
  obtain ⟨b, o, hA, hl, hc⟩ := h.dys (Nat.le_succ n) hn
  refine ⟨b, o, hA, hl, fun i hi => ?_⟩
  have := hc i hi
  rw [show cpN N n i = N i from if_pos hi, show cpS S n i = S i from if_pos hi] at this
  dsimp only at this
  rw [if_pos hi] at this
  exact this
set_option maxHeartbeats 8000000 in
theorem lists_bad (A : Option Addr) (n c : Nat) (N : Nat → Bool) (S : Nat → ByteArray) (E : Nat → Int) (w : World) (hn : n ≤ 4398046511103) (h : Dys w A n N S E) (hs : ∀ i, i < n → (S i).size ≤ 9223372036854775807) (hb : (allB n fun i => mayB (N i) (S i) (E i)) = false) (hT : Tab w) :
    Calls Tryd.prog 4 #[.slice A n c] w fun r w' => r = .returned (.bool true) ∧ Below w.heap.size w w' := by
  obtain ⟨i0, hi, hp⟩ := Option.map_eq_some_iff.1 Tryd.infoDyad
  have hz0 : i0.zero = some (.agg #[.bool false, .string { data := #[] }, .int .i64 0]) := congrArg Prod.fst hp
  have hz1 : i0.size = 3 := congrArg (fun q => q.2.1) hp
  have hz2 : i0.bytes = 32 := congrArg (fun q => q.2.2) hp
  have hmk := fun W => run_make (P := Tryd.prog) W 33 24 i0 _ Tryd.underlying33 hi hz0 .i64 .i64 ((n : Int) + 1) ((n : Int) + 1) (by omega) (by omega) (by rw [hz2]; omega) (by omega)
  simp only [show ((n : Int) + 1).toNat = n + 1 by omega, hz1, show (Value.agg #[.bool false, .string { data := #[] }, .int .i64 0]).cells = #[.bool false, .string { data := #[] }, .int .i64 0] from rfl] at hmk
  have hrow := Row3.made w (n + 1)
  have hB0 := (Below.refl w.heap.size w).alloc (Nat.le_refl _) (.cells (madeCells #[.bool false, .string { data := #[] }, .int .i64 0] ((n + 1) * 3)) 24)
  have hn0 : 0 ≤ (n : Int) := by omega
  have hn1 : (n : Int) ≤ 4398046511103 := by omega
  have hsum := fun W (h : Dys W _ n N S E) => dsum_bad (some ⟨w.heap.size, 0, none⟩) n (n + 1) N S E W (by omega) h hs hb
  simp only [dyR_nil] at hsum
  have hmay := fun i (hi : i < n) W => rmay_any (N i) (S i) (E i) W (hs i hi)
  have HB := Lib.hid hb
  have HS := Lib.hid hs
  have HK := Lib.hid hmay
  have HU := Lib.hid hsum
  clear hp hi hz0 hz1 hz2 hmay hsum hb hs
  have HH := Lib.hid h
  clear h
  go_enter Tryd.func4, Tryd.ntmps4
  go_wp2_with fail
  clear hmk
  go_loopg [4] n (fun gh s4 wr => ∃ k : Nat, k ≤ n ∧ gh = n - k ∧ s4 = .int .i64 k ∧ Row3 wr w.heap.size (n + 1) (cpN N k) (cpS S k) (cpE E k) ∧ Below w.heap.size w wr)
  case atStart => exact ⟨0, Nat.zero_le _, rfl, rfl, hrow.congr (fun i _ => ⟨rfl, rfl, rfl⟩), hB0⟩
  case round =>
    obtain ⟨k, hk, hg, rfl, hr, hB⟩ := hrel
    have Hg := Lib.hid hg
    clear hrow hB0 hg
    by_cases hkn : k < n
    · obtain ⟨b, o, hA, hlt, hc⟩ := Dys.below HH.out hB (by omega)
      subst hA
      obtain ⟨k1, k2, k3⟩ := hc k hkn
      obtain ⟨c0, c1, c2, f0, f1, f2⟩ := hr.cells (show k < n + 1 by omega)
      have hr' := hr.copy (show k < n + 1 by omega)
      have hB' := ((hB.setCell (p := ⟨w.heap.size, k * 3, none⟩) (Nat.le_refl _) (.bool (N k))).setCell (p := ⟨w.heap.size, k * 3 + 1, none⟩) (Nat.le_refl _) (.string (S k))).setCell (p := ⟨w.heap.size, k * 3 + 2, none⟩) (Nat.le_refl _) (.int .i64 (E k))
      have g0 : 0 ≤ (k : Int) := by omega
      have g1 : (k : Int) < (n : Int) := by omega
      have g2 : (k : Int) < (n : Int) + 1 := by omega
      clear hc hr hB hlt hk
      go_wp2
      go_roundg (n - (k + 1))
      case measure => have := Hg.out; omega
      case rel => exact ⟨k + 1, by omega, rfl, by go_num, hr', hB'⟩
    · obtain rfl : k = n := by omega
      obtain ⟨c0, c1, c2, f0, f1, f2⟩ := hr.cells (Nat.lt_succ_self k)
      have hr' := hr.mark
      have hB' := ((hB.setCell (p := ⟨w.heap.size, k * 3, none⟩) (Nat.le_refl _) (.bool false)).setCell (p := ⟨w.heap.size, k * 3 + 1, none⟩) (Nat.le_refl _) (.string { data := #[] })).setCell (p := ⟨w.heap.size, k * 3 + 2, none⟩) (Nat.le_refl _) (.int .i64 77)
      have g1 : (k : Int) < (k : Int) + 1 := by omega
      have g2 : (k : Int) ≤ (k : Int) + 1 := by omega
      clear hr hB hk hkn
      go_wp2_with fail
      clear c0 c1 c2 f0 f1 f2
      (with_reducible refine (HU.out _ hr'.dysN).mono ?_)
      rintro r w2 ⟨rfl, hb2⟩
      have hr2 := (hr'.keep hb2).allocd (.cells #[.bool false, .string { data := #[] }, .int .i64 0] 24)
      have hB2 := hB'.trans (hb2.mono hB'.size)
      have hs2 := DyAt.put w2 (false) ({ data := #[] }) (0)
      have hw2 := hB2.size
      have hB3 := hB2.alloc hB2.size (.cells #[.bool false, .string { data := #[] }, .int .i64 0] 24)
      clear hb2 hr' hB' hB2
      go_wp2_with fail
      go_loopg [7] k (fun gh s7 wr => ∃ j : Nat, j ≤ k ∧ gh = k - j ∧ s7 = .int .i64 j ∧ Row3 wr w.heap.size (k + 1) (cpN N k) (cpS S k) (fun j => if j < k then E j else 77) ∧ DyAt wr w2.heap.size false ({ data := #[] }) 0 ∧ Below w.heap.size w wr)
      case atStart => exact ⟨0, Nat.zero_le _, rfl, rfl, hr2, hs2, hB3⟩
      case round =>
        obtain ⟨j, hj, hg, rfl, hr, hd, hB⟩ := hrel
        replace Hg := Lib.hid hg
        clear hr2 hs2 hB3 hg
        by_cases hjk : j < k
        · obtain ⟨b, o, hA, hlt, hc⟩ := Dys.below HH.out hB (by omega)
          subst hA
          obtain ⟨k1, k2, k3⟩ := hc j hjk
          obtain ⟨c0, c1, c2, -, -, -⟩ := hr.cells (show j < k + 1 by omega)
          rw [show cpN N k j = N j from if_pos hjk] at c0
          rw [show cpS S k j = S j from if_pos hjk] at c1
          rw [if_pos hjk] at c2
          have g0 : 0 ≤ (j : Int) := by omega
          have g3 : (j : Int) < (k : Int) := by omega
          have g4 : (j : Int) < (k : Int) + 1 := by omega
          clear hc hlt
          have Hhr := Lib.hid hr
          have Hhd := Lib.hid hd
          have HhB := Lib.hid hB
          clear hr hd hB
          go_wp2_with fail
          go_quiet (fail)
          go_wp2
          go_roundg (k - (j + 1))
          case measure => have := Hg.out; omega
          case rel => exact ⟨j + 1, by omega, rfl, by go_num, Hhr.out.drewN _, Hhd.out.drewN _, Below.drewN' HhB.out _⟩
        · obtain rfl : j = k := by omega
          obtain ⟨c0, c1, c2, -, -, -⟩ := hr.cells (Nat.lt_succ_self j)
          rw [show cpN N j j = false from if_neg (by omega)] at c0
          rw [show cpS S j j = { data := #[] } from if_neg (by omega)] at c1
          rw [if_neg (by omega)] at c2
          clear hr hj hjk
          go_wp2_with fail
          clear c0 c1 c2
          go_loopg [8] j (fun gh s8 wr => ∃ i : Nat, i ≤ j ∧ gh = j - i ∧ s8 = .int .i64 i ∧ (∀ m, m < i → mayB (N m) (S m) (E m) = true) ∧ DyAt wr w2.heap.size false ({ data := #[] }) 0 ∧ Below w.heap.size w wr)
          case atStart => exact ⟨0, Nat.zero_le _, rfl, rfl, fun m hm => absurd hm (by omega), hd, hB⟩
          case round =>
            rename_i wr0 _ _
            clear hd hB
            obtain ⟨i, hi, hg, rfl, hall, hd, hB⟩ := hrel
            replace Hg := Lib.hid hg
            have Hall := Lib.hid hall
            clear hg hall
            by_cases hij : i < j
            · obtain ⟨b, o, hA, hlt, hc⟩ := Dys.below HH.out hB (by omega)
              subst hA
              obtain ⟨k1, k2, k3⟩ := hc i hij
              have hm := HK.out i hij
              have g0 : 0 ≤ (i : Int) := by omega
              have g3 : (i : Int) < (j : Int) := by omega
              clear hc hlt
              cases hmv : mayB (N i) (S i) (E i)
              · rw [hmv] at hm
                have Hmv := Lib.hid hmv
                clear hmv
                go_wp2_with fail
                (with_reducible refine (hm _).mono ?_)
                rintro r w3 ⟨rfl, hb3⟩
                have hd3 := hd.keep hb3
                have hB4 := hB.trans (hb3.mono hB.size)
                obtain ⟨d0, d1, d2, -, -, -⟩ := hd3
                clear hb3 hm k1 k2 k3 hd hB
                go_wp2_with fail
                (with_reducible refine (nothing_yes _).mono ?_)
                rintro r w4 ⟨rfl, hb4⟩
                have hB5 := hB4.trans (hb4.mono hB4.size)
                clear hb4 hB4 d0 d1 d2
                go_wp2_with fail
                (with_reducible refine (awake_any _ (hT.below hB5)).mono ?_)
                rintro r w5 ⟨rfl, hb5⟩
                have hB6 := hB5.trans (hb5.mono hB5.size)
                clear hb5 hB5
                go_wp2
                go_ret
                exact ⟨rfl, hB6⟩
              · rw [hmv] at hm
                have Hmv := Lib.hid hmv
                clear hmv
                go_wp2_with fail
                (with_reducible refine (hm _).mono ?_)
                rintro r w3 ⟨rfl, hb3⟩
                have hd3 := hd.keep hb3
                have hB4 := hB.trans (hb3.mono hB.size)
                clear hb3 hm k1 k2 k3 hd hB
                go_wp2
                go_roundg (j - (i + 1))
                case measure => have := Hg.out; omega
                case rel => exact ⟨i + 1, by omega, rfl, by go_num, fun m hm => by
                  by_cases e : m = i
                  · subst e; exact Hmv.out
                  · exact Hall.out m (by omega), hd3, hB4⟩
            · obtain rfl : i = j := by omega
              exfalso
              have h1 := allB_yes Hall.out
              have h2 := HB.out
              rw [h1] at h2
              cases h2

set_option maxHeartbeats 8000000 in
theorem lists_good (A : Option Addr) (n c : Nat) (N : Nat → Bool) (S : Nat → ByteArray) (E : Nat → Int) (D : Nat → DY) (w : World) (hn : n ≤ 4398046511103) (h : Dys w A n N S E) (hN : ∀ i, i < n → N i = (D i).n) (hS : ∀ i, i < n → S i = bstr (D i).x) (hE : ∀ i, i < n → E i = (D i).e) (hok : ∀ i, i < n → (D i).ok) (hT : Tab w) :
    Calls Tryd.prog 4 #[.slice A n c] w fun r w' => r = .returned (.bool true) ∧ Below w.heap.size w w' := by
  obtain ⟨i0, hi, hp⟩ := Option.map_eq_some_iff.1 Tryd.infoDyad
  have hz0 : i0.zero = some (.agg #[.bool false, .string { data := #[] }, .int .i64 0]) := congrArg Prod.fst hp
  have hz1 : i0.size = 3 := congrArg (fun q => q.2.1) hp
  have hz2 : i0.bytes = 32 := congrArg (fun q => q.2.2) hp
  have hmk := fun W => run_make (P := Tryd.prog) W 33 24 i0 _ Tryd.underlying33 hi hz0 .i64 .i64 ((n : Int) + 1) ((n : Int) + 1) (by omega) (by omega) (by rw [hz2]; omega) (by omega)
  simp only [show ((n : Int) + 1).toNat = n + 1 by omega, hz1, show (Value.agg #[.bool false, .string { data := #[] }, .int .i64 0]).cells = #[.bool false, .string { data := #[] }, .int .i64 0] from rfl] at hmk
  have hrow := Row3.made w (n + 1)
  have hB0 := (Below.refl w.heap.size w).alloc (Nat.le_refl _) (.cells (madeCells #[.bool false, .string { data := #[] }, .int .i64 0] ((n + 1) * 3)) 24)
  have hn0 : 0 ≤ (n : Int) := by omega
  have hn1 : (n : Int) ≤ 4398046511103 := by omega
  have toD : ∀ {W : World} {B : Option Addr}, Dys W B n N S E → DysY W B n D := fun h hn => by
    obtain ⟨b, o, hA, hl, hc⟩ := h hn
    exact ⟨b, o, hA, hl, fun i hi => by dsimp only; rw [← hN i hi, ← hS i hi, ← hE i hi]; exact hc i hi⟩
  have hsum := fun W (h : Dys W _ n N S E) hT => dsum_ok (some ⟨w.heap.size, 0, none⟩) n (n + 1) D W (by omega) (toD h) hok hT
  have hrs := fun W (h : Dys W A n N S E) => rsum_ok A n c D W (by omega) (toD h) hok
  have hmay := fun i (hi : i < n) W => rmay_any (N i) (S i) (E i) W (by rw [hS i hi]; exact DY.len (hok i hi))
  have hmb : ∀ i, i < n → mayB (N i) (S i) (E i) = true := fun i hi => by rw [hN i hi, hS i hi, hE i hi]; exact mayB_ok (hok i hi)
  unfold dyR at hsum hrs
  generalize sumR D n 0 DY.zero = R at *
  obtain ⟨⟨sn, sx, se⟩, sr⟩ := R
  generalize bstr sx = ss at *
  have HM := Lib.hid hmb
  have HK := Lib.hid hmay
  have HU := Lib.hid hsum
  have HRS := Lib.hid hrs
  clear hp hi hz0 hz1 hz2 hmay hsum hmb hrs toD hN hS hE hok
  have HH := Lib.hid h
  clear h
  go_enter Tryd.func4, Tryd.ntmps4
  go_wp2_with fail
  clear hmk
  go_loopg [4] n (fun gh s4 wr => ∃ k : Nat, k ≤ n ∧ gh = n - k ∧ s4 = .int .i64 k ∧ Row3 wr w.heap.size (n + 1) (cpN N k) (cpS S k) (cpE E k) ∧ Below w.heap.size w wr)
  case atStart => exact ⟨0, Nat.zero_le _, rfl, rfl, hrow.congr (fun i _ => ⟨rfl, rfl, rfl⟩), hB0⟩
  case round =>
    obtain ⟨k, hk, hg, rfl, hr, hB⟩ := hrel
    have Hg := Lib.hid hg
    clear hrow hB0 hg
    by_cases hkn : k < n
    · obtain ⟨b, o, hA, hlt, hc⟩ := Dys.below HH.out hB (by omega)
      subst hA
      obtain ⟨k1, k2, k3⟩ := hc k hkn
      obtain ⟨c0, c1, c2, f0, f1, f2⟩ := hr.cells (show k < n + 1 by omega)
      have hr' := hr.copy (show k < n + 1 by omega)
      have hB' := ((hB.setCell (p := ⟨w.heap.size, k * 3, none⟩) (Nat.le_refl _) (.bool (N k))).setCell (p := ⟨w.heap.size, k * 3 + 1, none⟩) (Nat.le_refl _) (.string (S k))).setCell (p := ⟨w.heap.size, k * 3 + 2, none⟩) (Nat.le_refl _) (.int .i64 (E k))
      have g0 : 0 ≤ (k : Int) := by omega
      have g1 : (k : Int) < (n : Int) := by omega
      have g2 : (k : Int) < (n : Int) + 1 := by omega
      clear hc hr hB hlt hk
      go_wp2
      go_roundg (n - (k + 1))
      case measure => have := Hg.out; omega
      case rel => exact ⟨k + 1, by omega, rfl, by go_num, hr', hB'⟩
    · obtain rfl : k = n := by omega
      obtain ⟨c0, c1, c2, f0, f1, f2⟩ := hr.cells (Nat.lt_succ_self k)
      have hr' := hr.mark
      have hB' := ((hB.setCell (p := ⟨w.heap.size, k * 3, none⟩) (Nat.le_refl _) (.bool false)).setCell (p := ⟨w.heap.size, k * 3 + 1, none⟩) (Nat.le_refl _) (.string { data := #[] })).setCell (p := ⟨w.heap.size, k * 3 + 2, none⟩) (Nat.le_refl _) (.int .i64 77)
      have g1 : (k : Int) < (k : Int) + 1 := by omega
      have g2 : (k : Int) ≤ (k : Int) + 1 := by omega
      clear hr hB hk hkn
      go_wp2_with fail
      clear c0 c1 c2 f0 f1 f2
      (with_reducible refine (HU.out _ hr'.dysN (hT.below hB')).mono ?_)
      rintro r w2 ⟨rfl, hb2⟩
      have hr2 := (hr'.keep hb2).allocd (.cells #[.bool sn, .string ss, .int .i64 se] 24)
      have hB2 := hB'.trans (hb2.mono hB'.size)
      have hs2 := DyAt.put w2 (sn) (ss) (se)
      have hw2 := hB2.size
      have hB3 := hB2.alloc hB2.size (.cells #[.bool sn, .string ss, .int .i64 se] 24)
      clear hb2 hr' hB' hB2
      go_wp2_with fail
      go_loopg [7] k (fun gh s7 wr => ∃ j : Nat, j ≤ k ∧ gh = k - j ∧ s7 = .int .i64 j ∧ Row3 wr w.heap.size (k + 1) (cpN N k) (cpS S k) (fun j => if j < k then E j else 77) ∧ DyAt wr w2.heap.size sn (ss) se ∧ Below w.heap.size w wr)
      case atStart => exact ⟨0, Nat.zero_le _, rfl, rfl, hr2, hs2, hB3⟩
      case round =>
        obtain ⟨j, hj, hg, rfl, hr, hd, hB⟩ := hrel
        replace Hg := Lib.hid hg
        clear hr2 hs2 hB3 hg
        by_cases hjk : j < k
        · obtain ⟨b, o, hA, hlt, hc⟩ := Dys.below HH.out hB (by omega)
          subst hA
          obtain ⟨k1, k2, k3⟩ := hc j hjk
          obtain ⟨c0, c1, c2, -, -, -⟩ := hr.cells (show j < k + 1 by omega)
          rw [show cpN N k j = N j from if_pos hjk] at c0
          rw [show cpS S k j = S j from if_pos hjk] at c1
          rw [if_pos hjk] at c2
          have g0 : 0 ≤ (j : Int) := by omega
          have g3 : (j : Int) < (k : Int) := by omega
          have g4 : (j : Int) < (k : Int) + 1 := by omega
          clear hc hlt
          have Hhr := Lib.hid hr
          have Hhd := Lib.hid hd
          have HhB := Lib.hid hB
          clear hr hd hB
          go_wp2_with fail
          go_quiet (fail)
          go_wp2
          go_roundg (k - (j + 1))
          case measure => have := Hg.out; omega
          case rel => exact ⟨j + 1, by omega, rfl, by go_num, Hhr.out.drewN _, Hhd.out.drewN _, Below.drewN' HhB.out _⟩
        · obtain rfl : j = k := by omega
          obtain ⟨c0, c1, c2, -, -, -⟩ := hr.cells (Nat.lt_succ_self j)
          rw [show cpN N j j = false from if_neg (by omega)] at c0
          rw [show cpS S j j = { data := #[] } from if_neg (by omega)] at c1
          rw [if_neg (by omega)] at c2
          clear hr hj hjk
          go_wp2_with fail
          clear c0 c1 c2
          go_loopg [8] j (fun gh s8 wr => ∃ i : Nat, i ≤ j ∧ gh = j - i ∧ s8 = .int .i64 i ∧ (∀ m, m < i → mayB (N m) (S m) (E m) = true) ∧ DyAt wr w2.heap.size sn (ss) se ∧ Below w.heap.size w wr)
          case atStart => exact ⟨0, Nat.zero_le _, rfl, rfl, fun m hm => absurd hm (by omega), hd, hB⟩
          case round =>
            rename_i wr0 _ _
            clear hd hB
            obtain ⟨i, hi, hg, rfl, hall, hd, hB⟩ := hrel
            replace Hg := Lib.hid hg
            have Hall := Lib.hid hall
            clear hg hall
            by_cases hij : i < j
            · obtain ⟨b, o, hA, hlt, hc⟩ := Dys.below HH.out hB (by omega)
              subst hA
              obtain ⟨k1, k2, k3⟩ := hc i hij
              have hm := HK.out i hij
              have g0 : 0 ≤ (i : Int) := by omega
              have g3 : (i : Int) < (j : Int) := by omega
              clear hc hlt
              rw [HM.out i hij] at hm
              go_wp2_with fail
              (with_reducible refine (hm _).mono ?_)
              rintro r w3 ⟨rfl, hb3⟩
              have hd3 := hd.keep hb3
              have hB4 := hB.trans (hb3.mono hB.size)
              clear hb3 hm k1 k2 k3 hd hB
              go_wp2
              go_roundg (j - (i + 1))
              case measure => have := Hg.out; omega
              case rel => exact ⟨i + 1, by omega, rfl, by go_num, fun m hm => HM.out m (by omega), hd3, hB4⟩
            · obtain rfl : i = j := by omega
              have hDl := Dys.below HH.out hB
              clear hi hij
              go_wp2_with fail
              (with_reducible refine (HRS.out _ hDl).mono ?_)
              rintro r w3 ⟨rfl, hb3⟩
              have hd3 := (hd.keep hb3).allocd (.cells #[.bool sn, .string ss, .int .i64 se] 24)
              have hB4 := hB.trans (hb3.mono hB.size)
              have hB5 := hB4.alloc hB4.size (.cells #[.bool sn, .string ss, .int .i64 se] 24)
              have ht3 := DyAt.put w3 sn ss se
              obtain ⟨d0, d1, d2, -, -, -⟩ := hd3
              obtain ⟨t0, t1, t2, -, -, -⟩ := ht3
              clear hb3 hd hB hDl hB4
              go_wp2_with fail
              (with_reducible refine (awake_any _ (hT.below hB5)).mono ?_)
              rintro r w5 ⟨rfl, hb5⟩
              have hB6 := hB5.trans (hb5.mono hB5.size)
              clear hb5 hB5 d0 d1 d2 t0 t1 t2
              go_wp2
              go_ret
              exact ⟨rfl, hB6⟩

theorem lists_any (A : Option Addr) (n c : Nat) (N : Nat → Bool) (S : Nat → ByteArray) (E : Nat → Int) (w : World) (hn : n ≤ 4398046511103) (h : Dys w A n N S E) (hs : ∀ i, i < n → (S i).size ≤ 9223372036854775807) (hT : Tab w) :
    Calls Tryd.prog 4 #[.slice A n c] w fun r w' => r = .returned (.bool true) ∧ Below w.heap.size w w' := by
  cases hb : allB n fun i => mayB (N i) (S i) (E i)
  · exact lists_bad A n c N S E w hn h hs hb hT
  · have hx : ∀ i, ∃ d : DY, i < n → N i = d.n ∧ S i = bstr d.x ∧ E i = d.e ∧ d.ok := fun i => by
      by_cases hi : i < n
      · obtain ⟨x, hx, hk⟩ := ok_of_may (allB_get hb hi)
        exact ⟨⟨N i, x, E i⟩, fun _ => ⟨rfl, hx, rfl, hk⟩⟩
      · exact ⟨DY.zero, fun h => absurd h hi⟩
    obtain ⟨D, hD⟩ := Classical.axiomOfChoice hx
    exact lists_good A n c N S E D w hn h (fun i hi => (hD i hi).1) (fun i hi => (hD i hi).2.1) (fun i hi => (hD i hi).2.2.1) (fun i hi => (hD i hi).2.2.2) hT
theorem dyadLists_any (A : Option Addr) (n c : Nat) (N : Nat → Bool) (S : Nat → ByteArray) (E : Nat → Int) (w : World) (hT : Tab w) (hn : n ≤ 4398046511103) (h : Dys w A n N S E) (hs : ∀ i, i < n → (S i).size ≤ 9223372036854775807) :
    Calls Tryd.prog 4 #[.slice A n c] w fun r w' => r = .returned (.bool true) ∧ Below w.heap.size w w' := lists_any A n c N S E w hn h hs hT
end Go.Proofs.YtgcifpjhhoalmaaDoor
