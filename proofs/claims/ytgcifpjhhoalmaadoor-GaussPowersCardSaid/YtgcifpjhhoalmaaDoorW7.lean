/- Walks of the layer of Gausses, by a program (walk.py): part W7. -/
import Derived.Test.YtgcifpjhhoalmaaDoorW3
import Derived.Test.YtgcifpjhhoalmaaDoorW5
import Derived.Test.YtgcifpjhhoalmaaDoorW6
import Derived.Test.YtgcifpjhhoalmaaDoorW2
namespace Go.Proofs.YtgcifpjhhoalmaaDoor
open Go Go.RowKit Go.PlainAid Fil

/-- the code from a region on -/
def headOf : Code → Nat
  | .region n _ _ => n
  | .seq a _ => headOf a
  | _ => 0
def tailAt (k : Nat) : Code → Code
  | .seq a b => if headOf a = k then .seq a b else tailAt k b
  | c => c

theorem gy_of {a : GR} (hm : a.may = true) : ∃ d : GY, d.ok ∧ a = d.raw := by
  obtain ⟨n, s, e, m, t, f⟩ := a
  have hm' : (mayB n s e && mayB m t f) = true := hm
  rw [Bool.and_eq_true] at hm'
  obtain ⟨x, rfl, hx⟩ := ok_of_may hm'.1
  obtain ⟨y, rfl, hy⟩ := ok_of_may hm'.2
  exact ⟨⟨⟨n, x, e⟩, ⟨m, y, f⟩⟩, ⟨hx, hy⟩, rfl⟩
theorem Blk.drewN {w : World} {b : Nat} {cs : Array Value} {t : TypeId} (h : Blk w b cs t) (k : Nat) : Blk (w.drewN k) b cs t := h
theorem El.mk' {w : World} {b k : Nat} {v0 v1 v2 v3 v4 v5 : Value} (h : b < w.heap.size) (h0 : w.cell? ⟨b, k, none⟩ = some v0) (h1 : w.cell? ⟨b, k + 1, none⟩ = some v1) (h2 : w.cell? ⟨b, k + 2, none⟩ = some v2) (h3 : w.cell? ⟨b, k + 3, none⟩ = some v3) (h4 : w.cell? ⟨b, k + 4, none⟩ = some v4) (h5 : w.cell? ⟨b, k + 5, none⟩ = some v5) : El w b k v0 v1 v2 v3 v4 v5 := ⟨h, h0, h1, h2, h3, h4, h5⟩
theorem Row6.gssN {w : World} {g n : Nat} {G : Nat → GR} (h : Row6 w g (n + 1) (cpM G n)) : Gss w (some ⟨g, 0, none⟩) n G := fun hn => by
  obtain ⟨b, o, hA, hl, hc⟩ := h.gss (Nat.le_succ n) hn
  refine ⟨b, o, hA, hl, fun i hi => ?_⟩
  have := hc i hi
  rw [show cpM G n i = G i from if_pos hi] at this
  exact this

set_option maxRecDepth 1000000 in
set_option maxHeartbeats 16000000 in
theorem powers_bad (A : Option Addr) (n c : Nat) (G : Nat → GR) (w : World) (hn : n ≤ 2199023255551) (h : Gss w A n G) (hf : ∀ i, i < n → (G i).fit) (hb : (allB n fun i => (G i).may) = false) (hT : Tab w) (v1 : World) (B0 : Below w.heap.size w v1) (u0 u1 u3 u4 u5 u6 u7 u8 u9 u10 u11 u12 u13 u14 u15 u16 u17 u18 u19 u20 u21 u22 u23 u24 u25 u26 u27 u28 u29 u30 u31 u32 u33 u34 u35 u36 u37 u38 u39 u40 u41 u42 u43 u44 u45 u46 u47 u48 u49 u50 u51 u52 u53 u54 u55 u56 u57 u58 u59 u60 u61 u62 u63 u64 u65 u66 u67 u68 u69 u70 u71 u72 u73 u74 u75 u76 u77 u78 u79 u80 u81 u82 u83 u84 u85 u86 u87 u88 u89 u90 u91 u92 u93 u94 u95 u96 u97 u98 u99 u100 u101 u102 u103 u104 u105 u106 u107 u108 u109 u110 u111 u112 u113 u114 u115 u116 u117 u118 u119 u120 u121 u122 u123 u124 u125 u126 u127 : Value) :
    Code.wp Tryd.prog (tailAt 8 (Tryd.f14.body.getD .skip)) (bodyPost Tryd.prog Tryd.f14 fun r w' => r = .returned (.bool true) ∧ Below w.heap.size w w') ⟨#[u0, u1, .slice A n c, u3, u4, u5, u6, u7, u8, u9, u10, u11, u12, u13, u14, u15, u16, u17, u18, u19, u20, u21, u22, u23, u24, u25, u26, u27, u28, u29, u30, u31, u32, u33, u34, u35, u36, u37, u38, u39, u40, u41, u42, u43, u44, u45, u46, u47, u48, u49, u50, u51, u52, u53, u54, u55, u56, u57, u58, u59, u60, u61, u62, u63, u64, u65, u66, u67, u68, u69, u70, u71, u72, u73, u74, u75, u76, u77, u78, u79, u80, u81, u82, u83, u84, u85, u86, u87, u88, u89, u90, u91, u92, u93, u94, u95, u96, u97, u98, u99, u100, u101, u102, u103, u104, u105, u106, u107, u108, u109, u110, u111, u112, u113, u114, u115, u116, u117, u118, u119, u120, u121, u122, u123, u124, u125, u126, u127], []⟩ v1 := by
  have hsz := B0.size
  obtain ⟨i0, hi, hp⟩ := Option.map_eq_some_iff.1 Tryd.infoGauss
  have hz0 : i0.zero = some (.agg #[.bool false, .string { data := #[] }, .int .i64 0, .bool false, .string { data := #[] }, .int .i64 0]) := congrArg Prod.fst hp
  have hz1 : i0.size = 6 := congrArg (fun q => q.2.1) hp
  have hz2 : i0.bytes = 64 := congrArg (fun q => q.2.2) hp
  have hmk := fun W => run_make (P := Tryd.prog) W 90 49 i0 _ Tryd.underlying90 hi hz0 .i64 .i64 ((n : Int) + 1) ((n : Int) + 1) (by omega) (by omega) (by rw [hz2]; omega) (by omega)
  simp only [show ((n : Int) + 1).toNat = n + 1 by omega, hz1, show (Value.agg #[.bool false, .string { data := #[] }, .int .i64 0, .bool false, .string { data := #[] }, .int .i64 0]).cells = #[.bool false, .string { data := #[] }, .int .i64 0, .bool false, .string { data := #[] }, .int .i64 0] from rfl] at hmk
  have hrow := Row6.made v1 (n + 1)
  have hB0 := B0.alloc hsz (.cells (madeCells #[.bool false, .string { data := #[] }, .int .i64 0, .bool false, .string { data := #[] }, .int .i64 0] ((n + 1) * 6)) 49)
  have hn0 : 0 ≤ (n : Int) := by omega
  have hn1 : (n : Int) ≤ 2199023255551 := by omega
  have hsum := fun W (h : Gss W _ n G) => gsum_bad (some ⟨v1.heap.size, 0, none⟩) n (n + 1) G W (by omega) h hf hb
  have hmay := fun i (hi : i < n) W => qmay_g (G i) W (hf i hi)
  have HB := Lib.hid hb
  have HK := Lib.hid hmay
  have HU := Lib.hid hsum
  clear hp hi hz0 hz1 hz2 hmay hsum hb hf
  have HH := Lib.hid (Gss.below h B0)
  have B1 := B0
  clear h B0
  conv => arg 2; whnf
  go_wp2_with fail
  clear hmk
  go_loopg [12] n (fun gh s12 wr => ∃ k : Nat, k ≤ n ∧ gh = n - k ∧ s12 = .int .i64 k ∧ Row6 wr v1.heap.size (n + 1) (cpG G k) ∧ Below v1.heap.size v1 wr ∧ Below w.heap.size w wr)
  case atStart => exact ⟨0, Nat.zero_le _, rfl, rfl, hrow.congr (fun i _ => rfl), (Below.refl _ _).alloc (Nat.le_refl _) _, hB0⟩
  case round =>
    obtain ⟨k, hk, hg, rfl, hr, hV, hB⟩ := hrel
    have Hg := Lib.hid hg
    clear hrow hB0 hg
    by_cases hkn : k < n
    · obtain ⟨b, o, hA, hlt, hc⟩ := Gss.below HH.out hV (by omega)
      subst hA
      obtain ⟨k0, k1, k2, k3, k4, k5⟩ := hc k hkn
      obtain ⟨⟨c0, c1, c2, c3, c4, c5⟩, fz⟩ := hr.cells (show k < n + 1 by omega)
      have f0 := fz (k * 6)
      have f1 := fz (k * 6 + 1)
      have f2 := fz (k * 6 + 2)
      have f3 := fz (k * 6 + 3)
      have f4 := fz (k * 6 + 4)
      have f5 := fz (k * 6 + 5)
      have hr' := hr.copy (show k < n + 1 by omega)
      have hB' := ((((((hB.setCell (p := ⟨v1.heap.size, k * 6, none⟩) hsz (.bool (G k).n)).setCell (p := ⟨v1.heap.size, k * 6 + 1, none⟩) hsz (.string (G k).s)).setCell (p := ⟨v1.heap.size, k * 6 + 2, none⟩) hsz (.int .i64 (G k).e)).setCell (p := ⟨v1.heap.size, k * 6 + 3, none⟩) hsz (.bool (G k).m)).setCell (p := ⟨v1.heap.size, k * 6 + 4, none⟩) hsz (.string (G k).t)).setCell (p := ⟨v1.heap.size, k * 6 + 5, none⟩) hsz (.int .i64 (G k).f))
      have hV' := ((((((hV.setCell (p := ⟨v1.heap.size, k * 6, none⟩) (Nat.le_refl _) (.bool (G k).n)).setCell (p := ⟨v1.heap.size, k * 6 + 1, none⟩) (Nat.le_refl _) (.string (G k).s)).setCell (p := ⟨v1.heap.size, k * 6 + 2, none⟩) (Nat.le_refl _) (.int .i64 (G k).e)).setCell (p := ⟨v1.heap.size, k * 6 + 3, none⟩) (Nat.le_refl _) (.bool (G k).m)).setCell (p := ⟨v1.heap.size, k * 6 + 4, none⟩) (Nat.le_refl _) (.string (G k).t)).setCell (p := ⟨v1.heap.size, k * 6 + 5, none⟩) (Nat.le_refl _) (.int .i64 (G k).f))
      have g0 : 0 ≤ (k : Int) := by omega
      have g1 : (k : Int) < (n : Int) := by omega
      have g2 : (k : Int) < (n : Int) + 1 := by omega
      clear hc hr hB hV hlt hk fz
      go_wp2
      go_roundg (n - (k + 1))
      case measure => have := Hg.out; omega
      case rel => exact ⟨k + 1, by omega, rfl, by go_num, hr', hV', hB'⟩
    · obtain rfl : k = n := by omega
      clear hk hkn
      have mB := hB.alloc hB.size (.cells #[.bool false, .string { data := #[] }, .int .i64 77, .bool false, .string { data := #[] }, .int .i64 0] 49)
      have mV := hV.alloc hV.size (.cells #[.bool false, .string { data := #[] }, .int .i64 77, .bool false, .string { data := #[] }, .int .i64 0] 49)
      have mr := hr.allocd (.cells #[.bool false, .string { data := #[] }, .int .i64 77, .bool false, .string { data := #[] }, .int .i64 0] 49)
      have mk := Blk.put wr #[.bool false, .string { data := #[] }, .int .i64 77, .bool false, .string { data := #[] }, .int .i64 0] 49
      have hne : v1.heap.size < wr.heap.size := hr.lt
      clear hr hB hV
      go_upto_region 14 with fail
      generalize (wr.alloc (.cells #[.bool false, .string { data := #[] }, .int .i64 77, .bool false, .string { data := #[] }, .int .i64 0] 49)) = w8 at *
      generalize wr.heap.size = p13 at *
      have hne2 : p13 ≠ v1.heap.size := by omega
      obtain ⟨⟨c0, c1, c2, c3, c4, c5⟩, fz⟩ := mr.cells (Nat.lt_succ_self k)
      have f0 := fz (k * 6)
      have f1 := fz (k * 6 + 1)
      have f2 := fz (k * 6 + 2)
      have f3 := fz (k * 6 + 3)
      have f4 := fz (k * 6 + 4)
      have f5 := fz (k * 6 + 5)
      obtain ⟨m0, m1, m2, m3, m4, m5⟩ := mk.ce6
      have hr' := mr.mark
      have hB' := ((((((mB.setCell (p := ⟨v1.heap.size, k * 6, none⟩) hsz (.bool false)).setCell (p := ⟨v1.heap.size, k * 6 + 1, none⟩) hsz (.string { data := #[] })).setCell (p := ⟨v1.heap.size, k * 6 + 2, none⟩) hsz (.int .i64 77)).setCell (p := ⟨v1.heap.size, k * 6 + 3, none⟩) hsz (.bool false)).setCell (p := ⟨v1.heap.size, k * 6 + 4, none⟩) hsz (.string { data := #[] })).setCell (p := ⟨v1.heap.size, k * 6 + 5, none⟩) hsz (.int .i64 0))
      have hV' := ((((((mV.setCell (p := ⟨v1.heap.size, k * 6, none⟩) (Nat.le_refl _) (.bool false)).setCell (p := ⟨v1.heap.size, k * 6 + 1, none⟩) (Nat.le_refl _) (.string { data := #[] })).setCell (p := ⟨v1.heap.size, k * 6 + 2, none⟩) (Nat.le_refl _) (.int .i64 77)).setCell (p := ⟨v1.heap.size, k * 6 + 3, none⟩) (Nat.le_refl _) (.bool false)).setCell (p := ⟨v1.heap.size, k * 6 + 4, none⟩) (Nat.le_refl _) (.string { data := #[] })).setCell (p := ⟨v1.heap.size, k * 6 + 5, none⟩) (Nat.le_refl _) (.int .i64 0))
      have mk' := (Blk.far (Blk.far (Blk.far (Blk.far (Blk.far (Blk.far mk (k * 6) (.bool false) hne2) (k * 6 + 1) (.string { data := #[] }) hne2) (k * 6 + 2) (.int .i64 77) hne2) (k * 6 + 3) (.bool false) hne2) (k * 6 + 4) (.string { data := #[] }) hne2) (k * 6 + 5) (.int .i64 0) hne2)
      have g1 : (k : Int) < (k : Int) + 1 := by omega
      have g2 : (k : Int) ≤ (k : Int) + 1 := by omega
      clear mr mB mV mk fz
      go_upto_region 15 with fail
      clear c0 c1 c2 c3 c4 c5 f0 f1 f2 f3 f4 f5 m0 m1 m2 m3 m4 m5
      generalize ((((((w8.setCell ⟨v1.heap.size, k * 6, none⟩ (.bool false)).setCell ⟨v1.heap.size, k * 6 + 1, none⟩ (.string { data := #[] })).setCell ⟨v1.heap.size, k * 6 + 2, none⟩ (.int .i64 77)).setCell ⟨v1.heap.size, k * 6 + 3, none⟩ (.bool false)).setCell ⟨v1.heap.size, k * 6 + 4, none⟩ (.string { data := #[] })).setCell ⟨v1.heap.size, k * 6 + 5, none⟩ (.int .i64 0)) = w9 at *
      go_wp2_with fail
      (with_reducible refine (HU.out _ hr'.gssN).mono ?_)
      rintro r w2 ⟨rfl, hb2⟩
      have hr2 := (hr'.keep hb2).allocd (.cells #[.bool false, .string { data := #[] }, .int .i64 0, .bool false, .string { data := #[] }, .int .i64 0] 49)
      have mk2 := (mk'.keep hb2).allocd (.cells #[.bool false, .string { data := #[] }, .int .i64 0, .bool false, .string { data := #[] }, .int .i64 0] 49)
      have hB1 := hB'.trans (hb2.mono hB'.size)
      have hV1 := hV'.trans (hb2.mono hV'.size)
      have hF2 := Blk.put w2 #[.bool false, .string { data := #[] }, .int .i64 0, .bool false, .string { data := #[] }, .int .i64 0] 49
      have hB2 := hB1.alloc hB1.size (.cells #[.bool false, .string { data := #[] }, .int .i64 0, .bool false, .string { data := #[] }, .int .i64 0] 49)
      have hV2 := hV1.alloc hV1.size (.cells #[.bool false, .string { data := #[] }, .int .i64 0, .bool false, .string { data := #[] }, .int .i64 0] 49)
      clear hb2 hr' hB' hV' mk' hB1 hV1
      go_upto_region 16 with fail
      generalize (w2.alloc (.cells #[.bool false, .string { data := #[] }, .int .i64 0, .bool false, .string { data := #[] }, .int .i64 0] 49)) = w3 at *
      generalize w2.heap.size = p14 at *
      obtain ⟨⟨c0, c1, c2, c3, c4, c5⟩, -⟩ := hr2.cells (Nat.lt_succ_self k)
      rw [show cpM G k k = GR.mark from if_neg (by omega)] at c0 c1 c2 c3 c4 c5
      dsimp only [GR.mark] at c0 c1 c2 c3 c4 c5
      obtain ⟨m0, m1, m2, m3, m4, m5⟩ := mk2.ce6
      have Hr := Lib.hid hr2
      have HBB := Lib.hid hB2
      have HVV := Lib.hid hV2
      have HF := Lib.hid hF2
      clear hr2 hB2 hV2 hF2 mk2
      go_wp2_with fail
      go_quiet (fail)
      go_wp2_with fail
      clear c0 c1 c2 c3 c4 c5 m0 m1 m2 m3 m4 m5
      go_loopg [16, 17] k (fun gh s16 s17 wr => ∃ (j : Nat) (m : Bool), j ≤ k ∧ gh = k - j ∧ s17 = .int .i64 j ∧ s16 = .bool m ∧ (m = true ↔ ∀ i, i < j → (G i).may = true) ∧ Row6 wr v1.heap.size (k + 1) (cpM G k) ∧ Blk wr p14 #[.bool false, .string { data := #[] }, .int .i64 0, .bool false, .string { data := #[] }, .int .i64 0] 49 ∧ Below v1.heap.size v1 wr ∧ Below w.heap.size w wr)
      case atStart => exact ⟨0, true, Nat.zero_le _, rfl, rfl, rfl, ⟨fun _ i hi => absurd hi (by omega), fun _ => rfl⟩, Hr.out.drewN _, Blk.drewN HF.out _, Below.drewN' HVV.out _, Below.drewN' HBB.out _⟩
      case round =>
        obtain ⟨j, m, hj, hg, rfl, rfl, hm, hr, hF, hV, hB⟩ := hrel
        clear Hr HBB HVV HF
        replace Hg := Lib.hid hg
        have Hm := Lib.hid hm
        clear hg hm
        by_cases hjk : j < k
        · obtain ⟨b, o, hA, hlt, hc⟩ := Gss.below HH.out hV (by omega)
          subst hA
          obtain ⟨k0, k1, k2, k3, k4, k5⟩ := hc j hjk
          have g0 : 0 ≤ (j : Int) := by omega
          have g3 : (j : Int) < (k : Int) := by omega
          have g4 : (j : Int) < (k : Int) + 1 := by omega
          clear hc
          cases m
          · obtain ⟨⟨c0, c1, c2, c3, c4, c5⟩, -⟩ := hr.cells (show j < k + 1 by omega)
            rw [show cpM G k j = G j from if_pos hjk] at c0 c1 c2 c3 c4 c5
            have Hhr := Lib.hid hr
            have HhF := Lib.hid hF
            have HhV := Lib.hid hV
            have HhB := Lib.hid hB
            clear hr hF hV hB hlt
            go_wp2_with fail
            go_quiet (fail)
            go_wp2
            go_roundg (k - (j + 1))
            case measure => have := Hg.out; omega
            case rel => exact ⟨j + 1, false, by omega, rfl, by go_num, rfl, ⟨fun h => (by simp at h), fun h => (by have h9 := Hm.out.2 (fun i hi => h i (by omega)); simp at h9)⟩, Hhr.out.drewN _, Blk.drewN HhF.out _, Below.drewN' HhV.out _, Below.drewN' HhB.out _⟩
          · have hq := HK.out j hjk
            obtain ⟨v, hv⟩ : ∃ v, (G j).may = v := ⟨_, rfl⟩
            rw [hv] at hq
            have Hv := Lib.hid hv
            have E1 := El.mk' hlt k0 k1 k2 k3 k4 k5
            clear hv hlt
            go_wp2_with fail
            (with_reducible refine (hq _).mono ?_)
            rintro r w4 ⟨rfl, hb4⟩
            clear k0 k1 k2 k3 k4 k5 hq
            have hr3 := hr.keep hb4
            have hF3 := hF.keep hb4
            have hV3 := hV.trans (hb4.mono hV.size)
            have hB3 := hB.trans (hb4.mono hB.size)
            obtain ⟨k0, k1, k2, k3, k4, k5⟩ := (E1.keep hb4).ce6
            clear hr hF hV hB hb4 E1
            obtain ⟨⟨c0, c1, c2, c3, c4, c5⟩, -⟩ := hr3.cells (show j < k + 1 by omega)
            rw [show cpM G k j = G j from if_pos hjk] at c0 c1 c2 c3 c4 c5
            have Hhr := Lib.hid hr3
            have HhF := Lib.hid hF3
            have HhV := Lib.hid hV3
            have HhB := Lib.hid hB3
            clear hr3 hF3 hV3 hB3
            go_wp2_with fail
            go_quiet (fail)
            go_wp2
            go_roundg (k - (j + 1))
            case measure => have := Hg.out; omega
            case rel => exact ⟨j + 1, v, by omega, rfl, by go_num, rfl, ⟨fun h i hi => by
              by_cases e : i = j
              · subst e; rw [Hv.out]; exact h
              · exact Hm.out.1 (by first | rfl | trivial) i (by omega), fun h => by rw [← Hv.out]; exact h j (by omega)⟩, Hhr.out.drewN _, Blk.drewN HhF.out _, Below.drewN' HhV.out _, Below.drewN' HhB.out _⟩
        · obtain rfl : j = k := by omega
          clear hr hj hjk
          cases m
          · clear Hm
            obtain ⟨c0, c1, c2, c3, c4, c5⟩ := hF.ce6
            go_wp2_with fail
            (with_reducible refine (l6none_yes _).mono ?_)
            rintro r w4 ⟨rfl, hb4⟩
            have hB4 := hB.trans (hb4.mono hB.size)
            clear c0 c1 c2 c3 c4 c5 hF hV hB hb4
            go_wp2_with fail
            (with_reducible refine (l6awake_any _ (hT.below hB4)).mono ?_)
            rintro r w5 ⟨rfl, hb5⟩
            have hB5 := hB4.trans (hb5.mono hB4.size)
            clear hb5 hB4
            go_wp2
            go_ret
            exact ⟨rfl, hB5⟩
          · exfalso
            have h1 := allB_yes (f := fun i => (G i).may) (Hm.out.1 (by first | rfl | trivial))
            have h2 := HB.out
            rw [h1] at h2
            cases h2

set_option maxRecDepth 1000000 in
set_option maxHeartbeats 16000000 in
theorem powers_good (A : Option Addr) (n c : Nat) (G : Nat → GR) (D : Nat → GY) (w : World) (hn : n ≤ 2199023255551) (h : Gss w A n G) (hG : ∀ i, i < n → G i = (D i).raw) (hok : ∀ i, i < n → (D i).ok) (hT : Tab w) (v1 : World) (B0 : Below w.heap.size w v1) (u0 u1 u3 u4 u5 u6 u7 u8 u9 u10 u11 u12 u13 u14 u15 u16 u17 u18 u19 u20 u21 u22 u23 u24 u25 u26 u27 u28 u29 u30 u31 u32 u33 u34 u35 u36 u37 u38 u39 u40 u41 u42 u43 u44 u45 u46 u47 u48 u49 u50 u51 u52 u53 u54 u55 u56 u57 u58 u59 u60 u61 u62 u63 u64 u65 u66 u67 u68 u69 u70 u71 u72 u73 u74 u75 u76 u77 u78 u79 u80 u81 u82 u83 u84 u85 u86 u87 u88 u89 u90 u91 u92 u93 u94 u95 u96 u97 u98 u99 u100 u101 u102 u103 u104 u105 u106 u107 u108 u109 u110 u111 u112 u113 u114 u115 u116 u117 u118 u119 u120 u121 u122 u123 u124 u125 u126 u127 : Value) :
    Code.wp Tryd.prog (tailAt 8 (Tryd.f14.body.getD .skip)) (bodyPost Tryd.prog Tryd.f14 fun r w' => r = .returned (.bool true) ∧ Below w.heap.size w w') ⟨#[u0, u1, .slice A n c, u3, u4, u5, u6, u7, u8, u9, u10, u11, u12, u13, u14, u15, u16, u17, u18, u19, u20, u21, u22, u23, u24, u25, u26, u27, u28, u29, u30, u31, u32, u33, u34, u35, u36, u37, u38, u39, u40, u41, u42, u43, u44, u45, u46, u47, u48, u49, u50, u51, u52, u53, u54, u55, u56, u57, u58, u59, u60, u61, u62, u63, u64, u65, u66, u67, u68, u69, u70, u71, u72, u73, u74, u75, u76, u77, u78, u79, u80, u81, u82, u83, u84, u85, u86, u87, u88, u89, u90, u91, u92, u93, u94, u95, u96, u97, u98, u99, u100, u101, u102, u103, u104, u105, u106, u107, u108, u109, u110, u111, u112, u113, u114, u115, u116, u117, u118, u119, u120, u121, u122, u123, u124, u125, u126, u127], []⟩ v1 := by
  have hsz := B0.size
  obtain ⟨i0, hi, hp⟩ := Option.map_eq_some_iff.1 Tryd.infoGauss
  have hz0 : i0.zero = some (.agg #[.bool false, .string { data := #[] }, .int .i64 0, .bool false, .string { data := #[] }, .int .i64 0]) := congrArg Prod.fst hp
  have hz1 : i0.size = 6 := congrArg (fun q => q.2.1) hp
  have hz2 : i0.bytes = 64 := congrArg (fun q => q.2.2) hp
  have hmk := fun W => run_make (P := Tryd.prog) W 90 49 i0 _ Tryd.underlying90 hi hz0 .i64 .i64 ((n : Int) + 1) ((n : Int) + 1) (by omega) (by omega) (by rw [hz2]; omega) (by omega)
  simp only [show ((n : Int) + 1).toNat = n + 1 by omega, hz1, show (Value.agg #[.bool false, .string { data := #[] }, .int .i64 0, .bool false, .string { data := #[] }, .int .i64 0]).cells = #[.bool false, .string { data := #[] }, .int .i64 0, .bool false, .string { data := #[] }, .int .i64 0] from rfl] at hmk
  have hrow := Row6.made v1 (n + 1)
  have hB0 := B0.alloc hsz (.cells (madeCells #[.bool false, .string { data := #[] }, .int .i64 0, .bool false, .string { data := #[] }, .int .i64 0] ((n + 1) * 6)) 49)
  have hn0 : 0 ≤ (n : Int) := by omega
  have hn1 : (n : Int) ≤ 2199023255551 := by omega
  have toD : ∀ {W : World} {B : Option Addr}, Gss W B n G → Gss W B n (fun i => (D i).raw) := fun h hn => by
    obtain ⟨b, o, hA, hl, hc⟩ := h hn
    exact ⟨b, o, hA, hl, fun i hi => by
      have := hc i hi
      rw [hG i hi] at this
      exact this⟩
  have hsum := fun W (h : Gss W _ n G) hT => gsum_ok (some ⟨v1.heap.size, 0, none⟩) n (n + 1) D W (by omega) (toD h) hok hT
  have hrs := fun W (h : Gss W A n G) => qsum_ok A n c D W (by omega) (toD h) hok
  have hfit : ∀ i, i < n → (G i).fit := fun i hi => by rw [hG i hi]; exact GY.raw_fit (hok i hi)
  have hmay := fun i (hi : i < n) W => qmay_g (G i) W (hfit i hi)
  have hmb : ∀ i, i < n → (G i).may = true := fun i hi => by rw [hG i hi]; exact GY.raw_may (hok i hi)
  generalize gSm D n = R at *
  obtain ⟨⟨⟨sn, sx, se⟩, ⟨sm, sy, sf⟩⟩, sr⟩ := R
  dsimp only at *
  generalize bstr sx = ss at *
  generalize bstr sy = st at *
  have HM := Lib.hid hmb
  have HRS := Lib.hid hrs
  have HK := Lib.hid hmay
  have HU := Lib.hid hsum
  clear hp hi hz0 hz1 hz2 hmay hsum hmb hrs toD hG hok hfit
  have HH := Lib.hid (Gss.below h B0)
  have B1 := B0
  clear h B0
  conv => arg 2; whnf
  go_wp2_with fail
  clear hmk
  go_loopg [12] n (fun gh s12 wr => ∃ k : Nat, k ≤ n ∧ gh = n - k ∧ s12 = .int .i64 k ∧ Row6 wr v1.heap.size (n + 1) (cpG G k) ∧ Below v1.heap.size v1 wr ∧ Below w.heap.size w wr)
  case atStart => exact ⟨0, Nat.zero_le _, rfl, rfl, hrow.congr (fun i _ => rfl), (Below.refl _ _).alloc (Nat.le_refl _) _, hB0⟩
  case round =>
    obtain ⟨k, hk, hg, rfl, hr, hV, hB⟩ := hrel
    have Hg := Lib.hid hg
    clear hrow hB0 hg
    by_cases hkn : k < n
    · obtain ⟨b, o, hA, hlt, hc⟩ := Gss.below HH.out hV (by omega)
      subst hA
      obtain ⟨k0, k1, k2, k3, k4, k5⟩ := hc k hkn
      obtain ⟨⟨c0, c1, c2, c3, c4, c5⟩, fz⟩ := hr.cells (show k < n + 1 by omega)
      have f0 := fz (k * 6)
      have f1 := fz (k * 6 + 1)
      have f2 := fz (k * 6 + 2)
      have f3 := fz (k * 6 + 3)
      have f4 := fz (k * 6 + 4)
      have f5 := fz (k * 6 + 5)
      have hr' := hr.copy (show k < n + 1 by omega)
      have hB' := ((((((hB.setCell (p := ⟨v1.heap.size, k * 6, none⟩) hsz (.bool (G k).n)).setCell (p := ⟨v1.heap.size, k * 6 + 1, none⟩) hsz (.string (G k).s)).setCell (p := ⟨v1.heap.size, k * 6 + 2, none⟩) hsz (.int .i64 (G k).e)).setCell (p := ⟨v1.heap.size, k * 6 + 3, none⟩) hsz (.bool (G k).m)).setCell (p := ⟨v1.heap.size, k * 6 + 4, none⟩) hsz (.string (G k).t)).setCell (p := ⟨v1.heap.size, k * 6 + 5, none⟩) hsz (.int .i64 (G k).f))
      have hV' := ((((((hV.setCell (p := ⟨v1.heap.size, k * 6, none⟩) (Nat.le_refl _) (.bool (G k).n)).setCell (p := ⟨v1.heap.size, k * 6 + 1, none⟩) (Nat.le_refl _) (.string (G k).s)).setCell (p := ⟨v1.heap.size, k * 6 + 2, none⟩) (Nat.le_refl _) (.int .i64 (G k).e)).setCell (p := ⟨v1.heap.size, k * 6 + 3, none⟩) (Nat.le_refl _) (.bool (G k).m)).setCell (p := ⟨v1.heap.size, k * 6 + 4, none⟩) (Nat.le_refl _) (.string (G k).t)).setCell (p := ⟨v1.heap.size, k * 6 + 5, none⟩) (Nat.le_refl _) (.int .i64 (G k).f))
      have g0 : 0 ≤ (k : Int) := by omega
      have g1 : (k : Int) < (n : Int) := by omega
      have g2 : (k : Int) < (n : Int) + 1 := by omega
      clear hc hr hB hV hlt hk fz
      go_wp2
      go_roundg (n - (k + 1))
      case measure => have := Hg.out; omega
      case rel => exact ⟨k + 1, by omega, rfl, by go_num, hr', hV', hB'⟩
    · obtain rfl : k = n := by omega
      clear hk hkn
      have mB := hB.alloc hB.size (.cells #[.bool false, .string { data := #[] }, .int .i64 77, .bool false, .string { data := #[] }, .int .i64 0] 49)
      have mV := hV.alloc hV.size (.cells #[.bool false, .string { data := #[] }, .int .i64 77, .bool false, .string { data := #[] }, .int .i64 0] 49)
      have mr := hr.allocd (.cells #[.bool false, .string { data := #[] }, .int .i64 77, .bool false, .string { data := #[] }, .int .i64 0] 49)
      have mk := Blk.put wr #[.bool false, .string { data := #[] }, .int .i64 77, .bool false, .string { data := #[] }, .int .i64 0] 49
      have hne : v1.heap.size < wr.heap.size := hr.lt
      clear hr hB hV
      go_upto_region 14 with fail
      generalize (wr.alloc (.cells #[.bool false, .string { data := #[] }, .int .i64 77, .bool false, .string { data := #[] }, .int .i64 0] 49)) = w8 at *
      generalize wr.heap.size = p13 at *
      have hne2 : p13 ≠ v1.heap.size := by omega
      obtain ⟨⟨c0, c1, c2, c3, c4, c5⟩, fz⟩ := mr.cells (Nat.lt_succ_self k)
      have f0 := fz (k * 6)
      have f1 := fz (k * 6 + 1)
      have f2 := fz (k * 6 + 2)
      have f3 := fz (k * 6 + 3)
      have f4 := fz (k * 6 + 4)
      have f5 := fz (k * 6 + 5)
      obtain ⟨m0, m1, m2, m3, m4, m5⟩ := mk.ce6
      have hr' := mr.mark
      have hB' := ((((((mB.setCell (p := ⟨v1.heap.size, k * 6, none⟩) hsz (.bool false)).setCell (p := ⟨v1.heap.size, k * 6 + 1, none⟩) hsz (.string { data := #[] })).setCell (p := ⟨v1.heap.size, k * 6 + 2, none⟩) hsz (.int .i64 77)).setCell (p := ⟨v1.heap.size, k * 6 + 3, none⟩) hsz (.bool false)).setCell (p := ⟨v1.heap.size, k * 6 + 4, none⟩) hsz (.string { data := #[] })).setCell (p := ⟨v1.heap.size, k * 6 + 5, none⟩) hsz (.int .i64 0))
      have hV' := ((((((mV.setCell (p := ⟨v1.heap.size, k * 6, none⟩) (Nat.le_refl _) (.bool false)).setCell (p := ⟨v1.heap.size, k * 6 + 1, none⟩) (Nat.le_refl _) (.string { data := #[] })).setCell (p := ⟨v1.heap.size, k * 6 + 2, none⟩) (Nat.le_refl _) (.int .i64 77)).setCell (p := ⟨v1.heap.size, k * 6 + 3, none⟩) (Nat.le_refl _) (.bool false)).setCell (p := ⟨v1.heap.size, k * 6 + 4, none⟩) (Nat.le_refl _) (.string { data := #[] })).setCell (p := ⟨v1.heap.size, k * 6 + 5, none⟩) (Nat.le_refl _) (.int .i64 0))
      have mk' := (Blk.far (Blk.far (Blk.far (Blk.far (Blk.far (Blk.far mk (k * 6) (.bool false) hne2) (k * 6 + 1) (.string { data := #[] }) hne2) (k * 6 + 2) (.int .i64 77) hne2) (k * 6 + 3) (.bool false) hne2) (k * 6 + 4) (.string { data := #[] }) hne2) (k * 6 + 5) (.int .i64 0) hne2)
      have g1 : (k : Int) < (k : Int) + 1 := by omega
      have g2 : (k : Int) ≤ (k : Int) + 1 := by omega
      clear mr mB mV mk fz
      go_upto_region 15 with fail
      clear c0 c1 c2 c3 c4 c5 f0 f1 f2 f3 f4 f5 m0 m1 m2 m3 m4 m5
      generalize ((((((w8.setCell ⟨v1.heap.size, k * 6, none⟩ (.bool false)).setCell ⟨v1.heap.size, k * 6 + 1, none⟩ (.string { data := #[] })).setCell ⟨v1.heap.size, k * 6 + 2, none⟩ (.int .i64 77)).setCell ⟨v1.heap.size, k * 6 + 3, none⟩ (.bool false)).setCell ⟨v1.heap.size, k * 6 + 4, none⟩ (.string { data := #[] })).setCell ⟨v1.heap.size, k * 6 + 5, none⟩ (.int .i64 0)) = w9 at *
      go_wp2_with fail
      (with_reducible refine (HU.out _ hr'.gssN (hT.below hB')).mono ?_)
      rintro r w2 ⟨rfl, hb2⟩
      have hr2 := (hr'.keep hb2).allocd (.cells #[.bool sn, .string ss, .int .i64 se, .bool sm, .string st, .int .i64 sf] 49)
      have mk2 := (mk'.keep hb2).allocd (.cells #[.bool sn, .string ss, .int .i64 se, .bool sm, .string st, .int .i64 sf] 49)
      have hB1 := hB'.trans (hb2.mono hB'.size)
      have hV1 := hV'.trans (hb2.mono hV'.size)
      have hF2 := Blk.put w2 #[.bool sn, .string ss, .int .i64 se, .bool sm, .string st, .int .i64 sf] 49
      have hB2 := hB1.alloc hB1.size (.cells #[.bool sn, .string ss, .int .i64 se, .bool sm, .string st, .int .i64 sf] 49)
      have hV2 := hV1.alloc hV1.size (.cells #[.bool sn, .string ss, .int .i64 se, .bool sm, .string st, .int .i64 sf] 49)
      clear hb2 hr' hB' hV' mk' hB1 hV1
      go_upto_region 16 with fail
      generalize (w2.alloc (.cells #[.bool sn, .string ss, .int .i64 se, .bool sm, .string st, .int .i64 sf] 49)) = w3 at *
      generalize w2.heap.size = p14 at *
      obtain ⟨⟨c0, c1, c2, c3, c4, c5⟩, -⟩ := hr2.cells (Nat.lt_succ_self k)
      rw [show cpM G k k = GR.mark from if_neg (by omega)] at c0 c1 c2 c3 c4 c5
      dsimp only [GR.mark] at c0 c1 c2 c3 c4 c5
      obtain ⟨m0, m1, m2, m3, m4, m5⟩ := mk2.ce6
      have Hr := Lib.hid hr2
      have HBB := Lib.hid hB2
      have HVV := Lib.hid hV2
      have HF := Lib.hid hF2
      clear hr2 hB2 hV2 hF2 mk2
      go_wp2_with fail
      go_quiet (fail)
      go_wp2_with fail
      clear c0 c1 c2 c3 c4 c5 m0 m1 m2 m3 m4 m5
      go_loopg [16, 17] k (fun gh s16 s17 wr => ∃ (j : Nat) (m : Bool), j ≤ k ∧ gh = k - j ∧ s17 = .int .i64 j ∧ s16 = .bool m ∧ (m = true ↔ ∀ i, i < j → (G i).may = true) ∧ Row6 wr v1.heap.size (k + 1) (cpM G k) ∧ Blk wr p14 #[.bool sn, .string ss, .int .i64 se, .bool sm, .string st, .int .i64 sf] 49 ∧ Below v1.heap.size v1 wr ∧ Below w.heap.size w wr)
      case atStart => exact ⟨0, true, Nat.zero_le _, rfl, rfl, rfl, ⟨fun _ i hi => absurd hi (by omega), fun _ => rfl⟩, Hr.out.drewN _, Blk.drewN HF.out _, Below.drewN' HVV.out _, Below.drewN' HBB.out _⟩
      case round =>
        obtain ⟨j, m, hj, hg, rfl, rfl, hm, hr, hF, hV, hB⟩ := hrel
        clear Hr HBB HVV HF
        replace Hg := Lib.hid hg
        have Hm := Lib.hid hm
        clear hg hm
        by_cases hjk : j < k
        · obtain ⟨b, o, hA, hlt, hc⟩ := Gss.below HH.out hV (by omega)
          subst hA
          obtain ⟨k0, k1, k2, k3, k4, k5⟩ := hc j hjk
          have g0 : 0 ≤ (j : Int) := by omega
          have g3 : (j : Int) < (k : Int) := by omega
          have g4 : (j : Int) < (k : Int) + 1 := by omega
          clear hc
          cases m
          · obtain ⟨⟨c0, c1, c2, c3, c4, c5⟩, -⟩ := hr.cells (show j < k + 1 by omega)
            rw [show cpM G k j = G j from if_pos hjk] at c0 c1 c2 c3 c4 c5
            have Hhr := Lib.hid hr
            have HhF := Lib.hid hF
            have HhV := Lib.hid hV
            have HhB := Lib.hid hB
            clear hr hF hV hB hlt
            go_wp2_with fail
            go_quiet (fail)
            go_wp2
            go_roundg (k - (j + 1))
            case measure => have := Hg.out; omega
            case rel => exact ⟨j + 1, false, by omega, rfl, by go_num, rfl, ⟨fun h => (by simp at h), fun h => (by have h9 := Hm.out.2 (fun i hi => h i (by omega)); simp at h9)⟩, Hhr.out.drewN _, Blk.drewN HhF.out _, Below.drewN' HhV.out _, Below.drewN' HhB.out _⟩
          · have hq := HK.out j hjk
            obtain ⟨v, hv⟩ : ∃ v, (G j).may = v := ⟨_, rfl⟩
            rw [hv] at hq
            have Hv := Lib.hid hv
            have E1 := El.mk' hlt k0 k1 k2 k3 k4 k5
            clear hv hlt
            go_wp2_with fail
            (with_reducible refine (hq _).mono ?_)
            rintro r w4 ⟨rfl, hb4⟩
            clear k0 k1 k2 k3 k4 k5 hq
            have hr3 := hr.keep hb4
            have hF3 := hF.keep hb4
            have hV3 := hV.trans (hb4.mono hV.size)
            have hB3 := hB.trans (hb4.mono hB.size)
            obtain ⟨k0, k1, k2, k3, k4, k5⟩ := (E1.keep hb4).ce6
            clear hr hF hV hB hb4 E1
            obtain ⟨⟨c0, c1, c2, c3, c4, c5⟩, -⟩ := hr3.cells (show j < k + 1 by omega)
            rw [show cpM G k j = G j from if_pos hjk] at c0 c1 c2 c3 c4 c5
            have Hhr := Lib.hid hr3
            have HhF := Lib.hid hF3
            have HhV := Lib.hid hV3
            have HhB := Lib.hid hB3
            clear hr3 hF3 hV3 hB3
            go_wp2_with fail
            go_quiet (fail)
            go_wp2
            go_roundg (k - (j + 1))
            case measure => have := Hg.out; omega
            case rel => exact ⟨j + 1, v, by omega, rfl, by go_num, rfl, ⟨fun h i hi => by
              by_cases e : i = j
              · subst e; rw [Hv.out]; exact h
              · exact Hm.out.1 (by first | rfl | trivial) i (by omega), fun h => by rw [← Hv.out]; exact h j (by omega)⟩, Hhr.out.drewN _, Blk.drewN HhF.out _, Below.drewN' HhV.out _, Below.drewN' HhB.out _⟩
        · obtain rfl : j = k := by omega
          clear hr hj hjk
          cases m
          · exfalso
            have h1 := Hm.out.2 HM.out
            cases h1
          · clear Hm
            have hDl := Gss.below HH.out hV
            go_wp2_with fail
            (with_reducible refine (HRS.out _ hDl).mono ?_)
            rintro r w4 ⟨rfl, hb4⟩
            have hF4 := (hF.keep hb4).allocd (.cells #[.bool sn, .string ss, .int .i64 se, .bool sm, .string st, .int .i64 sf] 49)
            have hB3 := hB.trans (hb4.mono hB.size)
            have hB4 := hB3.alloc hB3.size (.cells #[.bool sn, .string ss, .int .i64 se, .bool sm, .string st, .int .i64 sf] 49)
            have hT4 := Blk.put w4 #[.bool sn, .string ss, .int .i64 se, .bool sm, .string st, .int .i64 sf] 49
            clear hb4 hF hV hB hB3 hDl
            go_upto_region 28 with fail
            obtain ⟨c0, c1, c2, c3, c4, c5⟩ := hF4.ce6
            obtain ⟨m0, m1, m2, m3, m4, m5⟩ := hT4.ce6
            go_wp2_with fail
            (with_reducible refine (l6same_yes _ _ _ _ _ _ _ _).mono ?_)
            rintro r w5 ⟨rfl, hb5⟩
            have hB5 := hB4.trans (hb5.mono hB4.size)
            clear c0 c1 c2 c3 c4 c5 m0 m1 m2 m3 m4 m5 hF4 hT4 hB4 hb5
            go_wp2_with fail
            (with_reducible refine (l6awake_any _ (hT.below hB5)).mono ?_)
            rintro r w6 ⟨rfl, hb6⟩
            have hB6 := hB5.trans (hb6.mono hB5.size)
            clear hb6 hB5
            go_wp2
            go_ret
            exact ⟨rfl, hB6⟩

set_option maxRecDepth 1000000 in
set_option maxHeartbeats 16000000 in
theorem powers_front1 (gn : Bool) (gS : ByteArray) (ge : Int) (gm : Bool) (gT : ByteArray) (gf : Int) (n0 : Int) (A : Option Addr) (n c : Nat) (w : World) (pn : Bool) (pS : ByteArray) (pe : Int) (pm : Bool) (pT : ByteArray) (pf er : Int) (hT : Tab w) (HR : ∀ (v1 : World) (_B0 : Below w.heap.size w v1) (u0 u1 u3 u4 u5 u6 u7 u8 u9 u10 u11 u12 u13 u14 u15 u16 u17 u18 u19 u20 u21 u22 u23 u24 u25 u26 u27 u28 u29 u30 u31 u32 u33 u34 u35 u36 u37 u38 u39 u40 u41 u42 u43 u44 u45 u46 u47 u48 u49 u50 u51 u52 u53 u54 u55 u56 u57 u58 u59 u60 u61 u62 u63 u64 u65 u66 u67 u68 u69 u70 u71 u72 u73 u74 u75 u76 u77 u78 u79 u80 u81 u82 u83 u84 u85 u86 u87 u88 u89 u90 u91 u92 u93 u94 u95 u96 u97 u98 u99 u100 u101 u102 u103 u104 u105 u106 u107 u108 u109 u110 u111 u112 u113 u114 u115 u116 u117 u118 u119 u120 u121 u122 u123 u124 u125 u126 u127 : Value), Code.wp Tryd.prog (tailAt 8 (Tryd.f14.body.getD .skip)) (bodyPost Tryd.prog Tryd.f14 fun r w' => r = .returned (.bool true) ∧ Below w.heap.size w w') ⟨#[u0, u1, .slice A n c, u3, u4, u5, u6, u7, u8, u9, u10, u11, u12, u13, u14, u15, u16, u17, u18, u19, u20, u21, u22, u23, u24, u25, u26, u27, u28, u29, u30, u31, u32, u33, u34, u35, u36, u37, u38, u39, u40, u41, u42, u43, u44, u45, u46, u47, u48, u49, u50, u51, u52, u53, u54, u55, u56, u57, u58, u59, u60, u61, u62, u63, u64, u65, u66, u67, u68, u69, u70, u71, u72, u73, u74, u75, u76, u77, u78, u79, u80, u81, u82, u83, u84, u85, u86, u87, u88, u89, u90, u91, u92, u93, u94, u95, u96, u97, u98, u99, u100, u101, u102, u103, u104, u105, u106, u107, u108, u109, u110, u111, u112, u113, u114, u115, u116, u117, u118, u119, u120, u121, u122, u123, u124, u125, u126, u127], []⟩ v1)
    (hp : ∀ W, Tab W → Calls Tryd.prog 86 #[.agg #[.bool gn, .string gS, .int .i64 ge, .bool gm, .string gT, .int .i64 gf], .int .i64 n0] W fun r w' => r = .returned (.tuple #[.agg #[.bool pn, .string pS, .int .i64 pe, .bool pm, .string pT, .int .i64 pf], .int .i64 er]) ∧ Below W.heap.size W w')
    (hm : ∀ W : World, Calls Tryd.prog 61 #[.agg #[.bool gn, .string gS, .int .i64 ge, .bool gm, .string gT, .int .i64 gf]] W fun r w' => r = .returned (.bool true) ∧ Below W.heap.size W w')
    (hq : ∀ W : World, Calls Tryd.prog 87 #[.agg #[.bool gn, .string gS, .int .i64 ge, .bool gm, .string gT, .int .i64 gf], .int .i64 n0] W fun r w' => r = .returned (.tuple #[.agg #[.bool pn, .string pS, .int .i64 pe, .bool pm, .string pT, .int .i64 pf], .int .i64 er]) ∧ Below W.heap.size W w') :
    Calls Tryd.prog 14 #[.agg #[.bool gn, .string gS, .int .i64 ge, .bool gm, .string gT, .int .i64 gf], .int .i64 n0, .slice A n c] w fun r w' => r = .returned (.bool true) ∧ Below w.heap.size w w' := by
  go_enter Tryd.func14, Tryd.ntmps14
  have B0 := Below.refl w.heap.size w
  have F3 := Blk.put (w) #[.bool gn, .string gS, .int .i64 ge, .bool gm, .string gT, .int .i64 gf] 49
  replace B0 := B0.alloc B0.size (.cells #[.bool gn, .string gS, .int .i64 ge, .bool gm, .string gT, .int .i64 gf] 49)
  obtain ⟨xF30_0, xF30_1, xF30_2, xF30_3, xF30_4, xF30_5⟩ := F3.ce6
  go_wp2_with fail
  (with_reducible refine (hp _ (hT.below B0)).mono ?_)
  rintro r w1 ⟨rfl, hb1⟩
  clear xF30_0 xF30_1 xF30_2 xF30_3 xF30_4 xF30_5
  replace F3 := F3.keep hb1
  replace B0 := B0.trans (hb1.mono B0.size)
  clear hb1
  replace F3 := F3.allocd (.cells #[.bool pn, .string pS, .int .i64 pe, .bool pm, .string pT, .int .i64 pf] 49)
  have F7 := Blk.put (w1) #[.bool pn, .string pS, .int .i64 pe, .bool pm, .string pT, .int .i64 pf] 49
  replace B0 := B0.alloc B0.size (.cells #[.bool pn, .string pS, .int .i64 pe, .bool pm, .string pT, .int .i64 pf] 49)
  obtain ⟨xF31_0, xF31_1, xF31_2, xF31_3, xF31_4, xF31_5⟩ := F3.ce6
  go_wp2_with fail
  (with_reducible refine (hm _).mono ?_)
  rintro r w2 ⟨rfl, hb2⟩
  clear xF31_0 xF31_1 xF31_2 xF31_3 xF31_4 xF31_5
  replace F3 := F3.keep hb2
  replace F7 := F7.keep hb2
  replace B0 := B0.trans (hb2.mono B0.size)
  clear hb2
  go_upto_if 28 with fail
  go_cut [6] (fun s6 wx => s6 = .bool false ∧ Below w.heap.size w wx)
  case first =>
    obtain ⟨xF32_0, xF32_1, xF32_2, xF32_3, xF32_4, xF32_5⟩ := F3.ce6
    go_wp2_with fail
    (with_reducible refine (hq _).mono ?_)
    rintro r w3 ⟨rfl, hb3⟩
    clear xF32_0 xF32_1 xF32_2 xF32_3 xF32_4 xF32_5
    replace F3 := F3.keep hb3
    replace F7 := F7.keep hb3
    replace B0 := B0.trans (hb3.mono B0.size)
    clear hb3
    clear F3
    replace F7 := F7.allocd (.cells #[.bool pn, .string pS, .int .i64 pe, .bool pm, .string pT, .int .i64 pf] 49)
    have F9 := Blk.put (w3) #[.bool pn, .string pS, .int .i64 pe, .bool pm, .string pT, .int .i64 pf] 49
    replace B0 := B0.alloc B0.size (.cells #[.bool pn, .string pS, .int .i64 pe, .bool pm, .string pT, .int .i64 pf] 49)
    obtain ⟨xF73_0, xF73_1, xF73_2, xF73_3, xF73_4, xF73_5⟩ := F7.ce6
    obtain ⟨xF93_0, xF93_1, xF93_2, xF93_3, xF93_4, xF93_5⟩ := F9.ce6
    go_wp2_with fail
    (with_reducible refine (l6same_yes _ _ _ _ _ _ _ _).mono ?_)
    rintro r w4 ⟨rfl, hb4⟩
    clear xF73_0 xF73_1 xF73_2 xF73_3 xF73_4 xF73_5 xF93_0 xF93_1 xF93_2 xF93_3 xF93_4 xF93_5
    replace F7 := F7.keep hb4
    replace F9 := F9.keep hb4
    replace B0 := B0.trans (hb4.mono B0.size)
    clear hb4
    go_wp2_with fail
    go_meet
    exact ⟨by first | rfl | simp, B0⟩
  case rest =>
    clear B0
    clear F3
    clear F7
    obtain ⟨rfl, B0⟩ := hcut
    generalize wc = v1 at *
    first
    | exact HR _ B0 _ _ _ _ _ _ _ _ _ _ _ _ _ _ _ _ _ _ _ _ _ _ _ _ _ _ _ _ _ _ _ _ _ _ _ _ _ _ _ _ _ _ _ _ _ _ _ _ _ _ _ _ _ _ _ _ _ _ _ _ _ _ _ _ _ _ _ _ _ _ _ _ _ _ _ _ _ _ _ _ _ _ _ _ _ _ _ _ _ _ _ _ _ _ _ _ _ _ _ _ _ _ _ _ _ _ _ _ _ _ _ _ _ _ _ _ _ _ _ _ _ _ _ _ _ _ _
    | (go_step
       first
     | exact HR _ B0 _ _ _ _ _ _ _ _ _ _ _ _ _ _ _ _ _ _ _ _ _ _ _ _ _ _ _ _ _ _ _ _ _ _ _ _ _ _ _ _ _ _ _ _ _ _ _ _ _ _ _ _ _ _ _ _ _ _ _ _ _ _ _ _ _ _ _ _ _ _ _ _ _ _ _ _ _ _ _ _ _ _ _ _ _ _ _ _ _ _ _ _ _ _ _ _ _ _ _ _ _ _ _ _ _ _ _ _ _ _ _ _ _ _ _ _ _ _ _ _ _ _ _ _ _ _ _
     | (go_step
        first
      | exact HR _ B0 _ _ _ _ _ _ _ _ _ _ _ _ _ _ _ _ _ _ _ _ _ _ _ _ _ _ _ _ _ _ _ _ _ _ _ _ _ _ _ _ _ _ _ _ _ _ _ _ _ _ _ _ _ _ _ _ _ _ _ _ _ _ _ _ _ _ _ _ _ _ _ _ _ _ _ _ _ _ _ _ _ _ _ _ _ _ _ _ _ _ _ _ _ _ _ _ _ _ _ _ _ _ _ _ _ _ _ _ _ _ _ _ _ _ _ _ _ _ _ _ _ _ _ _ _ _ _
      | (go_step
         first
       | exact HR _ B0 _ _ _ _ _ _ _ _ _ _ _ _ _ _ _ _ _ _ _ _ _ _ _ _ _ _ _ _ _ _ _ _ _ _ _ _ _ _ _ _ _ _ _ _ _ _ _ _ _ _ _ _ _ _ _ _ _ _ _ _ _ _ _ _ _ _ _ _ _ _ _ _ _ _ _ _ _ _ _ _ _ _ _ _ _ _ _ _ _ _ _ _ _ _ _ _ _ _ _ _ _ _ _ _ _ _ _ _ _ _ _ _ _ _ _ _ _ _ _ _ _ _ _ _ _ _ _
       | (go_step
          first
        | exact HR _ B0 _ _ _ _ _ _ _ _ _ _ _ _ _ _ _ _ _ _ _ _ _ _ _ _ _ _ _ _ _ _ _ _ _ _ _ _ _ _ _ _ _ _ _ _ _ _ _ _ _ _ _ _ _ _ _ _ _ _ _ _ _ _ _ _ _ _ _ _ _ _ _ _ _ _ _ _ _ _ _ _ _ _ _ _ _ _ _ _ _ _ _ _ _ _ _ _ _ _ _ _ _ _ _ _ _ _ _ _ _ _ _ _ _ _ _ _ _ _ _ _ _ _ _ _ _ _ _
        | (go_step
           first
         | exact HR _ B0 _ _ _ _ _ _ _ _ _ _ _ _ _ _ _ _ _ _ _ _ _ _ _ _ _ _ _ _ _ _ _ _ _ _ _ _ _ _ _ _ _ _ _ _ _ _ _ _ _ _ _ _ _ _ _ _ _ _ _ _ _ _ _ _ _ _ _ _ _ _ _ _ _ _ _ _ _ _ _ _ _ _ _ _ _ _ _ _ _ _ _ _ _ _ _ _ _ _ _ _ _ _ _ _ _ _ _ _ _ _ _ _ _ _ _ _ _ _ _ _ _ _ _ _ _ _ _
         | (go_step
            first
          | exact HR _ B0 _ _ _ _ _ _ _ _ _ _ _ _ _ _ _ _ _ _ _ _ _ _ _ _ _ _ _ _ _ _ _ _ _ _ _ _ _ _ _ _ _ _ _ _ _ _ _ _ _ _ _ _ _ _ _ _ _ _ _ _ _ _ _ _ _ _ _ _ _ _ _ _ _ _ _ _ _ _ _ _ _ _ _ _ _ _ _ _ _ _ _ _ _ _ _ _ _ _ _ _ _ _ _ _ _ _ _ _ _ _ _ _ _ _ _ _ _ _ _ _ _ _ _ _ _ _ _
          | (go_step
             first
           | exact HR _ B0 _ _ _ _ _ _ _ _ _ _ _ _ _ _ _ _ _ _ _ _ _ _ _ _ _ _ _ _ _ _ _ _ _ _ _ _ _ _ _ _ _ _ _ _ _ _ _ _ _ _ _ _ _ _ _ _ _ _ _ _ _ _ _ _ _ _ _ _ _ _ _ _ _ _ _ _ _ _ _ _ _ _ _ _ _ _ _ _ _ _ _ _ _ _ _ _ _ _ _ _ _ _ _ _ _ _ _ _ _ _ _ _ _ _ _ _ _ _ _ _ _ _ _ _ _ _ _
           | (go_step
              first
            | exact HR _ B0 _ _ _ _ _ _ _ _ _ _ _ _ _ _ _ _ _ _ _ _ _ _ _ _ _ _ _ _ _ _ _ _ _ _ _ _ _ _ _ _ _ _ _ _ _ _ _ _ _ _ _ _ _ _ _ _ _ _ _ _ _ _ _ _ _ _ _ _ _ _ _ _ _ _ _ _ _ _ _ _ _ _ _ _ _ _ _ _ _ _ _ _ _ _ _ _ _ _ _ _ _ _ _ _ _ _ _ _ _ _ _ _ _ _ _ _ _ _ _ _ _ _ _ _ _ _ _
            | (go_step
               first
             | exact HR _ B0 _ _ _ _ _ _ _ _ _ _ _ _ _ _ _ _ _ _ _ _ _ _ _ _ _ _ _ _ _ _ _ _ _ _ _ _ _ _ _ _ _ _ _ _ _ _ _ _ _ _ _ _ _ _ _ _ _ _ _ _ _ _ _ _ _ _ _ _ _ _ _ _ _ _ _ _ _ _ _ _ _ _ _ _ _ _ _ _ _ _ _ _ _ _ _ _ _ _ _ _ _ _ _ _ _ _ _ _ _ _ _ _ _ _ _ _ _ _ _ _ _ _ _ _ _ _ _
             | (go_step
                first
              | exact HR _ B0 _ _ _ _ _ _ _ _ _ _ _ _ _ _ _ _ _ _ _ _ _ _ _ _ _ _ _ _ _ _ _ _ _ _ _ _ _ _ _ _ _ _ _ _ _ _ _ _ _ _ _ _ _ _ _ _ _ _ _ _ _ _ _ _ _ _ _ _ _ _ _ _ _ _ _ _ _ _ _ _ _ _ _ _ _ _ _ _ _ _ _ _ _ _ _ _ _ _ _ _ _ _ _ _ _ _ _ _ _ _ _ _ _ _ _ _ _ _ _ _ _ _ _ _ _ _ _
              | (go_step
                 first
               | exact HR _ B0 _ _ _ _ _ _ _ _ _ _ _ _ _ _ _ _ _ _ _ _ _ _ _ _ _ _ _ _ _ _ _ _ _ _ _ _ _ _ _ _ _ _ _ _ _ _ _ _ _ _ _ _ _ _ _ _ _ _ _ _ _ _ _ _ _ _ _ _ _ _ _ _ _ _ _ _ _ _ _ _ _ _ _ _ _ _ _ _ _ _ _ _ _ _ _ _ _ _ _ _ _ _ _ _ _ _ _ _ _ _ _ _ _ _ _ _ _ _ _ _ _ _ _ _ _ _ _
               | (go_step
                  first
                | exact HR _ B0 _ _ _ _ _ _ _ _ _ _ _ _ _ _ _ _ _ _ _ _ _ _ _ _ _ _ _ _ _ _ _ _ _ _ _ _ _ _ _ _ _ _ _ _ _ _ _ _ _ _ _ _ _ _ _ _ _ _ _ _ _ _ _ _ _ _ _ _ _ _ _ _ _ _ _ _ _ _ _ _ _ _ _ _ _ _ _ _ _ _ _ _ _ _ _ _ _ _ _ _ _ _ _ _ _ _ _ _ _ _ _ _ _ _ _ _ _ _ _ _ _ _ _ _ _ _ _
                | (go_step
                   first
                 | exact HR _ B0 _ _ _ _ _ _ _ _ _ _ _ _ _ _ _ _ _ _ _ _ _ _ _ _ _ _ _ _ _ _ _ _ _ _ _ _ _ _ _ _ _ _ _ _ _ _ _ _ _ _ _ _ _ _ _ _ _ _ _ _ _ _ _ _ _ _ _ _ _ _ _ _ _ _ _ _ _ _ _ _ _ _ _ _ _ _ _ _ _ _ _ _ _ _ _ _ _ _ _ _ _ _ _ _ _ _ _ _ _ _ _ _ _ _ _ _ _ _ _ _ _ _ _ _ _ _ _
                 | (go_step
                    first
                  | exact HR _ B0 _ _ _ _ _ _ _ _ _ _ _ _ _ _ _ _ _ _ _ _ _ _ _ _ _ _ _ _ _ _ _ _ _ _ _ _ _ _ _ _ _ _ _ _ _ _ _ _ _ _ _ _ _ _ _ _ _ _ _ _ _ _ _ _ _ _ _ _ _ _ _ _ _ _ _ _ _ _ _ _ _ _ _ _ _ _ _ _ _ _ _ _ _ _ _ _ _ _ _ _ _ _ _ _ _ _ _ _ _ _ _ _ _ _ _ _ _ _ _ _ _ _ _ _ _ _ _
                  | (go_step
                     first
                   | exact HR _ B0 _ _ _ _ _ _ _ _ _ _ _ _ _ _ _ _ _ _ _ _ _ _ _ _ _ _ _ _ _ _ _ _ _ _ _ _ _ _ _ _ _ _ _ _ _ _ _ _ _ _ _ _ _ _ _ _ _ _ _ _ _ _ _ _ _ _ _ _ _ _ _ _ _ _ _ _ _ _ _ _ _ _ _ _ _ _ _ _ _ _ _ _ _ _ _ _ _ _ _ _ _ _ _ _ _ _ _ _ _ _ _ _ _ _ _ _ _ _ _ _ _ _ _ _ _ _ _
                   | (go_step
                      first
                    | exact HR _ B0 _ _ _ _ _ _ _ _ _ _ _ _ _ _ _ _ _ _ _ _ _ _ _ _ _ _ _ _ _ _ _ _ _ _ _ _ _ _ _ _ _ _ _ _ _ _ _ _ _ _ _ _ _ _ _ _ _ _ _ _ _ _ _ _ _ _ _ _ _ _ _ _ _ _ _ _ _ _ _ _ _ _ _ _ _ _ _ _ _ _ _ _ _ _ _ _ _ _ _ _ _ _ _ _ _ _ _ _ _ _ _ _ _ _ _ _ _ _ _ _ _ _ _ _ _ _ _
                    | (go_step
                       first
                     | exact HR _ B0 _ _ _ _ _ _ _ _ _ _ _ _ _ _ _ _ _ _ _ _ _ _ _ _ _ _ _ _ _ _ _ _ _ _ _ _ _ _ _ _ _ _ _ _ _ _ _ _ _ _ _ _ _ _ _ _ _ _ _ _ _ _ _ _ _ _ _ _ _ _ _ _ _ _ _ _ _ _ _ _ _ _ _ _ _ _ _ _ _ _ _ _ _ _ _ _ _ _ _ _ _ _ _ _ _ _ _ _ _ _ _ _ _ _ _ _ _ _ _ _ _ _ _ _ _ _ _
                     | (go_step
                        first
                      | exact HR _ B0 _ _ _ _ _ _ _ _ _ _ _ _ _ _ _ _ _ _ _ _ _ _ _ _ _ _ _ _ _ _ _ _ _ _ _ _ _ _ _ _ _ _ _ _ _ _ _ _ _ _ _ _ _ _ _ _ _ _ _ _ _ _ _ _ _ _ _ _ _ _ _ _ _ _ _ _ _ _ _ _ _ _ _ _ _ _ _ _ _ _ _ _ _ _ _ _ _ _ _ _ _ _ _ _ _ _ _ _ _ _ _ _ _ _ _ _ _ _ _ _ _ _ _ _ _ _ _
                      | (go_step
                         first
                       | exact HR _ B0 _ _ _ _ _ _ _ _ _ _ _ _ _ _ _ _ _ _ _ _ _ _ _ _ _ _ _ _ _ _ _ _ _ _ _ _ _ _ _ _ _ _ _ _ _ _ _ _ _ _ _ _ _ _ _ _ _ _ _ _ _ _ _ _ _ _ _ _ _ _ _ _ _ _ _ _ _ _ _ _ _ _ _ _ _ _ _ _ _ _ _ _ _ _ _ _ _ _ _ _ _ _ _ _ _ _ _ _ _ _ _ _ _ _ _ _ _ _ _ _ _ _ _ _ _ _ _
                       | (go_step
                          first
                        | exact HR _ B0 _ _ _ _ _ _ _ _ _ _ _ _ _ _ _ _ _ _ _ _ _ _ _ _ _ _ _ _ _ _ _ _ _ _ _ _ _ _ _ _ _ _ _ _ _ _ _ _ _ _ _ _ _ _ _ _ _ _ _ _ _ _ _ _ _ _ _ _ _ _ _ _ _ _ _ _ _ _ _ _ _ _ _ _ _ _ _ _ _ _ _ _ _ _ _ _ _ _ _ _ _ _ _ _ _ _ _ _ _ _ _ _ _ _ _ _ _ _ _ _ _ _ _ _ _ _ _
                        | (go_step
                           first
                         | exact HR _ B0 _ _ _ _ _ _ _ _ _ _ _ _ _ _ _ _ _ _ _ _ _ _ _ _ _ _ _ _ _ _ _ _ _ _ _ _ _ _ _ _ _ _ _ _ _ _ _ _ _ _ _ _ _ _ _ _ _ _ _ _ _ _ _ _ _ _ _ _ _ _ _ _ _ _ _ _ _ _ _ _ _ _ _ _ _ _ _ _ _ _ _ _ _ _ _ _ _ _ _ _ _ _ _ _ _ _ _ _ _ _ _ _ _ _ _ _ _ _ _ _ _ _ _ _ _ _ _
                         | (go_step
                            first
                          | exact HR _ B0 _ _ _ _ _ _ _ _ _ _ _ _ _ _ _ _ _ _ _ _ _ _ _ _ _ _ _ _ _ _ _ _ _ _ _ _ _ _ _ _ _ _ _ _ _ _ _ _ _ _ _ _ _ _ _ _ _ _ _ _ _ _ _ _ _ _ _ _ _ _ _ _ _ _ _ _ _ _ _ _ _ _ _ _ _ _ _ _ _ _ _ _ _ _ _ _ _ _ _ _ _ _ _ _ _ _ _ _ _ _ _ _ _ _ _ _ _ _ _ _ _ _ _ _ _ _ _
                          | (go_step
                             first
                           | exact HR _ B0 _ _ _ _ _ _ _ _ _ _ _ _ _ _ _ _ _ _ _ _ _ _ _ _ _ _ _ _ _ _ _ _ _ _ _ _ _ _ _ _ _ _ _ _ _ _ _ _ _ _ _ _ _ _ _ _ _ _ _ _ _ _ _ _ _ _ _ _ _ _ _ _ _ _ _ _ _ _ _ _ _ _ _ _ _ _ _ _ _ _ _ _ _ _ _ _ _ _ _ _ _ _ _ _ _ _ _ _ _ _ _ _ _ _ _ _ _ _ _ _ _ _ _ _ _ _ _
                           | (go_step
                              first
                            | exact HR _ B0 _ _ _ _ _ _ _ _ _ _ _ _ _ _ _ _ _ _ _ _ _ _ _ _ _ _ _ _ _ _ _ _ _ _ _ _ _ _ _ _ _ _ _ _ _ _ _ _ _ _ _ _ _ _ _ _ _ _ _ _ _ _ _ _ _ _ _ _ _ _ _ _ _ _ _ _ _ _ _ _ _ _ _ _ _ _ _ _ _ _ _ _ _ _ _ _ _ _ _ _ _ _ _ _ _ _ _ _ _ _ _ _ _ _ _ _ _ _ _ _ _ _ _ _ _ _ _
                            | (go_step
                               first
                             | exact HR _ B0 _ _ _ _ _ _ _ _ _ _ _ _ _ _ _ _ _ _ _ _ _ _ _ _ _ _ _ _ _ _ _ _ _ _ _ _ _ _ _ _ _ _ _ _ _ _ _ _ _ _ _ _ _ _ _ _ _ _ _ _ _ _ _ _ _ _ _ _ _ _ _ _ _ _ _ _ _ _ _ _ _ _ _ _ _ _ _ _ _ _ _ _ _ _ _ _ _ _ _ _ _ _ _ _ _ _ _ _ _ _ _ _ _ _ _ _ _ _ _ _ _ _ _ _ _ _ _
                             | (go_step
                                first
                              | exact HR _ B0 _ _ _ _ _ _ _ _ _ _ _ _ _ _ _ _ _ _ _ _ _ _ _ _ _ _ _ _ _ _ _ _ _ _ _ _ _ _ _ _ _ _ _ _ _ _ _ _ _ _ _ _ _ _ _ _ _ _ _ _ _ _ _ _ _ _ _ _ _ _ _ _ _ _ _ _ _ _ _ _ _ _ _ _ _ _ _ _ _ _ _ _ _ _ _ _ _ _ _ _ _ _ _ _ _ _ _ _ _ _ _ _ _ _ _ _ _ _ _ _ _ _ _ _ _ _ _
                              | (go_step
                                 first
                               | exact HR _ B0 _ _ _ _ _ _ _ _ _ _ _ _ _ _ _ _ _ _ _ _ _ _ _ _ _ _ _ _ _ _ _ _ _ _ _ _ _ _ _ _ _ _ _ _ _ _ _ _ _ _ _ _ _ _ _ _ _ _ _ _ _ _ _ _ _ _ _ _ _ _ _ _ _ _ _ _ _ _ _ _ _ _ _ _ _ _ _ _ _ _ _ _ _ _ _ _ _ _ _ _ _ _ _ _ _ _ _ _ _ _ _ _ _ _ _ _ _ _ _ _ _ _ _ _ _ _ _
                               | (go_step
                                  first
                                | exact HR _ B0 _ _ _ _ _ _ _ _ _ _ _ _ _ _ _ _ _ _ _ _ _ _ _ _ _ _ _ _ _ _ _ _ _ _ _ _ _ _ _ _ _ _ _ _ _ _ _ _ _ _ _ _ _ _ _ _ _ _ _ _ _ _ _ _ _ _ _ _ _ _ _ _ _ _ _ _ _ _ _ _ _ _ _ _ _ _ _ _ _ _ _ _ _ _ _ _ _ _ _ _ _ _ _ _ _ _ _ _ _ _ _ _ _ _ _ _ _ _ _ _ _ _ _ _ _ _ _
                                | (go_step
                                   first
                                 | exact HR _ B0 _ _ _ _ _ _ _ _ _ _ _ _ _ _ _ _ _ _ _ _ _ _ _ _ _ _ _ _ _ _ _ _ _ _ _ _ _ _ _ _ _ _ _ _ _ _ _ _ _ _ _ _ _ _ _ _ _ _ _ _ _ _ _ _ _ _ _ _ _ _ _ _ _ _ _ _ _ _ _ _ _ _ _ _ _ _ _ _ _ _ _ _ _ _ _ _ _ _ _ _ _ _ _ _ _ _ _ _ _ _ _ _ _ _ _ _ _ _ _ _ _ _ _ _ _ _ _
                                 | (go_step
                                    exact HR _ B0 _ _ _ _ _ _ _ _ _ _ _ _ _ _ _ _ _ _ _ _ _ _ _ _ _ _ _ _ _ _ _ _ _ _ _ _ _ _ _ _ _ _ _ _ _ _ _ _ _ _ _ _ _ _ _ _ _ _ _ _ _ _ _ _ _ _ _ _ _ _ _ _ _ _ _ _ _ _ _ _ _ _ _ _ _ _ _ _ _ _ _ _ _ _ _ _ _ _ _ _ _ _ _ _ _ _ _ _ _ _ _ _ _ _ _ _ _ _ _ _ _ _ _ _ _ _ _))))))))))))))))))))))))))))))

set_option maxRecDepth 1000000 in
set_option maxHeartbeats 16000000 in
theorem powers_front0 (gn : Bool) (gS : ByteArray) (ge : Int) (gm : Bool) (gT : ByteArray) (gf : Int) (n0 : Int) (A : Option Addr) (n c : Nat) (w : World) (hT : Tab w) (HR : ∀ (v1 : World) (_B0 : Below w.heap.size w v1) (u0 u1 u3 u4 u5 u6 u7 u8 u9 u10 u11 u12 u13 u14 u15 u16 u17 u18 u19 u20 u21 u22 u23 u24 u25 u26 u27 u28 u29 u30 u31 u32 u33 u34 u35 u36 u37 u38 u39 u40 u41 u42 u43 u44 u45 u46 u47 u48 u49 u50 u51 u52 u53 u54 u55 u56 u57 u58 u59 u60 u61 u62 u63 u64 u65 u66 u67 u68 u69 u70 u71 u72 u73 u74 u75 u76 u77 u78 u79 u80 u81 u82 u83 u84 u85 u86 u87 u88 u89 u90 u91 u92 u93 u94 u95 u96 u97 u98 u99 u100 u101 u102 u103 u104 u105 u106 u107 u108 u109 u110 u111 u112 u113 u114 u115 u116 u117 u118 u119 u120 u121 u122 u123 u124 u125 u126 u127 : Value), Code.wp Tryd.prog (tailAt 8 (Tryd.f14.body.getD .skip)) (bodyPost Tryd.prog Tryd.f14 fun r w' => r = .returned (.bool true) ∧ Below w.heap.size w w') ⟨#[u0, u1, .slice A n c, u3, u4, u5, u6, u7, u8, u9, u10, u11, u12, u13, u14, u15, u16, u17, u18, u19, u20, u21, u22, u23, u24, u25, u26, u27, u28, u29, u30, u31, u32, u33, u34, u35, u36, u37, u38, u39, u40, u41, u42, u43, u44, u45, u46, u47, u48, u49, u50, u51, u52, u53, u54, u55, u56, u57, u58, u59, u60, u61, u62, u63, u64, u65, u66, u67, u68, u69, u70, u71, u72, u73, u74, u75, u76, u77, u78, u79, u80, u81, u82, u83, u84, u85, u86, u87, u88, u89, u90, u91, u92, u93, u94, u95, u96, u97, u98, u99, u100, u101, u102, u103, u104, u105, u106, u107, u108, u109, u110, u111, u112, u113, u114, u115, u116, u117, u118, u119, u120, u121, u122, u123, u124, u125, u126, u127], []⟩ v1)
    (hp : ∀ W, Tab W → Calls Tryd.prog 86 #[.agg #[.bool gn, .string gS, .int .i64 ge, .bool gm, .string gT, .int .i64 gf], .int .i64 n0] W fun r w' => r = .returned (.tuple #[.agg #[.bool false, .string { data := #[] }, .int .i64 0, .bool false, .string { data := #[] }, .int .i64 0], .int .i64 2]) ∧ Below W.heap.size W w')
    (hm : ∀ W : World, Calls Tryd.prog 61 #[.agg #[.bool gn, .string gS, .int .i64 ge, .bool gm, .string gT, .int .i64 gf]] W fun r w' => r = .returned (.bool false) ∧ Below W.heap.size W w') :
    Calls Tryd.prog 14 #[.agg #[.bool gn, .string gS, .int .i64 ge, .bool gm, .string gT, .int .i64 gf], .int .i64 n0, .slice A n c] w fun r w' => r = .returned (.bool true) ∧ Below w.heap.size w w' := by
  go_enter Tryd.func14, Tryd.ntmps14
  have B0 := Below.refl w.heap.size w
  have F3 := Blk.put (w) #[.bool gn, .string gS, .int .i64 ge, .bool gm, .string gT, .int .i64 gf] 49
  replace B0 := B0.alloc B0.size (.cells #[.bool gn, .string gS, .int .i64 ge, .bool gm, .string gT, .int .i64 gf] 49)
  obtain ⟨xF30_0, xF30_1, xF30_2, xF30_3, xF30_4, xF30_5⟩ := F3.ce6
  go_wp2_with fail
  (with_reducible refine (hp _ (hT.below B0)).mono ?_)
  rintro r w1 ⟨rfl, hb1⟩
  clear xF30_0 xF30_1 xF30_2 xF30_3 xF30_4 xF30_5
  replace F3 := F3.keep hb1
  replace B0 := B0.trans (hb1.mono B0.size)
  clear hb1
  replace F3 := F3.allocd (.cells #[.bool false, .string { data := #[] }, .int .i64 0, .bool false, .string { data := #[] }, .int .i64 0] 49)
  have F7 := Blk.put (w1) #[.bool false, .string { data := #[] }, .int .i64 0, .bool false, .string { data := #[] }, .int .i64 0] 49
  replace B0 := B0.alloc B0.size (.cells #[.bool false, .string { data := #[] }, .int .i64 0, .bool false, .string { data := #[] }, .int .i64 0] 49)
  obtain ⟨xF31_0, xF31_1, xF31_2, xF31_3, xF31_4, xF31_5⟩ := F3.ce6
  go_wp2_with fail
  (with_reducible refine (hm _).mono ?_)
  rintro r w2 ⟨rfl, hb2⟩
  clear xF31_0 xF31_1 xF31_2 xF31_3 xF31_4 xF31_5
  replace F3 := F3.keep hb2
  replace F7 := F7.keep hb2
  replace B0 := B0.trans (hb2.mono B0.size)
  clear hb2
  go_upto_if 28 with fail
  go_cut [6] (fun s6 wx => s6 = .bool false ∧ Below w.heap.size w wx)
  case first =>
    obtain ⟨xF72_0, xF72_1, xF72_2, xF72_3, xF72_4, xF72_5⟩ := F7.ce6
    go_wp2_with fail
    (with_reducible refine (l6none_yes _).mono ?_)
    rintro r w3 ⟨rfl, hb3⟩
    clear xF72_0 xF72_1 xF72_2 xF72_3 xF72_4 xF72_5
    clear F3
    replace F7 := F7.keep hb3
    replace B0 := B0.trans (hb3.mono B0.size)
    clear hb3
    go_wp2_with fail
    go_meet
    exact ⟨by first | rfl | simp, B0⟩
  case rest =>
    clear B0
    clear F3
    clear F7
    obtain ⟨rfl, B0⟩ := hcut
    generalize wc = v1 at *
    first
    | exact HR _ B0 _ _ _ _ _ _ _ _ _ _ _ _ _ _ _ _ _ _ _ _ _ _ _ _ _ _ _ _ _ _ _ _ _ _ _ _ _ _ _ _ _ _ _ _ _ _ _ _ _ _ _ _ _ _ _ _ _ _ _ _ _ _ _ _ _ _ _ _ _ _ _ _ _ _ _ _ _ _ _ _ _ _ _ _ _ _ _ _ _ _ _ _ _ _ _ _ _ _ _ _ _ _ _ _ _ _ _ _ _ _ _ _ _ _ _ _ _ _ _ _ _ _ _ _ _ _ _
    | (go_step
       first
     | exact HR _ B0 _ _ _ _ _ _ _ _ _ _ _ _ _ _ _ _ _ _ _ _ _ _ _ _ _ _ _ _ _ _ _ _ _ _ _ _ _ _ _ _ _ _ _ _ _ _ _ _ _ _ _ _ _ _ _ _ _ _ _ _ _ _ _ _ _ _ _ _ _ _ _ _ _ _ _ _ _ _ _ _ _ _ _ _ _ _ _ _ _ _ _ _ _ _ _ _ _ _ _ _ _ _ _ _ _ _ _ _ _ _ _ _ _ _ _ _ _ _ _ _ _ _ _ _ _ _ _
     | (go_step
        first
      | exact HR _ B0 _ _ _ _ _ _ _ _ _ _ _ _ _ _ _ _ _ _ _ _ _ _ _ _ _ _ _ _ _ _ _ _ _ _ _ _ _ _ _ _ _ _ _ _ _ _ _ _ _ _ _ _ _ _ _ _ _ _ _ _ _ _ _ _ _ _ _ _ _ _ _ _ _ _ _ _ _ _ _ _ _ _ _ _ _ _ _ _ _ _ _ _ _ _ _ _ _ _ _ _ _ _ _ _ _ _ _ _ _ _ _ _ _ _ _ _ _ _ _ _ _ _ _ _ _ _ _
      | (go_step
         first
       | exact HR _ B0 _ _ _ _ _ _ _ _ _ _ _ _ _ _ _ _ _ _ _ _ _ _ _ _ _ _ _ _ _ _ _ _ _ _ _ _ _ _ _ _ _ _ _ _ _ _ _ _ _ _ _ _ _ _ _ _ _ _ _ _ _ _ _ _ _ _ _ _ _ _ _ _ _ _ _ _ _ _ _ _ _ _ _ _ _ _ _ _ _ _ _ _ _ _ _ _ _ _ _ _ _ _ _ _ _ _ _ _ _ _ _ _ _ _ _ _ _ _ _ _ _ _ _ _ _ _ _
       | (go_step
          first
        | exact HR _ B0 _ _ _ _ _ _ _ _ _ _ _ _ _ _ _ _ _ _ _ _ _ _ _ _ _ _ _ _ _ _ _ _ _ _ _ _ _ _ _ _ _ _ _ _ _ _ _ _ _ _ _ _ _ _ _ _ _ _ _ _ _ _ _ _ _ _ _ _ _ _ _ _ _ _ _ _ _ _ _ _ _ _ _ _ _ _ _ _ _ _ _ _ _ _ _ _ _ _ _ _ _ _ _ _ _ _ _ _ _ _ _ _ _ _ _ _ _ _ _ _ _ _ _ _ _ _ _
        | (go_step
           first
         | exact HR _ B0 _ _ _ _ _ _ _ _ _ _ _ _ _ _ _ _ _ _ _ _ _ _ _ _ _ _ _ _ _ _ _ _ _ _ _ _ _ _ _ _ _ _ _ _ _ _ _ _ _ _ _ _ _ _ _ _ _ _ _ _ _ _ _ _ _ _ _ _ _ _ _ _ _ _ _ _ _ _ _ _ _ _ _ _ _ _ _ _ _ _ _ _ _ _ _ _ _ _ _ _ _ _ _ _ _ _ _ _ _ _ _ _ _ _ _ _ _ _ _ _ _ _ _ _ _ _ _
         | (go_step
            first
          | exact HR _ B0 _ _ _ _ _ _ _ _ _ _ _ _ _ _ _ _ _ _ _ _ _ _ _ _ _ _ _ _ _ _ _ _ _ _ _ _ _ _ _ _ _ _ _ _ _ _ _ _ _ _ _ _ _ _ _ _ _ _ _ _ _ _ _ _ _ _ _ _ _ _ _ _ _ _ _ _ _ _ _ _ _ _ _ _ _ _ _ _ _ _ _ _ _ _ _ _ _ _ _ _ _ _ _ _ _ _ _ _ _ _ _ _ _ _ _ _ _ _ _ _ _ _ _ _ _ _ _
          | (go_step
             first
           | exact HR _ B0 _ _ _ _ _ _ _ _ _ _ _ _ _ _ _ _ _ _ _ _ _ _ _ _ _ _ _ _ _ _ _ _ _ _ _ _ _ _ _ _ _ _ _ _ _ _ _ _ _ _ _ _ _ _ _ _ _ _ _ _ _ _ _ _ _ _ _ _ _ _ _ _ _ _ _ _ _ _ _ _ _ _ _ _ _ _ _ _ _ _ _ _ _ _ _ _ _ _ _ _ _ _ _ _ _ _ _ _ _ _ _ _ _ _ _ _ _ _ _ _ _ _ _ _ _ _ _
           | (go_step
              first
            | exact HR _ B0 _ _ _ _ _ _ _ _ _ _ _ _ _ _ _ _ _ _ _ _ _ _ _ _ _ _ _ _ _ _ _ _ _ _ _ _ _ _ _ _ _ _ _ _ _ _ _ _ _ _ _ _ _ _ _ _ _ _ _ _ _ _ _ _ _ _ _ _ _ _ _ _ _ _ _ _ _ _ _ _ _ _ _ _ _ _ _ _ _ _ _ _ _ _ _ _ _ _ _ _ _ _ _ _ _ _ _ _ _ _ _ _ _ _ _ _ _ _ _ _ _ _ _ _ _ _ _
            | (go_step
               first
             | exact HR _ B0 _ _ _ _ _ _ _ _ _ _ _ _ _ _ _ _ _ _ _ _ _ _ _ _ _ _ _ _ _ _ _ _ _ _ _ _ _ _ _ _ _ _ _ _ _ _ _ _ _ _ _ _ _ _ _ _ _ _ _ _ _ _ _ _ _ _ _ _ _ _ _ _ _ _ _ _ _ _ _ _ _ _ _ _ _ _ _ _ _ _ _ _ _ _ _ _ _ _ _ _ _ _ _ _ _ _ _ _ _ _ _ _ _ _ _ _ _ _ _ _ _ _ _ _ _ _ _
             | (go_step
                first
              | exact HR _ B0 _ _ _ _ _ _ _ _ _ _ _ _ _ _ _ _ _ _ _ _ _ _ _ _ _ _ _ _ _ _ _ _ _ _ _ _ _ _ _ _ _ _ _ _ _ _ _ _ _ _ _ _ _ _ _ _ _ _ _ _ _ _ _ _ _ _ _ _ _ _ _ _ _ _ _ _ _ _ _ _ _ _ _ _ _ _ _ _ _ _ _ _ _ _ _ _ _ _ _ _ _ _ _ _ _ _ _ _ _ _ _ _ _ _ _ _ _ _ _ _ _ _ _ _ _ _ _
              | (go_step
                 first
               | exact HR _ B0 _ _ _ _ _ _ _ _ _ _ _ _ _ _ _ _ _ _ _ _ _ _ _ _ _ _ _ _ _ _ _ _ _ _ _ _ _ _ _ _ _ _ _ _ _ _ _ _ _ _ _ _ _ _ _ _ _ _ _ _ _ _ _ _ _ _ _ _ _ _ _ _ _ _ _ _ _ _ _ _ _ _ _ _ _ _ _ _ _ _ _ _ _ _ _ _ _ _ _ _ _ _ _ _ _ _ _ _ _ _ _ _ _ _ _ _ _ _ _ _ _ _ _ _ _ _ _
               | (go_step
                  first
                | exact HR _ B0 _ _ _ _ _ _ _ _ _ _ _ _ _ _ _ _ _ _ _ _ _ _ _ _ _ _ _ _ _ _ _ _ _ _ _ _ _ _ _ _ _ _ _ _ _ _ _ _ _ _ _ _ _ _ _ _ _ _ _ _ _ _ _ _ _ _ _ _ _ _ _ _ _ _ _ _ _ _ _ _ _ _ _ _ _ _ _ _ _ _ _ _ _ _ _ _ _ _ _ _ _ _ _ _ _ _ _ _ _ _ _ _ _ _ _ _ _ _ _ _ _ _ _ _ _ _ _
                | (go_step
                   first
                 | exact HR _ B0 _ _ _ _ _ _ _ _ _ _ _ _ _ _ _ _ _ _ _ _ _ _ _ _ _ _ _ _ _ _ _ _ _ _ _ _ _ _ _ _ _ _ _ _ _ _ _ _ _ _ _ _ _ _ _ _ _ _ _ _ _ _ _ _ _ _ _ _ _ _ _ _ _ _ _ _ _ _ _ _ _ _ _ _ _ _ _ _ _ _ _ _ _ _ _ _ _ _ _ _ _ _ _ _ _ _ _ _ _ _ _ _ _ _ _ _ _ _ _ _ _ _ _ _ _ _ _
                 | (go_step
                    first
                  | exact HR _ B0 _ _ _ _ _ _ _ _ _ _ _ _ _ _ _ _ _ _ _ _ _ _ _ _ _ _ _ _ _ _ _ _ _ _ _ _ _ _ _ _ _ _ _ _ _ _ _ _ _ _ _ _ _ _ _ _ _ _ _ _ _ _ _ _ _ _ _ _ _ _ _ _ _ _ _ _ _ _ _ _ _ _ _ _ _ _ _ _ _ _ _ _ _ _ _ _ _ _ _ _ _ _ _ _ _ _ _ _ _ _ _ _ _ _ _ _ _ _ _ _ _ _ _ _ _ _ _
                  | (go_step
                     first
                   | exact HR _ B0 _ _ _ _ _ _ _ _ _ _ _ _ _ _ _ _ _ _ _ _ _ _ _ _ _ _ _ _ _ _ _ _ _ _ _ _ _ _ _ _ _ _ _ _ _ _ _ _ _ _ _ _ _ _ _ _ _ _ _ _ _ _ _ _ _ _ _ _ _ _ _ _ _ _ _ _ _ _ _ _ _ _ _ _ _ _ _ _ _ _ _ _ _ _ _ _ _ _ _ _ _ _ _ _ _ _ _ _ _ _ _ _ _ _ _ _ _ _ _ _ _ _ _ _ _ _ _
                   | (go_step
                      first
                    | exact HR _ B0 _ _ _ _ _ _ _ _ _ _ _ _ _ _ _ _ _ _ _ _ _ _ _ _ _ _ _ _ _ _ _ _ _ _ _ _ _ _ _ _ _ _ _ _ _ _ _ _ _ _ _ _ _ _ _ _ _ _ _ _ _ _ _ _ _ _ _ _ _ _ _ _ _ _ _ _ _ _ _ _ _ _ _ _ _ _ _ _ _ _ _ _ _ _ _ _ _ _ _ _ _ _ _ _ _ _ _ _ _ _ _ _ _ _ _ _ _ _ _ _ _ _ _ _ _ _ _
                    | (go_step
                       first
                     | exact HR _ B0 _ _ _ _ _ _ _ _ _ _ _ _ _ _ _ _ _ _ _ _ _ _ _ _ _ _ _ _ _ _ _ _ _ _ _ _ _ _ _ _ _ _ _ _ _ _ _ _ _ _ _ _ _ _ _ _ _ _ _ _ _ _ _ _ _ _ _ _ _ _ _ _ _ _ _ _ _ _ _ _ _ _ _ _ _ _ _ _ _ _ _ _ _ _ _ _ _ _ _ _ _ _ _ _ _ _ _ _ _ _ _ _ _ _ _ _ _ _ _ _ _ _ _ _ _ _ _
                     | (go_step
                        first
                      | exact HR _ B0 _ _ _ _ _ _ _ _ _ _ _ _ _ _ _ _ _ _ _ _ _ _ _ _ _ _ _ _ _ _ _ _ _ _ _ _ _ _ _ _ _ _ _ _ _ _ _ _ _ _ _ _ _ _ _ _ _ _ _ _ _ _ _ _ _ _ _ _ _ _ _ _ _ _ _ _ _ _ _ _ _ _ _ _ _ _ _ _ _ _ _ _ _ _ _ _ _ _ _ _ _ _ _ _ _ _ _ _ _ _ _ _ _ _ _ _ _ _ _ _ _ _ _ _ _ _ _
                      | (go_step
                         first
                       | exact HR _ B0 _ _ _ _ _ _ _ _ _ _ _ _ _ _ _ _ _ _ _ _ _ _ _ _ _ _ _ _ _ _ _ _ _ _ _ _ _ _ _ _ _ _ _ _ _ _ _ _ _ _ _ _ _ _ _ _ _ _ _ _ _ _ _ _ _ _ _ _ _ _ _ _ _ _ _ _ _ _ _ _ _ _ _ _ _ _ _ _ _ _ _ _ _ _ _ _ _ _ _ _ _ _ _ _ _ _ _ _ _ _ _ _ _ _ _ _ _ _ _ _ _ _ _ _ _ _ _
                       | (go_step
                          first
                        | exact HR _ B0 _ _ _ _ _ _ _ _ _ _ _ _ _ _ _ _ _ _ _ _ _ _ _ _ _ _ _ _ _ _ _ _ _ _ _ _ _ _ _ _ _ _ _ _ _ _ _ _ _ _ _ _ _ _ _ _ _ _ _ _ _ _ _ _ _ _ _ _ _ _ _ _ _ _ _ _ _ _ _ _ _ _ _ _ _ _ _ _ _ _ _ _ _ _ _ _ _ _ _ _ _ _ _ _ _ _ _ _ _ _ _ _ _ _ _ _ _ _ _ _ _ _ _ _ _ _ _
                        | (go_step
                           first
                         | exact HR _ B0 _ _ _ _ _ _ _ _ _ _ _ _ _ _ _ _ _ _ _ _ _ _ _ _ _ _ _ _ _ _ _ _ _ _ _ _ _ _ _ _ _ _ _ _ _ _ _ _ _ _ _ _ _ _ _ _ _ _ _ _ _ _ _ _ _ _ _ _ _ _ _ _ _ _ _ _ _ _ _ _ _ _ _ _ _ _ _ _ _ _ _ _ _ _ _ _ _ _ _ _ _ _ _ _ _ _ _ _ _ _ _ _ _ _ _ _ _ _ _ _ _ _ _ _ _ _ _
                         | (go_step
                            first
                          | exact HR _ B0 _ _ _ _ _ _ _ _ _ _ _ _ _ _ _ _ _ _ _ _ _ _ _ _ _ _ _ _ _ _ _ _ _ _ _ _ _ _ _ _ _ _ _ _ _ _ _ _ _ _ _ _ _ _ _ _ _ _ _ _ _ _ _ _ _ _ _ _ _ _ _ _ _ _ _ _ _ _ _ _ _ _ _ _ _ _ _ _ _ _ _ _ _ _ _ _ _ _ _ _ _ _ _ _ _ _ _ _ _ _ _ _ _ _ _ _ _ _ _ _ _ _ _ _ _ _ _
                          | (go_step
                             first
                           | exact HR _ B0 _ _ _ _ _ _ _ _ _ _ _ _ _ _ _ _ _ _ _ _ _ _ _ _ _ _ _ _ _ _ _ _ _ _ _ _ _ _ _ _ _ _ _ _ _ _ _ _ _ _ _ _ _ _ _ _ _ _ _ _ _ _ _ _ _ _ _ _ _ _ _ _ _ _ _ _ _ _ _ _ _ _ _ _ _ _ _ _ _ _ _ _ _ _ _ _ _ _ _ _ _ _ _ _ _ _ _ _ _ _ _ _ _ _ _ _ _ _ _ _ _ _ _ _ _ _ _
                           | (go_step
                              first
                            | exact HR _ B0 _ _ _ _ _ _ _ _ _ _ _ _ _ _ _ _ _ _ _ _ _ _ _ _ _ _ _ _ _ _ _ _ _ _ _ _ _ _ _ _ _ _ _ _ _ _ _ _ _ _ _ _ _ _ _ _ _ _ _ _ _ _ _ _ _ _ _ _ _ _ _ _ _ _ _ _ _ _ _ _ _ _ _ _ _ _ _ _ _ _ _ _ _ _ _ _ _ _ _ _ _ _ _ _ _ _ _ _ _ _ _ _ _ _ _ _ _ _ _ _ _ _ _ _ _ _ _
                            | (go_step
                               first
                             | exact HR _ B0 _ _ _ _ _ _ _ _ _ _ _ _ _ _ _ _ _ _ _ _ _ _ _ _ _ _ _ _ _ _ _ _ _ _ _ _ _ _ _ _ _ _ _ _ _ _ _ _ _ _ _ _ _ _ _ _ _ _ _ _ _ _ _ _ _ _ _ _ _ _ _ _ _ _ _ _ _ _ _ _ _ _ _ _ _ _ _ _ _ _ _ _ _ _ _ _ _ _ _ _ _ _ _ _ _ _ _ _ _ _ _ _ _ _ _ _ _ _ _ _ _ _ _ _ _ _ _
                             | (go_step
                                first
                              | exact HR _ B0 _ _ _ _ _ _ _ _ _ _ _ _ _ _ _ _ _ _ _ _ _ _ _ _ _ _ _ _ _ _ _ _ _ _ _ _ _ _ _ _ _ _ _ _ _ _ _ _ _ _ _ _ _ _ _ _ _ _ _ _ _ _ _ _ _ _ _ _ _ _ _ _ _ _ _ _ _ _ _ _ _ _ _ _ _ _ _ _ _ _ _ _ _ _ _ _ _ _ _ _ _ _ _ _ _ _ _ _ _ _ _ _ _ _ _ _ _ _ _ _ _ _ _ _ _ _ _
                              | (go_step
                                 first
                               | exact HR _ B0 _ _ _ _ _ _ _ _ _ _ _ _ _ _ _ _ _ _ _ _ _ _ _ _ _ _ _ _ _ _ _ _ _ _ _ _ _ _ _ _ _ _ _ _ _ _ _ _ _ _ _ _ _ _ _ _ _ _ _ _ _ _ _ _ _ _ _ _ _ _ _ _ _ _ _ _ _ _ _ _ _ _ _ _ _ _ _ _ _ _ _ _ _ _ _ _ _ _ _ _ _ _ _ _ _ _ _ _ _ _ _ _ _ _ _ _ _ _ _ _ _ _ _ _ _ _ _
                               | (go_step
                                  first
                                | exact HR _ B0 _ _ _ _ _ _ _ _ _ _ _ _ _ _ _ _ _ _ _ _ _ _ _ _ _ _ _ _ _ _ _ _ _ _ _ _ _ _ _ _ _ _ _ _ _ _ _ _ _ _ _ _ _ _ _ _ _ _ _ _ _ _ _ _ _ _ _ _ _ _ _ _ _ _ _ _ _ _ _ _ _ _ _ _ _ _ _ _ _ _ _ _ _ _ _ _ _ _ _ _ _ _ _ _ _ _ _ _ _ _ _ _ _ _ _ _ _ _ _ _ _ _ _ _ _ _ _
                                | (go_step
                                   first
                                 | exact HR _ B0 _ _ _ _ _ _ _ _ _ _ _ _ _ _ _ _ _ _ _ _ _ _ _ _ _ _ _ _ _ _ _ _ _ _ _ _ _ _ _ _ _ _ _ _ _ _ _ _ _ _ _ _ _ _ _ _ _ _ _ _ _ _ _ _ _ _ _ _ _ _ _ _ _ _ _ _ _ _ _ _ _ _ _ _ _ _ _ _ _ _ _ _ _ _ _ _ _ _ _ _ _ _ _ _ _ _ _ _ _ _ _ _ _ _ _ _ _ _ _ _ _ _ _ _ _ _ _
                                 | (go_step
                                    exact HR _ B0 _ _ _ _ _ _ _ _ _ _ _ _ _ _ _ _ _ _ _ _ _ _ _ _ _ _ _ _ _ _ _ _ _ _ _ _ _ _ _ _ _ _ _ _ _ _ _ _ _ _ _ _ _ _ _ _ _ _ _ _ _ _ _ _ _ _ _ _ _ _ _ _ _ _ _ _ _ _ _ _ _ _ _ _ _ _ _ _ _ _ _ _ _ _ _ _ _ _ _ _ _ _ _ _ _ _ _ _ _ _ _ _ _ _ _ _ _ _ _ _ _ _ _ _ _ _ _))))))))))))))))))))))))))))))

theorem gaussPowers_any (gn : Bool) (gS : ByteArray) (ge : Int) (gm : Bool) (gT : ByteArray) (gf : Int) (n0 : Int) (A : Option Addr) (n c : Nat) (G : Nat → GR) (w : World) (hT : Tab w) (hs : gS.size ≤ 9223372036854775807) (ht : gT.size ≤ 9223372036854775807) (_b1 : -9223372036854775808 ≤ n0) (_b2 : n0 ≤ 9223372036854775807) (hn : n ≤ 2199023255551) (h : Gss w A n G) (hf : ∀ i, i < n → (G i).fit) :
    Calls Tryd.prog 14 #[.agg #[.bool gn, .string gS, .int .i64 ge, .bool gm, .string gT, .int .i64 gf], .int .i64 n0, .slice A n c] w fun r w' => r = .returned (.bool true) ∧ Below w.heap.size w w' := by
  have HR : ∀ (v1 : World) (_B0 : Below w.heap.size w v1) (u0 u1 u3 u4 u5 u6 u7 u8 u9 u10 u11 u12 u13 u14 u15 u16 u17 u18 u19 u20 u21 u22 u23 u24 u25 u26 u27 u28 u29 u30 u31 u32 u33 u34 u35 u36 u37 u38 u39 u40 u41 u42 u43 u44 u45 u46 u47 u48 u49 u50 u51 u52 u53 u54 u55 u56 u57 u58 u59 u60 u61 u62 u63 u64 u65 u66 u67 u68 u69 u70 u71 u72 u73 u74 u75 u76 u77 u78 u79 u80 u81 u82 u83 u84 u85 u86 u87 u88 u89 u90 u91 u92 u93 u94 u95 u96 u97 u98 u99 u100 u101 u102 u103 u104 u105 u106 u107 u108 u109 u110 u111 u112 u113 u114 u115 u116 u117 u118 u119 u120 u121 u122 u123 u124 u125 u126 u127 : Value), Code.wp Tryd.prog (tailAt 8 (Tryd.f14.body.getD .skip)) (bodyPost Tryd.prog Tryd.f14 fun r w' => r = .returned (.bool true) ∧ Below w.heap.size w w') ⟨#[u0, u1, .slice A n c, u3, u4, u5, u6, u7, u8, u9, u10, u11, u12, u13, u14, u15, u16, u17, u18, u19, u20, u21, u22, u23, u24, u25, u26, u27, u28, u29, u30, u31, u32, u33, u34, u35, u36, u37, u38, u39, u40, u41, u42, u43, u44, u45, u46, u47, u48, u49, u50, u51, u52, u53, u54, u55, u56, u57, u58, u59, u60, u61, u62, u63, u64, u65, u66, u67, u68, u69, u70, u71, u72, u73, u74, u75, u76, u77, u78, u79, u80, u81, u82, u83, u84, u85, u86, u87, u88, u89, u90, u91, u92, u93, u94, u95, u96, u97, u98, u99, u100, u101, u102, u103, u104, u105, u106, u107, u108, u109, u110, u111, u112, u113, u114, u115, u116, u117, u118, u119, u120, u121, u122, u123, u124, u125, u126, u127], []⟩ v1 := by
    cases hb : allB n fun i => (G i).may
    · intro v1 B0
      exact powers_bad A n c G w hn h hf hb hT v1 B0
    · have hx : ∀ i, ∃ d : GY, i < n → G i = d.raw ∧ d.ok := fun i => by
        by_cases hi : i < n
        · obtain ⟨d, hd, hr⟩ := gy_of (show (G i).may = true from allB_get hb hi)
          exact ⟨d, fun _ => ⟨hr, hd⟩⟩
        · exact ⟨GY.zero, fun h => absurd h hi⟩
      obtain ⟨D, hD⟩ := Classical.axiomOfChoice hx
      intro v1 B0
      exact powers_good A n c G D w hn h (fun i hi => (hD i hi).1) (fun i hi => (hD i hi).2) hT v1 B0
  have hfit : GR.fit ⟨gn, gS, ge, gm, gT, gf⟩ := ⟨hs, ht⟩
  have hm := fun W => qmay_g ⟨gn, gS, ge, gm, gT, gf⟩ W hfit
  cases hy : GR.may ⟨gn, gS, ge, gm, gT, gf⟩
  · rw [hy] at hm
    exact powers_front0 gn gS ge gm gT gf n0 A n c w hT HR (fun W _ => gpow_bad ⟨gn, gS, ge, gm, gT, gf⟩ n0 W hfit hy) hm
  · rw [hy] at hm
    obtain ⟨a, ha, hr⟩ := gy_of hy
    injection hr with e1 e2 e3 e4 e5 e6
    subst e1; subst e2; subst e3; subst e4; subst e5; subst e6
    by_cases hi : 0 ≤ n0 ∧ n0 ≤ 64
    · obtain ⟨k, rfl⟩ : ∃ k : Nat, n0 = k := ⟨n0.toNat, by omega⟩
      exact powers_front1 _ _ _ _ _ _ _ A n c w _ _ _ _ _ _ _ hT HR (fun W hW => gpow_ok a k W ha (by omega) hW) hm (fun W => qpow_ok a k W ha (by omega))
    · exact powers_front1 _ _ _ _ _ _ _ A n c w _ _ _ _ _ _ _ hT HR (fun W _ => gpow_far a n0 W ha (by omega)) hm (fun W => qpow_far a n0 W ha (by omega))

end Go.Proofs.YtgcifpjhhoalmaaDoor
