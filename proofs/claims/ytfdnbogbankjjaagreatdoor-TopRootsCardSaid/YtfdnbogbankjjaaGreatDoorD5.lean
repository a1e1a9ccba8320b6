/- TopRoots' walk. (printed by gen_d5.py) -/
import Derived.Test.YtfdnbogbankjjaaGreatDoorD4
namespace Go.Proofs.YtfdnbogbankjjaaGreatDoor
open Go Go.RowKit Go.PlainAid Fil

/-- the parts that came in -/
def Spt (w : World) (A : Option Addr) (n : Nat) (U V : Nat → Int) : Prop := 0 < n → ∃ b o, A = some ⟨b, o, none⟩ ∧ b < w.heap.size ∧ ∀ i, i < n → w.cell? ⟨b, o + i * 2, none⟩ = some (.int .i64 (U i)) ∧ w.cell? ⟨b, o + i * 2 + 1, none⟩ = some (.int .i64 (V i))
theorem root_told {w : World} {b : Nat} {L : List (CV × Option BV)} (hc : L.countP (fun E => E.2.isSome) = L.length) (h : ∀ i (hi : i < L.length), RootAt w b i L[i]) (i : Nat) (hi : i < L.length) : ∃ x y p q t : Nat, El w b (i * 4) #[.complex .f64 x y, .bool true, .complex .f64 p q, .float .f64 t] := by
 have ha := List.countP_eq_length.1 hc _ (List.getElem_mem hi)
 obtain ⟨p, h1, _, _, h4⟩ := h i hi
 generalize L[i] = E at ha h4
 obtain ⟨Z, o⟩ := E
 cases o with
 | none => exact absurd ha (by simp)
 | some B =>
  have e5 : p.2.2.1 = true := h4.1
  rw [e5] at h1
  exact ⟨_, _, _, _, _, h1⟩
/-- the first run's roots are told -/
theorem root3 {w : World} {b : Nat} (h : ∀ i (hi : i < (saF P3 (itF P3 64) 2).1.length), RootAt w b i (saF P3 (itF P3 64) 2).1[i]) (i : Nat) (hi : i < 2) : ∃ x y p q t : Nat, El w b (i * 4) #[.complex .f64 x y, .bool true, .complex .f64 p q, .float .f64 t] := by
 have hl : (saF P3 (itF P3 64) 2).1.length = 2 := saF_len _ _ _
 exact root_told (by rw [saF_count, run3, hl]) h i (by omega)
set_option maxRecDepth 100000 in
set_option maxHeartbeats 8000000 in
theorem topRoots_any {A : Option Addr} {n c : Nat} {U V : Nat → Int} (w : World) (hT : Tab64 w) (hS : Spt w A n U V) (hU : ∀ j, j < n → (-9223372036854775808 ≤ U j ∧ U j ≤ 9223372036854775807) ∧ (-9223372036854775808 ≤ V j ∧ V j ≤ 9223372036854775807)) :
  Calls Tryz.prog 3 #[.slice A n c] w fun r w' => r = .returned (.bool true) ∧ Below w.heap.size w w' := by
 obtain ⟨iG, hiG, hpG⟩ := Option.map_eq_some_iff.1 Tryz.infoGs
 have zG0 : iG.zero = some (.agg #[.bool false, .string { data := #[] }, .int .i64 0, .bool false, .string { data := #[] }, .int .i64 0]) := congrArg Prod.fst hpG
 have zG1 : iG.size = 6 := congrArg (fun q => q.2.1) hpG
 have zG2 : iG.bytes = 64 := congrArg (fun q => q.2.2) hpG
 clear hpG
 have HI := Lib.hid (And.intro hT (And.intro hS hU))
 have B0 := Below.refl w.heap.size w
 have F27 := Blk.put w #[.complex .f64 13830554455654793216 0, .complex .f64 0 0, .complex .f64 4607182418800017408 0] 27
 have hal := (Below.refl w.heap.size w).alloc (Nat.le_refl _) (.cells #[.complex .f64 13830554455654793216 0, .complex .f64 0 0, .complex .f64 4607182418800017408 0] 27)
 have hA1 := c_rtAll _ (pl3 F27 (Nat.le_refl _)) gp3 (by decide) (start_rfin P3) (hT.below hal)
 rw [show P3.length = 3 from rfl, run3] at hA1
 clear hT hS hU F27
 go_enter Tryz.func3, Tryz.ntmps3
 go_wp2_with fail
 refine hA1.mono ?_
 rintro r w1 ⟨⟨v3, rfl, hR⟩, hbb⟩
 replace B0 := (B0.trans hal).trans (hbb.mono hal.size)
 clear hbb hA1 hal
 obtain ⟨a3, c3, rfl, hc3, hm3⟩ := hR.slc
 rw [saF_len] at hc3 ⊢
 obtain ⟨b3, rfl, _, hb3, hat⟩ := hR.get (by rw [saF_len]; omega)
 obtain ⟨x0, y0, p0, q0, t0, E0⟩ := root3 hat 0 (by omega)
 obtain ⟨x1, y1, p1, q1, t1, E1⟩ := root3 hat 1 (by omega)
 clear hat hR
 obtain ⟨e00, e01, e02, e03⟩ := E0.ce4
 obtain ⟨e10, e11, e12, e13⟩ := E1.ce4
 by_cases hn1 : n < 1
 ·have hn1' : (n : Int) < 1 := by omega
  go_wp2
  go_ret
  exact ⟨rfl, B0⟩
 by_cases hn8 : 8 < n
 ·have hn1' : ¬ (n : Int) < 1 := by omega
  have hn8' : (8 : Int) < (n : Int) := by omega
  go_wp2
  go_ret
  exact ⟨rfl, B0⟩
 have hn1' : ¬ (n : Int) < 1 := by omega
 have hn8' : ¬ (8 : Int) < (n : Int) := by omega
 clear e00 e02 e03 e10 e12 e13
 have HB := Lib.hid B0
 have B1 := Below.refl w1.heap.size w1
 clear B0
 obtain ⟨bs, os, rfl, hbs, hsp⟩ := HI.out.2.1 (by omega)
 have HSP := Lib.hid hsp
 clear hsp
 go_wp2
 go_loopg [6, 7] n (fun g s6 s7 wr => ∃ i : Nat, i ≤ n ∧ g = n - i ∧ s7 = .int .i64 i ∧ KS w1.heap.size wr s6 (knL U V i) ∧ Below w1.heap.size w1 wr)
 case atStart => exact ⟨0, by omega, by omega, rfl, KS.nil _ _, B1⟩
 case round =>
  clear B1 E0 E1 e01 e11
  obtain ⟨i, hi, hg, rfl, hks, B1⟩ := hrel
  by_cases hin : i < n
  ·have hin2 : (i : Int) < (n : Int) := by omega
   obtain ⟨hUi, hVi⟩ := HI.out.2.2 i hin
   have hcU := below_cell HB.out (HSP.out i hin).1
   have hcV := below_cell HB.out (HSP.out i hin).2
   have HG := Lib.hid hg
   have hcV1 := below_cell (B1.mono (Nat.le_refl _)) hcV
   have hcU1 := below_cell (B1.mono (Nat.le_refl _)) hcU
   clear hg hcU hcV
   have hofU := fun W => c_ofFive (U i) W hUi.1 hUi.2
   have hofV := fun W => c_ofFive (V i) W hVi.1 hVi.2
   obtain ⟨mu, emu⟩ : ∃ m, m = mkD (U i) (-5) := ⟨_, rfl⟩
   obtain ⟨mv, emv⟩ : ∃ m, m = mkD (V i) (-5) := ⟨_, rfl⟩
   rw [← emu] at hofU
   rw [← emv] at hofV
   have HM := Lib.hid (And.intro emu emv)
   clear emu emv hUi hVi
   go_wp2_with fail
   refine (hofU _).mono ?_
   rintro r w2 ⟨rfl, hbb⟩
   have hcV2 := below_cell hbb hcV1
   replace hks := hks.keep hbb
   replace B1 := B1.trans (hbb.mono B1.size)
   clear hbb hcV1 hcU1
   have F8 := Blk.put w2 #[.bool mu.n, .string (bstr mu.x), .int .i64 mu.e] 38
   have hal := (Below.refl w2.heap.size w2).alloc (Nat.le_refl _) (.cells #[.bool mu.n, .string (bstr mu.x), .int .i64 mu.e] 38)
   have hcV3 := below_cell hal hcV2
   replace hks := hks.keep hal
   replace B1 := B1.trans (hal.mono B1.size)
   clear hal hcV2
   go_wp2_with fail
   refine (hofV _).mono ?_
   rintro r w3 ⟨rfl, hbb⟩
   replace hks := hks.keep hbb
   replace F8 := F8.keep hbb
   replace B1 := B1.trans (hbb.mono B1.size)
   clear hbb hcV3 hofU hofV
   have hbz3 := B1.size
   have F10 := Blk.put w3 #[.bool mv.n, .string (bstr mv.x), .int .i64 mv.e] 38
   have hal := (Below.refl w3.heap.size w3).alloc (Nat.le_refl _) (.cells #[.bool mv.n, .string (bstr mv.x), .int .i64 mv.e] 38)
   replace hks := hks.keep hal
   replace F8 := F8.allocd (.cells #[.bool mv.n, .string (bstr mv.x), .int .i64 mv.e] 38)
   replace B1 := B1.trans (hal.mono B1.size)
   clear hal
   obtain ⟨f80, f81, f82⟩ := F8.ce3
   obtain ⟨f100, f101, f102⟩ := F10.ce3
   have hown := hks
   unfold KS at hown
   rw [knL_len] at hown
   have hbz := B1.size
   clear hks F8 F10
   go_wp2_with (at_builtin; refine wpList_append_own _ rfl _ _ 35 rfl w1.heap.size 44 iG (.agg #[.bool false, .string { data := #[] }, .int .i64 0, .bool false, .string { data := #[] }, .int .i64 0]) 6 64 Tryz.underlying35 hiG zG0 zG1 zG2 rfl (by decide) _ _ _ rfl (by exact hown.alloc _) ⟨w3.heap.size + 1, 0, none⟩ 1 1 [.bool mu.n, .string (bstr mu.x), .int .i64 mu.e, .bool mv.n, .string (bstr mv.x), .int .i64 mv.e] rfl rfl ?c1 ?c2 ?c3 ?c4 ?c5 ?_)
   case c1 =>
    intro j u hj
    match j, hj with
    | 0, hj => simp at hj; subst hj; simp [Addr.add]
    | 1, hj => simp at hj; subst hj; simp [Addr.add]
    | 2, hj => simp at hj; subst hj; simp [Addr.add]
    | 3, hj => simp at hj; subst hj; simp [Addr.add]
    | 4, hj => simp at hj; subst hj; simp [Addr.add]
    | 5, hj => simp at hj; subst hj; simp [Addr.add]
   case c2 => intro u hu; simp at hu; rcases hu with rfl | rfl | rfl | rfl | rfl | rfl <;> rfl
   case c3 => unfold maxLen; omega
   case c4 => omega
   case c5 => simp; omega
   ·intro v' w9 hown' hgrow _
    have hb9 := (B1.alloc hbz (Obj.cells #[.bool mu.n, .string (bstr mu.x), .int .i64 mu.e, .bool mv.n, .string (bstr mv.x), .int .i64 mv.e] 44)).grown hgrow (by simp; omega) (fun k hk => (hown.lt k hk).1)
    have hq : KS w1.heap.size w9 v' (knL U V (i + 1)) := by
     rw [knL_succ, ← HM.out.1, ← HM.out.2]
     exact KS.push (by rw [knL_len]; exact hown')
    clear hown hown' hgrow
    go_wp2
    go_roundg (n - (i + 1))
    case measure => have := HG.out; omega
    case rel => exact ⟨i + 1, by omega, rfl, by go_num, hq, hb9⟩
  ·obtain rfl : n = i := by omega
   obtain ⟨b0, c0, rfl, hc0, hz⟩ := hks.row (by rw [knL_len]; omega)
   have hpr := c_product _ hz (fun g hg => (knL_kn HI.out.2.2 g hg).1) (by rw [knL_len]; omega) (by rw [knL_len]; omega) hc0
   rw [knL_len] at hpr hc0 ⊢
   have B2 := HB.out.trans (B1.mono HB.out.size)
   obtain ⟨K, hK⟩ : ∃ K, K = knL U V n := ⟨_, rfl⟩
   rw [← hK] at hz hpr
   have hKl : K.length = n := by rw [hK]; exact knL_len _ _ _
   have hKk : ∀ g ∈ K, Kn g := by rw [hK]; exact knL_kn HI.out.2.2
   have HKK := Lib.hid (And.intro hKl hKk)
   clear B1 hks hK hg hi hin
   go_wp2_with fail
   refine hpr.mono ?_
   rintro r w4 ⟨⟨v12, ok, rfl, hPR⟩, hbb⟩
   replace hz := hz.keep hbb
   replace B2 := B2.trans (hbb.mono B2.size)
   clear hbb hpr
   cases ok
   ·clear hPR
    go_wp2
    go_ret
    exact ⟨rfl, B2⟩
   ·obtain ⟨hco, C, hpl, hCl, hC⟩ := hPR rfl
    obtain ⟨G, hTold⟩ := told_all (K := K) (s := (flY 4607182418800017408, flY 0)) ⟨flY_ok _, flY_ok _⟩ one_v (fun g hg => (hKk g hg).1) (by omega) (by omega) (by rw [hKl]; exact hco) (by rw [hKl]; exact hCl) (by rw [hKl]; exact hC)
    rw [hKl] at hTold
    have hA := c_rtAll _ hpl G (by omega) (start_rfin C) (HI.out.1.below B2)
    rw [show C.length - 1 = n by omega] at hA
    have hcnt := saF_count C (itF C 64) n
    generalize saF C (itF C 64) n = S at *
    obtain ⟨E, T⟩ := S
    clear hco hpl hCl hC G hKl hKk hPR
    go_wp2_with fail
    refine hA.mono ?_
    rintro r w5 ⟨⟨v5, rfl, hR⟩, hbb⟩
    replace hz := hz.keep hbb
    replace B2 := B2.trans (hbb.mono B2.size)
    clear hbb hA
    obtain ⟨a5, c5, rfl, hc5, hm5⟩ := hR.slc
    have hEl : E.length = n := hTold.len.trans HKK.out.1
    obtain ⟨b5, rfl, _, hb5, hat⟩ := hR.get (by show 0 < E.length; omega)
    rw [show (E, T).1.length = n from hEl] at hc5 ⊢
    have HAT := Lib.hid (show ∀ i (hi : i < E.length), RootAt w5 b5 i E[i] from hat)
    have HKZ := Lib.hid (And.intro HKK.out.1 (And.intro HKK.out.2 hz))
    have HTO := Lib.hid (And.intro hTold (And.intro hEl (show E.countP (fun E => E.2.isSome) = T.length from hcnt)))
    have HB2 := Lib.hid B2
    have B1 := Below.refl w5.heap.size w5
    obtain ⟨m, hm⟩ : ∃ m, m = T.length := ⟨_, rfl⟩
    rw [show (E, T).2.length = m from hm.symm]
    have HM := Lib.hid hm
    clear hat hz hTold hEl hcnt B2 HKK hR hm
    go_wp2
    go_loopg [14, 15] n (fun g s14 s15 wr => ∃ i m : Nat, i ≤ n ∧ g = n - i ∧ s15 = .int .i64 i ∧ s14 = .int .i64 m ∧ m = (E.take i).countP (fun E => E.2.isSome) ∧ Below w5.heap.size w5 wr)
    case atStart => exact ⟨0, 0, by omega, by omega, rfl, rfl, by simp, B1⟩
    case round =>
     clear B1
     obtain ⟨i, m', hi, hg, rfl, rfl, hcm, B1⟩ := hrel
     obtain ⟨wl, rfl⟩ : ∃ q : World, q = wr := ⟨_, rfl⟩
     by_cases hin : i < n
     ·have hEi : i < E.length := by rw [HTO.out.2.1]; exact hin
      have hmi : m' ≤ i := by rw [hcm]; exact Nat.le_trans List.countP_le_length (by rw [List.length_take]; omega)
      have hin2 : (i : Int) < (n : Int) := by omega
      have HG := Lib.hid (And.intro hg hcm)
      clear hg hcm
      cases hE : E[i].2 with
      | none =>
       obtain ⟨x, y, u, v, t, RI⟩ := ((HAT.out i hEi).keep B1).no hE
       obtain ⟨e0, e1, e2, e3⟩ := RI.ce4
       go_wp2
       go_roundg (n - (i + 1))
       case measure => have := HG.out.1; omega
       case rel => exact ⟨i + 1, m', by omega, rfl, by go_num, rfl, by rw [count_step hEi, hE, ← HG.out.2]; simp, B1⟩
      | some b =>
       obtain ⟨u, v, t, gb, hone⟩ := HTO.out.1.one i hEi b hE
       obtain ⟨x, y, RI⟩ := ((HAT.out i hEi).keep B1).yes hE gb
       obtain ⟨e0, e1, e2, e3⟩ := RI.ce4
       have HRI := Lib.hid RI
       have HE := Lib.hid (And.intro hE hone)
       have B0 := Below.refl wl.heap.size wl
       clear hE hone RI
       go_wp2
       clear e0 e1 e2 e3
       go_loopg [16, 17] n (fun g s16 s17 wr => ∃ k l : Nat, k ≤ n ∧ g = n - k ∧ s17 = .int .i64 k ∧ s16 = .int .i64 l ∧ l = (K.take k).countP (Hb u v t) ∧ Below wl.heap.size wl wr)
       case atStart => exact ⟨0, 0, by omega, by omega, rfl, rfl, by simp, B0⟩
       case round =>
        clear B0
        obtain ⟨k, l, hk, hg, rfl, rfl, hcl, B0⟩ := hrel
        by_cases hkn : k < n
        ·have hlk : l ≤ k := by rw [hcl]; exact Nat.le_trans List.countP_le_length (by rw [List.length_take]; omega)
         have hkn2 : (k : Int) < (n : Int) := by omega
         obtain ⟨kr, ki, hkk⟩ : ∃ kr ki, (kr, ki) = K.getD k ZZ := ⟨_, _, rfl⟩
         have hmem : (kr, ki) ∈ K := by rw [hkk]; exact getD_mem (by rw [HKZ.out.1]; omega)
         have hKn : Kn (kr, ki) := HKZ.out.2.1 _ hmem
         have KK := ((HKZ.out.2.2.keep B1).keep B0).get' k (by rw [HKZ.out.1]; omega) hkk
         have RI := HRI.out.keep B0
         have hHI := fun W => c_holdsB (k := (kr, ki)) W gb hKn
         obtain ⟨hI, ehI⟩ : ∃ h, h = Hb u v t (kr, ki) := ⟨_, rfl⟩
         rw [← ehI] at hHI
         dsimp only at hHI

         have hst : (K.take (k + 1)).countP (Hb u v t) = l + (if hI then 1 else 0) := by
          rw [count_step (by rw [HKZ.out.1]; exact hkn), ← hcl, ehI, hkk]
          simp [List.getD, List.getElem?_eq_getElem (show k < K.length by rw [HKZ.out.1]; exact hkn)]
         have HJ := Lib.hid (And.intro hg hst)
         clear hg hcl hst hmem hkk ehI
         go_wp2_with fail
         refine wp_region_any (by kernel_rfl) ?_
         obtain ⟨xRI81_0, xRI81_1, xRI81_2, xRI81_3⟩ := RI.ce4
         obtain ⟨xKK81_0, xKK81_1, xKK81_2, xKK81_3, xKK81_4, xKK81_5⟩ := KK.ce6
         have hHeld : (fun w' : World => w'.cell? ⟨b5, i * 4, none⟩ = some (.complex .f64 x y) ∧ w'.cell? ⟨b5, i * 4 + 1, none⟩ = some (.bool true) ∧ w'.cell? ⟨b5, i * 4 + 2, none⟩ = some (.complex .f64 u v) ∧ w'.cell? ⟨b5, i * 4 + 3, none⟩ = some (.float .f64 t) ∧ w'.cell? ⟨b0, k * 6, none⟩ = some (.bool kr.n) ∧ w'.cell? ⟨b0, k * 6 + 1, none⟩ = some (.string (bstr kr.x)) ∧ w'.cell? ⟨b0, k * 6 + 2, none⟩ = some (.int .i64 kr.e) ∧ w'.cell? ⟨b0, k * 6 + 3, none⟩ = some (.bool ki.n) ∧ w'.cell? ⟨b0, k * 6 + 4, none⟩ = some (.string (bstr ki.x)) ∧ w'.cell? ⟨b0, k * 6 + 5, none⟩ = some (.int .i64 ki.e)) (wr).drew := ⟨xRI81_0, xRI81_1, xRI81_2, xRI81_3, xKK81_0, xKK81_1, xKK81_2, xKK81_3, xKK81_4, xKK81_5⟩
         refine wpAny_of_held (S := fun w' : World => w'.cell? ⟨b5, i * 4, none⟩ = some (.complex .f64 x y) ∧ w'.cell? ⟨b5, i * 4 + 1, none⟩ = some (.bool true) ∧ w'.cell? ⟨b5, i * 4 + 2, none⟩ = some (.complex .f64 u v) ∧ w'.cell? ⟨b5, i * 4 + 3, none⟩ = some (.float .f64 t) ∧ w'.cell? ⟨b0, k * 6, none⟩ = some (.bool kr.n) ∧ w'.cell? ⟨b0, k * 6 + 1, none⟩ = some (.string (bstr kr.x)) ∧ w'.cell? ⟨b0, k * 6 + 2, none⟩ = some (.int .i64 kr.e) ∧ w'.cell? ⟨b0, k * 6 + 3, none⟩ = some (.bool ki.n) ∧ w'.cell? ⟨b0, k * 6 + 4, none⟩ = some (.string (bstr ki.x)) ∧ w'.cell? ⟨b0, k * 6 + 5, none⟩ = some (.int .i64 ki.e)) _ _ _ (wr).drew ?_
         replace RI := RI.drew
         replace KK := KK.drew
         replace B0 := B0.drew
         generalize (wr).drew = v1 at *
         refine tkA 0 ?_
         (try dsimp only [Act.put]); (try go_frame)
         refine tkA 1 ?_
         (try dsimp only [Act.put]); (try go_frame)
         refine tkA 2 ?_
         (try dsimp only [Act.put]); (try go_frame)
         refine tkA 3 ?_
         (try dsimp only [Act.put]); (try go_frame)
         refine tkA 4 ?_
         (try dsimp only [Act.put]); (try go_frame)
         refine tkA 5 ?_
         (try dsimp only [Act.put]); (try go_frame)
         refine tkA 6 ?_
         (try dsimp only [Act.put]); (try go_frame)
         refine tkA 7 ?_
         (try dsimp only [Act.put]); (try go_frame)
         refine tkA 8 ?_
         (try dsimp only [Act.put]); (try go_frame)
         refine wpAnyH_ready (rs := [9]) (by kernel_rfl) (by simp) ?_
         refine AllReadyH.cons rfl (fun K hK => ?_) AllReadyH.nil
         go_simp
         (with_reducible refine (hHI _).mono ?_)
         rintro r w32 ⟨rfl, hb32⟩
         clear xRI81_0 xRI81_1 xRI81_2 xRI81_3 xKK81_0 xKK81_1 xKK81_2 xKK81_3 xKK81_4 xKK81_5
         replace RI := RI.keep hb32
         replace KK := KK.keep hb32
         replace B0 := B0.trans (hb32.mono B0.size)
         clear hb32
         obtain ⟨xRI84_0, xRI84_1, xRI84_2, xRI84_3⟩ := RI.ce4
         obtain ⟨xKK84_0, xKK84_1, xKK84_2, xKK84_3, xKK84_4, xKK84_5⟩ := KK.ce6
         refine hK.out _ _ ?_ (fun hHeld => ?_)
         ·exact ⟨xRI84_0, xRI84_1, xRI84_2, xRI84_3, xKK84_0, xKK84_1, xKK84_2, xKK84_3, xKK84_4, xKK84_5⟩
         clear hK K
         (try dsimp only [Act.put]); (try go_frame)
         refine tkA 10 ?_
         (try dsimp only [Act.put]); (try go_frame)
         refine tkA 11 ?_
         (try dsimp only [Act.put]); (try go_frame)
         refine tkA 12 ?_
         (try dsimp only [Act.put]); (try go_frame)
         refine tkA 13 ?_
         (try dsimp only [Act.put]); (try go_frame)
         refine tkA 14 ?_
         (try dsimp only [Act.put]); (try go_frame)
         refine wpAnyH_done (by kernel_rfl) ?_ _
         try simp only [QCut]
         clear hHeld
         clear xRI84_0 xRI84_1 xRI84_2 xRI84_3 xKK84_0 xKK84_1 xKK84_2 xKK84_3 xKK84_4 xKK84_5
         cases hI
         ·go_wp2
          go_roundg (n - (k + 1))
          case measure => have := HJ.out.1; omega
          case rel => exact ⟨k + 1, l, by omega, rfl, by go_num, rfl, by rw [HJ.out.2]; simp, B0⟩
         ·go_wp2
          go_roundg (n - (k + 1))
          case measure => have := HJ.out.1; omega
          case rel => exact ⟨k + 1, l + 1, by omega, rfl, by go_num, by go_num, by rw [HJ.out.2]; simp, B0⟩
        ·obtain rfl : n = k := by omega
         have hl1 : l = 1 := by rw [hcl, ← HKZ.out.1, List.take_length]; exact HE.out.2
         subst hl1
         clear hg hcl
         go_wp2
         go_loopg [20] i (fun g s20 wr => ∃ k : Nat, k ≤ i ∧ g = i - k ∧ s20 = .int .i64 k ∧ Below wl.heap.size wl wr)
         case atStart => exact ⟨0, by omega, by omega, rfl, B0⟩
         case round =>
          clear B0
          obtain ⟨k, hk, hg, rfl, B0⟩ := hrel
          by_cases hki : k < i
          ·have hki2 : (k : Int) < (i : Int) := by omega
           have hEk : k < E.length := by rw [HTO.out.2.1]; omega
           have hkn2 : (k : Int) < (n : Int) := by omega
           have HJ := Lib.hid hg
           clear hg
           go_wp2
           go_loopg [21] n (fun g s21 wr => ∃ j : Nat, j ≤ n ∧ g = n - j ∧ s21 = .int .i64 j ∧ Below wl.heap.size wl wr)
           case atStart => exact ⟨0, by omega, by omega, rfl, B0⟩
           case round =>
            clear B0
            obtain ⟨j, hj, hg, rfl, B0⟩ := hrel
            by_cases hjn : j < n
            ·have hjn2 : (j : Int) < (n : Int) := by omega
             have HL := Lib.hid hg
             clear hg
             cases hEK : E[k].2 with
             | none =>
              obtain ⟨xk, yk, p, q, s, RK⟩ := (((HAT.out k hEk).keep B1).keep B0).no hEK
              obtain ⟨e0, e1, e2, e3⟩ := RK.ce4
              go_wp2
              go_roundg (i - (k + 1))
              case measure => have := HJ.out; omega
              case rel => exact ⟨k + 1, by omega, rfl, by go_num, B0⟩
             | some b' =>
              obtain ⟨p, q, s, gk', _⟩ := HTO.out.1.one k hEk b' hEK
              obtain ⟨xk, yk, RK⟩ := (((HAT.out k hEk).keep B1).keep B0).yes hEK gk'
              obtain ⟨kr, ki, hkk⟩ : ∃ kr ki, (kr, ki) = K.getD j ZZ := ⟨_, _, rfl⟩
              have hmem : (kr, ki) ∈ K := by rw [hkk]; exact getD_mem (by rw [HKZ.out.1]; omega)
              have hKn : Kn (kr, ki) := HKZ.out.2.1 _ hmem
              have KK := ((HKZ.out.2.2.keep B1).keep B0).get' j (by rw [HKZ.out.1]; omega) hkk
              have RI := HRI.out.keep B0
              have hHI := fun W => c_holdsB (k := (kr, ki)) W gb hKn
              obtain ⟨hI, ehI⟩ : ∃ h, h = Hb u v t (kr, ki) := ⟨_, rfl⟩
              rw [← ehI] at hHI
              dsimp only at hHI

              have hHK := fun W => c_holdsB (k := (kr, ki)) W gk' hKn
              obtain ⟨hJ, ehJ⟩ : ∃ h, h = Hb p q s (kr, ki) := ⟨_, rfl⟩
              rw [← ehJ] at hHK
              dsimp only at hHK
              have hno : ¬ (hI = true ∧ hJ = true) := by
               rw [ehI, ehJ]
               exact HTO.out.1.apart i k hEi hEk b b' hki HE.out.1 hEK u v t p q s gb gk' _ hmem
              clear hEK hmem hkk ehI ehJ
              obtain ⟨e0, e1, e2, e3⟩ := RK.ce4
              go_wp2_with fail
              clear e0 e1 e2 e3
              go_wp2_with fail
              refine wp_region_any (by kernel_rfl) ?_
              obtain ⟨xRI90_0, xRI90_1, xRI90_2, xRI90_3⟩ := RI.ce4
              obtain ⟨xKK90_0, xKK90_1, xKK90_2, xKK90_3, xKK90_4, xKK90_5⟩ := KK.ce6
              have hHeld : (fun w' : World => w'.cell? ⟨b5, i * 4, none⟩ = some (.complex .f64 x y) ∧ w'.cell? ⟨b5, i * 4 + 1, none⟩ = some (.bool true) ∧ w'.cell? ⟨b5, i * 4 + 2, none⟩ = some (.complex .f64 u v) ∧ w'.cell? ⟨b5, i * 4 + 3, none⟩ = some (.float .f64 t) ∧ w'.cell? ⟨b0, j * 6, none⟩ = some (.bool kr.n) ∧ w'.cell? ⟨b0, j * 6 + 1, none⟩ = some (.string (bstr kr.x)) ∧ w'.cell? ⟨b0, j * 6 + 2, none⟩ = some (.int .i64 kr.e) ∧ w'.cell? ⟨b0, j * 6 + 3, none⟩ = some (.bool ki.n) ∧ w'.cell? ⟨b0, j * 6 + 4, none⟩ = some (.string (bstr ki.x)) ∧ w'.cell? ⟨b0, j * 6 + 5, none⟩ = some (.int .i64 ki.e)) (wr).drew := ⟨xRI90_0, xRI90_1, xRI90_2, xRI90_3, xKK90_0, xKK90_1, xKK90_2, xKK90_3, xKK90_4, xKK90_5⟩
              refine wpAny_of_held (S := fun w' : World => w'.cell? ⟨b5, i * 4, none⟩ = some (.complex .f64 x y) ∧ w'.cell? ⟨b5, i * 4 + 1, none⟩ = some (.bool true) ∧ w'.cell? ⟨b5, i * 4 + 2, none⟩ = some (.complex .f64 u v) ∧ w'.cell? ⟨b5, i * 4 + 3, none⟩ = some (.float .f64 t) ∧ w'.cell? ⟨b0, j * 6, none⟩ = some (.bool kr.n) ∧ w'.cell? ⟨b0, j * 6 + 1, none⟩ = some (.string (bstr kr.x)) ∧ w'.cell? ⟨b0, j * 6 + 2, none⟩ = some (.int .i64 kr.e) ∧ w'.cell? ⟨b0, j * 6 + 3, none⟩ = some (.bool ki.n) ∧ w'.cell? ⟨b0, j * 6 + 4, none⟩ = some (.string (bstr ki.x)) ∧ w'.cell? ⟨b0, j * 6 + 5, none⟩ = some (.int .i64 ki.e)) _ _ _ (wr).drew ?_
              replace RI := RI.drew
              replace RK := RK.drew
              replace KK := KK.drew
              replace B0 := B0.drew
              generalize (wr).drew = v1 at *
              refine tkA 0 ?_
              (try dsimp only [Act.put]); (try go_frame)
              refine tkA 1 ?_
              (try dsimp only [Act.put]); (try go_frame)
              refine tkA 2 ?_
              (try dsimp only [Act.put]); (try go_frame)
              refine tkA 3 ?_
              (try dsimp only [Act.put]); (try go_frame)
              refine tkA 4 ?_
              (try dsimp only [Act.put]); (try go_frame)
              refine tkA 5 ?_
              (try dsimp only [Act.put]); (try go_frame)
              refine tkA 6 ?_
              (try dsimp only [Act.put]); (try go_frame)
              refine tkA 7 ?_
              (try dsimp only [Act.put]); (try go_frame)
              refine tkA 8 ?_
              (try dsimp only [Act.put]); (try go_frame)
              refine wpAnyH_ready (rs := [9]) (by kernel_rfl) (by simp) ?_
              refine AllReadyH.cons rfl (fun K hK => ?_) AllReadyH.nil
              go_simp
              (with_reducible refine (hHI _).mono ?_)
              rintro r w45 ⟨rfl, hb45⟩
              clear xRI90_0 xRI90_1 xRI90_2 xRI90_3 xKK90_0 xKK90_1 xKK90_2 xKK90_3 xKK90_4 xKK90_5
              replace RI := RI.keep hb45
              replace RK := RK.keep hb45
              replace KK := KK.keep hb45
              replace B0 := B0.trans (hb45.mono B0.size)
              clear hb45
              obtain ⟨xRI93_0, xRI93_1, xRI93_2, xRI93_3⟩ := RI.ce4
              obtain ⟨xKK93_0, xKK93_1, xKK93_2, xKK93_3, xKK93_4, xKK93_5⟩ := KK.ce6
              refine hK.out _ _ ?_ (fun hHeld => ?_)
              ·exact ⟨xRI93_0, xRI93_1, xRI93_2, xRI93_3, xKK93_0, xKK93_1, xKK93_2, xKK93_3, xKK93_4, xKK93_5⟩
              clear hK K
              (try dsimp only [Act.put]); (try go_frame)
              refine tkA 10 ?_
              (try dsimp only [Act.put]); (try go_frame)
              refine tkA 11 ?_
              (try dsimp only [Act.put]); (try go_frame)
              refine tkA 12 ?_
              (try dsimp only [Act.put]); (try go_frame)
              refine tkA 13 ?_
              (try dsimp only [Act.put]); (try go_frame)
              refine tkA 14 ?_
              (try dsimp only [Act.put]); (try go_frame)
              refine wpAnyH_done (by kernel_rfl) ?_ _
              try simp only [QCut]
              clear hHeld
              clear xRI93_0 xRI93_1 xRI93_2 xRI93_3 xKK93_0 xKK93_1 xKK93_2 xKK93_3 xKK93_4 xKK93_5
              go_wp2_with fail
              refine wp_region_any (by kernel_rfl) ?_
              obtain ⟨xRK93_0, xRK93_1, xRK93_2, xRK93_3⟩ := RK.ce4
              obtain ⟨xKK93_0, xKK93_1, xKK93_2, xKK93_3, xKK93_4, xKK93_5⟩ := KK.ce6
              have hHeld : (fun w' : World => w'.cell? ⟨b5, k * 4, none⟩ = some (.complex .f64 xk yk) ∧ w'.cell? ⟨b5, k * 4 + 1, none⟩ = some (.bool true) ∧ w'.cell? ⟨b5, k * 4 + 2, none⟩ = some (.complex .f64 p q) ∧ w'.cell? ⟨b5, k * 4 + 3, none⟩ = some (.float .f64 s) ∧ w'.cell? ⟨b0, j * 6, none⟩ = some (.bool kr.n) ∧ w'.cell? ⟨b0, j * 6 + 1, none⟩ = some (.string (bstr kr.x)) ∧ w'.cell? ⟨b0, j * 6 + 2, none⟩ = some (.int .i64 kr.e) ∧ w'.cell? ⟨b0, j * 6 + 3, none⟩ = some (.bool ki.n) ∧ w'.cell? ⟨b0, j * 6 + 4, none⟩ = some (.string (bstr ki.x)) ∧ w'.cell? ⟨b0, j * 6 + 5, none⟩ = some (.int .i64 ki.e)) (w45).drew := ⟨xRK93_0, xRK93_1, xRK93_2, xRK93_3, xKK93_0, xKK93_1, xKK93_2, xKK93_3, xKK93_4, xKK93_5⟩
              refine wpAny_of_held (S := fun w' : World => w'.cell? ⟨b5, k * 4, none⟩ = some (.complex .f64 xk yk) ∧ w'.cell? ⟨b5, k * 4 + 1, none⟩ = some (.bool true) ∧ w'.cell? ⟨b5, k * 4 + 2, none⟩ = some (.complex .f64 p q) ∧ w'.cell? ⟨b5, k * 4 + 3, none⟩ = some (.float .f64 s) ∧ w'.cell? ⟨b0, j * 6, none⟩ = some (.bool kr.n) ∧ w'.cell? ⟨b0, j * 6 + 1, none⟩ = some (.string (bstr kr.x)) ∧ w'.cell? ⟨b0, j * 6 + 2, none⟩ = some (.int .i64 kr.e) ∧ w'.cell? ⟨b0, j * 6 + 3, none⟩ = some (.bool ki.n) ∧ w'.cell? ⟨b0, j * 6 + 4, none⟩ = some (.string (bstr ki.x)) ∧ w'.cell? ⟨b0, j * 6 + 5, none⟩ = some (.int .i64 ki.e)) _ _ _ (w45).drew ?_
              replace RI := RI.drew
              replace RK := RK.drew
              replace KK := KK.drew
              replace B0 := B0.drew
              generalize (w45).drew = v2 at *
              refine tkA 0 ?_
              (try dsimp only [Act.put]); (try go_frame)
              refine tkA 1 ?_
              (try dsimp only [Act.put]); (try go_frame)
              refine tkA 2 ?_
              (try dsimp only [Act.put]); (try go_frame)
              refine tkA 3 ?_
              (try dsimp only [Act.put]); (try go_frame)
              refine tkA 4 ?_
              (try dsimp only [Act.put]); (try go_frame)
              refine tkA 5 ?_
              (try dsimp only [Act.put]); (try go_frame)
              refine tkA 6 ?_
              (try dsimp only [Act.put]); (try go_frame)
              refine tkA 7 ?_
              (try dsimp only [Act.put]); (try go_frame)
              refine tkA 8 ?_
              (try dsimp only [Act.put]); (try go_frame)
              refine wpAnyH_ready (rs := [9]) (by kernel_rfl) (by simp) ?_
              refine AllReadyH.cons rfl (fun K hK => ?_) AllReadyH.nil
              go_simp
              (with_reducible refine (hHK _).mono ?_)
              rintro r w46 ⟨rfl, hb46⟩
              clear xRK93_0 xRK93_1 xRK93_2 xRK93_3 xKK93_0 xKK93_1 xKK93_2 xKK93_3 xKK93_4 xKK93_5
              replace RI := RI.keep hb46
              replace RK := RK.keep hb46
              replace KK := KK.keep hb46
              replace B0 := B0.trans (hb46.mono B0.size)
              clear hb46
              obtain ⟨xRK96_0, xRK96_1, xRK96_2, xRK96_3⟩ := RK.ce4
              obtain ⟨xKK96_0, xKK96_1, xKK96_2, xKK96_3, xKK96_4, xKK96_5⟩ := KK.ce6
              refine hK.out _ _ ?_ (fun hHeld => ?_)
              ·exact ⟨xRK96_0, xRK96_1, xRK96_2, xRK96_3, xKK96_0, xKK96_1, xKK96_2, xKK96_3, xKK96_4, xKK96_5⟩
              clear hK K
              (try dsimp only [Act.put]); (try go_frame)
              refine tkA 10 ?_
              (try dsimp only [Act.put]); (try go_frame)
              refine tkA 11 ?_
              (try dsimp only [Act.put]); (try go_frame)
              refine tkA 12 ?_
              (try dsimp only [Act.put]); (try go_frame)
              refine tkA 13 ?_
              (try dsimp only [Act.put]); (try go_frame)
              refine tkA 14 ?_
              (try dsimp only [Act.put]); (try go_frame)
              refine wpAnyH_done (by kernel_rfl) ?_ _
              try simp only [QCut]
              clear hHeld
              clear xRK96_0 xRK96_1 xRK96_2 xRK96_3 xKK96_0 xKK96_1 xKK96_2 xKK96_3 xKK96_4 xKK96_5
              cases hI
              ·go_wp2
               go_roundg (n - (j + 1))
               case measure => have := HL.out; omega
               case rel => exact ⟨j + 1, by omega, rfl, by go_num, B0⟩
              ·cases hJ
               ·go_wp2
                go_roundg (n - (j + 1))
                case measure => have := HL.out; omega
                case rel => exact ⟨j + 1, by omega, rfl, by go_num, B0⟩
               ·exact absurd ⟨rfl, rfl⟩ hno
            ·obtain rfl : n = j := by omega
             clear hg
             go_wp2
             go_roundg (i - (k + 1))
             case measure => have := HJ.out; omega
             case rel => exact ⟨k + 1, by omega, rfl, by go_num, B0⟩
          ·obtain rfl : i = k := by omega
           have Bw := B1.trans (B0.mono B1.size)
           have hct : m' + 1 = (E.take (i + 1)).countP (fun E => E.2.isSome) := by
            rw [count_step hEi, HE.out.1, ← HG.out.2]; simp
           have HC := Lib.hid hct
           clear hg B0 hct
           go_wp2
           go_roundg (n - (i + 1))
           case measure => have := HG.out.1; omega
           case rel => exact ⟨i + 1, m' + 1, by omega, rfl, by go_num, by go_num, HC.out, Bw⟩
     ·obtain rfl : n = i := by omega
      have hmm : m' = m := by rw [hcm, ← HTO.out.2.1, List.take_length, HM.out]; exact HTO.out.2.2
      subst hmm
      have Bw := HB2.out.trans (B1.mono HB2.out.size)
      clear hcm hg B1
      cases hmn : decide (m' = n)
      ·have h1 : ¬ m' = n := of_decide_eq_false hmn
       have h2 : ((m' : Int) == (n : Int)) = false := beq_eq_false_iff_ne.2 (by omega)
       go_wp2
       go_ret
       exact ⟨rfl, Bw⟩
      ·have h1 : m' = n := of_decide_eq_true hmn
       have h2 : ((m' : Int) == (n : Int)) = true := beq_iff_eq.2 (by omega)
       go_wp2
       go_ret
       exact ⟨rfl, Bw⟩
end Go.Proofs.YtfdnbogbankjjaaGreatDoor
