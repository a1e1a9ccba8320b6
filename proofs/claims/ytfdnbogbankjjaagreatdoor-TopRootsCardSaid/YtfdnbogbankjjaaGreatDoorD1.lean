/- product of filigreetop. (printed by gen_d1.py) -/
import Derived.Test.YtfdnbogbankjjaaGreatDoorFZ
import Derived.Test.YtfdnbogbankjjaaGreatDoorFX
import Derived.Test.YtfdnbogbankjjaaGreatDoorFT
import Derived.Test.YtfdnbogbankjjaaGreatDoorBG
namespace Go.Proofs.YtfdnbogbankjjaaGreatDoor
open Go Go.RowKit Go.PlainAid Fil

/-- what product gives back -/
def ProdRes (B : Nat) (P Q : DY) (L : List (DY × DY)) (n : Nat) (r : Ending) (w' : World) : Prop :=
 ∃ v' b', r = .returned (.tuple #[v', .bool b']) ∧ (b' = true → (∀ i, i < n → coOk (P, Q) L i) ∧ ∃ C : List CV, PL B w' v' C ∧ C.length = n + 1 ∧ ∀ i (hi : i < C.length), ∃ x y, Rl C[i].1 x ∧ Rl C[i].2 y ∧ (flY x, flY y) = (coF (P, Q) L n).getD i ZZ)
def TmR (b : Bool) (ar ai br bi p q : DY) : Prop := (b = true ↔ TmOk ar ai br bi) ∧ (b = true → p = (ySub (yMul ar br).1 (yMul ai bi).1).1 ∧ q = (yAdd (yMul ar bi).1 (yMul ai br).1).1)
def FlR (b : Bool) (x y : Nat) (p q : DY) : Prop := p = (flT x).1 ∧ q = (flT y).1 ∧ (b = true ↔ (flT x).2 = 0 ∧ (flT y).2 = 0)
def PrC (B : Nat) (w : World) (v : Value) (F : List (DY × DY)) (k : Nat) : Prop := ∃ C : List CV, PL B w v C ∧ C.length = k ∧ ∀ i (hi : i < C.length), ∃ x y, Rl C[i].1 x ∧ Rl C[i].2 y ∧ (flY x, flY y) = F.getD i ZZ
theorem PrC.nil (B : Nat) (w : World) (F : List (DY × DY)) : PrC B w (.slice none 0 0) F 0 := ⟨[], PL.nil _ _, rfl, fun i hi => absurd hi (Nat.not_lt_zero i)⟩
theorem bstr_iff {x y : Nat} : (bstr x).toList = (bstr y).toList ↔ x = y := by
 rw [bstr_toList, bstr_toList]
 exact ⟨fun h => bs_inj h, fun h => by rw [h]⟩
theorem neq_all {p q a b : DY} (h : ¬ (p = a ∧ q = b)) : p.n = a.n → (bstr p.x).toList = (bstr a.x).toList → p.e = a.e → q.n = b.n → (bstr q.x).toList = (bstr b.x).toList → ¬ q.e = b.e := by
 obtain ⟨pn, px, pe⟩ := p
 obtain ⟨qn, qx, qe⟩ := q
 obtain ⟨an, ax, ae⟩ := a
 obtain ⟨bn, bx, be⟩ := b
 intro h1 h2 h3 h4 h5 h6
 exact h ⟨by rw [show pn = an from h1, show px = ax from bstr_iff.1 h2, show pe = ae from h3], by rw [show qn = bn from h4, show qx = bx from bstr_iff.1 h5, show qe = be from h6]⟩
theorem flT_num {x : Nat} (hx : x < 18446744073709551616) (h : (flT x).2 = 0) : Rl (some x) x ∧ (flT x).1 = flY x := by
 unfold flT at h ⊢
 by_cases hq : flQ x = 2047
 ·rw [if_pos hq] at h; exact absurd h (by decide)
 ·rw [if_neg hq]
  refine ⟨⟨rfl, hx, ?_⟩, rfl⟩
  unfold flQ at hq
  unfold fr
  omega
theorem PrC.push {B : Nat} {w : World} {v : Value} {F : List (DY × DY)} {k : Nat} {C : List CV} {ps : List (Nat × Nat)} {x y : Nat} {p q : DY}
  (h : w.ownsRow B 27 1 v (C.length + 1) ((ps.map fun p => Value.complex .f64 p.1 p.2) ++ [.complex .f64 x y])) (hl : ps.length = C.length) (hp : ∀ i (h : i < C.length) (h' : i < ps.length), Fl ps[i].1 C[i].1 ∧ Fl ps[i].2 C[i].2)
  (hC : ∀ i (hi : i < C.length), ∃ x y, Rl C[i].1 x ∧ Rl C[i].2 y ∧ (flY x, flY y) = F.getD i ZZ) (hCl : C.length = k) (hE : FlR true x y p q) (hF : (p, q) = F.getD k ZZ) (hx : x < 18446744073709551616) (hy : y < 18446744073709551616) : PrC B w v F (k + 1) := by
 obtain ⟨e1, e2, e3⟩ := hE
 obtain ⟨f1, f2⟩ := e3.1 rfl
 obtain ⟨r1, g1⟩ := flT_num hx f1
 obtain ⟨r2, g2⟩ := flT_num hy f2
 refine ⟨C ++ [(some x, some y)], PL.push h hl hp r1.fl r2.fl, by simp [hCl], fun i hi => ?_⟩
 by_cases hk : i < C.length
 ·rw [List.getElem_append_left hk]; exact hC i hk
 ·have hik : i = C.length := by simp at hi; omega
  subst hik
  rw [List.getElem_append_right (Nat.le_refl _)]
  simp only [Nat.sub_self, List.getElem_cons_zero]
  exact ⟨x, y, r1, r2, by rw [hCl, ← hF, e1, e2, g1, g2]⟩
theorem TmR.yes {ar ai br bi p q : DY} (h : TmR true ar ai br bi p q) : TmOk ar ai br bi ∧ p = (ySub (yMul ar br).1 (yMul ai bi).1).1 ∧ q = (yAdd (yMul ar bi).1 (yMul ai br).1).1 := ⟨h.1.1 rfl, h.2 rfl⟩
def SbR (b : Bool) (ar ai br bi p q : DY) : Prop := p = (ySub ar br).1 ∧ q = (ySub ai bi).1 ∧ (b = true ↔ (ySub ar br).2 = 0 ∧ (ySub ai bi).2 = 0)
theorem SbR.yes {ar ai br bi p q : DY} (h : SbR true ar ai br bi p q) : (ySub ar br).2 = 0 ∧ (ySub ai bi).2 = 0 := h.2.2.1 rfl
def AdR (b : Bool) (ar ai br bi p q : DY) : Prop := p = (yAdd ar br).1 ∧ q = (yAdd ai bi).1 ∧ (b = true ↔ (yAdd ar br).2 = 0 ∧ (yAdd ai bi).2 = 0)
theorem AdR.yes {ar ai br bi p q : DY} (h : AdR true ar ai br bi p q) : (yAdd ar br).2 = 0 ∧ (yAdd ai bi).2 = 0 := h.2.2.1 rfl
theorem ProdRes.no (B : Nat) (P Q : DY) (L : List (DY × DY)) (n : Nat) (w' : World) : ProdRes B P Q L n (.returned (.tuple #[.slice none 0 0, .bool false])) w' := ⟨_, _, rfl, fun h => absurd h Bool.false_ne_true⟩
set_option maxRecDepth 100000 in
set_option maxHeartbeats 8000000 in
theorem product_core {b0 c0 : Nat} {L : List (DY × DY)} {P Q : DY} (w : World)
  (hE : ∀ W, Calls Tryz.prog 14 #[.complex .f64 4607182418800017408 0] W fun e w' => e = .returned (.tuple #[.agg #[.bool P.n, .string (bstr P.x), .int .i64 P.e, .bool Q.n, .string (bstr Q.x), .int .i64 Q.e], .bool true]) ∧ Below W.heap.size W w')
  (h : ZR w b0 L) (hL : ∀ g ∈ L, ZOk g) (hP : P.ok) (hQ : Q.ok) (h0 : 0 < L.length) (hn : L.length ≤ 8) (hc : L.length ≤ c0) :
  Calls Tryz.prog 6 #[.slice (some ⟨b0, 0, none⟩) L.length c0] w fun r w' => ProdRes w.heap.size P Q L L.length r w' ∧ Below w.heap.size w w' := by
 obtain ⟨iG, hiG, hpG⟩ := Option.map_eq_some_iff.1 Tryz.infoGs
 have zG0 : iG.zero = some (.agg #[.bool false, .string { data := #[] }, .int .i64 0, .bool false, .string { data := #[] }, .int .i64 0]) := congrArg Prod.fst hpG
 have zG1 : iG.size = 6 := congrArg (fun q => q.2.1) hpG
 have zG2 : iG.bytes = 64 := congrArg (fun q => q.2.2) hpG
 have hmk : ∀ (k : Nat) (W : World), k ≤ 16 → (Instr.makeSlice 35 (.int .i64 ((k : Int) + 1)) (.int .i64 ((k : Int) + 1))).run Tryz.prog W = .ok (.slice (some ⟨W.heap.size, 0, none⟩) (k + 1) (k + 1)) (W.alloc (.cells (madeCells #[.bool false, .string { data := #[] }, .int .i64 0, .bool false, .string { data := #[] }, .int .i64 0] ((k + 1) * 6)) 44)) := fun k W hk => by
  have hr := run_make (P := Tryz.prog) W 35 44 iG _ Tryz.underlying35 hiG zG0 .i64 .i64 ((k : Int) + 1) ((k : Int) + 1) (by omega) (Int.le_refl _) (by rw [zG2]; omega) (by omega)
  rw [zG1, show ((k : Int) + 1).toNat = k + 1 by omega] at hr
  exact hr
 clear zG0 zG1 zG2 hpG hiG
 obtain ⟨i1, hi1, hp1⟩ := Option.map_eq_some_iff.1 Tryz.info27
 have hy0 : i1.zero = some (.complex .f64 0 0) := congrArg Prod.fst hp1
 have hy1 : i1.size = 1 := congrArg (fun q => q.2.1) hp1
 have hy2 : i1.bytes = 16 := congrArg (fun q => q.2.2) hp1
 clear hp1
 obtain ⟨n, en⟩ : ∃ n, n = L.length := ⟨_, rfl⟩
 rw [← en] at h0 hn hc ⊢
 have HF := Lib.hid (And.intro en (And.intro h hL))
 have HPQ := Lib.hid (And.intro hP hQ)
 clear en h hL hP hQ
 have B0 := Below.refl w.heap.size w
 go_enter Tryz.func6, Tryz.ntmps6
 go_wp2_with fail
 refine (hE _).mono ?_
 rintro r w1 ⟨rfl, hbb⟩
 replace B0 := B0.trans (hbb.mono B0.size)
 clear hbb hE
 have F4 := Blk.put w1 #[.bool P.n, .string (bstr P.x), .int .i64 P.e, .bool Q.n, .string (bstr Q.x), .int .i64 Q.e] 44
 have F23 := Blk.put (w1.alloc (.cells #[.bool P.n, .string (bstr P.x), .int .i64 P.e, .bool Q.n, .string (bstr Q.x), .int .i64 Q.e] 44)) #[.bool P.n, .string (bstr P.x), .int .i64 P.e, .bool Q.n, .string (bstr Q.x), .int .i64 Q.e] 44
 rw [show (w1.alloc (.cells #[.bool P.n, .string (bstr P.x), .int .i64 P.e, .bool Q.n, .string (bstr Q.x), .int .i64 Q.e] 44)).heap.size = w1.heap.size + 1 by simp] at F23
 obtain ⟨x40, x41, x42, x43, x44, x45⟩ := F4.ce6
 have B1 := (B0.alloc B0.size (.cells #[.bool P.n, .string (bstr P.x), .int .i64 P.e, .bool Q.n, .string (bstr Q.x), .int .i64 Q.e] 44)).alloc (by have := B0.size; simp; omega) (.cells #[.bool P.n, .string (bstr P.x), .int .i64 P.e, .bool Q.n, .string (bstr Q.x), .int .i64 Q.e] 44)
 clear B0
 go_wp2
 go_loopg [6, 7] n (fun g s6 s7 wr => ∃ i bc : Nat, i ≤ n ∧ g = n - i ∧ s7 = .int .i64 i ∧ s6 = .slice (some ⟨bc, 0, none⟩) (i + 1) (i + 1) ∧ ZR wr bc (coF (P, Q) L i) ∧ (∀ j, j < i → coOk (P, Q) L j) ∧ Below w.heap.size w wr)
 case atStart => exact ⟨0, w1.heap.size + 1, by omega, by omega, rfl, rfl, ZR.one F23, fun j hj => absurd hj (Nat.not_lt_zero j), B1⟩
 case round =>
  clear B1 F4 F23 x40 x41 x42 x43 x44 x45
  obtain ⟨i, bc, hi, hg, rfl, rfl, hco, hok, BW⟩ := hrel
  obtain ⟨wo, rfl⟩ : ∃ q : World, q = wr := ⟨_, rfl⟩
  by_cases hin : i < n
  ·have HG := Lib.hid hg
   clear hg
   obtain ⟨N, hN⟩ : ∃ N, N = coF (P, Q) L i := ⟨_, rfl⟩
   have hlN : N.length = i + 1 := by rw [hN]; exact coF_len _ _ _
   obtain ⟨zr, zi, hz⟩ : ∃ zr zi, (zr, zi) = L.getD i ZZ := ⟨_, _, rfl⟩
   rw [← hN] at hco
   obtain ⟨oz1, oz2⟩ : ZOk (zr, zi) := by rw [hz]; exact getD_ok HF.out.2.2 i
   have hoN : ∀ g ∈ N, ZOk g := by rw [hN]; exact coF_ok (show ZOk (P, Q) from HPQ.out) i
   have HS := Lib.hid (And.intro hN (And.intro hz (And.intro hok (And.intro hoN hco))))
   have hbc := hco.lt
   have hmk1 := fun W => hmk (i + 1) W (by omega)
   rw [show ((i + 1 : Nat) : Int) = (i : Int) + 1 by omega] at hmk1
   have NX : ZR (wo.alloc (.cells (madeCells #[.bool false, .string { data := #[] }, .int .i64 0, .bool false, .string { data := #[] }, .int .i64 0] ((i + 1 + 1) * 6)) 44)) wo.heap.size (nx (zr, zi) N 0) := by
    show ZR _ _ (List.replicate (N.length + 1) ZZ)
    rw [hlN]
    exact ZR.made (Blk.put _ _ _)
   have B0 := (Below.refl wo.heap.size wo).alloc (Nat.le_refl _) (.cells (madeCells #[.bool false, .string { data := #[] }, .int .i64 0, .bool false, .string { data := #[] }, .int .i64 0] ((i + 1 + 1) * 6)) 44)
   clear hN hz hok hoN hco
   go_wp2
   go_loopg [9] (i + 1) (fun g s9 wr => ∃ k : Nat, k ≤ i + 1 ∧ g = i + 1 - k ∧ s9 = .int .i64 k ∧ ZR wr wo.heap.size (nx (zr, zi) N k) ∧ (∀ j, j < k → nxOk (zr, zi) N j) ∧ Below wo.heap.size wo wr)
   case atStart => exact ⟨0, by omega, by omega, rfl, NX, fun j hj => absurd hj (Nat.not_lt_zero j), B0⟩
   case round =>
    clear NX B0 hmk1
    obtain ⟨k, hk, hg, rfl, NX, hok, B0⟩ := hrel
    by_cases hki : k < i + 1
    ·obtain ⟨ar, ai, ha⟩ : ∃ ar ai, (ar, ai) = N.getD k ZZ := ⟨_, _, rfl⟩
     obtain ⟨cr, ci, hc'⟩ : ∃ cr ci, (cr, ci) = (nx (zr, zi) N k).getD k ZZ := ⟨_, _, rfl⟩
     obtain ⟨dr, di, hd⟩ : ∃ dr di, (dr, di) = (nx (zr, zi) N k).getD (k + 1) ZZ := ⟨_, _, rfl⟩
     obtain ⟨oar, oai⟩ : ZOk (ar, ai) := by rw [ha]; exact getD_ok HS.out.2.2.2.1 k
     obtain ⟨ocr, oci⟩ : ZOk (cr, ci) := by rw [hc']; exact getD_ok (nx_ok k) k
     obtain ⟨odr, odi⟩ : ZOk (dr, di) := by rw [hd]; exact getD_ok (nx_ok k) (k + 1)
     have CO := (HS.out.2.2.2.2.below B0 hbc).get' k (by rw [hlN]; exact hki) ha
     have LI := ((HF.out.2.1.keep BW).keep B0).get' i (by rw [← HF.out.1]; exact hin) HS.out.2.1
     have HK := Lib.hid (And.intro hg (And.intro ha (And.intro hc' hd)))
     have HO := Lib.hid hok
     clear hg ha hc' hd hok
     have hk2 : (k : Int) < (i : Int) + 1 := by omega
     have hk3 : (k : Int) < (i : Int) + 1 + 1 := by omega
     have hk4 : (k : Int) + 1 < (i : Int) + 1 + 1 := by omega
     have hi2 : (i : Int) < (n : Int) := by omega
     have h0k : (0 : Int) ≤ (k : Int) + 1 := by omega
     have hwk : IntKind.i64.wrap ((k : Int) + 1) = (k : Int) + 1 := by rw [IntKind.wrap_i64]; omega
     have htk : ((k : Int) + 1).toNat = k + 1 := by omega
     have q_CO_NX := Lib.hid (show bc < wo.heap.size from hbc)
     go_upto_region 10 with fail
     go_cut [10, 11] (fun s10 s11 wy => ∃ S10 pT qT bT, s10 = .pointer (some ⟨S10, 0, none⟩) ∧ s11 = .bool bT ∧ El wy bc (k * 6) #[.bool ar.n, .string (bstr ar.x), .int .i64 ar.e, .bool ai.n, .string (bstr ai.x), .int .i64 ai.e] ∧ ZR wy wo.heap.size (nx (zr, zi) N k) ∧ Blk wy S10 #[.bool pT.n, .string (bstr pT.x), .int .i64 pT.e, .bool qT.n, .string (bstr qT.x), .int .i64 qT.e] 44 ∧ bc < S10 ∧ wo.heap.size < S10 ∧ wo.heap.size ≤ S10 ∧ pT.ok ∧ qT.ok ∧ TmR bT ar ai zr zi pT qT ∧ Below wo.heap.size wo wy)
     case first =>
      go_wp2_with fail
      refine wp_region_any (by kernel_rfl) ?_
      obtain ⟨xCO50_0, xCO50_1, xCO50_2, xCO50_3, xCO50_4, xCO50_5⟩ := CO.ce6
      obtain ⟨xLI50_0, xLI50_1, xLI50_2, xLI50_3, xLI50_4, xLI50_5⟩ := LI.ce6
      have hHeld : (fun w' : World => w'.cell? ⟨bc, k * 6, none⟩ = some (.bool ar.n) ∧ w'.cell? ⟨bc, k * 6 + 1, none⟩ = some (.string (bstr ar.x)) ∧ w'.cell? ⟨bc, k * 6 + 2, none⟩ = some (.int .i64 ar.e) ∧ w'.cell? ⟨bc, k * 6 + 3, none⟩ = some (.bool ai.n) ∧ w'.cell? ⟨bc, k * 6 + 4, none⟩ = some (.string (bstr ai.x)) ∧ w'.cell? ⟨bc, k * 6 + 5, none⟩ = some (.int .i64 ai.e) ∧ w'.cell? ⟨b0, i * 6, none⟩ = some (.bool zr.n) ∧ w'.cell? ⟨b0, i * 6 + 1, none⟩ = some (.string (bstr zr.x)) ∧ w'.cell? ⟨b0, i * 6 + 2, none⟩ = some (.int .i64 zr.e) ∧ w'.cell? ⟨b0, i * 6 + 3, none⟩ = some (.bool zi.n) ∧ w'.cell? ⟨b0, i * 6 + 4, none⟩ = some (.string (bstr zi.x)) ∧ w'.cell? ⟨b0, i * 6 + 5, none⟩ = some (.int .i64 zi.e)) (wr).drew := ⟨xCO50_0, xCO50_1, xCO50_2, xCO50_3, xCO50_4, xCO50_5, xLI50_0, xLI50_1, xLI50_2, xLI50_3, xLI50_4, xLI50_5⟩
      refine wpAny_of_held (S := fun w' : World => w'.cell? ⟨bc, k * 6, none⟩ = some (.bool ar.n) ∧ w'.cell? ⟨bc, k * 6 + 1, none⟩ = some (.string (bstr ar.x)) ∧ w'.cell? ⟨bc, k * 6 + 2, none⟩ = some (.int .i64 ar.e) ∧ w'.cell? ⟨bc, k * 6 + 3, none⟩ = some (.bool ai.n) ∧ w'.cell? ⟨bc, k * 6 + 4, none⟩ = some (.string (bstr ai.x)) ∧ w'.cell? ⟨bc, k * 6 + 5, none⟩ = some (.int .i64 ai.e) ∧ w'.cell? ⟨b0, i * 6, none⟩ = some (.bool zr.n) ∧ w'.cell? ⟨b0, i * 6 + 1, none⟩ = some (.string (bstr zr.x)) ∧ w'.cell? ⟨b0, i * 6 + 2, none⟩ = some (.int .i64 zr.e) ∧ w'.cell? ⟨b0, i * 6 + 3, none⟩ = some (.bool zi.n) ∧ w'.cell? ⟨b0, i * 6 + 4, none⟩ = some (.string (bstr zi.x)) ∧ w'.cell? ⟨b0, i * 6 + 5, none⟩ = some (.int .i64 zi.e)) _ _ _ (wr).drew ?_
      replace CO := CO.drew
      replace LI := LI.drew
      replace NX := NX.drew
      replace B0 := B0.drew
      generalize (wr).drew = v1 at *
      refine tkA 0 ?_
      (try dsimp only [Act.put]); (try go_frame)
      refine tkA 1 ?_
      (try dsimp only [Act.put]); (try go_frame)
      refine tkA 2 ?_
      (try dsimp only [Act.put]); (try go_frame)
      refine tkA 3 ?_
      (try dsimp only [Act.put]); (try go_frame)
      refine tkA 4 ?_
      (try dsimp only [Act.put]); (try go_frame)
      refine tkA 5 ?_
      (try dsimp only [Act.put]); (try go_frame)
      refine tkA 6 ?_
      (try dsimp only [Act.put]); (try go_frame)
      refine tkA 7 ?_
      (try dsimp only [Act.put]); (try go_frame)
      refine wpAnyH_ready (rs := [8, 12]) (by kernel_rfl) (by simp) ?_
      refine AllReadyH.cons rfl (fun K hK => ?_) (AllReadyH.cons rfl (fun K hK => ?_) AllReadyH.nil)
      ·go_simp
       (with_reducible refine (c_ttimes _ oar oai oz1 oz2).mono ?_)
       rintro r w21 ⟨⟨pT, qT, bT, rfl, opT, oqT, hT, eT⟩, hb21⟩
       clear xCO50_0 xCO50_1 xCO50_2 xCO50_3 xCO50_4 xCO50_5 xLI50_0 xLI50_1 xLI50_2 xLI50_3 xLI50_4 xLI50_5
       replace CO := CO.keep hb21
       replace LI := LI.keep hb21
       replace NX := NX.keep hb21
       replace B0 := B0.trans (hb21.mono B0.size)
       clear hb21
       have HT : TmR bT ar ai zr zi pT qT := ⟨hT, eT⟩
       clear hT eT
       obtain ⟨xCO53_0, xCO53_1, xCO53_2, xCO53_3, xCO53_4, xCO53_5⟩ := CO.ce6
       obtain ⟨xLI53_0, xLI53_1, xLI53_2, xLI53_3, xLI53_4, xLI53_5⟩ := LI.ce6
       refine hK.out _ _ ?_ (fun hHeld => ?_)
       ·exact ⟨xCO53_0, xCO53_1, xCO53_2, xCO53_3, xCO53_4, xCO53_5, xLI53_0, xLI53_1, xLI53_2, xLI53_3, xLI53_4, xLI53_5⟩
       clear hK K
       (try dsimp only [Act.put]); (try go_frame)
       refine tkA 9 ?_
       (try dsimp only [Act.put]); (try go_frame)
       refine tkA 10 ?_
       (try dsimp only [Act.put]); (try go_frame)
       refine tkA 11 ?_
       (try dsimp only [Act.put]); (try go_frame)
       refine wpAnyH_ready (rs := [12]) (by kernel_rfl) (by simp) ?_
       refine AllReadyH.cons rfl (fun K hK => ?_) AllReadyH.nil
       go_simp
       obtain ⟨zCO0, zCO1, zCO2, zCO3, zCO4, zCO5⟩ := (CO.allocd (.cells #[.bool false, .string { data := #[] }, .int .i64 0, .bool false, .string { data := #[] }, .int .i64 0] 44)).ce6
       obtain ⟨zLI0, zLI1, zLI2, zLI3, zLI4, zLI5⟩ := (LI.allocd (.cells #[.bool false, .string { data := #[] }, .int .i64 0, .bool false, .string { data := #[] }, .int .i64 0] 44)).ce6
       clear xCO53_0 xCO53_1 xCO53_2 xCO53_3 xCO53_4 xCO53_5 xLI53_0 xLI53_1 xLI53_2 xLI53_3 xLI53_4 xLI53_5
       refine hK.out _ _ ?_ (fun hHeld => ?_)
       ·exact ⟨zCO0, zCO1, zCO2, zCO3, zCO4, zCO5, zLI0, zLI1, zLI2, zLI3, zLI4, zLI5⟩
       clear hK K
       (try dsimp only [Act.put]); (try go_frame)
       clear zCO0 zCO1 zCO2 zCO3 zCO4 zCO5 zLI0 zLI1 zLI2 zLI3 zLI4 zLI5
       refine wpAnyH_ready (rs := [13]) (by kernel_rfl) (by simp) ?_
       refine AllReadyH.cons rfl (fun K hK => ?_) AllReadyH.nil
       go_simp
       have q_CO_F10 : Hid (bc < w21.heap.size) := Lib.hid (by have := CO.lt; first | exact this | omega | (simp; done) | simpa using this)
       have q_NX_F10 : Hid (wo.heap.size < w21.heap.size) := Lib.hid (by have := NX.lt; first | exact this | omega | (simp; done) | simpa using this)
       have q_w_F10 : Hid (wo.heap.size ≤ w21.heap.size) := Lib.hid (by have := B0.size; first | exact this | omega | (simp; done) | simpa using this)
       replace CO := CO.allocd (.cells #[.bool pT.n, .string (bstr pT.x), .int .i64 pT.e, .bool qT.n, .string (bstr qT.x), .int .i64 qT.e] 44)
       replace LI := LI.allocd (.cells #[.bool pT.n, .string (bstr pT.x), .int .i64 pT.e, .bool qT.n, .string (bstr qT.x), .int .i64 qT.e] 44)
       replace NX := NX.allocd (.cells #[.bool pT.n, .string (bstr pT.x), .int .i64 pT.e, .bool qT.n, .string (bstr qT.x), .int .i64 qT.e] 44)
       have F10 := Blk.put (w21) #[.bool pT.n, .string (bstr pT.x), .int .i64 pT.e, .bool qT.n, .string (bstr qT.x), .int .i64 qT.e] 44
       replace B0 := B0.alloc B0.size (.cells #[.bool pT.n, .string (bstr pT.x), .int .i64 pT.e, .bool qT.n, .string (bstr qT.x), .int .i64 qT.e] 44)
       obtain ⟨xCO55_0, xCO55_1, xCO55_2, xCO55_3, xCO55_4, xCO55_5⟩ := CO.ce6
       obtain ⟨xLI55_0, xLI55_1, xLI55_2, xLI55_3, xLI55_4, xLI55_5⟩ := LI.ce6
       refine hK.out _ _ ?_ (fun hHeld => ?_)
       ·exact ⟨xCO55_0, xCO55_1, xCO55_2, xCO55_3, xCO55_4, xCO55_5, xLI55_0, xLI55_1, xLI55_2, xLI55_3, xLI55_4, xLI55_5⟩
       clear hK K
       (try dsimp only [Act.put]); (try go_frame)
       refine tkA 14 ?_
       (try dsimp only [Act.put]); (try go_frame)
       refine wpAnyH_done (by kernel_rfl) ?_ _
       try simp only [QCut]
       clear hHeld
       clear xCO55_0 xCO55_1 xCO55_2 xCO55_3 xCO55_4 xCO55_5 xLI55_0 xLI55_1 xLI55_2 xLI55_3 xLI55_4 xLI55_5
       go_wp2_with fail
       go_meet
       exact ⟨_, _, _, _, rfl, rfl, CO, NX, F10, q_CO_F10.out, q_NX_F10.out, q_w_F10.out, opT, oqT, HT, B0⟩
      ·go_simp
       clear xCO50_0 xCO50_1 xCO50_2 xCO50_3 xCO50_4 xCO50_5 xLI50_0 xLI50_1 xLI50_2 xLI50_3 xLI50_4 xLI50_5
       have q_CO_F10 : Hid (bc < v1.heap.size) := Lib.hid (by have := CO.lt; first | exact this | omega | (simp; done) | simpa using this)
       have q_LI_F10 : Hid (b0 < v1.heap.size) := Lib.hid (by have := LI.lt; first | exact this | omega | (simp; done) | simpa using this)
       have q_NX_F10 : Hid (wo.heap.size < v1.heap.size) := Lib.hid (by have := NX.lt; first | exact this | omega | (simp; done) | simpa using this)
       have q_w_F10 : Hid (wo.heap.size ≤ v1.heap.size) := Lib.hid (by have := B0.size; first | exact this | omega | (simp; done) | simpa using this)
       replace CO := CO.allocd (.cells #[.bool false, .string { data := #[] }, .int .i64 0, .bool false, .string { data := #[] }, .int .i64 0] 44)
       replace LI := LI.allocd (.cells #[.bool false, .string { data := #[] }, .int .i64 0, .bool false, .string { data := #[] }, .int .i64 0] 44)
       replace NX := NX.allocd (.cells #[.bool false, .string { data := #[] }, .int .i64 0, .bool false, .string { data := #[] }, .int .i64 0] 44)
       have F10 := Blk.put (v1) #[.bool false, .string { data := #[] }, .int .i64 0, .bool false, .string { data := #[] }, .int .i64 0] 44
       replace B0 := B0.alloc B0.size (.cells #[.bool false, .string { data := #[] }, .int .i64 0, .bool false, .string { data := #[] }, .int .i64 0] 44)
       generalize (v1).alloc (.cells #[.bool false, .string { data := #[] }, .int .i64 0, .bool false, .string { data := #[] }, .int .i64 0] 44) = v2 at *
       obtain ⟨xCO55_0, xCO55_1, xCO55_2, xCO55_3, xCO55_4, xCO55_5⟩ := CO.ce6
       obtain ⟨xLI55_0, xLI55_1, xLI55_2, xLI55_3, xLI55_4, xLI55_5⟩ := LI.ce6
       refine hK.out _ _ ?_ (fun hHeld => ?_)
       ·exact ⟨xCO55_0, xCO55_1, xCO55_2, xCO55_3, xCO55_4, xCO55_5, xLI55_0, xLI55_1, xLI55_2, xLI55_3, xLI55_4, xLI55_5⟩
       clear hK K
       (try dsimp only [Act.put]); (try go_frame)
       refine wpAnyH_ready (rs := [8]) (by kernel_rfl) (by simp) ?_
       refine AllReadyH.cons rfl (fun K hK => ?_) AllReadyH.nil
       go_simp
       (with_reducible refine (c_ttimes _ oar oai oz1 oz2).mono ?_)
       rintro r w21 ⟨⟨pT, qT, bT, rfl, opT, oqT, hT, eT⟩, hb21⟩
       clear xCO55_0 xCO55_1 xCO55_2 xCO55_3 xCO55_4 xCO55_5 xLI55_0 xLI55_1 xLI55_2 xLI55_3 xLI55_4 xLI55_5
       replace CO := CO.keep hb21
       replace LI := LI.keep hb21
       replace NX := NX.keep hb21
       replace F10 := F10.keep hb21
       replace B0 := B0.trans (hb21.mono B0.size)
       clear hb21
       have HT : TmR bT ar ai zr zi pT qT := ⟨hT, eT⟩
       clear hT eT
       obtain ⟨xCO56_0, xCO56_1, xCO56_2, xCO56_3, xCO56_4, xCO56_5⟩ := CO.ce6
       obtain ⟨xLI56_0, xLI56_1, xLI56_2, xLI56_3, xLI56_4, xLI56_5⟩ := LI.ce6
       refine hK.out _ _ ?_ (fun hHeld => ?_)
       ·exact ⟨xCO56_0, xCO56_1, xCO56_2, xCO56_3, xCO56_4, xCO56_5, xLI56_0, xLI56_1, xLI56_2, xLI56_3, xLI56_4, xLI56_5⟩
       clear hK K
       (try dsimp only [Act.put]); (try go_frame)
       refine tkA 9 ?_
       (try dsimp only [Act.put]); (try go_frame)
       refine tkA 10 ?_
       (try dsimp only [Act.put]); (try go_frame)
       refine tkA 11 ?_
       (try dsimp only [Act.put]); (try go_frame)
       obtain ⟨xF1056_0, xF1056_1, xF1056_2, xF1056_3, xF1056_4, xF1056_5⟩ := F10.ce6
       obtain ⟨xF1056_0f, xF1056_1f, xF1056_2f, xF1056_3f, xF1056_4f, xF1056_5f⟩ := F10.fr6
       refine wpAnyH_ready (rs := [13]) (by kernel_rfl) (by simp) ?_
       refine AllReadyH.cons rfl (fun K hK => ?_) AllReadyH.nil
       go_simp
       replace CO := ((((((CO.far 0 (.bool pT.n) (Nat.ne_of_lt q_CO_F10.out)).far 1 (.string (bstr pT.x)) (Nat.ne_of_lt q_CO_F10.out)).far 2 (.int .i64 pT.e) (Nat.ne_of_lt q_CO_F10.out)).far 3 (.bool qT.n) (Nat.ne_of_lt q_CO_F10.out)).far 4 (.string (bstr qT.x)) (Nat.ne_of_lt q_CO_F10.out)).far 5 (.int .i64 qT.e) (Nat.ne_of_lt q_CO_F10.out))
       replace LI := ((((((LI.far 0 (.bool pT.n) (Nat.ne_of_lt q_LI_F10.out)).far 1 (.string (bstr pT.x)) (Nat.ne_of_lt q_LI_F10.out)).far 2 (.int .i64 pT.e) (Nat.ne_of_lt q_LI_F10.out)).far 3 (.bool qT.n) (Nat.ne_of_lt q_LI_F10.out)).far 4 (.string (bstr qT.x)) (Nat.ne_of_lt q_LI_F10.out)).far 5 (.int .i64 qT.e) (Nat.ne_of_lt q_LI_F10.out))
       replace NX := ((((((NX.far 0 (.bool pT.n) (Nat.ne_of_lt q_NX_F10.out)).far 1 (.string (bstr pT.x)) (Nat.ne_of_lt q_NX_F10.out)).far 2 (.int .i64 pT.e) (Nat.ne_of_lt q_NX_F10.out)).far 3 (.bool qT.n) (Nat.ne_of_lt q_NX_F10.out)).far 4 (.string (bstr qT.x)) (Nat.ne_of_lt q_NX_F10.out)).far 5 (.int .i64 qT.e) (Nat.ne_of_lt q_NX_F10.out))
       replace F10 : Blk (((((((w21).setCell ⟨v1.heap.size, 0, none⟩ (.bool pT.n)).setCell ⟨v1.heap.size, 1, none⟩ (.string (bstr pT.x))).setCell ⟨v1.heap.size, 2, none⟩ (.int .i64 pT.e)).setCell ⟨v1.heap.size, 3, none⟩ (.bool qT.n)).setCell ⟨v1.heap.size, 4, none⟩ (.string (bstr qT.x))).setCell ⟨v1.heap.size, 5, none⟩ (.int .i64 qT.e)) (v1.heap.size) #[.bool pT.n, .string (bstr pT.x), .int .i64 pT.e, .bool qT.n, .string (bstr qT.x), .int .i64 qT.e] 44 := ((((((F10.setAt 0 (.bool pT.n)).setAt 1 (.string (bstr pT.x))).setAt 2 (.int .i64 pT.e)).setAt 3 (.bool qT.n)).setAt 4 (.string (bstr qT.x))).setAt 5 (.int .i64 qT.e))
       replace B0 := ((((((B0.setCell (p := ⟨v1.heap.size, 0, none⟩) q_w_F10.out (.bool pT.n)).setCell (p := ⟨v1.heap.size, 1, none⟩) q_w_F10.out (.string (bstr pT.x))).setCell (p := ⟨v1.heap.size, 2, none⟩) q_w_F10.out (.int .i64 pT.e)).setCell (p := ⟨v1.heap.size, 3, none⟩) q_w_F10.out (.bool qT.n)).setCell (p := ⟨v1.heap.size, 4, none⟩) q_w_F10.out (.string (bstr qT.x))).setCell (p := ⟨v1.heap.size, 5, none⟩) q_w_F10.out (.int .i64 qT.e))
       clear xCO56_0 xCO56_1 xCO56_2 xCO56_3 xCO56_4 xCO56_5 xLI56_0 xLI56_1 xLI56_2 xLI56_3 xLI56_4 xLI56_5 xF1056_0 xF1056_1 xF1056_2 xF1056_3 xF1056_4 xF1056_5 xF1056_0f xF1056_1f xF1056_2f xF1056_3f xF1056_4f xF1056_5f
       obtain ⟨xCO57_0, xCO57_1, xCO57_2, xCO57_3, xCO57_4, xCO57_5⟩ := CO.ce6
       obtain ⟨xLI57_0, xLI57_1, xLI57_2, xLI57_3, xLI57_4, xLI57_5⟩ := LI.ce6
       refine hK.out _ _ ?_ (fun hHeld => ?_)
       ·exact ⟨xCO57_0, xCO57_1, xCO57_2, xCO57_3, xCO57_4, xCO57_5, xLI57_0, xLI57_1, xLI57_2, xLI57_3, xLI57_4, xLI57_5⟩
       clear hK K
       (try dsimp only [Act.put]); (try go_frame)
       refine tkA 14 ?_
       (try dsimp only [Act.put]); (try go_frame)
       refine wpAnyH_done (by kernel_rfl) ?_ _
       try simp only [QCut]
       clear hHeld
       clear xCO57_0 xCO57_1 xCO57_2 xCO57_3 xCO57_4 xCO57_5 xLI57_0 xLI57_1 xLI57_2 xLI57_3 xLI57_4 xLI57_5
       go_wp2_with fail
       go_meet
       exact ⟨_, _, _, _, rfl, rfl, CO, NX, F10, q_CO_F10.out, q_NX_F10.out, q_w_F10.out, opT, oqT, HT, B0⟩
     case rest =>
      clear B0
      clear CO
      clear LI
      clear NX
      obtain ⟨S10, pT, qT, bT, rfl, rfl, CO, NX, F10, qCO_10, qNX_10, qw_10, opT, oqT, HT, B0⟩ := hcut
      generalize wc = v1 at *
      have q_CO_F10 := Lib.hid qCO_10
      have q_NX_F10 := Lib.hid qNX_10
      have q_w_F10 := Lib.hid qw_10
      clear qCO_10 qNX_10 qw_10
      cases bT
      ·go_wp2
       go_ret2
       exact ⟨ProdRes.no _ _ _ _ _ _, BW.trans (B0.mono BW.size)⟩
      ·have NK := NX.get' k (by rw [nx_len, hlN]; omega) (p := cr) (q := ci) HK.out.2.2.1
       go_upto_region 13 with fail
       go_cut [11, 12] (fun s11 s12 wy => ∃ S12 pL qL bL, s11 = .bool bL ∧ s12 = .pointer (some ⟨S12, 0, none⟩) ∧ El wy bc (k * 6) #[.bool ar.n, .string (bstr ar.x), .int .i64 ar.e, .bool ai.n, .string (bstr ai.x), .int .i64 ai.e] ∧ ZR wy wo.heap.size (nx (zr, zi) N k) ∧ Blk wy S12 #[.bool pL.n, .string (bstr pL.x), .int .i64 pL.e, .bool qL.n, .string (bstr qL.x), .int .i64 qL.e] 44 ∧ bc < S12 ∧ wo.heap.size < S12 ∧ wo.heap.size ≤ S12 ∧ SbR bL cr ci pT qT pL qL ∧ Below wo.heap.size wo wy)
       case first =>
        go_wp2_with fail
        refine wp_region_any (by kernel_rfl) ?_
        obtain ⟨xNK51_0, xNK51_1, xNK51_2, xNK51_3, xNK51_4, xNK51_5⟩ := NK.ce6
        obtain ⟨xF1051_0, xF1051_1, xF1051_2, xF1051_3, xF1051_4, xF1051_5⟩ := F10.ce6
        have hHeld : (fun w' : World => w'.cell? ⟨wo.heap.size, k * 6, none⟩ = some (.bool cr.n) ∧ w'.cell? ⟨wo.heap.size, k * 6 + 1, none⟩ = some (.string (bstr cr.x)) ∧ w'.cell? ⟨wo.heap.size, k * 6 + 2, none⟩ = some (.int .i64 cr.e) ∧ w'.cell? ⟨wo.heap.size, k * 6 + 3, none⟩ = some (.bool ci.n) ∧ w'.cell? ⟨wo.heap.size, k * 6 + 4, none⟩ = some (.string (bstr ci.x)) ∧ w'.cell? ⟨wo.heap.size, k * 6 + 5, none⟩ = some (.int .i64 ci.e) ∧ w'.cell? ⟨S10, 0, none⟩ = some (.bool pT.n) ∧ w'.cell? ⟨S10, 1, none⟩ = some (.string (bstr pT.x)) ∧ w'.cell? ⟨S10, 2, none⟩ = some (.int .i64 pT.e) ∧ w'.cell? ⟨S10, 3, none⟩ = some (.bool qT.n) ∧ w'.cell? ⟨S10, 4, none⟩ = some (.string (bstr qT.x)) ∧ w'.cell? ⟨S10, 5, none⟩ = some (.int .i64 qT.e)) (v1).drew := ⟨xNK51_0, xNK51_1, xNK51_2, xNK51_3, xNK51_4, xNK51_5, xF1051_0, xF1051_1, xF1051_2, xF1051_3, xF1051_4, xF1051_5⟩
        refine wpAny_of_held (S := fun w' : World => w'.cell? ⟨wo.heap.size, k * 6, none⟩ = some (.bool cr.n) ∧ w'.cell? ⟨wo.heap.size, k * 6 + 1, none⟩ = some (.string (bstr cr.x)) ∧ w'.cell? ⟨wo.heap.size, k * 6 + 2, none⟩ = some (.int .i64 cr.e) ∧ w'.cell? ⟨wo.heap.size, k * 6 + 3, none⟩ = some (.bool ci.n) ∧ w'.cell? ⟨wo.heap.size, k * 6 + 4, none⟩ = some (.string (bstr ci.x)) ∧ w'.cell? ⟨wo.heap.size, k * 6 + 5, none⟩ = some (.int .i64 ci.e) ∧ w'.cell? ⟨S10, 0, none⟩ = some (.bool pT.n) ∧ w'.cell? ⟨S10, 1, none⟩ = some (.string (bstr pT.x)) ∧ w'.cell? ⟨S10, 2, none⟩ = some (.int .i64 pT.e) ∧ w'.cell? ⟨S10, 3, none⟩ = some (.bool qT.n) ∧ w'.cell? ⟨S10, 4, none⟩ = some (.string (bstr qT.x)) ∧ w'.cell? ⟨S10, 5, none⟩ = some (.int .i64 qT.e)) _ _ _ (v1).drew ?_
        replace CO := CO.drew
        replace NX := NX.drew
        replace F10 := F10.drew
        replace NK := NK.drew
        replace B0 := B0.drew
        generalize (v1).drew = v2 at *
        refine tkA 0 ?_
        (try dsimp only [Act.put]); (try go_frame)
        refine tkA 1 ?_
        (try dsimp only [Act.put]); (try go_frame)
        refine tkA 2 ?_
        (try dsimp only [Act.put]); (try go_frame)
        refine tkA 3 ?_
        (try dsimp only [Act.put]); (try go_frame)
        refine tkA 4 ?_
        (try dsimp only [Act.put]); (try go_frame)
        refine wpAnyH_ready (rs := [5, 9]) (by kernel_rfl) (by simp) ?_
        refine AllReadyH.cons rfl (fun K hK => ?_) (AllReadyH.cons rfl (fun K hK => ?_) AllReadyH.nil)
        ·go_simp
         (with_reducible refine (c_tless _ ocr oci opT oqT).mono ?_)
         rintro r w21 ⟨⟨pL, qL, bL, rfl, eL1, eL2, hL⟩, hb21⟩
         clear xNK51_0 xNK51_1 xNK51_2 xNK51_3 xNK51_4 xNK51_5 xF1051_0 xF1051_1 xF1051_2 xF1051_3 xF1051_4 xF1051_5
         replace CO := CO.keep hb21
         replace NX := NX.keep hb21
         replace F10 := F10.keep hb21
         replace NK := NK.keep hb21
         replace B0 := B0.trans (hb21.mono B0.size)
         clear hb21
         have HL : SbR bL cr ci pT qT pL qL := ⟨eL1, eL2, hL⟩
         clear eL1 eL2 hL
         obtain ⟨xNK54_0, xNK54_1, xNK54_2, xNK54_3, xNK54_4, xNK54_5⟩ := NK.ce6
         obtain ⟨xF1054_0, xF1054_1, xF1054_2, xF1054_3, xF1054_4, xF1054_5⟩ := F10.ce6
         refine hK.out _ _ ?_ (fun hHeld => ?_)
         ·exact ⟨xNK54_0, xNK54_1, xNK54_2, xNK54_3, xNK54_4, xNK54_5, xF1054_0, xF1054_1, xF1054_2, xF1054_3, xF1054_4, xF1054_5⟩
         clear hK K
         (try dsimp only [Act.put]); (try go_frame)
         refine tkA 6 ?_
         (try dsimp only [Act.put]); (try go_frame)
         refine tkA 7 ?_
         (try dsimp only [Act.put]); (try go_frame)
         refine tkA 8 ?_
         (try dsimp only [Act.put]); (try go_frame)
         refine wpAnyH_ready (rs := [9]) (by kernel_rfl) (by simp) ?_
         refine AllReadyH.cons rfl (fun K hK => ?_) AllReadyH.nil
         go_simp
         obtain ⟨zNK0, zNK1, zNK2, zNK3, zNK4, zNK5⟩ := (NK.allocd (.cells #[.bool false, .string { data := #[] }, .int .i64 0, .bool false, .string { data := #[] }, .int .i64 0] 44)).ce6
         obtain ⟨zF100, zF101, zF102, zF103, zF104, zF105⟩ := (F10.allocd (.cells #[.bool false, .string { data := #[] }, .int .i64 0, .bool false, .string { data := #[] }, .int .i64 0] 44)).ce6
         clear xNK54_0 xNK54_1 xNK54_2 xNK54_3 xNK54_4 xNK54_5 xF1054_0 xF1054_1 xF1054_2 xF1054_3 xF1054_4 xF1054_5
         refine hK.out _ _ ?_ (fun hHeld => ?_)
         ·exact ⟨zNK0, zNK1, zNK2, zNK3, zNK4, zNK5, zF100, zF101, zF102, zF103, zF104, zF105⟩
         clear hK K
         (try dsimp only [Act.put]); (try go_frame)
         clear zNK0 zNK1 zNK2 zNK3 zNK4 zNK5 zF100 zF101 zF102 zF103 zF104 zF105
         refine wpAnyH_ready (rs := [10]) (by kernel_rfl) (by simp) ?_
         refine AllReadyH.cons rfl (fun K hK => ?_) AllReadyH.nil
         go_simp
         have q_CO_F12 : Hid (bc < w21.heap.size) := Lib.hid (by have := CO.lt; first | exact this | omega | (simp; done) | simpa using this)
         have q_NX_F12 : Hid (wo.heap.size < w21.heap.size) := Lib.hid (by have := NX.lt; first | exact this | omega | (simp; done) | simpa using this)
         have q_w_F12 : Hid (wo.heap.size ≤ w21.heap.size) := Lib.hid (by have := B0.size; first | exact this | omega | (simp; done) | simpa using this)
         replace CO := CO.allocd (.cells #[.bool pL.n, .string (bstr pL.x), .int .i64 pL.e, .bool qL.n, .string (bstr qL.x), .int .i64 qL.e] 44)
         replace NX := NX.allocd (.cells #[.bool pL.n, .string (bstr pL.x), .int .i64 pL.e, .bool qL.n, .string (bstr qL.x), .int .i64 qL.e] 44)
         replace F10 := F10.allocd (.cells #[.bool pL.n, .string (bstr pL.x), .int .i64 pL.e, .bool qL.n, .string (bstr qL.x), .int .i64 qL.e] 44)
         replace NK := NK.allocd (.cells #[.bool pL.n, .string (bstr pL.x), .int .i64 pL.e, .bool qL.n, .string (bstr qL.x), .int .i64 qL.e] 44)
         have F12 := Blk.put (w21) #[.bool pL.n, .string (bstr pL.x), .int .i64 pL.e, .bool qL.n, .string (bstr qL.x), .int .i64 qL.e] 44
         replace B0 := B0.alloc B0.size (.cells #[.bool pL.n, .string (bstr pL.x), .int .i64 pL.e, .bool qL.n, .string (bstr qL.x), .int .i64 qL.e] 44)
         obtain ⟨xNK56_0, xNK56_1, xNK56_2, xNK56_3, xNK56_4, xNK56_5⟩ := NK.ce6
         obtain ⟨xF1056_0, xF1056_1, xF1056_2, xF1056_3, xF1056_4, xF1056_5⟩ := F10.ce6
         refine hK.out _ _ ?_ (fun hHeld => ?_)
         ·exact ⟨xNK56_0, xNK56_1, xNK56_2, xNK56_3, xNK56_4, xNK56_5, xF1056_0, xF1056_1, xF1056_2, xF1056_3, xF1056_4, xF1056_5⟩
         clear hK K
         (try dsimp only [Act.put]); (try go_frame)
         refine tkA 11 ?_
         (try dsimp only [Act.put]); (try go_frame)
         refine wpAnyH_done (by kernel_rfl) ?_ _
         try simp only [QCut]
         clear hHeld
         clear xNK56_0 xNK56_1 xNK56_2 xNK56_3 xNK56_4 xNK56_5 xF1056_0 xF1056_1 xF1056_2 xF1056_3 xF1056_4 xF1056_5
         go_wp2_with fail
         go_meet
         exact ⟨_, _, _, _, rfl, rfl, CO, NX, F12, q_CO_F12.out, q_NX_F12.out, q_w_F12.out, HL, B0⟩
        ·go_simp
         clear xNK51_0 xNK51_1 xNK51_2 xNK51_3 xNK51_4 xNK51_5 xF1051_0 xF1051_1 xF1051_2 xF1051_3 xF1051_4 xF1051_5
         have q_CO_F12 : Hid (bc < v2.heap.size) := Lib.hid (by have := CO.lt; first | exact this | omega | (simp; done) | simpa using this)
         have q_NX_F12 : Hid (wo.heap.size < v2.heap.size) := Lib.hid (by have := NX.lt; first | exact this | omega | (simp; done) | simpa using this)
         have q_F10_F12 : Hid (S10 < v2.heap.size) := Lib.hid (by have := F10.lt; first | exact this | omega | (simp; done) | simpa using this)
         have q_NK_F12 : Hid (wo.heap.size < v2.heap.size) := Lib.hid (by have := NK.lt; first | exact this | omega | (simp; done) | simpa using this)
         have q_w_F12 : Hid (wo.heap.size ≤ v2.heap.size) := Lib.hid (by have := B0.size; first | exact this | omega | (simp; done) | simpa using this)
         replace CO := CO.allocd (.cells #[.bool false, .string { data := #[] }, .int .i64 0, .bool false, .string { data := #[] }, .int .i64 0] 44)
         replace NX := NX.allocd (.cells #[.bool false, .string { data := #[] }, .int .i64 0, .bool false, .string { data := #[] }, .int .i64 0] 44)
         replace F10 := F10.allocd (.cells #[.bool false, .string { data := #[] }, .int .i64 0, .bool false, .string { data := #[] }, .int .i64 0] 44)
         replace NK := NK.allocd (.cells #[.bool false, .string { data := #[] }, .int .i64 0, .bool false, .string { data := #[] }, .int .i64 0] 44)
         have F12 := Blk.put (v2) #[.bool false, .string { data := #[] }, .int .i64 0, .bool false, .string { data := #[] }, .int .i64 0] 44
         replace B0 := B0.alloc B0.size (.cells #[.bool false, .string { data := #[] }, .int .i64 0, .bool false, .string { data := #[] }, .int .i64 0] 44)
         generalize (v2).alloc (.cells #[.bool false, .string { data := #[] }, .int .i64 0, .bool false, .string { data := #[] }, .int .i64 0] 44) = v3 at *
         obtain ⟨xNK56_0, xNK56_1, xNK56_2, xNK56_3, xNK56_4, xNK56_5⟩ := NK.ce6
         obtain ⟨xF1056_0, xF1056_1, xF1056_2, xF1056_3, xF1056_4, xF1056_5⟩ := F10.ce6
         refine hK.out _ _ ?_ (fun hHeld => ?_)
         ·exact ⟨xNK56_0, xNK56_1, xNK56_2, xNK56_3, xNK56_4, xNK56_5, xF1056_0, xF1056_1, xF1056_2, xF1056_3, xF1056_4, xF1056_5⟩
         clear hK K
         (try dsimp only [Act.put]); (try go_frame)
         refine wpAnyH_ready (rs := [5]) (by kernel_rfl) (by simp) ?_
         refine AllReadyH.cons rfl (fun K hK => ?_) AllReadyH.nil
         go_simp
         (with_reducible refine (c_tless _ ocr oci opT oqT).mono ?_)
         rintro r w21 ⟨⟨pL, qL, bL, rfl, eL1, eL2, hL⟩, hb21⟩
         clear xNK56_0 xNK56_1 xNK56_2 xNK56_3 xNK56_4 xNK56_5 xF1056_0 xF1056_1 xF1056_2 xF1056_3 xF1056_4 xF1056_5
         replace CO := CO.keep hb21
         replace NX := NX.keep hb21
         replace F10 := F10.keep hb21
         replace NK := NK.keep hb21
         replace F12 := F12.keep hb21
         replace B0 := B0.trans (hb21.mono B0.size)
         clear hb21
         have HL : SbR bL cr ci pT qT pL qL := ⟨eL1, eL2, hL⟩
         clear eL1 eL2 hL
         obtain ⟨xNK57_0, xNK57_1, xNK57_2, xNK57_3, xNK57_4, xNK57_5⟩ := NK.ce6
         obtain ⟨xF1057_0, xF1057_1, xF1057_2, xF1057_3, xF1057_4, xF1057_5⟩ := F10.ce6
         refine hK.out _ _ ?_ (fun hHeld => ?_)
         ·exact ⟨xNK57_0, xNK57_1, xNK57_2, xNK57_3, xNK57_4, xNK57_5, xF1057_0, xF1057_1, xF1057_2, xF1057_3, xF1057_4, xF1057_5⟩
         clear hK K
         (try dsimp only [Act.put]); (try go_frame)
         refine tkA 6 ?_
         (try dsimp only [Act.put]); (try go_frame)
         refine tkA 7 ?_
         (try dsimp only [Act.put]); (try go_frame)
         refine tkA 8 ?_
         (try dsimp only [Act.put]); (try go_frame)
         obtain ⟨xF1257_0, xF1257_1, xF1257_2, xF1257_3, xF1257_4, xF1257_5⟩ := F12.ce6
         obtain ⟨xF1257_0f, xF1257_1f, xF1257_2f, xF1257_3f, xF1257_4f, xF1257_5f⟩ := F12.fr6
         refine wpAnyH_ready (rs := [10]) (by kernel_rfl) (by simp) ?_
         refine AllReadyH.cons rfl (fun K hK => ?_) AllReadyH.nil
         go_simp
         replace CO := ((((((CO.far 0 (.bool pL.n) (Nat.ne_of_lt q_CO_F12.out)).far 1 (.string (bstr pL.x)) (Nat.ne_of_lt q_CO_F12.out)).far 2 (.int .i64 pL.e) (Nat.ne_of_lt q_CO_F12.out)).far 3 (.bool qL.n) (Nat.ne_of_lt q_CO_F12.out)).far 4 (.string (bstr qL.x)) (Nat.ne_of_lt q_CO_F12.out)).far 5 (.int .i64 qL.e) (Nat.ne_of_lt q_CO_F12.out))
         replace NX := ((((((NX.far 0 (.bool pL.n) (Nat.ne_of_lt q_NX_F12.out)).far 1 (.string (bstr pL.x)) (Nat.ne_of_lt q_NX_F12.out)).far 2 (.int .i64 pL.e) (Nat.ne_of_lt q_NX_F12.out)).far 3 (.bool qL.n) (Nat.ne_of_lt q_NX_F12.out)).far 4 (.string (bstr qL.x)) (Nat.ne_of_lt q_NX_F12.out)).far 5 (.int .i64 qL.e) (Nat.ne_of_lt q_NX_F12.out))
         replace F10 := ((((((F10.far 0 (.bool pL.n) (Nat.ne_of_lt q_F10_F12.out)).far 1 (.string (bstr pL.x)) (Nat.ne_of_lt q_F10_F12.out)).far 2 (.int .i64 pL.e) (Nat.ne_of_lt q_F10_F12.out)).far 3 (.bool qL.n) (Nat.ne_of_lt q_F10_F12.out)).far 4 (.string (bstr qL.x)) (Nat.ne_of_lt q_F10_F12.out)).far 5 (.int .i64 qL.e) (Nat.ne_of_lt q_F10_F12.out))
         replace NK := ((((((NK.far 0 (.bool pL.n) (Nat.ne_of_lt q_NK_F12.out)).far 1 (.string (bstr pL.x)) (Nat.ne_of_lt q_NK_F12.out)).far 2 (.int .i64 pL.e) (Nat.ne_of_lt q_NK_F12.out)).far 3 (.bool qL.n) (Nat.ne_of_lt q_NK_F12.out)).far 4 (.string (bstr qL.x)) (Nat.ne_of_lt q_NK_F12.out)).far 5 (.int .i64 qL.e) (Nat.ne_of_lt q_NK_F12.out))
         replace F12 : Blk (((((((w21).setCell ⟨v2.heap.size, 0, none⟩ (.bool pL.n)).setCell ⟨v2.heap.size, 1, none⟩ (.string (bstr pL.x))).setCell ⟨v2.heap.size, 2, none⟩ (.int .i64 pL.e)).setCell ⟨v2.heap.size, 3, none⟩ (.bool qL.n)).setCell ⟨v2.heap.size, 4, none⟩ (.string (bstr qL.x))).setCell ⟨v2.heap.size, 5, none⟩ (.int .i64 qL.e)) (v2.heap.size) #[.bool pL.n, .string (bstr pL.x), .int .i64 pL.e, .bool qL.n, .string (bstr qL.x), .int .i64 qL.e] 44 := ((((((F12.setAt 0 (.bool pL.n)).setAt 1 (.string (bstr pL.x))).setAt 2 (.int .i64 pL.e)).setAt 3 (.bool qL.n)).setAt 4 (.string (bstr qL.x))).setAt 5 (.int .i64 qL.e))
         replace B0 := ((((((B0.setCell (p := ⟨v2.heap.size, 0, none⟩) q_w_F12.out (.bool pL.n)).setCell (p := ⟨v2.heap.size, 1, none⟩) q_w_F12.out (.string (bstr pL.x))).setCell (p := ⟨v2.heap.size, 2, none⟩) q_w_F12.out (.int .i64 pL.e)).setCell (p := ⟨v2.heap.size, 3, none⟩) q_w_F12.out (.bool qL.n)).setCell (p := ⟨v2.heap.size, 4, none⟩) q_w_F12.out (.string (bstr qL.x))).setCell (p := ⟨v2.heap.size, 5, none⟩) q_w_F12.out (.int .i64 qL.e))
         clear xNK57_0 xNK57_1 xNK57_2 xNK57_3 xNK57_4 xNK57_5 xF1057_0 xF1057_1 xF1057_2 xF1057_3 xF1057_4 xF1057_5 xF1257_0 xF1257_1 xF1257_2 xF1257_3 xF1257_4 xF1257_5 xF1257_0f xF1257_1f xF1257_2f xF1257_3f xF1257_4f xF1257_5f
         obtain ⟨xNK58_0, xNK58_1, xNK58_2, xNK58_3, xNK58_4, xNK58_5⟩ := NK.ce6
         obtain ⟨xF1058_0, xF1058_1, xF1058_2, xF1058_3, xF1058_4, xF1058_5⟩ := F10.ce6
         refine hK.out _ _ ?_ (fun hHeld => ?_)
         ·exact ⟨xNK58_0, xNK58_1, xNK58_2, xNK58_3, xNK58_4, xNK58_5, xF1058_0, xF1058_1, xF1058_2, xF1058_3, xF1058_4, xF1058_5⟩
         clear hK K
         (try dsimp only [Act.put]); (try go_frame)
         refine tkA 11 ?_
         (try dsimp only [Act.put]); (try go_frame)
         refine wpAnyH_done (by kernel_rfl) ?_ _
         try simp only [QCut]
         clear hHeld
         clear xNK58_0 xNK58_1 xNK58_2 xNK58_3 xNK58_4 xNK58_5 xF1058_0 xF1058_1 xF1058_2 xF1058_3 xF1058_4 xF1058_5
         go_wp2_with fail
         go_meet
         exact ⟨_, _, _, _, rfl, rfl, CO, NX, F12, q_CO_F12.out, q_NX_F12.out, q_w_F12.out, HL, B0⟩
       case rest =>
        clear B0
        clear CO
        clear NX
        clear F10
        clear NK
        obtain ⟨S12, pL, qL, bL, rfl, rfl, CO, NX, F12, qCO_12, qNX_12, qw_12, HL, B0⟩ := hcut
        generalize wc = v2 at *
        have q_CO_F12 := Lib.hid qCO_12
        have q_NX_F12 := Lib.hid qNX_12
        have q_w_F12 := Lib.hid qw_12
        clear qCO_12 qNX_12 qw_12
        have opL : pL.ok := by rw [HL.1]; exact ySub_ok _ _
        have oqL : qL.ok := by rw [HL.2.1]; exact ySub_ok _ _
        have q_CO_NX := Lib.hid (show bc < wo.heap.size from hbc)
        cases bL
        ·go_wp2
         go_ret2
         exact ⟨ProdRes.no _ _ _ _ _ _, BW.trans (B0.mono BW.size)⟩
        ·obtain ⟨xF1252_0, xF1252_1, xF1252_2, xF1252_3, xF1252_4, xF1252_5⟩ := F12.ce6
         obtain ⟨fz0, fz1, fz2, fz3, fz4, fz5⟩ := NX.free6 (k * 6)
         obtain ⟨cz0, cz1, cz2, cz3, cz4, cz5⟩ := (NX.get k (by rw [nx_len, hlN]; omega)).ce6
         go_upto_region 17 with fail
         clear fz0 fz1 fz2 fz3 fz4 fz5 cz0 cz1 cz2 cz3 cz4 cz5
         clear xF1252_0 xF1252_1 xF1252_2 xF1252_3 xF1252_4 xF1252_5
         replace CO := ((((((CO.far (k * 6) (.bool pL.n) (Nat.ne_of_lt q_CO_NX.out)).far (k * 6 + 1) (.string (bstr pL.x)) (Nat.ne_of_lt q_CO_NX.out)).far (k * 6 + 2) (.int .i64 pL.e) (Nat.ne_of_lt q_CO_NX.out)).far (k * 6 + 3) (.bool qL.n) (Nat.ne_of_lt q_CO_NX.out)).far (k * 6 + 4) (.string (bstr qL.x)) (Nat.ne_of_lt q_CO_NX.out)).far (k * 6 + 5) (.int .i64 qL.e) (Nat.ne_of_lt q_CO_NX.out))
         replace F12 := ((((((F12.far (k * 6) (.bool pL.n) (Nat.ne_of_gt q_NX_F12.out)).far (k * 6 + 1) (.string (bstr pL.x)) (Nat.ne_of_gt q_NX_F12.out)).far (k * 6 + 2) (.int .i64 pL.e) (Nat.ne_of_gt q_NX_F12.out)).far (k * 6 + 3) (.bool qL.n) (Nat.ne_of_gt q_NX_F12.out)).far (k * 6 + 4) (.string (bstr qL.x)) (Nat.ne_of_gt q_NX_F12.out)).far (k * 6 + 5) (.int .i64 qL.e) (Nat.ne_of_gt q_NX_F12.out))
         replace NX : ZR (((((((v2).setCell ⟨wo.heap.size, k * 6, none⟩ (.bool pL.n)).setCell ⟨wo.heap.size, k * 6 + 1, none⟩ (.string (bstr pL.x))).setCell ⟨wo.heap.size, k * 6 + 2, none⟩ (.int .i64 pL.e)).setCell ⟨wo.heap.size, k * 6 + 3, none⟩ (.bool qL.n)).setCell ⟨wo.heap.size, k * 6 + 4, none⟩ (.string (bstr qL.x))).setCell ⟨wo.heap.size, k * 6 + 5, none⟩ (.int .i64 qL.e)) wo.heap.size ((nx (zr, zi) N k).set k (pL, qL)) := NX.put6 k (by rw [nx_len, hlN]; omega) pL qL
         replace B0 := ((((((B0.setCell (p := ⟨wo.heap.size, k * 6, none⟩) (Nat.le_refl _) (.bool pL.n)).setCell (p := ⟨wo.heap.size, k * 6 + 1, none⟩) (Nat.le_refl _) (.string (bstr pL.x))).setCell (p := ⟨wo.heap.size, k * 6 + 2, none⟩) (Nat.le_refl _) (.int .i64 pL.e)).setCell (p := ⟨wo.heap.size, k * 6 + 3, none⟩) (Nat.le_refl _) (.bool qL.n)).setCell (p := ⟨wo.heap.size, k * 6 + 4, none⟩) (Nat.le_refl _) (.string (bstr qL.x))).setCell (p := ⟨wo.heap.size, k * 6 + 5, none⟩) (Nat.le_refl _) (.int .i64 qL.e))
         generalize ((((((v2).setCell ⟨wo.heap.size, k * 6, none⟩ (.bool pL.n)).setCell ⟨wo.heap.size, k * 6 + 1, none⟩ (.string (bstr pL.x))).setCell ⟨wo.heap.size, k * 6 + 2, none⟩ (.int .i64 pL.e)).setCell ⟨wo.heap.size, k * 6 + 3, none⟩ (.bool qL.n)).setCell ⟨wo.heap.size, k * 6 + 4, none⟩ (.string (bstr qL.x))).setCell ⟨wo.heap.size, k * 6 + 5, none⟩ (.int .i64 qL.e) = v3 at *
         have ND := NX.get' (k + 1) (by rw [List.length_set, nx_len, hlN]; omega) (p := dr) (q := di) (by rw [getD_set _ (by omega)]; exact HK.out.2.2.2)
         have q_ND_F12 := Lib.hid (show wo.heap.size < S12 from q_NX_F12.out)
         go_wp2_with fail
         refine wp_region_any (by kernel_rfl) ?_
         obtain ⟨xND53_0, xND53_1, xND53_2, xND53_3, xND53_4, xND53_5⟩ := ND.ce6
         obtain ⟨xCO53_0, xCO53_1, xCO53_2, xCO53_3, xCO53_4, xCO53_5⟩ := CO.ce6
         have hHeld : (fun w' : World => w'.cell? ⟨wo.heap.size, (k + 1) * 6, none⟩ = some (.bool dr.n) ∧ w'.cell? ⟨wo.heap.size, (k + 1) * 6 + 1, none⟩ = some (.string (bstr dr.x)) ∧ w'.cell? ⟨wo.heap.size, (k + 1) * 6 + 2, none⟩ = some (.int .i64 dr.e) ∧ w'.cell? ⟨wo.heap.size, (k + 1) * 6 + 3, none⟩ = some (.bool di.n) ∧ w'.cell? ⟨wo.heap.size, (k + 1) * 6 + 4, none⟩ = some (.string (bstr di.x)) ∧ w'.cell? ⟨wo.heap.size, (k + 1) * 6 + 5, none⟩ = some (.int .i64 di.e) ∧ w'.cell? ⟨bc, k * 6, none⟩ = some (.bool ar.n) ∧ w'.cell? ⟨bc, k * 6 + 1, none⟩ = some (.string (bstr ar.x)) ∧ w'.cell? ⟨bc, k * 6 + 2, none⟩ = some (.int .i64 ar.e) ∧ w'.cell? ⟨bc, k * 6 + 3, none⟩ = some (.bool ai.n) ∧ w'.cell? ⟨bc, k * 6 + 4, none⟩ = some (.string (bstr ai.x)) ∧ w'.cell? ⟨bc, k * 6 + 5, none⟩ = some (.int .i64 ai.e)) (v3).drew := ⟨xND53_0, xND53_1, xND53_2, xND53_3, xND53_4, xND53_5, xCO53_0, xCO53_1, xCO53_2, xCO53_3, xCO53_4, xCO53_5⟩
         refine wpAny_of_held (S := fun w' : World => w'.cell? ⟨wo.heap.size, (k + 1) * 6, none⟩ = some (.bool dr.n) ∧ w'.cell? ⟨wo.heap.size, (k + 1) * 6 + 1, none⟩ = some (.string (bstr dr.x)) ∧ w'.cell? ⟨wo.heap.size, (k + 1) * 6 + 2, none⟩ = some (.int .i64 dr.e) ∧ w'.cell? ⟨wo.heap.size, (k + 1) * 6 + 3, none⟩ = some (.bool di.n) ∧ w'.cell? ⟨wo.heap.size, (k + 1) * 6 + 4, none⟩ = some (.string (bstr di.x)) ∧ w'.cell? ⟨wo.heap.size, (k + 1) * 6 + 5, none⟩ = some (.int .i64 di.e) ∧ w'.cell? ⟨bc, k * 6, none⟩ = some (.bool ar.n) ∧ w'.cell? ⟨bc, k * 6 + 1, none⟩ = some (.string (bstr ar.x)) ∧ w'.cell? ⟨bc, k * 6 + 2, none⟩ = some (.int .i64 ar.e) ∧ w'.cell? ⟨bc, k * 6 + 3, none⟩ = some (.bool ai.n) ∧ w'.cell? ⟨bc, k * 6 + 4, none⟩ = some (.string (bstr ai.x)) ∧ w'.cell? ⟨bc, k * 6 + 5, none⟩ = some (.int .i64 ai.e)) _ _ _ (v3).drew ?_
         replace ND := ND.drew
         replace CO := CO.drew
         replace NX := NX.drew
         replace F12 := F12.drew
         replace B0 := B0.drew
         generalize (v3).drew = v4 at *
         refine tkA 0 ?_
         (try dsimp only [Act.put]); (try go_frame)
         refine tkA 1 ?_
         (try dsimp only [Act.put]); (try go_frame)
         refine wpAnyH_take (i := 2) (v := .int .i64 ((k : Int) + 1)) (by first | (simp only [List.getElem?_toArray, List.getElem?_cons_zero, List.getElem?_cons_succ]; rfl) | rfl) (by kernel_rfl) (by kernel_rfl) (by kernel_rfl) (by exact fun _ _ _ h => h) (Or.inl ⟨by rfl, by (intro w hSw; (try dsimp only at hSw); go_simp; try rw [hwk])⟩) (by assumption) ?_
         (try dsimp only [Act.put]); (try go_frame)
         refine wpAnyH_take (i := 3) (v := .pointer (some ⟨wo.heap.size, (k + 1) * 6, none⟩)) (by first | (simp only [List.getElem?_toArray, List.getElem?_cons_zero, List.getElem?_cons_succ]; rfl) | rfl) (by kernel_rfl) (by kernel_rfl) (by kernel_rfl) (by exact fun _ _ _ h => h) (Or.inl ⟨by rfl, by (intro w hSw; (try dsimp only at hSw); go_simp; try rw [htk])⟩) (by assumption) ?_
         (try dsimp only [Act.put]); (try go_frame)
         refine tkA 4 ?_
         (try dsimp only [Act.put]); (try go_frame)
         refine tkA 5 ?_
         (try dsimp only [Act.put]); (try go_frame)
         refine tkA 6 ?_
         (try dsimp only [Act.put]); (try go_frame)
         refine tkA 7 ?_
         (try dsimp only [Act.put]); (try go_frame)
         refine tkA 8 ?_
         (try dsimp only [Act.put]); (try go_frame)
         refine wpAnyH_ready (rs := [9]) (by kernel_rfl) (by simp) ?_
         refine AllReadyH.cons rfl (fun K hK => ?_) AllReadyH.nil
         go_simp
         (with_reducible refine (c_tsum _ odr odi oar oai).mono ?_)
         rintro r w21 ⟨⟨pS, qS, bS, rfl, eS1, eS2, hS⟩, hb21⟩
         clear xND53_0 xND53_1 xND53_2 xND53_3 xND53_4 xND53_5 xCO53_0 xCO53_1 xCO53_2 xCO53_3 xCO53_4 xCO53_5
         replace ND := ND.keep hb21
         replace CO := CO.keep hb21
         replace NX := NX.keep hb21
         replace F12 := F12.keep hb21
         replace B0 := B0.trans (hb21.mono B0.size)
         clear hb21
         have HS2 : AdR bS dr di ar ai pS qS := ⟨eS1, eS2, hS⟩
         clear eS1 eS2 hS
         obtain ⟨xND56_0, xND56_1, xND56_2, xND56_3, xND56_4, xND56_5⟩ := ND.ce6
         obtain ⟨xCO56_0, xCO56_1, xCO56_2, xCO56_3, xCO56_4, xCO56_5⟩ := CO.ce6
         refine hK.out _ _ ?_ (fun hHeld => ?_)
         ·exact ⟨xND56_0, xND56_1, xND56_2, xND56_3, xND56_4, xND56_5, xCO56_0, xCO56_1, xCO56_2, xCO56_3, xCO56_4, xCO56_5⟩
         clear hK K
         (try dsimp only [Act.put]); (try go_frame)
         refine tkA 10 ?_
         (try dsimp only [Act.put]); (try go_frame)
         refine tkA 11 ?_
         (try dsimp only [Act.put]); (try go_frame)
         refine tkA 12 ?_
         (try dsimp only [Act.put]); (try go_frame)
         obtain ⟨xF1256_0, xF1256_1, xF1256_2, xF1256_3, xF1256_4, xF1256_5⟩ := F12.ce6
         obtain ⟨xF1256_0f, xF1256_1f, xF1256_2f, xF1256_3f, xF1256_4f, xF1256_5f⟩ := F12.fr6
         refine wpAnyH_ready (rs := [13]) (by kernel_rfl) (by simp) ?_
         refine AllReadyH.cons rfl (fun K hK => ?_) AllReadyH.nil
         go_simp
         replace ND := ((((((ND.far 0 (.bool pS.n) (Nat.ne_of_lt q_ND_F12.out)).far 1 (.string (bstr pS.x)) (Nat.ne_of_lt q_ND_F12.out)).far 2 (.int .i64 pS.e) (Nat.ne_of_lt q_ND_F12.out)).far 3 (.bool qS.n) (Nat.ne_of_lt q_ND_F12.out)).far 4 (.string (bstr qS.x)) (Nat.ne_of_lt q_ND_F12.out)).far 5 (.int .i64 qS.e) (Nat.ne_of_lt q_ND_F12.out))
         replace CO := ((((((CO.far 0 (.bool pS.n) (Nat.ne_of_lt q_CO_F12.out)).far 1 (.string (bstr pS.x)) (Nat.ne_of_lt q_CO_F12.out)).far 2 (.int .i64 pS.e) (Nat.ne_of_lt q_CO_F12.out)).far 3 (.bool qS.n) (Nat.ne_of_lt q_CO_F12.out)).far 4 (.string (bstr qS.x)) (Nat.ne_of_lt q_CO_F12.out)).far 5 (.int .i64 qS.e) (Nat.ne_of_lt q_CO_F12.out))
         replace NX := ((((((NX.far 0 (.bool pS.n) (Nat.ne_of_lt q_NX_F12.out)).far 1 (.string (bstr pS.x)) (Nat.ne_of_lt q_NX_F12.out)).far 2 (.int .i64 pS.e) (Nat.ne_of_lt q_NX_F12.out)).far 3 (.bool qS.n) (Nat.ne_of_lt q_NX_F12.out)).far 4 (.string (bstr qS.x)) (Nat.ne_of_lt q_NX_F12.out)).far 5 (.int .i64 qS.e) (Nat.ne_of_lt q_NX_F12.out))
         replace F12 : Blk (((((((w21).setCell ⟨S12, 0, none⟩ (.bool pS.n)).setCell ⟨S12, 1, none⟩ (.string (bstr pS.x))).setCell ⟨S12, 2, none⟩ (.int .i64 pS.e)).setCell ⟨S12, 3, none⟩ (.bool qS.n)).setCell ⟨S12, 4, none⟩ (.string (bstr qS.x))).setCell ⟨S12, 5, none⟩ (.int .i64 qS.e)) (S12) #[.bool pS.n, .string (bstr pS.x), .int .i64 pS.e, .bool qS.n, .string (bstr qS.x), .int .i64 qS.e] 44 := ((((((F12.setAt 0 (.bool pS.n)).setAt 1 (.string (bstr pS.x))).setAt 2 (.int .i64 pS.e)).setAt 3 (.bool qS.n)).setAt 4 (.string (bstr qS.x))).setAt 5 (.int .i64 qS.e))
         replace B0 := ((((((B0.setCell (p := ⟨S12, 0, none⟩) q_w_F12.out (.bool pS.n)).setCell (p := ⟨S12, 1, none⟩) q_w_F12.out (.string (bstr pS.x))).setCell (p := ⟨S12, 2, none⟩) q_w_F12.out (.int .i64 pS.e)).setCell (p := ⟨S12, 3, none⟩) q_w_F12.out (.bool qS.n)).setCell (p := ⟨S12, 4, none⟩) q_w_F12.out (.string (bstr qS.x))).setCell (p := ⟨S12, 5, none⟩) q_w_F12.out (.int .i64 qS.e))
         generalize ((((((w21).setCell ⟨S12, 0, none⟩ (.bool pS.n)).setCell ⟨S12, 1, none⟩ (.string (bstr pS.x))).setCell ⟨S12, 2, none⟩ (.int .i64 pS.e)).setCell ⟨S12, 3, none⟩ (.bool qS.n)).setCell ⟨S12, 4, none⟩ (.string (bstr qS.x))).setCell ⟨S12, 5, none⟩ (.int .i64 qS.e) = v5 at *
         clear xND56_0 xND56_1 xND56_2 xND56_3 xND56_4 xND56_5 xCO56_0 xCO56_1 xCO56_2 xCO56_3 xCO56_4 xCO56_5 xF1256_0 xF1256_1 xF1256_2 xF1256_3 xF1256_4 xF1256_5 xF1256_0f xF1256_1f xF1256_2f xF1256_3f xF1256_4f xF1256_5f
         obtain ⟨xND58_0, xND58_1, xND58_2, xND58_3, xND58_4, xND58_5⟩ := ND.ce6
         obtain ⟨xCO58_0, xCO58_1, xCO58_2, xCO58_3, xCO58_4, xCO58_5⟩ := CO.ce6
         refine hK.out _ _ ?_ (fun hHeld => ?_)
         ·exact ⟨xND58_0, xND58_1, xND58_2, xND58_3, xND58_4, xND58_5, xCO58_0, xCO58_1, xCO58_2, xCO58_3, xCO58_4, xCO58_5⟩
         clear hK K
         (try dsimp only [Act.put]); (try go_frame)
         refine tkA 14 ?_
         (try dsimp only [Act.put]); (try go_frame)
         refine wpAnyH_done (by kernel_rfl) ?_ _
         try simp only [QCut]
         clear hHeld
         clear xND58_0 xND58_1 xND58_2 xND58_3 xND58_4 xND58_5 xCO58_0 xCO58_1 xCO58_2 xCO58_3 xCO58_4 xCO58_5
         cases bS
         ·go_wp2
          go_ret2
          exact ⟨ProdRes.no _ _ _ _ _ _, BW.trans (B0.mono BW.size)⟩
         ·obtain ⟨xF1258_0, xF1258_1, xF1258_2, xF1258_3, xF1258_4, xF1258_5⟩ := F12.ce6
          clear ND
          obtain ⟨fz0, fz1, fz2, fz3, fz4, fz5⟩ := NX.free6 ((k + 1) * 6)
          obtain ⟨cz0, cz1, cz2, cz3, cz4, cz5⟩ := (NX.get (k + 1) (by rw [List.length_set, nx_len, hlN]; omega)).ce6
          go_wp2
          clear fz0 fz1 fz2 fz3 fz4 fz5 cz0 cz1 cz2 cz3 cz4 cz5
          clear xF1258_0 xF1258_1 xF1258_2 xF1258_3 xF1258_4 xF1258_5
          replace CO := ((((((CO.far ((k + 1) * 6) (.bool pS.n) (Nat.ne_of_lt q_CO_NX.out)).far ((k + 1) * 6 + 1) (.string (bstr pS.x)) (Nat.ne_of_lt q_CO_NX.out)).far ((k + 1) * 6 + 2) (.int .i64 pS.e) (Nat.ne_of_lt q_CO_NX.out)).far ((k + 1) * 6 + 3) (.bool qS.n) (Nat.ne_of_lt q_CO_NX.out)).far ((k + 1) * 6 + 4) (.string (bstr qS.x)) (Nat.ne_of_lt q_CO_NX.out)).far ((k + 1) * 6 + 5) (.int .i64 qS.e) (Nat.ne_of_lt q_CO_NX.out))
          replace F12 := ((((((F12.far ((k + 1) * 6) (.bool pS.n) (Nat.ne_of_gt q_NX_F12.out)).far ((k + 1) * 6 + 1) (.string (bstr pS.x)) (Nat.ne_of_gt q_NX_F12.out)).far ((k + 1) * 6 + 2) (.int .i64 pS.e) (Nat.ne_of_gt q_NX_F12.out)).far ((k + 1) * 6 + 3) (.bool qS.n) (Nat.ne_of_gt q_NX_F12.out)).far ((k + 1) * 6 + 4) (.string (bstr qS.x)) (Nat.ne_of_gt q_NX_F12.out)).far ((k + 1) * 6 + 5) (.int .i64 qS.e) (Nat.ne_of_gt q_NX_F12.out))
          replace NX : ZR (((((((v5).setCell ⟨wo.heap.size, (k + 1) * 6, none⟩ (.bool pS.n)).setCell ⟨wo.heap.size, (k + 1) * 6 + 1, none⟩ (.string (bstr pS.x))).setCell ⟨wo.heap.size, (k + 1) * 6 + 2, none⟩ (.int .i64 pS.e)).setCell ⟨wo.heap.size, (k + 1) * 6 + 3, none⟩ (.bool qS.n)).setCell ⟨wo.heap.size, (k + 1) * 6 + 4, none⟩ (.string (bstr qS.x))).setCell ⟨wo.heap.size, (k + 1) * 6 + 5, none⟩ (.int .i64 qS.e)) wo.heap.size (((nx (zr, zi) N k).set k (pL, qL)).set (k + 1) (pS, qS)) := NX.put6 (k + 1) (by rw [List.length_set, nx_len, hlN]; omega) pS qS
          replace B0 := ((((((B0.setCell (p := ⟨wo.heap.size, (k + 1) * 6, none⟩) (Nat.le_refl _) (.bool pS.n)).setCell (p := ⟨wo.heap.size, (k + 1) * 6 + 1, none⟩) (Nat.le_refl _) (.string (bstr pS.x))).setCell (p := ⟨wo.heap.size, (k + 1) * 6 + 2, none⟩) (Nat.le_refl _) (.int .i64 pS.e)).setCell (p := ⟨wo.heap.size, (k + 1) * 6 + 3, none⟩) (Nat.le_refl _) (.bool qS.n)).setCell (p := ⟨wo.heap.size, (k + 1) * 6 + 4, none⟩) (Nat.le_refl _) (.string (bstr qS.x))).setCell (p := ⟨wo.heap.size, (k + 1) * 6 + 5, none⟩) (Nat.le_refl _) (.int .i64 qS.e))
          generalize ((((((v5).setCell ⟨wo.heap.size, (k + 1) * 6, none⟩ (.bool pS.n)).setCell ⟨wo.heap.size, (k + 1) * 6 + 1, none⟩ (.string (bstr pS.x))).setCell ⟨wo.heap.size, (k + 1) * 6 + 2, none⟩ (.int .i64 pS.e)).setCell ⟨wo.heap.size, (k + 1) * 6 + 3, none⟩ (.bool qS.n)).setCell ⟨wo.heap.size, (k + 1) * 6 + 4, none⟩ (.string (bstr qS.x))).setCell ⟨wo.heap.size, (k + 1) * 6 + 5, none⟩ (.int .i64 qS.e) = v6 at *
          rw [← nx_step HK.out.2.1 HK.out.2.2.1 HK.out.2.2.2 HT.yes.2.1 HT.yes.2.2 HL.1 HL.2.1 HS2.1 HS2.2.1] at NX
          have hfl := Lib.hid (nx_flag HK.out.2.1 HK.out.2.2.1 HK.out.2.2.2 HT.yes.2.1 HT.yes.2.2 HT.yes.1 HL.yes HS2.yes)
          go_roundg (i + 1 - (k + 1))
          case measure => have := HK.out.1; omega
          case rel => exact ⟨k + 1, by omega, rfl, by go_num, NX, fun j hj => by
           rcases Nat.lt_or_ge j k with h | h
           ·exact HO.out j h
           ·rw [show j = k by omega]; exact hfl.out, B0⟩
    ·obtain rfl : k = i + 1 := by omega
     have NX' : ZR wr wo.heap.size (coF (P, Q) L (i + 1)) := by
      show ZR _ _ (nx (L.getD i ZZ) (coF (P, Q) L i) (coF (P, Q) L i).length)
      rw [← HS.out.1, ← HS.out.2.1, hlN]
      exact NX
     have hok2 := Lib.hid (show ∀ j, j < i + 1 → coOk (P, Q) L j from fun j hj => by
      rcases Nat.lt_or_ge j i with h | h
      ·exact HS.out.2.2.1 j h
      ·rw [show j = i by omega]
       unfold coOk
       rw [← HS.out.1, ← HS.out.2.1, hlN]
       exact hok)
     have B2 := BW.trans (B0.mono BW.size)
     clear NX B0 hok hg
     go_wp2
     go_roundg (n - (i + 1))
     case measure => have := HG.out; omega
     case rel => exact ⟨i + 1, wo.heap.size, by omega, rfl, by go_num, rfl, NX', hok2.out, B2⟩
  ·obtain rfl : i = n := by omega
   have HO := Lib.hid hok
   have hbc := hco.lt
   have hlN : (coF (P, Q) L i).length = i + 1 := coF_len _ _ _
   have hoN : ∀ g ∈ coF (P, Q) L i, ZOk g := coF_ok (show ZOk (P, Q) from HPQ.out) i
   obtain ⟨N, hN⟩ : ∃ N, N = coF (P, Q) L i := ⟨_, rfl⟩
   rw [← hN] at hco hlN hoN
   have HN := Lib.hid (And.intro hN (And.intro hoN hco))
   have B1 := Below.refl wo.heap.size wo
   clear hok hco hg hN hoN hin
   go_wp2
   go_loopg [13, 14] (i + 1) (fun g s13 s14 wr => ∃ k : Nat, k ≤ i + 1 ∧ g = i + 1 - k ∧ s14 = .int .i64 k ∧ PrC wo.heap.size wr s13 N k ∧ Below wo.heap.size wo wr)
   case atStart => exact ⟨0, by omega, by omega, rfl, PrC.nil _ _ _, B1⟩
   case round =>
    clear B1
    obtain ⟨k, hk, hg, rfl, hpl, B1⟩ := hrel
    by_cases hki : k < i + 1
    ·obtain ⟨ar, ai, ha⟩ : ∃ ar ai, (ar, ai) = N.getD k ZZ := ⟨_, _, rfl⟩
     obtain ⟨oar, oai⟩ : ZOk (ar, ai) := by rw [ha]; exact getD_ok HN.out.2.1 k
     have CO := (HN.out.2.2.below B1 hbc).get' k (by rw [hlN]; exact hki) ha
     have HK := Lib.hid (And.intro hg ha)
     have HP := Lib.hid hpl
     have hN1 := fun W => rnear_ok ar.n ar.x ar.e W oar
     have hN2 := fun W => rnear_ok ai.n ai.x ai.e W oai
     have hX64 := (nearF_ok oar).2
     have hY64 := (nearF_ok oai).2
     generalize nearF ar.n ar.x ar.e = X at *
     generalize nearF ai.n ai.x ai.e = Y at *
     have hk2 : (k : Int) < (i : Int) + 1 := by omega
     have B0 := Below.refl wr.heap.size wr
     clear hg ha hpl
     go_wp2_with fail
     refine wp_region_cut 13 (by kernel_rfl) (by kernel_rfl) ?_
     rintro W rfl
     simp only [List.take_succ_cons, List.take_zero, List.drop_succ_cons, List.drop_zero]
     obtain ⟨xCO50_0, xCO50_1, xCO50_2, xCO50_3, xCO50_4, xCO50_5⟩ := CO.ce6
     have hHeld : (fun w' : World => w'.cell? ⟨bc, k * 6, none⟩ = some (.bool ar.n) ∧ w'.cell? ⟨bc, k * 6 + 1, none⟩ = some (.string (bstr ar.x)) ∧ w'.cell? ⟨bc, k * 6 + 2, none⟩ = some (.int .i64 ar.e) ∧ w'.cell? ⟨bc, k * 6 + 3, none⟩ = some (.bool ai.n) ∧ w'.cell? ⟨bc, k * 6 + 4, none⟩ = some (.string (bstr ai.x)) ∧ w'.cell? ⟨bc, k * 6 + 5, none⟩ = some (.int .i64 ai.e)) (wr).drew := ⟨xCO50_0, xCO50_1, xCO50_2, xCO50_3, xCO50_4, xCO50_5⟩
     refine wpAny_of_held (S := fun w' : World => w'.cell? ⟨bc, k * 6, none⟩ = some (.bool ar.n) ∧ w'.cell? ⟨bc, k * 6 + 1, none⟩ = some (.string (bstr ar.x)) ∧ w'.cell? ⟨bc, k * 6 + 2, none⟩ = some (.int .i64 ar.e) ∧ w'.cell? ⟨bc, k * 6 + 3, none⟩ = some (.bool ai.n) ∧ w'.cell? ⟨bc, k * 6 + 4, none⟩ = some (.string (bstr ai.x)) ∧ w'.cell? ⟨bc, k * 6 + 5, none⟩ = some (.int .i64 ai.e)) _ _ _ (wr).drew ?_
     replace CO := CO.drew
     replace B0 := B0.drew
     generalize (wr).drew = v1 at *
     refine tkA 0 ?_
     (try dsimp only [Act.put]); (try go_frame)
     refine tkA 1 ?_
     (try dsimp only [Act.put]); (try go_frame)
     refine tkA 2 ?_
     (try dsimp only [Act.put]); (try go_frame)
     refine tkA 3 ?_
     (try dsimp only [Act.put]); (try go_frame)
     refine tkA 4 ?_
     (try dsimp only [Act.put]); (try go_frame)
     refine tkA 6 ?_
     (try dsimp only [Act.put]); (try go_frame)
     refine tkA 7 ?_
     (try dsimp only [Act.put]); (try go_frame)
     refine tkA 8 ?_
     (try dsimp only [Act.put]); (try go_frame)
     refine tkA 9 ?_
     (try dsimp only [Act.put]); (try go_frame)
     refine tkA 10 ?_
     (try dsimp only [Act.put]); (try go_frame)
     refine wpAnyH_ready (rs := [5]) (by kernel_rfl) (by simp) ?_
     refine AllReadyH.cons rfl (fun K hK => ?_) AllReadyH.nil
     go_simp
     (with_reducible refine (hN1 _).mono ?_)
     rintro r w21 ⟨rfl, hb21⟩
     clear xCO50_0 xCO50_1 xCO50_2 xCO50_3 xCO50_4 xCO50_5
     replace CO := CO.keep hb21
     replace B0 := B0.trans (hb21.mono B0.size)
     clear hb21
     obtain ⟨xCO53_0, xCO53_1, xCO53_2, xCO53_3, xCO53_4, xCO53_5⟩ := CO.ce6
     refine hK.out _ _ ?_ (fun hHeld => ?_)
     ·exact ⟨xCO53_0, xCO53_1, xCO53_2, xCO53_3, xCO53_4, xCO53_5⟩
     clear hK K
     (try dsimp only [Act.put]); (try go_frame)
     refine wpAnyH_ready (rs := [11]) (by kernel_rfl) (by simp) ?_
     refine AllReadyH.cons rfl (fun K hK => ?_) AllReadyH.nil
     go_simp
     (with_reducible refine (hN2 _).mono ?_)
     rintro r w22 ⟨rfl, hb22⟩
     clear xCO53_0 xCO53_1 xCO53_2 xCO53_3 xCO53_4 xCO53_5
     replace CO := CO.keep hb22
     replace B0 := B0.trans (hb22.mono B0.size)
     clear hb22
     obtain ⟨xCO54_0, xCO54_1, xCO54_2, xCO54_3, xCO54_4, xCO54_5⟩ := CO.ce6
     refine hK.out _ _ ?_ (fun hHeld => ?_)
     ·exact ⟨xCO54_0, xCO54_1, xCO54_2, xCO54_3, xCO54_4, xCO54_5⟩
     clear hK K
     (try dsimp only [Act.put]); (try go_frame)
     refine tkA 12 ?_
     (try dsimp only [Act.put]); (try go_frame)
     refine wpAnyH_done (by kernel_rfl) ?_ _
     try simp only [QCut]
     clear hHeld
     clear xCO54_0 xCO54_1 xCO54_2 xCO54_3 xCO54_4 xCO54_5
     go_wp2_with fail
     (with_reducible refine (c_texact _ hX64 hY64).mono ?_)
     rintro r w23 ⟨⟨pE, qE, bE, rfl, eE1, eE2, hE⟩, hb23⟩
     replace CO := CO.keep hb23
     replace B0 := B0.trans (hb23.mono B0.size)
     clear hb23
     have HE : FlR bE X Y pE qE := ⟨eE1, eE2, hE⟩
     clear eE1 eE2 hE
     replace CO := CO.allocd (.cells #[.bool pE.n, .string (bstr pE.x), .int .i64 pE.e, .bool qE.n, .string (bstr qE.x), .int .i64 qE.e] 44)
     have F16 := Blk.put (w23) #[.bool pE.n, .string (bstr pE.x), .int .i64 pE.e, .bool qE.n, .string (bstr qE.x), .int .i64 qE.e] 44
     replace B0 := B0.alloc B0.size (.cells #[.bool pE.n, .string (bstr pE.x), .int .i64 pE.e, .bool qE.n, .string (bstr qE.x), .int .i64 qE.e] 44)
     cases bE
     ·go_upto_region 28 with fail
      go_wp2_with fail
      refine wp_region_any (by kernel_rfl) ?_
      have hHeld : (fun w' : World => True) ((w23).alloc (.cells #[.bool pE.n, .string (bstr pE.x), .int .i64 pE.e, .bool qE.n, .string (bstr qE.x), .int .i64 qE.e] 44)).drew := trivial
      refine wpAny_of_held (S := fun w' : World => True) _ _ _ ((w23).alloc (.cells #[.bool pE.n, .string (bstr pE.x), .int .i64 pE.e, .bool qE.n, .string (bstr qE.x), .int .i64 qE.e] 44)).drew ?_
      replace CO := CO.drew
      replace F16 := F16.drew
      replace B0 := B0.drew
      generalize ((w23).alloc (.cells #[.bool pE.n, .string (bstr pE.x), .int .i64 pE.e, .bool qE.n, .string (bstr qE.x), .int .i64 qE.e] 44)).drew = v2 at *
      refine tkA 0 ?_
      (try dsimp only [Act.put]); (try go_frame)
      refine tkA 1 ?_
      (try dsimp only [Act.put]); (try go_frame)
      refine tkA 2 ?_
      (try dsimp only [Act.put]); (try go_frame)
      refine wpAnyH_take (i := 3) (v := undef) (by first | (simp only [List.getElem?_toArray, List.getElem?_cons_zero, List.getElem?_cons_succ]; rfl) | rfl) (by kernel_rfl) (by kernel_rfl) (by kernel_rfl) (by exact fun _ _ _ h => h) (Or.inr ⟨by rfl, by rfl⟩) (by assumption) ?_
      (try dsimp only [Act.put]); (try go_frame)
      refine wpAnyH_take (i := 4) (v := undef) (by first | (simp only [List.getElem?_toArray, List.getElem?_cons_zero, List.getElem?_cons_succ]; rfl) | rfl) (by kernel_rfl) (by kernel_rfl) (by kernel_rfl) (by exact fun _ _ _ h => h) (Or.inr ⟨by rfl, by rfl⟩) (by assumption) ?_
      (try dsimp only [Act.put]); (try go_frame)
      refine wpAnyH_take (i := 5) (v := undef) (by first | (simp only [List.getElem?_toArray, List.getElem?_cons_zero, List.getElem?_cons_succ]; rfl) | rfl) (by kernel_rfl) (by kernel_rfl) (by kernel_rfl) (by exact fun _ _ _ h => h) (Or.inr ⟨by rfl, by rfl⟩) (by assumption) ?_
      (try dsimp only [Act.put]); (try go_frame)
      refine wpAnyH_take (i := 6) (v := undef) (by first | (simp only [List.getElem?_toArray, List.getElem?_cons_zero, List.getElem?_cons_succ]; rfl) | rfl) (by kernel_rfl) (by kernel_rfl) (by kernel_rfl) (by exact fun _ _ _ h => h) (Or.inr ⟨by rfl, by rfl⟩) (by assumption) ?_
      (try dsimp only [Act.put]); (try go_frame)
      refine wpAnyH_take (i := 7) (v := undef) (by first | (simp only [List.getElem?_toArray, List.getElem?_cons_zero, List.getElem?_cons_succ]; rfl) | rfl) (by kernel_rfl) (by kernel_rfl) (by kernel_rfl) (by exact fun _ _ _ h => h) (Or.inr ⟨by rfl, by rfl⟩) (by assumption) ?_
      (try dsimp only [Act.put]); (try go_frame)
      refine wpAnyH_take (i := 8) (v := undef) (by first | (simp only [List.getElem?_toArray, List.getElem?_cons_zero, List.getElem?_cons_succ]; rfl) | rfl) (by kernel_rfl) (by kernel_rfl) (by kernel_rfl) (by exact fun _ _ _ h => h) (Or.inr ⟨by rfl, by rfl⟩) (by assumption) ?_
      (try dsimp only [Act.put]); (try go_frame)
      refine tkA 9 ?_
      (try dsimp only [Act.put]); (try go_frame)
      refine wpAnyH_done (by kernel_rfl) ?_ _
      try simp only [QCut]
      clear hHeld
      go_wp2
      go_ret2
      exact ⟨ProdRes.no _ _ _ _ _ _, (BW.trans (B1.mono BW.size)).trans (B0.mono (Nat.le_trans BW.size B1.size))⟩
     ·go_upto_region 28 with fail
      by_cases hq : pE = ar ∧ qE = ai
      ·go_wp2_with fail
       refine wp_region_any (by kernel_rfl) ?_
       obtain ⟨xF1656_0, xF1656_1, xF1656_2, xF1656_3, xF1656_4, xF1656_5⟩ := F16.ce6
       obtain ⟨xCO56_0, xCO56_1, xCO56_2, xCO56_3, xCO56_4, xCO56_5⟩ := CO.ce6
       have hHeld : (fun w' : World => w'.cell? ⟨w23.heap.size, 0, none⟩ = some (.bool pE.n) ∧ w'.cell? ⟨w23.heap.size, 1, none⟩ = some (.string (bstr pE.x)) ∧ w'.cell? ⟨w23.heap.size, 2, none⟩ = some (.int .i64 pE.e) ∧ w'.cell? ⟨w23.heap.size, 3, none⟩ = some (.bool qE.n) ∧ w'.cell? ⟨w23.heap.size, 4, none⟩ = some (.string (bstr qE.x)) ∧ w'.cell? ⟨w23.heap.size, 5, none⟩ = some (.int .i64 qE.e) ∧ w'.cell? ⟨bc, k * 6, none⟩ = some (.bool ar.n) ∧ w'.cell? ⟨bc, k * 6 + 1, none⟩ = some (.string (bstr ar.x)) ∧ w'.cell? ⟨bc, k * 6 + 2, none⟩ = some (.int .i64 ar.e) ∧ w'.cell? ⟨bc, k * 6 + 3, none⟩ = some (.bool ai.n) ∧ w'.cell? ⟨bc, k * 6 + 4, none⟩ = some (.string (bstr ai.x)) ∧ w'.cell? ⟨bc, k * 6 + 5, none⟩ = some (.int .i64 ai.e)) ((w23).alloc (.cells #[.bool pE.n, .string (bstr pE.x), .int .i64 pE.e, .bool qE.n, .string (bstr qE.x), .int .i64 qE.e] 44)).drew := ⟨xF1656_0, xF1656_1, xF1656_2, xF1656_3, xF1656_4, xF1656_5, xCO56_0, xCO56_1, xCO56_2, xCO56_3, xCO56_4, xCO56_5⟩
       refine wpAny_of_held (S := fun w' : World => w'.cell? ⟨w23.heap.size, 0, none⟩ = some (.bool pE.n) ∧ w'.cell? ⟨w23.heap.size, 1, none⟩ = some (.string (bstr pE.x)) ∧ w'.cell? ⟨w23.heap.size, 2, none⟩ = some (.int .i64 pE.e) ∧ w'.cell? ⟨w23.heap.size, 3, none⟩ = some (.bool qE.n) ∧ w'.cell? ⟨w23.heap.size, 4, none⟩ = some (.string (bstr qE.x)) ∧ w'.cell? ⟨w23.heap.size, 5, none⟩ = some (.int .i64 qE.e) ∧ w'.cell? ⟨bc, k * 6, none⟩ = some (.bool ar.n) ∧ w'.cell? ⟨bc, k * 6 + 1, none⟩ = some (.string (bstr ar.x)) ∧ w'.cell? ⟨bc, k * 6 + 2, none⟩ = some (.int .i64 ar.e) ∧ w'.cell? ⟨bc, k * 6 + 3, none⟩ = some (.bool ai.n) ∧ w'.cell? ⟨bc, k * 6 + 4, none⟩ = some (.string (bstr ai.x)) ∧ w'.cell? ⟨bc, k * 6 + 5, none⟩ = some (.int .i64 ai.e)) _ _ _ ((w23).alloc (.cells #[.bool pE.n, .string (bstr pE.x), .int .i64 pE.e, .bool qE.n, .string (bstr qE.x), .int .i64 qE.e] 44)).drew ?_
       replace CO := CO.drew
       replace F16 := F16.drew
       replace B0 := B0.drew
       generalize ((w23).alloc (.cells #[.bool pE.n, .string (bstr pE.x), .int .i64 pE.e, .bool qE.n, .string (bstr qE.x), .int .i64 qE.e] 44)).drew = v2 at *
       refine tkA 0 ?_
       (try dsimp only [Act.put]); (try go_frame)
       refine tkA 1 ?_
       (try dsimp only [Act.put]); (try go_frame)
       refine tkA 2 ?_
       (try dsimp only [Act.put]); (try go_frame)
       refine tkA 3 ?_
       (try dsimp only [Act.put]); (try go_frame)
       refine tkA 4 ?_
       (try dsimp only [Act.put]); (try go_frame)
       refine tkA 5 ?_
       (try dsimp only [Act.put]); (try go_frame)
       refine tkA 6 ?_
       (try dsimp only [Act.put]); (try go_frame)
       refine tkA 7 ?_
       (try dsimp only [Act.put]); (try go_frame)
       refine wpAnyH_take (i := 8) (v := .bool false) (by first | (simp only [List.getElem?_toArray, List.getElem?_cons_zero, List.getElem?_cons_succ]; rfl) | rfl) (by kernel_rfl) (by kernel_rfl) (by kernel_rfl) (by exact fun _ _ _ h => h) (Or.inl ⟨by rfl, by (intro w hSw; (try dsimp only at hSw); go_simp)⟩) (by assumption) ?_
       (try dsimp only [Act.put]); (try go_frame)
       refine tkA 9 ?_
       (try dsimp only [Act.put]); (try go_frame)
       refine wpAnyH_done (by kernel_rfl) ?_ _
       try simp only [QCut]
       clear hHeld
       clear xF1656_0 xF1656_1 xF1656_2 xF1656_3 xF1656_4 xF1656_5 xCO56_0 xCO56_1 xCO56_2 xCO56_3 xCO56_4 xCO56_5
       obtain ⟨rfl, rfl⟩ := hq
       generalize v2 = v9 at *
       obtain ⟨C, hpl, hCl, hC⟩ := HP.out
       replace hpl := hpl.keep B0
       obtain ⟨ps, hown, hlen, hps⟩ := hpl
       rw [hCl] at hown
       have HC := Lib.hid (And.intro hCl (And.intro hC (And.intro hlen hps)))
       have hbz := B0.size
       have hbz1 := B1.size
       clear hCl hC hlen hps
       go_wp2_with (at_builtin; refine wpList_append_own _ rfl _ _ 29 rfl wo.heap.size 27 i1 (.complex .f64 0 0) 1 16 Tryz.underlying29 hi1 hy0 hy1 hy2 rfl (by decide) _ _ _ rfl (by exact hown.alloc _) ⟨v9.heap.size, 0, none⟩ 1 1 [.complex .f64 X Y] rfl rfl ?c1 ?c2 ?c3 ?c4 ?c5 ?_)
       case c1 =>
        intro j u hj
        match j, hj with
        | 0, hj => simp at hj; subst hj; simp [Addr.add]
       case c2 => intro u hu; simp at hu; subst hu; rfl
       case c3 => unfold maxLen; omega
       case c4 => omega
       case c5 => simp; omega
       ·intro v' w3 hown' hgrow _
        obtain ⟨hCl, hC, hlen, hps⟩ := HC.out
        have hb1 := ((B1.trans (B0.mono hbz1)).alloc (Nat.le_trans hbz1 hbz) (Obj.cells #[Value.complex FloatKind.f64 X Y] 27)).grown hgrow (by simp; omega) (fun k hk => (hown.lt k hk).1)
        have hq : PrC wo.heap.size w3 v' N (k + 1) := PrC.push (by rw [hCl]; exact hown') hlen hps hC hCl HE HK.out.2 hX64 hY64
        clear hown hown' hgrow hps hC hlen hCl
        go_wp2
        go_roundg (i + 1 - (k + 1))
        case measure => have := HK.out.1; omega
        case rel => exact ⟨k + 1, by omega, rfl, by go_num, hq, hb1⟩
      ·go_wp2_with fail
       refine wp_region_any (by kernel_rfl) ?_
       obtain ⟨xF1656_0, xF1656_1, xF1656_2, xF1656_3, xF1656_4, xF1656_5⟩ := F16.ce6
       obtain ⟨xCO56_0, xCO56_1, xCO56_2, xCO56_3, xCO56_4, xCO56_5⟩ := CO.ce6
       have hHeld : (fun w' : World => w'.cell? ⟨w23.heap.size, 0, none⟩ = some (.bool pE.n) ∧ w'.cell? ⟨w23.heap.size, 1, none⟩ = some (.string (bstr pE.x)) ∧ w'.cell? ⟨w23.heap.size, 2, none⟩ = some (.int .i64 pE.e) ∧ w'.cell? ⟨w23.heap.size, 3, none⟩ = some (.bool qE.n) ∧ w'.cell? ⟨w23.heap.size, 4, none⟩ = some (.string (bstr qE.x)) ∧ w'.cell? ⟨w23.heap.size, 5, none⟩ = some (.int .i64 qE.e) ∧ w'.cell? ⟨bc, k * 6, none⟩ = some (.bool ar.n) ∧ w'.cell? ⟨bc, k * 6 + 1, none⟩ = some (.string (bstr ar.x)) ∧ w'.cell? ⟨bc, k * 6 + 2, none⟩ = some (.int .i64 ar.e) ∧ w'.cell? ⟨bc, k * 6 + 3, none⟩ = some (.bool ai.n) ∧ w'.cell? ⟨bc, k * 6 + 4, none⟩ = some (.string (bstr ai.x)) ∧ w'.cell? ⟨bc, k * 6 + 5, none⟩ = some (.int .i64 ai.e)) ((w23).alloc (.cells #[.bool pE.n, .string (bstr pE.x), .int .i64 pE.e, .bool qE.n, .string (bstr qE.x), .int .i64 qE.e] 44)).drew := ⟨xF1656_0, xF1656_1, xF1656_2, xF1656_3, xF1656_4, xF1656_5, xCO56_0, xCO56_1, xCO56_2, xCO56_3, xCO56_4, xCO56_5⟩
       refine wpAny_of_held (S := fun w' : World => w'.cell? ⟨w23.heap.size, 0, none⟩ = some (.bool pE.n) ∧ w'.cell? ⟨w23.heap.size, 1, none⟩ = some (.string (bstr pE.x)) ∧ w'.cell? ⟨w23.heap.size, 2, none⟩ = some (.int .i64 pE.e) ∧ w'.cell? ⟨w23.heap.size, 3, none⟩ = some (.bool qE.n) ∧ w'.cell? ⟨w23.heap.size, 4, none⟩ = some (.string (bstr qE.x)) ∧ w'.cell? ⟨w23.heap.size, 5, none⟩ = some (.int .i64 qE.e) ∧ w'.cell? ⟨bc, k * 6, none⟩ = some (.bool ar.n) ∧ w'.cell? ⟨bc, k * 6 + 1, none⟩ = some (.string (bstr ar.x)) ∧ w'.cell? ⟨bc, k * 6 + 2, none⟩ = some (.int .i64 ar.e) ∧ w'.cell? ⟨bc, k * 6 + 3, none⟩ = some (.bool ai.n) ∧ w'.cell? ⟨bc, k * 6 + 4, none⟩ = some (.string (bstr ai.x)) ∧ w'.cell? ⟨bc, k * 6 + 5, none⟩ = some (.int .i64 ai.e)) _ _ _ ((w23).alloc (.cells #[.bool pE.n, .string (bstr pE.x), .int .i64 pE.e, .bool qE.n, .string (bstr qE.x), .int .i64 qE.e] 44)).drew ?_
       replace CO := CO.drew
       replace F16 := F16.drew
       replace B0 := B0.drew
       generalize ((w23).alloc (.cells #[.bool pE.n, .string (bstr pE.x), .int .i64 pE.e, .bool qE.n, .string (bstr qE.x), .int .i64 qE.e] 44)).drew = v2 at *
       refine tkA 0 ?_
       (try dsimp only [Act.put]); (try go_frame)
       refine tkA 1 ?_
       (try dsimp only [Act.put]); (try go_frame)
       refine tkA 2 ?_
       (try dsimp only [Act.put]); (try go_frame)
       refine tkA 3 ?_
       (try dsimp only [Act.put]); (try go_frame)
       refine tkA 4 ?_
       (try dsimp only [Act.put]); (try go_frame)
       refine tkA 5 ?_
       (try dsimp only [Act.put]); (try go_frame)
       refine tkA 6 ?_
       (try dsimp only [Act.put]); (try go_frame)
       refine tkA 7 ?_
       (try dsimp only [Act.put]); (try go_frame)
       refine wpAnyH_take (i := 8) (v := .bool true) (by first | (simp only [List.getElem?_toArray, List.getElem?_cons_zero, List.getElem?_cons_succ]; rfl) | rfl) (by kernel_rfl) (by kernel_rfl) (by kernel_rfl) (by exact fun _ _ _ h => h) (Or.inl ⟨by rfl, by (intro w hSw; (try dsimp only at hSw); go_simp; exact neq_all hq)⟩) (by assumption) ?_
       (try dsimp only [Act.put]); (try go_frame)
       refine tkA 9 ?_
       (try dsimp only [Act.put]); (try go_frame)
       refine wpAnyH_done (by kernel_rfl) ?_ _
       try simp only [QCut]
       clear hHeld
       clear xF1656_0 xF1656_1 xF1656_2 xF1656_3 xF1656_4 xF1656_5 xCO56_0 xCO56_1 xCO56_2 xCO56_3 xCO56_4 xCO56_5
       go_wp2
       go_ret2
       exact ⟨ProdRes.no _ _ _ _ _ _, (BW.trans (B1.mono BW.size)).trans (B0.mono (Nat.le_trans BW.size B1.size))⟩
    ·obtain rfl : k = i + 1 := by omega
     obtain ⟨C, hpl, hCl, hC⟩ := hpl
     have hres : ProdRes w.heap.size P Q L i (.returned (.tuple #[u13, .bool true])) wr := ⟨_, _, rfl, fun _ => ⟨HO.out, C, hpl.mono BW.size, hCl, by rw [← HN.out.1]; exact hC⟩⟩
     have B2 := BW.trans (B1.mono BW.size)
     clear hpl hCl hC B1 hg
     go_wp2
     go_ret2
     exact ⟨hres, B2⟩
theorem flT_q {b : Nat} (h : flQ b ≠ 2047) : flT b = (flY b, 0) := flT_fin h
theorem c_product {b0 c0 : Nat} {L : List (DY × DY)} (w : World) (h : ZR w b0 L) (hL : ∀ g ∈ L, ZOk g) (h0 : 0 < L.length) (hn : L.length ≤ 8) (hc : L.length ≤ c0) :
  Calls Tryz.prog 6 #[.slice (some ⟨b0, 0, none⟩) L.length c0] w fun r w' => ProdRes w.heap.size (flY 4607182418800017408) (flY 0) L L.length r w' ∧ Below w.heap.size w w' := by
 refine product_core w ?_ h hL (flY_ok _) (flY_ok _) h0 hn hc
 intro W
 refine (c_texact W (by decide) (by decide)).mono ?_
 rintro e w' ⟨⟨p, q, b, rfl, hp, hq, hb⟩, hbb⟩
 have t1 := flT_q (b := 4607182418800017408) (by decide)
 have t0 := flT_q (b := 0) (by decide)
 rw [t1] at hp
 rw [t0] at hq
 rw [t1, t0] at hb
 obtain rfl : b = true := hb.2 ⟨rfl, rfl⟩
 obtain rfl : p = flY 4607182418800017408 := hp
 obtain rfl : q = flY 0 := hq
 exact ⟨rfl, hbb⟩
end Go.Proofs.YtfdnbogbankjjaaGreatDoor
