/- filigreelaw24.ViewCells at every input. -/
import Derived.Test.YtppebjnmollojaaGreatDoorQ6
import Derived.Test.YtppebjnmollojaaGreatDoorT2
import Derived.Test.YtppebjnmollojaaGreatDoorT3
import Derived.Test.YtppebjnmollojaaGreatDoorT4
namespace Go.Proofs.YtppebjnmollojaaGreatDoor
open Go Go.RowKit Go.PlainAid Fil

theorem am_yes {d : DY} {n e : Int} (n1 : 1 ≤ n) (n2 : n ≤ 65536) (e1 : -4096 ≤ e) (e2 : e ≤ 4096) (h1 : yCmp (yNeg d) (mkD n (e - 1)) ≤ 0) (h2 : yCmp d (mkD n (e - 1)) ≤ 0) :
    ∃ C : Nat, (C : Int) < n ∧ amS d n e = ((C : Int), true) ∧ (∀ k : Nat, k < C → decide (yCmp d (mkD (2 * (k : Int) + 2 - n) (e - 1)) ≤ 0) = false) ∧ decide (yCmp d (mkD (2 * (C : Int) + 2 - n) (e - 1)) ≤ 0) = true := by
  have ed : ∀ k : Nat, edB d n e k = decide (yCmp d (mkD (2 * (k : Int) + 2 - n) (e - 1)) ≤ 0) := fun k => by unfold edB; rw [show 2 * ((k : Int) + 1) - n = 2 * (k : Int) + 2 - n by omega]
  have hle := lst_le (edB d n e) (n - 1).toNat
  refine ⟨lst (edB d n e) (n - 1).toNat, by omega, ?_, fun k hk => ?_, ?_⟩
  · unfold amS
    rw [if_neg]
    rintro (h | h)
    · rw [show 2 * 0 - n = -n by omega, yCmp_lt, unit_v (by omega) (by omega) (by omega), W_unit, Int.neg_mul] at h
      rw [yCmp_le, yNeg_v, unit_v (by omega) (by omega) (by omega), W_unit] at h1
      omega
    · rw [show 2 * n - n = n by omega] at h
      omega
  · rw [← ed]
    exact lst_low _ _ k hk
  · rw [← ed]
    rcases Nat.lt_or_ge (lst (edB d n e) (n - 1).toNat) (n - 1).toNat with h | h
    · exact lst_at _ _ h
    · rw [show lst (edB d n e) (n - 1).toNat = (n - 1).toNat by omega, ed, show 2 * (((n - 1).toNat : Nat) : Int) + 2 - n = n by omega]
      exact decide_eq_true h2
theorem am_no {d : DY} {n e : Int} (n1 : 1 ≤ n) (n2 : n ≤ 65536) (e1 : -4096 ≤ e) (e2 : e ≤ 4096) (h : ¬ (yCmp (yNeg d) (mkD n (e - 1)) ≤ 0 ∧ yCmp d (mkD n (e - 1)) ≤ 0)) : amS d n e = (0, false) := by
  unfold amS
  rw [if_pos]
  by_cases h1 : yCmp (yNeg d) (mkD n (e - 1)) ≤ 0
  · refine .inr ?_
    rw [show 2 * n - n = n by omega]
    have : ¬ yCmp d (mkD n (e - 1)) ≤ 0 := fun k => h ⟨h1, k⟩
    omega
  · refine .inl ?_
    rw [show 2 * 0 - n = -n by omega, yCmp_lt, unit_v (by omega) (by omega) (by omega), W_unit, Int.neg_mul]
    rw [yCmp_le, yNeg_v, unit_v (by omega) (by omega) (by omega), W_unit] at h1
    omega
theorem GR.ok_of' (g : GR) (h : g.may = true) : ∃ G : GY, G.ok ∧ g = G.raw := by
  unfold GR.may at h
  rw [Bool.and_eq_true] at h
  obtain ⟨x, hx, kx⟩ := ok_of_may h.1
  obtain ⟨y, hy, ky⟩ := ok_of_may h.2
  refine ⟨⟨⟨g.n, x, g.e⟩, ⟨g.m, y, g.f⟩⟩, ⟨kx, ky⟩, ?_⟩
  obtain ⟨n, s, e, m, t, f⟩ := g
  dsimp only at hx hy
  subst hx; subst hy
  rfl
theorem four_ways (b1 b2 b3 b4 : Prop) [Decidable b1] [Decidable b2] [Decidable b3] [Decidable b4] (h : ¬ ((b1 ∧ b3) ∧ (b2 ∧ b4))) :
    decide b1 = false ∨ (decide b1 = true ∧ decide b2 = false) ∨ (decide b1 = true ∧ decide b2 = true ∧ decide b3 = false) ∨ (decide b1 = true ∧ decide b2 = true ∧ decide b3 = true ∧ decide b4 = false) := by
  by_cases h1 : b1 <;> by_cases h2 : b2 <;> by_cases h3 : b3 <;> by_cases h4 : b4 <;> simp_all
theorem viewCells_any (gn : Bool) (gs : ByteArray) (ge : Int) (gm : Bool) (gt : ByteArray) (gf e a d c r : Int) (jn : Bool) (js : ByteArray) (je : Int) (jm : Bool) (jt : ByteArray) (jf : Int) (w : World) (hT : Tab w)
    (fg : gs.size ≤ 9223372036854775807) (fg' : gt.size ≤ 9223372036854775807) (fj : js.size ≤ 9223372036854775807) (fj' : jt.size ≤ 9223372036854775807) :
    Calls Tryz.prog 3 #[.agg #[.bool gn, .string gs, .int .i64 ge, .bool gm, .string gt, .int .i64 gf, .int .i64 e, .int .i64 a, .int .i64 d], .int .i64 c, .int .i64 r, .agg #[.bool jn, .string js, .int .i64 je, .bool jm, .string jt, .int .i64 jf]] w fun r w' => r = .returned (.bool true) ∧ Below w.heap.size w w' := by
  have hmay := fun W => rmay24_any ⟨gn, gs, ge, gm, gt, gf⟩ e a d W ⟨fg, fg'⟩
  have hga := fun W => qmay_any jn js je jm jt jf W fj fj'
  cases hW : winB ⟨gn, gs, ge, gm, gt, gf⟩ e a d
  · rw [hW] at hmay
    exact cells_1 c r e a d _ _ _ _ _ _ _ _ _ _ _ _ w (fun W _ => vcell_bad ⟨gn, gs, ge, gm, gt, gf⟩ e a d c r W ⟨fg, fg'⟩ hW) (fun W _ => vfind_badw ⟨gn, gs, ge, gm, gt, gf⟩ e a d ⟨jn, js, je, jm, jt, jf⟩ W ⟨fg, fg'⟩ hW) hmay hT
  rw [hW] at hmay
  unfold winB at hW
  rw [Bool.and_eq_true, Bool.and_eq_true, Bool.and_eq_true, sideB_iff, countB_iff, countB_iff] at hW
  obtain ⟨hm, ⟨e1, e2⟩, ⟨a1, a2⟩, d1, d2⟩ := hW
  obtain ⟨G, hG, hGe⟩ := GR.ok_of' _ hm
  obtain ⟨rfl, rfl, rfl, rfl, rfl, rfl⟩ : gn = G.re.n ∧ gs = bstr G.re.x ∧ ge = G.re.e ∧ gm = G.im.n ∧ gt = bstr G.im.x ∧ gf = G.im.e := by
    have := congrArg GR.n hGe; have := congrArg GR.s hGe; have := congrArg GR.e hGe; have := congrArg GR.m hGe; have := congrArg GR.t hGe; have := congrArg GR.f hGe
    exact ⟨by assumption, by assumption, by assumption, by assumption, by assumption, by assumption⟩
  clear hGe hm fg fg'
  obtain ⟨l, b, sE, er, hcell, hrc⟩ : ∃ (l b : DY) (sE er : Int), (∀ W : World, Tab W → Calls Tryz.prog 10 #[.agg #[.bool G.re.n, .string (bstr G.re.x), .int .i64 G.re.e, .bool G.im.n, .string (bstr G.im.x), .int .i64 G.im.e, .int .i64 e, .int .i64 a, .int .i64 d], .int .i64 c, .int .i64 r] W fun r w' => r = .returned (.tuple #[.agg #[.bool l.n, .string (bstr l.x), .int .i64 l.e, .bool b.n, .string (bstr b.x), .int .i64 b.e, .int .i64 sE], .int .i64 er]) ∧ Below W.heap.size W w') ∧ (∀ W : World, Calls Tryz.prog 14 #[.agg #[.bool G.re.n, .string (bstr G.re.x), .int .i64 G.re.e, .bool G.im.n, .string (bstr G.im.x), .int .i64 G.im.e, .int .i64 e, .int .i64 a, .int .i64 d], .int .i64 c, .int .i64 r] W fun r w' => r = .returned (.tuple #[.agg #[.bool l.n, .string (bstr l.x), .int .i64 l.e, .bool b.n, .string (bstr b.x), .int .i64 b.e, .int .i64 sE], .int .i64 er]) ∧ Below W.heap.size W w') := by
    by_cases hin : 0 ≤ c ∧ c < a ∧ 0 ≤ r ∧ r < d
    · obtain ⟨c0, c1, r0, r1⟩ := hin
      exact ⟨_, _, _, _, fun W hW => vcell G e a d c r W hG e1 e2 a1 a2 d1 d2 c0 c1 r0 r1 hW, fun W => rcell G e a d c r W hG e1 e2 a1 a2 d1 d2 c0 c1 r0 r1⟩
    · refine ⟨DY.zero, DY.zero, 0, 241, fun W _ => ?_, fun W => ?_⟩
      · rw [show bstr DY.zero.x = { data := #[] } from bstr_zero]
        exact vcell_out G e a d c r W hG e1 e2 a1 a2 d1 d2 (by omega)
      · rw [show bstr DY.zero.x = { data := #[] } from bstr_zero]
        exact rcell_out G e a d c r W (by omega)
  cases hJ : GR.may ⟨jn, js, je, jm, jt, jf⟩
  · rw [show (mayB jn js je && mayB jm jt jf) = false from hJ] at hga
    exact cells_2 c r e a d sE er _ _ _ _ _ _ _ _ _ _ _ _ _ _ _ _ _ _ w hcell (fun W _ => vfind_badg G e a d ⟨jn, js, je, jm, jt, jf⟩ W hG ⟨fj, fj'⟩ e1 e2 a1 a2 d1 d2 hJ) hmay hrc hga hT
  rw [show (mayB jn js je && mayB jm jt jf) = true from hJ] at hga
  obtain ⟨J, okJ, hJe⟩ := GR.ok_of' _ hJ
  obtain ⟨rfl, rfl, rfl, rfl, rfl, rfl⟩ : jn = J.re.n ∧ js = bstr J.re.x ∧ je = J.re.e ∧ jm = J.im.n ∧ jt = bstr J.im.x ∧ jf = J.im.e := by
    have := congrArg GR.n hJe; have := congrArg GR.s hJe; have := congrArg GR.e hJe; have := congrArg GR.m hJe; have := congrArg GR.t hJe; have := congrArg GR.f hJe
    exact ⟨by assumption, by assumption, by assumption, by assumption, by assumption, by assumption⟩
  clear hJe hJ fj fj'
  by_cases hS : (gSub J G).2 = 0
  rotate_left
  · refine cells_3 c r e a d sE er 0 0 4 _ _ _ _ _ _ _ _ _ _ _ _ _ _ _ _ _ _ w hcell (fun W hW => ?_) hmay hrc hga (fun W => rfind_1 G e a d J _ rfl W hG okJ hS) hT
    have h := vfind_1 G e a d J _ rfl W hG okJ e1 e2 a1 a2 d1 d2 hS hW
    rw [err4 (gSub_e J G) hS] at h
    exact h
  by_cases hx : yCmp (yNeg (gSub J G).1.re) (mkD a (e - 1)) ≤ 0 ∧ yCmp (gSub J G).1.re (mkD a (e - 1)) ≤ 0
  · by_cases hy : yCmp (yNeg (yNeg (gSub J G).1.im)) (mkD d (e - 1)) ≤ 0 ∧ yCmp (yNeg (gSub J G).1.im) (mkD d (e - 1)) ≤ 0
    · obtain ⟨C, C1, C2, C3, C4⟩ := am_yes a1 a2 e1 e2 hx.1 hx.2
      obtain ⟨R, R1, R2, R3, R4⟩ := am_yes d1 d2 e1 e2 hy.1 hy.2
      refine cells_3 c r e a d sE er (C : Int) (R : Int) 0 _ _ _ _ _ _ _ _ _ _ _ _ _ _ _ _ _ _ w hcell (fun W hW => ?_) hmay hrc hga (fun W => rfind_3 G e a d J C R _ _ _ _ _ _ _ _ rfl rfl rfl rfl rfl rfl rfl rfl W hG okJ e1 e2 a1 a2 d1 d2 hS (decide_eq_true hx.1) (decide_eq_true hy.1) (decide_eq_true hx.2) (decide_eq_true hy.2) C1 R1 C3 C4 R3 R4) hT
      exact vfind_2 G e a d J _ (C : Int) true _ (R : Int) true rfl (by rw [C2]) (by rw [C2]) rfl (by rw [R2]) (by rw [R2]) W hG okJ e1 e2 a1 a2 d1 d2 hS hW
    · refine cells_3 c r e a d sE er 0 0 241 _ _ _ _ _ _ _ _ _ _ _ _ _ _ _ _ _ _ w hcell (fun W hW => ?_) hmay hrc hga (fun W => rfind_2 G e a d J _ _ _ _ _ _ _ _ rfl rfl rfl rfl rfl rfl rfl rfl W hG okJ e1 e2 a1 a2 d1 d2 hS (four_ways _ _ _ _ (fun k => hy k.2))) hT
      have hno := am_no d1 d2 e1 e2 hy
      have h := vfind_2 G e a d J _ _ _ _ 0 false rfl rfl rfl rfl (by rw [hno]) (by rw [hno]) W hG okJ e1 e2 a1 a2 d1 d2 hS hW
      rw [Bool.and_false] at h
      exact h
  · refine cells_3 c r e a d sE er 0 0 241 _ _ _ _ _ _ _ _ _ _ _ _ _ _ _ _ _ _ w hcell (fun W hW => ?_) hmay hrc hga (fun W => rfind_2 G e a d J _ _ _ _ _ _ _ _ rfl rfl rfl rfl rfl rfl rfl rfl W hG okJ e1 e2 a1 a2 d1 d2 hS (four_ways _ _ _ _ (fun k => hx k.1))) hT
    have hno := am_no a1 a2 e1 e2 hx
    have h := vfind_2 G e a d J _ 0 false _ _ _ rfl (by rw [hno]) (by rw [hno]) rfl rfl rfl W hG okJ e1 e2 a1 a2 d1 d2 hS hW
    rw [Bool.false_and] at h
    exact h
end Go.Proofs.YtppebjnmollojaaGreatDoor
