/- ratio.rat; ratio.do at each of the four operations. -/
import Derived.Test.YtbhfnigblhfikaaGreatJB
namespace Go.Proofs.YtbhfnigblhfikaaGreat
open Go Go.RowKit Go.PlainAid Fil

/-- a fraction that is a ratio -/
def Fits (x : Rat) : Prop := Fil.dn 8 x.num.natAbs ≤ 16384 ∧ Fil.dn 8 x.den ≤ 16384
theorem dn32_8 {x n : Nat} (h : Fil.dn 8 x ≤ n) : Fil.dn 32 x ≤ n / 4 + 1 := dn8_32 x n (lt_of_dn (by omega) h)
theorem Fits.szd {x : Rat} (h : Fits x) : Szd 5000 x := ⟨Nat.le_trans (dn32_8 h.1) (by omega), Nat.le_trans (dn32_8 h.2) (by omega)⟩
theorem Szd.mono {K L : Nat} {x : Rat} (h : Szd K x) (hL : K ≤ L) : Szd L x := ⟨Nat.le_trans h.1 hL, Nat.le_trans h.2 hL⟩
theorem mag_pos {x : Rat} (h : sg x.num = false) : Rat.divInt (x.num.natAbs : Int) (x.den : Int) = x := by
  have : ¬ x.num < 0 := by simpa [sg] using h
  rw [show (x.num.natAbs : Int) = x.num by omega, Rat.num_divInt_den]
theorem mag_neg {x : Rat} (h : sg x.num = true) : -(Rat.divInt (x.num.natAbs : Int) (x.den : Int)) = x := by
  have : x.num < 0 := by simpa [sg] using h
  rw [Rat.neg_divInt, show -(x.num.natAbs : Int) = x.num by omega, Rat.num_divInt_den]
theorem mag_szd {K : Nat} {x : Rat} (h : Szd K x) : Szd K (Rat.divInt (x.num.natAbs : Int) (x.den : Int)) := by
  cases hs : sg x.num
  · rw [mag_pos hs]; exact h
  · have := mag_neg hs
    rw [← Rat.neg_neg (Rat.divInt _ _), this]; exact h.neg

set_option maxRecDepth 100000 in
set_option maxHeartbeats 4000000 in
theorem krat_any (x : Rat) (w : World) (hx : Fits x) :
    Calls Tryz.prog 79 #[kA x] w fun e w' => ∃ B, e = .returned (.pointer (some ⟨B, 0, none⟩)) ∧ RatAt w' B x ∧ w.heap.size ≤ B ∧ B < w'.heap.size ∧ Below w.heap.size w w' := by
  have h32 := hx.szd
  have hx8 := hx
  have sM := mag_szd h32
  have hw1 := fun W => kwhole_any x.num.natAbs W (Nat.le_trans hx.1 (by omega))
  have hw2 := fun W => kwhole_any x.den W (Nat.le_trans hx.2 (by omega))
  have hng := fun W B a c => ratneg_any B B (Rat.divInt (x.num.natAbs : Int) (x.den : Int)) W a c (sM.mono (by omega))
  have sp : Hid (Fil.dn 32 (x.num.natAbs : Int).natAbs ≤ 1099511627000 ∧ Fil.dn 32 (x.den : Int).natAbs ≤ 1099511627000) := Lib.hid ⟨by rw [Int.natAbs_natCast]; exact Nat.le_trans h32.1 (by omega), by rw [Int.natAbs_natCast]; exact Nat.le_trans h32.2 (by omega)⟩
  unfold kA
  clear hx hx8 h32 sM
  have hp := fun h => mag_pos (x := x) h
  have hn := fun h => mag_neg (x := x) h
  generalize sg x.num = N at *
  generalize bstr x.num.natAbs = S at *
  generalize bstr x.den = T at *
  have HP := Lib.hid (And.intro hp hn)
  clear hp hn
  have hb := Below.refl w.heap.size w
  go_enter Tryz.func79, Tryz.ntmps79
  have F := Blk.put (w) #[.bool N, .string S, .string T] 24
  replace hb := hb.alloc hb.size (.cells #[.bool N, .string S, .string T] 24)
  have q_BX : Hid (w.heap.size ≤ w.heap.size) := Lib.hid (by omega)
  go_upto_region 1 with fail
  generalize w.alloc (.cells #[.bool N, .string S, .string T] 24) = v1 at *
  go_cut [3] from 4 to 11 (fun s3 wx => ∃ BR : Nat, s3 = .pointer (some ⟨BR, 0, none⟩) ∧ RatAt wx BR (Rat.divInt (x.num.natAbs : Int) (x.den : Int)) ∧ w.heap.size < BR ∧ Blk wx w.heap.size #[.bool N, .string S, .string T] 24 ∧ Below w.heap.size w wx)
  case first =>
    go_wp2_with fail
    refine wp_region_any (by kernel_rfl) ?_
    have hHeld : (fun w' : World => w'.cell? ⟨w.heap.size, 1, none⟩ = some (.string S) ∧ w'.cell? ⟨w.heap.size, 2, none⟩ = some (.string T)) v1.drew := ⟨F.ce3.2.1, F.ce3.2.2⟩
    refine wpAny_of_held (S := fun w' : World => w'.cell? ⟨w.heap.size, 1, none⟩ = some (.string S) ∧ w'.cell? ⟨w.heap.size, 2, none⟩ = some (.string T)) _ _ _ (v1.drew) ?_
    replace F : Blk (v1.drew) (w.heap.size) #[.bool N, .string S, .string T] 24 := F
    replace hb : Below w.heap.size w v1.drew := hb.drew
    generalize v1.drew = v2 at *
    refine wpAnyH_take (i := 1) (v := _) (by first | (simp only [List.getElem?_toArray, List.getElem?_cons_zero, List.getElem?_cons_succ]; rfl) | rfl) (by kernel_rfl) (by kernel_rfl) (by kernel_rfl) (by exact fun _ _ _ h => h) (Or.inl ⟨by rfl, by (intro w hSw; (try dsimp only at hSw); go_simp; try with_reducible rfl)⟩) (by assumption) ?_
    (try dsimp only [Act.put]); (try go_frame)
    refine wpAnyH_take (i := 2) (v := _) (by first | (simp only [List.getElem?_toArray, List.getElem?_cons_zero, List.getElem?_cons_succ]; rfl) | rfl) (by kernel_rfl) (by kernel_rfl) (by kernel_rfl) (by exact fun _ _ _ h => h) (Or.inl ⟨by rfl, by (intro w hSw; (try dsimp only at hSw); go_simp; try with_reducible rfl)⟩) (by assumption) ?_
    (try dsimp only [Act.put]); (try go_frame)
    refine wpAnyH_take (i := 4) (v := _) (by first | (simp only [List.getElem?_toArray, List.getElem?_cons_zero, List.getElem?_cons_succ]; rfl) | rfl) (by kernel_rfl) (by kernel_rfl) (by kernel_rfl) (by exact fun _ _ _ h => h) (Or.inl ⟨by rfl, by (intro w hSw; (try dsimp only at hSw); go_simp; try with_reducible rfl)⟩) (by assumption) ?_
    (try dsimp only [Act.put]); (try go_frame)
    refine wpAnyH_take (i := 5) (v := _) (by first | (simp only [List.getElem?_toArray, List.getElem?_cons_zero, List.getElem?_cons_succ]; rfl) | rfl) (by kernel_rfl) (by kernel_rfl) (by kernel_rfl) (by exact fun _ _ _ h => h) (Or.inl ⟨by rfl, by (intro w hSw; (try dsimp only at hSw); go_simp; try with_reducible rfl)⟩) (by assumption) ?_
    (try dsimp only [Act.put]); (try go_frame)
    refine wpAnyH_ready (rs := [0, 3]) (by kernel_rfl) (by simp) ?_
    refine AllReadyH.cons rfl (fun K hK => ?_) (AllReadyH.cons rfl (fun K hK => ?_) AllReadyH.nil)
    · go_simp
      have R := RRoom.new v2
      have q0 : Hid (w.heap.size ≤ v2.heap.size) := Lib.hid hb.size
      have q0_BX : Hid (w.heap.size < v2.heap.size) := Lib.hid F.lt
      replace F := F.allocd (.cells #[.bool false, .slice none 0 0, .bool false, .slice none 0 0] 77)
      replace hb := hb.alloc hb.size (.cells #[.bool false, .slice none 0 0, .bool false, .slice none 0 0] 77)
      refine hK.out _ _ ?_ (fun hHeld => ?_)
      · exact ⟨F.ce3.2.1, F.ce3.2.2⟩
      clear hK K
      generalize v2.alloc (.cells #[.bool false, .slice none 0 0, .bool false, .slice none 0 0] 77) = v3 at *
      generalize v2.heap.size = BR at *
      have q_BR := q0
      clear q0
      have q_BX_BR := q0_BX
      clear q0_BX
      (try dsimp only [Act.put]); (try go_frame)
      refine wpAnyH_ready (rs := [3]) (by kernel_rfl) (by simp) ?_
      refine AllReadyH.cons rfl (fun K hK => ?_) AllReadyH.nil
      go_simp
      have q_BX_B10 : w.heap.size < v3.heap.size := F.lt
      have q_BR_B10 : BR < v3.heap.size := R.lt
      have q_B10 : w.heap.size ≤ v3.heap.size := hb.size
      refine (hw1 v3).mono ?_
      rintro r ww14 ⟨rfl, I1, hB⟩
      replace F := F.keep hB
      replace R := R.below hB
      replace hb := hb.trans (hB.mono hb.size)
      clear hB
      refine hK.out _ _ ?_ (fun hHeld => ?_)
      · exact ⟨F.ce3.2.1, F.ce3.2.2⟩
      clear hK K
      generalize v3.heap.size = B1 at *
      have q_B1 := Lib.hid q_B10
      clear q_B10
      have q_BX_B1 := Lib.hid q_BX_B10
      clear q_BX_B10
      have q_BR_B1 := Lib.hid q_BR_B10
      clear q_BR_B10
      (try dsimp only [Act.put]); (try go_frame)
      refine wpAnyH_ready (rs := [6]) (by kernel_rfl) (by simp) ?_
      refine AllReadyH.cons rfl (fun K hK => ?_) AllReadyH.nil
      go_simp
      have q_BX_B20 : w.heap.size < ww14.heap.size := F.lt
      have q_BR_B20 : BR < ww14.heap.size := R.lt
      have q_B1_B20 : B1 < ww14.heap.size := I1.lt
      have q_B20 : w.heap.size ≤ ww14.heap.size := hb.size
      refine (hw2 ww14).mono ?_
      rintro r ww28 ⟨rfl, I2, hB⟩
      replace F := F.keep hB
      replace R := R.below hB
      replace I1 := I1.below hB
      replace hb := hb.trans (hB.mono hb.size)
      clear hB
      refine hK.out _ _ ?_ (fun hHeld => ?_)
      · exact ⟨F.ce3.2.1, F.ce3.2.2⟩
      clear hK K
      generalize ww14.heap.size = B2 at *
      have q_B2 := Lib.hid q_B20
      clear q_B20
      have q_BX_B2 := Lib.hid q_BX_B20
      clear q_BX_B20
      have q_BR_B2 := Lib.hid q_BR_B20
      clear q_BR_B20
      have q_B1_B2 := Lib.hid q_B1_B20
      clear q_B1_B20
      (try dsimp only [Act.put]); (try go_frame)
      refine wpAnyH_ready (rs := [7]) (by kernel_rfl) (by simp) ?_
      refine AllReadyH.cons rfl (fun K hK => ?_) AllReadyH.nil
      go_simp
      refine (ratsetfrac_any BR B1 B2 (x.num.natAbs : Int) (x.den : Int) ww28 R I1 I2 (by have := q_BR_B1.out; omega) (by have := q_BR_B2.out; omega) (den_ne x) sp.out.1 sp.out.2).mono ?_
      rintro r wz ⟨rfl, R0, hF⟩
      replace F := F.ofFar hF (by have := q_BX_BR.out; omega)
      replace I1 := I1.far hF (by have := q_BR_B1.out; omega)
      replace I2 := I2.far hF (by have := q_BR_B2.out; omega)
      replace hb := hb.trans (hF.below q_BR.out hb.size)
      clear hF R
      have R := R0
      clear R0
      refine hK.out _ _ ?_ (fun hHeld => ?_)
      · exact ⟨F.ce3.2.1, F.ce3.2.2⟩
      clear hK K
      (try dsimp only [Act.put]); (try go_frame)
      refine wpAnyH_take (i := 8) (v := _) (by first | (simp only [List.getElem?_toArray, List.getElem?_cons_zero, List.getElem?_cons_succ]; rfl) | rfl) (by kernel_rfl) (by kernel_rfl) (by kernel_rfl) (by exact fun _ _ _ h => h) (Or.inl ⟨by rfl, by (intro w hSw; (try dsimp only at hSw); go_simp; try with_reducible rfl)⟩) (by assumption) ?_
      (try dsimp only [Act.put]); (try go_frame)
      refine wpAnyH_done (by kernel_rfl) ?_ _
      try simp only [QCut]
      go_wp2_with fail
      go_meet
      exact ⟨BR, rfl, R, q_BX_BR.out, F, hb⟩
    · go_simp
      have q_BX_B10 : w.heap.size < v2.heap.size := F.lt
      have q_B10 : w.heap.size ≤ v2.heap.size := hb.size
      refine (hw1 v2).mono ?_
      rintro r ww3 ⟨rfl, I1, hB⟩
      replace F := F.keep hB
      replace hb := hb.trans (hB.mono hb.size)
      clear hB
      refine hK.out _ _ ?_ (fun hHeld => ?_)
      · exact ⟨F.ce3.2.1, F.ce3.2.2⟩
      clear hK K
      generalize v2.heap.size = B1 at *
      have q_B1 := Lib.hid q_B10
      clear q_B10
      have q_BX_B1 := Lib.hid q_BX_B10
      clear q_BX_B10
      (try dsimp only [Act.put]); (try go_frame)
      refine wpAnyH_ready (rs := [0, 6]) (by kernel_rfl) (by simp) ?_
      refine AllReadyH.cons rfl (fun K hK => ?_) (AllReadyH.cons rfl (fun K hK => ?_) AllReadyH.nil)
      · go_simp
        have R := RRoom.new ww3
        have q0 : Hid (w.heap.size ≤ ww3.heap.size) := Lib.hid hb.size
        have q0_BX : Hid (w.heap.size < ww3.heap.size) := Lib.hid F.lt
        have q0_B1 : Hid (B1 < ww3.heap.size) := Lib.hid I1.lt
        replace F := F.allocd (.cells #[.bool false, .slice none 0 0, .bool false, .slice none 0 0] 77)
        replace I1 := I1.alloc (.cells #[.bool false, .slice none 0 0, .bool false, .slice none 0 0] 77)
        replace hb := hb.alloc hb.size (.cells #[.bool false, .slice none 0 0, .bool false, .slice none 0 0] 77)
        refine hK.out _ _ ?_ (fun hHeld => ?_)
        · exact ⟨F.ce3.2.1, F.ce3.2.2⟩
        clear hK K
        generalize ww3.alloc (.cells #[.bool false, .slice none 0 0, .bool false, .slice none 0 0] 77) = v3 at *
        generalize ww3.heap.size = BR at *
        have q_BR := q0
        clear q0
        have q_BX_BR := q0_BX
        clear q0_BX
        have q_B1_BR := q0_B1
        clear q0_B1
        (try dsimp only [Act.put]); (try go_frame)
        refine wpAnyH_ready (rs := [6]) (by kernel_rfl) (by simp) ?_
        refine AllReadyH.cons rfl (fun K hK => ?_) AllReadyH.nil
        go_simp
        have q_BX_B20 : w.heap.size < v3.heap.size := F.lt
        have q_B1_B20 : B1 < v3.heap.size := I1.lt
        have q_BR_B20 : BR < v3.heap.size := R.lt
        have q_B20 : w.heap.size ≤ v3.heap.size := hb.size
        refine (hw2 v3).mono ?_
        rintro r ww18 ⟨rfl, I2, hB⟩
        replace F := F.keep hB
        replace I1 := I1.below hB
        replace R := R.below hB
        replace hb := hb.trans (hB.mono hb.size)
        clear hB
        refine hK.out _ _ ?_ (fun hHeld => ?_)
        · exact ⟨F.ce3.2.1, F.ce3.2.2⟩
        clear hK K
        generalize v3.heap.size = B2 at *
        have q_B2 := Lib.hid q_B20
        clear q_B20
        have q_BX_B2 := Lib.hid q_BX_B20
        clear q_BX_B20
        have q_B1_B2 := Lib.hid q_B1_B20
        clear q_B1_B20
        have q_BR_B2 := Lib.hid q_BR_B20
        clear q_BR_B20
        (try dsimp only [Act.put]); (try go_frame)
        refine wpAnyH_ready (rs := [7]) (by kernel_rfl) (by simp) ?_
        refine AllReadyH.cons rfl (fun K hK => ?_) AllReadyH.nil
        go_simp
        refine (ratsetfrac_any BR B1 B2 (x.num.natAbs : Int) (x.den : Int) ww18 R I1 I2 (by have := q_B1_BR.out; omega) (by have := q_BR_B2.out; omega) (den_ne x) sp.out.1 sp.out.2).mono ?_
        rintro r wz ⟨rfl, R0, hF⟩
        replace F := F.ofFar hF (by have := q_BX_BR.out; omega)
        replace I1 := I1.far hF (by have := q_B1_BR.out; omega)
        replace I2 := I2.far hF (by have := q_BR_B2.out; omega)
        replace hb := hb.trans (hF.below q_BR.out hb.size)
        clear hF R
        have R := R0
        clear R0
        refine hK.out _ _ ?_ (fun hHeld => ?_)
        · exact ⟨F.ce3.2.1, F.ce3.2.2⟩
        clear hK K
        (try dsimp only [Act.put]); (try go_frame)
        refine wpAnyH_take (i := 8) (v := _) (by first | (simp only [List.getElem?_toArray, List.getElem?_cons_zero, List.getElem?_cons_succ]; rfl) | rfl) (by kernel_rfl) (by kernel_rfl) (by kernel_rfl) (by exact fun _ _ _ h => h) (Or.inl ⟨by rfl, by (intro w hSw; (try dsimp only at hSw); go_simp; try with_reducible rfl)⟩) (by assumption) ?_
        (try dsimp only [Act.put]); (try go_frame)
        refine wpAnyH_done (by kernel_rfl) ?_ _
        try simp only [QCut]
        go_wp2_with fail
        go_meet
        exact ⟨BR, rfl, R, q_BX_BR.out, F, hb⟩
      · go_simp
        have q_BX_B20 : w.heap.size < ww3.heap.size := F.lt
        have q_B1_B20 : B1 < ww3.heap.size := I1.lt
        have q_B20 : w.heap.size ≤ ww3.heap.size := hb.size
        refine (hw2 ww3).mono ?_
        rintro r ww4 ⟨rfl, I2, hB⟩
        replace F := F.keep hB
        replace I1 := I1.below hB
        replace hb := hb.trans (hB.mono hb.size)
        clear hB
        refine hK.out _ _ ?_ (fun hHeld => ?_)
        · exact ⟨F.ce3.2.1, F.ce3.2.2⟩
        clear hK K
        generalize ww3.heap.size = B2 at *
        have q_B2 := Lib.hid q_B20
        clear q_B20
        have q_BX_B2 := Lib.hid q_BX_B20
        clear q_BX_B20
        have q_B1_B2 := Lib.hid q_B1_B20
        clear q_B1_B20
        (try dsimp only [Act.put]); (try go_frame)
        refine wpAnyH_ready (rs := [0]) (by kernel_rfl) (by simp) ?_
        refine AllReadyH.cons rfl (fun K hK => ?_) AllReadyH.nil
        go_simp
        have R := RRoom.new ww4
        have q0 : Hid (w.heap.size ≤ ww4.heap.size) := Lib.hid hb.size
        have q0_BX : Hid (w.heap.size < ww4.heap.size) := Lib.hid F.lt
        have q0_B1 : Hid (B1 < ww4.heap.size) := Lib.hid I1.lt
        have q0_B2 : Hid (B2 < ww4.heap.size) := Lib.hid I2.lt
        replace F := F.allocd (.cells #[.bool false, .slice none 0 0, .bool false, .slice none 0 0] 77)
        replace I1 := I1.alloc (.cells #[.bool false, .slice none 0 0, .bool false, .slice none 0 0] 77)
        replace I2 := I2.alloc (.cells #[.bool false, .slice none 0 0, .bool false, .slice none 0 0] 77)
        replace hb := hb.alloc hb.size (.cells #[.bool false, .slice none 0 0, .bool false, .slice none 0 0] 77)
        refine hK.out _ _ ?_ (fun hHeld => ?_)
        · exact ⟨F.ce3.2.1, F.ce3.2.2⟩
        clear hK K
        generalize ww4.alloc (.cells #[.bool false, .slice none 0 0, .bool false, .slice none 0 0] 77) = v3 at *
        generalize ww4.heap.size = BR at *
        have q_BR := q0
        clear q0
        have q_BX_BR := q0_BX
        clear q0_BX
        have q_B1_BR := q0_B1
        clear q0_B1
        have q_B2_BR := q0_B2
        clear q0_B2
        (try dsimp only [Act.put]); (try go_frame)
        refine wpAnyH_ready (rs := [7]) (by kernel_rfl) (by simp) ?_
        refine AllReadyH.cons rfl (fun K hK => ?_) AllReadyH.nil
        go_simp
        refine (ratsetfrac_any BR B1 B2 (x.num.natAbs : Int) (x.den : Int) v3 R I1 I2 (by have := q_B1_BR.out; omega) (by have := q_B2_BR.out; omega) (den_ne x) sp.out.1 sp.out.2).mono ?_
        rintro r wz ⟨rfl, R0, hF⟩
        replace F := F.ofFar hF (by have := q_BX_BR.out; omega)
        replace I1 := I1.far hF (by have := q_B1_BR.out; omega)
        replace I2 := I2.far hF (by have := q_B2_BR.out; omega)
        replace hb := hb.trans (hF.below q_BR.out hb.size)
        clear hF R
        have R := R0
        clear R0
        refine hK.out _ _ ?_ (fun hHeld => ?_)
        · exact ⟨F.ce3.2.1, F.ce3.2.2⟩
        clear hK K
        (try dsimp only [Act.put]); (try go_frame)
        refine wpAnyH_take (i := 8) (v := _) (by first | (simp only [List.getElem?_toArray, List.getElem?_cons_zero, List.getElem?_cons_succ]; rfl) | rfl) (by kernel_rfl) (by kernel_rfl) (by kernel_rfl) (by exact fun _ _ _ h => h) (Or.inl ⟨by rfl, by (intro w hSw; (try dsimp only at hSw); go_simp; try with_reducible rfl)⟩) (by assumption) ?_
        (try dsimp only [Act.put]); (try go_frame)
        refine wpAnyH_done (by kernel_rfl) ?_ _
        try simp only [QCut]
        go_wp2_with fail
        go_meet
        exact ⟨BR, rfl, R, q_BX_BR.out, F, hb⟩
  case rest =>
    clear F hb
    obtain ⟨BR, rfl, R, qR, F, hb⟩ := hcut
    obtain ⟨x0, x1, x2⟩ := F.ce3
    clear hw1 hw2
    cases N
    · rw [HP.out.1 (by first | rfl | trivial)] at R
      clear hng F
      go_wp2
      go_ret
      exact ⟨BR, rfl, R, by omega, R.lt, hb⟩
    · go_wp2_with fail
      refine (hng _ _ R.room R).mono ?_
      rintro r wz ⟨rfl, R0, hF⟩
      rw [HP.out.2 (by first | rfl | trivial)] at R0
      replace hb := hb.trans (hF.below (by omega) hb.size)
      clear hng R F hF x0 x1 x2
      go_wp2
      go_ret
      exact ⟨BR, rfl, R0, by omega, R0.lt, hb⟩

end Go.Proofs.YtbhfnigblhfikaaGreat
