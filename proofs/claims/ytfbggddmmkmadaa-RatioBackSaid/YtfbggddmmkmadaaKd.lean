/- ratio.Decimal of what it refuses; of any text. -/
import Derived.Test.YtfbggddmmkmadaaKb
import Derived.Test.YtfbggddmmkmadaaKc
namespace Go.Proofs.Ytfbggddmmkmadaa
open Go Go.RowKit Go.PlainAid Fil

/-- no ratio, and an error -/
def errV (e : Int) : Value := .tuple #[.agg #[.bool false, .string ⟨#[]⟩, .string ⟨#[]⟩], .int .i64 e]
set_option maxRecDepth 1000000 in
set_option maxHeartbeats 2000000 in
theorem kdecimal_long (s : ByteArray) (w : World) (hs : 4096 < s.size) (hs2 : s.size ≤ 9223372036854775807) :
    Calls Try.prog 17 #[.string s] w fun e w' => e = .returned (errV 4) ∧ Below w.heap.size w w' := by
  have ts : decide ((4096 : Int) < (s.size : Int)) = true := decide_eq_true (by omega)
  have Z := Blk.put w #[.bool false, .string { data := #[] }, .string { data := #[] }] 25
  have hb := (Below.refl w.heap.size w).alloc (Nat.le_refl _) (.cells #[.bool false, .string { data := #[] }, .string { data := #[] }] 25)
  go_enter Try.func17, Try.ntmps17
  have HB := Lib.hid hb
  clear hb Z
  go_wp2
  exact bodyPost_ret (v := errV 4) (by simp [results, errV, Try.results17, go_sem]) rfl ⟨rfl, HB.out⟩

set_option maxRecDepth 1000000 in
set_option maxHeartbeats 2000000 in
theorem kdecimal_text (s : ByteArray) (w : World) (dn dd : Bool) (H T Q : ByteArray) (hs : s.size ≤ 4096) (hd : SP s = (⟨dn, dd, H, T, Q⟩, false)) :
    Calls Try.prog 17 #[.string s] w fun e w' => e = .returned (errV 40) ∧ Below w.heap.size w w' := by
  have ts : decide ((4096 : Int) < (s.size : Int)) = false := decide_eq_false (by omega)
  have HD := Lib.hid hd
  clear hd
  have Z := Blk.put w #[.bool false, .string { data := #[] }, .string { data := #[] }] 25
  have hb := (Below.refl w.heap.size w).alloc (Nat.le_refl _) (.cells #[.bool false, .string { data := #[] }, .string { data := #[] }] 25)
  go_enter Try.func17, Try.ntmps17
  go_wp2_with fail
  refine (ksplit_as s dn dd H T Q false _ (by omega) HD.out).mono ?_
  rintro e w1 ⟨rfl, hB⟩
  replace Z := Z.keep hB
  replace hb := hb.trans (hB.mono hb.size)
  clear hB
  have lz := Z.lt
  obtain ⟨zf0, zf1, zf2⟩ := Z.fr3
  obtain ⟨z0, z1, z2⟩ := Z.ce3
  have G0 : Blk (((w1.setCell ⟨w.heap.size, 0, none⟩ (.bool false)).setCell ⟨w.heap.size, 1, none⟩ (.string ⟨#[]⟩)).setCell ⟨w.heap.size, 2, none⟩ (.string ⟨#[]⟩)) w.heap.size #[.bool false, .string ⟨#[]⟩, .string ⟨#[]⟩] 25 := ((Z.setAt 0 _).setAt 1 _).setAt 2 _
  replace G0 := G0.allocd (.cells #[.bool dn, .bool dd, .string H, .string T, .string Q] 70)
  obtain ⟨g0, g1, g2⟩ := G0.ce3
  have hbY := ((hb.setCell (p := ⟨w.heap.size, 0, none⟩) (Nat.le_refl _) (.bool false)).setCell (p := ⟨w.heap.size, 1, none⟩) (Nat.le_refl _) (.string ⟨#[]⟩)).setCell (p := ⟨w.heap.size, 2, none⟩) (Nat.le_refl _) (.string ⟨#[]⟩)
  replace hbY := hbY.alloc hbY.size (.cells #[.bool dn, .bool dd, .string H, .string T, .string Q] 70)
  have HG := Lib.hid (And.intro (And.intro g0 (And.intro g1 g2)) hbY)
  clear g0 g1 g2 hbY G0 Z hb
  go_wp2
  obtain ⟨⟨g0, g1, g2⟩, hbY⟩ := HG.out
  exact bodyPost_ret (v := errV 40) (by simp [results, errV, Try.results17, go_sem, g0, g1, g2]) rfl ⟨rfl, hbY⟩

set_option maxRecDepth 1000000 in
set_option maxHeartbeats 4000000 in
theorem kdecimal_power (s : ByteArray) (w : World) (dn dd : Bool) (H T Q : ByteArray) (p : Nat) (hs : s.size ≤ 4096) (hd : SP s = (⟨dn, dd, H, T, Q⟩, true)) (hqz : Q.size ≤ 4096) (hQ : goodL Q.data.toList) (hp : dval 0 Q.data.toList = p) (hp5 : 5000 < p) :
    Calls Try.prog 17 #[.string s] w fun e w' => e = .returned (errV 4) ∧ Below w.heap.size w w' := by
  have ts : decide ((4096 : Int) < (s.size : Int)) = false := decide_eq_false (by omega)
  have hpK : Fil.dn 32 p ≤ 1099511627776 := by
    have h1 := dval_lt _ hQ.1
    rw [hp] at h1
    refine Nat.le_trans (dn_of_ten (N := 600) h1 ?_) (by omega)
    rw [Array.length_toList]; show 4 * Q.size + 1 ≤ _; omega
  have HD := Lib.hid hd
  have HQ := Lib.hid (And.intro hQ (And.intro hp hpK))
  have hqe := str_cons (good_pos hQ)
  have hqn : ¬ Q.toList = [] := fun h => by rw [h] at hqe; exact Bool.noConfusion hqe
  clear hd hQ hp hpK
  have Z := Blk.put w #[.bool false, .string { data := #[] }, .string { data := #[] }] 25
  have hb := (Below.refl w.heap.size w).alloc (Nat.le_refl _) (.cells #[.bool false, .string { data := #[] }, .string { data := #[] }] 25)
  go_enter Try.func17, Try.ntmps17
  go_wp2_with fail
  refine (ksplit_as s dn dd H T Q true _ (by omega) HD.out).mono ?_
  rintro e w1 ⟨rfl, hB⟩
  replace Z := Z.keep hB
  replace hb := hb.trans (hB.mono hb.size)
  clear hB
  have lz := Z.lt
  have F := Blk.put w1 #[.bool dn, .bool dd, .string H, .string T, .string Q] 70
  replace Z := Z.allocd (.cells #[.bool dn, .bool dd, .string H, .string T, .string Q] 70)
  replace hb := hb.alloc hb.size (.cells #[.bool dn, .bool dd, .string H, .string T, .string Q] 70)
  obtain ⟨c0, c1, c2, c3, c4⟩ := Blk.ce5 F
  go_wp2_with fail
  refine (kdigits_val Q _ (by omega) HQ.out.1).mono ?_
  rintro e w2 ⟨B7, rfl, I7, hB7, hB⟩
  rw [HQ.out.2.1] at I7
  replace Z := Z.keep hB
  replace hb := hb.trans (hB.mono hb.size)
  clear hB c0 c1 c2 c3 c4 F
  have l7 := I7.lt
  go_wp2_with fail
  refine (newint_any 5000 w2 (by decide) (by decide)).mono ?_
  rintro e w3 ⟨rfl, I8, hB⟩
  replace Z := Z.keep hB
  replace I7 := I7.below hB
  replace hb := hb.trans (hB.mono hb.size)
  clear hB
  go_wp2_with fail
  refine (icmp_any B7 0 w2.heap.size 0 (p : Int) 5000 w3 I7 I8 (by rw [Int.natAbs_natCast]; exact HQ.out.2.2) (Nat.le_trans (dn_p5 (x := 5000) (Nat.le_refl _)) (by decide))).mono ?_
  rintro e w4 ⟨rfl, k, hk⟩
  obtain ⟨cv, hcv⟩ : ∃ cv, cv = cmpI (p : Int) 5000 := ⟨_, rfl⟩
  have hc0 : 0 < cv := by rw [hcv]; unfold cmpI; rw [if_neg (by omega), if_pos (by omega)]; decide
  rw [← hcv]
  clear hcv
  have Z4 : Blk (w3.drewN k) _ _ _ := Z
  rw [← hk] at Z4
  have hb4 : Below w.heap.size w w4 := by rw [hk]; exact Below.drewN' hb k
  clear hk Z I7 I8 hb
  have Z := Z4
  have hb := hb4
  clear Z4 hb4
  obtain ⟨zf0, zf1, zf2⟩ := Z.fr3
  obtain ⟨z0, z1, z2⟩ := Z.ce3
  have G0 : Blk (((w4.setCell ⟨w.heap.size, 0, none⟩ (.bool false)).setCell ⟨w.heap.size, 1, none⟩ (.string ⟨#[]⟩)).setCell ⟨w.heap.size, 2, none⟩ (.string ⟨#[]⟩)) w.heap.size #[.bool false, .string ⟨#[]⟩, .string ⟨#[]⟩] 25 := ((Z.setAt 0 _).setAt 1 _).setAt 2 _
  obtain ⟨g0, g1, g2⟩ := G0.ce3
  have hbY := ((hb.setCell (p := ⟨w.heap.size, 0, none⟩) (Nat.le_refl _) (.bool false)).setCell (p := ⟨w.heap.size, 1, none⟩) (Nat.le_refl _) (.string ⟨#[]⟩)).setCell (p := ⟨w.heap.size, 2, none⟩) (Nat.le_refl _) (.string ⟨#[]⟩)
  have HG := Lib.hid (And.intro (And.intro g0 (And.intro g1 g2)) hbY)
  clear g0 g1 g2 hbY G0 Z hb
  go_wp2
  obtain ⟨⟨g0, g1, g2⟩, hbY⟩ := HG.out
  exact bodyPost_ret (v := errV 4) (by simp [results, errV, Try.results17, go_sem, g0, g1, g2]) rfl ⟨rfl, hbY⟩

/-- what Decimal tells of a text -/
def decV (s : ByteArray) : Value :=
  if 4096 < s.size then errV 4
  else if (SP s).2 = false then errV 40
  else if (SP s).1.power.size ≠ 0 ∧ 5000 < dval 0 (SP s).1.power.data.toList then errV 4
  else kToldV (dcmR (SP s).1)
theorem kdecimal_any (s : ByteArray) (w : World) (hs : s.size ≤ 9223372036854775807) :
    Calls Try.prog 17 #[.string s] w fun e w' => e = .returned (decV s) ∧ Below w.heap.size w w' := by
  unfold decV
  by_cases h1 : 4096 < s.size
  · rw [if_pos h1]; exact kdecimal_long s w h1 hs
  rw [if_neg h1]
  rcases hsp : SP s with ⟨⟨dn, dd, H, T, Q⟩, ok⟩
  cases ok
  · rw [if_pos rfl]; exact kdecimal_text s w dn dd H T Q (by omega) hsp
  rw [if_neg (by simp)]
  have hok := SP_ok hsp
  have z1 : H.size + T.size ≤ s.size := hok.sizes
  have z2 : Q.size ≤ s.size := hok.psize
  rcases hok.power with ⟨h2, h3⟩ | h2
  · have h2' : Q.size = 0 := h2
    have h3' : dd = false := h3
    subst h3'
    rw [if_neg (fun h => h.1 h2)]
    have hp : dcmP ⟨dn, false, H, T, Q⟩ = -(T.size : Int) := by
      have : Q.data.toList = [] := List.eq_nil_of_length_eq_zero (by rw [Array.length_toList]; exact h2')
      show (((dval 0 Q.data.toList : Nat) : Int)) - (T.size : Int) = _
      rw [this, dval_nil]; omega
    unfold dcmR dcmN
    by_cases h4 : 0 ≤ dcmP ⟨dn, false, H, T, Q⟩
    · rw [if_pos h4]
      exact kdecimal_Ep s w dn H T Q _ _ _ (by omega) hsp hok.head hok.tail (by omega) (by omega) h2' hp.symm h4 rfl rfl
    · rw [if_neg h4]
      exact kdecimal_En s w dn H T Q _ _ _ (by omega) hsp hok.head hok.tail (by omega) (by omega) h2' hp.symm (by omega) rfl rfl
  · by_cases h5 : 5000 < dval 0 Q.data.toList
    · rw [if_pos ⟨by have := good_pos h2; show Q.size ≠ 0; have h6 : 0 < Q.size := this; omega, h5⟩]
      exact kdecimal_power s w dn dd H T Q _ (by omega) hsp (by omega) h2 rfl h5
    · rw [if_neg (fun h => h5 h.2)]
      unfold dcmR dcmN
      cases dd
      · by_cases h4 : 0 ≤ dcmP ⟨dn, false, H, T, Q⟩
        · rw [if_pos h4]
          exact kdecimal_Up s w dn H T Q _ _ _ _ (by omega) hsp hok.head hok.tail (by omega) (by omega) h2 rfl (by omega) rfl h4 rfl rfl
        · rw [if_neg h4]
          exact kdecimal_Un s w dn H T Q _ _ _ _ (by omega) hsp hok.head hok.tail (by omega) (by omega) h2 rfl (by omega) rfl (Int.not_le.1 h4) rfl rfl
      · by_cases h4 : 0 ≤ dcmP ⟨dn, true, H, T, Q⟩
        · rw [if_pos h4]
          exact kdecimal_Dp s w dn H T Q _ _ _ _ (by omega) hsp hok.head hok.tail (by omega) (by omega) h2 rfl (by omega) rfl h4 rfl rfl
        · rw [if_neg h4]
          exact kdecimal_Dn s w dn H T Q _ _ _ _ (by omega) hsp hok.head hok.tail (by omega) (by omega) h2 rfl (by omega) rfl (Int.not_le.1 h4) rfl rfl
end Go.Proofs.Ytfbggddmmkmadaa
