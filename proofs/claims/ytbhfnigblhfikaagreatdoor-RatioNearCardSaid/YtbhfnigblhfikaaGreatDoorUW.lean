/- RatioNear: the law for any input. -/
import Derived.Test.YtbhfnigblhfikaaGreatDoorUT
import Derived.Test.YtbhfnigblhfikaaGreatDoorUN
import Derived.Test.YtbhfnigblhfikaaGreatDoorUO
import Derived.Test.YtbhfnigblhfikaaGreatDoorUP
import Derived.Test.YtbhfnigblhfikaaGreatDoorUQ
import Derived.Test.YtbhfnigblhfikaaGreatDoorUR
import Derived.Test.YtbhfnigblhfikaaGreatDoorUS
import Derived.Test.YtbhfnigblhfikaaGreatDoorUV
namespace Go.Proofs.YtbhfnigblhfikaaGreatDoor
open Go Go.RowKit Go.PlainAid Fil

/-- the two floats about a number that is no float's, and the nearest one -/
theorem near_shape (x : Rat) (h0 : x.num ≠ 0) (hc : aC x.num.natAbs x.den (exQ x) ≠ -2) : ∃ B C M : Nat, B ≤ 9218868437227405312 ∧ C ≤ 9218868437227405312 ∧ loW x = Ieee.double.word (sg x.num) B ∧ hiW x = Ieee.double.word (sg x.num) C ∧ kFl x = Ieee.double.word (sg x.num) M ∧ (M = B ∨ M = C)
    ∧ upW (sg x.num) B = Ieee.double.word (sg x.num) C ∧ sz (sg x.num) B < sz (sg x.num) C ∧ (sg x.num = true ∨ B < 9218868437227405312) ∧ (B < 9218868437227405312 ∨ C < 9218868437227405312)
    ∧ (B < 9218868437227405312 → ¬ 0 < cmpR (fRat (sg x.num) B) x ∧ fRat (sg x.num) B ≠ x) ∧ (C < 9218868437227405312 → ¬ 0 < cmpR x (fRat (sg x.num) C))
    ∧ (B < 9218868437227405312 → C < 9218868437227405312 → (cmpR (x - fRat (sg x.num) B) (fRat (sg x.num) C - x) < 0 → M = B) ∧ (0 < cmpR (x - fRat (sg x.num) B) (fRat (sg x.num) C - x) → M = C) ∧ (cmpR (x - fRat (sg x.num) B) (fRat (sg x.num) C - x) = 0 → M % 2 = 0)) := by
  have hd := x.den_nz
  have hn : x.num.natAbs ≠ 0 := by omega
  obtain ⟨Q, hQe⟩ : ∃ Q, Q = exQ x := ⟨_, rfl⟩
  have hQ : AQ x.num.natAbs x.den Q := by rw [hQe]; exact AQ_rd hn hd
  have hR : kRung x = _ := ar_N hn hd hQ
  obtain ⟨hL, hlo, hex, hhi⟩ := ar_pos hd hQ
  rw [← hQe] at hc
  have hmid := fun h => ar_mid hQ h hc
  have hag1 := fun (R : Nat) (h : R < 9218868437227405312) => agI_gt (x := x) h
  have hag2 := fun (R : Nat) (h : R < 9218868437227405312) => agI_lt (x := x) h
  have hval : ∀ R, R < 9218868437227405312 → agI (sg x.num) R x = cmpR (fRat (sg x.num) R) x := fun R h => by unfold agI; rw [if_neg (by omega)]
  have hself : ∀ R, fRat (sg x.num) R = x → cmpR (fRat (sg x.num) R) x = 0 := fun R h => by rw [h]; exact cmpR_self x
  have hmc := mid_cmp x
  have hFl : kFl x = Ieee.double.word (sg x.num) (kRung x) := by unfold kFl; rw [if_neg h0]
  have hlt : mv (aL x.num.natAbs x.den Q) * x.den < x.num.natAbs * P74 := by
    rcases Nat.lt_or_ge (mv (aL x.num.natAbs x.den Q) * x.den) (x.num.natAbs * P74) with h1 | h1
    · exact h1
    · exact absurd (hex.2 (by omega)) hc
  unfold loW hiW
  rw [← hQe, hFl]
  simp only [hc, if_false]
  clear hQe hex hQ
  generalize aL x.num.natAbs x.den Q = L at *
  generalize aC x.num.natAbs x.den Q = c at *
  generalize aE x.num.natAbs x.den Q = e at *
  generalize x.num.natAbs * P74 = A0 at *
  generalize kRung x = R at *
  have hL1 : L = 9218868437227405311 ∨ L + 1 < 9218868437227405312 := by omega
  have hM : R = L ∨ R = L + 1 := by
    rw [hR]
    cases (decide (0 < c) || decide (c = 0) && !e)
    · left; rfl
    · right; rfl
  have hneg : ∀ R', cmpR x (fRat (sg x.num) R') = -cmpR (fRat (sg x.num) R') x := fun R' => cmpR_swap _ _
  cases hN : sg x.num
  · rw [hN] at hag1 hag2 hval hself hmc hneg
    simp only [Bool.false_eq_true, if_false] at hag1 hag2 hmc ⊢
    refine ⟨L, L + 1, R, by omega, by omega, rfl, rfl, rfl, hM, ?_, ?_, .inr (by omega), .inl (by omega), fun h => ⟨?_, ?_⟩, fun h => ?_, fun h1 h2 => ?_⟩
    · show upW false L = L + 1
      unfold upW; split <;> simp_all
    · simp only [sz, Bool.false_eq_true, if_false]; omega
    · rw [← hval L h, hag1 L h]; omega
    · intro hx
      have h1 := hself L hx
      rw [← hval L h] at h1
      have := (hag2 L h).2 hlt
      omega
    · rw [hneg, ← hval (L + 1) h]
      have h2 := hag2 (L + 1) h
      rcases hhi with h3 | h3
      · omega
      · have : ¬ agI false (L + 1) x < 0 := fun h4 => by have := h2.1 h4; omega
        omega
    · obtain ⟨m1, m2, m3⟩ := hmid (by omega)
      rw [hmc, hR, m3]
      refine ⟨fun h => ?_, fun h => ?_, fun h => ?_⟩
      · have hc2 : c < 0 := m2.2 (by unfold cmpZ at h; split at h <;> (try split at h) <;> omega)
        rw [show (decide (0 < c) || decide (c = 0) && !decide (L % 2 = 0)) = false by simp; omega]; rfl
      · have hc2 : 0 < c := m1.2 (by unfold cmpZ at h; split at h <;> (try split at h) <;> omega)
        rw [show (decide (0 < c) || decide (c = 0) && !decide (L % 2 = 0)) = true by simp; omega]; rfl
      · have hc2 : c = 0 := by
          have h3 : ¬ c < 0 := fun h4 => by have := m2.1 h4; unfold cmpZ at h; split at h <;> (try split at h) <;> omega
          have h4 : ¬ 0 < c := fun h4 => by have := m1.1 h4; unfold cmpZ at h; split at h <;> (try split at h) <;> omega
          omega
        by_cases hv : L % 2 = 0
        · rw [show (decide (0 < c) || decide (c = 0) && !decide (L % 2 = 0)) = false by simp [hc2, hv]]; exact hv
        · rw [show (decide (0 < c) || decide (c = 0) && !decide (L % 2 = 0)) = true by simp [hc2]; omega]; show (L + 1) % 2 = 0; omega
  · rw [hN] at hag1 hag2 hval hself hmc hneg
    simp only [if_true] at hag1 hag2 hmc ⊢
    refine ⟨L + 1, L, R, by omega, by omega, rfl, rfl, rfl, hM.symm, ?_, ?_, .inl trivial, .inr (by omega), fun h => ⟨?_, ?_⟩, fun h => ?_, fun h1 h2 => ?_⟩
    · unfold upW; simp
    · simp only [sz, if_true]; omega
    · rw [← hval (L + 1) h, hag1 (L + 1) h]; omega
    · intro hx
      have h1 := hself (L + 1) hx
      rw [← hval (L + 1) h] at h1
      rcases hhi with h3 | h3
      · omega
      · have := (hag2 (L + 1) h).2 h3
        omega
    · rw [hneg, ← hval L h]
      have h2 := hag1 L h
      have : 0 < agI true L x := h2.2 hlt
      omega
    · obtain ⟨m1, m2, m3⟩ := hmid (by omega)
      rw [hmc, hR, m3, Nat.add_comm (mv (L + 1) * x.den)]
      refine ⟨fun h => ?_, fun h => ?_, fun h => ?_⟩
      · have hc2 : 0 < c := m1.2 (by unfold cmpZ at h; split at h <;> (try split at h) <;> omega)
        rw [show (decide (0 < c) || decide (c = 0) && !decide (L % 2 = 0)) = true by simp; omega]; rfl
      · have hc2 : c < 0 := m2.2 (by unfold cmpZ at h; split at h <;> (try split at h) <;> omega)
        rw [show (decide (0 < c) || decide (c = 0) && !decide (L % 2 = 0)) = false by simp; omega]; rfl
      · have hc2 : c = 0 := by
          have h3 : ¬ c < 0 := fun h4 => by have := m2.1 h4; unfold cmpZ at h; split at h <;> (try split at h) <;> omega
          have h4 : ¬ 0 < c := fun h4 => by have := m1.1 h4; unfold cmpZ at h; split at h <;> (try split at h) <;> omega
          omega
        by_cases hv : L % 2 = 0
        · rw [show (decide (0 < c) || decide (c = 0) && !decide (L % 2 = 0)) = false by simp [hc2, hv]]; exact hv
        · rw [show (decide (0 < c) || decide (c = 0) && !decide (L % 2 = 0)) = true by simp [hc2]; omega]; show (L + 1) % 2 = 0; omega
theorem word_even {N : Bool} {R : Nat} (h : R % 2 = 0) : ((Ieee.double.word N R : Nat) : Int).tmod 2 = 0 := by
  rw [Int.tmod_eq_emod_of_nonneg (by omega)]
  cases N
  · rw [d_word_f]; omega
  · rw [d_word_t]; omega
theorem sz_inj {N : Bool} {a b : Nat} : sz N a = sz N b ↔ a = b := by
  cases N <;> simp [sz] <;> omega
set_option maxRecDepth 100000 in
set_option maxHeartbeats 2000000 in
/-- the tail for a number that may be and has few bytes -/
theorem near_good (x : Rat) (fx : Int) (w : World) (fb : Bts 300 x) (hT : Tab w) : ∀ (v1 : World) (_F2 : Blk v1 (w.heap.size) #[.bool (sg x.num), .string (bstr x.num.natAbs), .string (bstr x.den)] 24) (_B0 : Below w.heap.size w v1) (u3 u4 u5 u6 u7 u8 u9 u10 u11 u12 u13 u14 u15 u16 u17 u18 u19 u20 u21 u22 u23 u24 u25 u26 u27 u28 u29 u30 u31 u32 u33 u34 u35 u36 u37 u38 u39 u40 u41 u42 u43 u44 u45 u46 u47 u48 u49 u50 u51 u52 u53 u54 u55 u56 u57 u58 u59 u60 u61 u62 u63 u64 u65 u66 u67 u68 u69 u70 u71 u72 u73 u74 u75 u76 u77 u78 u79 u80 u81 u82 u83 u84 u85 u86 u87 u88 u89 u90 u91 u92 u93 u94 u95 u96 u97 u98 u99 u100 u101 u102 u103 u104 u105 u106 u107 u108 u109 u110 u111 u112 u113 u114 u115 u116 u117 u118 u119 u120 u121 u122 u123 u124 u125 u126 u127 u128 u129 u130 u131 u132 u133 u134 u135 u136 u137 u138 u139 u140 u141 u142 u143 u144 u145 u146 u147 u148 u149 u150 u151 u152 u153 u154 u155 u156 u157 u158 u159 u160 u161 u162 u163 u164 u165 u166 u167 u168 u169 u170 u171 u172 u173 u174 u175 u176 u177 u178 u179 u180 u181 u182 u183 u184 u185 u186 u187 u188 u189 u190 u191 u192 u193 u194 u195 u196 u197 u198 u199 u200 u201 u202 u203 u204 u205 u206 u207 u208 u209 u210 u211 u212 u213 u214 u215 u216 u217 u218 u219 u220 u221 u222 u223 u224 : Value), Code.wp Tryz.prog (nearTail 9 (Tryz.f3.body.getD .skip)) (bodyPost Tryz.prog Tryz.f3 fun r w' => r = .returned (.bool true) ∧ Below w.heap.size w w') ⟨#[.agg #[.bool (sg x.num), .string (bstr x.num.natAbs), .string (bstr x.den)], .int .u64 fx, .pointer (some ⟨w.heap.size, 0, none⟩), u3, u4, u5, u6, u7, u8, u9, u10, u11, u12, u13, u14, u15, u16, u17, u18, u19, u20, u21, u22, u23, u24, u25, u26, u27, u28, u29, u30, u31, u32, u33, u34, u35, u36, u37, u38, u39, u40, u41, u42, u43, u44, u45, u46, u47, u48, u49, u50, u51, u52, u53, u54, u55, u56, u57, u58, u59, u60, u61, u62, u63, u64, u65, u66, u67, u68, u69, u70, u71, u72, u73, u74, u75, u76, u77, u78, u79, u80, u81, u82, u83, u84, u85, u86, u87, u88, u89, u90, u91, u92, u93, u94, u95, u96, u97, u98, u99, u100, u101, u102, u103, u104, u105, u106, u107, u108, u109, u110, u111, u112, u113, u114, u115, u116, u117, u118, u119, u120, u121, u122, u123, u124, u125, u126, u127, u128, u129, u130, u131, u132, u133, u134, u135, u136, u137, u138, u139, u140, u141, u142, u143, u144, u145, u146, u147, u148, u149, u150, u151, u152, u153, u154, u155, u156, u157, u158, u159, u160, u161, u162, u163, u164, u165, u166, u167, u168, u169, u170, u171, u172, u173, u174, u175, u176, u177, u178, u179, u180, u181, u182, u183, u184, u185, u186, u187, u188, u189, u190, u191, u192, u193, u194, u195, u196, u197, u198, u199, u200, u201, u202, u203, u204, u205, u206, u207, u208, u209, u210, u211, u212, u213, u214, u215, u216, u217, u218, u219, u220, u221, u222, u223, u224], []⟩ v1 := by
  have Fx := fb.fits (by omega)
  have hbz : ∀ n, (bstr n).size = Fil.dn 8 n := bstr_size
  have h0 := fun W => l4small_any (sg x.num) (bstr x.num.natAbs) (bstr x.den) W (by rw [hbz]; have := fb.1; omega) (by rw [hbz]; have := fb.2; omega)
  rw [show smallB (bstr x.num.natAbs) (bstr x.den) = true by unfold smallB; rw [hbz, hbz, decide_eq_true fb.1, decide_eq_true fb.2]; rfl] at h0
  have h1 := fun W => kmay_any (sg x.num) (bstr x.num.natAbs) (bstr x.den) W (by rw [hbz]; have := fb.1; omega) (by rw [hbz]; have := fb.2; omega)
  rw [may_of_rat Fx] at h1
  have hl := fun W => l4lives_any W
  have h7 := fun W => kcompare_ok x x W Fx Fx
  rw [cmpR_self] at h7
  have own : ∀ (N : Bool) (R : Nat), R < 9218868437227405312 → fRat N R = x → kFl x = Ieee.double.word N R → loW x = Ieee.double.word N R → hiW x = Ieee.double.word N R → x.num ≠ 0 → ∀ (v1 : World) (_F2 : Blk v1 (w.heap.size) #[.bool (sg x.num), .string (bstr x.num.natAbs), .string (bstr x.den)] 24) (_B0 : Below w.heap.size w v1) (u3 u4 u5 u6 u7 u8 u9 u10 u11 u12 u13 u14 u15 u16 u17 u18 u19 u20 u21 u22 u23 u24 u25 u26 u27 u28 u29 u30 u31 u32 u33 u34 u35 u36 u37 u38 u39 u40 u41 u42 u43 u44 u45 u46 u47 u48 u49 u50 u51 u52 u53 u54 u55 u56 u57 u58 u59 u60 u61 u62 u63 u64 u65 u66 u67 u68 u69 u70 u71 u72 u73 u74 u75 u76 u77 u78 u79 u80 u81 u82 u83 u84 u85 u86 u87 u88 u89 u90 u91 u92 u93 u94 u95 u96 u97 u98 u99 u100 u101 u102 u103 u104 u105 u106 u107 u108 u109 u110 u111 u112 u113 u114 u115 u116 u117 u118 u119 u120 u121 u122 u123 u124 u125 u126 u127 u128 u129 u130 u131 u132 u133 u134 u135 u136 u137 u138 u139 u140 u141 u142 u143 u144 u145 u146 u147 u148 u149 u150 u151 u152 u153 u154 u155 u156 u157 u158 u159 u160 u161 u162 u163 u164 u165 u166 u167 u168 u169 u170 u171 u172 u173 u174 u175 u176 u177 u178 u179 u180 u181 u182 u183 u184 u185 u186 u187 u188 u189 u190 u191 u192 u193 u194 u195 u196 u197 u198 u199 u200 u201 u202 u203 u204 u205 u206 u207 u208 u209 u210 u211 u212 u213 u214 u215 u216 u217 u218 u219 u220 u221 u222 u223 u224 : Value), Code.wp Tryz.prog (nearTail 9 (Tryz.f3.body.getD .skip)) (bodyPost Tryz.prog Tryz.f3 fun r w' => r = .returned (.bool true) ∧ Below w.heap.size w w') ⟨#[.agg #[.bool (sg x.num), .string (bstr x.num.natAbs), .string (bstr x.den)], .int .u64 fx, .pointer (some ⟨w.heap.size, 0, none⟩), u3, u4, u5, u6, u7, u8, u9, u10, u11, u12, u13, u14, u15, u16, u17, u18, u19, u20, u21, u22, u23, u24, u25, u26, u27, u28, u29, u30, u31, u32, u33, u34, u35, u36, u37, u38, u39, u40, u41, u42, u43, u44, u45, u46, u47, u48, u49, u50, u51, u52, u53, u54, u55, u56, u57, u58, u59, u60, u61, u62, u63, u64, u65, u66, u67, u68, u69, u70, u71, u72, u73, u74, u75, u76, u77, u78, u79, u80, u81, u82, u83, u84, u85, u86, u87, u88, u89, u90, u91, u92, u93, u94, u95, u96, u97, u98, u99, u100, u101, u102, u103, u104, u105, u106, u107, u108, u109, u110, u111, u112, u113, u114, u115, u116, u117, u118, u119, u120, u121, u122, u123, u124, u125, u126, u127, u128, u129, u130, u131, u132, u133, u134, u135, u136, u137, u138, u139, u140, u141, u142, u143, u144, u145, u146, u147, u148, u149, u150, u151, u152, u153, u154, u155, u156, u157, u158, u159, u160, u161, u162, u163, u164, u165, u166, u167, u168, u169, u170, u171, u172, u173, u174, u175, u176, u177, u178, u179, u180, u181, u182, u183, u184, u185, u186, u187, u188, u189, u190, u191, u192, u193, u194, u195, u196, u197, u198, u199, u200, u201, u202, u203, u204, u205, u206, u207, u208, u209, u210, u211, u212, u213, u214, u215, u216, u217, u218, u219, u220, u221, u222, u223, u224], []⟩ v1 := by
    intro N R hR hx e1 e2 e3 hnz
    obtain ⟨k2, k3, k4⟩ := floors_prog x Fx hnz
    rw [e1] at k2
    rw [e2] at k3
    rw [e3] at k4
    have hw := word_parts (N := N) (R := R) (by omega)
    have hf : fr (Ieee.double.word N R) < 9218868437227405312 := by rw [hw.1]; exact hR
    have k6 := fun W (hW : Tab W) => l4of_any (Ieee.double.word N R) W hW (word_lt (by omega)) hf
    rw [hw.1, hw.2, hx] at k6
    exact near_own _ _ _ fx w _ hT h0 h1 k2 k3 k4 (fun W => l4finite_yes _ W hf) k6 h7 hl (by rw [ordw_ne (by omega) (by omega), decide_eq_true rfl]; rfl) (by rw [ordw_gt (by omega) (by omega)]; exact decide_eq_false (by omega)) (by rw [ordw_eq (by omega) (by omega)]; exact decide_eq_true rfl)
  by_cases hx0 : x.num = 0
  · have hxz : x = 0 := Rat.num_eq_zero.1 hx0
    obtain ⟨k2, k3, k4⟩ := zero_prog
    rw [← hxz] at k2 k3 k4
    have k6 := fun W (hW : Tab W) => l4of_any 0 W hW (by omega) (by decide)
    rw [show fRat (fs 0) (fr 0) = x by rw [hxz]; exact fRat_zero] at k6
    exact near_own _ _ _ fx w 0 hT h0 h1 k2 k3 k4 (fun W => l4finite_yes _ W (by decide)) k6 h7 hl (by decide) (by decide) (by decide)
  by_cases hc : aC x.num.natAbs x.den (exQ x) = -2
  · obtain ⟨N, R, hR0, hR, hx, e1, e2, e3⟩ := near_exact x hx0 hc
    exact own N R hR hx e1 e2 e3 hx0
  clear own
  obtain ⟨k2, k3, k4⟩ := floors_prog x Fx hx0
  obtain ⟨B, C, M, hB, hC, eB, eC, eM, hM, hup, hlt, hside, hone, hb, hc2, hg⟩ := near_shape x hx0 hc
  rw [eM] at k2
  rw [eB] at k3
  rw [eC] at k4
  clear eB eC eM hc
  have hu : ∀ W : World, Calls Tryz.prog 15 #[.float .f64 (Ieee.double.word (sg x.num) B)] W fun r w' => r = .returned (.float .f64 (Ieee.double.word (sg x.num) C)) ∧ Below W.heap.size W w' := fun (W : World) => (bup_any (sg x.num) B W hB hside).mono fun _ _ ⟨a, b⟩ => ⟨by rw [a, hup], b ▸ Below.refl _ _⟩
  have ne : B ≠ C := fun h => by rw [h] at hlt; omega
  have e3 : (FloatKind.f64.format.order (Ieee.double.word (sg x.num) B) (Ieee.double.word (sg x.num) C) == some .gt) = false := by rw [ordw_gt hB hC]; exact decide_eq_false (by omega)
  have e4 : (FloatKind.f64.format.order (Ieee.double.word (sg x.num) B) (Ieee.double.word (sg x.num) C) != some .eq) = true := by rw [ordw_ne hB hC, decide_eq_false (by omega)]; rfl
  have e5 : (FloatKind.f64.format.order (Ieee.double.word (sg x.num) C) (Ieee.double.word (sg x.num) C) != some .eq) = false := by rw [ordw_ne hC hC, decide_eq_true rfl]; rfl
  have e6 : (FloatKind.f64.format.order (Ieee.double.word (sg x.num) B) (Ieee.double.word (sg x.num) C) == some .eq) = false := by rw [ordw_eq hB hC]; exact decide_eq_false (by omega)
  have ebb : (FloatKind.f64.format.order (Ieee.double.word (sg x.num) B) (Ieee.double.word (sg x.num) B) != some .eq) = false := by rw [ordw_ne hB hB, decide_eq_true rfl]; rfl
  have ecb : (FloatKind.f64.format.order (Ieee.double.word (sg x.num) C) (Ieee.double.word (sg x.num) B) != some .eq) = true := by rw [ordw_ne hC hB, decide_eq_false (by omega)]; rfl
  have fin : ∀ R, R < 9218868437227405312 → ∀ W, Calls Tryz.prog 5 #[.float .f64 (Ieee.double.word (sg x.num) R)] W fun r w' => r = .returned (.bool true) ∧ Below W.heap.size W w' := fun R h W => l4finite_yes _ W (by rw [(word_parts (N := sg x.num) (R := R) (by omega)).1]; exact h)
  have inf : ∀ R, R = 9218868437227405312 → ∀ W, Calls Tryz.prog 5 #[.float .f64 (Ieee.double.word (sg x.num) R)] W fun r w' => r = .returned (.bool false) ∧ Below W.heap.size W w' := fun R h W => l4finite_no _ W (by rw [(word_parts (N := sg x.num) (R := R) (by omega)).1]; omega)
  have of : ∀ R, R < 9218868437227405312 → ∀ W, Tab W → Calls Tryz.prog 6 #[.float .f64 (Ieee.double.word (sg x.num) R)] W fun r w' => r = .returned (kA (fRat (sg x.num) R)) ∧ Below W.heap.size W w' := fun R h W hW => by
    have hw := word_parts (N := sg x.num) (R := R) (by omega)
    have k6 := l4of_any (Ieee.double.word (sg x.num) R) W hW (word_lt (by omega)) (by rw [hw.1]; exact h)
    rw [hw.1, hw.2] at k6
    exact k6
  have fit : ∀ R, R < 9218868437227405312 → Fits (fRat (sg x.num) R) := fun R h => (fRat_fits h).fits (by omega)
  by_cases hBi : B < 9218868437227405312
  · obtain ⟨hb1, hb2⟩ := hb hBi
    have c7 := fun W => kcompare_ok (fRat (sg x.num) B) x W (fit B hBi) Fx
    have hyx := fun {α : Type} (P Q : α) => kA_diff hb2 P Q
    by_cases hCi : C < 9218868437227405312
    · have hc3 := hc2 hCi
      obtain ⟨g1, g2, g3⟩ := hg hBi hCi
      have c8 := fun W => kcompare_ok x (fRat (sg x.num) C) W Fx (fit C hCi)
      have c9 := fun W => ksub_ok x (fRat (sg x.num) B) W Fx (fit B hBi)
      have f9 := (fb.sub (fRat_fits (N := sg x.num) hBi)).fits (by omega)
      rw [kTold_fits f9] at c9
      have c10 := fun W => ksub_ok (fRat (sg x.num) C) x W (fit C hCi) Fx
      have f10 := ((fRat_fits (N := sg x.num) hCi).sub fb).fits (by omega)
      rw [kTold_fits f10] at c10
      have c11 := fun W => kcompare_ok (x - fRat (sg x.num) B) (fRat (sg x.num) C - x) W f9 f10
      have hr := cmpR_rng (x - fRat (sg x.num) B) (fRat (sg x.num) C - x)
      generalize cmpR (x - fRat (sg x.num) B) (fRat (sg x.num) C - x) = g at *
      rcases (show g = -1 ∨ g = 0 ∨ g = 1 by omega) with rfl | rfl | rfl
      · obtain rfl := g1 (by omega)
        exact near_bothm _ _ _ fx w _ _ _ _ _ _ _ _ _ _ _ _ _ _ _ _ _ hT h0 h1 k2 k3 k4 hu (fin _ hBi) (fin _ hCi) (of _ hBi) (of _ hCi) c7 hb1 c8 hc3 hyx c9 c10 c11 hl ebb (by rw [ordw_eq hB hB]; exact decide_eq_true rfl) e3 e4 e5 e6
      · rcases hM with rfl | rfl
        · exact near_both0 _ _ _ fx w _ _ _ _ _ _ _ _ _ _ _ _ _ _ _ _ _ hT h0 h1 k2 k3 k4 hu (fin _ hBi) (fin _ hCi) (of _ hBi) (of _ hCi) c7 hb1 c8 hc3 hyx c9 c10 c11 hl ebb e3 e4 e5 e6 (word_even (g3 rfl))
        · exact near_both1 _ _ _ fx w _ _ _ _ _ _ _ _ _ _ _ _ _ _ _ _ _ hT h0 h1 k2 k3 k4 hu (fin _ hBi) (fin _ hCi) (of _ hBi) (of _ hCi) c7 hb1 c8 hc3 hyx c9 c10 c11 hl ecb e5 e3 e4 e5 e6 (word_even (g3 rfl))
      · obtain rfl := g2 (by omega)
        exact near_bothp _ _ _ fx w _ _ _ _ _ _ _ _ _ _ _ _ _ _ _ _ _ hT h0 h1 k2 k3 k4 hu (fin _ hBi) (fin _ hCi) (of _ hBi) (of _ hCi) c7 hb1 c8 hc3 hyx c9 c10 c11 hl ecb (by rw [ordw_eq hC hB]; exact decide_eq_false (by rw [sz_inj]; exact fun h => ne h.symm)) e5 e3 e4 e5 e6
    · have hCe : C = 9218868437227405312 := by omega
      rcases hM with rfl | rfl
      · exact near_cinf0 _ _ _ fx w _ _ _ _ _ _ _ hT h0 h1 k2 k3 k4 hu (fin _ hBi) (inf _ hCe) (of _ hBi) c7 hb1 hyx hl ebb e3 e4 e5 e6
      · exact near_cinf1 _ _ _ fx w _ _ _ _ _ _ _ hT h0 h1 k2 k3 k4 hu (fin _ hBi) (inf _ hCe) (of _ hBi) c7 hb1 hyx hl ecb e5 e3 e4 e5 e6
  · have hBe : B = 9218868437227405312 := by omega
    have hCi : C < 9218868437227405312 := by omega
    have hc3 := hc2 hCi
    have c8 := fun W => kcompare_ok x (fRat (sg x.num) C) W Fx (fit C hCi)
    rcases hM with rfl | rfl
    · exact near_binf0 _ _ _ fx w _ _ _ _ _ _ _ hT h0 h1 k2 k3 k4 hu (inf _ hBe) (fin _ hCi) (of _ hCi) c8 hc3 hl ebb e3 e4 e5 e6
    · exact near_binf1 _ _ _ fx w _ _ _ _ _ _ _ hT h0 h1 k2 k3 k4 hu (inf _ hBe) (fin _ hCi) (of _ hCi) c8 hc3 hl ecb e5 e3 e4 e5 e6
set_option maxHeartbeats 1000000 in
theorem signbit_zero (w : World) : Calls Tryz.prog 10 #[.float .f64 0] w fun r w' => r = .returned (.bool false) ∧ Below w.heap.size w w' := by
  have hb := Below.refl w.heap.size w
  have h1 := run_f64bits
  go_enter Tryz.func10, Tryz.ntmps10
  go_wp2
  go_ret
  exact ⟨rfl, hb⟩
set_option maxRecDepth 100000 in
set_option maxHeartbeats 2000000 in
theorem ratioNear_any (xn : Bool) (xS xT : ByteArray) (fx : Int) (w : World) (hT : Tab w) (b1 : xS.size ≤ 9223372036854775807) (b2 : xT.size ≤ 9223372036854775807) (c1 : 0 ≤ fx) (c2 : fx < 18446744073709551616) :
    Calls Tryz.prog 3 #[.agg #[.bool xn, .string xS, .string xT], .int .u64 fx] w fun r w' => r = .returned (.bool true) ∧ Below w.heap.size w w' := by
  have HR : ∀ (v1 : World) (_F2 : Blk v1 (w.heap.size) #[.bool xn, .string xS, .string xT] 24) (_B0 : Below w.heap.size w v1) (u3 u4 u5 u6 u7 u8 u9 u10 u11 u12 u13 u14 u15 u16 u17 u18 u19 u20 u21 u22 u23 u24 u25 u26 u27 u28 u29 u30 u31 u32 u33 u34 u35 u36 u37 u38 u39 u40 u41 u42 u43 u44 u45 u46 u47 u48 u49 u50 u51 u52 u53 u54 u55 u56 u57 u58 u59 u60 u61 u62 u63 u64 u65 u66 u67 u68 u69 u70 u71 u72 u73 u74 u75 u76 u77 u78 u79 u80 u81 u82 u83 u84 u85 u86 u87 u88 u89 u90 u91 u92 u93 u94 u95 u96 u97 u98 u99 u100 u101 u102 u103 u104 u105 u106 u107 u108 u109 u110 u111 u112 u113 u114 u115 u116 u117 u118 u119 u120 u121 u122 u123 u124 u125 u126 u127 u128 u129 u130 u131 u132 u133 u134 u135 u136 u137 u138 u139 u140 u141 u142 u143 u144 u145 u146 u147 u148 u149 u150 u151 u152 u153 u154 u155 u156 u157 u158 u159 u160 u161 u162 u163 u164 u165 u166 u167 u168 u169 u170 u171 u172 u173 u174 u175 u176 u177 u178 u179 u180 u181 u182 u183 u184 u185 u186 u187 u188 u189 u190 u191 u192 u193 u194 u195 u196 u197 u198 u199 u200 u201 u202 u203 u204 u205 u206 u207 u208 u209 u210 u211 u212 u213 u214 u215 u216 u217 u218 u219 u220 u221 u222 u223 u224 : Value), Code.wp Tryz.prog (nearTail 9 (Tryz.f3.body.getD .skip)) (bodyPost Tryz.prog Tryz.f3 fun r w' => r = .returned (.bool true) ∧ Below w.heap.size w w') ⟨#[.agg #[.bool xn, .string xS, .string xT], .int .u64 fx, .pointer (some ⟨w.heap.size, 0, none⟩), u3, u4, u5, u6, u7, u8, u9, u10, u11, u12, u13, u14, u15, u16, u17, u18, u19, u20, u21, u22, u23, u24, u25, u26, u27, u28, u29, u30, u31, u32, u33, u34, u35, u36, u37, u38, u39, u40, u41, u42, u43, u44, u45, u46, u47, u48, u49, u50, u51, u52, u53, u54, u55, u56, u57, u58, u59, u60, u61, u62, u63, u64, u65, u66, u67, u68, u69, u70, u71, u72, u73, u74, u75, u76, u77, u78, u79, u80, u81, u82, u83, u84, u85, u86, u87, u88, u89, u90, u91, u92, u93, u94, u95, u96, u97, u98, u99, u100, u101, u102, u103, u104, u105, u106, u107, u108, u109, u110, u111, u112, u113, u114, u115, u116, u117, u118, u119, u120, u121, u122, u123, u124, u125, u126, u127, u128, u129, u130, u131, u132, u133, u134, u135, u136, u137, u138, u139, u140, u141, u142, u143, u144, u145, u146, u147, u148, u149, u150, u151, u152, u153, u154, u155, u156, u157, u158, u159, u160, u161, u162, u163, u164, u165, u166, u167, u168, u169, u170, u171, u172, u173, u174, u175, u176, u177, u178, u179, u180, u181, u182, u183, u184, u185, u186, u187, u188, u189, u190, u191, u192, u193, u194, u195, u196, u197, u198, u199, u200, u201, u202, u203, u204, u205, u206, u207, u208, u209, u210, u211, u212, u213, u214, u215, u216, u217, u218, u219, u220, u221, u222, u223, u224], []⟩ v1 := by
    have h0 := fun W => l4small_any xn xS xT W b1 b2
    have hl := fun W => l4lives_any W
    cases e1 : smallB xS xT
    · rw [e1] at h0
      exact near_far _ _ _ fx w h0 hl
    · have hm := fun W => kmay_any xn xS xT W b1 b2
      rw [e1] at h0
      cases e3 : kMayB xn xS xT
      · rw [e3] at hm
        exact near_may _ _ _ fx w h0 hm hl
      · obtain ⟨x, _, rfl, rfl, rfl⟩ := rat_of_may e3
        have s1 := small_sizes e1
        rw [bstr_size, bstr_size] at s1
        exact near_good x fx w s1 hT
  obtain ⟨f, hf⟩ : ∃ f : Nat, fx = (f : Int) := ⟨fx.toNat, by omega⟩
  have hf64 : f < 18446744073709551616 := by omega
  by_cases hfin : fr f < 9218868437227405312
  · have h5 := fun W => l4finite_yes f W hfin
    have h6 := fun W (hW : Tab W) => l4of_any f W hW hf64 hfin
    obtain ⟨k7, k8, k9⟩ := own_any (fs f) (fr f) hfin ((fRat_fits hfin).fits (by omega))
    have hz0 : fr 0 ≤ 9218868437227405312 := by decide
    have hff : fr f ≤ 9218868437227405312 := by omega
    have hord : FloatKind.f64.format.order f 0 = some (compare (fk f) (fk 0)) := order_some hff hz0
    have hord2 : FloatKind.f64.format.order 0 f = some (compare (fk 0) (fk f)) := order_some hz0 hff
    have hord3 : FloatKind.f64.format.order f f = some (compare (fk f) (fk f)) := order_some hff hff
    have hk0 : fk 0 = 0 := by decide
    by_cases hz : fr f = 0
    · unfold plW at k7 k8 k9
      rw [if_pos hz] at k7 k8 k9
      have hkf : fk f = 0 := by unfold fk; rw [hz]; split <;> rfl
      exact near_z xn xS xT f fx hf _ _ _ w hT HR h5 h6 k7 k8 k9 signbit_zero (by rw [hord2, hk0, hkf]; rfl) (by rw [hord, hk0, hkf]; rfl) (by rw [hord, hk0, hkf]; rfl)
    · unfold plW at k7 k8 k9
      rw [if_neg hz, ← fw_eq hf64] at k7 k8 k9
      have hkf : fk f ≠ 0 := by unfold fk; split <;> omega
      have hcmp : (some (compare (fk f) (fk 0)) == some Ordering.eq) = false := by
        rw [hk0]
        rcases Int.lt_trichotomy (fk f) 0 with h | h | h
        · rw [Int.compare_eq_lt.2 h]; rfl
        · exact absurd h hkf
        · rw [Int.compare_eq_gt.2 h]; rfl
      exact near_nz xn xS xT f fx hf _ _ _ w hT HR h5 h6 k7 k8 k9 (l4like_same2 f) (by rw [hord3, Int.compare_eq_eq.2 rfl]; rfl) (by rw [hord]; exact hcmp) (by rw [hord]; show (!(some (compare (fk f) (fk 0)) == some Ordering.eq)) = true; rw [hcmp]; rfl)
  · exact near_none xn xS xT f fx hf w HR (fun W => l4finite_no f W hfin)
end Go.Proofs.YtbhfnigblhfikaaGreatDoor
