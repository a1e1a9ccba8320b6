/- RatioNear: the tail where both are finite, by letters. -/
import Derived.Test.YtbhfnigblhfikaaGreatDoorUM
namespace Go.Proofs.YtbhfnigblhfikaaGreatDoor
open Go Go.RowKit Go.PlainAid Fil

set_option maxRecDepth 1000000 in
set_option maxHeartbeats 16000000 in
theorem near_both0 (xn : Bool) (xS xT : ByteArray) (fx : Int) (w : World) (n b c : Nat) (yn : Bool) (yS yT : ByteArray) (zn : Bool) (zS zT : ByteArray) (pn : Bool) (pS pT : ByteArray) (qn : Bool) (qS qT : ByteArray) (k m : Int)
    (hT : Tab w)
    (h0 : ∀ W, Calls Tryz.prog 12 #[.agg #[.bool xn, .string xS, .string xT]] W fun r w' => r = .returned (.bool true) ∧ Below W.heap.size W w')
    (h1 : ∀ W, Calls Tryz.prog 13 #[.agg #[.bool xn, .string xS, .string xT]] W fun r w' => r = .returned (.bool true) ∧ Below W.heap.size W w')
    (h2 : ∀ W, Calls Tryz.prog 7 #[.agg #[.bool xn, .string xS, .string xT]] W fun r w' => r = .returned (.tuple #[.float .f64 n, .int .i64 0]) ∧ Below W.heap.size W w')
    (h3 : ∀ W, Calls Tryz.prog 8 #[.agg #[.bool xn, .string xS, .string xT]] W fun r w' => r = .returned (.tuple #[.float .f64 b, .int .i64 0]) ∧ Below W.heap.size W w')
    (h4 : ∀ W, Calls Tryz.prog 9 #[.agg #[.bool xn, .string xS, .string xT]] W fun r w' => r = .returned (.tuple #[.float .f64 c, .int .i64 0]) ∧ Below W.heap.size W w')
    (hu : ∀ W, Calls Tryz.prog 15 #[.float .f64 b] W fun r w' => r = .returned (.float .f64 c) ∧ Below W.heap.size W w')
    (h5 : ∀ W, Calls Tryz.prog 5 #[.float .f64 b] W fun r w' => r = .returned (.bool true) ∧ Below W.heap.size W w')
    (h5c : ∀ W, Calls Tryz.prog 5 #[.float .f64 c] W fun r w' => r = .returned (.bool true) ∧ Below W.heap.size W w')
    (h6 : ∀ W, Tab W → Calls Tryz.prog 6 #[.float .f64 b] W fun r w' => r = .returned (.agg #[.bool yn, .string yS, .string yT]) ∧ Below W.heap.size W w')
    (h6c : ∀ W, Tab W → Calls Tryz.prog 6 #[.float .f64 c] W fun r w' => r = .returned (.agg #[.bool zn, .string zS, .string zT]) ∧ Below W.heap.size W w')
    (h7 : ∀ W, Calls Tryz.prog 16 #[.agg #[.bool yn, .string yS, .string yT], .agg #[.bool xn, .string xS, .string xT]] W fun r w' => r = .returned (.tuple #[.int .i64 k, .int .i64 0]) ∧ Below W.heap.size W w')
    (hk : ¬ 0 < k)
    (h8 : ∀ W, Calls Tryz.prog 16 #[.agg #[.bool xn, .string xS, .string xT], .agg #[.bool zn, .string zS, .string zT]] W fun r w' => r = .returned (.tuple #[.int .i64 m, .int .i64 0]) ∧ Below W.heap.size W w')
    (hm : ¬ 0 < m)
    (hyx : ∀ {α : Type} (A B : α), (if yn = xn then (if yS.toList = xS.toList then (if yT.toList = xT.toList then A else B) else B) else B) = B)
    (h9 : ∀ W, Calls Tryz.prog 17 #[.agg #[.bool xn, .string xS, .string xT], .agg #[.bool yn, .string yS, .string yT]] W fun r w' => r = .returned (.tuple #[.agg #[.bool pn, .string pS, .string pT], .int .i64 0]) ∧ Below W.heap.size W w')
    (h10 : ∀ W, Calls Tryz.prog 17 #[.agg #[.bool zn, .string zS, .string zT], .agg #[.bool xn, .string xS, .string xT]] W fun r w' => r = .returned (.tuple #[.agg #[.bool qn, .string qS, .string qT], .int .i64 0]) ∧ Below W.heap.size W w')
    (h11 : ∀ W, Calls Tryz.prog 16 #[.agg #[.bool pn, .string pS, .string pT], .agg #[.bool qn, .string qS, .string qT]] W fun r w' => r = .returned (.tuple #[.int .i64 0, .int .i64 0]) ∧ Below W.heap.size W w')
    (hl : ∀ W, Calls Tryz.prog 14 #[] W fun r w' => r = .returned (.bool true) ∧ Below W.heap.size W w')
    (e1 : (FloatKind.f64.format.order n b != some .eq) = false)
    (e3 : (FloatKind.f64.format.order b c == some .gt) = false)
    (e4 : (FloatKind.f64.format.order b c != some .eq) = true)
    (e5 : (FloatKind.f64.format.order c c != some .eq) = false)
    (e6 : (FloatKind.f64.format.order b c == some .eq) = false)
    (hev : ((n : Int)).tmod 2 = 0)
    (v1 : World) (F2 : Blk v1 (w.heap.size) #[.bool xn, .string xS, .string xT] 24) (B0 : Below w.heap.size w v1) (u3 u4 u5 u6 u7 u8 u9 u10 u11 u12 u13 u14 u15 u16 u17 u18 u19 u20 u21 u22 u23 u24 u25 u26 u27 u28 u29 u30 u31 u32 u33 u34 u35 u36 u37 u38 u39 u40 u41 u42 u43 u44 u45 u46 u47 u48 u49 u50 u51 u52 u53 u54 u55 u56 u57 u58 u59 u60 u61 u62 u63 u64 u65 u66 u67 u68 u69 u70 u71 u72 u73 u74 u75 u76 u77 u78 u79 u80 u81 u82 u83 u84 u85 u86 u87 u88 u89 u90 u91 u92 u93 u94 u95 u96 u97 u98 u99 u100 u101 u102 u103 u104 u105 u106 u107 u108 u109 u110 u111 u112 u113 u114 u115 u116 u117 u118 u119 u120 u121 u122 u123 u124 u125 u126 u127 u128 u129 u130 u131 u132 u133 u134 u135 u136 u137 u138 u139 u140 u141 u142 u143 u144 u145 u146 u147 u148 u149 u150 u151 u152 u153 u154 u155 u156 u157 u158 u159 u160 u161 u162 u163 u164 u165 u166 u167 u168 u169 u170 u171 u172 u173 u174 u175 u176 u177 u178 u179 u180 u181 u182 u183 u184 u185 u186 u187 u188 u189 u190 u191 u192 u193 u194 u195 u196 u197 u198 u199 u200 u201 u202 u203 u204 u205 u206 u207 u208 u209 u210 u211 u212 u213 u214 u215 u216 u217 u218 u219 u220 u221 u222 u223 u224 : Value) :
    Code.wp Tryz.prog (nearTail 9 (Tryz.f3.body.getD .skip)) (bodyPost Tryz.prog Tryz.f3 fun r w' => r = .returned (.bool true) ∧ Below w.heap.size w w') ⟨#[.agg #[.bool xn, .string xS, .string xT], .int .u64 fx, .pointer (some ⟨w.heap.size, 0, none⟩), u3, u4, u5, u6, u7, u8, u9, u10, u11, u12, u13, u14, u15, u16, u17, u18, u19, u20, u21, u22, u23, u24, u25, u26, u27, u28, u29, u30, u31, u32, u33, u34, u35, u36, u37, u38, u39, u40, u41, u42, u43, u44, u45, u46, u47, u48, u49, u50, u51, u52, u53, u54, u55, u56, u57, u58, u59, u60, u61, u62, u63, u64, u65, u66, u67, u68, u69, u70, u71, u72, u73, u74, u75, u76, u77, u78, u79, u80, u81, u82, u83, u84, u85, u86, u87, u88, u89, u90, u91, u92, u93, u94, u95, u96, u97, u98, u99, u100, u101, u102, u103, u104, u105, u106, u107, u108, u109, u110, u111, u112, u113, u114, u115, u116, u117, u118, u119, u120, u121, u122, u123, u124, u125, u126, u127, u128, u129, u130, u131, u132, u133, u134, u135, u136, u137, u138, u139, u140, u141, u142, u143, u144, u145, u146, u147, u148, u149, u150, u151, u152, u153, u154, u155, u156, u157, u158, u159, u160, u161, u162, u163, u164, u165, u166, u167, u168, u169, u170, u171, u172, u173, u174, u175, u176, u177, u178, u179, u180, u181, u182, u183, u184, u185, u186, u187, u188, u189, u190, u191, u192, u193, u194, u195, u196, u197, u198, u199, u200, u201, u202, u203, u204, u205, u206, u207, u208, u209, u210, u211, u212, u213, u214, u215, u216, u217, u218, u219, u220, u221, u222, u223, u224], []⟩ v1 := by
  conv => arg 2; whnf
  obtain ⟨xF250_0, xF250_1, xF250_2⟩ := F2.ce3
  go_wp2_with fail
  (with_reducible refine (h0 _).mono ?_)
  rintro r w21 ⟨rfl, hb21⟩
  clear xF250_0 xF250_1 xF250_2
  replace F2 := F2.keep hb21
  replace B0 := B0.trans (hb21.mono B0.size)
  clear hb21
  obtain ⟨xF251_0, xF251_1, xF251_2⟩ := F2.ce3
  go_wp2_with fail
  (with_reducible refine (h1 _).mono ?_)
  rintro r w22 ⟨rfl, hb22⟩
  clear xF251_0 xF251_1 xF251_2
  replace F2 := F2.keep hb22
  replace B0 := B0.trans (hb22.mono B0.size)
  clear hb22
  obtain ⟨xF252_0, xF252_1, xF252_2⟩ := F2.ce3
  go_wp2_with fail
  (with_reducible refine (h2 _).mono ?_)
  rintro r w23 ⟨rfl, hb23⟩
  clear xF252_0 xF252_1 xF252_2
  replace F2 := F2.keep hb23
  replace B0 := B0.trans (hb23.mono B0.size)
  clear hb23
  obtain ⟨xF253_0, xF253_1, xF253_2⟩ := F2.ce3
  go_wp2_with fail
  (with_reducible refine (h3 _).mono ?_)
  rintro r w24 ⟨rfl, hb24⟩
  clear xF253_0 xF253_1 xF253_2
  replace F2 := F2.keep hb24
  replace B0 := B0.trans (hb24.mono B0.size)
  clear hb24
  obtain ⟨xF254_0, xF254_1, xF254_2⟩ := F2.ce3
  go_wp2_with fail
  (with_reducible refine (h4 _).mono ?_)
  rintro r w25 ⟨rfl, hb25⟩
  clear xF254_0 xF254_1 xF254_2
  replace F2 := F2.keep hb25
  replace B0 := B0.trans (hb25.mono B0.size)
  clear hb25
  go_wp2_with fail
  refine wp_region_any (by kernel_rfl) ?_
  obtain ⟨xF255_0, xF255_1, xF255_2⟩ := F2.ce3
  have hHeld : (fun w' : World => w'.cell? ⟨w.heap.size, 0, none⟩ = some (.bool xn) ∧ w'.cell? ⟨w.heap.size, 1, none⟩ = some (.string xS) ∧ w'.cell? ⟨w.heap.size, 2, none⟩ = some (.string xT)) (w25).drew := ⟨xF255_0, xF255_1, xF255_2⟩
  refine wpAny_of_held (S := fun w' : World => w'.cell? ⟨w.heap.size, 0, none⟩ = some (.bool xn) ∧ w'.cell? ⟨w.heap.size, 1, none⟩ = some (.string xS) ∧ w'.cell? ⟨w.heap.size, 2, none⟩ = some (.string xT)) _ _ _ _ ?_
  replace F2 := F2.drew
  replace B0 := B0.drew
  refine wpAnyH_take (i := 0) (v := _) (by first | (simp only [List.getElem?_toArray, List.getElem?_cons_zero]; rfl) | rfl) (by kernel_rfl) (by kernel_rfl) (by kernel_rfl) (by exact fun _ _ _ h => h) (Or.inl ⟨by rfl, by (intro w hSw; (try dsimp only at hSw); go_simp; try with_reducible rfl)⟩) (by assumption) ?_
  (try dsimp only [Act.put]); (try go_frame)
  refine wpAnyH_take (i := 1) (v := _) (by first | (simp only [List.getElem?_toArray, List.getElem?_cons_zero, List.getElem?_cons_succ]; rfl) | rfl) (by kernel_rfl) (by kernel_rfl) (by kernel_rfl) (by exact fun _ _ _ h => h) (Or.inl ⟨by rfl, by (intro w hSw; (try dsimp only at hSw); go_simp; try with_reducible rfl)⟩) (by assumption) ?_
  (try dsimp only [Act.put]); (try go_frame)
  refine wpAnyH_take (i := 2) (v := _) (by first | (simp only [List.getElem?_toArray, List.getElem?_cons_zero, List.getElem?_cons_succ]; rfl) | rfl) (by kernel_rfl) (by kernel_rfl) (by kernel_rfl) (by exact fun _ _ _ h => h) (Or.inl ⟨by rfl, by (intro w hSw; (try dsimp only at hSw); go_simp; try with_reducible rfl)⟩) (by assumption) ?_
  (try dsimp only [Act.put]); (try go_frame)
  refine wpAnyH_take (i := 3) (v := _) (by first | (simp only [List.getElem?_toArray, List.getElem?_cons_zero, List.getElem?_cons_succ]; rfl) | rfl) (by kernel_rfl) (by kernel_rfl) (by kernel_rfl) (by exact fun _ _ _ h => h) (Or.inl ⟨by rfl, by (intro w hSw; (try dsimp only at hSw); go_simp; try with_reducible rfl)⟩) (by assumption) ?_
  (try dsimp only [Act.put]); (try go_frame)
  refine wpAnyH_take (i := 4) (v := undef) (by first | (simp only [List.getElem?_toArray, List.getElem?_cons_zero, List.getElem?_cons_succ]; rfl) | rfl) (by kernel_rfl) (by kernel_rfl) (by kernel_rfl) (by exact fun _ _ _ h => h) (Or.inr ⟨by rfl, by rfl⟩) (by assumption) ?_
  (try dsimp only [Act.put]); (try go_frame)
  refine wpAnyH_take (i := 5) (v := undef) (by first | (simp only [List.getElem?_toArray, List.getElem?_cons_zero, List.getElem?_cons_succ]; rfl) | rfl) (by kernel_rfl) (by kernel_rfl) (by kernel_rfl) (by exact fun _ _ _ h => h) (Or.inr ⟨by rfl, by rfl⟩) (by assumption) ?_
  (try dsimp only [Act.put]); (try go_frame)
  refine wpAnyH_take (i := 6) (v := undef) (by first | (simp only [List.getElem?_toArray, List.getElem?_cons_zero, List.getElem?_cons_succ]; rfl) | rfl) (by kernel_rfl) (by kernel_rfl) (by kernel_rfl) (by exact fun _ _ _ h => h) (Or.inr ⟨by rfl, by rfl⟩) (by assumption) ?_
  (try dsimp only [Act.put]); (try go_frame)
  refine wpAnyH_take (i := 7) (v := _) (by first | (simp only [List.getElem?_toArray, List.getElem?_cons_zero, List.getElem?_cons_succ]; rfl) | rfl) (by kernel_rfl) (by kernel_rfl) (by kernel_rfl) (by exact fun _ _ _ h => h) (Or.inl ⟨by rfl, by (intro w hSw; (try dsimp only at hSw); go_simp; try with_reducible rfl)⟩) (by assumption) ?_
  (try dsimp only [Act.put]); (try go_frame)
  refine wpAnyH_take (i := 8) (v := _) (by first | (simp only [List.getElem?_toArray, List.getElem?_cons_zero, List.getElem?_cons_succ]; rfl) | rfl) (by kernel_rfl) (by kernel_rfl) (by kernel_rfl) (by exact fun _ _ _ h => h) (Or.inl ⟨by rfl, by (intro w hSw; (try dsimp only at hSw); go_simp; try with_reducible rfl)⟩) (by assumption) ?_
  (try dsimp only [Act.put]); (try go_frame)
  refine wpAnyH_take (i := 9) (v := _) (by first | (simp only [List.getElem?_toArray, List.getElem?_cons_zero, List.getElem?_cons_succ]; rfl) | rfl) (by kernel_rfl) (by kernel_rfl) (by kernel_rfl) (by exact fun _ _ _ h => h) (Or.inl ⟨by rfl, by (intro w hSw; (try dsimp only at hSw); go_simp; try with_reducible rfl)⟩) (by assumption) ?_
  (try dsimp only [Act.put]); (try go_frame)
  refine wpAnyH_take (i := 10) (v := _) (by first | (simp only [List.getElem?_toArray, List.getElem?_cons_zero, List.getElem?_cons_succ]; rfl) | rfl) (by kernel_rfl) (by kernel_rfl) (by kernel_rfl) (by exact fun _ _ _ h => h) (Or.inl ⟨by rfl, by (intro w hSw; (try dsimp only at hSw); go_simp; try with_reducible rfl)⟩) (by assumption) ?_
  (try dsimp only [Act.put]); (try go_frame)
  refine wpAnyH_take (i := 11) (v := _) (by first | (simp only [List.getElem?_toArray, List.getElem?_cons_zero, List.getElem?_cons_succ]; rfl) | rfl) (by kernel_rfl) (by kernel_rfl) (by kernel_rfl) (by exact fun _ _ _ h => h) (Or.inl ⟨by rfl, by (intro w hSw; (try dsimp only at hSw); go_simp; try with_reducible rfl)⟩) (by assumption) ?_
  (try dsimp only [Act.put]); (try go_frame)
  refine wpAnyH_take (i := 12) (v := _) (by first | (simp only [List.getElem?_toArray, List.getElem?_cons_zero, List.getElem?_cons_succ]; rfl) | rfl) (by kernel_rfl) (by kernel_rfl) (by kernel_rfl) (by exact fun _ _ _ h => h) (Or.inl ⟨by rfl, by (intro w hSw; (try dsimp only at hSw); go_simp; try with_reducible rfl)⟩) (by assumption) ?_
  (try dsimp only [Act.put]); (try go_frame)
  refine wpAnyH_take (i := 13) (v := _) (by first | (simp only [List.getElem?_toArray, List.getElem?_cons_zero, List.getElem?_cons_succ]; rfl) | rfl) (by kernel_rfl) (by kernel_rfl) (by kernel_rfl) (by exact fun _ _ _ h => h) (Or.inl ⟨by rfl, by (intro w hSw; (try dsimp only at hSw); go_simp; try with_reducible rfl)⟩) (by assumption) ?_
  (try dsimp only [Act.put]); (try go_frame)
  refine wpAnyH_take (i := 14) (v := _) (by first | (simp only [List.getElem?_toArray, List.getElem?_cons_zero, List.getElem?_cons_succ]; rfl) | rfl) (by kernel_rfl) (by kernel_rfl) (by kernel_rfl) (by exact fun _ _ _ h => h) (Or.inl ⟨by rfl, by (intro w hSw; (try dsimp only at hSw); go_simp; try with_reducible rfl)⟩) (by assumption) ?_
  (try dsimp only [Act.put]); (try go_frame)
  refine wpAnyH_take (i := 15) (v := _) (by first | (simp only [List.getElem?_toArray, List.getElem?_cons_zero, List.getElem?_cons_succ]; rfl) | rfl) (by kernel_rfl) (by kernel_rfl) (by kernel_rfl) (by exact fun _ _ _ h => h) (Or.inl ⟨by rfl, by (intro w hSw; (try dsimp only at hSw); go_simp; try with_reducible rfl)⟩) (by assumption) ?_
  (try dsimp only [Act.put]); (try go_frame)
  refine wpAnyH_take (i := 16) (v := _) (by first | (simp only [List.getElem?_toArray, List.getElem?_cons_zero, List.getElem?_cons_succ]; rfl) | rfl) (by kernel_rfl) (by kernel_rfl) (by kernel_rfl) (by exact fun _ _ _ h => h) (Or.inl ⟨by rfl, by (intro w hSw; (try dsimp only at hSw); go_simp; try with_reducible rfl)⟩) (by assumption) ?_
  (try dsimp only [Act.put]); (try go_frame)
  refine wpAnyH_take (i := 17) (v := _) (by first | (simp only [List.getElem?_toArray, List.getElem?_cons_zero, List.getElem?_cons_succ]; rfl) | rfl) (by kernel_rfl) (by kernel_rfl) (by kernel_rfl) (by exact fun _ _ _ h => h) (Or.inl ⟨by rfl, by (intro w hSw; (try dsimp only at hSw); go_simp; try with_reducible rfl)⟩) (by assumption) ?_
  (try dsimp only [Act.put]); (try go_frame)
  refine wpAnyH_take (i := 18) (v := _) (by first | (simp only [List.getElem?_toArray, List.getElem?_cons_zero, List.getElem?_cons_succ]; rfl) | rfl) (by kernel_rfl) (by kernel_rfl) (by kernel_rfl) (by exact fun _ _ _ h => h) (Or.inl ⟨by rfl, by (intro w hSw; (try dsimp only at hSw); go_simp; try with_reducible rfl)⟩) (by assumption) ?_
  (try dsimp only [Act.put]); (try go_frame)
  refine wpAnyH_take (i := 20) (v := _) (by first | (simp only [List.getElem?_toArray, List.getElem?_cons_zero, List.getElem?_cons_succ]; rfl) | rfl) (by kernel_rfl) (by kernel_rfl) (by kernel_rfl) (by exact fun _ _ _ h => h) (Or.inl ⟨by rfl, by (intro w hSw; (try dsimp only at hSw); go_simp; try with_reducible rfl)⟩) (by assumption) ?_
  (try dsimp only [Act.put]); (try go_frame)
  refine wpAnyH_ready (rs := [19]) (by kernel_rfl) (by simp) ?_
  refine AllReadyH.cons rfl (fun K hK => ?_) AllReadyH.nil
  go_simp
  (with_reducible refine (hu _).mono ?_)
  rintro r w26 ⟨rfl, hb26⟩
  clear xF255_0 xF255_1 xF255_2
  replace F2 := F2.keep hb26
  replace B0 := B0.trans (hb26.mono B0.size)
  clear hb26
  obtain ⟨xF257_0, xF257_1, xF257_2⟩ := F2.ce3
  refine hK.out _ _ ?_ (fun hHeld => ?_)
  · exact ⟨xF257_0, xF257_1, xF257_2⟩
  clear hK K
  (try dsimp only [Act.put]); (try go_frame)
  refine wpAnyH_take (i := 21) (v := _) (by first | (simp only [List.getElem?_toArray, List.getElem?_cons_zero, List.getElem?_cons_succ]; rfl) | rfl) (by kernel_rfl) (by kernel_rfl) (by kernel_rfl) (by exact fun _ _ _ h => h) (Or.inl ⟨by rfl, by (intro w hSw; (try dsimp only at hSw); go_simp; try with_reducible rfl)⟩) (by assumption) ?_
  (try dsimp only [Act.put]); (try go_frame)
  refine wpAnyH_take (i := 22) (v := _) (by first | (simp only [List.getElem?_toArray, List.getElem?_cons_zero, List.getElem?_cons_succ]; rfl) | rfl) (by kernel_rfl) (by kernel_rfl) (by kernel_rfl) (by exact fun _ _ _ h => h) (Or.inl ⟨by rfl, by (intro w hSw; (try dsimp only at hSw); go_simp; try with_reducible rfl)⟩) (by assumption) ?_
  (try dsimp only [Act.put]); (try go_frame)
  refine wpAnyH_take (i := 23) (v := _) (by first | (simp only [List.getElem?_toArray, List.getElem?_cons_zero, List.getElem?_cons_succ]; rfl) | rfl) (by kernel_rfl) (by kernel_rfl) (by kernel_rfl) (by exact fun _ _ _ h => h) (Or.inl ⟨by rfl, by (intro w hSw; (try dsimp only at hSw); go_simp; try with_reducible rfl)⟩) (by assumption) ?_
  (try dsimp only [Act.put]); (try go_frame)
  refine wpAnyH_take (i := 24) (v := _) (by first | (simp only [List.getElem?_toArray, List.getElem?_cons_zero, List.getElem?_cons_succ]; rfl) | rfl) (by kernel_rfl) (by kernel_rfl) (by kernel_rfl) (by exact fun _ _ _ h => h) (Or.inl ⟨by rfl, by (intro w hSw; (try dsimp only at hSw); go_simp; try with_reducible rfl)⟩) (by assumption) ?_
  (try dsimp only [Act.put]); (try go_frame)
  refine wpAnyH_take (i := 25) (v := _) (by first | (simp only [List.getElem?_toArray, List.getElem?_cons_zero, List.getElem?_cons_succ]; rfl) | rfl) (by kernel_rfl) (by kernel_rfl) (by kernel_rfl) (by exact fun _ _ _ h => h) (Or.inl ⟨by rfl, by (intro w hSw; (try dsimp only at hSw); go_simp; try with_reducible rfl)⟩) (by assumption) ?_
  (try dsimp only [Act.put]); (try go_frame)
  refine wpAnyH_take (i := 26) (v := _) (by first | (simp only [List.getElem?_toArray, List.getElem?_cons_zero, List.getElem?_cons_succ]; rfl) | rfl) (by kernel_rfl) (by kernel_rfl) (by kernel_rfl) (by exact fun _ _ _ h => h) (Or.inl ⟨by rfl, by (intro w hSw; (try dsimp only at hSw); go_simp; try with_reducible rfl)⟩) (by assumption) ?_
  (try dsimp only [Act.put]); (try go_frame)
  refine wpAnyH_take (i := 27) (v := _) (by first | (simp only [List.getElem?_toArray, List.getElem?_cons_zero, List.getElem?_cons_succ]; rfl) | rfl) (by kernel_rfl) (by kernel_rfl) (by kernel_rfl) (by exact fun _ _ _ h => h) (Or.inl ⟨by rfl, by (intro w hSw; (try dsimp only at hSw); go_simp; try with_reducible rfl)⟩) (by assumption) ?_
  (try dsimp only [Act.put]); (try go_frame)
  refine wpAnyH_take (i := 28) (v := _) (by first | (simp only [List.getElem?_toArray, List.getElem?_cons_zero, List.getElem?_cons_succ]; rfl) | rfl) (by kernel_rfl) (by kernel_rfl) (by kernel_rfl) (by exact fun _ _ _ h => h) (Or.inl ⟨by rfl, by (intro w hSw; (try dsimp only at hSw); go_simp; try with_reducible rfl)⟩) (by assumption) ?_
  (try dsimp only [Act.put]); (try go_frame)
  refine wpAnyH_ready (rs := [29]) (by kernel_rfl) (by simp) ?_
  refine AllReadyH.cons rfl (fun K hK => ?_) AllReadyH.nil
  go_simp
  (with_reducible refine (h5 _).mono ?_)
  rintro r w27 ⟨rfl, hb27⟩
  clear xF257_0 xF257_1 xF257_2
  replace F2 := F2.keep hb27
  replace B0 := B0.trans (hb27.mono B0.size)
  clear hb27
  obtain ⟨xF258_0, xF258_1, xF258_2⟩ := F2.ce3
  refine hK.out _ _ ?_ (fun hHeld => ?_)
  · exact ⟨xF258_0, xF258_1, xF258_2⟩
  clear hK K
  (try dsimp only [Act.put]); (try go_frame)
  refine wpAnyH_take (i := 30) (v := _) (by first | (simp only [List.getElem?_toArray, List.getElem?_cons_zero, List.getElem?_cons_succ]; rfl) | rfl) (by kernel_rfl) (by kernel_rfl) (by kernel_rfl) (by exact fun _ _ _ h => h) (Or.inl ⟨by rfl, by (intro w hSw; (try dsimp only at hSw); go_simp; try with_reducible rfl)⟩) (by assumption) ?_
  (try dsimp only [Act.put]); (try go_frame)
  refine wpAnyH_take (i := 31) (v := _) (by first | (simp only [List.getElem?_toArray, List.getElem?_cons_zero, List.getElem?_cons_succ]; rfl) | rfl) (by kernel_rfl) (by kernel_rfl) (by kernel_rfl) (by exact fun _ _ _ h => h) (Or.inl ⟨by rfl, by (intro w hSw; (try dsimp only at hSw); go_simp; try with_reducible rfl)⟩) (by assumption) ?_
  (try dsimp only [Act.put]); (try go_frame)
  refine wpAnyH_take (i := 33) (v := _) (by first | (simp only [List.getElem?_toArray, List.getElem?_cons_zero, List.getElem?_cons_succ]; rfl) | rfl) (by kernel_rfl) (by kernel_rfl) (by kernel_rfl) (by exact fun _ _ _ h => h) (Or.inl ⟨by rfl, by (intro w hSw; (try dsimp only at hSw); go_simp; try with_reducible rfl)⟩) (by assumption) ?_
  (try dsimp only [Act.put]); (try go_frame)
  refine wpAnyH_ready (rs := [32]) (by kernel_rfl) (by simp) ?_
  refine AllReadyH.cons rfl (fun K hK => ?_) AllReadyH.nil
  go_simp
  (with_reducible refine (h6 _ ?_).mono ?_)
  · exact hT.below B0
  rintro r w28 ⟨rfl, hb28⟩
  clear xF258_0 xF258_1 xF258_2
  replace F2 := F2.keep hb28
  replace B0 := B0.trans (hb28.mono B0.size)
  clear hb28
  obtain ⟨xF259_0, xF259_1, xF259_2⟩ := F2.ce3
  refine hK.out _ _ ?_ (fun hHeld => ?_)
  · exact ⟨xF259_0, xF259_1, xF259_2⟩
  clear hK K
  (try dsimp only [Act.put]); (try go_frame)
  refine wpAnyH_take (i := 34) (v := _) (by first | (simp only [List.getElem?_toArray, List.getElem?_cons_zero, List.getElem?_cons_succ]; rfl) | rfl) (by kernel_rfl) (by kernel_rfl) (by kernel_rfl) (by exact fun _ _ _ h => h) (Or.inl ⟨by rfl, by (intro w hSw; (try dsimp only at hSw); go_simp; try with_reducible rfl)⟩) (by assumption) ?_
  (try dsimp only [Act.put]); (try go_frame)
  refine wpAnyH_take (i := 35) (v := _) (by first | (simp only [List.getElem?_toArray, List.getElem?_cons_zero, List.getElem?_cons_succ]; rfl) | rfl) (by kernel_rfl) (by kernel_rfl) (by kernel_rfl) (by exact fun _ _ _ h => h) (Or.inl ⟨by rfl, by (intro w hSw; (try dsimp only at hSw); go_simp; try with_reducible rfl)⟩) (by assumption) ?_
  (try dsimp only [Act.put]); (try go_frame)
  refine wpAnyH_take (i := 36) (v := _) (by first | (simp only [List.getElem?_toArray, List.getElem?_cons_zero, List.getElem?_cons_succ]; rfl) | rfl) (by kernel_rfl) (by kernel_rfl) (by kernel_rfl) (by exact fun _ _ _ h => h) (Or.inl ⟨by rfl, by (intro w hSw; (try dsimp only at hSw); go_simp; try with_reducible rfl)⟩) (by assumption) ?_
  (try dsimp only [Act.put]); (try go_frame)
  refine wpAnyH_take (i := 37) (v := _) (by first | (simp only [List.getElem?_toArray, List.getElem?_cons_zero, List.getElem?_cons_succ]; rfl) | rfl) (by kernel_rfl) (by kernel_rfl) (by kernel_rfl) (by exact fun _ _ _ h => h) (Or.inl ⟨by rfl, by (intro w hSw; (try dsimp only at hSw); go_simp; try with_reducible rfl)⟩) (by assumption) ?_
  (try dsimp only [Act.put]); (try go_frame)
  refine wpAnyH_done (by kernel_rfl) ?_ _
  try simp only [QCut]
  clear hHeld
  clear xF259_0 xF259_1 xF259_2
  go_wp2_with fail
  (with_reducible refine (h5 _).mono ?_)
  rintro r w29 ⟨rfl, hb29⟩
  replace F2 := F2.keep hb29
  replace B0 := B0.trans (hb29.mono B0.size)
  clear hb29
  go_wp2_with fail
  refine wp_region_any (by kernel_rfl) ?_
  obtain ⟨xF260_0, xF260_1, xF260_2⟩ := F2.ce3
  have hHeld : (fun w' : World => w'.cell? ⟨w.heap.size, 0, none⟩ = some (.bool xn) ∧ w'.cell? ⟨w.heap.size, 1, none⟩ = some (.string xS) ∧ w'.cell? ⟨w.heap.size, 2, none⟩ = some (.string xT)) (w29).drew := ⟨xF260_0, xF260_1, xF260_2⟩
  refine wpAny_of_held (S := fun w' : World => w'.cell? ⟨w.heap.size, 0, none⟩ = some (.bool xn) ∧ w'.cell? ⟨w.heap.size, 1, none⟩ = some (.string xS) ∧ w'.cell? ⟨w.heap.size, 2, none⟩ = some (.string xT)) _ _ _ _ ?_
  replace F2 := F2.drew
  replace B0 := B0.drew
  refine wpAnyH_take (i := 0) (v := _) (by first | (simp only [List.getElem?_toArray, List.getElem?_cons_zero]; rfl) | rfl) (by kernel_rfl) (by kernel_rfl) (by kernel_rfl) (by exact fun _ _ _ h => h) (Or.inl ⟨by rfl, by (intro w hSw; (try dsimp only at hSw); go_simp; try with_reducible rfl)⟩) (by assumption) ?_
  (try dsimp only [Act.put]); (try go_frame)
  refine wpAnyH_take (i := 2) (v := _) (by first | (simp only [List.getElem?_toArray, List.getElem?_cons_zero, List.getElem?_cons_succ]; rfl) | rfl) (by kernel_rfl) (by kernel_rfl) (by kernel_rfl) (by exact fun _ _ _ h => h) (Or.inl ⟨by rfl, by (intro w hSw; (try dsimp only at hSw); go_simp; try with_reducible rfl)⟩) (by assumption) ?_
  (try dsimp only [Act.put]); (try go_frame)
  refine wpAnyH_ready (rs := [1]) (by kernel_rfl) (by simp) ?_
  refine AllReadyH.cons rfl (fun K hK => ?_) AllReadyH.nil
  go_simp
  (with_reducible refine (h6 _ ?_).mono ?_)
  · exact hT.below B0
  rintro r w30 ⟨rfl, hb30⟩
  clear xF260_0 xF260_1 xF260_2
  replace F2 := F2.keep hb30
  replace B0 := B0.trans (hb30.mono B0.size)
  clear hb30
  obtain ⟨xF262_0, xF262_1, xF262_2⟩ := F2.ce3
  refine hK.out _ _ ?_ (fun hHeld => ?_)
  · exact ⟨xF262_0, xF262_1, xF262_2⟩
  clear hK K
  (try dsimp only [Act.put]); (try go_frame)
  refine wpAnyH_ready (rs := [3]) (by kernel_rfl) (by simp) ?_
  refine AllReadyH.cons rfl (fun K hK => ?_) AllReadyH.nil
  go_simp
  (with_reducible refine (h7 _).mono ?_)
  rintro r w31 ⟨rfl, hb31⟩
  clear xF262_0 xF262_1 xF262_2
  replace F2 := F2.keep hb31
  replace B0 := B0.trans (hb31.mono B0.size)
  clear hb31
  obtain ⟨xF263_0, xF263_1, xF263_2⟩ := F2.ce3
  refine hK.out _ _ ?_ (fun hHeld => ?_)
  · exact ⟨xF263_0, xF263_1, xF263_2⟩
  clear hK K
  (try dsimp only [Act.put]); (try go_frame)
  refine wpAnyH_take (i := 4) (v := _) (by first | (simp only [List.getElem?_toArray, List.getElem?_cons_zero, List.getElem?_cons_succ]; rfl) | rfl) (by kernel_rfl) (by kernel_rfl) (by kernel_rfl) (by exact fun _ _ _ h => h) (Or.inl ⟨by rfl, by (intro w hSw; (try dsimp only at hSw); go_simp; try with_reducible rfl)⟩) (by assumption) ?_
  (try dsimp only [Act.put]); (try go_frame)
  refine wpAnyH_take (i := 5) (v := _) (by first | (simp only [List.getElem?_toArray, List.getElem?_cons_zero, List.getElem?_cons_succ]; rfl) | rfl) (by kernel_rfl) (by kernel_rfl) (by kernel_rfl) (by exact fun _ _ _ h => h) (Or.inl ⟨by rfl, by (intro w hSw; (try dsimp only at hSw); go_simp; try with_reducible rfl)⟩) (by assumption) ?_
  (try dsimp only [Act.put]); (try go_frame)
  refine wpAnyH_take (i := 6) (v := _) (by first | (simp only [List.getElem?_toArray, List.getElem?_cons_zero, List.getElem?_cons_succ]; rfl) | rfl) (by kernel_rfl) (by kernel_rfl) (by kernel_rfl) (by exact fun _ _ _ h => h) (Or.inl ⟨by rfl, by (intro w hSw; (try dsimp only at hSw); go_simp; try with_reducible rfl)⟩) (by assumption) ?_
  (try dsimp only [Act.put]); (try go_frame)
  refine wpAnyH_take (i := 7) (v := _) (by first | (simp only [List.getElem?_toArray, List.getElem?_cons_zero, List.getElem?_cons_succ]; rfl) | rfl) (by kernel_rfl) (by kernel_rfl) (by kernel_rfl) (by exact fun _ _ _ h => h) (Or.inl ⟨by rfl, by (intro w hSw; (try dsimp only at hSw); go_simp; try with_reducible rfl)⟩) (by assumption) ?_
  (try dsimp only [Act.put]); (try go_frame)
  refine wpAnyH_take (i := 8) (v := _) (by first | (simp only [List.getElem?_toArray, List.getElem?_cons_zero, List.getElem?_cons_succ]; rfl) | rfl) (by kernel_rfl) (by kernel_rfl) (by kernel_rfl) (by exact fun _ _ _ h => h) (Or.inl ⟨by rfl, by (intro w hSw; (try dsimp only at hSw); go_simp; try with_reducible rfl)⟩) (by assumption) ?_
  (try dsimp only [Act.put]); (try go_frame)
  refine wpAnyH_done (by kernel_rfl) ?_ _
  try simp only [QCut]
  clear hHeld
  clear xF263_0 xF263_1 xF263_2
  go_wp2_with fail
  (with_reducible refine (h5c _).mono ?_)
  rintro r w32 ⟨rfl, hb32⟩
  replace F2 := F2.keep hb32
  replace B0 := B0.trans (hb32.mono B0.size)
  clear hb32
  go_wp2_with fail
  refine wp_region_any (by kernel_rfl) ?_
  obtain ⟨xF264_0, xF264_1, xF264_2⟩ := F2.ce3
  have hHeld : (fun w' : World => w'.cell? ⟨w.heap.size, 0, none⟩ = some (.bool xn) ∧ w'.cell? ⟨w.heap.size, 1, none⟩ = some (.string xS) ∧ w'.cell? ⟨w.heap.size, 2, none⟩ = some (.string xT)) (w32).drew := ⟨xF264_0, xF264_1, xF264_2⟩
  refine wpAny_of_held (S := fun w' : World => w'.cell? ⟨w.heap.size, 0, none⟩ = some (.bool xn) ∧ w'.cell? ⟨w.heap.size, 1, none⟩ = some (.string xS) ∧ w'.cell? ⟨w.heap.size, 2, none⟩ = some (.string xT)) _ _ _ _ ?_
  replace F2 := F2.drew
  replace B0 := B0.drew
  refine wpAnyH_take (i := 0) (v := _) (by first | (simp only [List.getElem?_toArray, List.getElem?_cons_zero]; rfl) | rfl) (by kernel_rfl) (by kernel_rfl) (by kernel_rfl) (by exact fun _ _ _ h => h) (Or.inl ⟨by rfl, by (intro w hSw; (try dsimp only at hSw); go_simp; try with_reducible rfl)⟩) (by assumption) ?_
  (try dsimp only [Act.put]); (try go_frame)
  refine wpAnyH_take (i := 1) (v := _) (by first | (simp only [List.getElem?_toArray, List.getElem?_cons_zero, List.getElem?_cons_succ]; rfl) | rfl) (by kernel_rfl) (by kernel_rfl) (by kernel_rfl) (by exact fun _ _ _ h => h) (Or.inl ⟨by rfl, by (intro w hSw; (try dsimp only at hSw); go_simp; try with_reducible rfl)⟩) (by assumption) ?_
  (try dsimp only [Act.put]); (try go_frame)
  refine wpAnyH_ready (rs := [2]) (by kernel_rfl) (by simp) ?_
  refine AllReadyH.cons rfl (fun K hK => ?_) AllReadyH.nil
  go_simp
  (with_reducible refine (h6c _ ?_).mono ?_)
  · exact hT.below B0
  rintro r w33 ⟨rfl, hb33⟩
  clear xF264_0 xF264_1 xF264_2
  replace F2 := F2.keep hb33
  replace B0 := B0.trans (hb33.mono B0.size)
  clear hb33
  obtain ⟨xF266_0, xF266_1, xF266_2⟩ := F2.ce3
  refine hK.out _ _ ?_ (fun hHeld => ?_)
  · exact ⟨xF266_0, xF266_1, xF266_2⟩
  clear hK K
  (try dsimp only [Act.put]); (try go_frame)
  refine wpAnyH_ready (rs := [3]) (by kernel_rfl) (by simp) ?_
  refine AllReadyH.cons rfl (fun K hK => ?_) AllReadyH.nil
  go_simp
  (with_reducible refine (h8 _).mono ?_)
  rintro r w34 ⟨rfl, hb34⟩
  clear xF266_0 xF266_1 xF266_2
  replace F2 := F2.keep hb34
  replace B0 := B0.trans (hb34.mono B0.size)
  clear hb34
  obtain ⟨xF267_0, xF267_1, xF267_2⟩ := F2.ce3
  refine hK.out _ _ ?_ (fun hHeld => ?_)
  · exact ⟨xF267_0, xF267_1, xF267_2⟩
  clear hK K
  (try dsimp only [Act.put]); (try go_frame)
  refine wpAnyH_take (i := 4) (v := _) (by first | (simp only [List.getElem?_toArray, List.getElem?_cons_zero, List.getElem?_cons_succ]; rfl) | rfl) (by kernel_rfl) (by kernel_rfl) (by kernel_rfl) (by exact fun _ _ _ h => h) (Or.inl ⟨by rfl, by (intro w hSw; (try dsimp only at hSw); go_simp; try with_reducible rfl)⟩) (by assumption) ?_
  (try dsimp only [Act.put]); (try go_frame)
  refine wpAnyH_take (i := 5) (v := _) (by first | (simp only [List.getElem?_toArray, List.getElem?_cons_zero, List.getElem?_cons_succ]; rfl) | rfl) (by kernel_rfl) (by kernel_rfl) (by kernel_rfl) (by exact fun _ _ _ h => h) (Or.inl ⟨by rfl, by (intro w hSw; (try dsimp only at hSw); go_simp; try with_reducible rfl)⟩) (by assumption) ?_
  (try dsimp only [Act.put]); (try go_frame)
  refine wpAnyH_take (i := 6) (v := _) (by first | (simp only [List.getElem?_toArray, List.getElem?_cons_zero, List.getElem?_cons_succ]; rfl) | rfl) (by kernel_rfl) (by kernel_rfl) (by kernel_rfl) (by exact fun _ _ _ h => h) (Or.inl ⟨by rfl, by (intro w hSw; (try dsimp only at hSw); go_simp; try with_reducible rfl)⟩) (by assumption) ?_
  (try dsimp only [Act.put]); (try go_frame)
  refine wpAnyH_take (i := 7) (v := _) (by first | (simp only [List.getElem?_toArray, List.getElem?_cons_zero, List.getElem?_cons_succ]; rfl) | rfl) (by kernel_rfl) (by kernel_rfl) (by kernel_rfl) (by exact fun _ _ _ h => h) (Or.inl ⟨by rfl, by (intro w hSw; (try dsimp only at hSw); go_simp; try with_reducible rfl)⟩) (by assumption) ?_
  (try dsimp only [Act.put]); (try go_frame)
  refine wpAnyH_take (i := 8) (v := _) (by first | (simp only [List.getElem?_toArray, List.getElem?_cons_zero, List.getElem?_cons_succ]; rfl) | rfl) (by kernel_rfl) (by kernel_rfl) (by kernel_rfl) (by exact fun _ _ _ h => h) (Or.inl ⟨by rfl, by (intro w hSw; (try dsimp only at hSw); go_simp; try with_reducible rfl)⟩) (by assumption) ?_
  (try dsimp only [Act.put]); (try go_frame)
  refine wpAnyH_done (by kernel_rfl) ?_ _
  try simp only [QCut]
  clear hHeld
  clear xF267_0 xF267_1 xF267_2
  go_wp2_with fail
  (with_reducible refine (h5 _).mono ?_)
  rintro r w35 ⟨rfl, hb35⟩
  replace F2 := F2.keep hb35
  replace B0 := B0.trans (hb35.mono B0.size)
  clear hb35
  go_wp2_with fail
  (with_reducible refine (h5c _).mono ?_)
  rintro r w36 ⟨rfl, hb36⟩
  replace F2 := F2.keep hb36
  replace B0 := B0.trans (hb36.mono B0.size)
  clear hb36
  go_upto_region 26 with fail
  go_cut [2, 13, 15, 17, 23] (fun s2 s13 s15 s17 s23 wx => ∃ S23, s2 = .pointer (some ⟨w.heap.size, 0, none⟩) ∧ s13 = .float .f64 n ∧ s15 = .float .f64 b ∧ s17 = .float .f64 c ∧ s23 = .pointer (some ⟨S23, 0, none⟩) ∧ Blk wx (w.heap.size) #[.bool xn, .string xS, .string xT] 24 ∧ Blk wx S23 #[.bool pn, .string pS, .string pT] 24 ∧ Below w.heap.size w wx)
  case first =>
    go_wp2_with fail
    refine wp_region_any (by kernel_rfl) ?_
    obtain ⟨xF269_0, xF269_1, xF269_2⟩ := F2.ce3
    have hHeld : (fun w' : World => w'.cell? ⟨w.heap.size, 0, none⟩ = some (.bool xn) ∧ w'.cell? ⟨w.heap.size, 1, none⟩ = some (.string xS) ∧ w'.cell? ⟨w.heap.size, 2, none⟩ = some (.string xT)) (w36).drew := ⟨xF269_0, xF269_1, xF269_2⟩
    refine wpAny_of_held (S := fun w' : World => w'.cell? ⟨w.heap.size, 0, none⟩ = some (.bool xn) ∧ w'.cell? ⟨w.heap.size, 1, none⟩ = some (.string xS) ∧ w'.cell? ⟨w.heap.size, 2, none⟩ = some (.string xT)) _ _ _ _ ?_
    replace F2 := F2.drew
    replace B0 := B0.drew
    refine wpAnyH_take (i := 0) (v := _) (by first | (simp only [List.getElem?_toArray, List.getElem?_cons_zero]; rfl) | rfl) (by kernel_rfl) (by kernel_rfl) (by kernel_rfl) (by exact fun _ _ _ h => h) (Or.inl ⟨by rfl, by (intro w hSw; (try dsimp only at hSw); go_simp; try with_reducible rfl)⟩) (by assumption) ?_
    (try dsimp only [Act.put]); (try go_frame)
    refine wpAnyH_take (i := 1) (v := _) (by first | (simp only [List.getElem?_toArray, List.getElem?_cons_zero, List.getElem?_cons_succ]; rfl) | rfl) (by kernel_rfl) (by kernel_rfl) (by kernel_rfl) (by exact fun _ _ _ h => h) (Or.inl ⟨by rfl, by (intro w hSw; (try dsimp only at hSw); go_simp; try with_reducible rfl)⟩) (by assumption) ?_
    (try dsimp only [Act.put]); (try go_frame)
    refine wpAnyH_ready (rs := [2, 7]) (by kernel_rfl) (by simp) ?_
    refine AllReadyH.cons rfl (fun K hK => ?_) (AllReadyH.cons rfl (fun K hK => ?_) AllReadyH.nil)
    · go_simp
      (with_reducible refine (h6 _ ?_).mono ?_)
      · exact hT.below B0
      rintro r w37 ⟨rfl, hb37⟩
      clear xF269_0 xF269_1 xF269_2
      replace F2 := F2.keep hb37
      replace B0 := B0.trans (hb37.mono B0.size)
      clear hb37
      obtain ⟨xF271_0, xF271_1, xF271_2⟩ := F2.ce3
      refine hK.out _ _ ?_ (fun hHeld => ?_)
      · exact ⟨xF271_0, xF271_1, xF271_2⟩
      clear hK K
      (try dsimp only [Act.put]); (try go_frame)
      refine wpAnyH_ready (rs := [3, 7]) (by kernel_rfl) (by simp) ?_
      refine AllReadyH.cons rfl (fun K hK => ?_) (AllReadyH.cons rfl (fun K hK => ?_) AllReadyH.nil)
      · go_simp
        (with_reducible refine (h9 _).mono ?_)
        rintro r w38 ⟨rfl, hb38⟩
        clear xF271_0 xF271_1 xF271_2
        replace F2 := F2.keep hb38
        replace B0 := B0.trans (hb38.mono B0.size)
        clear hb38
        obtain ⟨xF272_0, xF272_1, xF272_2⟩ := F2.ce3
        refine hK.out _ _ ?_ (fun hHeld => ?_)
        · exact ⟨xF272_0, xF272_1, xF272_2⟩
        clear hK K
        (try dsimp only [Act.put]); (try go_frame)
        refine wpAnyH_take (i := 4) (v := _) (by first | (simp only [List.getElem?_toArray, List.getElem?_cons_zero, List.getElem?_cons_succ]; rfl) | rfl) (by kernel_rfl) (by kernel_rfl) (by kernel_rfl) (by exact fun _ _ _ h => h) (Or.inl ⟨by rfl, by (intro w hSw; (try dsimp only at hSw); go_simp; try with_reducible rfl)⟩) (by assumption) ?_
        (try dsimp only [Act.put]); (try go_frame)
        refine wpAnyH_take (i := 5) (v := _) (by first | (simp only [List.getElem?_toArray, List.getElem?_cons_zero, List.getElem?_cons_succ]; rfl) | rfl) (by kernel_rfl) (by kernel_rfl) (by kernel_rfl) (by exact fun _ _ _ h => h) (Or.inl ⟨by rfl, by (intro w hSw; (try dsimp only at hSw); go_simp; try with_reducible rfl)⟩) (by assumption) ?_
        (try dsimp only [Act.put]); (try go_frame)
        refine wpAnyH_take (i := 6) (v := _) (by first | (simp only [List.getElem?_toArray, List.getElem?_cons_zero, List.getElem?_cons_succ]; rfl) | rfl) (by kernel_rfl) (by kernel_rfl) (by kernel_rfl) (by exact fun _ _ _ h => h) (Or.inl ⟨by rfl, by (intro w hSw; (try dsimp only at hSw); go_simp; try with_reducible rfl)⟩) (by assumption) ?_
        (try dsimp only [Act.put]); (try go_frame)
        refine wpAnyH_ready (rs := [7]) (by kernel_rfl) (by simp) ?_
        refine AllReadyH.cons rfl (fun K hK => ?_) AllReadyH.nil
        go_simp
        obtain ⟨zF20, zF21, zF22⟩ := (F2.allocd (.cells #[.bool false, .string { data := #[] }, .string { data := #[] }] 24)).ce3
        clear xF272_0 xF272_1 xF272_2
        refine hK.out _ _ ?_ (fun hHeld => ?_)
        · exact ⟨zF20, zF21, zF22⟩
        clear hK K
        (try dsimp only [Act.put]); (try go_frame)
        clear zF20 zF21 zF22
        refine wpAnyH_ready (rs := [8]) (by kernel_rfl) (by simp) ?_
        refine AllReadyH.cons rfl (fun K hK => ?_) AllReadyH.nil
        go_simp
        have q_w_F23 : Hid (w.heap.size ≤ w38.heap.size) := Lib.hid (by have := B0.size; first | exact this | omega | (simp; done) | simpa using this)
        replace F2 := F2.allocd (.cells #[.bool pn, .string pS, .string pT] 24)
        have F23 := Blk.put (w38) #[.bool pn, .string pS, .string pT] 24
        replace B0 := B0.alloc B0.size (.cells #[.bool pn, .string pS, .string pT] 24)
        obtain ⟨xF273_0, xF273_1, xF273_2⟩ := F2.ce3
        refine hK.out _ _ ?_ (fun hHeld => ?_)
        · exact ⟨xF273_0, xF273_1, xF273_2⟩
        clear hK K
        (try dsimp only [Act.put]); (try go_frame)
        refine wpAnyH_take (i := 9) (v := _) (by first | (simp only [List.getElem?_toArray, List.getElem?_cons_zero, List.getElem?_cons_succ]; rfl) | rfl) (by kernel_rfl) (by kernel_rfl) (by kernel_rfl) (by exact fun _ _ _ h => h) (Or.inl ⟨by rfl, by (intro w hSw; (try dsimp only at hSw); go_simp; try with_reducible rfl)⟩) (by assumption) ?_
        (try dsimp only [Act.put]); (try go_frame)
        refine wpAnyH_done (by kernel_rfl) ?_ _
        try simp only [QCut]
        clear hHeld
        clear xF273_0 xF273_1 xF273_2
        go_wp2_with fail
        go_meet
        exact ⟨_, by first | rfl | simp, by first | rfl | simp, by first | rfl | simp, by first | rfl | simp, by first | rfl | simp, F2, F23, B0⟩
      · go_simp
        clear xF271_0 xF271_1 xF271_2
        have q_F2_F23 : Hid (w.heap.size < w37.heap.size) := Lib.hid (by have := F2.lt; first | exact this | omega | (simp; done) | simpa using this)
        have q_w_F23 : Hid (w.heap.size ≤ w37.heap.size) := Lib.hid (by have := B0.size; first | exact this | omega | (simp; done) | simpa using this)
        replace F2 := F2.allocd (.cells #[.bool false, .string { data := #[] }, .string { data := #[] }] 24)
        have F23 := Blk.put (w37) #[.bool false, .string { data := #[] }, .string { data := #[] }] 24
        replace B0 := B0.alloc B0.size (.cells #[.bool false, .string { data := #[] }, .string { data := #[] }] 24)
        obtain ⟨xF272_0, xF272_1, xF272_2⟩ := F2.ce3
        refine hK.out _ _ ?_ (fun hHeld => ?_)
        · exact ⟨xF272_0, xF272_1, xF272_2⟩
        clear hK K
        (try dsimp only [Act.put]); (try go_frame)
        refine wpAnyH_ready (rs := [3]) (by kernel_rfl) (by simp) ?_
        refine AllReadyH.cons rfl (fun K hK => ?_) AllReadyH.nil
        go_simp
        (with_reducible refine (h9 _).mono ?_)
        rintro r w38 ⟨rfl, hb38⟩
        clear xF272_0 xF272_1 xF272_2
        replace F2 := F2.keep hb38
        replace F23 := F23.keep hb38
        replace B0 := B0.trans (hb38.mono B0.size)
        clear hb38
        obtain ⟨xF273_0, xF273_1, xF273_2⟩ := F2.ce3
        refine hK.out _ _ ?_ (fun hHeld => ?_)
        · exact ⟨xF273_0, xF273_1, xF273_2⟩
        clear hK K
        (try dsimp only [Act.put]); (try go_frame)
        refine wpAnyH_take (i := 4) (v := _) (by first | (simp only [List.getElem?_toArray, List.getElem?_cons_zero, List.getElem?_cons_succ]; rfl) | rfl) (by kernel_rfl) (by kernel_rfl) (by kernel_rfl) (by exact fun _ _ _ h => h) (Or.inl ⟨by rfl, by (intro w hSw; (try dsimp only at hSw); go_simp; try with_reducible rfl)⟩) (by assumption) ?_
        (try dsimp only [Act.put]); (try go_frame)
        refine wpAnyH_take (i := 5) (v := _) (by first | (simp only [List.getElem?_toArray, List.getElem?_cons_zero, List.getElem?_cons_succ]; rfl) | rfl) (by kernel_rfl) (by kernel_rfl) (by kernel_rfl) (by exact fun _ _ _ h => h) (Or.inl ⟨by rfl, by (intro w hSw; (try dsimp only at hSw); go_simp; try with_reducible rfl)⟩) (by assumption) ?_
        (try dsimp only [Act.put]); (try go_frame)
        refine wpAnyH_take (i := 6) (v := _) (by first | (simp only [List.getElem?_toArray, List.getElem?_cons_zero, List.getElem?_cons_succ]; rfl) | rfl) (by kernel_rfl) (by kernel_rfl) (by kernel_rfl) (by exact fun _ _ _ h => h) (Or.inl ⟨by rfl, by (intro w hSw; (try dsimp only at hSw); go_simp; try with_reducible rfl)⟩) (by assumption) ?_
        (try dsimp only [Act.put]); (try go_frame)
        obtain ⟨xF2373_0, xF2373_1, xF2373_2⟩ := F23.ce3
        obtain ⟨xF2373_0f, xF2373_1f, xF2373_2f⟩ := F23.fr3
        refine wpAnyH_ready (rs := [8]) (by kernel_rfl) (by simp) ?_
        refine AllReadyH.cons rfl (fun K hK => ?_) AllReadyH.nil
        go_simp
        replace F2 := (((F2.far 0 (.bool pn) (Nat.ne_of_lt q_F2_F23.out)).far 1 (.string pS) (Nat.ne_of_lt q_F2_F23.out)).far 2 (.string pT) (Nat.ne_of_lt q_F2_F23.out))
        replace F23 : Blk ((((w38).setCell ⟨w37.heap.size, 0, none⟩ (.bool pn)).setCell ⟨w37.heap.size, 1, none⟩ (.string pS)).setCell ⟨w37.heap.size, 2, none⟩ (.string pT)) (w37.heap.size) #[.bool pn, .string pS, .string pT] 24 := (((F23.setAt 0 (.bool pn)).setAt 1 (.string pS)).setAt 2 (.string pT))
        replace B0 := (((B0.setCell (p := ⟨w37.heap.size, 0, none⟩) q_w_F23.out (.bool pn)).setCell (p := ⟨w37.heap.size, 1, none⟩) q_w_F23.out (.string pS)).setCell (p := ⟨w37.heap.size, 2, none⟩) q_w_F23.out (.string pT))
        clear xF273_0 xF273_1 xF273_2 xF2373_0 xF2373_1 xF2373_2 xF2373_0f xF2373_1f xF2373_2f
        obtain ⟨xF274_0, xF274_1, xF274_2⟩ := F2.ce3
        refine hK.out _ _ ?_ (fun hHeld => ?_)
        · exact ⟨xF274_0, xF274_1, xF274_2⟩
        clear hK K
        (try dsimp only [Act.put]); (try go_frame)
        refine wpAnyH_take (i := 9) (v := _) (by first | (simp only [List.getElem?_toArray, List.getElem?_cons_zero, List.getElem?_cons_succ]; rfl) | rfl) (by kernel_rfl) (by kernel_rfl) (by kernel_rfl) (by exact fun _ _ _ h => h) (Or.inl ⟨by rfl, by (intro w hSw; (try dsimp only at hSw); go_simp; try with_reducible rfl)⟩) (by assumption) ?_
        (try dsimp only [Act.put]); (try go_frame)
        refine wpAnyH_done (by kernel_rfl) ?_ _
        try simp only [QCut]
        clear hHeld
        clear xF274_0 xF274_1 xF274_2
        go_wp2_with fail
        go_meet
        exact ⟨_, by first | rfl | simp, by first | rfl | simp, by first | rfl | simp, by first | rfl | simp, by first | rfl | simp, F2, F23, B0⟩
    · go_simp
      clear xF269_0 xF269_1 xF269_2
      have q_F2_F23 : Hid (w.heap.size < w36.heap.size) := Lib.hid (by have := F2.lt; first | exact this | omega | (simp; done) | simpa using this)
      have q_w_F23 : Hid (w.heap.size ≤ w36.heap.size) := Lib.hid (by have := B0.size; first | exact this | omega | (simp; done) | simpa using this)
      replace F2 := F2.allocd (.cells #[.bool false, .string { data := #[] }, .string { data := #[] }] 24)
      have F23 := Blk.put ((w36).drew) #[.bool false, .string { data := #[] }, .string { data := #[] }] 24
      rw [show ((w36).drew).heap.size = w36.heap.size by simp] at F23
      replace B0 := B0.alloc B0.size (.cells #[.bool false, .string { data := #[] }, .string { data := #[] }] 24)
      obtain ⟨xF271_0, xF271_1, xF271_2⟩ := F2.ce3
      refine hK.out _ _ ?_ (fun hHeld => ?_)
      · exact ⟨xF271_0, xF271_1, xF271_2⟩
      clear hK K
      (try dsimp only [Act.put]); (try go_frame)
      refine wpAnyH_ready (rs := [2]) (by kernel_rfl) (by simp) ?_
      refine AllReadyH.cons rfl (fun K hK => ?_) AllReadyH.nil
      go_simp
      (with_reducible refine (h6 _ ?_).mono ?_)
      · exact hT.below B0
      rintro r w37 ⟨rfl, hb37⟩
      clear xF271_0 xF271_1 xF271_2
      replace F2 := F2.keep hb37
      replace F23 := F23.keep hb37
      replace B0 := B0.trans (hb37.mono B0.size)
      clear hb37
      obtain ⟨xF272_0, xF272_1, xF272_2⟩ := F2.ce3
      refine hK.out _ _ ?_ (fun hHeld => ?_)
      · exact ⟨xF272_0, xF272_1, xF272_2⟩
      clear hK K
      (try dsimp only [Act.put]); (try go_frame)
      refine wpAnyH_ready (rs := [3]) (by kernel_rfl) (by simp) ?_
      refine AllReadyH.cons rfl (fun K hK => ?_) AllReadyH.nil
      go_simp
      (with_reducible refine (h9 _).mono ?_)
      rintro r w38 ⟨rfl, hb38⟩
      clear xF272_0 xF272_1 xF272_2
      replace F2 := F2.keep hb38
      replace F23 := F23.keep hb38
      replace B0 := B0.trans (hb38.mono B0.size)
      clear hb38
      obtain ⟨xF273_0, xF273_1, xF273_2⟩ := F2.ce3
      refine hK.out _ _ ?_ (fun hHeld => ?_)
      · exact ⟨xF273_0, xF273_1, xF273_2⟩
      clear hK K
      (try dsimp only [Act.put]); (try go_frame)
      refine wpAnyH_take (i := 4) (v := _) (by first | (simp only [List.getElem?_toArray, List.getElem?_cons_zero, List.getElem?_cons_succ]; rfl) | rfl) (by kernel_rfl) (by kernel_rfl) (by kernel_rfl) (by exact fun _ _ _ h => h) (Or.inl ⟨by rfl, by (intro w hSw; (try dsimp only at hSw); go_simp; try with_reducible rfl)⟩) (by assumption) ?_
      (try dsimp only [Act.put]); (try go_frame)
      refine wpAnyH_take (i := 5) (v := _) (by first | (simp only [List.getElem?_toArray, List.getElem?_cons_zero, List.getElem?_cons_succ]; rfl) | rfl) (by kernel_rfl) (by kernel_rfl) (by kernel_rfl) (by exact fun _ _ _ h => h) (Or.inl ⟨by rfl, by (intro w hSw; (try dsimp only at hSw); go_simp; try with_reducible rfl)⟩) (by assumption) ?_
      (try dsimp only [Act.put]); (try go_frame)
      refine wpAnyH_take (i := 6) (v := _) (by first | (simp only [List.getElem?_toArray, List.getElem?_cons_zero, List.getElem?_cons_succ]; rfl) | rfl) (by kernel_rfl) (by kernel_rfl) (by kernel_rfl) (by exact fun _ _ _ h => h) (Or.inl ⟨by rfl, by (intro w hSw; (try dsimp only at hSw); go_simp; try with_reducible rfl)⟩) (by assumption) ?_
      (try dsimp only [Act.put]); (try go_frame)
      obtain ⟨xF2373_0, xF2373_1, xF2373_2⟩ := F23.ce3
      obtain ⟨xF2373_0f, xF2373_1f, xF2373_2f⟩ := F23.fr3
      refine wpAnyH_ready (rs := [8]) (by kernel_rfl) (by simp) ?_
      refine AllReadyH.cons rfl (fun K hK => ?_) AllReadyH.nil
      go_simp
      replace F2 := (((F2.far 0 (.bool pn) (Nat.ne_of_lt q_F2_F23.out)).far 1 (.string pS) (Nat.ne_of_lt q_F2_F23.out)).far 2 (.string pT) (Nat.ne_of_lt q_F2_F23.out))
      replace F23 : Blk ((((w38).setCell ⟨w36.heap.size, 0, none⟩ (.bool pn)).setCell ⟨w36.heap.size, 1, none⟩ (.string pS)).setCell ⟨w36.heap.size, 2, none⟩ (.string pT)) (w36.heap.size) #[.bool pn, .string pS, .string pT] 24 := (((F23.setAt 0 (.bool pn)).setAt 1 (.string pS)).setAt 2 (.string pT))
      replace B0 := (((B0.setCell (p := ⟨w36.heap.size, 0, none⟩) q_w_F23.out (.bool pn)).setCell (p := ⟨w36.heap.size, 1, none⟩) q_w_F23.out (.string pS)).setCell (p := ⟨w36.heap.size, 2, none⟩) q_w_F23.out (.string pT))
      clear xF273_0 xF273_1 xF273_2 xF2373_0 xF2373_1 xF2373_2 xF2373_0f xF2373_1f xF2373_2f
      obtain ⟨xF274_0, xF274_1, xF274_2⟩ := F2.ce3
      refine hK.out _ _ ?_ (fun hHeld => ?_)
      · exact ⟨xF274_0, xF274_1, xF274_2⟩
      clear hK K
      (try dsimp only [Act.put]); (try go_frame)
      refine wpAnyH_take (i := 9) (v := _) (by first | (simp only [List.getElem?_toArray, List.getElem?_cons_zero, List.getElem?_cons_succ]; rfl) | rfl) (by kernel_rfl) (by kernel_rfl) (by kernel_rfl) (by exact fun _ _ _ h => h) (Or.inl ⟨by rfl, by (intro w hSw; (try dsimp only at hSw); go_simp; try with_reducible rfl)⟩) (by assumption) ?_
      (try dsimp only [Act.put]); (try go_frame)
      refine wpAnyH_done (by kernel_rfl) ?_ _
      try simp only [QCut]
      clear hHeld
      clear xF274_0 xF274_1 xF274_2
      go_wp2_with fail
      go_meet
      exact ⟨_, by first | rfl | simp, by first | rfl | simp, by first | rfl | simp, by first | rfl | simp, by first | rfl | simp, F2, F23, B0⟩
  case rest =>
    clear B0
    clear F2
    obtain ⟨S23, rfl, rfl, rfl, rfl, rfl, F2, F23, B0⟩ := hcut
    generalize wc = v11 at *
    go_upto_region 27 with fail
    go_cut [13, 15, 23, 25] (fun s13 s15 s23 s25 wx => ∃ S25, s13 = .float .f64 n ∧ s15 = .float .f64 b ∧ s23 = .pointer (some ⟨S23, 0, none⟩) ∧ s25 = .pointer (some ⟨S25, 0, none⟩) ∧ Blk wx (S23) #[.bool pn, .string pS, .string pT] 24 ∧ Blk wx S25 #[.bool qn, .string qS, .string qT] 24 ∧ Below w.heap.size w wx)
    case first =>
      go_wp2_with fail
      refine wp_region_any (by kernel_rfl) ?_
      obtain ⟨xF270_0, xF270_1, xF270_2⟩ := F2.ce3
      have hHeld : (fun w' : World => w'.cell? ⟨w.heap.size, 0, none⟩ = some (.bool xn) ∧ w'.cell? ⟨w.heap.size, 1, none⟩ = some (.string xS) ∧ w'.cell? ⟨w.heap.size, 2, none⟩ = some (.string xT)) (v11).drew := ⟨xF270_0, xF270_1, xF270_2⟩
      refine wpAny_of_held (S := fun w' : World => w'.cell? ⟨w.heap.size, 0, none⟩ = some (.bool xn) ∧ w'.cell? ⟨w.heap.size, 1, none⟩ = some (.string xS) ∧ w'.cell? ⟨w.heap.size, 2, none⟩ = some (.string xT)) _ _ _ _ ?_
      replace F2 := F2.drew
      replace F23 := F23.drew
      replace B0 := B0.drew
      refine wpAnyH_take (i := 0) (v := _) (by first | (simp only [List.getElem?_toArray, List.getElem?_cons_zero]; rfl) | rfl) (by kernel_rfl) (by kernel_rfl) (by kernel_rfl) (by exact fun _ _ _ h => h) (Or.inl ⟨by rfl, by (intro w hSw; (try dsimp only at hSw); go_simp; try with_reducible rfl)⟩) (by assumption) ?_
      (try dsimp only [Act.put]); (try go_frame)
      refine wpAnyH_take (i := 2) (v := _) (by first | (simp only [List.getElem?_toArray, List.getElem?_cons_zero, List.getElem?_cons_succ]; rfl) | rfl) (by kernel_rfl) (by kernel_rfl) (by kernel_rfl) (by exact fun _ _ _ h => h) (Or.inl ⟨by rfl, by (intro w hSw; (try dsimp only at hSw); go_simp; try with_reducible rfl)⟩) (by assumption) ?_
      (try dsimp only [Act.put]); (try go_frame)
      refine wpAnyH_ready (rs := [1, 7]) (by kernel_rfl) (by simp) ?_
      refine AllReadyH.cons rfl (fun K hK => ?_) (AllReadyH.cons rfl (fun K hK => ?_) AllReadyH.nil)
      · go_simp
        (with_reducible refine (h6c _ ?_).mono ?_)
        · exact hT.below B0
        rintro r w37 ⟨rfl, hb37⟩
        clear xF270_0 xF270_1 xF270_2
        replace F2 := F2.keep hb37
        replace F23 := F23.keep hb37
        replace B0 := B0.trans (hb37.mono B0.size)
        clear hb37
        obtain ⟨xF272_0, xF272_1, xF272_2⟩ := F2.ce3
        refine hK.out _ _ ?_ (fun hHeld => ?_)
        · exact ⟨xF272_0, xF272_1, xF272_2⟩
        clear hK K
        (try dsimp only [Act.put]); (try go_frame)
        refine wpAnyH_ready (rs := [3, 7]) (by kernel_rfl) (by simp) ?_
        refine AllReadyH.cons rfl (fun K hK => ?_) (AllReadyH.cons rfl (fun K hK => ?_) AllReadyH.nil)
        · go_simp
          (with_reducible refine (h10 _).mono ?_)
          rintro r w38 ⟨rfl, hb38⟩
          clear xF272_0 xF272_1 xF272_2
          replace F2 := F2.keep hb38
          replace F23 := F23.keep hb38
          replace B0 := B0.trans (hb38.mono B0.size)
          clear hb38
          obtain ⟨xF273_0, xF273_1, xF273_2⟩ := F2.ce3
          refine hK.out _ _ ?_ (fun hHeld => ?_)
          · exact ⟨xF273_0, xF273_1, xF273_2⟩
          clear hK K
          (try dsimp only [Act.put]); (try go_frame)
          refine wpAnyH_take (i := 4) (v := _) (by first | (simp only [List.getElem?_toArray, List.getElem?_cons_zero, List.getElem?_cons_succ]; rfl) | rfl) (by kernel_rfl) (by kernel_rfl) (by kernel_rfl) (by exact fun _ _ _ h => h) (Or.inl ⟨by rfl, by (intro w hSw; (try dsimp only at hSw); go_simp; try with_reducible rfl)⟩) (by assumption) ?_
          (try dsimp only [Act.put]); (try go_frame)
          refine wpAnyH_take (i := 5) (v := _) (by first | (simp only [List.getElem?_toArray, List.getElem?_cons_zero, List.getElem?_cons_succ]; rfl) | rfl) (by kernel_rfl) (by kernel_rfl) (by kernel_rfl) (by exact fun _ _ _ h => h) (Or.inl ⟨by rfl, by (intro w hSw; (try dsimp only at hSw); go_simp; try with_reducible rfl)⟩) (by assumption) ?_
          (try dsimp only [Act.put]); (try go_frame)
          refine wpAnyH_take (i := 6) (v := _) (by first | (simp only [List.getElem?_toArray, List.getElem?_cons_zero, List.getElem?_cons_succ]; rfl) | rfl) (by kernel_rfl) (by kernel_rfl) (by kernel_rfl) (by exact fun _ _ _ h => h) (Or.inl ⟨by rfl, by (intro w hSw; (try dsimp only at hSw); go_simp; try with_reducible rfl)⟩) (by assumption) ?_
          (try dsimp only [Act.put]); (try go_frame)
          refine wpAnyH_ready (rs := [7]) (by kernel_rfl) (by simp) ?_
          refine AllReadyH.cons rfl (fun K hK => ?_) AllReadyH.nil
          go_simp
          obtain ⟨zF20, zF21, zF22⟩ := (F2.allocd (.cells #[.bool false, .string { data := #[] }, .string { data := #[] }] 24)).ce3
          clear xF273_0 xF273_1 xF273_2
          refine hK.out _ _ ?_ (fun hHeld => ?_)
          · exact ⟨zF20, zF21, zF22⟩
          clear hK K
          (try dsimp only [Act.put]); (try go_frame)
          clear zF20 zF21 zF22
          refine wpAnyH_ready (rs := [8]) (by kernel_rfl) (by simp) ?_
          refine AllReadyH.cons rfl (fun K hK => ?_) AllReadyH.nil
          go_simp
          have q_w_F25 : Hid (w.heap.size ≤ w38.heap.size) := Lib.hid (by have := B0.size; first | exact this | omega | (simp; done) | simpa using this)
          replace F2 := F2.allocd (.cells #[.bool qn, .string qS, .string qT] 24)
          replace F23 := F23.allocd (.cells #[.bool qn, .string qS, .string qT] 24)
          have F25 := Blk.put (w38) #[.bool qn, .string qS, .string qT] 24
          replace B0 := B0.alloc B0.size (.cells #[.bool qn, .string qS, .string qT] 24)
          obtain ⟨xF274_0, xF274_1, xF274_2⟩ := F2.ce3
          refine hK.out _ _ ?_ (fun hHeld => ?_)
          · exact ⟨xF274_0, xF274_1, xF274_2⟩
          clear hK K
          (try dsimp only [Act.put]); (try go_frame)
          refine wpAnyH_take (i := 9) (v := _) (by first | (simp only [List.getElem?_toArray, List.getElem?_cons_zero, List.getElem?_cons_succ]; rfl) | rfl) (by kernel_rfl) (by kernel_rfl) (by kernel_rfl) (by exact fun _ _ _ h => h) (Or.inl ⟨by rfl, by (intro w hSw; (try dsimp only at hSw); go_simp; try with_reducible rfl)⟩) (by assumption) ?_
          (try dsimp only [Act.put]); (try go_frame)
          refine wpAnyH_done (by kernel_rfl) ?_ _
          try simp only [QCut]
          clear hHeld
          clear xF274_0 xF274_1 xF274_2
          go_wp2_with fail
          go_meet
          exact ⟨_, by first | rfl | simp, by first | rfl | simp, by first | rfl | simp, by first | rfl | simp, F23, F25, B0⟩
        · go_simp
          clear xF272_0 xF272_1 xF272_2
          have q_F2_F25 : Hid (w.heap.size < w37.heap.size) := Lib.hid (by have := F2.lt; first | exact this | omega | (simp; done) | simpa using this)
          have q_F23_F25 : Hid (S23 < w37.heap.size) := Lib.hid (by have := F23.lt; first | exact this | omega | (simp; done) | simpa using this)
          have q_w_F25 : Hid (w.heap.size ≤ w37.heap.size) := Lib.hid (by have := B0.size; first | exact this | omega | (simp; done) | simpa using this)
          replace F2 := F2.allocd (.cells #[.bool false, .string { data := #[] }, .string { data := #[] }] 24)
          replace F23 := F23.allocd (.cells #[.bool false, .string { data := #[] }, .string { data := #[] }] 24)
          have F25 := Blk.put (w37) #[.bool false, .string { data := #[] }, .string { data := #[] }] 24
          replace B0 := B0.alloc B0.size (.cells #[.bool false, .string { data := #[] }, .string { data := #[] }] 24)
          obtain ⟨xF273_0, xF273_1, xF273_2⟩ := F2.ce3
          refine hK.out _ _ ?_ (fun hHeld => ?_)
          · exact ⟨xF273_0, xF273_1, xF273_2⟩
          clear hK K
          (try dsimp only [Act.put]); (try go_frame)
          refine wpAnyH_ready (rs := [3]) (by kernel_rfl) (by simp) ?_
          refine AllReadyH.cons rfl (fun K hK => ?_) AllReadyH.nil
          go_simp
          (with_reducible refine (h10 _).mono ?_)
          rintro r w38 ⟨rfl, hb38⟩
          clear xF273_0 xF273_1 xF273_2
          replace F2 := F2.keep hb38
          replace F23 := F23.keep hb38
          replace F25 := F25.keep hb38
          replace B0 := B0.trans (hb38.mono B0.size)
          clear hb38
          obtain ⟨xF274_0, xF274_1, xF274_2⟩ := F2.ce3
          refine hK.out _ _ ?_ (fun hHeld => ?_)
          · exact ⟨xF274_0, xF274_1, xF274_2⟩
          clear hK K
          (try dsimp only [Act.put]); (try go_frame)
          refine wpAnyH_take (i := 4) (v := _) (by first | (simp only [List.getElem?_toArray, List.getElem?_cons_zero, List.getElem?_cons_succ]; rfl) | rfl) (by kernel_rfl) (by kernel_rfl) (by kernel_rfl) (by exact fun _ _ _ h => h) (Or.inl ⟨by rfl, by (intro w hSw; (try dsimp only at hSw); go_simp; try with_reducible rfl)⟩) (by assumption) ?_
          (try dsimp only [Act.put]); (try go_frame)
          refine wpAnyH_take (i := 5) (v := _) (by first | (simp only [List.getElem?_toArray, List.getElem?_cons_zero, List.getElem?_cons_succ]; rfl) | rfl) (by kernel_rfl) (by kernel_rfl) (by kernel_rfl) (by exact fun _ _ _ h => h) (Or.inl ⟨by rfl, by (intro w hSw; (try dsimp only at hSw); go_simp; try with_reducible rfl)⟩) (by assumption) ?_
          (try dsimp only [Act.put]); (try go_frame)
          refine wpAnyH_take (i := 6) (v := _) (by first | (simp only [List.getElem?_toArray, List.getElem?_cons_zero, List.getElem?_cons_succ]; rfl) | rfl) (by kernel_rfl) (by kernel_rfl) (by kernel_rfl) (by exact fun _ _ _ h => h) (Or.inl ⟨by rfl, by (intro w hSw; (try dsimp only at hSw); go_simp; try with_reducible rfl)⟩) (by assumption) ?_
          (try dsimp only [Act.put]); (try go_frame)
          obtain ⟨xF2574_0, xF2574_1, xF2574_2⟩ := F25.ce3
          obtain ⟨xF2574_0f, xF2574_1f, xF2574_2f⟩ := F25.fr3
          refine wpAnyH_ready (rs := [8]) (by kernel_rfl) (by simp) ?_
          refine AllReadyH.cons rfl (fun K hK => ?_) AllReadyH.nil
          go_simp
          replace F2 := (((F2.far 0 (.bool qn) (Nat.ne_of_lt q_F2_F25.out)).far 1 (.string qS) (Nat.ne_of_lt q_F2_F25.out)).far 2 (.string qT) (Nat.ne_of_lt q_F2_F25.out))
          replace F23 := (((F23.far 0 (.bool qn) (Nat.ne_of_lt q_F23_F25.out)).far 1 (.string qS) (Nat.ne_of_lt q_F23_F25.out)).far 2 (.string qT) (Nat.ne_of_lt q_F23_F25.out))
          replace F25 : Blk ((((w38).setCell ⟨w37.heap.size, 0, none⟩ (.bool qn)).setCell ⟨w37.heap.size, 1, none⟩ (.string qS)).setCell ⟨w37.heap.size, 2, none⟩ (.string qT)) (w37.heap.size) #[.bool qn, .string qS, .string qT] 24 := (((F25.setAt 0 (.bool qn)).setAt 1 (.string qS)).setAt 2 (.string qT))
          replace B0 := (((B0.setCell (p := ⟨w37.heap.size, 0, none⟩) q_w_F25.out (.bool qn)).setCell (p := ⟨w37.heap.size, 1, none⟩) q_w_F25.out (.string qS)).setCell (p := ⟨w37.heap.size, 2, none⟩) q_w_F25.out (.string qT))
          clear xF274_0 xF274_1 xF274_2 xF2574_0 xF2574_1 xF2574_2 xF2574_0f xF2574_1f xF2574_2f
          obtain ⟨xF275_0, xF275_1, xF275_2⟩ := F2.ce3
          refine hK.out _ _ ?_ (fun hHeld => ?_)
          · exact ⟨xF275_0, xF275_1, xF275_2⟩
          clear hK K
          (try dsimp only [Act.put]); (try go_frame)
          refine wpAnyH_take (i := 9) (v := _) (by first | (simp only [List.getElem?_toArray, List.getElem?_cons_zero, List.getElem?_cons_succ]; rfl) | rfl) (by kernel_rfl) (by kernel_rfl) (by kernel_rfl) (by exact fun _ _ _ h => h) (Or.inl ⟨by rfl, by (intro w hSw; (try dsimp only at hSw); go_simp; try with_reducible rfl)⟩) (by assumption) ?_
          (try dsimp only [Act.put]); (try go_frame)
          refine wpAnyH_done (by kernel_rfl) ?_ _
          try simp only [QCut]
          clear hHeld
          clear xF275_0 xF275_1 xF275_2
          go_wp2_with fail
          go_meet
          exact ⟨_, by first | rfl | simp, by first | rfl | simp, by first | rfl | simp, by first | rfl | simp, F23, F25, B0⟩
      · go_simp
        clear xF270_0 xF270_1 xF270_2
        have q_F2_F25 : Hid (w.heap.size < v11.heap.size) := Lib.hid (by have := F2.lt; first | exact this | omega | (simp; done) | simpa using this)
        have q_F23_F25 : Hid (S23 < v11.heap.size) := Lib.hid (by have := F23.lt; first | exact this | omega | (simp; done) | simpa using this)
        have q_w_F25 : Hid (w.heap.size ≤ v11.heap.size) := Lib.hid (by have := B0.size; first | exact this | omega | (simp; done) | simpa using this)
        replace F2 := F2.allocd (.cells #[.bool false, .string { data := #[] }, .string { data := #[] }] 24)
        replace F23 := F23.allocd (.cells #[.bool false, .string { data := #[] }, .string { data := #[] }] 24)
        have F25 := Blk.put ((v11).drew) #[.bool false, .string { data := #[] }, .string { data := #[] }] 24
        rw [show ((v11).drew).heap.size = v11.heap.size by simp] at F25
        replace B0 := B0.alloc B0.size (.cells #[.bool false, .string { data := #[] }, .string { data := #[] }] 24)
        obtain ⟨xF272_0, xF272_1, xF272_2⟩ := F2.ce3
        refine hK.out _ _ ?_ (fun hHeld => ?_)
        · exact ⟨xF272_0, xF272_1, xF272_2⟩
        clear hK K
        (try dsimp only [Act.put]); (try go_frame)
        refine wpAnyH_ready (rs := [1]) (by kernel_rfl) (by simp) ?_
        refine AllReadyH.cons rfl (fun K hK => ?_) AllReadyH.nil
        go_simp
        (with_reducible refine (h6c _ ?_).mono ?_)
        · exact hT.below B0
        rintro r w37 ⟨rfl, hb37⟩
        clear xF272_0 xF272_1 xF272_2
        replace F2 := F2.keep hb37
        replace F23 := F23.keep hb37
        replace F25 := F25.keep hb37
        replace B0 := B0.trans (hb37.mono B0.size)
        clear hb37
        obtain ⟨xF273_0, xF273_1, xF273_2⟩ := F2.ce3
        refine hK.out _ _ ?_ (fun hHeld => ?_)
        · exact ⟨xF273_0, xF273_1, xF273_2⟩
        clear hK K
        (try dsimp only [Act.put]); (try go_frame)
        refine wpAnyH_ready (rs := [3]) (by kernel_rfl) (by simp) ?_
        refine AllReadyH.cons rfl (fun K hK => ?_) AllReadyH.nil
        go_simp
        (with_reducible refine (h10 _).mono ?_)
        rintro r w38 ⟨rfl, hb38⟩
        clear xF273_0 xF273_1 xF273_2
        replace F2 := F2.keep hb38
        replace F23 := F23.keep hb38
        replace F25 := F25.keep hb38
        replace B0 := B0.trans (hb38.mono B0.size)
        clear hb38
        obtain ⟨xF274_0, xF274_1, xF274_2⟩ := F2.ce3
        refine hK.out _ _ ?_ (fun hHeld => ?_)
        · exact ⟨xF274_0, xF274_1, xF274_2⟩
        clear hK K
        (try dsimp only [Act.put]); (try go_frame)
        refine wpAnyH_take (i := 4) (v := _) (by first | (simp only [List.getElem?_toArray, List.getElem?_cons_zero, List.getElem?_cons_succ]; rfl) | rfl) (by kernel_rfl) (by kernel_rfl) (by kernel_rfl) (by exact fun _ _ _ h => h) (Or.inl ⟨by rfl, by (intro w hSw; (try dsimp only at hSw); go_simp; try with_reducible rfl)⟩) (by assumption) ?_
        (try dsimp only [Act.put]); (try go_frame)
        refine wpAnyH_take (i := 5) (v := _) (by first | (simp only [List.getElem?_toArray, List.getElem?_cons_zero, List.getElem?_cons_succ]; rfl) | rfl) (by kernel_rfl) (by kernel_rfl) (by kernel_rfl) (by exact fun _ _ _ h => h) (Or.inl ⟨by rfl, by (intro w hSw; (try dsimp only at hSw); go_simp; try with_reducible rfl)⟩) (by assumption) ?_
        (try dsimp only [Act.put]); (try go_frame)
        refine wpAnyH_take (i := 6) (v := _) (by first | (simp only [List.getElem?_toArray, List.getElem?_cons_zero, List.getElem?_cons_succ]; rfl) | rfl) (by kernel_rfl) (by kernel_rfl) (by kernel_rfl) (by exact fun _ _ _ h => h) (Or.inl ⟨by rfl, by (intro w hSw; (try dsimp only at hSw); go_simp; try with_reducible rfl)⟩) (by assumption) ?_
        (try dsimp only [Act.put]); (try go_frame)
        obtain ⟨xF2574_0, xF2574_1, xF2574_2⟩ := F25.ce3
        obtain ⟨xF2574_0f, xF2574_1f, xF2574_2f⟩ := F25.fr3
        refine wpAnyH_ready (rs := [8]) (by kernel_rfl) (by simp) ?_
        refine AllReadyH.cons rfl (fun K hK => ?_) AllReadyH.nil
        go_simp
        replace F2 := (((F2.far 0 (.bool qn) (Nat.ne_of_lt q_F2_F25.out)).far 1 (.string qS) (Nat.ne_of_lt q_F2_F25.out)).far 2 (.string qT) (Nat.ne_of_lt q_F2_F25.out))
        replace F23 := (((F23.far 0 (.bool qn) (Nat.ne_of_lt q_F23_F25.out)).far 1 (.string qS) (Nat.ne_of_lt q_F23_F25.out)).far 2 (.string qT) (Nat.ne_of_lt q_F23_F25.out))
        replace F25 : Blk ((((w38).setCell ⟨v11.heap.size, 0, none⟩ (.bool qn)).setCell ⟨v11.heap.size, 1, none⟩ (.string qS)).setCell ⟨v11.heap.size, 2, none⟩ (.string qT)) (v11.heap.size) #[.bool qn, .string qS, .string qT] 24 := (((F25.setAt 0 (.bool qn)).setAt 1 (.string qS)).setAt 2 (.string qT))
        replace B0 := (((B0.setCell (p := ⟨v11.heap.size, 0, none⟩) q_w_F25.out (.bool qn)).setCell (p := ⟨v11.heap.size, 1, none⟩) q_w_F25.out (.string qS)).setCell (p := ⟨v11.heap.size, 2, none⟩) q_w_F25.out (.string qT))
        clear xF274_0 xF274_1 xF274_2 xF2574_0 xF2574_1 xF2574_2 xF2574_0f xF2574_1f xF2574_2f
        obtain ⟨xF275_0, xF275_1, xF275_2⟩ := F2.ce3
        refine hK.out _ _ ?_ (fun hHeld => ?_)
        · exact ⟨xF275_0, xF275_1, xF275_2⟩
        clear hK K
        (try dsimp only [Act.put]); (try go_frame)
        refine wpAnyH_take (i := 9) (v := _) (by first | (simp only [List.getElem?_toArray, List.getElem?_cons_zero, List.getElem?_cons_succ]; rfl) | rfl) (by kernel_rfl) (by kernel_rfl) (by kernel_rfl) (by exact fun _ _ _ h => h) (Or.inl ⟨by rfl, by (intro w hSw; (try dsimp only at hSw); go_simp; try with_reducible rfl)⟩) (by assumption) ?_
        (try dsimp only [Act.put]); (try go_frame)
        refine wpAnyH_done (by kernel_rfl) ?_ _
        try simp only [QCut]
        clear hHeld
        clear xF275_0 xF275_1 xF275_2
        go_wp2_with fail
        go_meet
        exact ⟨_, by first | rfl | simp, by first | rfl | simp, by first | rfl | simp, by first | rfl | simp, F23, F25, B0⟩
    case rest =>
      clear B0
      clear F2
      clear F23
      obtain ⟨S25, rfl, rfl, rfl, rfl, F23, F25, B0⟩ := hcut
      generalize wc = v12 at *
      obtain ⟨xF2371_0, xF2371_1, xF2371_2⟩ := F23.ce3
      obtain ⟨xF2571_0, xF2571_1, xF2571_2⟩ := F25.ce3
      go_wp2_with fail
      (with_reducible refine (h11 _).mono ?_)
      rintro r w37 ⟨rfl, hb37⟩
      clear xF2371_0 xF2371_1 xF2371_2 xF2571_0 xF2571_1 xF2571_2
      replace F23 := F23.keep hb37
      replace F25 := F25.keep hb37
      replace B0 := B0.trans (hb37.mono B0.size)
      clear hb37
      have hfb := run_f64bits
      go_wp2_with fail
      (with_reducible refine (hl _).mono ?_)
      rintro r w38 ⟨rfl, hb38⟩
      clear F23
      clear F25
      replace B0 := B0.trans (hb38.mono B0.size)
      clear hb38
      go_wp2
      go_ret
      exact ⟨rfl, B0⟩
set_option maxRecDepth 1000000 in
set_option maxHeartbeats 16000000 in
theorem near_both1 (xn : Bool) (xS xT : ByteArray) (fx : Int) (w : World) (n b c : Nat) (yn : Bool) (yS yT : ByteArray) (zn : Bool) (zS zT : ByteArray) (pn : Bool) (pS pT : ByteArray) (qn : Bool) (qS qT : ByteArray) (k m : Int)
    (hT : Tab w)
    (h0 : ∀ W, Calls Tryz.prog 12 #[.agg #[.bool xn, .string xS, .string xT]] W fun r w' => r = .returned (.bool true) ∧ Below W.heap.size W w')
    (h1 : ∀ W, Calls Tryz.prog 13 #[.agg #[.bool xn, .string xS, .string xT]] W fun r w' => r = .returned (.bool true) ∧ Below W.heap.size W w')
    (h2 : ∀ W, Calls Tryz.prog 7 #[.agg #[.bool xn, .string xS, .string xT]] W fun r w' => r = .returned (.tuple #[.float .f64 n, .int .i64 0]) ∧ Below W.heap.size W w')
    (h3 : ∀ W, Calls Tryz.prog 8 #[.agg #[.bool xn, .string xS, .string xT]] W fun r w' => r = .returned (.tuple #[.float .f64 b, .int .i64 0]) ∧ Below W.heap.size W w')
    (h4 : ∀ W, Calls Tryz.prog 9 #[.agg #[.bool xn, .string xS, .string xT]] W fun r w' => r = .returned (.tuple #[.float .f64 c, .int .i64 0]) ∧ Below W.heap.size W w')
    (hu : ∀ W, Calls Tryz.prog 15 #[.float .f64 b] W fun r w' => r = .returned (.float .f64 c) ∧ Below W.heap.size W w')
    (h5 : ∀ W, Calls Tryz.prog 5 #[.float .f64 b] W fun r w' => r = .returned (.bool true) ∧ Below W.heap.size W w')
    (h5c : ∀ W, Calls Tryz.prog 5 #[.float .f64 c] W fun r w' => r = .returned (.bool true) ∧ Below W.heap.size W w')
    (h6 : ∀ W, Tab W → Calls Tryz.prog 6 #[.float .f64 b] W fun r w' => r = .returned (.agg #[.bool yn, .string yS, .string yT]) ∧ Below W.heap.size W w')
    (h6c : ∀ W, Tab W → Calls Tryz.prog 6 #[.float .f64 c] W fun r w' => r = .returned (.agg #[.bool zn, .string zS, .string zT]) ∧ Below W.heap.size W w')
    (h7 : ∀ W, Calls Tryz.prog 16 #[.agg #[.bool yn, .string yS, .string yT], .agg #[.bool xn, .string xS, .string xT]] W fun r w' => r = .returned (.tuple #[.int .i64 k, .int .i64 0]) ∧ Below W.heap.size W w')
    (hk : ¬ 0 < k)
    (h8 : ∀ W, Calls Tryz.prog 16 #[.agg #[.bool xn, .string xS, .string xT], .agg #[.bool zn, .string zS, .string zT]] W fun r w' => r = .returned (.tuple #[.int .i64 m, .int .i64 0]) ∧ Below W.heap.size W w')
    (hm : ¬ 0 < m)
    (hyx : ∀ {α : Type} (A B : α), (if yn = xn then (if yS.toList = xS.toList then (if yT.toList = xT.toList then A else B) else B) else B) = B)
    (h9 : ∀ W, Calls Tryz.prog 17 #[.agg #[.bool xn, .string xS, .string xT], .agg #[.bool yn, .string yS, .string yT]] W fun r w' => r = .returned (.tuple #[.agg #[.bool pn, .string pS, .string pT], .int .i64 0]) ∧ Below W.heap.size W w')
    (h10 : ∀ W, Calls Tryz.prog 17 #[.agg #[.bool zn, .string zS, .string zT], .agg #[.bool xn, .string xS, .string xT]] W fun r w' => r = .returned (.tuple #[.agg #[.bool qn, .string qS, .string qT], .int .i64 0]) ∧ Below W.heap.size W w')
    (h11 : ∀ W, Calls Tryz.prog 16 #[.agg #[.bool pn, .string pS, .string pT], .agg #[.bool qn, .string qS, .string qT]] W fun r w' => r = .returned (.tuple #[.int .i64 0, .int .i64 0]) ∧ Below W.heap.size W w')
    (hl : ∀ W, Calls Tryz.prog 14 #[] W fun r w' => r = .returned (.bool true) ∧ Below W.heap.size W w')
    (e1 : (FloatKind.f64.format.order n b != some .eq) = true)
    (e2 : (FloatKind.f64.format.order n c != some .eq) = false)
    (e3 : (FloatKind.f64.format.order b c == some .gt) = false)
    (e4 : (FloatKind.f64.format.order b c != some .eq) = true)
    (e5 : (FloatKind.f64.format.order c c != some .eq) = false)
    (e6 : (FloatKind.f64.format.order b c == some .eq) = false)
    (hev : ((n : Int)).tmod 2 = 0)
    (v1 : World) (F2 : Blk v1 (w.heap.size) #[.bool xn, .string xS, .string xT] 24) (B0 : Below w.heap.size w v1) (u3 u4 u5 u6 u7 u8 u9 u10 u11 u12 u13 u14 u15 u16 u17 u18 u19 u20 u21 u22 u23 u24 u25 u26 u27 u28 u29 u30 u31 u32 u33 u34 u35 u36 u37 u38 u39 u40 u41 u42 u43 u44 u45 u46 u47 u48 u49 u50 u51 u52 u53 u54 u55 u56 u57 u58 u59 u60 u61 u62 u63 u64 u65 u66 u67 u68 u69 u70 u71 u72 u73 u74 u75 u76 u77 u78 u79 u80 u81 u82 u83 u84 u85 u86 u87 u88 u89 u90 u91 u92 u93 u94 u95 u96 u97 u98 u99 u100 u101 u102 u103 u104 u105 u106 u107 u108 u109 u110 u111 u112 u113 u114 u115 u116 u117 u118 u119 u120 u121 u122 u123 u124 u125 u126 u127 u128 u129 u130 u131 u132 u133 u134 u135 u136 u137 u138 u139 u140 u141 u142 u143 u144 u145 u146 u147 u148 u149 u150 u151 u152 u153 u154 u155 u156 u157 u158 u159 u160 u161 u162 u163 u164 u165 u166 u167 u168 u169 u170 u171 u172 u173 u174 u175 u176 u177 u178 u179 u180 u181 u182 u183 u184 u185 u186 u187 u188 u189 u190 u191 u192 u193 u194 u195 u196 u197 u198 u199 u200 u201 u202 u203 u204 u205 u206 u207 u208 u209 u210 u211 u212 u213 u214 u215 u216 u217 u218 u219 u220 u221 u222 u223 u224 : Value) :
    Code.wp Tryz.prog (nearTail 9 (Tryz.f3.body.getD .skip)) (bodyPost Tryz.prog Tryz.f3 fun r w' => r = .returned (.bool true) ∧ Below w.heap.size w w') ⟨#[.agg #[.bool xn, .string xS, .string xT], .int .u64 fx, .pointer (some ⟨w.heap.size, 0, none⟩), u3, u4, u5, u6, u7, u8, u9, u10, u11, u12, u13, u14, u15, u16, u17, u18, u19, u20, u21, u22, u23, u24, u25, u26, u27, u28, u29, u30, u31, u32, u33, u34, u35, u36, u37, u38, u39, u40, u41, u42, u43, u44, u45, u46, u47, u48, u49, u50, u51, u52, u53, u54, u55, u56, u57, u58, u59, u60, u61, u62, u63, u64, u65, u66, u67, u68, u69, u70, u71, u72, u73, u74, u75, u76, u77, u78, u79, u80, u81, u82, u83, u84, u85, u86, u87, u88, u89, u90, u91, u92, u93, u94, u95, u96, u97, u98, u99, u100, u101, u102, u103, u104, u105, u106, u107, u108, u109, u110, u111, u112, u113, u114, u115, u116, u117, u118, u119, u120, u121, u122, u123, u124, u125, u126, u127, u128, u129, u130, u131, u132, u133, u134, u135, u136, u137, u138, u139, u140, u141, u142, u143, u144, u145, u146, u147, u148, u149, u150, u151, u152, u153, u154, u155, u156, u157, u158, u159, u160, u161, u162, u163, u164, u165, u166, u167, u168, u169, u170, u171, u172, u173, u174, u175, u176, u177, u178, u179, u180, u181, u182, u183, u184, u185, u186, u187, u188, u189, u190, u191, u192, u193, u194, u195, u196, u197, u198, u199, u200, u201, u202, u203, u204, u205, u206, u207, u208, u209, u210, u211, u212, u213, u214, u215, u216, u217, u218, u219, u220, u221, u222, u223, u224], []⟩ v1 := by
  conv => arg 2; whnf
  obtain ⟨xF250_0, xF250_1, xF250_2⟩ := F2.ce3
  go_wp2_with fail
  (with_reducible refine (h0 _).mono ?_)
  rintro r w21 ⟨rfl, hb21⟩
  clear xF250_0 xF250_1 xF250_2
  replace F2 := F2.keep hb21
  replace B0 := B0.trans (hb21.mono B0.size)
  clear hb21
  obtain ⟨xF251_0, xF251_1, xF251_2⟩ := F2.ce3
  go_wp2_with fail
  (with_reducible refine (h1 _).mono ?_)
  rintro r w22 ⟨rfl, hb22⟩
  clear xF251_0 xF251_1 xF251_2
  replace F2 := F2.keep hb22
  replace B0 := B0.trans (hb22.mono B0.size)
  clear hb22
  obtain ⟨xF252_0, xF252_1, xF252_2⟩ := F2.ce3
  go_wp2_with fail
  (with_reducible refine (h2 _).mono ?_)
  rintro r w23 ⟨rfl, hb23⟩
  clear xF252_0 xF252_1 xF252_2
  replace F2 := F2.keep hb23
  replace B0 := B0.trans (hb23.mono B0.size)
  clear hb23
  obtain ⟨xF253_0, xF253_1, xF253_2⟩ := F2.ce3
  go_wp2_with fail
  (with_reducible refine (h3 _).mono ?_)
  rintro r w24 ⟨rfl, hb24⟩
  clear xF253_0 xF253_1 xF253_2
  replace F2 := F2.keep hb24
  replace B0 := B0.trans (hb24.mono B0.size)
  clear hb24
  obtain ⟨xF254_0, xF254_1, xF254_2⟩ := F2.ce3
  go_wp2_with fail
  (with_reducible refine (h4 _).mono ?_)
  rintro r w25 ⟨rfl, hb25⟩
  clear xF254_0 xF254_1 xF254_2
  replace F2 := F2.keep hb25
  replace B0 := B0.trans (hb25.mono B0.size)
  clear hb25
  go_wp2_with fail
  refine wp_region_any (by kernel_rfl) ?_
  obtain ⟨xF255_0, xF255_1, xF255_2⟩ := F2.ce3
  have hHeld : (fun w' : World => w'.cell? ⟨w.heap.size, 0, none⟩ = some (.bool xn) ∧ w'.cell? ⟨w.heap.size, 1, none⟩ = some (.string xS) ∧ w'.cell? ⟨w.heap.size, 2, none⟩ = some (.string xT)) (w25).drew := ⟨xF255_0, xF255_1, xF255_2⟩
  refine wpAny_of_held (S := fun w' : World => w'.cell? ⟨w.heap.size, 0, none⟩ = some (.bool xn) ∧ w'.cell? ⟨w.heap.size, 1, none⟩ = some (.string xS) ∧ w'.cell? ⟨w.heap.size, 2, none⟩ = some (.string xT)) _ _ _ _ ?_
  replace F2 := F2.drew
  replace B0 := B0.drew
  refine wpAnyH_take (i := 0) (v := _) (by first | (simp only [List.getElem?_toArray, List.getElem?_cons_zero]; rfl) | rfl) (by kernel_rfl) (by kernel_rfl) (by kernel_rfl) (by exact fun _ _ _ h => h) (Or.inl ⟨by rfl, by (intro w hSw; (try dsimp only at hSw); go_simp; try with_reducible rfl)⟩) (by assumption) ?_
  (try dsimp only [Act.put]); (try go_frame)
  refine wpAnyH_take (i := 1) (v := _) (by first | (simp only [List.getElem?_toArray, List.getElem?_cons_zero, List.getElem?_cons_succ]; rfl) | rfl) (by kernel_rfl) (by kernel_rfl) (by kernel_rfl) (by exact fun _ _ _ h => h) (Or.inl ⟨by rfl, by (intro w hSw; (try dsimp only at hSw); go_simp; try with_reducible rfl)⟩) (by assumption) ?_
  (try dsimp only [Act.put]); (try go_frame)
  refine wpAnyH_take (i := 2) (v := _) (by first | (simp only [List.getElem?_toArray, List.getElem?_cons_zero, List.getElem?_cons_succ]; rfl) | rfl) (by kernel_rfl) (by kernel_rfl) (by kernel_rfl) (by exact fun _ _ _ h => h) (Or.inl ⟨by rfl, by (intro w hSw; (try dsimp only at hSw); go_simp; try with_reducible rfl)⟩) (by assumption) ?_
  (try dsimp only [Act.put]); (try go_frame)
  refine wpAnyH_take (i := 3) (v := _) (by first | (simp only [List.getElem?_toArray, List.getElem?_cons_zero, List.getElem?_cons_succ]; rfl) | rfl) (by kernel_rfl) (by kernel_rfl) (by kernel_rfl) (by exact fun _ _ _ h => h) (Or.inl ⟨by rfl, by (intro w hSw; (try dsimp only at hSw); go_simp; try with_reducible rfl)⟩) (by assumption) ?_
  (try dsimp only [Act.put]); (try go_frame)
  refine wpAnyH_take (i := 4) (v := _) (by first | (simp only [List.getElem?_toArray, List.getElem?_cons_zero, List.getElem?_cons_succ]; rfl) | rfl) (by kernel_rfl) (by kernel_rfl) (by kernel_rfl) (by exact fun _ _ _ h => h) (Or.inl ⟨by rfl, by (intro w hSw; (try dsimp only at hSw); go_simp; try with_reducible rfl)⟩) (by assumption) ?_
  (try dsimp only [Act.put]); (try go_frame)
  refine wpAnyH_take (i := 5) (v := _) (by first | (simp only [List.getElem?_toArray, List.getElem?_cons_zero, List.getElem?_cons_succ]; rfl) | rfl) (by kernel_rfl) (by kernel_rfl) (by kernel_rfl) (by exact fun _ _ _ h => h) (Or.inl ⟨by rfl, by (intro w hSw; (try dsimp only at hSw); go_simp; try with_reducible rfl)⟩) (by assumption) ?_
  (try dsimp only [Act.put]); (try go_frame)
  refine wpAnyH_take (i := 6) (v := _) (by first | (simp only [List.getElem?_toArray, List.getElem?_cons_zero, List.getElem?_cons_succ]; rfl) | rfl) (by kernel_rfl) (by kernel_rfl) (by kernel_rfl) (by exact fun _ _ _ h => h) (Or.inl ⟨by rfl, by (intro w hSw; (try dsimp only at hSw); go_simp; try with_reducible rfl)⟩) (by assumption) ?_
  (try dsimp only [Act.put]); (try go_frame)
  refine wpAnyH_take (i := 7) (v := _) (by first | (simp only [List.getElem?_toArray, List.getElem?_cons_zero, List.getElem?_cons_succ]; rfl) | rfl) (by kernel_rfl) (by kernel_rfl) (by kernel_rfl) (by exact fun _ _ _ h => h) (Or.inl ⟨by rfl, by (intro w hSw; (try dsimp only at hSw); go_simp; try with_reducible rfl)⟩) (by assumption) ?_
  (try dsimp only [Act.put]); (try go_frame)
  refine wpAnyH_take (i := 8) (v := _) (by first | (simp only [List.getElem?_toArray, List.getElem?_cons_zero, List.getElem?_cons_succ]; rfl) | rfl) (by kernel_rfl) (by kernel_rfl) (by kernel_rfl) (by exact fun _ _ _ h => h) (Or.inl ⟨by rfl, by (intro w hSw; (try dsimp only at hSw); go_simp; try with_reducible rfl)⟩) (by assumption) ?_
  (try dsimp only [Act.put]); (try go_frame)
  refine wpAnyH_take (i := 9) (v := _) (by first | (simp only [List.getElem?_toArray, List.getElem?_cons_zero, List.getElem?_cons_succ]; rfl) | rfl) (by kernel_rfl) (by kernel_rfl) (by kernel_rfl) (by exact fun _ _ _ h => h) (Or.inl ⟨by rfl, by (intro w hSw; (try dsimp only at hSw); go_simp; try with_reducible rfl)⟩) (by assumption) ?_
  (try dsimp only [Act.put]); (try go_frame)
  refine wpAnyH_take (i := 10) (v := _) (by first | (simp only [List.getElem?_toArray, List.getElem?_cons_zero, List.getElem?_cons_succ]; rfl) | rfl) (by kernel_rfl) (by kernel_rfl) (by kernel_rfl) (by exact fun _ _ _ h => h) (Or.inl ⟨by rfl, by (intro w hSw; (try dsimp only at hSw); go_simp; try with_reducible rfl)⟩) (by assumption) ?_
  (try dsimp only [Act.put]); (try go_frame)
  refine wpAnyH_take (i := 11) (v := _) (by first | (simp only [List.getElem?_toArray, List.getElem?_cons_zero, List.getElem?_cons_succ]; rfl) | rfl) (by kernel_rfl) (by kernel_rfl) (by kernel_rfl) (by exact fun _ _ _ h => h) (Or.inl ⟨by rfl, by (intro w hSw; (try dsimp only at hSw); go_simp; try with_reducible rfl)⟩) (by assumption) ?_
  (try dsimp only [Act.put]); (try go_frame)
  refine wpAnyH_take (i := 12) (v := _) (by first | (simp only [List.getElem?_toArray, List.getElem?_cons_zero, List.getElem?_cons_succ]; rfl) | rfl) (by kernel_rfl) (by kernel_rfl) (by kernel_rfl) (by exact fun _ _ _ h => h) (Or.inl ⟨by rfl, by (intro w hSw; (try dsimp only at hSw); go_simp; try with_reducible rfl)⟩) (by assumption) ?_
  (try dsimp only [Act.put]); (try go_frame)
  refine wpAnyH_take (i := 13) (v := _) (by first | (simp only [List.getElem?_toArray, List.getElem?_cons_zero, List.getElem?_cons_succ]; rfl) | rfl) (by kernel_rfl) (by kernel_rfl) (by kernel_rfl) (by exact fun _ _ _ h => h) (Or.inl ⟨by rfl, by (intro w hSw; (try dsimp only at hSw); go_simp; try with_reducible rfl)⟩) (by assumption) ?_
  (try dsimp only [Act.put]); (try go_frame)
  refine wpAnyH_take (i := 14) (v := _) (by first | (simp only [List.getElem?_toArray, List.getElem?_cons_zero, List.getElem?_cons_succ]; rfl) | rfl) (by kernel_rfl) (by kernel_rfl) (by kernel_rfl) (by exact fun _ _ _ h => h) (Or.inl ⟨by rfl, by (intro w hSw; (try dsimp only at hSw); go_simp; try with_reducible rfl)⟩) (by assumption) ?_
  (try dsimp only [Act.put]); (try go_frame)
  refine wpAnyH_take (i := 15) (v := _) (by first | (simp only [List.getElem?_toArray, List.getElem?_cons_zero, List.getElem?_cons_succ]; rfl) | rfl) (by kernel_rfl) (by kernel_rfl) (by kernel_rfl) (by exact fun _ _ _ h => h) (Or.inl ⟨by rfl, by (intro w hSw; (try dsimp only at hSw); go_simp; try with_reducible rfl)⟩) (by assumption) ?_
  (try dsimp only [Act.put]); (try go_frame)
  refine wpAnyH_take (i := 16) (v := _) (by first | (simp only [List.getElem?_toArray, List.getElem?_cons_zero, List.getElem?_cons_succ]; rfl) | rfl) (by kernel_rfl) (by kernel_rfl) (by kernel_rfl) (by exact fun _ _ _ h => h) (Or.inl ⟨by rfl, by (intro w hSw; (try dsimp only at hSw); go_simp; try with_reducible rfl)⟩) (by assumption) ?_
  (try dsimp only [Act.put]); (try go_frame)
  refine wpAnyH_take (i := 17) (v := _) (by first | (simp only [List.getElem?_toArray, List.getElem?_cons_zero, List.getElem?_cons_succ]; rfl) | rfl) (by kernel_rfl) (by kernel_rfl) (by kernel_rfl) (by exact fun _ _ _ h => h) (Or.inl ⟨by rfl, by (intro w hSw; (try dsimp only at hSw); go_simp; try with_reducible rfl)⟩) (by assumption) ?_
  (try dsimp only [Act.put]); (try go_frame)
  refine wpAnyH_take (i := 18) (v := _) (by first | (simp only [List.getElem?_toArray, List.getElem?_cons_zero, List.getElem?_cons_succ]; rfl) | rfl) (by kernel_rfl) (by kernel_rfl) (by kernel_rfl) (by exact fun _ _ _ h => h) (Or.inl ⟨by rfl, by (intro w hSw; (try dsimp only at hSw); go_simp; try with_reducible rfl)⟩) (by assumption) ?_
  (try dsimp only [Act.put]); (try go_frame)
  refine wpAnyH_take (i := 20) (v := _) (by first | (simp only [List.getElem?_toArray, List.getElem?_cons_zero, List.getElem?_cons_succ]; rfl) | rfl) (by kernel_rfl) (by kernel_rfl) (by kernel_rfl) (by exact fun _ _ _ h => h) (Or.inl ⟨by rfl, by (intro w hSw; (try dsimp only at hSw); go_simp; try with_reducible rfl)⟩) (by assumption) ?_
  (try dsimp only [Act.put]); (try go_frame)
  refine wpAnyH_ready (rs := [19]) (by kernel_rfl) (by simp) ?_
  refine AllReadyH.cons rfl (fun K hK => ?_) AllReadyH.nil
  go_simp
  (with_reducible refine (hu _).mono ?_)
  rintro r w26 ⟨rfl, hb26⟩
  clear xF255_0 xF255_1 xF255_2
  replace F2 := F2.keep hb26
  replace B0 := B0.trans (hb26.mono B0.size)
  clear hb26
  obtain ⟨xF257_0, xF257_1, xF257_2⟩ := F2.ce3
  refine hK.out _ _ ?_ (fun hHeld => ?_)
  · exact ⟨xF257_0, xF257_1, xF257_2⟩
  clear hK K
  (try dsimp only [Act.put]); (try go_frame)
  refine wpAnyH_take (i := 21) (v := _) (by first | (simp only [List.getElem?_toArray, List.getElem?_cons_zero, List.getElem?_cons_succ]; rfl) | rfl) (by kernel_rfl) (by kernel_rfl) (by kernel_rfl) (by exact fun _ _ _ h => h) (Or.inl ⟨by rfl, by (intro w hSw; (try dsimp only at hSw); go_simp; try with_reducible rfl)⟩) (by assumption) ?_
  (try dsimp only [Act.put]); (try go_frame)
  refine wpAnyH_take (i := 22) (v := _) (by first | (simp only [List.getElem?_toArray, List.getElem?_cons_zero, List.getElem?_cons_succ]; rfl) | rfl) (by kernel_rfl) (by kernel_rfl) (by kernel_rfl) (by exact fun _ _ _ h => h) (Or.inl ⟨by rfl, by (intro w hSw; (try dsimp only at hSw); go_simp; try with_reducible rfl)⟩) (by assumption) ?_
  (try dsimp only [Act.put]); (try go_frame)
  refine wpAnyH_take (i := 23) (v := _) (by first | (simp only [List.getElem?_toArray, List.getElem?_cons_zero, List.getElem?_cons_succ]; rfl) | rfl) (by kernel_rfl) (by kernel_rfl) (by kernel_rfl) (by exact fun _ _ _ h => h) (Or.inl ⟨by rfl, by (intro w hSw; (try dsimp only at hSw); go_simp; try with_reducible rfl)⟩) (by assumption) ?_
  (try dsimp only [Act.put]); (try go_frame)
  refine wpAnyH_take (i := 24) (v := _) (by first | (simp only [List.getElem?_toArray, List.getElem?_cons_zero, List.getElem?_cons_succ]; rfl) | rfl) (by kernel_rfl) (by kernel_rfl) (by kernel_rfl) (by exact fun _ _ _ h => h) (Or.inl ⟨by rfl, by (intro w hSw; (try dsimp only at hSw); go_simp; try with_reducible rfl)⟩) (by assumption) ?_
  (try dsimp only [Act.put]); (try go_frame)
  refine wpAnyH_take (i := 25) (v := _) (by first | (simp only [List.getElem?_toArray, List.getElem?_cons_zero, List.getElem?_cons_succ]; rfl) | rfl) (by kernel_rfl) (by kernel_rfl) (by kernel_rfl) (by exact fun _ _ _ h => h) (Or.inl ⟨by rfl, by (intro w hSw; (try dsimp only at hSw); go_simp; try with_reducible rfl)⟩) (by assumption) ?_
  (try dsimp only [Act.put]); (try go_frame)
  refine wpAnyH_take (i := 26) (v := _) (by first | (simp only [List.getElem?_toArray, List.getElem?_cons_zero, List.getElem?_cons_succ]; rfl) | rfl) (by kernel_rfl) (by kernel_rfl) (by kernel_rfl) (by exact fun _ _ _ h => h) (Or.inl ⟨by rfl, by (intro w hSw; (try dsimp only at hSw); go_simp; try with_reducible rfl)⟩) (by assumption) ?_
  (try dsimp only [Act.put]); (try go_frame)
  refine wpAnyH_take (i := 27) (v := _) (by first | (simp only [List.getElem?_toArray, List.getElem?_cons_zero, List.getElem?_cons_succ]; rfl) | rfl) (by kernel_rfl) (by kernel_rfl) (by kernel_rfl) (by exact fun _ _ _ h => h) (Or.inl ⟨by rfl, by (intro w hSw; (try dsimp only at hSw); go_simp; try with_reducible rfl)⟩) (by assumption) ?_
  (try dsimp only [Act.put]); (try go_frame)
  refine wpAnyH_take (i := 28) (v := _) (by first | (simp only [List.getElem?_toArray, List.getElem?_cons_zero, List.getElem?_cons_succ]; rfl) | rfl) (by kernel_rfl) (by kernel_rfl) (by kernel_rfl) (by exact fun _ _ _ h => h) (Or.inl ⟨by rfl, by (intro w hSw; (try dsimp only at hSw); go_simp; try with_reducible rfl)⟩) (by assumption) ?_
  (try dsimp only [Act.put]); (try go_frame)
  refine wpAnyH_ready (rs := [29]) (by kernel_rfl) (by simp) ?_
  refine AllReadyH.cons rfl (fun K hK => ?_) AllReadyH.nil
  go_simp
  (with_reducible refine (h5 _).mono ?_)
  rintro r w27 ⟨rfl, hb27⟩
  clear xF257_0 xF257_1 xF257_2
  replace F2 := F2.keep hb27
  replace B0 := B0.trans (hb27.mono B0.size)
  clear hb27
  obtain ⟨xF258_0, xF258_1, xF258_2⟩ := F2.ce3
  refine hK.out _ _ ?_ (fun hHeld => ?_)
  · exact ⟨xF258_0, xF258_1, xF258_2⟩
  clear hK K
  (try dsimp only [Act.put]); (try go_frame)
  refine wpAnyH_take (i := 30) (v := _) (by first | (simp only [List.getElem?_toArray, List.getElem?_cons_zero, List.getElem?_cons_succ]; rfl) | rfl) (by kernel_rfl) (by kernel_rfl) (by kernel_rfl) (by exact fun _ _ _ h => h) (Or.inl ⟨by rfl, by (intro w hSw; (try dsimp only at hSw); go_simp; try with_reducible rfl)⟩) (by assumption) ?_
  (try dsimp only [Act.put]); (try go_frame)
  refine wpAnyH_take (i := 31) (v := _) (by first | (simp only [List.getElem?_toArray, List.getElem?_cons_zero, List.getElem?_cons_succ]; rfl) | rfl) (by kernel_rfl) (by kernel_rfl) (by kernel_rfl) (by exact fun _ _ _ h => h) (Or.inl ⟨by rfl, by (intro w hSw; (try dsimp only at hSw); go_simp; try with_reducible rfl)⟩) (by assumption) ?_
  (try dsimp only [Act.put]); (try go_frame)
  refine wpAnyH_take (i := 33) (v := _) (by first | (simp only [List.getElem?_toArray, List.getElem?_cons_zero, List.getElem?_cons_succ]; rfl) | rfl) (by kernel_rfl) (by kernel_rfl) (by kernel_rfl) (by exact fun _ _ _ h => h) (Or.inl ⟨by rfl, by (intro w hSw; (try dsimp only at hSw); go_simp; try with_reducible rfl)⟩) (by assumption) ?_
  (try dsimp only [Act.put]); (try go_frame)
  refine wpAnyH_ready (rs := [32]) (by kernel_rfl) (by simp) ?_
  refine AllReadyH.cons rfl (fun K hK => ?_) AllReadyH.nil
  go_simp
  (with_reducible refine (h6 _ ?_).mono ?_)
  · exact hT.below B0
  rintro r w28 ⟨rfl, hb28⟩
  clear xF258_0 xF258_1 xF258_2
  replace F2 := F2.keep hb28
  replace B0 := B0.trans (hb28.mono B0.size)
  clear hb28
  obtain ⟨xF259_0, xF259_1, xF259_2⟩ := F2.ce3
  refine hK.out _ _ ?_ (fun hHeld => ?_)
  · exact ⟨xF259_0, xF259_1, xF259_2⟩
  clear hK K
  (try dsimp only [Act.put]); (try go_frame)
  refine wpAnyH_take (i := 34) (v := _) (by first | (simp only [List.getElem?_toArray, List.getElem?_cons_zero, List.getElem?_cons_succ]; rfl) | rfl) (by kernel_rfl) (by kernel_rfl) (by kernel_rfl) (by exact fun _ _ _ h => h) (Or.inl ⟨by rfl, by (intro w hSw; (try dsimp only at hSw); go_simp; try with_reducible rfl)⟩) (by assumption) ?_
  (try dsimp only [Act.put]); (try go_frame)
  refine wpAnyH_take (i := 35) (v := _) (by first | (simp only [List.getElem?_toArray, List.getElem?_cons_zero, List.getElem?_cons_succ]; rfl) | rfl) (by kernel_rfl) (by kernel_rfl) (by kernel_rfl) (by exact fun _ _ _ h => h) (Or.inl ⟨by rfl, by (intro w hSw; (try dsimp only at hSw); go_simp; try with_reducible rfl)⟩) (by assumption) ?_
  (try dsimp only [Act.put]); (try go_frame)
  refine wpAnyH_take (i := 36) (v := _) (by first | (simp only [List.getElem?_toArray, List.getElem?_cons_zero, List.getElem?_cons_succ]; rfl) | rfl) (by kernel_rfl) (by kernel_rfl) (by kernel_rfl) (by exact fun _ _ _ h => h) (Or.inl ⟨by rfl, by (intro w hSw; (try dsimp only at hSw); go_simp; try with_reducible rfl)⟩) (by assumption) ?_
  (try dsimp only [Act.put]); (try go_frame)
  refine wpAnyH_take (i := 37) (v := _) (by first | (simp only [List.getElem?_toArray, List.getElem?_cons_zero, List.getElem?_cons_succ]; rfl) | rfl) (by kernel_rfl) (by kernel_rfl) (by kernel_rfl) (by exact fun _ _ _ h => h) (Or.inl ⟨by rfl, by (intro w hSw; (try dsimp only at hSw); go_simp; try with_reducible rfl)⟩) (by assumption) ?_
  (try dsimp only [Act.put]); (try go_frame)
  refine wpAnyH_done (by kernel_rfl) ?_ _
  try simp only [QCut]
  clear hHeld
  clear xF259_0 xF259_1 xF259_2
  go_wp2_with fail
  (with_reducible refine (h5 _).mono ?_)
  rintro r w29 ⟨rfl, hb29⟩
  replace F2 := F2.keep hb29
  replace B0 := B0.trans (hb29.mono B0.size)
  clear hb29
  go_wp2_with fail
  refine wp_region_any (by kernel_rfl) ?_
  obtain ⟨xF260_0, xF260_1, xF260_2⟩ := F2.ce3
  have hHeld : (fun w' : World => w'.cell? ⟨w.heap.size, 0, none⟩ = some (.bool xn) ∧ w'.cell? ⟨w.heap.size, 1, none⟩ = some (.string xS) ∧ w'.cell? ⟨w.heap.size, 2, none⟩ = some (.string xT)) (w29).drew := ⟨xF260_0, xF260_1, xF260_2⟩
  refine wpAny_of_held (S := fun w' : World => w'.cell? ⟨w.heap.size, 0, none⟩ = some (.bool xn) ∧ w'.cell? ⟨w.heap.size, 1, none⟩ = some (.string xS) ∧ w'.cell? ⟨w.heap.size, 2, none⟩ = some (.string xT)) _ _ _ _ ?_
  replace F2 := F2.drew
  replace B0 := B0.drew
  refine wpAnyH_take (i := 0) (v := _) (by first | (simp only [List.getElem?_toArray, List.getElem?_cons_zero]; rfl) | rfl) (by kernel_rfl) (by kernel_rfl) (by kernel_rfl) (by exact fun _ _ _ h => h) (Or.inl ⟨by rfl, by (intro w hSw; (try dsimp only at hSw); go_simp; try with_reducible rfl)⟩) (by assumption) ?_
  (try dsimp only [Act.put]); (try go_frame)
  refine wpAnyH_take (i := 2) (v := _) (by first | (simp only [List.getElem?_toArray, List.getElem?_cons_zero, List.getElem?_cons_succ]; rfl) | rfl) (by kernel_rfl) (by kernel_rfl) (by kernel_rfl) (by exact fun _ _ _ h => h) (Or.inl ⟨by rfl, by (intro w hSw; (try dsimp only at hSw); go_simp; try with_reducible rfl)⟩) (by assumption) ?_
  (try dsimp only [Act.put]); (try go_frame)
  refine wpAnyH_ready (rs := [1]) (by kernel_rfl) (by simp) ?_
  refine AllReadyH.cons rfl (fun K hK => ?_) AllReadyH.nil
  go_simp
  (with_reducible refine (h6 _ ?_).mono ?_)
  · exact hT.below B0
  rintro r w30 ⟨rfl, hb30⟩
  clear xF260_0 xF260_1 xF260_2
  replace F2 := F2.keep hb30
  replace B0 := B0.trans (hb30.mono B0.size)
  clear hb30
  obtain ⟨xF262_0, xF262_1, xF262_2⟩ := F2.ce3
  refine hK.out _ _ ?_ (fun hHeld => ?_)
  · exact ⟨xF262_0, xF262_1, xF262_2⟩
  clear hK K
  (try dsimp only [Act.put]); (try go_frame)
  refine wpAnyH_ready (rs := [3]) (by kernel_rfl) (by simp) ?_
  refine AllReadyH.cons rfl (fun K hK => ?_) AllReadyH.nil
  go_simp
  (with_reducible refine (h7 _).mono ?_)
  rintro r w31 ⟨rfl, hb31⟩
  clear xF262_0 xF262_1 xF262_2
  replace F2 := F2.keep hb31
  replace B0 := B0.trans (hb31.mono B0.size)
  clear hb31
  obtain ⟨xF263_0, xF263_1, xF263_2⟩ := F2.ce3
  refine hK.out _ _ ?_ (fun hHeld => ?_)
  · exact ⟨xF263_0, xF263_1, xF263_2⟩
  clear hK K
  (try dsimp only [Act.put]); (try go_frame)
  refine wpAnyH_take (i := 4) (v := _) (by first | (simp only [List.getElem?_toArray, List.getElem?_cons_zero, List.getElem?_cons_succ]; rfl) | rfl) (by kernel_rfl) (by kernel_rfl) (by kernel_rfl) (by exact fun _ _ _ h => h) (Or.inl ⟨by rfl, by (intro w hSw; (try dsimp only at hSw); go_simp; try with_reducible rfl)⟩) (by assumption) ?_
  (try dsimp only [Act.put]); (try go_frame)
  refine wpAnyH_take (i := 5) (v := _) (by first | (simp only [List.getElem?_toArray, List.getElem?_cons_zero, List.getElem?_cons_succ]; rfl) | rfl) (by kernel_rfl) (by kernel_rfl) (by kernel_rfl) (by exact fun _ _ _ h => h) (Or.inl ⟨by rfl, by (intro w hSw; (try dsimp only at hSw); go_simp; try with_reducible rfl)⟩) (by assumption) ?_
  (try dsimp only [Act.put]); (try go_frame)
  refine wpAnyH_take (i := 6) (v := _) (by first | (simp only [List.getElem?_toArray, List.getElem?_cons_zero, List.getElem?_cons_succ]; rfl) | rfl) (by kernel_rfl) (by kernel_rfl) (by kernel_rfl) (by exact fun _ _ _ h => h) (Or.inl ⟨by rfl, by (intro w hSw; (try dsimp only at hSw); go_simp; try with_reducible rfl)⟩) (by assumption) ?_
  (try dsimp only [Act.put]); (try go_frame)
  refine wpAnyH_take (i := 7) (v := _) (by first | (simp only [List.getElem?_toArray, List.getElem?_cons_zero, List.getElem?_cons_succ]; rfl) | rfl) (by kernel_rfl) (by kernel_rfl) (by kernel_rfl) (by exact fun _ _ _ h => h) (Or.inl ⟨by rfl, by (intro w hSw; (try dsimp only at hSw); go_simp; try with_reducible rfl)⟩) (by assumption) ?_
  (try dsimp only [Act.put]); (try go_frame)
  refine wpAnyH_take (i := 8) (v := _) (by first | (simp only [List.getElem?_toArray, List.getElem?_cons_zero, List.getElem?_cons_succ]; rfl) | rfl) (by kernel_rfl) (by kernel_rfl) (by kernel_rfl) (by exact fun _ _ _ h => h) (Or.inl ⟨by rfl, by (intro w hSw; (try dsimp only at hSw); go_simp; try with_reducible rfl)⟩) (by assumption) ?_
  (try dsimp only [Act.put]); (try go_frame)
  refine wpAnyH_done (by kernel_rfl) ?_ _
  try simp only [QCut]
  clear hHeld
  clear xF263_0 xF263_1 xF263_2
  go_wp2_with fail
  (with_reducible refine (h5c _).mono ?_)
  rintro r w32 ⟨rfl, hb32⟩
  replace F2 := F2.keep hb32
  replace B0 := B0.trans (hb32.mono B0.size)
  clear hb32
  go_wp2_with fail
  refine wp_region_any (by kernel_rfl) ?_
  obtain ⟨xF264_0, xF264_1, xF264_2⟩ := F2.ce3
  have hHeld : (fun w' : World => w'.cell? ⟨w.heap.size, 0, none⟩ = some (.bool xn) ∧ w'.cell? ⟨w.heap.size, 1, none⟩ = some (.string xS) ∧ w'.cell? ⟨w.heap.size, 2, none⟩ = some (.string xT)) (w32).drew := ⟨xF264_0, xF264_1, xF264_2⟩
  refine wpAny_of_held (S := fun w' : World => w'.cell? ⟨w.heap.size, 0, none⟩ = some (.bool xn) ∧ w'.cell? ⟨w.heap.size, 1, none⟩ = some (.string xS) ∧ w'.cell? ⟨w.heap.size, 2, none⟩ = some (.string xT)) _ _ _ _ ?_
  replace F2 := F2.drew
  replace B0 := B0.drew
  refine wpAnyH_take (i := 0) (v := _) (by first | (simp only [List.getElem?_toArray, List.getElem?_cons_zero]; rfl) | rfl) (by kernel_rfl) (by kernel_rfl) (by kernel_rfl) (by exact fun _ _ _ h => h) (Or.inl ⟨by rfl, by (intro w hSw; (try dsimp only at hSw); go_simp; try with_reducible rfl)⟩) (by assumption) ?_
  (try dsimp only [Act.put]); (try go_frame)
  refine wpAnyH_take (i := 1) (v := _) (by first | (simp only [List.getElem?_toArray, List.getElem?_cons_zero, List.getElem?_cons_succ]; rfl) | rfl) (by kernel_rfl) (by kernel_rfl) (by kernel_rfl) (by exact fun _ _ _ h => h) (Or.inl ⟨by rfl, by (intro w hSw; (try dsimp only at hSw); go_simp; try with_reducible rfl)⟩) (by assumption) ?_
  (try dsimp only [Act.put]); (try go_frame)
  refine wpAnyH_ready (rs := [2]) (by kernel_rfl) (by simp) ?_
  refine AllReadyH.cons rfl (fun K hK => ?_) AllReadyH.nil
  go_simp
  (with_reducible refine (h6c _ ?_).mono ?_)
  · exact hT.below B0
  rintro r w33 ⟨rfl, hb33⟩
  clear xF264_0 xF264_1 xF264_2
  replace F2 := F2.keep hb33
  replace B0 := B0.trans (hb33.mono B0.size)
  clear hb33
  obtain ⟨xF266_0, xF266_1, xF266_2⟩ := F2.ce3
  refine hK.out _ _ ?_ (fun hHeld => ?_)
  · exact ⟨xF266_0, xF266_1, xF266_2⟩
  clear hK K
  (try dsimp only [Act.put]); (try go_frame)
  refine wpAnyH_ready (rs := [3]) (by kernel_rfl) (by simp) ?_
  refine AllReadyH.cons rfl (fun K hK => ?_) AllReadyH.nil
  go_simp
  (with_reducible refine (h8 _).mono ?_)
  rintro r w34 ⟨rfl, hb34⟩
  clear xF266_0 xF266_1 xF266_2
  replace F2 := F2.keep hb34
  replace B0 := B0.trans (hb34.mono B0.size)
  clear hb34
  obtain ⟨xF267_0, xF267_1, xF267_2⟩ := F2.ce3
  refine hK.out _ _ ?_ (fun hHeld => ?_)
  · exact ⟨xF267_0, xF267_1, xF267_2⟩
  clear hK K
  (try dsimp only [Act.put]); (try go_frame)
  refine wpAnyH_take (i := 4) (v := _) (by first | (simp only [List.getElem?_toArray, List.getElem?_cons_zero, List.getElem?_cons_succ]; rfl) | rfl) (by kernel_rfl) (by kernel_rfl) (by kernel_rfl) (by exact fun _ _ _ h => h) (Or.inl ⟨by rfl, by (intro w hSw; (try dsimp only at hSw); go_simp; try with_reducible rfl)⟩) (by assumption) ?_
  (try dsimp only [Act.put]); (try go_frame)
  refine wpAnyH_take (i := 5) (v := _) (by first | (simp only [List.getElem?_toArray, List.getElem?_cons_zero, List.getElem?_cons_succ]; rfl) | rfl) (by kernel_rfl) (by kernel_rfl) (by kernel_rfl) (by exact fun _ _ _ h => h) (Or.inl ⟨by rfl, by (intro w hSw; (try dsimp only at hSw); go_simp; try with_reducible rfl)⟩) (by assumption) ?_
  (try dsimp only [Act.put]); (try go_frame)
  refine wpAnyH_take (i := 6) (v := _) (by first | (simp only [List.getElem?_toArray, List.getElem?_cons_zero, List.getElem?_cons_succ]; rfl) | rfl) (by kernel_rfl) (by kernel_rfl) (by kernel_rfl) (by exact fun _ _ _ h => h) (Or.inl ⟨by rfl, by (intro w hSw; (try dsimp only at hSw); go_simp; try with_reducible rfl)⟩) (by assumption) ?_
  (try dsimp only [Act.put]); (try go_frame)
  refine wpAnyH_take (i := 7) (v := _) (by first | (simp only [List.getElem?_toArray, List.getElem?_cons_zero, List.getElem?_cons_succ]; rfl) | rfl) (by kernel_rfl) (by kernel_rfl) (by kernel_rfl) (by exact fun _ _ _ h => h) (Or.inl ⟨by rfl, by (intro w hSw; (try dsimp only at hSw); go_simp; try with_reducible rfl)⟩) (by assumption) ?_
  (try dsimp only [Act.put]); (try go_frame)
  refine wpAnyH_take (i := 8) (v := _) (by first | (simp only [List.getElem?_toArray, List.getElem?_cons_zero, List.getElem?_cons_succ]; rfl) | rfl) (by kernel_rfl) (by kernel_rfl) (by kernel_rfl) (by exact fun _ _ _ h => h) (Or.inl ⟨by rfl, by (intro w hSw; (try dsimp only at hSw); go_simp; try with_reducible rfl)⟩) (by assumption) ?_
  (try dsimp only [Act.put]); (try go_frame)
  refine wpAnyH_done (by kernel_rfl) ?_ _
  try simp only [QCut]
  clear hHeld
  clear xF267_0 xF267_1 xF267_2
  go_wp2_with fail
  (with_reducible refine (h5 _).mono ?_)
  rintro r w35 ⟨rfl, hb35⟩
  replace F2 := F2.keep hb35
  replace B0 := B0.trans (hb35.mono B0.size)
  clear hb35
  go_wp2_with fail
  (with_reducible refine (h5c _).mono ?_)
  rintro r w36 ⟨rfl, hb36⟩
  replace F2 := F2.keep hb36
  replace B0 := B0.trans (hb36.mono B0.size)
  clear hb36
  go_upto_region 26 with fail
  go_cut [2, 13, 15, 17, 23] (fun s2 s13 s15 s17 s23 wx => ∃ S23, s2 = .pointer (some ⟨w.heap.size, 0, none⟩) ∧ s13 = .float .f64 n ∧ s15 = .float .f64 b ∧ s17 = .float .f64 c ∧ s23 = .pointer (some ⟨S23, 0, none⟩) ∧ Blk wx (w.heap.size) #[.bool xn, .string xS, .string xT] 24 ∧ Blk wx S23 #[.bool pn, .string pS, .string pT] 24 ∧ Below w.heap.size w wx)
  case first =>
    go_wp2_with fail
    refine wp_region_any (by kernel_rfl) ?_
    obtain ⟨xF269_0, xF269_1, xF269_2⟩ := F2.ce3
    have hHeld : (fun w' : World => w'.cell? ⟨w.heap.size, 0, none⟩ = some (.bool xn) ∧ w'.cell? ⟨w.heap.size, 1, none⟩ = some (.string xS) ∧ w'.cell? ⟨w.heap.size, 2, none⟩ = some (.string xT)) (w36).drew := ⟨xF269_0, xF269_1, xF269_2⟩
    refine wpAny_of_held (S := fun w' : World => w'.cell? ⟨w.heap.size, 0, none⟩ = some (.bool xn) ∧ w'.cell? ⟨w.heap.size, 1, none⟩ = some (.string xS) ∧ w'.cell? ⟨w.heap.size, 2, none⟩ = some (.string xT)) _ _ _ _ ?_
    replace F2 := F2.drew
    replace B0 := B0.drew
    refine wpAnyH_take (i := 0) (v := _) (by first | (simp only [List.getElem?_toArray, List.getElem?_cons_zero]; rfl) | rfl) (by kernel_rfl) (by kernel_rfl) (by kernel_rfl) (by exact fun _ _ _ h => h) (Or.inl ⟨by rfl, by (intro w hSw; (try dsimp only at hSw); go_simp; try with_reducible rfl)⟩) (by assumption) ?_
    (try dsimp only [Act.put]); (try go_frame)
    refine wpAnyH_take (i := 1) (v := _) (by first | (simp only [List.getElem?_toArray, List.getElem?_cons_zero, List.getElem?_cons_succ]; rfl) | rfl) (by kernel_rfl) (by kernel_rfl) (by kernel_rfl) (by exact fun _ _ _ h => h) (Or.inl ⟨by rfl, by (intro w hSw; (try dsimp only at hSw); go_simp; try with_reducible rfl)⟩) (by assumption) ?_
    (try dsimp only [Act.put]); (try go_frame)
    refine wpAnyH_ready (rs := [2, 7]) (by kernel_rfl) (by simp) ?_
    refine AllReadyH.cons rfl (fun K hK => ?_) (AllReadyH.cons rfl (fun K hK => ?_) AllReadyH.nil)
    · go_simp
      (with_reducible refine (h6 _ ?_).mono ?_)
      · exact hT.below B0
      rintro r w37 ⟨rfl, hb37⟩
      clear xF269_0 xF269_1 xF269_2
      replace F2 := F2.keep hb37
      replace B0 := B0.trans (hb37.mono B0.size)
      clear hb37
      obtain ⟨xF271_0, xF271_1, xF271_2⟩ := F2.ce3
      refine hK.out _ _ ?_ (fun hHeld => ?_)
      · exact ⟨xF271_0, xF271_1, xF271_2⟩
      clear hK K
      (try dsimp only [Act.put]); (try go_frame)
      refine wpAnyH_ready (rs := [3, 7]) (by kernel_rfl) (by simp) ?_
      refine AllReadyH.cons rfl (fun K hK => ?_) (AllReadyH.cons rfl (fun K hK => ?_) AllReadyH.nil)
      · go_simp
        (with_reducible refine (h9 _).mono ?_)
        rintro r w38 ⟨rfl, hb38⟩
        clear xF271_0 xF271_1 xF271_2
        replace F2 := F2.keep hb38
        replace B0 := B0.trans (hb38.mono B0.size)
        clear hb38
        obtain ⟨xF272_0, xF272_1, xF272_2⟩ := F2.ce3
        refine hK.out _ _ ?_ (fun hHeld => ?_)
        · exact ⟨xF272_0, xF272_1, xF272_2⟩
        clear hK K
        (try dsimp only [Act.put]); (try go_frame)
        refine wpAnyH_take (i := 4) (v := _) (by first | (simp only [List.getElem?_toArray, List.getElem?_cons_zero, List.getElem?_cons_succ]; rfl) | rfl) (by kernel_rfl) (by kernel_rfl) (by kernel_rfl) (by exact fun _ _ _ h => h) (Or.inl ⟨by rfl, by (intro w hSw; (try dsimp only at hSw); go_simp; try with_reducible rfl)⟩) (by assumption) ?_
        (try dsimp only [Act.put]); (try go_frame)
        refine wpAnyH_take (i := 5) (v := _) (by first | (simp only [List.getElem?_toArray, List.getElem?_cons_zero, List.getElem?_cons_succ]; rfl) | rfl) (by kernel_rfl) (by kernel_rfl) (by kernel_rfl) (by exact fun _ _ _ h => h) (Or.inl ⟨by rfl, by (intro w hSw; (try dsimp only at hSw); go_simp; try with_reducible rfl)⟩) (by assumption) ?_
        (try dsimp only [Act.put]); (try go_frame)
        refine wpAnyH_take (i := 6) (v := _) (by first | (simp only [List.getElem?_toArray, List.getElem?_cons_zero, List.getElem?_cons_succ]; rfl) | rfl) (by kernel_rfl) (by kernel_rfl) (by kernel_rfl) (by exact fun _ _ _ h => h) (Or.inl ⟨by rfl, by (intro w hSw; (try dsimp only at hSw); go_simp; try with_reducible rfl)⟩) (by assumption) ?_
        (try dsimp only [Act.put]); (try go_frame)
        refine wpAnyH_ready (rs := [7]) (by kernel_rfl) (by simp) ?_
        refine AllReadyH.cons rfl (fun K hK => ?_) AllReadyH.nil
        go_simp
        obtain ⟨zF20, zF21, zF22⟩ := (F2.allocd (.cells #[.bool false, .string { data := #[] }, .string { data := #[] }] 24)).ce3
        clear xF272_0 xF272_1 xF272_2
        refine hK.out _ _ ?_ (fun hHeld => ?_)
        · exact ⟨zF20, zF21, zF22⟩
        clear hK K
        (try dsimp only [Act.put]); (try go_frame)
        clear zF20 zF21 zF22
        refine wpAnyH_ready (rs := [8]) (by kernel_rfl) (by simp) ?_
        refine AllReadyH.cons rfl (fun K hK => ?_) AllReadyH.nil
        go_simp
        have q_w_F23 : Hid (w.heap.size ≤ w38.heap.size) := Lib.hid (by have := B0.size; first | exact this | omega | (simp; done) | simpa using this)
        replace F2 := F2.allocd (.cells #[.bool pn, .string pS, .string pT] 24)
        have F23 := Blk.put (w38) #[.bool pn, .string pS, .string pT] 24
        replace B0 := B0.alloc B0.size (.cells #[.bool pn, .string pS, .string pT] 24)
        obtain ⟨xF273_0, xF273_1, xF273_2⟩ := F2.ce3
        refine hK.out _ _ ?_ (fun hHeld => ?_)
        · exact ⟨xF273_0, xF273_1, xF273_2⟩
        clear hK K
        (try dsimp only [Act.put]); (try go_frame)
        refine wpAnyH_take (i := 9) (v := _) (by first | (simp only [List.getElem?_toArray, List.getElem?_cons_zero, List.getElem?_cons_succ]; rfl) | rfl) (by kernel_rfl) (by kernel_rfl) (by kernel_rfl) (by exact fun _ _ _ h => h) (Or.inl ⟨by rfl, by (intro w hSw; (try dsimp only at hSw); go_simp; try with_reducible rfl)⟩) (by assumption) ?_
        (try dsimp only [Act.put]); (try go_frame)
        refine wpAnyH_done (by kernel_rfl) ?_ _
        try simp only [QCut]
        clear hHeld
        clear xF273_0 xF273_1 xF273_2
        go_wp2_with fail
        go_meet
        exact ⟨_, by first | rfl | simp, by first | rfl | simp, by first | rfl | simp, by first | rfl | simp, by first | rfl | simp, F2, F23, B0⟩
      · go_simp
        clear xF271_0 xF271_1 xF271_2
        have q_F2_F23 : Hid (w.heap.size < w37.heap.size) := Lib.hid (by have := F2.lt; first | exact this | omega | (simp; done) | simpa using this)
        have q_w_F23 : Hid (w.heap.size ≤ w37.heap.size) := Lib.hid (by have := B0.size; first | exact this | omega | (simp; done) | simpa using this)
        replace F2 := F2.allocd (.cells #[.bool false, .string { data := #[] }, .string { data := #[] }] 24)
        have F23 := Blk.put (w37) #[.bool false, .string { data := #[] }, .string { data := #[] }] 24
        replace B0 := B0.alloc B0.size (.cells #[.bool false, .string { data := #[] }, .string { data := #[] }] 24)
        obtain ⟨xF272_0, xF272_1, xF272_2⟩ := F2.ce3
        refine hK.out _ _ ?_ (fun hHeld => ?_)
        · exact ⟨xF272_0, xF272_1, xF272_2⟩
        clear hK K
        (try dsimp only [Act.put]); (try go_frame)
        refine wpAnyH_ready (rs := [3]) (by kernel_rfl) (by simp) ?_
        refine AllReadyH.cons rfl (fun K hK => ?_) AllReadyH.nil
        go_simp
        (with_reducible refine (h9 _).mono ?_)
        rintro r w38 ⟨rfl, hb38⟩
        clear xF272_0 xF272_1 xF272_2
        replace F2 := F2.keep hb38
        replace F23 := F23.keep hb38
        replace B0 := B0.trans (hb38.mono B0.size)
        clear hb38
        obtain ⟨xF273_0, xF273_1, xF273_2⟩ := F2.ce3
        refine hK.out _ _ ?_ (fun hHeld => ?_)
        · exact ⟨xF273_0, xF273_1, xF273_2⟩
        clear hK K
        (try dsimp only [Act.put]); (try go_frame)
        refine wpAnyH_take (i := 4) (v := _) (by first | (simp only [List.getElem?_toArray, List.getElem?_cons_zero, List.getElem?_cons_succ]; rfl) | rfl) (by kernel_rfl) (by kernel_rfl) (by kernel_rfl) (by exact fun _ _ _ h => h) (Or.inl ⟨by rfl, by (intro w hSw; (try dsimp only at hSw); go_simp; try with_reducible rfl)⟩) (by assumption) ?_
        (try dsimp only [Act.put]); (try go_frame)
        refine wpAnyH_take (i := 5) (v := _) (by first | (simp only [List.getElem?_toArray, List.getElem?_cons_zero, List.getElem?_cons_succ]; rfl) | rfl) (by kernel_rfl) (by kernel_rfl) (by kernel_rfl) (by exact fun _ _ _ h => h) (Or.inl ⟨by rfl, by (intro w hSw; (try dsimp only at hSw); go_simp; try with_reducible rfl)⟩) (by assumption) ?_
        (try dsimp only [Act.put]); (try go_frame)
        refine wpAnyH_take (i := 6) (v := _) (by first | (simp only [List.getElem?_toArray, List.getElem?_cons_zero, List.getElem?_cons_succ]; rfl) | rfl) (by kernel_rfl) (by kernel_rfl) (by kernel_rfl) (by exact fun _ _ _ h => h) (Or.inl ⟨by rfl, by (intro w hSw; (try dsimp only at hSw); go_simp; try with_reducible rfl)⟩) (by assumption) ?_
        (try dsimp only [Act.put]); (try go_frame)
        obtain ⟨xF2373_0, xF2373_1, xF2373_2⟩ := F23.ce3
        obtain ⟨xF2373_0f, xF2373_1f, xF2373_2f⟩ := F23.fr3
        refine wpAnyH_ready (rs := [8]) (by kernel_rfl) (by simp) ?_
        refine AllReadyH.cons rfl (fun K hK => ?_) AllReadyH.nil
        go_simp
        replace F2 := (((F2.far 0 (.bool pn) (Nat.ne_of_lt q_F2_F23.out)).far 1 (.string pS) (Nat.ne_of_lt q_F2_F23.out)).far 2 (.string pT) (Nat.ne_of_lt q_F2_F23.out))
        replace F23 : Blk ((((w38).setCell ⟨w37.heap.size, 0, none⟩ (.bool pn)).setCell ⟨w37.heap.size, 1, none⟩ (.string pS)).setCell ⟨w37.heap.size, 2, none⟩ (.string pT)) (w37.heap.size) #[.bool pn, .string pS, .string pT] 24 := (((F23.setAt 0 (.bool pn)).setAt 1 (.string pS)).setAt 2 (.string pT))
        replace B0 := (((B0.setCell (p := ⟨w37.heap.size, 0, none⟩) q_w_F23.out (.bool pn)).setCell (p := ⟨w37.heap.size, 1, none⟩) q_w_F23.out (.string pS)).setCell (p := ⟨w37.heap.size, 2, none⟩) q_w_F23.out (.string pT))
        clear xF273_0 xF273_1 xF273_2 xF2373_0 xF2373_1 xF2373_2 xF2373_0f xF2373_1f xF2373_2f
        obtain ⟨xF274_0, xF274_1, xF274_2⟩ := F2.ce3
        refine hK.out _ _ ?_ (fun hHeld => ?_)
        · exact ⟨xF274_0, xF274_1, xF274_2⟩
        clear hK K
        (try dsimp only [Act.put]); (try go_frame)
        refine wpAnyH_take (i := 9) (v := _) (by first | (simp only [List.getElem?_toArray, List.getElem?_cons_zero, List.getElem?_cons_succ]; rfl) | rfl) (by kernel_rfl) (by kernel_rfl) (by kernel_rfl) (by exact fun _ _ _ h => h) (Or.inl ⟨by rfl, by (intro w hSw; (try dsimp only at hSw); go_simp; try with_reducible rfl)⟩) (by assumption) ?_
        (try dsimp only [Act.put]); (try go_frame)
        refine wpAnyH_done (by kernel_rfl) ?_ _
        try simp only [QCut]
        clear hHeld
        clear xF274_0 xF274_1 xF274_2
        go_wp2_with fail
        go_meet
        exact ⟨_, by first | rfl | simp, by first | rfl | simp, by first | rfl | simp, by first | rfl | simp, by first | rfl | simp, F2, F23, B0⟩
    · go_simp
      clear xF269_0 xF269_1 xF269_2
      have q_F2_F23 : Hid (w.heap.size < w36.heap.size) := Lib.hid (by have := F2.lt; first | exact this | omega | (simp; done) | simpa using this)
      have q_w_F23 : Hid (w.heap.size ≤ w36.heap.size) := Lib.hid (by have := B0.size; first | exact this | omega | (simp; done) | simpa using this)
      replace F2 := F2.allocd (.cells #[.bool false, .string { data := #[] }, .string { data := #[] }] 24)
      have F23 := Blk.put ((w36).drew) #[.bool false, .string { data := #[] }, .string { data := #[] }] 24
      rw [show ((w36).drew).heap.size = w36.heap.size by simp] at F23
      replace B0 := B0.alloc B0.size (.cells #[.bool false, .string { data := #[] }, .string { data := #[] }] 24)
      obtain ⟨xF271_0, xF271_1, xF271_2⟩ := F2.ce3
      refine hK.out _ _ ?_ (fun hHeld => ?_)
      · exact ⟨xF271_0, xF271_1, xF271_2⟩
      clear hK K
      (try dsimp only [Act.put]); (try go_frame)
      refine wpAnyH_ready (rs := [2]) (by kernel_rfl) (by simp) ?_
      refine AllReadyH.cons rfl (fun K hK => ?_) AllReadyH.nil
      go_simp
      (with_reducible refine (h6 _ ?_).mono ?_)
      · exact hT.below B0
      rintro r w37 ⟨rfl, hb37⟩
      clear xF271_0 xF271_1 xF271_2
      replace F2 := F2.keep hb37
      replace F23 := F23.keep hb37
      replace B0 := B0.trans (hb37.mono B0.size)
      clear hb37
      obtain ⟨xF272_0, xF272_1, xF272_2⟩ := F2.ce3
      refine hK.out _ _ ?_ (fun hHeld => ?_)
      · exact ⟨xF272_0, xF272_1, xF272_2⟩
      clear hK K
      (try dsimp only [Act.put]); (try go_frame)
      refine wpAnyH_ready (rs := [3]) (by kernel_rfl) (by simp) ?_
      refine AllReadyH.cons rfl (fun K hK => ?_) AllReadyH.nil
      go_simp
      (with_reducible refine (h9 _).mono ?_)
      rintro r w38 ⟨rfl, hb38⟩
      clear xF272_0 xF272_1 xF272_2
      replace F2 := F2.keep hb38
      replace F23 := F23.keep hb38
      replace B0 := B0.trans (hb38.mono B0.size)
      clear hb38
      obtain ⟨xF273_0, xF273_1, xF273_2⟩ := F2.ce3
      refine hK.out _ _ ?_ (fun hHeld => ?_)
      · exact ⟨xF273_0, xF273_1, xF273_2⟩
      clear hK K
      (try dsimp only [Act.put]); (try go_frame)
      refine wpAnyH_take (i := 4) (v := _) (by first | (simp only [List.getElem?_toArray, List.getElem?_cons_zero, List.getElem?_cons_succ]; rfl) | rfl) (by kernel_rfl) (by kernel_rfl) (by kernel_rfl) (by exact fun _ _ _ h => h) (Or.inl ⟨by rfl, by (intro w hSw; (try dsimp only at hSw); go_simp; try with_reducible rfl)⟩) (by assumption) ?_
      (try dsimp only [Act.put]); (try go_frame)
      refine wpAnyH_take (i := 5) (v := _) (by first | (simp only [List.getElem?_toArray, List.getElem?_cons_zero, List.getElem?_cons_succ]; rfl) | rfl) (by kernel_rfl) (by kernel_rfl) (by kernel_rfl) (by exact fun _ _ _ h => h) (Or.inl ⟨by rfl, by (intro w hSw; (try dsimp only at hSw); go_simp; try with_reducible rfl)⟩) (by assumption) ?_
      (try dsimp only [Act.put]); (try go_frame)
      refine wpAnyH_take (i := 6) (v := _) (by first | (simp only [List.getElem?_toArray, List.getElem?_cons_zero, List.getElem?_cons_succ]; rfl) | rfl) (by kernel_rfl) (by kernel_rfl) (by kernel_rfl) (by exact fun _ _ _ h => h) (Or.inl ⟨by rfl, by (intro w hSw; (try dsimp only at hSw); go_simp; try with_reducible rfl)⟩) (by assumption) ?_
      (try dsimp only [Act.put]); (try go_frame)
      obtain ⟨xF2373_0, xF2373_1, xF2373_2⟩ := F23.ce3
      obtain ⟨xF2373_0f, xF2373_1f, xF2373_2f⟩ := F23.fr3
      refine wpAnyH_ready (rs := [8]) (by kernel_rfl) (by simp) ?_
      refine AllReadyH.cons rfl (fun K hK => ?_) AllReadyH.nil
      go_simp
      replace F2 := (((F2.far 0 (.bool pn) (Nat.ne_of_lt q_F2_F23.out)).far 1 (.string pS) (Nat.ne_of_lt q_F2_F23.out)).far 2 (.string pT) (Nat.ne_of_lt q_F2_F23.out))
      replace F23 : Blk ((((w38).setCell ⟨w36.heap.size, 0, none⟩ (.bool pn)).setCell ⟨w36.heap.size, 1, none⟩ (.string pS)).setCell ⟨w36.heap.size, 2, none⟩ (.string pT)) (w36.heap.size) #[.bool pn, .string pS, .string pT] 24 := (((F23.setAt 0 (.bool pn)).setAt 1 (.string pS)).setAt 2 (.string pT))
      replace B0 := (((B0.setCell (p := ⟨w36.heap.size, 0, none⟩) q_w_F23.out (.bool pn)).setCell (p := ⟨w36.heap.size, 1, none⟩) q_w_F23.out (.string pS)).setCell (p := ⟨w36.heap.size, 2, none⟩) q_w_F23.out (.string pT))
      clear xF273_0 xF273_1 xF273_2 xF2373_0 xF2373_1 xF2373_2 xF2373_0f xF2373_1f xF2373_2f
      obtain ⟨xF274_0, xF274_1, xF274_2⟩ := F2.ce3
      refine hK.out _ _ ?_ (fun hHeld => ?_)
      · exact ⟨xF274_0, xF274_1, xF274_2⟩
      clear hK K
      (try dsimp only [Act.put]); (try go_frame)
      refine wpAnyH_take (i := 9) (v := _) (by first | (simp only [List.getElem?_toArray, List.getElem?_cons_zero, List.getElem?_cons_succ]; rfl) | rfl) (by kernel_rfl) (by kernel_rfl) (by kernel_rfl) (by exact fun _ _ _ h => h) (Or.inl ⟨by rfl, by (intro w hSw; (try dsimp only at hSw); go_simp; try with_reducible rfl)⟩) (by assumption) ?_
      (try dsimp only [Act.put]); (try go_frame)
      refine wpAnyH_done (by kernel_rfl) ?_ _
      try simp only [QCut]
      clear hHeld
      clear xF274_0 xF274_1 xF274_2
      go_wp2_with fail
      go_meet
      exact ⟨_, by first | rfl | simp, by first | rfl | simp, by first | rfl | simp, by first | rfl | simp, by first | rfl | simp, F2, F23, B0⟩
  case rest =>
    clear B0
    clear F2
    obtain ⟨S23, rfl, rfl, rfl, rfl, rfl, F2, F23, B0⟩ := hcut
    generalize wc = v11 at *
    go_upto_region 27 with fail
    go_cut [13, 15, 23, 25] (fun s13 s15 s23 s25 wx => ∃ S25, s13 = .float .f64 n ∧ s15 = .float .f64 b ∧ s23 = .pointer (some ⟨S23, 0, none⟩) ∧ s25 = .pointer (some ⟨S25, 0, none⟩) ∧ Blk wx (S23) #[.bool pn, .string pS, .string pT] 24 ∧ Blk wx S25 #[.bool qn, .string qS, .string qT] 24 ∧ Below w.heap.size w wx)
    case first =>
      go_wp2_with fail
      refine wp_region_any (by kernel_rfl) ?_
      obtain ⟨xF270_0, xF270_1, xF270_2⟩ := F2.ce3
      have hHeld : (fun w' : World => w'.cell? ⟨w.heap.size, 0, none⟩ = some (.bool xn) ∧ w'.cell? ⟨w.heap.size, 1, none⟩ = some (.string xS) ∧ w'.cell? ⟨w.heap.size, 2, none⟩ = some (.string xT)) (v11).drew := ⟨xF270_0, xF270_1, xF270_2⟩
      refine wpAny_of_held (S := fun w' : World => w'.cell? ⟨w.heap.size, 0, none⟩ = some (.bool xn) ∧ w'.cell? ⟨w.heap.size, 1, none⟩ = some (.string xS) ∧ w'.cell? ⟨w.heap.size, 2, none⟩ = some (.string xT)) _ _ _ _ ?_
      replace F2 := F2.drew
      replace F23 := F23.drew
      replace B0 := B0.drew
      refine wpAnyH_take (i := 0) (v := _) (by first | (simp only [List.getElem?_toArray, List.getElem?_cons_zero]; rfl) | rfl) (by kernel_rfl) (by kernel_rfl) (by kernel_rfl) (by exact fun _ _ _ h => h) (Or.inl ⟨by rfl, by (intro w hSw; (try dsimp only at hSw); go_simp; try with_reducible rfl)⟩) (by assumption) ?_
      (try dsimp only [Act.put]); (try go_frame)
      refine wpAnyH_take (i := 2) (v := _) (by first | (simp only [List.getElem?_toArray, List.getElem?_cons_zero, List.getElem?_cons_succ]; rfl) | rfl) (by kernel_rfl) (by kernel_rfl) (by kernel_rfl) (by exact fun _ _ _ h => h) (Or.inl ⟨by rfl, by (intro w hSw; (try dsimp only at hSw); go_simp; try with_reducible rfl)⟩) (by assumption) ?_
      (try dsimp only [Act.put]); (try go_frame)
      refine wpAnyH_ready (rs := [1, 7]) (by kernel_rfl) (by simp) ?_
      refine AllReadyH.cons rfl (fun K hK => ?_) (AllReadyH.cons rfl (fun K hK => ?_) AllReadyH.nil)
      · go_simp
        (with_reducible refine (h6c _ ?_).mono ?_)
        · exact hT.below B0
        rintro r w37 ⟨rfl, hb37⟩
        clear xF270_0 xF270_1 xF270_2
        replace F2 := F2.keep hb37
        replace F23 := F23.keep hb37
        replace B0 := B0.trans (hb37.mono B0.size)
        clear hb37
        obtain ⟨xF272_0, xF272_1, xF272_2⟩ := F2.ce3
        refine hK.out _ _ ?_ (fun hHeld => ?_)
        · exact ⟨xF272_0, xF272_1, xF272_2⟩
        clear hK K
        (try dsimp only [Act.put]); (try go_frame)
        refine wpAnyH_ready (rs := [3, 7]) (by kernel_rfl) (by simp) ?_
        refine AllReadyH.cons rfl (fun K hK => ?_) (AllReadyH.cons rfl (fun K hK => ?_) AllReadyH.nil)
        · go_simp
          (with_reducible refine (h10 _).mono ?_)
          rintro r w38 ⟨rfl, hb38⟩
          clear xF272_0 xF272_1 xF272_2
          replace F2 := F2.keep hb38
          replace F23 := F23.keep hb38
          replace B0 := B0.trans (hb38.mono B0.size)
          clear hb38
          obtain ⟨xF273_0, xF273_1, xF273_2⟩ := F2.ce3
          refine hK.out _ _ ?_ (fun hHeld => ?_)
          · exact ⟨xF273_0, xF273_1, xF273_2⟩
          clear hK K
          (try dsimp only [Act.put]); (try go_frame)
          refine wpAnyH_take (i := 4) (v := _) (by first | (simp only [List.getElem?_toArray, List.getElem?_cons_zero, List.getElem?_cons_succ]; rfl) | rfl) (by kernel_rfl) (by kernel_rfl) (by kernel_rfl) (by exact fun _ _ _ h => h) (Or.inl ⟨by rfl, by (intro w hSw; (try dsimp only at hSw); go_simp; try with_reducible rfl)⟩) (by assumption) ?_
          (try dsimp only [Act.put]); (try go_frame)
          refine wpAnyH_take (i := 5) (v := _) (by first | (simp only [List.getElem?_toArray, List.getElem?_cons_zero, List.getElem?_cons_succ]; rfl) | rfl) (by kernel_rfl) (by kernel_rfl) (by kernel_rfl) (by exact fun _ _ _ h => h) (Or.inl ⟨by rfl, by (intro w hSw; (try dsimp only at hSw); go_simp; try with_reducible rfl)⟩) (by assumption) ?_
          (try dsimp only [Act.put]); (try go_frame)
          refine wpAnyH_take (i := 6) (v := _) (by first | (simp only [List.getElem?_toArray, List.getElem?_cons_zero, List.getElem?_cons_succ]; rfl) | rfl) (by kernel_rfl) (by kernel_rfl) (by kernel_rfl) (by exact fun _ _ _ h => h) (Or.inl ⟨by rfl, by (intro w hSw; (try dsimp only at hSw); go_simp; try with_reducible rfl)⟩) (by assumption) ?_
          (try dsimp only [Act.put]); (try go_frame)
          refine wpAnyH_ready (rs := [7]) (by kernel_rfl) (by simp) ?_
          refine AllReadyH.cons rfl (fun K hK => ?_) AllReadyH.nil
          go_simp
          obtain ⟨zF20, zF21, zF22⟩ := (F2.allocd (.cells #[.bool false, .string { data := #[] }, .string { data := #[] }] 24)).ce3
          clear xF273_0 xF273_1 xF273_2
          refine hK.out _ _ ?_ (fun hHeld => ?_)
          · exact ⟨zF20, zF21, zF22⟩
          clear hK K
          (try dsimp only [Act.put]); (try go_frame)
          clear zF20 zF21 zF22
          refine wpAnyH_ready (rs := [8]) (by kernel_rfl) (by simp) ?_
          refine AllReadyH.cons rfl (fun K hK => ?_) AllReadyH.nil
          go_simp
          have q_w_F25 : Hid (w.heap.size ≤ w38.heap.size) := Lib.hid (by have := B0.size; first | exact this | omega | (simp; done) | simpa using this)
          replace F2 := F2.allocd (.cells #[.bool qn, .string qS, .string qT] 24)
          replace F23 := F23.allocd (.cells #[.bool qn, .string qS, .string qT] 24)
          have F25 := Blk.put (w38) #[.bool qn, .string qS, .string qT] 24
          replace B0 := B0.alloc B0.size (.cells #[.bool qn, .string qS, .string qT] 24)
          obtain ⟨xF274_0, xF274_1, xF274_2⟩ := F2.ce3
          refine hK.out _ _ ?_ (fun hHeld => ?_)
          · exact ⟨xF274_0, xF274_1, xF274_2⟩
          clear hK K
          (try dsimp only [Act.put]); (try go_frame)
          refine wpAnyH_take (i := 9) (v := _) (by first | (simp only [List.getElem?_toArray, List.getElem?_cons_zero, List.getElem?_cons_succ]; rfl) | rfl) (by kernel_rfl) (by kernel_rfl) (by kernel_rfl) (by exact fun _ _ _ h => h) (Or.inl ⟨by rfl, by (intro w hSw; (try dsimp only at hSw); go_simp; try with_reducible rfl)⟩) (by assumption) ?_
          (try dsimp only [Act.put]); (try go_frame)
          refine wpAnyH_done (by kernel_rfl) ?_ _
          try simp only [QCut]
          clear hHeld
          clear xF274_0 xF274_1 xF274_2
          go_wp2_with fail
          go_meet
          exact ⟨_, by first | rfl | simp, by first | rfl | simp, by first | rfl | simp, by first | rfl | simp, F23, F25, B0⟩
        · go_simp
          clear xF272_0 xF272_1 xF272_2
          have q_F2_F25 : Hid (w.heap.size < w37.heap.size) := Lib.hid (by have := F2.lt; first | exact this | omega | (simp; done) | simpa using this)
          have q_F23_F25 : Hid (S23 < w37.heap.size) := Lib.hid (by have := F23.lt; first | exact this | omega | (simp; done) | simpa using this)
          have q_w_F25 : Hid (w.heap.size ≤ w37.heap.size) := Lib.hid (by have := B0.size; first | exact this | omega | (simp; done) | simpa using this)
          replace F2 := F2.allocd (.cells #[.bool false, .string { data := #[] }, .string { data := #[] }] 24)
          replace F23 := F23.allocd (.cells #[.bool false, .string { data := #[] }, .string { data := #[] }] 24)
          have F25 := Blk.put (w37) #[.bool false, .string { data := #[] }, .string { data := #[] }] 24
          replace B0 := B0.alloc B0.size (.cells #[.bool false, .string { data := #[] }, .string { data := #[] }] 24)
          obtain ⟨xF273_0, xF273_1, xF273_2⟩ := F2.ce3
          refine hK.out _ _ ?_ (fun hHeld => ?_)
          · exact ⟨xF273_0, xF273_1, xF273_2⟩
          clear hK K
          (try dsimp only [Act.put]); (try go_frame)
          refine wpAnyH_ready (rs := [3]) (by kernel_rfl) (by simp) ?_
          refine AllReadyH.cons rfl (fun K hK => ?_) AllReadyH.nil
          go_simp
          (with_reducible refine (h10 _).mono ?_)
          rintro r w38 ⟨rfl, hb38⟩
          clear xF273_0 xF273_1 xF273_2
          replace F2 := F2.keep hb38
          replace F23 := F23.keep hb38
          replace F25 := F25.keep hb38
          replace B0 := B0.trans (hb38.mono B0.size)
          clear hb38
          obtain ⟨xF274_0, xF274_1, xF274_2⟩ := F2.ce3
          refine hK.out _ _ ?_ (fun hHeld => ?_)
          · exact ⟨xF274_0, xF274_1, xF274_2⟩
          clear hK K
          (try dsimp only [Act.put]); (try go_frame)
          refine wpAnyH_take (i := 4) (v := _) (by first | (simp only [List.getElem?_toArray, List.getElem?_cons_zero, List.getElem?_cons_succ]; rfl) | rfl) (by kernel_rfl) (by kernel_rfl) (by kernel_rfl) (by exact fun _ _ _ h => h) (Or.inl ⟨by rfl, by (intro w hSw; (try dsimp only at hSw); go_simp; try with_reducible rfl)⟩) (by assumption) ?_
          (try dsimp only [Act.put]); (try go_frame)
          refine wpAnyH_take (i := 5) (v := _) (by first | (simp only [List.getElem?_toArray, List.getElem?_cons_zero, List.getElem?_cons_succ]; rfl) | rfl) (by kernel_rfl) (by kernel_rfl) (by kernel_rfl) (by exact fun _ _ _ h => h) (Or.inl ⟨by rfl, by (intro w hSw; (try dsimp only at hSw); go_simp; try with_reducible rfl)⟩) (by assumption) ?_
          (try dsimp only [Act.put]); (try go_frame)
          refine wpAnyH_take (i := 6) (v := _) (by first | (simp only [List.getElem?_toArray, List.getElem?_cons_zero, List.getElem?_cons_succ]; rfl) | rfl) (by kernel_rfl) (by kernel_rfl) (by kernel_rfl) (by exact fun _ _ _ h => h) (Or.inl ⟨by rfl, by (intro w hSw; (try dsimp only at hSw); go_simp; try with_reducible rfl)⟩) (by assumption) ?_
          (try dsimp only [Act.put]); (try go_frame)
          obtain ⟨xF2574_0, xF2574_1, xF2574_2⟩ := F25.ce3
          obtain ⟨xF2574_0f, xF2574_1f, xF2574_2f⟩ := F25.fr3
          refine wpAnyH_ready (rs := [8]) (by kernel_rfl) (by simp) ?_
          refine AllReadyH.cons rfl (fun K hK => ?_) AllReadyH.nil
          go_simp
          replace F2 := (((F2.far 0 (.bool qn) (Nat.ne_of_lt q_F2_F25.out)).far 1 (.string qS) (Nat.ne_of_lt q_F2_F25.out)).far 2 (.string qT) (Nat.ne_of_lt q_F2_F25.out))
          replace F23 := (((F23.far 0 (.bool qn) (Nat.ne_of_lt q_F23_F25.out)).far 1 (.string qS) (Nat.ne_of_lt q_F23_F25.out)).far 2 (.string qT) (Nat.ne_of_lt q_F23_F25.out))
          replace F25 : Blk ((((w38).setCell ⟨w37.heap.size, 0, none⟩ (.bool qn)).setCell ⟨w37.heap.size, 1, none⟩ (.string qS)).setCell ⟨w37.heap.size, 2, none⟩ (.string qT)) (w37.heap.size) #[.bool qn, .string qS, .string qT] 24 := (((F25.setAt 0 (.bool qn)).setAt 1 (.string qS)).setAt 2 (.string qT))
          replace B0 := (((B0.setCell (p := ⟨w37.heap.size, 0, none⟩) q_w_F25.out (.bool qn)).setCell (p := ⟨w37.heap.size, 1, none⟩) q_w_F25.out (.string qS)).setCell (p := ⟨w37.heap.size, 2, none⟩) q_w_F25.out (.string qT))
          clear xF274_0 xF274_1 xF274_2 xF2574_0 xF2574_1 xF2574_2 xF2574_0f xF2574_1f xF2574_2f
          obtain ⟨xF275_0, xF275_1, xF275_2⟩ := F2.ce3
          refine hK.out _ _ ?_ (fun hHeld => ?_)
          · exact ⟨xF275_0, xF275_1, xF275_2⟩
          clear hK K
          (try dsimp only [Act.put]); (try go_frame)
          refine wpAnyH_take (i := 9) (v := _) (by first | (simp only [List.getElem?_toArray, List.getElem?_cons_zero, List.getElem?_cons_succ]; rfl) | rfl) (by kernel_rfl) (by kernel_rfl) (by kernel_rfl) (by exact fun _ _ _ h => h) (Or.inl ⟨by rfl, by (intro w hSw; (try dsimp only at hSw); go_simp; try with_reducible rfl)⟩) (by assumption) ?_
          (try dsimp only [Act.put]); (try go_frame)
          refine wpAnyH_done (by kernel_rfl) ?_ _
          try simp only [QCut]
          clear hHeld
          clear xF275_0 xF275_1 xF275_2
          go_wp2_with fail
          go_meet
          exact ⟨_, by first | rfl | simp, by first | rfl | simp, by first | rfl | simp, by first | rfl | simp, F23, F25, B0⟩
      · go_simp
        clear xF270_0 xF270_1 xF270_2
        have q_F2_F25 : Hid (w.heap.size < v11.heap.size) := Lib.hid (by have := F2.lt; first | exact this | omega | (simp; done) | simpa using this)
        have q_F23_F25 : Hid (S23 < v11.heap.size) := Lib.hid (by have := F23.lt; first | exact this | omega | (simp; done) | simpa using this)
        have q_w_F25 : Hid (w.heap.size ≤ v11.heap.size) := Lib.hid (by have := B0.size; first | exact this | omega | (simp; done) | simpa using this)
        replace F2 := F2.allocd (.cells #[.bool false, .string { data := #[] }, .string { data := #[] }] 24)
        replace F23 := F23.allocd (.cells #[.bool false, .string { data := #[] }, .string { data := #[] }] 24)
        have F25 := Blk.put ((v11).drew) #[.bool false, .string { data := #[] }, .string { data := #[] }] 24
        rw [show ((v11).drew).heap.size = v11.heap.size by simp] at F25
        replace B0 := B0.alloc B0.size (.cells #[.bool false, .string { data := #[] }, .string { data := #[] }] 24)
        obtain ⟨xF272_0, xF272_1, xF272_2⟩ := F2.ce3
        refine hK.out _ _ ?_ (fun hHeld => ?_)
        · exact ⟨xF272_0, xF272_1, xF272_2⟩
        clear hK K
        (try dsimp only [Act.put]); (try go_frame)
        refine wpAnyH_ready (rs := [1]) (by kernel_rfl) (by simp) ?_
        refine AllReadyH.cons rfl (fun K hK => ?_) AllReadyH.nil
        go_simp
        (with_reducible refine (h6c _ ?_).mono ?_)
        · exact hT.below B0
        rintro r w37 ⟨rfl, hb37⟩
        clear xF272_0 xF272_1 xF272_2
        replace F2 := F2.keep hb37
        replace F23 := F23.keep hb37
        replace F25 := F25.keep hb37
        replace B0 := B0.trans (hb37.mono B0.size)
        clear hb37
        obtain ⟨xF273_0, xF273_1, xF273_2⟩ := F2.ce3
        refine hK.out _ _ ?_ (fun hHeld => ?_)
        · exact ⟨xF273_0, xF273_1, xF273_2⟩
        clear hK K
        (try dsimp only [Act.put]); (try go_frame)
        refine wpAnyH_ready (rs := [3]) (by kernel_rfl) (by simp) ?_
        refine AllReadyH.cons rfl (fun K hK => ?_) AllReadyH.nil
        go_simp
        (with_reducible refine (h10 _).mono ?_)
        rintro r w38 ⟨rfl, hb38⟩
        clear xF273_0 xF273_1 xF273_2
        replace F2 := F2.keep hb38
        replace F23 := F23.keep hb38
        replace F25 := F25.keep hb38
        replace B0 := B0.trans (hb38.mono B0.size)
        clear hb38
        obtain ⟨xF274_0, xF274_1, xF274_2⟩ := F2.ce3
        refine hK.out _ _ ?_ (fun hHeld => ?_)
        · exact ⟨xF274_0, xF274_1, xF274_2⟩
        clear hK K
        (try dsimp only [Act.put]); (try go_frame)
        refine wpAnyH_take (i := 4) (v := _) (by first | (simp only [List.getElem?_toArray, List.getElem?_cons_zero, List.getElem?_cons_succ]; rfl) | rfl) (by kernel_rfl) (by kernel_rfl) (by kernel_rfl) (by exact fun _ _ _ h => h) (Or.inl ⟨by rfl, by (intro w hSw; (try dsimp only at hSw); go_simp; try with_reducible rfl)⟩) (by assumption) ?_
        (try dsimp only [Act.put]); (try go_frame)
        refine wpAnyH_take (i := 5) (v := _) (by first | (simp only [List.getElem?_toArray, List.getElem?_cons_zero, List.getElem?_cons_succ]; rfl) | rfl) (by kernel_rfl) (by kernel_rfl) (by kernel_rfl) (by exact fun _ _ _ h => h) (Or.inl ⟨by rfl, by (intro w hSw; (try dsimp only at hSw); go_simp; try with_reducible rfl)⟩) (by assumption) ?_
        (try dsimp only [Act.put]); (try go_frame)
        refine wpAnyH_take (i := 6) (v := _) (by first | (simp only [List.getElem?_toArray, List.getElem?_cons_zero, List.getElem?_cons_succ]; rfl) | rfl) (by kernel_rfl) (by kernel_rfl) (by kernel_rfl) (by exact fun _ _ _ h => h) (Or.inl ⟨by rfl, by (intro w hSw; (try dsimp only at hSw); go_simp; try with_reducible rfl)⟩) (by assumption) ?_
        (try dsimp only [Act.put]); (try go_frame)
        obtain ⟨xF2574_0, xF2574_1, xF2574_2⟩ := F25.ce3
        obtain ⟨xF2574_0f, xF2574_1f, xF2574_2f⟩ := F25.fr3
        refine wpAnyH_ready (rs := [8]) (by kernel_rfl) (by simp) ?_
        refine AllReadyH.cons rfl (fun K hK => ?_) AllReadyH.nil
        go_simp
        replace F2 := (((F2.far 0 (.bool qn) (Nat.ne_of_lt q_F2_F25.out)).far 1 (.string qS) (Nat.ne_of_lt q_F2_F25.out)).far 2 (.string qT) (Nat.ne_of_lt q_F2_F25.out))
        replace F23 := (((F23.far 0 (.bool qn) (Nat.ne_of_lt q_F23_F25.out)).far 1 (.string qS) (Nat.ne_of_lt q_F23_F25.out)).far 2 (.string qT) (Nat.ne_of_lt q_F23_F25.out))
        replace F25 : Blk ((((w38).setCell ⟨v11.heap.size, 0, none⟩ (.bool qn)).setCell ⟨v11.heap.size, 1, none⟩ (.string qS)).setCell ⟨v11.heap.size, 2, none⟩ (.string qT)) (v11.heap.size) #[.bool qn, .string qS, .string qT] 24 := (((F25.setAt 0 (.bool qn)).setAt 1 (.string qS)).setAt 2 (.string qT))
        replace B0 := (((B0.setCell (p := ⟨v11.heap.size, 0, none⟩) q_w_F25.out (.bool qn)).setCell (p := ⟨v11.heap.size, 1, none⟩) q_w_F25.out (.string qS)).setCell (p := ⟨v11.heap.size, 2, none⟩) q_w_F25.out (.string qT))
        clear xF274_0 xF274_1 xF274_2 xF2574_0 xF2574_1 xF2574_2 xF2574_0f xF2574_1f xF2574_2f
        obtain ⟨xF275_0, xF275_1, xF275_2⟩ := F2.ce3
        refine hK.out _ _ ?_ (fun hHeld => ?_)
        · exact ⟨xF275_0, xF275_1, xF275_2⟩
        clear hK K
        (try dsimp only [Act.put]); (try go_frame)
        refine wpAnyH_take (i := 9) (v := _) (by first | (simp only [List.getElem?_toArray, List.getElem?_cons_zero, List.getElem?_cons_succ]; rfl) | rfl) (by kernel_rfl) (by kernel_rfl) (by kernel_rfl) (by exact fun _ _ _ h => h) (Or.inl ⟨by rfl, by (intro w hSw; (try dsimp only at hSw); go_simp; try with_reducible rfl)⟩) (by assumption) ?_
        (try dsimp only [Act.put]); (try go_frame)
        refine wpAnyH_done (by kernel_rfl) ?_ _
        try simp only [QCut]
        clear hHeld
        clear xF275_0 xF275_1 xF275_2
        go_wp2_with fail
        go_meet
        exact ⟨_, by first | rfl | simp, by first | rfl | simp, by first | rfl | simp, by first | rfl | simp, F23, F25, B0⟩
    case rest =>
      clear B0
      clear F2
      clear F23
      obtain ⟨S25, rfl, rfl, rfl, rfl, F23, F25, B0⟩ := hcut
      generalize wc = v12 at *
      obtain ⟨xF2371_0, xF2371_1, xF2371_2⟩ := F23.ce3
      obtain ⟨xF2571_0, xF2571_1, xF2571_2⟩ := F25.ce3
      go_wp2_with fail
      (with_reducible refine (h11 _).mono ?_)
      rintro r w37 ⟨rfl, hb37⟩
      clear xF2371_0 xF2371_1 xF2371_2 xF2571_0 xF2571_1 xF2571_2
      replace F23 := F23.keep hb37
      replace F25 := F25.keep hb37
      replace B0 := B0.trans (hb37.mono B0.size)
      clear hb37
      have hfb := run_f64bits
      go_wp2_with fail
      (with_reducible refine (hl _).mono ?_)
      rintro r w38 ⟨rfl, hb38⟩
      clear F23
      clear F25
      replace B0 := B0.trans (hb38.mono B0.size)
      clear hb38
      go_wp2
      go_ret
      exact ⟨rfl, B0⟩
end Go.Proofs.YtbhfnigblhfikaaGreatDoor
