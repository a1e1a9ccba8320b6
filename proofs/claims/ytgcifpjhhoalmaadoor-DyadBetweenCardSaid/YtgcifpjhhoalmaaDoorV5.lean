/- filigreelaw03.DyadBetween: the walk. -/
import Derived.Test.YtgcifpjhhoalmaaDoorV4
import Derived.Test.YtgcifpjhhoalmaaDoorG3
namespace Go.Proofs.YtgcifpjhhoalmaaDoor
open Go Go.RowKit Go.PlainAid Fil

/-- the code from a region on -/
def headOf : Code → Nat
  | .region n _ _ => n
  | .seq a _ => headOf a
  | _ => 0
def tailAt (k : Nat) : Code → Code
  | .seq a b => if headOf a = k then .seq a b else tailAt k b
  | c => c

set_option maxRecDepth 1000000 in
set_option maxHeartbeats 16000000 in
theorem between_bad (an : Bool) (aS : ByteArray) (ae : Int) (bn : Bool) (bS : ByteArray) (be : Int) (x : Nat) (w : World) (hs : aS.size ≤ 9223372036854775807) (hs2 : bS.size ≤ 9223372036854775807) (hb : (mayB an aS ae && mayB bn bS be) = false) (v1 : World) (F3 : Blk v1 (w.heap.size) #[.bool an, .string aS, .int .i64 ae] 24) (F4 : Blk v1 (w.heap.size + 1) #[.bool bn, .string bS, .int .i64 be] 24) (B0 : Below w.heap.size w v1) (u5 u6 u7 u8 u9 u10 u11 u12 u13 u14 u15 u16 u17 u18 u19 u20 u21 u22 u23 u24 u25 u26 u27 u28 u29 u30 u31 u32 u33 u34 u35 u36 u37 u38 u39 u40 u41 u42 u43 u44 u45 u46 u47 u48 u49 u50 u51 u52 u53 u54 u55 u56 u57 u58 u59 u60 u61 u62 u63 u64 u65 u66 u67 u68 u69 u70 u71 u72 u73 u74 u75 u76 u77 u78 u79 u80 u81 u82 u83 u84 u85 u86 u87 u88 u89 u90 u91 u92 u93 u94 u95 u96 u97 u98 u99 u100 u101 u102 u103 u104 u105 u106 u107 u108 u109 u110 u111 u112 u113 u114 u115 u116 u117 u118 u119 u120 u121 u122 u123 u124 u125 u126 u127 u128 u129 u130 u131 u132 u133 u134 u135 u136 u137 u138 u139 u140 u141 u142 u143 u144 u145 u146 u147 u148 u149 u150 u151 u152 u153 u154 u155 u156 u157 u158 u159 u160 u161 u162 u163 u164 u165 u166 u167 u168 u169 u170 u171 u172 u173 u174 u175 u176 u177 u178 u179 u180 u181 u182 u183 u184 u185 u186 u187 u188 u189 u190 u191 u192 u193 u194 u195 u196 u197 u198 u199 u200 u201 u202 u203 u204 u205 : Value) :
    Code.wp Tryd.prog (tailAt 15 (Tryd.f17.body.getD .skip)) (bodyPost Tryd.prog Tryd.f17 fun r w' => r = .returned (.bool true) ∧ Below w.heap.size w w') ⟨#[.agg #[.bool an, .string aS, .int .i64 ae], .agg #[.bool bn, .string bS, .int .i64 be], .float .f64 x, .pointer (some ⟨w.heap.size, 0, none⟩), .pointer (some ⟨w.heap.size + 1, 0, none⟩), u5, u6, u7, u8, u9, u10, u11, u12, u13, u14, u15, u16, u17, u18, u19, u20, u21, u22, u23, u24, u25, u26, u27, u28, u29, u30, u31, u32, u33, u34, u35, u36, u37, u38, u39, u40, u41, u42, u43, u44, u45, u46, u47, u48, u49, u50, u51, u52, u53, u54, u55, u56, u57, u58, u59, u60, u61, u62, u63, u64, u65, u66, u67, u68, u69, u70, u71, u72, u73, u74, u75, u76, u77, u78, u79, u80, u81, u82, u83, u84, u85, u86, u87, u88, u89, u90, u91, u92, u93, u94, u95, u96, u97, u98, u99, u100, u101, u102, u103, u104, u105, u106, u107, u108, u109, u110, u111, u112, u113, u114, u115, u116, u117, u118, u119, u120, u121, u122, u123, u124, u125, u126, u127, u128, u129, u130, u131, u132, u133, u134, u135, u136, u137, u138, u139, u140, u141, u142, u143, u144, u145, u146, u147, u148, u149, u150, u151, u152, u153, u154, u155, u156, u157, u158, u159, u160, u161, u162, u163, u164, u165, u166, u167, u168, u169, u170, u171, u172, u173, u174, u175, u176, u177, u178, u179, u180, u181, u182, u183, u184, u185, u186, u187, u188, u189, u190, u191, u192, u193, u194, u195, u196, u197, u198, u199, u200, u201, u202, u203, u204, u205], []⟩ v1 := by
  have hca := fun W => check_any an aS ae W hs
  have hcb := fun W => check_any bn bS be W hs2
  have hk : oks [okE (mayB an aS ae), okE (mayB bn bS be)] = false := by
    cases h1 : mayB an aS ae <;> cases h2 : mayB bn bS be <;> rw [h1, h2] at hb <;> first | (simp at hb; done) | rfl
  generalize okE (mayB an aS ae) = ca at *
  generalize okE (mayB bn bS be) = cb at *
  have hall := fun Bk W h => l3all_2_at ca cb Bk W h
  rw [hk] at hall
  clear hk hb hs hs2
  conv => arg 2; whnf
  go_wp2_with fail
  refine wp_region_cut 4 (by kernel_rfl) (by kernel_rfl) ?_
  rintro W rfl
  simp only [List.take_succ_cons, List.take_zero, List.drop_succ_cons, List.drop_zero]
  obtain ⟨xF350_0, xF350_1, xF350_2⟩ := F3.ce3
  obtain ⟨xF450_0, xF450_1, xF450_2⟩ := F4.ce3
  have hHeld : (fun w' : World => w'.cell? ⟨w.heap.size, 0, none⟩ = some (.bool an) ∧ w'.cell? ⟨w.heap.size, 1, none⟩ = some (.string aS) ∧ w'.cell? ⟨w.heap.size, 2, none⟩ = some (.int .i64 ae) ∧ w'.cell? ⟨w.heap.size + 1, 0, none⟩ = some (.bool bn) ∧ w'.cell? ⟨w.heap.size + 1, 1, none⟩ = some (.string bS) ∧ w'.cell? ⟨w.heap.size + 1, 2, none⟩ = some (.int .i64 be)) (v1).drew := ⟨xF350_0, xF350_1, xF350_2, xF450_0, xF450_1, xF450_2⟩
  refine wpAny_of_held (S := fun w' : World => w'.cell? ⟨w.heap.size, 0, none⟩ = some (.bool an) ∧ w'.cell? ⟨w.heap.size, 1, none⟩ = some (.string aS) ∧ w'.cell? ⟨w.heap.size, 2, none⟩ = some (.int .i64 ae) ∧ w'.cell? ⟨w.heap.size + 1, 0, none⟩ = some (.bool bn) ∧ w'.cell? ⟨w.heap.size + 1, 1, none⟩ = some (.string bS) ∧ w'.cell? ⟨w.heap.size + 1, 2, none⟩ = some (.int .i64 be)) _ _ _ _ ?_
  replace F3 := F3.drew
  replace F4 := F4.drew
  replace B0 := B0.drew
  refine wpAnyH_take (i := 0) (v := _) (by first | (simp only [List.getElem?_toArray, List.getElem?_cons_zero]; rfl) | rfl) (by kernel_rfl) (by kernel_rfl) (by kernel_rfl) (by exact fun _ _ _ h => h) (Or.inl ⟨by rfl, by (intro w hSw; (try dsimp only at hSw); go_simp; try with_reducible rfl)⟩) (by assumption) ?_
  (try dsimp only [Act.put]); (try go_frame)
  refine wpAnyH_take (i := 2) (v := _) (by first | (simp only [List.getElem?_toArray, List.getElem?_cons_zero, List.getElem?_cons_succ]; rfl) | rfl) (by kernel_rfl) (by kernel_rfl) (by kernel_rfl) (by exact fun _ _ _ h => h) (Or.inl ⟨by rfl, by (intro w hSw; (try dsimp only at hSw); go_simp; try with_reducible rfl)⟩) (by assumption) ?_
  (try dsimp only [Act.put]); (try go_frame)
  refine wpAnyH_ready (rs := [1]) (by kernel_rfl) (by simp) ?_
  refine AllReadyH.cons rfl (fun K hK => ?_) AllReadyH.nil
  go_simp
  (with_reducible refine (hca _).mono ?_)
  rintro r w21 ⟨rfl, hb21⟩
  clear xF350_0 xF350_1 xF350_2 xF450_0 xF450_1 xF450_2
  replace F3 := F3.keep hb21
  replace F4 := F4.keep hb21
  replace B0 := B0.trans (hb21.mono B0.size)
  clear hb21
  obtain ⟨xF352_0, xF352_1, xF352_2⟩ := F3.ce3
  obtain ⟨xF452_0, xF452_1, xF452_2⟩ := F4.ce3
  refine hK.out _ _ ?_ (fun hHeld => ?_)
  · exact ⟨xF352_0, xF352_1, xF352_2, xF452_0, xF452_1, xF452_2⟩
  clear hK K
  (try dsimp only [Act.put]); (try go_frame)
  refine wpAnyH_ready (rs := [3]) (by kernel_rfl) (by simp) ?_
  refine AllReadyH.cons rfl (fun K hK => ?_) AllReadyH.nil
  go_simp
  (with_reducible refine (hcb _).mono ?_)
  rintro r w22 ⟨rfl, hb22⟩
  clear xF352_0 xF352_1 xF352_2 xF452_0 xF452_1 xF452_2
  replace F3 := F3.keep hb22
  replace F4 := F4.keep hb22
  replace B0 := B0.trans (hb22.mono B0.size)
  clear hb22
  obtain ⟨xF353_0, xF353_1, xF353_2⟩ := F3.ce3
  obtain ⟨xF453_0, xF453_1, xF453_2⟩ := F4.ce3
  refine hK.out _ _ ?_ (fun hHeld => ?_)
  · exact ⟨xF353_0, xF353_1, xF353_2, xF453_0, xF453_1, xF453_2⟩
  clear hK K
  (try dsimp only [Act.put]); (try go_frame)
  refine wpAnyH_done (by kernel_rfl) ?_ _
  try simp only [QCut]
  clear hHeld
  clear xF353_0 xF353_1 xF353_2 xF453_0 xF453_1 xF453_2
  go_wp2_with fail
  (with_reducible refine (hall _ _ (by simp)).mono ?_)
  rintro r w23 ⟨rfl, hb23⟩
  clear F3
  clear F4
  replace B0 := B0.trans (hb23.mono B0.size)
  clear hb23
  go_wp2
  go_ret
  exact ⟨rfl, B0⟩

set_option maxRecDepth 1000000 in
set_option maxHeartbeats 16000000 in
theorem between_good (a b : DY) (x : Nat) (w : World) (ok_a : a.ok) (ok_b : b.ok) (hT : Tab w) (v1 : World) (F3 : Blk v1 (w.heap.size) #[.bool a.n, .string (bstr a.x), .int .i64 a.e] 24) (F4 : Blk v1 (w.heap.size + 1) #[.bool b.n, .string (bstr b.x), .int .i64 b.e] 24) (B0 : Below w.heap.size w v1) (u5 u6 u7 u8 u9 u10 u11 u12 u13 u14 u15 u16 u17 u18 u19 u20 u21 u22 u23 u24 u25 u26 u27 u28 u29 u30 u31 u32 u33 u34 u35 u36 u37 u38 u39 u40 u41 u42 u43 u44 u45 u46 u47 u48 u49 u50 u51 u52 u53 u54 u55 u56 u57 u58 u59 u60 u61 u62 u63 u64 u65 u66 u67 u68 u69 u70 u71 u72 u73 u74 u75 u76 u77 u78 u79 u80 u81 u82 u83 u84 u85 u86 u87 u88 u89 u90 u91 u92 u93 u94 u95 u96 u97 u98 u99 u100 u101 u102 u103 u104 u105 u106 u107 u108 u109 u110 u111 u112 u113 u114 u115 u116 u117 u118 u119 u120 u121 u122 u123 u124 u125 u126 u127 u128 u129 u130 u131 u132 u133 u134 u135 u136 u137 u138 u139 u140 u141 u142 u143 u144 u145 u146 u147 u148 u149 u150 u151 u152 u153 u154 u155 u156 u157 u158 u159 u160 u161 u162 u163 u164 u165 u166 u167 u168 u169 u170 u171 u172 u173 u174 u175 u176 u177 u178 u179 u180 u181 u182 u183 u184 u185 u186 u187 u188 u189 u190 u191 u192 u193 u194 u195 u196 u197 u198 u199 u200 u201 u202 u203 u204 u205 : Value) :
    Code.wp Tryd.prog (tailAt 15 (Tryd.f17.body.getD .skip)) (bodyPost Tryd.prog Tryd.f17 fun r w' => r = .returned (.bool true) ∧ Below w.heap.size w w') ⟨#[.agg #[.bool a.n, .string (bstr a.x), .int .i64 a.e], .agg #[.bool b.n, .string (bstr b.x), .int .i64 b.e], .float .f64 x, .pointer (some ⟨w.heap.size, 0, none⟩), .pointer (some ⟨w.heap.size + 1, 0, none⟩), u5, u6, u7, u8, u9, u10, u11, u12, u13, u14, u15, u16, u17, u18, u19, u20, u21, u22, u23, u24, u25, u26, u27, u28, u29, u30, u31, u32, u33, u34, u35, u36, u37, u38, u39, u40, u41, u42, u43, u44, u45, u46, u47, u48, u49, u50, u51, u52, u53, u54, u55, u56, u57, u58, u59, u60, u61, u62, u63, u64, u65, u66, u67, u68, u69, u70, u71, u72, u73, u74, u75, u76, u77, u78, u79, u80, u81, u82, u83, u84, u85, u86, u87, u88, u89, u90, u91, u92, u93, u94, u95, u96, u97, u98, u99, u100, u101, u102, u103, u104, u105, u106, u107, u108, u109, u110, u111, u112, u113, u114, u115, u116, u117, u118, u119, u120, u121, u122, u123, u124, u125, u126, u127, u128, u129, u130, u131, u132, u133, u134, u135, u136, u137, u138, u139, u140, u141, u142, u143, u144, u145, u146, u147, u148, u149, u150, u151, u152, u153, u154, u155, u156, u157, u158, u159, u160, u161, u162, u163, u164, u165, u166, u167, u168, u169, u170, u171, u172, u173, u174, u175, u176, u177, u178, u179, u180, u181, u182, u183, u184, u185, u186, u187, u188, u189, u190, u191, u192, u193, u194, u195, u196, u197, u198, u199, u200, u201, u202, u203, u204, u205], []⟩ v1 := by
  have hca := fun W => ccheck a W ok_a
  have hcb := fun W => ccheck b W ok_b
  have hall2 := fun Bk W h => l3all_2_at 0 0 Bk W h
  rw [show oks [0, 0] = true from rfl] at hall2
  have hall5 := fun Bk W h => l3all_5_on 0 0 0 0 0 Bk W h
  rw [show oks [0, 0, 0, 0, 0] = true from rfl] at hall5
  have hall4 := fun Bk W h => l3all_4_at 0 0 0 0 Bk W h
  rw [show oks [0, 0, 0, 0] = true from rfl] at hall4
  obtain ⟨fl1, fl2⟩ := lowF_ok (n := a.n) (x := a.x) (e := a.e) ok_a
  obtain ⟨fh1, fh2⟩ := highF_ok (n := a.n) (x := a.x) (e := a.e) ok_a
  obtain ⟨fn1, fn2⟩ := nearF_ok (n := a.n) (x := a.x) (e := a.e) ok_a
  obtain ⟨gl1, gl2⟩ := lowF_ok (n := b.n) (x := b.x) (e := b.e) ok_b
  obtain ⟨gh1, gh2⟩ := highF_ok (n := b.n) (x := b.x) (e := b.e) ok_b
  obtain ⟨gn1, gn2⟩ := nearF_ok (n := b.n) (x := b.x) (e := b.e) ok_b
  have hlo := fun W hW => dbelow_ok a.n a.x a.e W ok_a hW
  have hhi := fun W hW => dabove_ok a.n a.x a.e W ok_a hW
  have hne := fun W hW => dnear_ok a.n a.x a.e W ok_a hW
  have hlo2 := fun W hW => dbelow_ok b.n b.x b.e W ok_b hW
  have hhi2 := fun W hW => dabove_ok b.n b.x b.e W ok_b hW
  have hne2 := fun W hW => dnear_ok b.n b.x b.e W ok_b hW
  have hal := fun W hW => dagainst_ok a.n a.x a.e (lowF a.n a.x a.e) W ok_a fl2 hW
  have hah := fun W hW => dagainst_ok a.n a.x a.e (highF a.n a.x a.e) W ok_a fh2 hW
  rw [ag_low ok_a, agE_ok fl1] at hal
  rw [ag_high ok_a, agE_ok fh1] at hah
  have hb1 := fun W => cbits (nearF a.n a.x a.e) (lowF a.n a.x a.e) W fn1
  have hb2 := fun W => cbits (nearF a.n a.x a.e) (highF a.n a.x a.e) W fn1
  have hinf := cinf
  have hnx := fun (h : exB a.x a.e = false) W => cnext (lowF a.n a.x a.e) W fl2 fl1 (nxt_low (n := a.n) ok_a h).2
  have hnl := fun (h : exB a.x a.e = false) => (nxt_low (n := a.n) (x := a.x) (e := a.e) ok_a h).1
  have hnx : exB a.x a.e = false → ∀ W : World, Calls Tryd.prog 95 #[.float .f64 (lowF a.n a.x a.e), .float .f64 9218868437227405312] W fun r w' => r = .returned (.float .f64 (highF a.n a.x a.e)) ∧ Below W.heap.size W w' := fun h W => by
    have := hnx h W
    rw [hnl h] at this
    exact this
  clear hnl
  have ehh : (FloatKind.f64.format.order (highF a.n a.x a.e) (highF a.n a.x a.e) != some .eq) = false := nan_no fh1
  have hcm := fun W => ccmp a b W ok_a ok_b
  have hvv : yCmp a b ≤ 0 → a.v ≤ b.v := fun h => by
    rcases Int.lt_or_le b.v a.v with h1 | h1
    · have := yCmp_gt.2 h1; omega
    · exact h1
  have KR := Lib.hid (near_or (n := a.n) (x := a.x) (e := a.e) ok_a)
  have KE : Hid ((exB a.x a.e = true → (if exB a.x a.e = true then (0 : Int) else 1) = 0 ∧ (if exB a.x a.e = true then (0 : Int) else -1) = 0) ∧ (exB a.x a.e = false → (if exB a.x a.e = true then (0 : Int) else 1) = 1 ∧ (if exB a.x a.e = true then (0 : Int) else -1) = -1)) := Lib.hid (by
    cases exB a.x a.e
    · exact ⟨fun h => by simp at h, fun _ => ⟨rfl, rfl⟩⟩
    · exact ⟨fun _ => ⟨rfl, rfl⟩, fun h => by simp at h⟩)
  have KO : Hid (¬ 0 < yCmp a b → (FloatKind.f64.format.order (lowF a.n a.x a.e) (lowF b.n b.x b.e) == some .lt || FloatKind.f64.format.order (lowF a.n a.x a.e) (lowF b.n b.x b.e) == some .eq) = true ∧ (FloatKind.f64.format.order (highF a.n a.x a.e) (highF b.n b.x b.e) == some .lt || FloatKind.f64.format.order (highF a.n a.x a.e) (highF b.n b.x b.e) == some .eq) = true ∧ (FloatKind.f64.format.order (nearF a.n a.x a.e) (nearF b.n b.x b.e) == some .lt || FloatKind.f64.format.order (nearF a.n a.x a.e) (nearF b.n b.x b.e) == some .eq) = true) := Lib.hid fun h =>
    ⟨ord_le fl1 gl1 (low_mono ok_a ok_b (hvv (by omega))), ord_le fh1 gh1 (high_mono ok_a ok_b (hvv (by omega))), ord_le fn1 gn1 (near_mono ok_a ok_b (hvv (by omega)))⟩
  have dm : decide ((if exB a.x a.e = true then (0 : Int) else 1) < 0) = false := decide_eq_false (by split <;> omega)
  have dq : decide (0 < (if exB a.x a.e = true then (0 : Int) else -1)) = false := decide_eq_false (by split <;> omega)
  generalize (if exB a.x a.e = true then (0 : Int) else 1) = m at *
  generalize (if exB a.x a.e = true then (0 : Int) else -1) = q at *
  generalize exB a.x a.e = E at *
  generalize yCmp a b = O at *
  generalize lowF a.n a.x a.e = L at *
  generalize highF a.n a.x a.e = H at *
  generalize nearF a.n a.x a.e = R at *
  generalize lowF b.n b.x b.e = L2 at *
  generalize highF b.n b.x b.e = H2 at *
  generalize nearF b.n b.x b.e = R2 at *
  clear ok_a ok_b fl1 fl2 fh1 fh2 fn1 fn2 gl1 gl2 gh1 gh2 gn1 gn2 hvv
  obtain ⟨an, aX, ae⟩ := a
  obtain ⟨bn, bX, be⟩ := b
  dsimp only at *
  generalize bstr aX = aS at *
  generalize bstr bX = bS at *
  conv => arg 2; whnf
  go_wp2_with fail
  refine wp_region_cut 4 (by kernel_rfl) (by kernel_rfl) ?_
  rintro W rfl
  simp only [List.take_succ_cons, List.take_zero, List.drop_succ_cons, List.drop_zero]
  obtain ⟨xF350_0, xF350_1, xF350_2⟩ := F3.ce3
  obtain ⟨xF450_0, xF450_1, xF450_2⟩ := F4.ce3
  have hHeld : (fun w' : World => w'.cell? ⟨w.heap.size, 0, none⟩ = some (.bool an) ∧ w'.cell? ⟨w.heap.size, 1, none⟩ = some (.string aS) ∧ w'.cell? ⟨w.heap.size, 2, none⟩ = some (.int .i64 ae) ∧ w'.cell? ⟨w.heap.size + 1, 0, none⟩ = some (.bool bn) ∧ w'.cell? ⟨w.heap.size + 1, 1, none⟩ = some (.string bS) ∧ w'.cell? ⟨w.heap.size + 1, 2, none⟩ = some (.int .i64 be)) (v1).drew := ⟨xF350_0, xF350_1, xF350_2, xF450_0, xF450_1, xF450_2⟩
  refine wpAny_of_held (S := fun w' : World => w'.cell? ⟨w.heap.size, 0, none⟩ = some (.bool an) ∧ w'.cell? ⟨w.heap.size, 1, none⟩ = some (.string aS) ∧ w'.cell? ⟨w.heap.size, 2, none⟩ = some (.int .i64 ae) ∧ w'.cell? ⟨w.heap.size + 1, 0, none⟩ = some (.bool bn) ∧ w'.cell? ⟨w.heap.size + 1, 1, none⟩ = some (.string bS) ∧ w'.cell? ⟨w.heap.size + 1, 2, none⟩ = some (.int .i64 be)) _ _ _ _ ?_
  replace F3 := F3.drew
  replace F4 := F4.drew
  replace B0 := B0.drew
  refine wpAnyH_take (i := 0) (v := _) (by first | (simp only [List.getElem?_toArray, List.getElem?_cons_zero]; rfl) | rfl) (by kernel_rfl) (by kernel_rfl) (by kernel_rfl) (by exact fun _ _ _ h => h) (Or.inl ⟨by rfl, by (intro w hSw; (try dsimp only at hSw); go_simp; try with_reducible rfl)⟩) (by assumption) ?_
  (try dsimp only [Act.put]); (try go_frame)
  refine wpAnyH_take (i := 2) (v := _) (by first | (simp only [List.getElem?_toArray, List.getElem?_cons_zero, List.getElem?_cons_succ]; rfl) | rfl) (by kernel_rfl) (by kernel_rfl) (by kernel_rfl) (by exact fun _ _ _ h => h) (Or.inl ⟨by rfl, by (intro w hSw; (try dsimp only at hSw); go_simp; try with_reducible rfl)⟩) (by assumption) ?_
  (try dsimp only [Act.put]); (try go_frame)
  refine wpAnyH_ready (rs := [1]) (by kernel_rfl) (by simp) ?_
  refine AllReadyH.cons rfl (fun K hK => ?_) AllReadyH.nil
  go_simp
  (with_reducible refine (hca _).mono ?_)
  rintro r w21 ⟨rfl, hb21⟩
  clear xF350_0 xF350_1 xF350_2 xF450_0 xF450_1 xF450_2
  replace F3 := F3.keep hb21
  replace F4 := F4.keep hb21
  replace B0 := B0.trans (hb21.mono B0.size)
  clear hb21
  obtain ⟨xF352_0, xF352_1, xF352_2⟩ := F3.ce3
  obtain ⟨xF452_0, xF452_1, xF452_2⟩ := F4.ce3
  refine hK.out _ _ ?_ (fun hHeld => ?_)
  · exact ⟨xF352_0, xF352_1, xF352_2, xF452_0, xF452_1, xF452_2⟩
  clear hK K
  (try dsimp only [Act.put]); (try go_frame)
  refine wpAnyH_ready (rs := [3]) (by kernel_rfl) (by simp) ?_
  refine AllReadyH.cons rfl (fun K hK => ?_) AllReadyH.nil
  go_simp
  (with_reducible refine (hcb _).mono ?_)
  rintro r w22 ⟨rfl, hb22⟩
  clear xF352_0 xF352_1 xF352_2 xF452_0 xF452_1 xF452_2
  replace F3 := F3.keep hb22
  replace F4 := F4.keep hb22
  replace B0 := B0.trans (hb22.mono B0.size)
  clear hb22
  obtain ⟨xF353_0, xF353_1, xF353_2⟩ := F3.ce3
  obtain ⟨xF453_0, xF453_1, xF453_2⟩ := F4.ce3
  refine hK.out _ _ ?_ (fun hHeld => ?_)
  · exact ⟨xF353_0, xF353_1, xF353_2, xF453_0, xF453_1, xF453_2⟩
  clear hK K
  (try dsimp only [Act.put]); (try go_frame)
  refine wpAnyH_done (by kernel_rfl) ?_ _
  try simp only [QCut]
  clear hHeld
  clear xF353_0 xF353_1 xF353_2 xF453_0 xF453_1 xF453_2
  go_wp2_with fail
  (with_reducible refine (hall2 _ _ (by simp)).mono ?_)
  rintro r w23 ⟨rfl, hb23⟩
  replace F3 := F3.keep hb23
  replace F4 := F4.keep hb23
  replace B0 := B0.trans (hb23.mono B0.size)
  clear hb23
  obtain ⟨xF354_0, xF354_1, xF354_2⟩ := F3.ce3
  go_wp2_with fail
  (with_reducible refine (hlo _ (hT.below B0)).mono ?_)
  rintro r w24 ⟨rfl, hb24⟩
  clear xF354_0 xF354_1 xF354_2
  replace F3 := F3.keep hb24
  replace F4 := F4.keep hb24
  replace B0 := B0.trans (hb24.mono B0.size)
  clear hb24
  obtain ⟨xF355_0, xF355_1, xF355_2⟩ := F3.ce3
  go_wp2_with fail
  (with_reducible refine (hhi _ (hT.below B0)).mono ?_)
  rintro r w25 ⟨rfl, hb25⟩
  clear xF355_0 xF355_1 xF355_2
  replace F3 := F3.keep hb25
  replace F4 := F4.keep hb25
  replace B0 := B0.trans (hb25.mono B0.size)
  clear hb25
  obtain ⟨xF356_0, xF356_1, xF356_2⟩ := F3.ce3
  go_wp2_with fail
  (with_reducible refine (hne _ (hT.below B0)).mono ?_)
  rintro r w26 ⟨rfl, hb26⟩
  clear xF356_0 xF356_1 xF356_2
  replace F3 := F3.keep hb26
  replace F4 := F4.keep hb26
  replace B0 := B0.trans (hb26.mono B0.size)
  clear hb26
  obtain ⟨xF357_0, xF357_1, xF357_2⟩ := F3.ce3
  go_wp2_with fail
  (with_reducible refine (hal _ (hT.below B0)).mono ?_)
  rintro r w27 ⟨rfl, hb27⟩
  clear xF357_0 xF357_1 xF357_2
  replace F3 := F3.keep hb27
  replace F4 := F4.keep hb27
  replace B0 := B0.trans (hb27.mono B0.size)
  clear hb27
  obtain ⟨xF358_0, xF358_1, xF358_2⟩ := F3.ce3
  go_wp2_with fail
  (with_reducible refine (hah _ (hT.below B0)).mono ?_)
  rintro r w28 ⟨rfl, hb28⟩
  clear xF358_0 xF358_1 xF358_2
  replace F3 := F3.keep hb28
  replace F4 := F4.keep hb28
  replace B0 := B0.trans (hb28.mono B0.size)
  clear hb28
  go_upto_region 22 with fail
  go_cut [143] (fun s143 wx => s143 = .bool false ∧ Blk wx (w.heap.size) #[.bool an, .string aS, .int .i64 ae] 24 ∧ Blk wx (w.heap.size + 1) #[.bool bn, .string bS, .int .i64 be] 24 ∧ Below w.heap.size w wx)
  case first =>
    cases hRL : decide (R = L)
    · have hRH : decide (R = H) = true := decide_eq_true (KR.out.resolve_left (of_decide_eq_false hRL))
      rw [hRL] at hb1
      rw [hRH] at hb2
      clear hRL hRH KR
      go_wp2_with fail
      (with_reducible refine (hall5 _ _ (by simp)).mono ?_)
      rintro r w29 ⟨rfl, hb29⟩
      replace F3 := F3.keep hb29
      replace F4 := F4.keep hb29
      replace B0 := B0.trans (hb29.mono B0.size)
      clear hb29
      go_wp2_with fail
      (with_reducible refine (hb1 _).mono ?_)
      rintro r w30 ⟨rfl, hb30⟩
      replace F3 := F3.keep hb30
      replace F4 := F4.keep hb30
      replace B0 := B0.trans (hb30.mono B0.size)
      clear hb30
      go_wp2_with fail
      (with_reducible refine (hb2 _).mono ?_)
      rintro r w31 ⟨rfl, hb31⟩
      replace F3 := F3.keep hb31
      replace F4 := F4.keep hb31
      replace B0 := B0.trans (hb31.mono B0.size)
      clear hb31
      go_wp2_with fail
      go_meet
      exact ⟨by first | rfl | simp, F3, F4, B0⟩
    · rw [hRL] at hb1
      clear hRL KR hb2
      go_wp2_with fail
      (with_reducible refine (hall5 _ _ (by simp)).mono ?_)
      rintro r w29 ⟨rfl, hb29⟩
      replace F3 := F3.keep hb29
      replace F4 := F4.keep hb29
      replace B0 := B0.trans (hb29.mono B0.size)
      clear hb29
      go_wp2_with fail
      (with_reducible refine (hb1 _).mono ?_)
      rintro r w30 ⟨rfl, hb30⟩
      replace F3 := F3.keep hb30
      replace F4 := F4.keep hb30
      replace B0 := B0.trans (hb30.mono B0.size)
      clear hb30
      go_wp2_with fail
      go_meet
      exact ⟨by first | rfl | simp, F3, F4, B0⟩
  case rest =>
    clear B0
    clear F3
    clear F4
    obtain ⟨rfl, F3, F4, B0⟩ := hcut
    generalize wc = v1 at *
    go_upto_region 24 with fail
    go_cut [159] (fun s159 wx => s159 = .bool false ∧ Blk wx (w.heap.size) #[.bool an, .string aS, .int .i64 ae] 24 ∧ Blk wx (w.heap.size + 1) #[.bool bn, .string bS, .int .i64 be] 24 ∧ Below w.heap.size w wx)
    case first =>
      cases E
      · obtain ⟨rfl, rfl⟩ := KE.out.2 rfl
        clear KE
        go_wp2_with fail
        (with_reducible refine (hinf _).mono ?_)
        rintro r w29 ⟨rfl, hb29⟩
        replace F3 := F3.keep hb29
        replace F4 := F4.keep hb29
        replace B0 := B0.trans (hb29.mono B0.size)
        clear hb29
        go_wp2_with fail
        (with_reducible refine (hnx (by first | rfl | trivial) _).mono ?_)
        rintro r w30 ⟨rfl, hb30⟩
        replace F3 := F3.keep hb30
        replace F4 := F4.keep hb30
        replace B0 := B0.trans (hb30.mono B0.size)
        clear hb30
        go_wp2_with fail
        go_meet
        exact ⟨by first | rfl | simp, F3, F4, B0⟩
      · obtain ⟨rfl, rfl⟩ := KE.out.1 rfl
        clear KE hnx
        go_wp2_with fail
        go_meet
        exact ⟨by first | rfl | simp, F3, F4, B0⟩
    case rest =>
      clear B0
      clear F3
      clear F4
      obtain ⟨rfl, F3, F4, B0⟩ := hcut
      generalize wc = v2 at *
      obtain ⟨xF361_0, xF361_1, xF361_2⟩ := F3.ce3
      obtain ⟨xF461_0, xF461_1, xF461_2⟩ := F4.ce3
      go_wp2_with fail
      (with_reducible refine (hcm _).mono ?_)
      rintro r w29 ⟨rfl, hb29⟩
      clear xF361_0 xF361_1 xF361_2 xF461_0 xF461_1 xF461_2
      replace F3 := F3.keep hb29
      replace F4 := F4.keep hb29
      replace B0 := B0.trans (hb29.mono B0.size)
      clear hb29
      obtain ⟨xF462_0, xF462_1, xF462_2⟩ := F4.ce3
      go_wp2_with fail
      (with_reducible refine (hlo2 _ (hT.below B0)).mono ?_)
      rintro r w30 ⟨rfl, hb30⟩
      clear xF462_0 xF462_1 xF462_2
      clear F3
      replace F4 := F4.keep hb30
      replace B0 := B0.trans (hb30.mono B0.size)
      clear hb30
      obtain ⟨xF463_0, xF463_1, xF463_2⟩ := F4.ce3
      go_wp2_with fail
      (with_reducible refine (hhi2 _ (hT.below B0)).mono ?_)
      rintro r w31 ⟨rfl, hb31⟩
      clear xF463_0 xF463_1 xF463_2
      replace F4 := F4.keep hb31
      replace B0 := B0.trans (hb31.mono B0.size)
      clear hb31
      obtain ⟨xF464_0, xF464_1, xF464_2⟩ := F4.ce3
      go_wp2_with fail
      (with_reducible refine (hne2 _ (hT.below B0)).mono ?_)
      rintro r w32 ⟨rfl, hb32⟩
      clear xF464_0 xF464_1 xF464_2
      replace F4 := F4.keep hb32
      replace B0 := B0.trans (hb32.mono B0.size)
      clear hb32
      cases hO : decide (0 < O)
      · obtain ⟨l1, l2, l3⟩ := KO.out (Int.not_lt.1 (of_decide_eq_false hO))
        clear KO
        go_wp2_with fail
        (with_reducible refine (hall4 _ _ (by simp)).mono ?_)
        rintro r w33 ⟨rfl, hb33⟩
        clear F4
        replace B0 := B0.trans (hb33.mono B0.size)
        clear hb33
        go_wp2
        go_ret
        exact ⟨rfl, B0⟩
      · clear KO
        go_wp2_with fail
        (with_reducible refine (hall4 _ _ (by simp)).mono ?_)
        rintro r w33 ⟨rfl, hb33⟩
        clear F4
        replace B0 := B0.trans (hb33.mono B0.size)
        clear hb33
        go_wp2
        go_ret
        exact ⟨rfl, B0⟩

set_option maxRecDepth 1000000 in
set_option maxHeartbeats 16000000 in
theorem between_front (an : Bool) (aS : ByteArray) (ae : Int) (bn : Bool) (bS : ByteArray) (be : Int) (x : Nat) (w : World) (dn : Bool) (dS : ByteArray) (de : Int) (y : Nat) (z t : Bool) (hT : Tab w) (HR : ∀ (v1 : World) (_F3 : Blk v1 (w.heap.size) #[.bool an, .string aS, .int .i64 ae] 24) (_F4 : Blk v1 (w.heap.size + 1) #[.bool bn, .string bS, .int .i64 be] 24) (_B0 : Below w.heap.size w v1) (u5 u6 u7 u8 u9 u10 u11 u12 u13 u14 u15 u16 u17 u18 u19 u20 u21 u22 u23 u24 u25 u26 u27 u28 u29 u30 u31 u32 u33 u34 u35 u36 u37 u38 u39 u40 u41 u42 u43 u44 u45 u46 u47 u48 u49 u50 u51 u52 u53 u54 u55 u56 u57 u58 u59 u60 u61 u62 u63 u64 u65 u66 u67 u68 u69 u70 u71 u72 u73 u74 u75 u76 u77 u78 u79 u80 u81 u82 u83 u84 u85 u86 u87 u88 u89 u90 u91 u92 u93 u94 u95 u96 u97 u98 u99 u100 u101 u102 u103 u104 u105 u106 u107 u108 u109 u110 u111 u112 u113 u114 u115 u116 u117 u118 u119 u120 u121 u122 u123 u124 u125 u126 u127 u128 u129 u130 u131 u132 u133 u134 u135 u136 u137 u138 u139 u140 u141 u142 u143 u144 u145 u146 u147 u148 u149 u150 u151 u152 u153 u154 u155 u156 u157 u158 u159 u160 u161 u162 u163 u164 u165 u166 u167 u168 u169 u170 u171 u172 u173 u174 u175 u176 u177 u178 u179 u180 u181 u182 u183 u184 u185 u186 u187 u188 u189 u190 u191 u192 u193 u194 u195 u196 u197 u198 u199 u200 u201 u202 u203 u204 u205 : Value), Code.wp Tryd.prog (tailAt 15 (Tryd.f17.body.getD .skip)) (bodyPost Tryd.prog Tryd.f17 fun r w' => r = .returned (.bool true) ∧ Below w.heap.size w w') ⟨#[.agg #[.bool an, .string aS, .int .i64 ae], .agg #[.bool bn, .string bS, .int .i64 be], .float .f64 x, .pointer (some ⟨w.heap.size, 0, none⟩), .pointer (some ⟨w.heap.size + 1, 0, none⟩), u5, u6, u7, u8, u9, u10, u11, u12, u13, u14, u15, u16, u17, u18, u19, u20, u21, u22, u23, u24, u25, u26, u27, u28, u29, u30, u31, u32, u33, u34, u35, u36, u37, u38, u39, u40, u41, u42, u43, u44, u45, u46, u47, u48, u49, u50, u51, u52, u53, u54, u55, u56, u57, u58, u59, u60, u61, u62, u63, u64, u65, u66, u67, u68, u69, u70, u71, u72, u73, u74, u75, u76, u77, u78, u79, u80, u81, u82, u83, u84, u85, u86, u87, u88, u89, u90, u91, u92, u93, u94, u95, u96, u97, u98, u99, u100, u101, u102, u103, u104, u105, u106, u107, u108, u109, u110, u111, u112, u113, u114, u115, u116, u117, u118, u119, u120, u121, u122, u123, u124, u125, u126, u127, u128, u129, u130, u131, u132, u133, u134, u135, u136, u137, u138, u139, u140, u141, u142, u143, u144, u145, u146, u147, u148, u149, u150, u151, u152, u153, u154, u155, u156, u157, u158, u159, u160, u161, u162, u163, u164, u165, u166, u167, u168, u169, u170, u171, u172, u173, u174, u175, u176, u177, u178, u179, u180, u181, u182, u183, u184, u185, u186, u187, u188, u189, u190, u191, u192, u193, u194, u195, u196, u197, u198, u199, u200, u201, u202, u203, u204, u205], []⟩ v1)
    (hfl : ∀ W, Tab W → Calls Tryd.prog 56 #[.float .f64 x] W fun r w' => r = .returned (.tuple #[.agg #[.bool dn, .string dS, .int .i64 de], .int .i64 0]) ∧ Below W.heap.size W w')
    (hne : ∀ W, Tab W → Calls Tryd.prog 19 #[.agg #[.bool dn, .string dS, .int .i64 de]] W fun r w' => r = .returned (.tuple #[.float .f64 y, .int .i64 0]) ∧ Below W.heap.size W w')
    (hlo : ∀ W, Tab W → Calls Tryd.prog 20 #[.agg #[.bool dn, .string dS, .int .i64 de]] W fun r w' => r = .returned (.tuple #[.float .f64 y, .int .i64 0]) ∧ Below W.heap.size W w')
    (hhi : ∀ W, Tab W → Calls Tryd.prog 21 #[.agg #[.bool dn, .string dS, .int .i64 de]] W fun r w' => r = .returned (.tuple #[.float .f64 y, .int .i64 0]) ∧ Below W.heap.size W w')
    (hbi : z = false → ∀ W : World, Calls Tryd.prog 23 #[.float .f64 x, .float .f64 y] W fun r w' => r = .returned (.bool true) ∧ Below W.heap.size W w')
    (hsb : ∀ W : World, Calls Tryd.prog 94 #[.float .f64 y] W fun r w' => r = .returned (.bool t) ∧ Below W.heap.size W w')
    (e1 : (FloatKind.f64.format.order y x != some .eq) = false) (e2 : (FloatKind.f64.format.order x 0 != some .eq) = !z) (e3 : (FloatKind.f64.format.order x 0 == some .eq) = z) (hzt : z = true → t = false) :
    Calls Tryd.prog 17 #[.agg #[.bool an, .string aS, .int .i64 ae], .agg #[.bool bn, .string bS, .int .i64 be], .float .f64 x] w fun r w' => r = .returned (.bool true) ∧ Below w.heap.size w w' := by
  have haw := fun W hW => awake_any W hW
  go_enter Tryd.func17, Tryd.ntmps17
  have B0 := Below.refl w.heap.size w
  have F3 := Blk.put (w) #[.bool an, .string aS, .int .i64 ae] 24
  replace B0 := B0.alloc B0.size (.cells #[.bool an, .string aS, .int .i64 ae] 24)
  replace F3 := F3.allocd (.cells #[.bool bn, .string bS, .int .i64 be] 24)
  have F4 := Blk.put ((w).alloc (.cells #[.bool an, .string aS, .int .i64 ae] 24)) #[.bool bn, .string bS, .int .i64 be] 24
  rw [show ((w).alloc (.cells #[.bool an, .string aS, .int .i64 ae] 24)).heap.size = w.heap.size + 1 by simp] at F4
  replace B0 := B0.alloc B0.size (.cells #[.bool bn, .string bS, .int .i64 be] 24)
  go_wp2_with fail
  (with_reducible refine (haw _ (hT.below B0)).mono ?_)
  rintro r w1 ⟨rfl, hb1⟩
  replace F3 := F3.keep hb1
  replace F4 := F4.keep hb1
  replace B0 := B0.trans (hb1.mono B0.size)
  clear hb1
  go_wp2_with fail
  (with_reducible refine (hfl _ (hT.below B0)).mono ?_)
  rintro r w2 ⟨rfl, hb2⟩
  replace F3 := F3.keep hb2
  replace F4 := F4.keep hb2
  replace B0 := B0.trans (hb2.mono B0.size)
  clear hb2
  replace F3 := F3.allocd (.cells #[.bool dn, .string dS, .int .i64 de] 24)
  replace F4 := F4.allocd (.cells #[.bool dn, .string dS, .int .i64 de] 24)
  have F7 := Blk.put (w2) #[.bool dn, .string dS, .int .i64 de] 24
  replace B0 := B0.alloc B0.size (.cells #[.bool dn, .string dS, .int .i64 de] 24)
  go_wp2_with fail
  go_loopg [9] 3 (fun gh s9 wr => ∃ k : Int, ((k = 0 ∧ gh = 3) ∨ (k = 1 ∧ gh = 2) ∨ (k = 2 ∧ gh = 1) ∨ (k = 3 ∧ gh = 0)) ∧ s9 = .int .i64 k ∧ Blk wr w.heap.size #[.bool an, .string aS, .int .i64 ae] 24 ∧ Blk wr (w.heap.size + 1) #[.bool bn, .string bS, .int .i64 be] 24 ∧ Blk wr (w2.heap.size) #[.bool dn, .string dS, .int .i64 de] 24 ∧ Below w.heap.size w wr)
  case atStart => exact ⟨0, .inl ⟨rfl, rfl⟩, rfl, F3, F4, F7, B0⟩
  case round =>
    obtain ⟨k, hk, rfl, F3, F4, F7, B0⟩ := hrel
    rcases hk with ⟨rfl, rfl⟩ | ⟨rfl, rfl⟩ | ⟨rfl, rfl⟩ | ⟨rfl, rfl⟩
    · cases z
      · replace hbi := hbi rfl
        cases t
        · obtain ⟨xF750_0, xF750_1, xF750_2⟩ := F7.ce3
          go_wp2_with fail
          (with_reducible refine (hne _ (hT.below B0)).mono ?_)
          rintro r w21 ⟨rfl, hb21⟩
          clear xF750_0 xF750_1 xF750_2
          replace F3 := F3.keep hb21
          replace F4 := F4.keep hb21
          replace F7 := F7.keep hb21
          replace B0 := B0.trans (hb21.mono B0.size)
          clear hb21
          go_wp2_with fail
          (with_reducible refine (hbi _).mono ?_)
          rintro r w22 ⟨rfl, hb22⟩
          replace F3 := F3.keep hb22
          replace F4 := F4.keep hb22
          replace F7 := F7.keep hb22
          replace B0 := B0.trans (hb22.mono B0.size)
          clear hb22
          go_wp2_with fail
          (with_reducible refine (hsb _).mono ?_)
          rintro r w23 ⟨rfl, hb23⟩
          replace F3 := F3.keep hb23
          replace F4 := F4.keep hb23
          replace F7 := F7.keep hb23
          replace B0 := B0.trans (hb23.mono B0.size)
          clear hb23
          go_wp2
          go_roundg 2
          case measure => omega
          case rel => exact ⟨1, by simp, by go_num, F3, F4, F7, B0⟩
        · obtain ⟨xF750_0, xF750_1, xF750_2⟩ := F7.ce3
          go_wp2_with fail
          (with_reducible refine (hne _ (hT.below B0)).mono ?_)
          rintro r w21 ⟨rfl, hb21⟩
          clear xF750_0 xF750_1 xF750_2
          replace F3 := F3.keep hb21
          replace F4 := F4.keep hb21
          replace F7 := F7.keep hb21
          replace B0 := B0.trans (hb21.mono B0.size)
          clear hb21
          go_wp2_with fail
          (with_reducible refine (hbi _).mono ?_)
          rintro r w22 ⟨rfl, hb22⟩
          replace F3 := F3.keep hb22
          replace F4 := F4.keep hb22
          replace F7 := F7.keep hb22
          replace B0 := B0.trans (hb22.mono B0.size)
          clear hb22
          go_wp2_with fail
          (with_reducible refine (hsb _).mono ?_)
          rintro r w23 ⟨rfl, hb23⟩
          replace F3 := F3.keep hb23
          replace F4 := F4.keep hb23
          replace F7 := F7.keep hb23
          replace B0 := B0.trans (hb23.mono B0.size)
          clear hb23
          go_wp2
          go_roundg 2
          case measure => omega
          case rel => exact ⟨1, by simp, by go_num, F3, F4, F7, B0⟩
      · obtain rfl := hzt rfl
        obtain ⟨xF750_0, xF750_1, xF750_2⟩ := F7.ce3
        go_wp2_with fail
        (with_reducible refine (hne _ (hT.below B0)).mono ?_)
        rintro r w21 ⟨rfl, hb21⟩
        clear xF750_0 xF750_1 xF750_2
        replace F3 := F3.keep hb21
        replace F4 := F4.keep hb21
        replace F7 := F7.keep hb21
        replace B0 := B0.trans (hb21.mono B0.size)
        clear hb21
        go_wp2_with fail
        (with_reducible refine (hsb _).mono ?_)
        rintro r w22 ⟨rfl, hb22⟩
        replace F3 := F3.keep hb22
        replace F4 := F4.keep hb22
        replace F7 := F7.keep hb22
        replace B0 := B0.trans (hb22.mono B0.size)
        clear hb22
        go_wp2
        go_roundg 2
        case measure => omega
        case rel => exact ⟨1, by simp, by go_num, F3, F4, F7, B0⟩
    · cases z
      · replace hbi := hbi rfl
        cases t
        · obtain ⟨xF750_0, xF750_1, xF750_2⟩ := F7.ce3
          go_wp2_with fail
          (with_reducible refine (hne _ (hT.below B0)).mono ?_)
          rintro r w21 ⟨rfl, hb21⟩
          clear xF750_0 xF750_1 xF750_2
          replace F3 := F3.keep hb21
          replace F4 := F4.keep hb21
          replace F7 := F7.keep hb21
          replace B0 := B0.trans (hb21.mono B0.size)
          clear hb21
          obtain ⟨xF751_0, xF751_1, xF751_2⟩ := F7.ce3
          go_wp2_with fail
          (with_reducible refine (hlo _ (hT.below B0)).mono ?_)
          rintro r w22 ⟨rfl, hb22⟩
          clear xF751_0 xF751_1 xF751_2
          replace F3 := F3.keep hb22
          replace F4 := F4.keep hb22
          replace F7 := F7.keep hb22
          replace B0 := B0.trans (hb22.mono B0.size)
          clear hb22
          go_wp2_with fail
          (with_reducible refine (hbi _).mono ?_)
          rintro r w23 ⟨rfl, hb23⟩
          replace F3 := F3.keep hb23
          replace F4 := F4.keep hb23
          replace F7 := F7.keep hb23
          replace B0 := B0.trans (hb23.mono B0.size)
          clear hb23
          go_wp2_with fail
          (with_reducible refine (hsb _).mono ?_)
          rintro r w24 ⟨rfl, hb24⟩
          replace F3 := F3.keep hb24
          replace F4 := F4.keep hb24
          replace F7 := F7.keep hb24
          replace B0 := B0.trans (hb24.mono B0.size)
          clear hb24
          go_wp2
          go_roundg 1
          case measure => omega
          case rel => exact ⟨2, by simp, by go_num, F3, F4, F7, B0⟩
        · obtain ⟨xF750_0, xF750_1, xF750_2⟩ := F7.ce3
          go_wp2_with fail
          (with_reducible refine (hne _ (hT.below B0)).mono ?_)
          rintro r w21 ⟨rfl, hb21⟩
          clear xF750_0 xF750_1 xF750_2
          replace F3 := F3.keep hb21
          replace F4 := F4.keep hb21
          replace F7 := F7.keep hb21
          replace B0 := B0.trans (hb21.mono B0.size)
          clear hb21
          obtain ⟨xF751_0, xF751_1, xF751_2⟩ := F7.ce3
          go_wp2_with fail
          (with_reducible refine (hlo _ (hT.below B0)).mono ?_)
          rintro r w22 ⟨rfl, hb22⟩
          clear xF751_0 xF751_1 xF751_2
          replace F3 := F3.keep hb22
          replace F4 := F4.keep hb22
          replace F7 := F7.keep hb22
          replace B0 := B0.trans (hb22.mono B0.size)
          clear hb22
          go_wp2_with fail
          (with_reducible refine (hbi _).mono ?_)
          rintro r w23 ⟨rfl, hb23⟩
          replace F3 := F3.keep hb23
          replace F4 := F4.keep hb23
          replace F7 := F7.keep hb23
          replace B0 := B0.trans (hb23.mono B0.size)
          clear hb23
          go_wp2_with fail
          (with_reducible refine (hsb _).mono ?_)
          rintro r w24 ⟨rfl, hb24⟩
          replace F3 := F3.keep hb24
          replace F4 := F4.keep hb24
          replace F7 := F7.keep hb24
          replace B0 := B0.trans (hb24.mono B0.size)
          clear hb24
          go_wp2
          go_roundg 1
          case measure => omega
          case rel => exact ⟨2, by simp, by go_num, F3, F4, F7, B0⟩
      · obtain rfl := hzt rfl
        obtain ⟨xF750_0, xF750_1, xF750_2⟩ := F7.ce3
        go_wp2_with fail
        (with_reducible refine (hne _ (hT.below B0)).mono ?_)
        rintro r w21 ⟨rfl, hb21⟩
        clear xF750_0 xF750_1 xF750_2
        replace F3 := F3.keep hb21
        replace F4 := F4.keep hb21
        replace F7 := F7.keep hb21
        replace B0 := B0.trans (hb21.mono B0.size)
        clear hb21
        obtain ⟨xF751_0, xF751_1, xF751_2⟩ := F7.ce3
        go_wp2_with fail
        (with_reducible refine (hlo _ (hT.below B0)).mono ?_)
        rintro r w22 ⟨rfl, hb22⟩
        clear xF751_0 xF751_1 xF751_2
        replace F3 := F3.keep hb22
        replace F4 := F4.keep hb22
        replace F7 := F7.keep hb22
        replace B0 := B0.trans (hb22.mono B0.size)
        clear hb22
        go_wp2_with fail
        (with_reducible refine (hsb _).mono ?_)
        rintro r w23 ⟨rfl, hb23⟩
        replace F3 := F3.keep hb23
        replace F4 := F4.keep hb23
        replace F7 := F7.keep hb23
        replace B0 := B0.trans (hb23.mono B0.size)
        clear hb23
        go_wp2
        go_roundg 1
        case measure => omega
        case rel => exact ⟨2, by simp, by go_num, F3, F4, F7, B0⟩
    · cases z
      · replace hbi := hbi rfl
        cases t
        · obtain ⟨xF750_0, xF750_1, xF750_2⟩ := F7.ce3
          go_wp2_with fail
          (with_reducible refine (hne _ (hT.below B0)).mono ?_)
          rintro r w21 ⟨rfl, hb21⟩
          clear xF750_0 xF750_1 xF750_2
          replace F3 := F3.keep hb21
          replace F4 := F4.keep hb21
          replace F7 := F7.keep hb21
          replace B0 := B0.trans (hb21.mono B0.size)
          clear hb21
          obtain ⟨xF751_0, xF751_1, xF751_2⟩ := F7.ce3
          go_wp2_with fail
          (with_reducible refine (hhi _ (hT.below B0)).mono ?_)
          rintro r w22 ⟨rfl, hb22⟩
          clear xF751_0 xF751_1 xF751_2
          replace F3 := F3.keep hb22
          replace F4 := F4.keep hb22
          replace F7 := F7.keep hb22
          replace B0 := B0.trans (hb22.mono B0.size)
          clear hb22
          go_wp2_with fail
          (with_reducible refine (hbi _).mono ?_)
          rintro r w23 ⟨rfl, hb23⟩
          replace F3 := F3.keep hb23
          replace F4 := F4.keep hb23
          replace F7 := F7.keep hb23
          replace B0 := B0.trans (hb23.mono B0.size)
          clear hb23
          go_wp2_with fail
          (with_reducible refine (hsb _).mono ?_)
          rintro r w24 ⟨rfl, hb24⟩
          replace F3 := F3.keep hb24
          replace F4 := F4.keep hb24
          replace F7 := F7.keep hb24
          replace B0 := B0.trans (hb24.mono B0.size)
          clear hb24
          go_wp2
          go_roundg 0
          case measure => omega
          case rel => exact ⟨3, by simp, by go_num, F3, F4, F7, B0⟩
        · obtain ⟨xF750_0, xF750_1, xF750_2⟩ := F7.ce3
          go_wp2_with fail
          (with_reducible refine (hne _ (hT.below B0)).mono ?_)
          rintro r w21 ⟨rfl, hb21⟩
          clear xF750_0 xF750_1 xF750_2
          replace F3 := F3.keep hb21
          replace F4 := F4.keep hb21
          replace F7 := F7.keep hb21
          replace B0 := B0.trans (hb21.mono B0.size)
          clear hb21
          obtain ⟨xF751_0, xF751_1, xF751_2⟩ := F7.ce3
          go_wp2_with fail
          (with_reducible refine (hhi _ (hT.below B0)).mono ?_)
          rintro r w22 ⟨rfl, hb22⟩
          clear xF751_0 xF751_1 xF751_2
          replace F3 := F3.keep hb22
          replace F4 := F4.keep hb22
          replace F7 := F7.keep hb22
          replace B0 := B0.trans (hb22.mono B0.size)
          clear hb22
          go_wp2_with fail
          (with_reducible refine (hbi _).mono ?_)
          rintro r w23 ⟨rfl, hb23⟩
          replace F3 := F3.keep hb23
          replace F4 := F4.keep hb23
          replace F7 := F7.keep hb23
          replace B0 := B0.trans (hb23.mono B0.size)
          clear hb23
          go_wp2_with fail
          (with_reducible refine (hsb _).mono ?_)
          rintro r w24 ⟨rfl, hb24⟩
          replace F3 := F3.keep hb24
          replace F4 := F4.keep hb24
          replace F7 := F7.keep hb24
          replace B0 := B0.trans (hb24.mono B0.size)
          clear hb24
          go_wp2
          go_roundg 0
          case measure => omega
          case rel => exact ⟨3, by simp, by go_num, F3, F4, F7, B0⟩
      · obtain rfl := hzt rfl
        obtain ⟨xF750_0, xF750_1, xF750_2⟩ := F7.ce3
        go_wp2_with fail
        (with_reducible refine (hne _ (hT.below B0)).mono ?_)
        rintro r w21 ⟨rfl, hb21⟩
        clear xF750_0 xF750_1 xF750_2
        replace F3 := F3.keep hb21
        replace F4 := F4.keep hb21
        replace F7 := F7.keep hb21
        replace B0 := B0.trans (hb21.mono B0.size)
        clear hb21
        obtain ⟨xF751_0, xF751_1, xF751_2⟩ := F7.ce3
        go_wp2_with fail
        (with_reducible refine (hhi _ (hT.below B0)).mono ?_)
        rintro r w22 ⟨rfl, hb22⟩
        clear xF751_0 xF751_1 xF751_2
        replace F3 := F3.keep hb22
        replace F4 := F4.keep hb22
        replace F7 := F7.keep hb22
        replace B0 := B0.trans (hb22.mono B0.size)
        clear hb22
        go_wp2_with fail
        (with_reducible refine (hsb _).mono ?_)
        rintro r w23 ⟨rfl, hb23⟩
        replace F3 := F3.keep hb23
        replace F4 := F4.keep hb23
        replace F7 := F7.keep hb23
        replace B0 := B0.trans (hb23.mono B0.size)
        clear hb23
        go_wp2
        go_roundg 0
        case measure => omega
        case rel => exact ⟨3, by simp, by go_num, F3, F4, F7, B0⟩
    · first
      | exact HR _ F3 F4 B0 _ _ _ _ _ _ _ _ _ _ _ _ _ _ _ _ _ _ _ _ _ _ _ _ _ _ _ _ _ _ _ _ _ _ _ _ _ _ _ _ _ _ _ _ _ _ _ _ _ _ _ _ _ _ _ _ _ _ _ _ _ _ _ _ _ _ _ _ _ _ _ _ _ _ _ _ _ _ _ _ _ _ _ _ _ _ _ _ _ _ _ _ _ _ _ _ _ _ _ _ _ _ _ _ _ _ _ _ _ _ _ _ _ _ _ _ _ _ _ _ _ _ _ _ _ _ _ _ _ _ _ _ _ _ _ _ _ _ _ _ _ _ _ _ _ _ _ _ _ _ _ _ _ _ _ _ _ _ _ _ _ _ _ _ _ _ _ _ _ _ _ _ _ _ _ _ _ _ _ _ _ _ _ _ _ _ _ _ _ _ _ _ _ _ _ _ _ _ _ _ _
      | (go_step
         first
       | exact HR _ F3 F4 B0 _ _ _ _ _ _ _ _ _ _ _ _ _ _ _ _ _ _ _ _ _ _ _ _ _ _ _ _ _ _ _ _ _ _ _ _ _ _ _ _ _ _ _ _ _ _ _ _ _ _ _ _ _ _ _ _ _ _ _ _ _ _ _ _ _ _ _ _ _ _ _ _ _ _ _ _ _ _ _ _ _ _ _ _ _ _ _ _ _ _ _ _ _ _ _ _ _ _ _ _ _ _ _ _ _ _ _ _ _ _ _ _ _ _ _ _ _ _ _ _ _ _ _ _ _ _ _ _ _ _ _ _ _ _ _ _ _ _ _ _ _ _ _ _ _ _ _ _ _ _ _ _ _ _ _ _ _ _ _ _ _ _ _ _ _ _ _ _ _ _ _ _ _ _ _ _ _ _ _ _ _ _ _ _ _ _ _ _ _ _ _ _ _ _ _ _ _ _ _ _ _
       | (go_step
          first
        | exact HR _ F3 F4 B0 _ _ _ _ _ _ _ _ _ _ _ _ _ _ _ _ _ _ _ _ _ _ _ _ _ _ _ _ _ _ _ _ _ _ _ _ _ _ _ _ _ _ _ _ _ _ _ _ _ _ _ _ _ _ _ _ _ _ _ _ _ _ _ _ _ _ _ _ _ _ _ _ _ _ _ _ _ _ _ _ _ _ _ _ _ _ _ _ _ _ _ _ _ _ _ _ _ _ _ _ _ _ _ _ _ _ _ _ _ _ _ _ _ _ _ _ _ _ _ _ _ _ _ _ _ _ _ _ _ _ _ _ _ _ _ _ _ _ _ _ _ _ _ _ _ _ _ _ _ _ _ _ _ _ _ _ _ _ _ _ _ _ _ _ _ _ _ _ _ _ _ _ _ _ _ _ _ _ _ _ _ _ _ _ _ _ _ _ _ _ _ _ _ _ _ _ _ _ _ _ _
        | (go_step
           first
         | exact HR _ F3 F4 B0 _ _ _ _ _ _ _ _ _ _ _ _ _ _ _ _ _ _ _ _ _ _ _ _ _ _ _ _ _ _ _ _ _ _ _ _ _ _ _ _ _ _ _ _ _ _ _ _ _ _ _ _ _ _ _ _ _ _ _ _ _ _ _ _ _ _ _ _ _ _ _ _ _ _ _ _ _ _ _ _ _ _ _ _ _ _ _ _ _ _ _ _ _ _ _ _ _ _ _ _ _ _ _ _ _ _ _ _ _ _ _ _ _ _ _ _ _ _ _ _ _ _ _ _ _ _ _ _ _ _ _ _ _ _ _ _ _ _ _ _ _ _ _ _ _ _ _ _ _ _ _ _ _ _ _ _ _ _ _ _ _ _ _ _ _ _ _ _ _ _ _ _ _ _ _ _ _ _ _ _ _ _ _ _ _ _ _ _ _ _ _ _ _ _ _ _ _ _ _ _ _
         | (go_step
            first
          | exact HR _ F3 F4 B0 _ _ _ _ _ _ _ _ _ _ _ _ _ _ _ _ _ _ _ _ _ _ _ _ _ _ _ _ _ _ _ _ _ _ _ _ _ _ _ _ _ _ _ _ _ _ _ _ _ _ _ _ _ _ _ _ _ _ _ _ _ _ _ _ _ _ _ _ _ _ _ _ _ _ _ _ _ _ _ _ _ _ _ _ _ _ _ _ _ _ _ _ _ _ _ _ _ _ _ _ _ _ _ _ _ _ _ _ _ _ _ _ _ _ _ _ _ _ _ _ _ _ _ _ _ _ _ _ _ _ _ _ _ _ _ _ _ _ _ _ _ _ _ _ _ _ _ _ _ _ _ _ _ _ _ _ _ _ _ _ _ _ _ _ _ _ _ _ _ _ _ _ _ _ _ _ _ _ _ _ _ _ _ _ _ _ _ _ _ _ _ _ _ _ _ _ _ _ _ _ _
          | (go_step
             first
           | exact HR _ F3 F4 B0 _ _ _ _ _ _ _ _ _ _ _ _ _ _ _ _ _ _ _ _ _ _ _ _ _ _ _ _ _ _ _ _ _ _ _ _ _ _ _ _ _ _ _ _ _ _ _ _ _ _ _ _ _ _ _ _ _ _ _ _ _ _ _ _ _ _ _ _ _ _ _ _ _ _ _ _ _ _ _ _ _ _ _ _ _ _ _ _ _ _ _ _ _ _ _ _ _ _ _ _ _ _ _ _ _ _ _ _ _ _ _ _ _ _ _ _ _ _ _ _ _ _ _ _ _ _ _ _ _ _ _ _ _ _ _ _ _ _ _ _ _ _ _ _ _ _ _ _ _ _ _ _ _ _ _ _ _ _ _ _ _ _ _ _ _ _ _ _ _ _ _ _ _ _ _ _ _ _ _ _ _ _ _ _ _ _ _ _ _ _ _ _ _ _ _ _ _ _ _ _ _
           | (go_step
              first
            | exact HR _ F3 F4 B0 _ _ _ _ _ _ _ _ _ _ _ _ _ _ _ _ _ _ _ _ _ _ _ _ _ _ _ _ _ _ _ _ _ _ _ _ _ _ _ _ _ _ _ _ _ _ _ _ _ _ _ _ _ _ _ _ _ _ _ _ _ _ _ _ _ _ _ _ _ _ _ _ _ _ _ _ _ _ _ _ _ _ _ _ _ _ _ _ _ _ _ _ _ _ _ _ _ _ _ _ _ _ _ _ _ _ _ _ _ _ _ _ _ _ _ _ _ _ _ _ _ _ _ _ _ _ _ _ _ _ _ _ _ _ _ _ _ _ _ _ _ _ _ _ _ _ _ _ _ _ _ _ _ _ _ _ _ _ _ _ _ _ _ _ _ _ _ _ _ _ _ _ _ _ _ _ _ _ _ _ _ _ _ _ _ _ _ _ _ _ _ _ _ _ _ _ _ _ _ _ _
            | (go_step
               first
             | exact HR _ F3 F4 B0 _ _ _ _ _ _ _ _ _ _ _ _ _ _ _ _ _ _ _ _ _ _ _ _ _ _ _ _ _ _ _ _ _ _ _ _ _ _ _ _ _ _ _ _ _ _ _ _ _ _ _ _ _ _ _ _ _ _ _ _ _ _ _ _ _ _ _ _ _ _ _ _ _ _ _ _ _ _ _ _ _ _ _ _ _ _ _ _ _ _ _ _ _ _ _ _ _ _ _ _ _ _ _ _ _ _ _ _ _ _ _ _ _ _ _ _ _ _ _ _ _ _ _ _ _ _ _ _ _ _ _ _ _ _ _ _ _ _ _ _ _ _ _ _ _ _ _ _ _ _ _ _ _ _ _ _ _ _ _ _ _ _ _ _ _ _ _ _ _ _ _ _ _ _ _ _ _ _ _ _ _ _ _ _ _ _ _ _ _ _ _ _ _ _ _ _ _ _ _ _ _
             | (go_step
                first
              | exact HR _ F3 F4 B0 _ _ _ _ _ _ _ _ _ _ _ _ _ _ _ _ _ _ _ _ _ _ _ _ _ _ _ _ _ _ _ _ _ _ _ _ _ _ _ _ _ _ _ _ _ _ _ _ _ _ _ _ _ _ _ _ _ _ _ _ _ _ _ _ _ _ _ _ _ _ _ _ _ _ _ _ _ _ _ _ _ _ _ _ _ _ _ _ _ _ _ _ _ _ _ _ _ _ _ _ _ _ _ _ _ _ _ _ _ _ _ _ _ _ _ _ _ _ _ _ _ _ _ _ _ _ _ _ _ _ _ _ _ _ _ _ _ _ _ _ _ _ _ _ _ _ _ _ _ _ _ _ _ _ _ _ _ _ _ _ _ _ _ _ _ _ _ _ _ _ _ _ _ _ _ _ _ _ _ _ _ _ _ _ _ _ _ _ _ _ _ _ _ _ _ _ _ _ _ _ _
              | (go_step
                 first
               | exact HR _ F3 F4 B0 _ _ _ _ _ _ _ _ _ _ _ _ _ _ _ _ _ _ _ _ _ _ _ _ _ _ _ _ _ _ _ _ _ _ _ _ _ _ _ _ _ _ _ _ _ _ _ _ _ _ _ _ _ _ _ _ _ _ _ _ _ _ _ _ _ _ _ _ _ _ _ _ _ _ _ _ _ _ _ _ _ _ _ _ _ _ _ _ _ _ _ _ _ _ _ _ _ _ _ _ _ _ _ _ _ _ _ _ _ _ _ _ _ _ _ _ _ _ _ _ _ _ _ _ _ _ _ _ _ _ _ _ _ _ _ _ _ _ _ _ _ _ _ _ _ _ _ _ _ _ _ _ _ _ _ _ _ _ _ _ _ _ _ _ _ _ _ _ _ _ _ _ _ _ _ _ _ _ _ _ _ _ _ _ _ _ _ _ _ _ _ _ _ _ _ _ _ _ _ _ _
               | (go_step
                  first
                | exact HR _ F3 F4 B0 _ _ _ _ _ _ _ _ _ _ _ _ _ _ _ _ _ _ _ _ _ _ _ _ _ _ _ _ _ _ _ _ _ _ _ _ _ _ _ _ _ _ _ _ _ _ _ _ _ _ _ _ _ _ _ _ _ _ _ _ _ _ _ _ _ _ _ _ _ _ _ _ _ _ _ _ _ _ _ _ _ _ _ _ _ _ _ _ _ _ _ _ _ _ _ _ _ _ _ _ _ _ _ _ _ _ _ _ _ _ _ _ _ _ _ _ _ _ _ _ _ _ _ _ _ _ _ _ _ _ _ _ _ _ _ _ _ _ _ _ _ _ _ _ _ _ _ _ _ _ _ _ _ _ _ _ _ _ _ _ _ _ _ _ _ _ _ _ _ _ _ _ _ _ _ _ _ _ _ _ _ _ _ _ _ _ _ _ _ _ _ _ _ _ _ _ _ _ _ _ _
                | (go_step
                   first
                 | exact HR _ F3 F4 B0 _ _ _ _ _ _ _ _ _ _ _ _ _ _ _ _ _ _ _ _ _ _ _ _ _ _ _ _ _ _ _ _ _ _ _ _ _ _ _ _ _ _ _ _ _ _ _ _ _ _ _ _ _ _ _ _ _ _ _ _ _ _ _ _ _ _ _ _ _ _ _ _ _ _ _ _ _ _ _ _ _ _ _ _ _ _ _ _ _ _ _ _ _ _ _ _ _ _ _ _ _ _ _ _ _ _ _ _ _ _ _ _ _ _ _ _ _ _ _ _ _ _ _ _ _ _ _ _ _ _ _ _ _ _ _ _ _ _ _ _ _ _ _ _ _ _ _ _ _ _ _ _ _ _ _ _ _ _ _ _ _ _ _ _ _ _ _ _ _ _ _ _ _ _ _ _ _ _ _ _ _ _ _ _ _ _ _ _ _ _ _ _ _ _ _ _ _ _ _ _ _
                 | (go_step
                    first
                  | exact HR _ F3 F4 B0 _ _ _ _ _ _ _ _ _ _ _ _ _ _ _ _ _ _ _ _ _ _ _ _ _ _ _ _ _ _ _ _ _ _ _ _ _ _ _ _ _ _ _ _ _ _ _ _ _ _ _ _ _ _ _ _ _ _ _ _ _ _ _ _ _ _ _ _ _ _ _ _ _ _ _ _ _ _ _ _ _ _ _ _ _ _ _ _ _ _ _ _ _ _ _ _ _ _ _ _ _ _ _ _ _ _ _ _ _ _ _ _ _ _ _ _ _ _ _ _ _ _ _ _ _ _ _ _ _ _ _ _ _ _ _ _ _ _ _ _ _ _ _ _ _ _ _ _ _ _ _ _ _ _ _ _ _ _ _ _ _ _ _ _ _ _ _ _ _ _ _ _ _ _ _ _ _ _ _ _ _ _ _ _ _ _ _ _ _ _ _ _ _ _ _ _ _ _ _ _ _
                  | (go_step
                     first
                   | exact HR _ F3 F4 B0 _ _ _ _ _ _ _ _ _ _ _ _ _ _ _ _ _ _ _ _ _ _ _ _ _ _ _ _ _ _ _ _ _ _ _ _ _ _ _ _ _ _ _ _ _ _ _ _ _ _ _ _ _ _ _ _ _ _ _ _ _ _ _ _ _ _ _ _ _ _ _ _ _ _ _ _ _ _ _ _ _ _ _ _ _ _ _ _ _ _ _ _ _ _ _ _ _ _ _ _ _ _ _ _ _ _ _ _ _ _ _ _ _ _ _ _ _ _ _ _ _ _ _ _ _ _ _ _ _ _ _ _ _ _ _ _ _ _ _ _ _ _ _ _ _ _ _ _ _ _ _ _ _ _ _ _ _ _ _ _ _ _ _ _ _ _ _ _ _ _ _ _ _ _ _ _ _ _ _ _ _ _ _ _ _ _ _ _ _ _ _ _ _ _ _ _ _ _ _ _ _
                   | (go_step
                      first
                    | exact HR _ F3 F4 B0 _ _ _ _ _ _ _ _ _ _ _ _ _ _ _ _ _ _ _ _ _ _ _ _ _ _ _ _ _ _ _ _ _ _ _ _ _ _ _ _ _ _ _ _ _ _ _ _ _ _ _ _ _ _ _ _ _ _ _ _ _ _ _ _ _ _ _ _ _ _ _ _ _ _ _ _ _ _ _ _ _ _ _ _ _ _ _ _ _ _ _ _ _ _ _ _ _ _ _ _ _ _ _ _ _ _ _ _ _ _ _ _ _ _ _ _ _ _ _ _ _ _ _ _ _ _ _ _ _ _ _ _ _ _ _ _ _ _ _ _ _ _ _ _ _ _ _ _ _ _ _ _ _ _ _ _ _ _ _ _ _ _ _ _ _ _ _ _ _ _ _ _ _ _ _ _ _ _ _ _ _ _ _ _ _ _ _ _ _ _ _ _ _ _ _ _ _ _ _ _ _
                    | (go_step
                       first
                     | exact HR _ F3 F4 B0 _ _ _ _ _ _ _ _ _ _ _ _ _ _ _ _ _ _ _ _ _ _ _ _ _ _ _ _ _ _ _ _ _ _ _ _ _ _ _ _ _ _ _ _ _ _ _ _ _ _ _ _ _ _ _ _ _ _ _ _ _ _ _ _ _ _ _ _ _ _ _ _ _ _ _ _ _ _ _ _ _ _ _ _ _ _ _ _ _ _ _ _ _ _ _ _ _ _ _ _ _ _ _ _ _ _ _ _ _ _ _ _ _ _ _ _ _ _ _ _ _ _ _ _ _ _ _ _ _ _ _ _ _ _ _ _ _ _ _ _ _ _ _ _ _ _ _ _ _ _ _ _ _ _ _ _ _ _ _ _ _ _ _ _ _ _ _ _ _ _ _ _ _ _ _ _ _ _ _ _ _ _ _ _ _ _ _ _ _ _ _ _ _ _ _ _ _ _ _ _ _
                     | (go_step
                        first
                      | exact HR _ F3 F4 B0 _ _ _ _ _ _ _ _ _ _ _ _ _ _ _ _ _ _ _ _ _ _ _ _ _ _ _ _ _ _ _ _ _ _ _ _ _ _ _ _ _ _ _ _ _ _ _ _ _ _ _ _ _ _ _ _ _ _ _ _ _ _ _ _ _ _ _ _ _ _ _ _ _ _ _ _ _ _ _ _ _ _ _ _ _ _ _ _ _ _ _ _ _ _ _ _ _ _ _ _ _ _ _ _ _ _ _ _ _ _ _ _ _ _ _ _ _ _ _ _ _ _ _ _ _ _ _ _ _ _ _ _ _ _ _ _ _ _ _ _ _ _ _ _ _ _ _ _ _ _ _ _ _ _ _ _ _ _ _ _ _ _ _ _ _ _ _ _ _ _ _ _ _ _ _ _ _ _ _ _ _ _ _ _ _ _ _ _ _ _ _ _ _ _ _ _ _ _ _ _ _
                      | (go_step
                         first
                       | exact HR _ F3 F4 B0 _ _ _ _ _ _ _ _ _ _ _ _ _ _ _ _ _ _ _ _ _ _ _ _ _ _ _ _ _ _ _ _ _ _ _ _ _ _ _ _ _ _ _ _ _ _ _ _ _ _ _ _ _ _ _ _ _ _ _ _ _ _ _ _ _ _ _ _ _ _ _ _ _ _ _ _ _ _ _ _ _ _ _ _ _ _ _ _ _ _ _ _ _ _ _ _ _ _ _ _ _ _ _ _ _ _ _ _ _ _ _ _ _ _ _ _ _ _ _ _ _ _ _ _ _ _ _ _ _ _ _ _ _ _ _ _ _ _ _ _ _ _ _ _ _ _ _ _ _ _ _ _ _ _ _ _ _ _ _ _ _ _ _ _ _ _ _ _ _ _ _ _ _ _ _ _ _ _ _ _ _ _ _ _ _ _ _ _ _ _ _ _ _ _ _ _ _ _ _ _ _
                       | (go_step
                          first
                        | exact HR _ F3 F4 B0 _ _ _ _ _ _ _ _ _ _ _ _ _ _ _ _ _ _ _ _ _ _ _ _ _ _ _ _ _ _ _ _ _ _ _ _ _ _ _ _ _ _ _ _ _ _ _ _ _ _ _ _ _ _ _ _ _ _ _ _ _ _ _ _ _ _ _ _ _ _ _ _ _ _ _ _ _ _ _ _ _ _ _ _ _ _ _ _ _ _ _ _ _ _ _ _ _ _ _ _ _ _ _ _ _ _ _ _ _ _ _ _ _ _ _ _ _ _ _ _ _ _ _ _ _ _ _ _ _ _ _ _ _ _ _ _ _ _ _ _ _ _ _ _ _ _ _ _ _ _ _ _ _ _ _ _ _ _ _ _ _ _ _ _ _ _ _ _ _ _ _ _ _ _ _ _ _ _ _ _ _ _ _ _ _ _ _ _ _ _ _ _ _ _ _ _ _ _ _ _ _
                        | (go_step
                           first
                         | exact HR _ F3 F4 B0 _ _ _ _ _ _ _ _ _ _ _ _ _ _ _ _ _ _ _ _ _ _ _ _ _ _ _ _ _ _ _ _ _ _ _ _ _ _ _ _ _ _ _ _ _ _ _ _ _ _ _ _ _ _ _ _ _ _ _ _ _ _ _ _ _ _ _ _ _ _ _ _ _ _ _ _ _ _ _ _ _ _ _ _ _ _ _ _ _ _ _ _ _ _ _ _ _ _ _ _ _ _ _ _ _ _ _ _ _ _ _ _ _ _ _ _ _ _ _ _ _ _ _ _ _ _ _ _ _ _ _ _ _ _ _ _ _ _ _ _ _ _ _ _ _ _ _ _ _ _ _ _ _ _ _ _ _ _ _ _ _ _ _ _ _ _ _ _ _ _ _ _ _ _ _ _ _ _ _ _ _ _ _ _ _ _ _ _ _ _ _ _ _ _ _ _ _ _ _ _ _
                         | (go_step
                            first
                          | exact HR _ F3 F4 B0 _ _ _ _ _ _ _ _ _ _ _ _ _ _ _ _ _ _ _ _ _ _ _ _ _ _ _ _ _ _ _ _ _ _ _ _ _ _ _ _ _ _ _ _ _ _ _ _ _ _ _ _ _ _ _ _ _ _ _ _ _ _ _ _ _ _ _ _ _ _ _ _ _ _ _ _ _ _ _ _ _ _ _ _ _ _ _ _ _ _ _ _ _ _ _ _ _ _ _ _ _ _ _ _ _ _ _ _ _ _ _ _ _ _ _ _ _ _ _ _ _ _ _ _ _ _ _ _ _ _ _ _ _ _ _ _ _ _ _ _ _ _ _ _ _ _ _ _ _ _ _ _ _ _ _ _ _ _ _ _ _ _ _ _ _ _ _ _ _ _ _ _ _ _ _ _ _ _ _ _ _ _ _ _ _ _ _ _ _ _ _ _ _ _ _ _ _ _ _ _ _
                          | (go_step
                             first
                           | exact HR _ F3 F4 B0 _ _ _ _ _ _ _ _ _ _ _ _ _ _ _ _ _ _ _ _ _ _ _ _ _ _ _ _ _ _ _ _ _ _ _ _ _ _ _ _ _ _ _ _ _ _ _ _ _ _ _ _ _ _ _ _ _ _ _ _ _ _ _ _ _ _ _ _ _ _ _ _ _ _ _ _ _ _ _ _ _ _ _ _ _ _ _ _ _ _ _ _ _ _ _ _ _ _ _ _ _ _ _ _ _ _ _ _ _ _ _ _ _ _ _ _ _ _ _ _ _ _ _ _ _ _ _ _ _ _ _ _ _ _ _ _ _ _ _ _ _ _ _ _ _ _ _ _ _ _ _ _ _ _ _ _ _ _ _ _ _ _ _ _ _ _ _ _ _ _ _ _ _ _ _ _ _ _ _ _ _ _ _ _ _ _ _ _ _ _ _ _ _ _ _ _ _ _ _ _ _
                           | (go_step
                              first
                            | exact HR _ F3 F4 B0 _ _ _ _ _ _ _ _ _ _ _ _ _ _ _ _ _ _ _ _ _ _ _ _ _ _ _ _ _ _ _ _ _ _ _ _ _ _ _ _ _ _ _ _ _ _ _ _ _ _ _ _ _ _ _ _ _ _ _ _ _ _ _ _ _ _ _ _ _ _ _ _ _ _ _ _ _ _ _ _ _ _ _ _ _ _ _ _ _ _ _ _ _ _ _ _ _ _ _ _ _ _ _ _ _ _ _ _ _ _ _ _ _ _ _ _ _ _ _ _ _ _ _ _ _ _ _ _ _ _ _ _ _ _ _ _ _ _ _ _ _ _ _ _ _ _ _ _ _ _ _ _ _ _ _ _ _ _ _ _ _ _ _ _ _ _ _ _ _ _ _ _ _ _ _ _ _ _ _ _ _ _ _ _ _ _ _ _ _ _ _ _ _ _ _ _ _ _ _ _ _
                            | (go_step
                               first
                             | exact HR _ F3 F4 B0 _ _ _ _ _ _ _ _ _ _ _ _ _ _ _ _ _ _ _ _ _ _ _ _ _ _ _ _ _ _ _ _ _ _ _ _ _ _ _ _ _ _ _ _ _ _ _ _ _ _ _ _ _ _ _ _ _ _ _ _ _ _ _ _ _ _ _ _ _ _ _ _ _ _ _ _ _ _ _ _ _ _ _ _ _ _ _ _ _ _ _ _ _ _ _ _ _ _ _ _ _ _ _ _ _ _ _ _ _ _ _ _ _ _ _ _ _ _ _ _ _ _ _ _ _ _ _ _ _ _ _ _ _ _ _ _ _ _ _ _ _ _ _ _ _ _ _ _ _ _ _ _ _ _ _ _ _ _ _ _ _ _ _ _ _ _ _ _ _ _ _ _ _ _ _ _ _ _ _ _ _ _ _ _ _ _ _ _ _ _ _ _ _ _ _ _ _ _ _ _ _
                             | (go_step
                                first
                              | exact HR _ F3 F4 B0 _ _ _ _ _ _ _ _ _ _ _ _ _ _ _ _ _ _ _ _ _ _ _ _ _ _ _ _ _ _ _ _ _ _ _ _ _ _ _ _ _ _ _ _ _ _ _ _ _ _ _ _ _ _ _ _ _ _ _ _ _ _ _ _ _ _ _ _ _ _ _ _ _ _ _ _ _ _ _ _ _ _ _ _ _ _ _ _ _ _ _ _ _ _ _ _ _ _ _ _ _ _ _ _ _ _ _ _ _ _ _ _ _ _ _ _ _ _ _ _ _ _ _ _ _ _ _ _ _ _ _ _ _ _ _ _ _ _ _ _ _ _ _ _ _ _ _ _ _ _ _ _ _ _ _ _ _ _ _ _ _ _ _ _ _ _ _ _ _ _ _ _ _ _ _ _ _ _ _ _ _ _ _ _ _ _ _ _ _ _ _ _ _ _ _ _ _ _ _ _ _
                              | (go_step
                                 first
                               | exact HR _ F3 F4 B0 _ _ _ _ _ _ _ _ _ _ _ _ _ _ _ _ _ _ _ _ _ _ _ _ _ _ _ _ _ _ _ _ _ _ _ _ _ _ _ _ _ _ _ _ _ _ _ _ _ _ _ _ _ _ _ _ _ _ _ _ _ _ _ _ _ _ _ _ _ _ _ _ _ _ _ _ _ _ _ _ _ _ _ _ _ _ _ _ _ _ _ _ _ _ _ _ _ _ _ _ _ _ _ _ _ _ _ _ _ _ _ _ _ _ _ _ _ _ _ _ _ _ _ _ _ _ _ _ _ _ _ _ _ _ _ _ _ _ _ _ _ _ _ _ _ _ _ _ _ _ _ _ _ _ _ _ _ _ _ _ _ _ _ _ _ _ _ _ _ _ _ _ _ _ _ _ _ _ _ _ _ _ _ _ _ _ _ _ _ _ _ _ _ _ _ _ _ _ _ _ _
                               | (go_step
                                  first
                                | exact HR _ F3 F4 B0 _ _ _ _ _ _ _ _ _ _ _ _ _ _ _ _ _ _ _ _ _ _ _ _ _ _ _ _ _ _ _ _ _ _ _ _ _ _ _ _ _ _ _ _ _ _ _ _ _ _ _ _ _ _ _ _ _ _ _ _ _ _ _ _ _ _ _ _ _ _ _ _ _ _ _ _ _ _ _ _ _ _ _ _ _ _ _ _ _ _ _ _ _ _ _ _ _ _ _ _ _ _ _ _ _ _ _ _ _ _ _ _ _ _ _ _ _ _ _ _ _ _ _ _ _ _ _ _ _ _ _ _ _ _ _ _ _ _ _ _ _ _ _ _ _ _ _ _ _ _ _ _ _ _ _ _ _ _ _ _ _ _ _ _ _ _ _ _ _ _ _ _ _ _ _ _ _ _ _ _ _ _ _ _ _ _ _ _ _ _ _ _ _ _ _ _ _ _ _ _ _
                                | (go_step
                                   first
                                 | exact HR _ F3 F4 B0 _ _ _ _ _ _ _ _ _ _ _ _ _ _ _ _ _ _ _ _ _ _ _ _ _ _ _ _ _ _ _ _ _ _ _ _ _ _ _ _ _ _ _ _ _ _ _ _ _ _ _ _ _ _ _ _ _ _ _ _ _ _ _ _ _ _ _ _ _ _ _ _ _ _ _ _ _ _ _ _ _ _ _ _ _ _ _ _ _ _ _ _ _ _ _ _ _ _ _ _ _ _ _ _ _ _ _ _ _ _ _ _ _ _ _ _ _ _ _ _ _ _ _ _ _ _ _ _ _ _ _ _ _ _ _ _ _ _ _ _ _ _ _ _ _ _ _ _ _ _ _ _ _ _ _ _ _ _ _ _ _ _ _ _ _ _ _ _ _ _ _ _ _ _ _ _ _ _ _ _ _ _ _ _ _ _ _ _ _ _ _ _ _ _ _ _ _ _ _ _ _
                                 | (go_step
                                    first
                                  | exact HR _ F3 F4 B0 _ _ _ _ _ _ _ _ _ _ _ _ _ _ _ _ _ _ _ _ _ _ _ _ _ _ _ _ _ _ _ _ _ _ _ _ _ _ _ _ _ _ _ _ _ _ _ _ _ _ _ _ _ _ _ _ _ _ _ _ _ _ _ _ _ _ _ _ _ _ _ _ _ _ _ _ _ _ _ _ _ _ _ _ _ _ _ _ _ _ _ _ _ _ _ _ _ _ _ _ _ _ _ _ _ _ _ _ _ _ _ _ _ _ _ _ _ _ _ _ _ _ _ _ _ _ _ _ _ _ _ _ _ _ _ _ _ _ _ _ _ _ _ _ _ _ _ _ _ _ _ _ _ _ _ _ _ _ _ _ _ _ _ _ _ _ _ _ _ _ _ _ _ _ _ _ _ _ _ _ _ _ _ _ _ _ _ _ _ _ _ _ _ _ _ _ _ _ _ _ _
                                  | (go_step
                                     first
                                   | exact HR _ F3 F4 B0 _ _ _ _ _ _ _ _ _ _ _ _ _ _ _ _ _ _ _ _ _ _ _ _ _ _ _ _ _ _ _ _ _ _ _ _ _ _ _ _ _ _ _ _ _ _ _ _ _ _ _ _ _ _ _ _ _ _ _ _ _ _ _ _ _ _ _ _ _ _ _ _ _ _ _ _ _ _ _ _ _ _ _ _ _ _ _ _ _ _ _ _ _ _ _ _ _ _ _ _ _ _ _ _ _ _ _ _ _ _ _ _ _ _ _ _ _ _ _ _ _ _ _ _ _ _ _ _ _ _ _ _ _ _ _ _ _ _ _ _ _ _ _ _ _ _ _ _ _ _ _ _ _ _ _ _ _ _ _ _ _ _ _ _ _ _ _ _ _ _ _ _ _ _ _ _ _ _ _ _ _ _ _ _ _ _ _ _ _ _ _ _ _ _ _ _ _ _ _ _ _
                                   | (go_step
                                      exact HR _ F3 F4 B0 _ _ _ _ _ _ _ _ _ _ _ _ _ _ _ _ _ _ _ _ _ _ _ _ _ _ _ _ _ _ _ _ _ _ _ _ _ _ _ _ _ _ _ _ _ _ _ _ _ _ _ _ _ _ _ _ _ _ _ _ _ _ _ _ _ _ _ _ _ _ _ _ _ _ _ _ _ _ _ _ _ _ _ _ _ _ _ _ _ _ _ _ _ _ _ _ _ _ _ _ _ _ _ _ _ _ _ _ _ _ _ _ _ _ _ _ _ _ _ _ _ _ _ _ _ _ _ _ _ _ _ _ _ _ _ _ _ _ _ _ _ _ _ _ _ _ _ _ _ _ _ _ _ _ _ _ _ _ _ _ _ _ _ _ _ _ _ _ _ _ _ _ _ _ _ _ _ _ _ _ _ _ _ _ _ _ _ _ _ _ _ _ _ _ _ _ _ _ _ _ _))))))))))))))))))))))))))))))

set_option maxRecDepth 1000000 in
set_option maxHeartbeats 16000000 in
theorem between_none (an : Bool) (aS : ByteArray) (ae : Int) (bn : Bool) (bS : ByteArray) (be : Int) (x : Nat) (w : World) (hT : Tab w) (HR : ∀ (v1 : World) (_F3 : Blk v1 (w.heap.size) #[.bool an, .string aS, .int .i64 ae] 24) (_F4 : Blk v1 (w.heap.size + 1) #[.bool bn, .string bS, .int .i64 be] 24) (_B0 : Below w.heap.size w v1) (u5 u6 u7 u8 u9 u10 u11 u12 u13 u14 u15 u16 u17 u18 u19 u20 u21 u22 u23 u24 u25 u26 u27 u28 u29 u30 u31 u32 u33 u34 u35 u36 u37 u38 u39 u40 u41 u42 u43 u44 u45 u46 u47 u48 u49 u50 u51 u52 u53 u54 u55 u56 u57 u58 u59 u60 u61 u62 u63 u64 u65 u66 u67 u68 u69 u70 u71 u72 u73 u74 u75 u76 u77 u78 u79 u80 u81 u82 u83 u84 u85 u86 u87 u88 u89 u90 u91 u92 u93 u94 u95 u96 u97 u98 u99 u100 u101 u102 u103 u104 u105 u106 u107 u108 u109 u110 u111 u112 u113 u114 u115 u116 u117 u118 u119 u120 u121 u122 u123 u124 u125 u126 u127 u128 u129 u130 u131 u132 u133 u134 u135 u136 u137 u138 u139 u140 u141 u142 u143 u144 u145 u146 u147 u148 u149 u150 u151 u152 u153 u154 u155 u156 u157 u158 u159 u160 u161 u162 u163 u164 u165 u166 u167 u168 u169 u170 u171 u172 u173 u174 u175 u176 u177 u178 u179 u180 u181 u182 u183 u184 u185 u186 u187 u188 u189 u190 u191 u192 u193 u194 u195 u196 u197 u198 u199 u200 u201 u202 u203 u204 u205 : Value), Code.wp Tryd.prog (tailAt 15 (Tryd.f17.body.getD .skip)) (bodyPost Tryd.prog Tryd.f17 fun r w' => r = .returned (.bool true) ∧ Below w.heap.size w w') ⟨#[.agg #[.bool an, .string aS, .int .i64 ae], .agg #[.bool bn, .string bS, .int .i64 be], .float .f64 x, .pointer (some ⟨w.heap.size, 0, none⟩), .pointer (some ⟨w.heap.size + 1, 0, none⟩), u5, u6, u7, u8, u9, u10, u11, u12, u13, u14, u15, u16, u17, u18, u19, u20, u21, u22, u23, u24, u25, u26, u27, u28, u29, u30, u31, u32, u33, u34, u35, u36, u37, u38, u39, u40, u41, u42, u43, u44, u45, u46, u47, u48, u49, u50, u51, u52, u53, u54, u55, u56, u57, u58, u59, u60, u61, u62, u63, u64, u65, u66, u67, u68, u69, u70, u71, u72, u73, u74, u75, u76, u77, u78, u79, u80, u81, u82, u83, u84, u85, u86, u87, u88, u89, u90, u91, u92, u93, u94, u95, u96, u97, u98, u99, u100, u101, u102, u103, u104, u105, u106, u107, u108, u109, u110, u111, u112, u113, u114, u115, u116, u117, u118, u119, u120, u121, u122, u123, u124, u125, u126, u127, u128, u129, u130, u131, u132, u133, u134, u135, u136, u137, u138, u139, u140, u141, u142, u143, u144, u145, u146, u147, u148, u149, u150, u151, u152, u153, u154, u155, u156, u157, u158, u159, u160, u161, u162, u163, u164, u165, u166, u167, u168, u169, u170, u171, u172, u173, u174, u175, u176, u177, u178, u179, u180, u181, u182, u183, u184, u185, u186, u187, u188, u189, u190, u191, u192, u193, u194, u195, u196, u197, u198, u199, u200, u201, u202, u203, u204, u205], []⟩ v1)
    (hfl : ∀ W : World, Calls Tryd.prog 56 #[.float .f64 x] W fun r w' => r = .returned (.tuple #[.agg #[.bool false, .string { data := #[] }, .int .i64 0], .int .i64 5]) ∧ Below W.heap.size W w') :
    Calls Tryd.prog 17 #[.agg #[.bool an, .string aS, .int .i64 ae], .agg #[.bool bn, .string bS, .int .i64 be], .float .f64 x] w fun r w' => r = .returned (.bool true) ∧ Below w.heap.size w w' := by
  have haw := fun W hW => awake_any W hW
  go_enter Tryd.func17, Tryd.ntmps17
  have B0 := Below.refl w.heap.size w
  have F3 := Blk.put (w) #[.bool an, .string aS, .int .i64 ae] 24
  replace B0 := B0.alloc B0.size (.cells #[.bool an, .string aS, .int .i64 ae] 24)
  replace F3 := F3.allocd (.cells #[.bool bn, .string bS, .int .i64 be] 24)
  have F4 := Blk.put ((w).alloc (.cells #[.bool an, .string aS, .int .i64 ae] 24)) #[.bool bn, .string bS, .int .i64 be] 24
  rw [show ((w).alloc (.cells #[.bool an, .string aS, .int .i64 ae] 24)).heap.size = w.heap.size + 1 by simp] at F4
  replace B0 := B0.alloc B0.size (.cells #[.bool bn, .string bS, .int .i64 be] 24)
  go_wp2_with fail
  (with_reducible refine (haw _ (hT.below B0)).mono ?_)
  rintro r w1 ⟨rfl, hb1⟩
  replace F3 := F3.keep hb1
  replace F4 := F4.keep hb1
  replace B0 := B0.trans (hb1.mono B0.size)
  clear hb1
  go_wp2_with fail
  (with_reducible refine (hfl _).mono ?_)
  rintro r w2 ⟨rfl, hb2⟩
  replace F3 := F3.keep hb2
  replace F4 := F4.keep hb2
  replace B0 := B0.trans (hb2.mono B0.size)
  clear hb2
  replace F3 := F3.allocd (.cells #[.bool false, .string { data := #[] }, .int .i64 0] 24)
  replace F4 := F4.allocd (.cells #[.bool false, .string { data := #[] }, .int .i64 0] 24)
  replace B0 := B0.alloc B0.size (.cells #[.bool false, .string { data := #[] }, .int .i64 0] 24)
  go_upto_region 4 with fail
  first
  | exact HR _ F3 F4 B0 _ _ _ _ _ _ _ _ _ _ _ _ _ _ _ _ _ _ _ _ _ _ _ _ _ _ _ _ _ _ _ _ _ _ _ _ _ _ _ _ _ _ _ _ _ _ _ _ _ _ _ _ _ _ _ _ _ _ _ _ _ _ _ _ _ _ _ _ _ _ _ _ _ _ _ _ _ _ _ _ _ _ _ _ _ _ _ _ _ _ _ _ _ _ _ _ _ _ _ _ _ _ _ _ _ _ _ _ _ _ _ _ _ _ _ _ _ _ _ _ _ _ _ _ _ _ _ _ _ _ _ _ _ _ _ _ _ _ _ _ _ _ _ _ _ _ _ _ _ _ _ _ _ _ _ _ _ _ _ _ _ _ _ _ _ _ _ _ _ _ _ _ _ _ _ _ _ _ _ _ _ _ _ _ _ _ _ _ _ _ _ _ _ _ _ _ _ _ _ _ _
  | (go_step
     first
   | exact HR _ F3 F4 B0 _ _ _ _ _ _ _ _ _ _ _ _ _ _ _ _ _ _ _ _ _ _ _ _ _ _ _ _ _ _ _ _ _ _ _ _ _ _ _ _ _ _ _ _ _ _ _ _ _ _ _ _ _ _ _ _ _ _ _ _ _ _ _ _ _ _ _ _ _ _ _ _ _ _ _ _ _ _ _ _ _ _ _ _ _ _ _ _ _ _ _ _ _ _ _ _ _ _ _ _ _ _ _ _ _ _ _ _ _ _ _ _ _ _ _ _ _ _ _ _ _ _ _ _ _ _ _ _ _ _ _ _ _ _ _ _ _ _ _ _ _ _ _ _ _ _ _ _ _ _ _ _ _ _ _ _ _ _ _ _ _ _ _ _ _ _ _ _ _ _ _ _ _ _ _ _ _ _ _ _ _ _ _ _ _ _ _ _ _ _ _ _ _ _ _ _ _ _ _ _ _
   | (go_step
      first
    | exact HR _ F3 F4 B0 _ _ _ _ _ _ _ _ _ _ _ _ _ _ _ _ _ _ _ _ _ _ _ _ _ _ _ _ _ _ _ _ _ _ _ _ _ _ _ _ _ _ _ _ _ _ _ _ _ _ _ _ _ _ _ _ _ _ _ _ _ _ _ _ _ _ _ _ _ _ _ _ _ _ _ _ _ _ _ _ _ _ _ _ _ _ _ _ _ _ _ _ _ _ _ _ _ _ _ _ _ _ _ _ _ _ _ _ _ _ _ _ _ _ _ _ _ _ _ _ _ _ _ _ _ _ _ _ _ _ _ _ _ _ _ _ _ _ _ _ _ _ _ _ _ _ _ _ _ _ _ _ _ _ _ _ _ _ _ _ _ _ _ _ _ _ _ _ _ _ _ _ _ _ _ _ _ _ _ _ _ _ _ _ _ _ _ _ _ _ _ _ _ _ _ _ _ _ _ _ _
    | (go_step
       first
     | exact HR _ F3 F4 B0 _ _ _ _ _ _ _ _ _ _ _ _ _ _ _ _ _ _ _ _ _ _ _ _ _ _ _ _ _ _ _ _ _ _ _ _ _ _ _ _ _ _ _ _ _ _ _ _ _ _ _ _ _ _ _ _ _ _ _ _ _ _ _ _ _ _ _ _ _ _ _ _ _ _ _ _ _ _ _ _ _ _ _ _ _ _ _ _ _ _ _ _ _ _ _ _ _ _ _ _ _ _ _ _ _ _ _ _ _ _ _ _ _ _ _ _ _ _ _ _ _ _ _ _ _ _ _ _ _ _ _ _ _ _ _ _ _ _ _ _ _ _ _ _ _ _ _ _ _ _ _ _ _ _ _ _ _ _ _ _ _ _ _ _ _ _ _ _ _ _ _ _ _ _ _ _ _ _ _ _ _ _ _ _ _ _ _ _ _ _ _ _ _ _ _ _ _ _ _ _ _
     | (go_step
        first
      | exact HR _ F3 F4 B0 _ _ _ _ _ _ _ _ _ _ _ _ _ _ _ _ _ _ _ _ _ _ _ _ _ _ _ _ _ _ _ _ _ _ _ _ _ _ _ _ _ _ _ _ _ _ _ _ _ _ _ _ _ _ _ _ _ _ _ _ _ _ _ _ _ _ _ _ _ _ _ _ _ _ _ _ _ _ _ _ _ _ _ _ _ _ _ _ _ _ _ _ _ _ _ _ _ _ _ _ _ _ _ _ _ _ _ _ _ _ _ _ _ _ _ _ _ _ _ _ _ _ _ _ _ _ _ _ _ _ _ _ _ _ _ _ _ _ _ _ _ _ _ _ _ _ _ _ _ _ _ _ _ _ _ _ _ _ _ _ _ _ _ _ _ _ _ _ _ _ _ _ _ _ _ _ _ _ _ _ _ _ _ _ _ _ _ _ _ _ _ _ _ _ _ _ _ _ _ _ _
      | (go_step
         first
       | exact HR _ F3 F4 B0 _ _ _ _ _ _ _ _ _ _ _ _ _ _ _ _ _ _ _ _ _ _ _ _ _ _ _ _ _ _ _ _ _ _ _ _ _ _ _ _ _ _ _ _ _ _ _ _ _ _ _ _ _ _ _ _ _ _ _ _ _ _ _ _ _ _ _ _ _ _ _ _ _ _ _ _ _ _ _ _ _ _ _ _ _ _ _ _ _ _ _ _ _ _ _ _ _ _ _ _ _ _ _ _ _ _ _ _ _ _ _ _ _ _ _ _ _ _ _ _ _ _ _ _ _ _ _ _ _ _ _ _ _ _ _ _ _ _ _ _ _ _ _ _ _ _ _ _ _ _ _ _ _ _ _ _ _ _ _ _ _ _ _ _ _ _ _ _ _ _ _ _ _ _ _ _ _ _ _ _ _ _ _ _ _ _ _ _ _ _ _ _ _ _ _ _ _ _ _ _ _
       | (go_step
          first
        | exact HR _ F3 F4 B0 _ _ _ _ _ _ _ _ _ _ _ _ _ _ _ _ _ _ _ _ _ _ _ _ _ _ _ _ _ _ _ _ _ _ _ _ _ _ _ _ _ _ _ _ _ _ _ _ _ _ _ _ _ _ _ _ _ _ _ _ _ _ _ _ _ _ _ _ _ _ _ _ _ _ _ _ _ _ _ _ _ _ _ _ _ _ _ _ _ _ _ _ _ _ _ _ _ _ _ _ _ _ _ _ _ _ _ _ _ _ _ _ _ _ _ _ _ _ _ _ _ _ _ _ _ _ _ _ _ _ _ _ _ _ _ _ _ _ _ _ _ _ _ _ _ _ _ _ _ _ _ _ _ _ _ _ _ _ _ _ _ _ _ _ _ _ _ _ _ _ _ _ _ _ _ _ _ _ _ _ _ _ _ _ _ _ _ _ _ _ _ _ _ _ _ _ _ _ _ _ _
        | (go_step
           first
         | exact HR _ F3 F4 B0 _ _ _ _ _ _ _ _ _ _ _ _ _ _ _ _ _ _ _ _ _ _ _ _ _ _ _ _ _ _ _ _ _ _ _ _ _ _ _ _ _ _ _ _ _ _ _ _ _ _ _ _ _ _ _ _ _ _ _ _ _ _ _ _ _ _ _ _ _ _ _ _ _ _ _ _ _ _ _ _ _ _ _ _ _ _ _ _ _ _ _ _ _ _ _ _ _ _ _ _ _ _ _ _ _ _ _ _ _ _ _ _ _ _ _ _ _ _ _ _ _ _ _ _ _ _ _ _ _ _ _ _ _ _ _ _ _ _ _ _ _ _ _ _ _ _ _ _ _ _ _ _ _ _ _ _ _ _ _ _ _ _ _ _ _ _ _ _ _ _ _ _ _ _ _ _ _ _ _ _ _ _ _ _ _ _ _ _ _ _ _ _ _ _ _ _ _ _ _ _ _
         | (go_step
            first
          | exact HR _ F3 F4 B0 _ _ _ _ _ _ _ _ _ _ _ _ _ _ _ _ _ _ _ _ _ _ _ _ _ _ _ _ _ _ _ _ _ _ _ _ _ _ _ _ _ _ _ _ _ _ _ _ _ _ _ _ _ _ _ _ _ _ _ _ _ _ _ _ _ _ _ _ _ _ _ _ _ _ _ _ _ _ _ _ _ _ _ _ _ _ _ _ _ _ _ _ _ _ _ _ _ _ _ _ _ _ _ _ _ _ _ _ _ _ _ _ _ _ _ _ _ _ _ _ _ _ _ _ _ _ _ _ _ _ _ _ _ _ _ _ _ _ _ _ _ _ _ _ _ _ _ _ _ _ _ _ _ _ _ _ _ _ _ _ _ _ _ _ _ _ _ _ _ _ _ _ _ _ _ _ _ _ _ _ _ _ _ _ _ _ _ _ _ _ _ _ _ _ _ _ _ _ _ _ _
          | (go_step
             first
           | exact HR _ F3 F4 B0 _ _ _ _ _ _ _ _ _ _ _ _ _ _ _ _ _ _ _ _ _ _ _ _ _ _ _ _ _ _ _ _ _ _ _ _ _ _ _ _ _ _ _ _ _ _ _ _ _ _ _ _ _ _ _ _ _ _ _ _ _ _ _ _ _ _ _ _ _ _ _ _ _ _ _ _ _ _ _ _ _ _ _ _ _ _ _ _ _ _ _ _ _ _ _ _ _ _ _ _ _ _ _ _ _ _ _ _ _ _ _ _ _ _ _ _ _ _ _ _ _ _ _ _ _ _ _ _ _ _ _ _ _ _ _ _ _ _ _ _ _ _ _ _ _ _ _ _ _ _ _ _ _ _ _ _ _ _ _ _ _ _ _ _ _ _ _ _ _ _ _ _ _ _ _ _ _ _ _ _ _ _ _ _ _ _ _ _ _ _ _ _ _ _ _ _ _ _ _ _ _
           | (go_step
              first
            | exact HR _ F3 F4 B0 _ _ _ _ _ _ _ _ _ _ _ _ _ _ _ _ _ _ _ _ _ _ _ _ _ _ _ _ _ _ _ _ _ _ _ _ _ _ _ _ _ _ _ _ _ _ _ _ _ _ _ _ _ _ _ _ _ _ _ _ _ _ _ _ _ _ _ _ _ _ _ _ _ _ _ _ _ _ _ _ _ _ _ _ _ _ _ _ _ _ _ _ _ _ _ _ _ _ _ _ _ _ _ _ _ _ _ _ _ _ _ _ _ _ _ _ _ _ _ _ _ _ _ _ _ _ _ _ _ _ _ _ _ _ _ _ _ _ _ _ _ _ _ _ _ _ _ _ _ _ _ _ _ _ _ _ _ _ _ _ _ _ _ _ _ _ _ _ _ _ _ _ _ _ _ _ _ _ _ _ _ _ _ _ _ _ _ _ _ _ _ _ _ _ _ _ _ _ _ _ _
            | (go_step
               first
             | exact HR _ F3 F4 B0 _ _ _ _ _ _ _ _ _ _ _ _ _ _ _ _ _ _ _ _ _ _ _ _ _ _ _ _ _ _ _ _ _ _ _ _ _ _ _ _ _ _ _ _ _ _ _ _ _ _ _ _ _ _ _ _ _ _ _ _ _ _ _ _ _ _ _ _ _ _ _ _ _ _ _ _ _ _ _ _ _ _ _ _ _ _ _ _ _ _ _ _ _ _ _ _ _ _ _ _ _ _ _ _ _ _ _ _ _ _ _ _ _ _ _ _ _ _ _ _ _ _ _ _ _ _ _ _ _ _ _ _ _ _ _ _ _ _ _ _ _ _ _ _ _ _ _ _ _ _ _ _ _ _ _ _ _ _ _ _ _ _ _ _ _ _ _ _ _ _ _ _ _ _ _ _ _ _ _ _ _ _ _ _ _ _ _ _ _ _ _ _ _ _ _ _ _ _ _ _ _
             | (go_step
                first
              | exact HR _ F3 F4 B0 _ _ _ _ _ _ _ _ _ _ _ _ _ _ _ _ _ _ _ _ _ _ _ _ _ _ _ _ _ _ _ _ _ _ _ _ _ _ _ _ _ _ _ _ _ _ _ _ _ _ _ _ _ _ _ _ _ _ _ _ _ _ _ _ _ _ _ _ _ _ _ _ _ _ _ _ _ _ _ _ _ _ _ _ _ _ _ _ _ _ _ _ _ _ _ _ _ _ _ _ _ _ _ _ _ _ _ _ _ _ _ _ _ _ _ _ _ _ _ _ _ _ _ _ _ _ _ _ _ _ _ _ _ _ _ _ _ _ _ _ _ _ _ _ _ _ _ _ _ _ _ _ _ _ _ _ _ _ _ _ _ _ _ _ _ _ _ _ _ _ _ _ _ _ _ _ _ _ _ _ _ _ _ _ _ _ _ _ _ _ _ _ _ _ _ _ _ _ _ _ _
              | (go_step
                 first
               | exact HR _ F3 F4 B0 _ _ _ _ _ _ _ _ _ _ _ _ _ _ _ _ _ _ _ _ _ _ _ _ _ _ _ _ _ _ _ _ _ _ _ _ _ _ _ _ _ _ _ _ _ _ _ _ _ _ _ _ _ _ _ _ _ _ _ _ _ _ _ _ _ _ _ _ _ _ _ _ _ _ _ _ _ _ _ _ _ _ _ _ _ _ _ _ _ _ _ _ _ _ _ _ _ _ _ _ _ _ _ _ _ _ _ _ _ _ _ _ _ _ _ _ _ _ _ _ _ _ _ _ _ _ _ _ _ _ _ _ _ _ _ _ _ _ _ _ _ _ _ _ _ _ _ _ _ _ _ _ _ _ _ _ _ _ _ _ _ _ _ _ _ _ _ _ _ _ _ _ _ _ _ _ _ _ _ _ _ _ _ _ _ _ _ _ _ _ _ _ _ _ _ _ _ _ _ _ _
               | (go_step
                  first
                | exact HR _ F3 F4 B0 _ _ _ _ _ _ _ _ _ _ _ _ _ _ _ _ _ _ _ _ _ _ _ _ _ _ _ _ _ _ _ _ _ _ _ _ _ _ _ _ _ _ _ _ _ _ _ _ _ _ _ _ _ _ _ _ _ _ _ _ _ _ _ _ _ _ _ _ _ _ _ _ _ _ _ _ _ _ _ _ _ _ _ _ _ _ _ _ _ _ _ _ _ _ _ _ _ _ _ _ _ _ _ _ _ _ _ _ _ _ _ _ _ _ _ _ _ _ _ _ _ _ _ _ _ _ _ _ _ _ _ _ _ _ _ _ _ _ _ _ _ _ _ _ _ _ _ _ _ _ _ _ _ _ _ _ _ _ _ _ _ _ _ _ _ _ _ _ _ _ _ _ _ _ _ _ _ _ _ _ _ _ _ _ _ _ _ _ _ _ _ _ _ _ _ _ _ _ _ _ _
                | (go_step
                   first
                 | exact HR _ F3 F4 B0 _ _ _ _ _ _ _ _ _ _ _ _ _ _ _ _ _ _ _ _ _ _ _ _ _ _ _ _ _ _ _ _ _ _ _ _ _ _ _ _ _ _ _ _ _ _ _ _ _ _ _ _ _ _ _ _ _ _ _ _ _ _ _ _ _ _ _ _ _ _ _ _ _ _ _ _ _ _ _ _ _ _ _ _ _ _ _ _ _ _ _ _ _ _ _ _ _ _ _ _ _ _ _ _ _ _ _ _ _ _ _ _ _ _ _ _ _ _ _ _ _ _ _ _ _ _ _ _ _ _ _ _ _ _ _ _ _ _ _ _ _ _ _ _ _ _ _ _ _ _ _ _ _ _ _ _ _ _ _ _ _ _ _ _ _ _ _ _ _ _ _ _ _ _ _ _ _ _ _ _ _ _ _ _ _ _ _ _ _ _ _ _ _ _ _ _ _ _ _ _ _
                 | (go_step
                    first
                  | exact HR _ F3 F4 B0 _ _ _ _ _ _ _ _ _ _ _ _ _ _ _ _ _ _ _ _ _ _ _ _ _ _ _ _ _ _ _ _ _ _ _ _ _ _ _ _ _ _ _ _ _ _ _ _ _ _ _ _ _ _ _ _ _ _ _ _ _ _ _ _ _ _ _ _ _ _ _ _ _ _ _ _ _ _ _ _ _ _ _ _ _ _ _ _ _ _ _ _ _ _ _ _ _ _ _ _ _ _ _ _ _ _ _ _ _ _ _ _ _ _ _ _ _ _ _ _ _ _ _ _ _ _ _ _ _ _ _ _ _ _ _ _ _ _ _ _ _ _ _ _ _ _ _ _ _ _ _ _ _ _ _ _ _ _ _ _ _ _ _ _ _ _ _ _ _ _ _ _ _ _ _ _ _ _ _ _ _ _ _ _ _ _ _ _ _ _ _ _ _ _ _ _ _ _ _ _ _
                  | (go_step
                     first
                   | exact HR _ F3 F4 B0 _ _ _ _ _ _ _ _ _ _ _ _ _ _ _ _ _ _ _ _ _ _ _ _ _ _ _ _ _ _ _ _ _ _ _ _ _ _ _ _ _ _ _ _ _ _ _ _ _ _ _ _ _ _ _ _ _ _ _ _ _ _ _ _ _ _ _ _ _ _ _ _ _ _ _ _ _ _ _ _ _ _ _ _ _ _ _ _ _ _ _ _ _ _ _ _ _ _ _ _ _ _ _ _ _ _ _ _ _ _ _ _ _ _ _ _ _ _ _ _ _ _ _ _ _ _ _ _ _ _ _ _ _ _ _ _ _ _ _ _ _ _ _ _ _ _ _ _ _ _ _ _ _ _ _ _ _ _ _ _ _ _ _ _ _ _ _ _ _ _ _ _ _ _ _ _ _ _ _ _ _ _ _ _ _ _ _ _ _ _ _ _ _ _ _ _ _ _ _ _ _
                   | (go_step
                      first
                    | exact HR _ F3 F4 B0 _ _ _ _ _ _ _ _ _ _ _ _ _ _ _ _ _ _ _ _ _ _ _ _ _ _ _ _ _ _ _ _ _ _ _ _ _ _ _ _ _ _ _ _ _ _ _ _ _ _ _ _ _ _ _ _ _ _ _ _ _ _ _ _ _ _ _ _ _ _ _ _ _ _ _ _ _ _ _ _ _ _ _ _ _ _ _ _ _ _ _ _ _ _ _ _ _ _ _ _ _ _ _ _ _ _ _ _ _ _ _ _ _ _ _ _ _ _ _ _ _ _ _ _ _ _ _ _ _ _ _ _ _ _ _ _ _ _ _ _ _ _ _ _ _ _ _ _ _ _ _ _ _ _ _ _ _ _ _ _ _ _ _ _ _ _ _ _ _ _ _ _ _ _ _ _ _ _ _ _ _ _ _ _ _ _ _ _ _ _ _ _ _ _ _ _ _ _ _ _ _
                    | (go_step
                       first
                     | exact HR _ F3 F4 B0 _ _ _ _ _ _ _ _ _ _ _ _ _ _ _ _ _ _ _ _ _ _ _ _ _ _ _ _ _ _ _ _ _ _ _ _ _ _ _ _ _ _ _ _ _ _ _ _ _ _ _ _ _ _ _ _ _ _ _ _ _ _ _ _ _ _ _ _ _ _ _ _ _ _ _ _ _ _ _ _ _ _ _ _ _ _ _ _ _ _ _ _ _ _ _ _ _ _ _ _ _ _ _ _ _ _ _ _ _ _ _ _ _ _ _ _ _ _ _ _ _ _ _ _ _ _ _ _ _ _ _ _ _ _ _ _ _ _ _ _ _ _ _ _ _ _ _ _ _ _ _ _ _ _ _ _ _ _ _ _ _ _ _ _ _ _ _ _ _ _ _ _ _ _ _ _ _ _ _ _ _ _ _ _ _ _ _ _ _ _ _ _ _ _ _ _ _ _ _ _ _
                     | (go_step
                        first
                      | exact HR _ F3 F4 B0 _ _ _ _ _ _ _ _ _ _ _ _ _ _ _ _ _ _ _ _ _ _ _ _ _ _ _ _ _ _ _ _ _ _ _ _ _ _ _ _ _ _ _ _ _ _ _ _ _ _ _ _ _ _ _ _ _ _ _ _ _ _ _ _ _ _ _ _ _ _ _ _ _ _ _ _ _ _ _ _ _ _ _ _ _ _ _ _ _ _ _ _ _ _ _ _ _ _ _ _ _ _ _ _ _ _ _ _ _ _ _ _ _ _ _ _ _ _ _ _ _ _ _ _ _ _ _ _ _ _ _ _ _ _ _ _ _ _ _ _ _ _ _ _ _ _ _ _ _ _ _ _ _ _ _ _ _ _ _ _ _ _ _ _ _ _ _ _ _ _ _ _ _ _ _ _ _ _ _ _ _ _ _ _ _ _ _ _ _ _ _ _ _ _ _ _ _ _ _ _ _
                      | (go_step
                         first
                       | exact HR _ F3 F4 B0 _ _ _ _ _ _ _ _ _ _ _ _ _ _ _ _ _ _ _ _ _ _ _ _ _ _ _ _ _ _ _ _ _ _ _ _ _ _ _ _ _ _ _ _ _ _ _ _ _ _ _ _ _ _ _ _ _ _ _ _ _ _ _ _ _ _ _ _ _ _ _ _ _ _ _ _ _ _ _ _ _ _ _ _ _ _ _ _ _ _ _ _ _ _ _ _ _ _ _ _ _ _ _ _ _ _ _ _ _ _ _ _ _ _ _ _ _ _ _ _ _ _ _ _ _ _ _ _ _ _ _ _ _ _ _ _ _ _ _ _ _ _ _ _ _ _ _ _ _ _ _ _ _ _ _ _ _ _ _ _ _ _ _ _ _ _ _ _ _ _ _ _ _ _ _ _ _ _ _ _ _ _ _ _ _ _ _ _ _ _ _ _ _ _ _ _ _ _ _ _ _
                       | (go_step
                          first
                        | exact HR _ F3 F4 B0 _ _ _ _ _ _ _ _ _ _ _ _ _ _ _ _ _ _ _ _ _ _ _ _ _ _ _ _ _ _ _ _ _ _ _ _ _ _ _ _ _ _ _ _ _ _ _ _ _ _ _ _ _ _ _ _ _ _ _ _ _ _ _ _ _ _ _ _ _ _ _ _ _ _ _ _ _ _ _ _ _ _ _ _ _ _ _ _ _ _ _ _ _ _ _ _ _ _ _ _ _ _ _ _ _ _ _ _ _ _ _ _ _ _ _ _ _ _ _ _ _ _ _ _ _ _ _ _ _ _ _ _ _ _ _ _ _ _ _ _ _ _ _ _ _ _ _ _ _ _ _ _ _ _ _ _ _ _ _ _ _ _ _ _ _ _ _ _ _ _ _ _ _ _ _ _ _ _ _ _ _ _ _ _ _ _ _ _ _ _ _ _ _ _ _ _ _ _ _ _ _
                        | (go_step
                           first
                         | exact HR _ F3 F4 B0 _ _ _ _ _ _ _ _ _ _ _ _ _ _ _ _ _ _ _ _ _ _ _ _ _ _ _ _ _ _ _ _ _ _ _ _ _ _ _ _ _ _ _ _ _ _ _ _ _ _ _ _ _ _ _ _ _ _ _ _ _ _ _ _ _ _ _ _ _ _ _ _ _ _ _ _ _ _ _ _ _ _ _ _ _ _ _ _ _ _ _ _ _ _ _ _ _ _ _ _ _ _ _ _ _ _ _ _ _ _ _ _ _ _ _ _ _ _ _ _ _ _ _ _ _ _ _ _ _ _ _ _ _ _ _ _ _ _ _ _ _ _ _ _ _ _ _ _ _ _ _ _ _ _ _ _ _ _ _ _ _ _ _ _ _ _ _ _ _ _ _ _ _ _ _ _ _ _ _ _ _ _ _ _ _ _ _ _ _ _ _ _ _ _ _ _ _ _ _ _ _
                         | (go_step
                            first
                          | exact HR _ F3 F4 B0 _ _ _ _ _ _ _ _ _ _ _ _ _ _ _ _ _ _ _ _ _ _ _ _ _ _ _ _ _ _ _ _ _ _ _ _ _ _ _ _ _ _ _ _ _ _ _ _ _ _ _ _ _ _ _ _ _ _ _ _ _ _ _ _ _ _ _ _ _ _ _ _ _ _ _ _ _ _ _ _ _ _ _ _ _ _ _ _ _ _ _ _ _ _ _ _ _ _ _ _ _ _ _ _ _ _ _ _ _ _ _ _ _ _ _ _ _ _ _ _ _ _ _ _ _ _ _ _ _ _ _ _ _ _ _ _ _ _ _ _ _ _ _ _ _ _ _ _ _ _ _ _ _ _ _ _ _ _ _ _ _ _ _ _ _ _ _ _ _ _ _ _ _ _ _ _ _ _ _ _ _ _ _ _ _ _ _ _ _ _ _ _ _ _ _ _ _ _ _ _ _
                          | (go_step
                             first
                           | exact HR _ F3 F4 B0 _ _ _ _ _ _ _ _ _ _ _ _ _ _ _ _ _ _ _ _ _ _ _ _ _ _ _ _ _ _ _ _ _ _ _ _ _ _ _ _ _ _ _ _ _ _ _ _ _ _ _ _ _ _ _ _ _ _ _ _ _ _ _ _ _ _ _ _ _ _ _ _ _ _ _ _ _ _ _ _ _ _ _ _ _ _ _ _ _ _ _ _ _ _ _ _ _ _ _ _ _ _ _ _ _ _ _ _ _ _ _ _ _ _ _ _ _ _ _ _ _ _ _ _ _ _ _ _ _ _ _ _ _ _ _ _ _ _ _ _ _ _ _ _ _ _ _ _ _ _ _ _ _ _ _ _ _ _ _ _ _ _ _ _ _ _ _ _ _ _ _ _ _ _ _ _ _ _ _ _ _ _ _ _ _ _ _ _ _ _ _ _ _ _ _ _ _ _ _ _ _
                           | (go_step
                              first
                            | exact HR _ F3 F4 B0 _ _ _ _ _ _ _ _ _ _ _ _ _ _ _ _ _ _ _ _ _ _ _ _ _ _ _ _ _ _ _ _ _ _ _ _ _ _ _ _ _ _ _ _ _ _ _ _ _ _ _ _ _ _ _ _ _ _ _ _ _ _ _ _ _ _ _ _ _ _ _ _ _ _ _ _ _ _ _ _ _ _ _ _ _ _ _ _ _ _ _ _ _ _ _ _ _ _ _ _ _ _ _ _ _ _ _ _ _ _ _ _ _ _ _ _ _ _ _ _ _ _ _ _ _ _ _ _ _ _ _ _ _ _ _ _ _ _ _ _ _ _ _ _ _ _ _ _ _ _ _ _ _ _ _ _ _ _ _ _ _ _ _ _ _ _ _ _ _ _ _ _ _ _ _ _ _ _ _ _ _ _ _ _ _ _ _ _ _ _ _ _ _ _ _ _ _ _ _ _ _
                            | (go_step
                               first
                             | exact HR _ F3 F4 B0 _ _ _ _ _ _ _ _ _ _ _ _ _ _ _ _ _ _ _ _ _ _ _ _ _ _ _ _ _ _ _ _ _ _ _ _ _ _ _ _ _ _ _ _ _ _ _ _ _ _ _ _ _ _ _ _ _ _ _ _ _ _ _ _ _ _ _ _ _ _ _ _ _ _ _ _ _ _ _ _ _ _ _ _ _ _ _ _ _ _ _ _ _ _ _ _ _ _ _ _ _ _ _ _ _ _ _ _ _ _ _ _ _ _ _ _ _ _ _ _ _ _ _ _ _ _ _ _ _ _ _ _ _ _ _ _ _ _ _ _ _ _ _ _ _ _ _ _ _ _ _ _ _ _ _ _ _ _ _ _ _ _ _ _ _ _ _ _ _ _ _ _ _ _ _ _ _ _ _ _ _ _ _ _ _ _ _ _ _ _ _ _ _ _ _ _ _ _ _ _ _
                             | (go_step
                                first
                              | exact HR _ F3 F4 B0 _ _ _ _ _ _ _ _ _ _ _ _ _ _ _ _ _ _ _ _ _ _ _ _ _ _ _ _ _ _ _ _ _ _ _ _ _ _ _ _ _ _ _ _ _ _ _ _ _ _ _ _ _ _ _ _ _ _ _ _ _ _ _ _ _ _ _ _ _ _ _ _ _ _ _ _ _ _ _ _ _ _ _ _ _ _ _ _ _ _ _ _ _ _ _ _ _ _ _ _ _ _ _ _ _ _ _ _ _ _ _ _ _ _ _ _ _ _ _ _ _ _ _ _ _ _ _ _ _ _ _ _ _ _ _ _ _ _ _ _ _ _ _ _ _ _ _ _ _ _ _ _ _ _ _ _ _ _ _ _ _ _ _ _ _ _ _ _ _ _ _ _ _ _ _ _ _ _ _ _ _ _ _ _ _ _ _ _ _ _ _ _ _ _ _ _ _ _ _ _ _
                              | (go_step
                                 first
                               | exact HR _ F3 F4 B0 _ _ _ _ _ _ _ _ _ _ _ _ _ _ _ _ _ _ _ _ _ _ _ _ _ _ _ _ _ _ _ _ _ _ _ _ _ _ _ _ _ _ _ _ _ _ _ _ _ _ _ _ _ _ _ _ _ _ _ _ _ _ _ _ _ _ _ _ _ _ _ _ _ _ _ _ _ _ _ _ _ _ _ _ _ _ _ _ _ _ _ _ _ _ _ _ _ _ _ _ _ _ _ _ _ _ _ _ _ _ _ _ _ _ _ _ _ _ _ _ _ _ _ _ _ _ _ _ _ _ _ _ _ _ _ _ _ _ _ _ _ _ _ _ _ _ _ _ _ _ _ _ _ _ _ _ _ _ _ _ _ _ _ _ _ _ _ _ _ _ _ _ _ _ _ _ _ _ _ _ _ _ _ _ _ _ _ _ _ _ _ _ _ _ _ _ _ _ _ _ _
                               | (go_step
                                  exact HR _ F3 F4 B0 _ _ _ _ _ _ _ _ _ _ _ _ _ _ _ _ _ _ _ _ _ _ _ _ _ _ _ _ _ _ _ _ _ _ _ _ _ _ _ _ _ _ _ _ _ _ _ _ _ _ _ _ _ _ _ _ _ _ _ _ _ _ _ _ _ _ _ _ _ _ _ _ _ _ _ _ _ _ _ _ _ _ _ _ _ _ _ _ _ _ _ _ _ _ _ _ _ _ _ _ _ _ _ _ _ _ _ _ _ _ _ _ _ _ _ _ _ _ _ _ _ _ _ _ _ _ _ _ _ _ _ _ _ _ _ _ _ _ _ _ _ _ _ _ _ _ _ _ _ _ _ _ _ _ _ _ _ _ _ _ _ _ _ _ _ _ _ _ _ _ _ _ _ _ _ _ _ _ _ _ _ _ _ _ _ _ _ _ _ _ _ _ _ _ _ _ _ _ _ _ _))))))))))))))))))))))))))))))

theorem dyadBetween_any (an : Bool) (aS : ByteArray) (ae : Int) (bn : Bool) (bS : ByteArray) (be : Int) (x : Nat) (w : World) (hT : Tab w) (hs : aS.size ≤ 9223372036854775807) (hs2 : bS.size ≤ 9223372036854775807) (hx : x < 18446744073709551616) :
    Calls Tryd.prog 17 #[.agg #[.bool an, .string aS, .int .i64 ae], .agg #[.bool bn, .string bS, .int .i64 be], .float .f64 x] w fun r w' => r = .returned (.bool true) ∧ Below w.heap.size w w' := by
  have HR : ∀ (v1 : World) (_F3 : Blk v1 (w.heap.size) #[.bool an, .string aS, .int .i64 ae] 24) (_F4 : Blk v1 (w.heap.size + 1) #[.bool bn, .string bS, .int .i64 be] 24) (_B0 : Below w.heap.size w v1) (u5 u6 u7 u8 u9 u10 u11 u12 u13 u14 u15 u16 u17 u18 u19 u20 u21 u22 u23 u24 u25 u26 u27 u28 u29 u30 u31 u32 u33 u34 u35 u36 u37 u38 u39 u40 u41 u42 u43 u44 u45 u46 u47 u48 u49 u50 u51 u52 u53 u54 u55 u56 u57 u58 u59 u60 u61 u62 u63 u64 u65 u66 u67 u68 u69 u70 u71 u72 u73 u74 u75 u76 u77 u78 u79 u80 u81 u82 u83 u84 u85 u86 u87 u88 u89 u90 u91 u92 u93 u94 u95 u96 u97 u98 u99 u100 u101 u102 u103 u104 u105 u106 u107 u108 u109 u110 u111 u112 u113 u114 u115 u116 u117 u118 u119 u120 u121 u122 u123 u124 u125 u126 u127 u128 u129 u130 u131 u132 u133 u134 u135 u136 u137 u138 u139 u140 u141 u142 u143 u144 u145 u146 u147 u148 u149 u150 u151 u152 u153 u154 u155 u156 u157 u158 u159 u160 u161 u162 u163 u164 u165 u166 u167 u168 u169 u170 u171 u172 u173 u174 u175 u176 u177 u178 u179 u180 u181 u182 u183 u184 u185 u186 u187 u188 u189 u190 u191 u192 u193 u194 u195 u196 u197 u198 u199 u200 u201 u202 u203 u204 u205 : Value), Code.wp Tryd.prog (tailAt 15 (Tryd.f17.body.getD .skip)) (bodyPost Tryd.prog Tryd.f17 fun r w' => r = .returned (.bool true) ∧ Below w.heap.size w w') ⟨#[.agg #[.bool an, .string aS, .int .i64 ae], .agg #[.bool bn, .string bS, .int .i64 be], .float .f64 x, .pointer (some ⟨w.heap.size, 0, none⟩), .pointer (some ⟨w.heap.size + 1, 0, none⟩), u5, u6, u7, u8, u9, u10, u11, u12, u13, u14, u15, u16, u17, u18, u19, u20, u21, u22, u23, u24, u25, u26, u27, u28, u29, u30, u31, u32, u33, u34, u35, u36, u37, u38, u39, u40, u41, u42, u43, u44, u45, u46, u47, u48, u49, u50, u51, u52, u53, u54, u55, u56, u57, u58, u59, u60, u61, u62, u63, u64, u65, u66, u67, u68, u69, u70, u71, u72, u73, u74, u75, u76, u77, u78, u79, u80, u81, u82, u83, u84, u85, u86, u87, u88, u89, u90, u91, u92, u93, u94, u95, u96, u97, u98, u99, u100, u101, u102, u103, u104, u105, u106, u107, u108, u109, u110, u111, u112, u113, u114, u115, u116, u117, u118, u119, u120, u121, u122, u123, u124, u125, u126, u127, u128, u129, u130, u131, u132, u133, u134, u135, u136, u137, u138, u139, u140, u141, u142, u143, u144, u145, u146, u147, u148, u149, u150, u151, u152, u153, u154, u155, u156, u157, u158, u159, u160, u161, u162, u163, u164, u165, u166, u167, u168, u169, u170, u171, u172, u173, u174, u175, u176, u177, u178, u179, u180, u181, u182, u183, u184, u185, u186, u187, u188, u189, u190, u191, u192, u193, u194, u195, u196, u197, u198, u199, u200, u201, u202, u203, u204, u205], []⟩ v1 := by
    cases hb : (mayB an aS ae && mayB bn bS be)
    · intro v1 F3 F4 B0
      exact between_bad an aS ae bn bS be x w hs hs2 hb v1 F3 F4 B0
    · rw [Bool.and_eq_true] at hb
      obtain ⟨xa, rfl, ha⟩ := ok_of_may hb.1
      obtain ⟨xb, rfl, hb'⟩ := ok_of_may hb.2
      intro v1 F3 F4 B0
      exact between_good ⟨an, xa, ae⟩ ⟨bn, xb, be⟩ x w ha hb' hT v1 F3 F4 B0
  by_cases hq : flQ x = 2047
  · exact between_none an aS ae bn bS be x w hT HR (fun W => by
      have h := dfloat_bad x W hx hq
      unfold dyR at h
      rw [bstr_zero] at h
      exact h)
  · obtain ⟨o1, o2, o3⟩ := own_fl hx hq
    have hk := flY_ok x
    have hr : mkR (sz (fs x) (flM x)) (flE x) = 0 := mkR_ok (fl_ok hq)
    have hxf : fr x ≤ 9218868437227405312 := by have := fr_fin hq; omega
    have hx0 : fr 0 ≤ 9218868437227405312 := by decide
    have hz : (fk x = 0) = (fr x = 0) := by
      unfold fk; split <;> simp
    have hk0 : fk (ownF x) = fk x := by
      unfold ownF; split
      · rename_i h; rw [hz.mpr h]; rfl
      · rfl
    have hof : fr (ownF x) ≤ 9218868437227405312 := by
      unfold ownF; split
      · exact hx0
      · exact hxf
    have hol : ownF x < 18446744073709551616 := by unfold ownF; split <;> omega
    refine between_front an aS ae bn bS be x w (flY x).n (bstr (flY x).x) (flY x).e (ownF x) (decide (fr x = 0)) (fs (ownF x)) hT HR ?_ ?_ ?_ ?_ ?_ ?_ ?_ ?_ ?_ ?_
    · intro W hW
      have h := dfloat_ok x W hx hq hW
      unfold mkV dyR at h
      rw [hr] at h
      exact h
    · intro W hW
      have h := dnear_ok (flY x).n (flY x).x (flY x).e W hk hW
      rw [o1] at h; exact h
    · intro W hW
      have h := dbelow_ok (flY x).n (flY x).x (flY x).e W hk hW
      rw [o2] at h; exact h
    · intro W hW
      have h := dabove_ok (flY x).n (flY x).x (flY x).e W hk hW
      rw [o3] at h; exact h
    · intro h0 W
      have h := cbits x (ownF x) W hxf
      rw [show ownF x = x from if_neg (of_decide_eq_false h0)] at h ⊢
      rw [decide_eq_true rfl] at h
      exact h
    · intro W; exact csignbit (ownF x) W hol
    · rw [ord_ne hof hxf, hk0, decide_eq_true rfl]; rfl
    · rw [ord_ne hxf hx0, show fk 0 = 0 from rfl]; congr 1; simp only [hz]
    · rw [ord_eq hxf hx0, show fk 0 = 0 from rfl]; simp only [hz]
    · intro h
      rw [show ownF x = 0 from if_pos (of_decide_eq_true h)]; rfl
end Go.Proofs.YtgcifpjhhoalmaaDoor
