/- RatioNear: the tail, by letters. -/
import Derived.Test.YtbhfnigblhfikaaGreatDoorUT
namespace Go.Proofs.YtbhfnigblhfikaaGreatDoor
open Go Go.RowKit Go.PlainAid Fil

/-- the code from a region on -/
def nearHead : Code → Nat
  | .region n _ _ => n
  | .seq a _ => nearHead a
  | _ => 0
def nearTail (k : Nat) : Code → Code
  | .seq a b => if nearHead a = k then .seq a b else nearTail k b
  | c => c
set_option maxRecDepth 1000000 in
set_option maxHeartbeats 16000000 in
theorem near_far (xn : Bool) (xS xT : ByteArray) (fx : Int) (w : World) 
    (h0 : ∀ W, Calls Tryz.prog 12 #[.agg #[.bool xn, .string xS, .string xT]] W fun r w' => r = .returned (.bool false) ∧ Below W.heap.size W w')
    (hl : ∀ W, Calls Tryz.prog 14 #[] W fun r w' => r = .returned (.bool true) ∧ Below W.heap.size W w')
    (v1 : World) (F2 : Blk v1 (w.heap.size) #[.bool xn, .string xS, .string xT] 24) (B0 : Below w.heap.size w v1) (u3 u4 u5 u6 u7 u8 u9 u10 u11 u12 u13 u14 u15 u16 u17 u18 u19 u20 u21 u22 u23 u24 u25 u26 u27 u28 u29 u30 u31 u32 u33 u34 u35 u36 u37 u38 u39 u40 u41 u42 u43 u44 u45 u46 u47 u48 u49 u50 u51 u52 u53 u54 u55 u56 u57 u58 u59 u60 u61 u62 u63 u64 u65 u66 u67 u68 u69 u70 u71 u72 u73 u74 u75 u76 u77 u78 u79 u80 u81 u82 u83 u84 u85 u86 u87 u88 u89 u90 u91 u92 u93 u94 u95 u96 u97 u98 u99 u100 u101 u102 u103 u104 u105 u106 u107 u108 u109 u110 u111 u112 u113 u114 u115 u116 u117 u118 u119 u120 u121 u122 u123 u124 u125 u126 u127 u128 u129 u130 u131 u132 u133 u134 u135 u136 u137 u138 u139 u140 u141 u142 u143 u144 u145 u146 u147 u148 u149 u150 u151 u152 u153 u154 u155 u156 u157 u158 u159 u160 u161 u162 u163 u164 u165 u166 u167 u168 u169 u170 u171 u172 u173 u174 u175 u176 u177 u178 u179 u180 u181 u182 u183 u184 u185 u186 u187 u188 u189 u190 u191 u192 u193 u194 u195 u196 u197 u198 u199 u200 u201 u202 u203 u204 u205 u206 u207 u208 u209 u210 u211 u212 u213 u214 u215 u216 u217 u218 u219 u220 u221 u222 u223 u224 : Value) :
    Code.wp Tryz.prog (nearTail 9 (Tryz.f3.body.getD .skip)) (bodyPost Tryz.prog Tryz.f3 fun r w' => r = .returned (.bool true) ∧ Below w.heap.size w w') ⟨#[.agg #[.bool xn, .string xS, .string xT], .int .u64 fx, .pointer (some ⟨w.heap.size, 0, none⟩), u3, u4, u5, u6, u7, u8, u9, u10, u11, u12, u13, u14, u15, u16, u17, u18, u19, u20, u21, u22, u23, u24, u25, u26, u27, u28, u29, u30, u31, u32, u33, u34, u35, u36, u37, u38, u39, u40, u41, u42, u43, u44, u45, u46, u47, u48, u49, u50, u51, u52, u53, u54, u55, u56, u57, u58, u59, u60, u61, u62, u63, u64, u65, u66, u67, u68, u69, u70, u71, u72, u73, u74, u75, u76, u77, u78, u79, u80, u81, u82, u83, u84, u85, u86, u87, u88, u89, u90, u91, u92, u93, u94, u95, u96, u97, u98, u99, u100, u101, u102, u103, u104, u105, u106, u107, u108, u109, u110, u111, u112, u113, u114, u115, u116, u117, u118, u119, u120, u121, u122, u123, u124, u125, u126, u127, u128, u129, u130, u131, u132, u133, u134, u135, u136, u137, u138, u139, u140, u141, u142, u143, u144, u145, u146, u147, u148, u149, u150, u151, u152, u153, u154, u155, u156, u157, u158, u159, u160, u161, u162, u163, u164, u165, u166, u167, u168, u169, u170, u171, u172, u173, u174, u175, u176, u177, u178, u179, u180, u181, u182, u183, u184, u185, u186, u187, u188, u189, u190, u191, u192, u193, u194, u195, u196, u197, u198, u199, u200, u201, u202, u203, u204, u205, u206, u207, u208, u209, u210, u211, u212, u213, u214, u215, u216, u217, u218, u219, u220, u221, u222, u223, u224], []⟩ v1 := by
  conv => arg 2; whnf
  obtain ⟨xF250_0, xF250_1, xF250_2⟩ := F2.ce3
  go_wp2_with fail
  (with_reducible refine (h0 _).mono ?_)
  rintro r w21 ⟨rfl, hb21⟩
  clear xF250_0 xF250_1 xF250_2
  replace F2 := F2.keep hb21
  replace B0 := B0.trans (hb21.mono B0.size)
  clear hb21
  go_wp2_with fail
  (with_reducible refine (hl _).mono ?_)
  rintro r w22 ⟨rfl, hb22⟩
  clear F2
  replace B0 := B0.trans (hb22.mono B0.size)
  clear hb22
  go_wp2
  go_ret
  exact ⟨rfl, B0⟩
set_option maxRecDepth 1000000 in
set_option maxHeartbeats 16000000 in
theorem near_may (xn : Bool) (xS xT : ByteArray) (fx : Int) (w : World) 
    (h0 : ∀ W, Calls Tryz.prog 12 #[.agg #[.bool xn, .string xS, .string xT]] W fun r w' => r = .returned (.bool true) ∧ Below W.heap.size W w')
    (h1 : ∀ W, Calls Tryz.prog 13 #[.agg #[.bool xn, .string xS, .string xT]] W fun r w' => r = .returned (.bool false) ∧ Below W.heap.size W w')
    (hl : ∀ W, Calls Tryz.prog 14 #[] W fun r w' => r = .returned (.bool true) ∧ Below W.heap.size W w')
    (v1 : World) (F2 : Blk v1 (w.heap.size) #[.bool xn, .string xS, .string xT] 24) (B0 : Below w.heap.size w v1) (u3 u4 u5 u6 u7 u8 u9 u10 u11 u12 u13 u14 u15 u16 u17 u18 u19 u20 u21 u22 u23 u24 u25 u26 u27 u28 u29 u30 u31 u32 u33 u34 u35 u36 u37 u38 u39 u40 u41 u42 u43 u44 u45 u46 u47 u48 u49 u50 u51 u52 u53 u54 u55 u56 u57 u58 u59 u60 u61 u62 u63 u64 u65 u66 u67 u68 u69 u70 u71 u72 u73 u74 u75 u76 u77 u78 u79 u80 u81 u82 u83 u84 u85 u86 u87 u88 u89 u90 u91 u92 u93 u94 u95 u96 u97 u98 u99 u100 u101 u102 u103 u104 u105 u106 u107 u108 u109 u110 u111 u112 u113 u114 u115 u116 u117 u118 u119 u120 u121 u122 u123 u124 u125 u126 u127 u128 u129 u130 u131 u132 u133 u134 u135 u136 u137 u138 u139 u140 u141 u142 u143 u144 u145 u146 u147 u148 u149 u150 u151 u152 u153 u154 u155 u156 u157 u158 u159 u160 u161 u162 u163 u164 u165 u166 u167 u168 u169 u170 u171 u172 u173 u174 u175 u176 u177 u178 u179 u180 u181 u182 u183 u184 u185 u186 u187 u188 u189 u190 u191 u192 u193 u194 u195 u196 u197 u198 u199 u200 u201 u202 u203 u204 u205 u206 u207 u208 u209 u210 u211 u212 u213 u214 u215 u216 u217 u218 u219 u220 u221 u222 u223 u224 : Value) :
    Code.wp Tryz.prog (nearTail 9 (Tryz.f3.body.getD .skip)) (bodyPost Tryz.prog Tryz.f3 fun r w' => r = .returned (.bool true) ∧ Below w.heap.size w w') ⟨#[.agg #[.bool xn, .string xS, .string xT], .int .u64 fx, .pointer (some ⟨w.heap.size, 0, none⟩), u3, u4, u5, u6, u7, u8, u9, u10, u11, u12, u13, u14, u15, u16, u17, u18, u19, u20, u21, u22, u23, u24, u25, u26, u27, u28, u29, u30, u31, u32, u33, u34, u35, u36, u37, u38, u39, u40, u41, u42, u43, u44, u45, u46, u47, u48, u49, u50, u51, u52, u53, u54, u55, u56, u57, u58, u59, u60, u61, u62, u63, u64, u65, u66, u67, u68, u69, u70, u71, u72, u73, u74, u75, u76, u77, u78, u79, u80, u81, u82, u83, u84, u85, u86, u87, u88, u89, u90, u91, u92, u93, u94, u95, u96, u97, u98, u99, u100, u101, u102, u103, u104, u105, u106, u107, u108, u109, u110, u111, u112, u113, u114, u115, u116, u117, u118, u119, u120, u121, u122, u123, u124, u125, u126, u127, u128, u129, u130, u131, u132, u133, u134, u135, u136, u137, u138, u139, u140, u141, u142, u143, u144, u145, u146, u147, u148, u149, u150, u151, u152, u153, u154, u155, u156, u157, u158, u159, u160, u161, u162, u163, u164, u165, u166, u167, u168, u169, u170, u171, u172, u173, u174, u175, u176, u177, u178, u179, u180, u181, u182, u183, u184, u185, u186, u187, u188, u189, u190, u191, u192, u193, u194, u195, u196, u197, u198, u199, u200, u201, u202, u203, u204, u205, u206, u207, u208, u209, u210, u211, u212, u213, u214, u215, u216, u217, u218, u219, u220, u221, u222, u223, u224], []⟩ v1 := by
  conv => arg 2; whnf
  obtain ⟨xF250_0, xF250_1, xF250_2⟩ := F2.ce3
  go_wp2_with fail
  (with_reducible refine (h0 _).mono ?_)
  rintro r w21 ⟨rfl, hb21⟩
  clear xF250_0 xF250_1 xF250_2
  replace F2 := F2.keep hb21
  replace B0 := B0.trans (hb21.mono B0.size)
  clear hb21
  obtain ⟨xF251_0, xF251_1, xF251_2⟩ := F2.ce3
  go_wp2_with fail
  (with_reducible refine (h1 _).mono ?_)
  rintro r w22 ⟨rfl, hb22⟩
  clear xF251_0 xF251_1 xF251_2
  replace F2 := F2.keep hb22
  replace B0 := B0.trans (hb22.mono B0.size)
  clear hb22
  go_wp2_with fail
  (with_reducible refine (hl _).mono ?_)
  rintro r w23 ⟨rfl, hb23⟩
  clear F2
  replace B0 := B0.trans (hb23.mono B0.size)
  clear hb23
  go_wp2
  go_ret
  exact ⟨rfl, B0⟩
end Go.Proofs.YtbhfnigblhfikaaGreatDoor
