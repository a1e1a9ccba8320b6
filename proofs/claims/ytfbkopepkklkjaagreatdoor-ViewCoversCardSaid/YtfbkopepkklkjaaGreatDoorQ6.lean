/- Walks of the layer of Gausses, by a program (walk.py): part Q6. -/
import Derived.Test.YtfbkopepkklkjaaGreatDoorQ3
import Derived.Test.YtfbkopepkklkjaaGreatDoorQ4
namespace Go.Proofs.YtfbkopepkklkjaaGreatDoor
open Go Go.RowKit Go.PlainAid Fil

set_option maxRecDepth 10000 in
set_option maxHeartbeats 4000000 in
theorem amongA_w (k : Int) (n : Int) (e : Int) (d : DY) (p : DY × Int) (M : Int) (E_p : (mkD (2 * k - n) (e - 1), mkR (2 * k - n) (e - 1)) = p) (E_M : yCmp d p.1 = M) (w : World) (ok_d : d.ok) (ba be bd : Nat) (BA : Blk w ba #[.int .i64 n] 3) (BE : Blk w be #[.int .i64 e] 3) (BD : Blk w bd #[.bool d.n, .string (bstr d.x), .int .i64 d.e] 24) (k1 : 0 ≤ k) (k2 : k ≤ n) (n1 : 1 ≤ n) (n2 : n ≤ 65536) (e1 : -4096 ≤ e) (e2 : e ≤ 4096) (hT : Tab w) :
  Calls Tryz.prog 108 #[.int .i64 k, .pointer (some ⟨ba, 0, none⟩), .pointer (some ⟨be, 0, none⟩), .pointer (some ⟨bd, 0, none⟩)] w fun r w' => r = .returned (.int .i64 M) ∧ Below w.heap.size w w' := by
 have ok_p : p.1.ok := E_p ▸ mkD_ok _ _
 have h1 := fun W hW => cof (2 * k - n) (e - 1) W hW (by omega) (by omega) (by omega) (by omega)
 rw [E_p] at h1
 have h2 := fun W => ccmp d p.1 W ok_d ok_p
 rw [E_M] at h2
 clear E_p E_M ok_p ok_d
 obtain ⟨dn, dX, de⟩ := d
 obtain ⟨⟨pn, pX, pe⟩, pr⟩ := p
 dsimp only at *
 generalize bstr dX = dS at *
 generalize bstr pX = pS at *
 go_enter Tryz.func108, Tryz.ntmps108
 have B0 := Below.refl w.heap.size w
 have xBA0_0 := BA.ce1
 have xBE0_0 := BE.ce1
 go_wp2_with fail
 (with_reducible refine (h1 _ (hT.below B0)).mono ?_)
 rintro r w1 ⟨rfl, hb1⟩
 clear xBA0_0 xBE0_0
 replace BA := BA.keep hb1
 replace BE := BE.keep hb1
 replace BD := BD.keep hb1
 replace B0 := B0.trans (hb1.mono B0.size)
 clear hb1
 clear BA
 clear BE
 replace BD := BD.allocd (.cells #[.bool pn, .string pS, .int .i64 pe] 24)
 have F6 := Blk.put (w1) #[.bool pn, .string pS, .int .i64 pe] 24
 replace B0 := B0.alloc B0.size (.cells #[.bool pn, .string pS, .int .i64 pe] 24)
 obtain ⟨xBD1_0, xBD1_1, xBD1_2⟩ := BD.ce3
 obtain ⟨xF61_0, xF61_1, xF61_2⟩ := F6.ce3
 go_wp2_with fail
 (with_reducible refine (h2 _).mono ?_)
 rintro r w2 ⟨rfl, hb2⟩
 clear xBD1_0 xBD1_1 xBD1_2 xF61_0 xF61_1 xF61_2
 replace BD := BD.keep hb2
 replace F6 := F6.keep hb2
 replace B0 := B0.trans (hb2.mono B0.size)
 clear hb2
 go_wp2
 go_ret
 exact ⟨rfl, B0⟩

theorem amongA (ba be bd : Nat) (k n e : Int) (d : DY) (w : World) (hd : d.ok) (BA : Blk w ba #[.int .i64 n] 3) (BE : Blk w be #[.int .i64 e] 3) (BD : Blk w bd #[.bool d.n, .string (bstr d.x), .int .i64 d.e] 24) (k1 : 0 ≤ k) (k2 : k ≤ n) (n1 : 1 ≤ n) (n2 : n ≤ 65536) (e1 : -4096 ≤ e) (e2 : e ≤ 4096) (hT : Tab w) :
  Calls Tryz.prog 108 #[.int .i64 k, .pointer (some ⟨ba, 0, none⟩), .pointer (some ⟨be, 0, none⟩), .pointer (some ⟨bd, 0, none⟩)] w fun r w' => r = .returned (.int .i64 (yCmp d (mkD (2 * k - n) (e - 1)))) ∧ Below w.heap.size w w' :=
 amongA_w k n e d _ _ rfl rfl w hd ba be bd BA BE BD k1 k2 n1 n2 e1 e2 hT

set_option maxRecDepth 10000 in
set_option maxHeartbeats 4000000 in
theorem amongB_w (k : Int) (n : Int) (e : Int) (d : DY) (M : Int) (E_M : yCmp d (mkD (2 * (k + 1) - n) (e - 1)) = M) (w : World) (ok_d : d.ok) (ba be bd : Nat) (BA : Blk w ba #[.int .i64 n] 3) (BE : Blk w be #[.int .i64 e] 3) (BD : Blk w bd #[.bool d.n, .string (bstr d.x), .int .i64 d.e] 24) (bf : Nat) (BF : Blk w bf #[.func (.func 108) #[] #[.pointer (some ⟨ba, 0, none⟩), .pointer (some ⟨be, 0, none⟩), .pointer (some ⟨bd, 0, none⟩)]] 108) (k1 : 0 ≤ k) (k2 : k + 1 ≤ n) (n1 : 1 ≤ n) (n2 : n ≤ 65536) (e1 : -4096 ≤ e) (e2 : e ≤ 4096) (hT : Tab w) :
  Calls Tryz.prog 109 #[.int .i64 k, .pointer (some ⟨bf, 0, none⟩)] w fun r w' => r = .returned (.bool (decide (M ≤ 0))) ∧ Below w.heap.size w w' := by
 have h1 := fun W BA BE BD hW => amongA ba be bd (k + 1) n e d W ok_d BA BE BD (by omega) (by omega) n1 n2 e1 e2 hW
 rw [E_M] at h1
 clear e1 e2
 have hcl : ∀ args w, (callFunc 108 args).run Tryz.prog w = .ok (.enter 108 args) w := enters_of Tryz.func108 (by kernel_rfl) rfl
 clear E_M ok_d
 obtain ⟨dn, dX, de⟩ := d
 dsimp only at *
 generalize bstr dX = dS at *
 go_enter Tryz.func109, Tryz.ntmps109
 have B0 := Below.refl w.heap.size w
 have xBF0_0 := BF.ce1
 go_wp2_with fail
 (with_reducible refine (h1 _ (BA.keep B0) (BE.keep B0) (BD.keep B0) (hT.below B0)).mono ?_)
 rintro r w1 ⟨rfl, hb1⟩
 clear xBF0_0
 replace BF := BF.keep hb1
 replace B0 := B0.trans (hb1.mono B0.size)
 clear hb1
 go_wp2
 go_ret
 exact ⟨rfl, B0⟩

theorem amongB (ba be bd bf k : Nat) (n e : Int) (d : DY) (w : World) (hd : d.ok) (BA : Blk w ba #[.int .i64 n] 3) (BE : Blk w be #[.int .i64 e] 3) (BD : Blk w bd #[.bool d.n, .string (bstr d.x), .int .i64 d.e] 24) (BF : Blk w bf #[.func (.func 108) #[] #[.pointer (some ⟨ba, 0, none⟩), .pointer (some ⟨be, 0, none⟩), .pointer (some ⟨bd, 0, none⟩)]] 108) (k2 : (k : Int) + 1 ≤ n) (n1 : 1 ≤ n) (n2 : n ≤ 65536) (e1 : -4096 ≤ e) (e2 : e ≤ 4096) (hT : Tab w) :
  Calls Tryz.prog 109 #[.int .i64 (k : Int), .pointer (some ⟨bf, 0, none⟩)] w fun r w' => r = .returned (.bool (edB d n e k)) ∧ Below w.heap.size w w' :=
 amongB_w k n e d _ rfl w hd ba be bd BA BE BD bf BF (by omega) k2 n1 n2 e1 e2 hT
theorem among_search (ba be bd bf : Nat) (n e : Int) (d : DY) (w : World) (hd : d.ok) (BA : Blk w ba #[.int .i64 n] 3) (BE : Blk w be #[.int .i64 e] 3) (BD : Blk w bd #[.bool d.n, .string (bstr d.x), .int .i64 d.e] 24) (BF : Blk w bf #[.func (.func 108) #[] #[.pointer (some ⟨ba, 0, none⟩), .pointer (some ⟨be, 0, none⟩), .pointer (some ⟨bd, 0, none⟩)]] 108) (n1 : 1 ≤ n) (n2 : n ≤ 65536) (e1 : -4096 ≤ e) (e2 : e ≤ 4096) (hT : Tab w) :
  Calls Tryz.prog 84 #[.int .i64 (n - 1), .func (.func 109) #[] #[.pointer (some ⟨bf, 0, none⟩)]] w fun r w' => r = .returned (.int .i64 (lst (edB d n e) (n - 1).toNat : Nat)) ∧ Below w.heap.size w w' :=
 search_any 109 _ _ (n - 1).toNat (edB d n e) w (by omega) (enters_of Tryz.func109 (by kernel_rfl) rfl) (by omega)
  (fun W i hi hW => amongB ba be bd bf i n e d W hd (BA.keep hW) (BE.keep hW) (BD.keep hW) (BF.keep hW) (by omega) n1 n2 e1 e2 (hT.below hW))
  (fun a b hab hb h => edB_mono (by omega) (by omega) (by omega) (by omega) hab h)

set_option maxRecDepth 10000 in
set_option maxHeartbeats 4000000 in
theorem vamong_1 (d : DY) (n : Int) (e : Int) (M0 : Int) (E_M0 : yCmp d (mkD (2 * 0 - n) (e - 1)) = M0) (w : World) (ok_d : d.ok) (n1 : 1 ≤ n) (n2 : n ≤ 65536) (e1 : -4096 ≤ e) (e2 : e ≤ 4096) (hm : M0 < 0) (hT : Tab w) :
  Calls Tryz.prog 65 #[.agg #[.bool d.n, .string (bstr d.x), .int .i64 d.e], .int .i64 n, .int .i64 e] w fun r w' => r = .returned (.tuple #[.int .i64 0, .bool false]) ∧ Below w.heap.size w w' := by
 have hA := fun (ba be bd : Nat) W (BA : Blk W ba #[.int .i64 n] 3) (BE : Blk W be #[.int .i64 e] 3) (BD : Blk W bd #[.bool d.n, .string (bstr d.x), .int .i64 d.e] 24) hW => amongA ba be bd 0 n e d W ok_d BA BE BD (by omega) (by omega) n1 n2 e1 e2 hW
 rw [E_M0] at hA
 have hcl : ∀ args w, (callFunc 108 args).run Tryz.prog w = .ok (.enter 108 args) w := enters_of Tryz.func108 (by kernel_rfl) rfl
 have hst := fun (cs : Array Value) (a : Addr) (m : Mode) (W : World) => (run_store Tryz.prog W a (.func (.func 108) #[] cs) m rfl : (store a (.func (.func 108) #[] cs) m).run Tryz.prog W = stored Tryz.prog W a (.func (.func 108) #[] cs) m)
 clear e1 e2
 clear E_M0 ok_d
 obtain ⟨dn, dX, de⟩ := d
 dsimp only at *
 generalize bstr dX = dS at *
 go_enter Tryz.func65, Tryz.ntmps65
 have B0 := Below.refl w.heap.size w
 have F3 := Blk.put (w) #[.bool dn, .string dS, .int .i64 de] 24
 replace B0 := B0.alloc B0.size (.cells #[.bool dn, .string dS, .int .i64 de] 24)
 replace F3 := F3.allocd (.cells #[.int .i64 n] 3)
 have F4 := Blk.put ((w).alloc (.cells #[.bool dn, .string dS, .int .i64 de] 24)) #[.int .i64 n] 3
 rw [show ((w).alloc (.cells #[.bool dn, .string dS, .int .i64 de] 24)).heap.size = w.heap.size + 1 by simp] at F4
 replace B0 := B0.alloc B0.size (.cells #[.int .i64 n] 3)
 replace F3 := F3.allocd (.cells #[.int .i64 e] 3)
 replace F4 := F4.allocd (.cells #[.int .i64 e] 3)
 have F5 := Blk.put (((w).alloc (.cells #[.bool dn, .string dS, .int .i64 de] 24)).alloc (.cells #[.int .i64 n] 3)) #[.int .i64 e] 3
 rw [show (((w).alloc (.cells #[.bool dn, .string dS, .int .i64 de] 24)).alloc (.cells #[.int .i64 n] 3)).heap.size = w.heap.size + 1 + 1 by simp] at F5
 replace B0 := B0.alloc B0.size (.cells #[.int .i64 e] 3)
 replace F3 := F3.allocd (.cells #[.func (.func 108) #[] #[.pointer (some ⟨w.heap.size + 1, 0, none⟩), .pointer (some ⟨w.heap.size + 1 + 1, 0, none⟩), .pointer (some ⟨w.heap.size, 0, none⟩)]] 108)
 replace F4 := F4.allocd (.cells #[.func (.func 108) #[] #[.pointer (some ⟨w.heap.size + 1, 0, none⟩), .pointer (some ⟨w.heap.size + 1 + 1, 0, none⟩), .pointer (some ⟨w.heap.size, 0, none⟩)]] 108)
 replace F5 := F5.allocd (.cells #[.func (.func 108) #[] #[.pointer (some ⟨w.heap.size + 1, 0, none⟩), .pointer (some ⟨w.heap.size + 1 + 1, 0, none⟩), .pointer (some ⟨w.heap.size, 0, none⟩)]] 108)
 have F8 := Blk.put ((((w).alloc (.cells #[.bool dn, .string dS, .int .i64 de] 24)).alloc (.cells #[.int .i64 n] 3)).alloc (.cells #[.int .i64 e] 3)) #[.func (.func 108) #[] #[.pointer (some ⟨w.heap.size + 1, 0, none⟩), .pointer (some ⟨w.heap.size + 1 + 1, 0, none⟩), .pointer (some ⟨w.heap.size, 0, none⟩)]] 108
 rw [show ((((w).alloc (.cells #[.bool dn, .string dS, .int .i64 de] 24)).alloc (.cells #[.int .i64 n] 3)).alloc (.cells #[.int .i64 e] 3)).heap.size = w.heap.size + 1 + 1 + 1 by simp] at F8
 replace B0 := B0.alloc B0.size (.cells #[.func (.func 108) #[] #[.pointer (some ⟨w.heap.size + 1, 0, none⟩), .pointer (some ⟨w.heap.size + 1 + 1, 0, none⟩), .pointer (some ⟨w.heap.size, 0, none⟩)]] 108)
 have xF80_0 := F8.ce1
 go_wp2_with fail
 (with_reducible refine (hA (w.heap.size + 1) (w.heap.size + 1 + 1) (w.heap.size) _ F4 F5 F3 (hT.below B0)).mono ?_)
 rintro r w1 ⟨rfl, hb1⟩
 clear xF80_0
 replace F3 := F3.keep hb1
 replace F4 := F4.keep hb1
 replace F5 := F5.keep hb1
 replace F8 := F8.keep hb1
 replace B0 := B0.trans (hb1.mono B0.size)
 clear hb1
 go_wp2
 go_ret2
 exact ⟨rfl, B0⟩

set_option maxRecDepth 10000 in
set_option maxHeartbeats 4000000 in
theorem vamong_2 (d : DY) (n : Int) (e : Int) (M0 : Int) (M1 : Int) (E_M0 : yCmp d (mkD (2 * 0 - n) (e - 1)) = M0) (E_M1 : yCmp d (mkD (2 * n - n) (e - 1)) = M1) (w : World) (ok_d : d.ok) (n1 : 1 ≤ n) (n2 : n ≤ 65536) (e1 : -4096 ≤ e) (e2 : e ≤ 4096) (hm : ¬ M0 < 0) (hk : 0 < M1) (hT : Tab w) :
  Calls Tryz.prog 65 #[.agg #[.bool d.n, .string (bstr d.x), .int .i64 d.e], .int .i64 n, .int .i64 e] w fun r w' => r = .returned (.tuple #[.int .i64 0, .bool false]) ∧ Below w.heap.size w w' := by
 have hA := fun (ba be bd : Nat) W (BA : Blk W ba #[.int .i64 n] 3) (BE : Blk W be #[.int .i64 e] 3) (BD : Blk W bd #[.bool d.n, .string (bstr d.x), .int .i64 d.e] 24) hW => amongA ba be bd 0 n e d W ok_d BA BE BD (by omega) (by omega) n1 n2 e1 e2 hW
 rw [E_M0] at hA
 have hB := fun (ba be bd : Nat) W (BA : Blk W ba #[.int .i64 n] 3) (BE : Blk W be #[.int .i64 e] 3) (BD : Blk W bd #[.bool d.n, .string (bstr d.x), .int .i64 d.e] 24) hW => amongA ba be bd n n e d W ok_d BA BE BD (by omega) (by omega) n1 n2 e1 e2 hW
 rw [E_M1] at hB
 have hcl : ∀ args w, (callFunc 108 args).run Tryz.prog w = .ok (.enter 108 args) w := enters_of Tryz.func108 (by kernel_rfl) rfl
 have hst := fun (cs : Array Value) (a : Addr) (m : Mode) (W : World) => (run_store Tryz.prog W a (.func (.func 108) #[] cs) m rfl : (store a (.func (.func 108) #[] cs) m).run Tryz.prog W = stored Tryz.prog W a (.func (.func 108) #[] cs) m)
 clear e1 e2
 clear E_M0 E_M1 ok_d
 obtain ⟨dn, dX, de⟩ := d
 dsimp only at *
 generalize bstr dX = dS at *
 go_enter Tryz.func65, Tryz.ntmps65
 have B0 := Below.refl w.heap.size w
 have F3 := Blk.put (w) #[.bool dn, .string dS, .int .i64 de] 24
 replace B0 := B0.alloc B0.size (.cells #[.bool dn, .string dS, .int .i64 de] 24)
 replace F3 := F3.allocd (.cells #[.int .i64 n] 3)
 have F4 := Blk.put ((w).alloc (.cells #[.bool dn, .string dS, .int .i64 de] 24)) #[.int .i64 n] 3
 rw [show ((w).alloc (.cells #[.bool dn, .string dS, .int .i64 de] 24)).heap.size = w.heap.size + 1 by simp] at F4
 replace B0 := B0.alloc B0.size (.cells #[.int .i64 n] 3)
 replace F3 := F3.allocd (.cells #[.int .i64 e] 3)
 replace F4 := F4.allocd (.cells #[.int .i64 e] 3)
 have F5 := Blk.put (((w).alloc (.cells #[.bool dn, .string dS, .int .i64 de] 24)).alloc (.cells #[.int .i64 n] 3)) #[.int .i64 e] 3
 rw [show (((w).alloc (.cells #[.bool dn, .string dS, .int .i64 de] 24)).alloc (.cells #[.int .i64 n] 3)).heap.size = w.heap.size + 1 + 1 by simp] at F5
 replace B0 := B0.alloc B0.size (.cells #[.int .i64 e] 3)
 replace F3 := F3.allocd (.cells #[.func (.func 108) #[] #[.pointer (some ⟨w.heap.size + 1, 0, none⟩), .pointer (some ⟨w.heap.size + 1 + 1, 0, none⟩), .pointer (some ⟨w.heap.size, 0, none⟩)]] 108)
 replace F4 := F4.allocd (.cells #[.func (.func 108) #[] #[.pointer (some ⟨w.heap.size + 1, 0, none⟩), .pointer (some ⟨w.heap.size + 1 + 1, 0, none⟩), .pointer (some ⟨w.heap.size, 0, none⟩)]] 108)
 replace F5 := F5.allocd (.cells #[.func (.func 108) #[] #[.pointer (some ⟨w.heap.size + 1, 0, none⟩), .pointer (some ⟨w.heap.size + 1 + 1, 0, none⟩), .pointer (some ⟨w.heap.size, 0, none⟩)]] 108)
 have F8 := Blk.put ((((w).alloc (.cells #[.bool dn, .string dS, .int .i64 de] 24)).alloc (.cells #[.int .i64 n] 3)).alloc (.cells #[.int .i64 e] 3)) #[.func (.func 108) #[] #[.pointer (some ⟨w.heap.size + 1, 0, none⟩), .pointer (some ⟨w.heap.size + 1 + 1, 0, none⟩), .pointer (some ⟨w.heap.size, 0, none⟩)]] 108
 rw [show ((((w).alloc (.cells #[.bool dn, .string dS, .int .i64 de] 24)).alloc (.cells #[.int .i64 n] 3)).alloc (.cells #[.int .i64 e] 3)).heap.size = w.heap.size + 1 + 1 + 1 by simp] at F8
 replace B0 := B0.alloc B0.size (.cells #[.func (.func 108) #[] #[.pointer (some ⟨w.heap.size + 1, 0, none⟩), .pointer (some ⟨w.heap.size + 1 + 1, 0, none⟩), .pointer (some ⟨w.heap.size, 0, none⟩)]] 108)
 have xF80_0 := F8.ce1
 go_wp2_with fail
 (with_reducible refine (hA (w.heap.size + 1) (w.heap.size + 1 + 1) (w.heap.size) _ F4 F5 F3 (hT.below B0)).mono ?_)
 rintro r w1 ⟨rfl, hb1⟩
 clear xF80_0
 replace F3 := F3.keep hb1
 replace F4 := F4.keep hb1
 replace F5 := F5.keep hb1
 replace F8 := F8.keep hb1
 replace B0 := B0.trans (hb1.mono B0.size)
 clear hb1
 have xF81_0 := F8.ce1
 have xF41_0 := F4.ce1
 go_wp2_with fail
 (with_reducible refine (hB (w.heap.size + 1) (w.heap.size + 1 + 1) (w.heap.size) _ F4 F5 F3 (hT.below B0)).mono ?_)
 rintro r w2 ⟨rfl, hb2⟩
 clear xF81_0 xF41_0
 replace F3 := F3.keep hb2
 replace F4 := F4.keep hb2
 replace F5 := F5.keep hb2
 replace F8 := F8.keep hb2
 replace B0 := B0.trans (hb2.mono B0.size)
 clear hb2
 go_wp2
 go_ret2
 exact ⟨rfl, B0⟩

set_option maxRecDepth 10000 in
set_option maxHeartbeats 4000000 in
theorem vamong_3 (d : DY) (n : Int) (e : Int) (M0 : Int) (M1 : Int) (L : Nat) (E_M0 : yCmp d (mkD (2 * 0 - n) (e - 1)) = M0) (E_M1 : yCmp d (mkD (2 * n - n) (e - 1)) = M1) (E_L : lst (edB d n e) (n - 1).toNat = L) (w : World) (ok_d : d.ok) (n1 : 1 ≤ n) (n2 : n ≤ 65536) (e1 : -4096 ≤ e) (e2 : e ≤ 4096) (hm : ¬ M0 < 0) (hk : ¬ 0 < M1) (hT : Tab w) :
  Calls Tryz.prog 65 #[.agg #[.bool d.n, .string (bstr d.x), .int .i64 d.e], .int .i64 n, .int .i64 e] w fun r w' => r = .returned (.tuple #[.int .i64 (L : Int), .bool true]) ∧ Below w.heap.size w w' := by
 have hA := fun (ba be bd : Nat) W (BA : Blk W ba #[.int .i64 n] 3) (BE : Blk W be #[.int .i64 e] 3) (BD : Blk W bd #[.bool d.n, .string (bstr d.x), .int .i64 d.e] 24) hW => amongA ba be bd 0 n e d W ok_d BA BE BD (by omega) (by omega) n1 n2 e1 e2 hW
 rw [E_M0] at hA
 have hB := fun (ba be bd : Nat) W (BA : Blk W ba #[.int .i64 n] 3) (BE : Blk W be #[.int .i64 e] 3) (BD : Blk W bd #[.bool d.n, .string (bstr d.x), .int .i64 d.e] 24) hW => amongA ba be bd n n e d W ok_d BA BE BD (by omega) (by omega) n1 n2 e1 e2 hW
 rw [E_M1] at hB
 have hS := fun (ba be bd bf : Nat) W (BA : Blk W ba #[.int .i64 n] 3) (BE : Blk W be #[.int .i64 e] 3) (BD : Blk W bd #[.bool d.n, .string (bstr d.x), .int .i64 d.e] 24) BF hW => among_search ba be bd bf n e d W ok_d BA BE BD BF n1 n2 e1 e2 hW
 rw [E_L] at hS
 have hcl : ∀ args w, (callFunc 108 args).run Tryz.prog w = .ok (.enter 108 args) w := enters_of Tryz.func108 (by kernel_rfl) rfl
 have hst := fun (cs : Array Value) (a : Addr) (m : Mode) (W : World) => (run_store Tryz.prog W a (.func (.func 108) #[] cs) m rfl : (store a (.func (.func 108) #[] cs) m).run Tryz.prog W = stored Tryz.prog W a (.func (.func 108) #[] cs) m)
 clear e1 e2
 clear E_M0 E_M1 E_L ok_d
 obtain ⟨dn, dX, de⟩ := d
 dsimp only at *
 generalize bstr dX = dS at *
 go_enter Tryz.func65, Tryz.ntmps65
 have B0 := Below.refl w.heap.size w
 have F3 := Blk.put (w) #[.bool dn, .string dS, .int .i64 de] 24
 replace B0 := B0.alloc B0.size (.cells #[.bool dn, .string dS, .int .i64 de] 24)
 replace F3 := F3.allocd (.cells #[.int .i64 n] 3)
 have F4 := Blk.put ((w).alloc (.cells #[.bool dn, .string dS, .int .i64 de] 24)) #[.int .i64 n] 3
 rw [show ((w).alloc (.cells #[.bool dn, .string dS, .int .i64 de] 24)).heap.size = w.heap.size + 1 by simp] at F4
 replace B0 := B0.alloc B0.size (.cells #[.int .i64 n] 3)
 replace F3 := F3.allocd (.cells #[.int .i64 e] 3)
 replace F4 := F4.allocd (.cells #[.int .i64 e] 3)
 have F5 := Blk.put (((w).alloc (.cells #[.bool dn, .string dS, .int .i64 de] 24)).alloc (.cells #[.int .i64 n] 3)) #[.int .i64 e] 3
 rw [show (((w).alloc (.cells #[.bool dn, .string dS, .int .i64 de] 24)).alloc (.cells #[.int .i64 n] 3)).heap.size = w.heap.size + 1 + 1 by simp] at F5
 replace B0 := B0.alloc B0.size (.cells #[.int .i64 e] 3)
 replace F3 := F3.allocd (.cells #[.func (.func 108) #[] #[.pointer (some ⟨w.heap.size + 1, 0, none⟩), .pointer (some ⟨w.heap.size + 1 + 1, 0, none⟩), .pointer (some ⟨w.heap.size, 0, none⟩)]] 108)
 replace F4 := F4.allocd (.cells #[.func (.func 108) #[] #[.pointer (some ⟨w.heap.size + 1, 0, none⟩), .pointer (some ⟨w.heap.size + 1 + 1, 0, none⟩), .pointer (some ⟨w.heap.size, 0, none⟩)]] 108)
 replace F5 := F5.allocd (.cells #[.func (.func 108) #[] #[.pointer (some ⟨w.heap.size + 1, 0, none⟩), .pointer (some ⟨w.heap.size + 1 + 1, 0, none⟩), .pointer (some ⟨w.heap.size, 0, none⟩)]] 108)
 have F8 := Blk.put ((((w).alloc (.cells #[.bool dn, .string dS, .int .i64 de] 24)).alloc (.cells #[.int .i64 n] 3)).alloc (.cells #[.int .i64 e] 3)) #[.func (.func 108) #[] #[.pointer (some ⟨w.heap.size + 1, 0, none⟩), .pointer (some ⟨w.heap.size + 1 + 1, 0, none⟩), .pointer (some ⟨w.heap.size, 0, none⟩)]] 108
 rw [show ((((w).alloc (.cells #[.bool dn, .string dS, .int .i64 de] 24)).alloc (.cells #[.int .i64 n] 3)).alloc (.cells #[.int .i64 e] 3)).heap.size = w.heap.size + 1 + 1 + 1 by simp] at F8
 replace B0 := B0.alloc B0.size (.cells #[.func (.func 108) #[] #[.pointer (some ⟨w.heap.size + 1, 0, none⟩), .pointer (some ⟨w.heap.size + 1 + 1, 0, none⟩), .pointer (some ⟨w.heap.size, 0, none⟩)]] 108)
 have xF80_0 := F8.ce1
 go_wp2_with fail
 (with_reducible refine (hA (w.heap.size + 1) (w.heap.size + 1 + 1) (w.heap.size) _ F4 F5 F3 (hT.below B0)).mono ?_)
 rintro r w1 ⟨rfl, hb1⟩
 clear xF80_0
 replace F3 := F3.keep hb1
 replace F4 := F4.keep hb1
 replace F5 := F5.keep hb1
 replace F8 := F8.keep hb1
 replace B0 := B0.trans (hb1.mono B0.size)
 clear hb1
 have xF81_0 := F8.ce1
 have xF41_0 := F4.ce1
 go_wp2_with fail
 (with_reducible refine (hB (w.heap.size + 1) (w.heap.size + 1 + 1) (w.heap.size) _ F4 F5 F3 (hT.below B0)).mono ?_)
 rintro r w2 ⟨rfl, hb2⟩
 clear xF81_0 xF41_0
 replace F3 := F3.keep hb2
 replace F4 := F4.keep hb2
 replace F5 := F5.keep hb2
 replace F8 := F8.keep hb2
 replace B0 := B0.trans (hb2.mono B0.size)
 clear hb2
 have xF42_0 := F4.ce1
 go_wp2_with fail
 (with_reducible refine (hS (w.heap.size + 1) (w.heap.size + 1 + 1) (w.heap.size) (w.heap.size + 1 + 1 + 1) _ F4 F5 F3 F8 (hT.below B0)).mono ?_)
 rintro r w3 ⟨rfl, hb3⟩
 clear xF42_0
 replace F3 := F3.keep hb3
 replace F4 := F4.keep hb3
 replace F5 := F5.keep hb3
 replace F8 := F8.keep hb3
 replace B0 := B0.trans (hb3.mono B0.size)
 clear hb3
 go_wp2
 go_ret2
 exact ⟨rfl, B0⟩

theorem vamong (d : DY) (n e : Int) (w : World) (hd : d.ok) (n1 : 1 ≤ n) (n2 : n ≤ 65536) (e1 : -4096 ≤ e) (e2 : e ≤ 4096) (hT : Tab w) :
  Calls Tryz.prog 65 #[.agg #[.bool d.n, .string (bstr d.x), .int .i64 d.e], .int .i64 n, .int .i64 e] w fun r w' => r = .returned (.tuple #[.int .i64 (amS d n e).1, .bool (amS d n e).2]) ∧ Below w.heap.size w w' := by
 unfold amS
 by_cases h0 : yCmp d (mkD (2 * 0 - n) (e - 1)) < 0
 ·rw [if_pos (.inl h0)]
  exact vamong_1 d n e _ rfl w hd n1 n2 e1 e2 h0 hT
 ·by_cases h1 : 0 < yCmp d (mkD (2 * n - n) (e - 1))
  ·rw [if_pos (.inr h1)]
   exact vamong_2 d n e _ _ rfl rfl w hd n1 n2 e1 e2 h0 h1 hT
  ·rw [if_neg (fun k => k.elim h0 h1)]
   exact vamong_3 d n e _ _ _ rfl rfl rfl w hd n1 n2 e1 e2 h0 h1 hT

set_option maxRecDepth 10000 in
set_option maxHeartbeats 4000000 in
theorem vfind_2 (c : GY) (e : Int) (a : Int) (d : Int) (g : GY) (S : GY × Int) (X : Int) (XB : Bool) (N : DY) (Y : Int) (YB : Bool) (E_S : gSub g c = S) (E_X : (amS S.1.re a e).1 = X) (E_XB : (amS S.1.re a e).2 = XB) (E_N : yNeg S.1.im = N) (E_Y : (amS N d e).1 = Y) (E_YB : (amS N d e).2 = YB) (w : World) (ok_c : c.ok) (ok_g : g.ok) (e1 : -4096 ≤ e) (e2 : e ≤ 4096) (a1 : 1 ≤ a) (a2 : a ≤ 65536) (d1 : 1 ≤ d) (d2 : d ≤ 65536) (h_S : S.2 = 0) (hT : Tab w) :
  Calls Tryz.prog 32 #[.agg #[.bool c.re.n, .string (bstr c.re.x), .int .i64 c.re.e, .bool c.im.n, .string (bstr c.im.x), .int .i64 c.im.e, .int .i64 e, .int .i64 a, .int .i64 d], .agg #[.bool g.re.n, .string (bstr g.re.x), .int .i64 g.re.e, .bool g.im.n, .string (bstr g.im.x), .int .i64 g.im.e]] w fun r w' => r = .returned (.tuple #[.int .i64 (if XB && YB then X else 0), .int .i64 (if XB && YB then Y else 0), .int .i64 (if XB && YB then 0 else 241)]) ∧ Below w.heap.size w w' := by
 have ok_S : S.1.ok := E_S ▸ gSub_ok _ _
 have ok_N : N.ok := E_N ▸ yNeg_ok ok_S.2
 have h1 := fun W => vcheck_ok c e a d W ok_c e1 e2 a1 a2 d1 d2
 have h2 := fun W => gcheck_ok g W ok_g
 have h3 := fun W hW => gsub g c W ok_g ok_c hW
 rw [E_S] at h3
 have h4 := fun W hW => vamong S.1.re a e W ok_S.1 a1 a2 e1 e2 hW
 rw [E_X] at h4
 rw [E_XB] at h4
 have h5 := fun W => dneg_ok S.1.im.n S.1.im.x S.1.im.e W ok_S.2
 have h6 := fun W hW => vamong N d e W ok_N d1 d2 e1 e2 hW
 rw [E_Y] at h6
 rw [E_YB] at h6
 rw [show dyN (!S.1.im.n && decide (S.1.im.x ≠ 0)) S.1.im.x S.1.im.e = .agg #[.bool N.n, .string (bstr N.x), .int .i64 N.e] from by rw [← E_N]; rfl] at h5
 clear E_S E_X E_XB E_N E_Y E_YB ok_S ok_N ok_c ok_g
 obtain ⟨⟨cn, cX, ce⟩, ⟨cm, cY, cf⟩⟩ := c
 obtain ⟨⟨gn, gX, ge⟩, ⟨gm, gY, gf⟩⟩ := g
 obtain ⟨⟨⟨Sn, SX, Se⟩, ⟨Sm, SY, Sf⟩⟩, Sr⟩ := S
 obtain ⟨Nn, NX, Ne⟩ := N
 dsimp only at *
 generalize bstr cX = cS at *
 generalize bstr cY = cT at *
 generalize bstr gX = gS at *
 generalize bstr gY = gT at *
 generalize bstr SX = SS at *
 generalize bstr SY = ST at *
 generalize bstr NX = NS at *
 have hu : (Sr != 0) = false := by simp [h_S]
 clear h_S
 cases XB
 ·go_enter Tryz.func32, Tryz.ntmps32
  have B0 := Below.refl w.heap.size w
  have F2 := Blk.put (w) #[.bool cn, .string cS, .int .i64 ce, .bool cm, .string cT, .int .i64 cf, .int .i64 e, .int .i64 a, .int .i64 d] 74
  replace B0 := B0.alloc B0.size (.cells #[.bool cn, .string cS, .int .i64 ce, .bool cm, .string cT, .int .i64 cf, .int .i64 e, .int .i64 a, .int .i64 d] 74)
  replace F2 := F2.allocd (.cells #[.bool gn, .string gS, .int .i64 ge, .bool gm, .string gT, .int .i64 gf] 28)
  have F3 := Blk.put ((w).alloc (.cells #[.bool cn, .string cS, .int .i64 ce, .bool cm, .string cT, .int .i64 cf, .int .i64 e, .int .i64 a, .int .i64 d] 74)) #[.bool gn, .string gS, .int .i64 ge, .bool gm, .string gT, .int .i64 gf] 28
  rw [show ((w).alloc (.cells #[.bool cn, .string cS, .int .i64 ce, .bool cm, .string cT, .int .i64 cf, .int .i64 e, .int .i64 a, .int .i64 d] 74)).heap.size = w.heap.size + 1 by simp] at F3
  replace B0 := B0.alloc B0.size (.cells #[.bool gn, .string gS, .int .i64 ge, .bool gm, .string gT, .int .i64 gf] 28)
  obtain ⟨xF20_0, xF20_1, xF20_2, xF20_3, xF20_4, xF20_5, xF20_6, xF20_7, xF20_8⟩ := F2.ce9
  go_wp2_with fail
  (with_reducible refine (h1 _).mono ?_)
  rintro r w1 ⟨rfl, hb1⟩
  clear xF20_0 xF20_1 xF20_2 xF20_3 xF20_4 xF20_5 xF20_6 xF20_7 xF20_8
  replace F2 := F2.keep hb1
  replace F3 := F3.keep hb1
  replace B0 := B0.trans (hb1.mono B0.size)
  clear hb1
  obtain ⟨xF31_0, xF31_1, xF31_2, xF31_3, xF31_4, xF31_5⟩ := F3.ce6
  go_wp2_with fail
  (with_reducible refine (h2 _).mono ?_)
  rintro r w2 ⟨rfl, hb2⟩
  clear xF31_0 xF31_1 xF31_2 xF31_3 xF31_4 xF31_5
  replace F2 := F2.keep hb2
  replace F3 := F3.keep hb2
  replace B0 := B0.trans (hb2.mono B0.size)
  clear hb2
  obtain ⟨xF32_0, xF32_1, xF32_2, xF32_3, xF32_4, xF32_5⟩ := F3.ce6
  obtain ⟨xF22_0, xF22_1, xF22_2, xF22_3, xF22_4, xF22_5, xF22_6, xF22_7, xF22_8⟩ := F2.ce9
  go_wp2_with fail
  (with_reducible refine (h3 _ (hT.below B0)).mono ?_)
  rintro r w3 ⟨rfl, hb3⟩
  clear xF32_0 xF32_1 xF32_2 xF32_3 xF32_4 xF32_5 xF22_0 xF22_1 xF22_2 xF22_3 xF22_4 xF22_5 xF22_6 xF22_7 xF22_8
  replace F2 := F2.keep hb3
  replace F3 := F3.keep hb3
  replace B0 := B0.trans (hb3.mono B0.size)
  clear hb3
  replace F2 := F2.allocd (.cells #[.bool Sn, .string SS, .int .i64 Se, .bool Sm, .string ST, .int .i64 Sf] 28)
  clear F3
  have F7 := Blk.put (w3) #[.bool Sn, .string SS, .int .i64 Se, .bool Sm, .string ST, .int .i64 Sf] 28
  replace B0 := B0.alloc B0.size (.cells #[.bool Sn, .string SS, .int .i64 Se, .bool Sm, .string ST, .int .i64 Sf] 28)
  obtain ⟨xF73_0, xF73_1, xF73_2, xF73_3, xF73_4, xF73_5⟩ := F7.ce6
  obtain ⟨xF23_0, xF23_1, xF23_2, xF23_3, xF23_4, xF23_5, xF23_6, xF23_7, xF23_8⟩ := F2.ce9
  go_wp2_with fail
  (with_reducible refine (h4 _ (hT.below B0)).mono ?_)
  rintro r w4 ⟨rfl, hb4⟩
  clear xF73_0 xF73_1 xF73_2 xF73_3 xF73_4 xF73_5 xF23_0 xF23_1 xF23_2 xF23_3 xF23_4 xF23_5 xF23_6 xF23_7 xF23_8
  replace F2 := F2.keep hb4
  replace F7 := F7.keep hb4
  replace B0 := B0.trans (hb4.mono B0.size)
  clear hb4
  go_wp2_with fail
  refine wp_region_any (by kernel_rfl) ?_
  obtain ⟨xF74_0, xF74_1, xF74_2, xF74_3, xF74_4, xF74_5⟩ := F7.ce6
  obtain ⟨xF24_0, xF24_1, xF24_2, xF24_3, xF24_4, xF24_5, xF24_6, xF24_7, xF24_8⟩ := F2.ce9
  have hHeld : (fun w' : World => w'.cell? ⟨w3.heap.size, 0, none⟩ = some (.bool Sn) ∧ w'.cell? ⟨w3.heap.size, 1, none⟩ = some (.string SS) ∧ w'.cell? ⟨w3.heap.size, 2, none⟩ = some (.int .i64 Se) ∧ w'.cell? ⟨w3.heap.size, 3, none⟩ = some (.bool Sm) ∧ w'.cell? ⟨w3.heap.size, 4, none⟩ = some (.string ST) ∧ w'.cell? ⟨w3.heap.size, 5, none⟩ = some (.int .i64 Sf) ∧ w'.cell? ⟨w.heap.size, 0, none⟩ = some (.bool cn) ∧ w'.cell? ⟨w.heap.size, 1, none⟩ = some (.string cS) ∧ w'.cell? ⟨w.heap.size, 2, none⟩ = some (.int .i64 ce) ∧ w'.cell? ⟨w.heap.size, 3, none⟩ = some (.bool cm) ∧ w'.cell? ⟨w.heap.size, 4, none⟩ = some (.string cT) ∧ w'.cell? ⟨w.heap.size, 5, none⟩ = some (.int .i64 cf) ∧ w'.cell? ⟨w.heap.size, 6, none⟩ = some (.int .i64 e) ∧ w'.cell? ⟨w.heap.size, 7, none⟩ = some (.int .i64 a) ∧ w'.cell? ⟨w.heap.size, 8, none⟩ = some (.int .i64 d)) (w4).drew := ⟨xF74_0, xF74_1, xF74_2, xF74_3, xF74_4, xF74_5, xF24_0, xF24_1, xF24_2, xF24_3, xF24_4, xF24_5, xF24_6, xF24_7, xF24_8⟩
  refine wpAny_of_held (S := fun w' : World => w'.cell? ⟨w3.heap.size, 0, none⟩ = some (.bool Sn) ∧ w'.cell? ⟨w3.heap.size, 1, none⟩ = some (.string SS) ∧ w'.cell? ⟨w3.heap.size, 2, none⟩ = some (.int .i64 Se) ∧ w'.cell? ⟨w3.heap.size, 3, none⟩ = some (.bool Sm) ∧ w'.cell? ⟨w3.heap.size, 4, none⟩ = some (.string ST) ∧ w'.cell? ⟨w3.heap.size, 5, none⟩ = some (.int .i64 Sf) ∧ w'.cell? ⟨w.heap.size, 0, none⟩ = some (.bool cn) ∧ w'.cell? ⟨w.heap.size, 1, none⟩ = some (.string cS) ∧ w'.cell? ⟨w.heap.size, 2, none⟩ = some (.int .i64 ce) ∧ w'.cell? ⟨w.heap.size, 3, none⟩ = some (.bool cm) ∧ w'.cell? ⟨w.heap.size, 4, none⟩ = some (.string cT) ∧ w'.cell? ⟨w.heap.size, 5, none⟩ = some (.int .i64 cf) ∧ w'.cell? ⟨w.heap.size, 6, none⟩ = some (.int .i64 e) ∧ w'.cell? ⟨w.heap.size, 7, none⟩ = some (.int .i64 a) ∧ w'.cell? ⟨w.heap.size, 8, none⟩ = some (.int .i64 d)) _ _ _ _ ?_
  replace F2 := F2.drew
  replace F7 := F7.drew
  replace B0 := B0.drew
  refine tkA 0 ?_
  (try dsimp only [Act.put]); (try go_frame)
  refine tkA 1 ?_
  (try dsimp only [Act.put]); (try go_frame)
  refine tkA 3 ?_
  (try dsimp only [Act.put]); (try go_frame)
  refine tkA 4 ?_
  (try dsimp only [Act.put]); (try go_frame)
  refine tkA 5 ?_
  (try dsimp only [Act.put]); (try go_frame)
  refine tkA 6 ?_
  (try dsimp only [Act.put]); (try go_frame)
  refine wpAnyH_ready (rs := [2]) (by kernel_rfl) (by simp) ?_
  refine AllReadyH.cons rfl (fun K hK => ?_) AllReadyH.nil
  go_simp
  (with_reducible refine (h5 _).mono ?_)
  rintro r w5 ⟨rfl, hb5⟩
  clear xF74_0 xF74_1 xF74_2 xF74_3 xF74_4 xF74_5 xF24_0 xF24_1 xF24_2 xF24_3 xF24_4 xF24_5 xF24_6 xF24_7 xF24_8
  replace F2 := F2.keep hb5
  replace F7 := F7.keep hb5
  replace B0 := B0.trans (hb5.mono B0.size)
  clear hb5
  obtain ⟨xF76_0, xF76_1, xF76_2, xF76_3, xF76_4, xF76_5⟩ := F7.ce6
  obtain ⟨xF26_0, xF26_1, xF26_2, xF26_3, xF26_4, xF26_5, xF26_6, xF26_7, xF26_8⟩ := F2.ce9
  refine hK.out _ _ ?_ (fun hHeld => ?_)
  ·exact ⟨xF76_0, xF76_1, xF76_2, xF76_3, xF76_4, xF76_5, xF26_0, xF26_1, xF26_2, xF26_3, xF26_4, xF26_5, xF26_6, xF26_7, xF26_8⟩
  clear hK K
  (try dsimp only [Act.put]); (try go_frame)
  refine wpAnyH_ready (rs := [7]) (by kernel_rfl) (by simp) ?_
  refine AllReadyH.cons rfl (fun K hK => ?_) AllReadyH.nil
  go_simp
  (with_reducible refine (h6 _ (hT.below B0)).mono ?_)
  rintro r w6 ⟨rfl, hb6⟩
  clear xF76_0 xF76_1 xF76_2 xF76_3 xF76_4 xF76_5 xF26_0 xF26_1 xF26_2 xF26_3 xF26_4 xF26_5 xF26_6 xF26_7 xF26_8
  replace F2 := F2.keep hb6
  replace F7 := F7.keep hb6
  replace B0 := B0.trans (hb6.mono B0.size)
  clear hb6
  obtain ⟨xF77_0, xF77_1, xF77_2, xF77_3, xF77_4, xF77_5⟩ := F7.ce6
  obtain ⟨xF27_0, xF27_1, xF27_2, xF27_3, xF27_4, xF27_5, xF27_6, xF27_7, xF27_8⟩ := F2.ce9
  refine hK.out _ _ ?_ (fun hHeld => ?_)
  ·exact ⟨xF77_0, xF77_1, xF77_2, xF77_3, xF77_4, xF77_5, xF27_0, xF27_1, xF27_2, xF27_3, xF27_4, xF27_5, xF27_6, xF27_7, xF27_8⟩
  clear hK K
  (try dsimp only [Act.put]); (try go_frame)
  refine tkA 8 ?_
  (try dsimp only [Act.put]); (try go_frame)
  refine tkA 9 ?_
  (try dsimp only [Act.put]); (try go_frame)
  refine tkA 10 ?_
  (try dsimp only [Act.put]); (try go_frame)
  refine tkA 11 ?_
  (try dsimp only [Act.put]); (try go_frame)
  refine tkA 12 ?_
  (try dsimp only [Act.put]); (try go_frame)
  refine wpAnyH_done (by kernel_rfl) ?_ _
  try simp only [QCut]
  clear hHeld
  clear xF77_0 xF77_1 xF77_2 xF77_3 xF77_4 xF77_5 xF27_0 xF27_1 xF27_2 xF27_3 xF27_4 xF27_5 xF27_6 xF27_7 xF27_8
  go_wp2
  go_ret3
  exact ⟨rfl, B0⟩
 ·cases YB
  ·go_enter Tryz.func32, Tryz.ntmps32
   have B0 := Below.refl w.heap.size w
   have F2 := Blk.put (w) #[.bool cn, .string cS, .int .i64 ce, .bool cm, .string cT, .int .i64 cf, .int .i64 e, .int .i64 a, .int .i64 d] 74
   replace B0 := B0.alloc B0.size (.cells #[.bool cn, .string cS, .int .i64 ce, .bool cm, .string cT, .int .i64 cf, .int .i64 e, .int .i64 a, .int .i64 d] 74)
   replace F2 := F2.allocd (.cells #[.bool gn, .string gS, .int .i64 ge, .bool gm, .string gT, .int .i64 gf] 28)
   have F3 := Blk.put ((w).alloc (.cells #[.bool cn, .string cS, .int .i64 ce, .bool cm, .string cT, .int .i64 cf, .int .i64 e, .int .i64 a, .int .i64 d] 74)) #[.bool gn, .string gS, .int .i64 ge, .bool gm, .string gT, .int .i64 gf] 28
   rw [show ((w).alloc (.cells #[.bool cn, .string cS, .int .i64 ce, .bool cm, .string cT, .int .i64 cf, .int .i64 e, .int .i64 a, .int .i64 d] 74)).heap.size = w.heap.size + 1 by simp] at F3
   replace B0 := B0.alloc B0.size (.cells #[.bool gn, .string gS, .int .i64 ge, .bool gm, .string gT, .int .i64 gf] 28)
   obtain ⟨xF20_0, xF20_1, xF20_2, xF20_3, xF20_4, xF20_5, xF20_6, xF20_7, xF20_8⟩ := F2.ce9
   go_wp2_with fail
   (with_reducible refine (h1 _).mono ?_)
   rintro r w1 ⟨rfl, hb1⟩
   clear xF20_0 xF20_1 xF20_2 xF20_3 xF20_4 xF20_5 xF20_6 xF20_7 xF20_8
   replace F2 := F2.keep hb1
   replace F3 := F3.keep hb1
   replace B0 := B0.trans (hb1.mono B0.size)
   clear hb1
   obtain ⟨xF31_0, xF31_1, xF31_2, xF31_3, xF31_4, xF31_5⟩ := F3.ce6
   go_wp2_with fail
   (with_reducible refine (h2 _).mono ?_)
   rintro r w2 ⟨rfl, hb2⟩
   clear xF31_0 xF31_1 xF31_2 xF31_3 xF31_4 xF31_5
   replace F2 := F2.keep hb2
   replace F3 := F3.keep hb2
   replace B0 := B0.trans (hb2.mono B0.size)
   clear hb2
   obtain ⟨xF32_0, xF32_1, xF32_2, xF32_3, xF32_4, xF32_5⟩ := F3.ce6
   obtain ⟨xF22_0, xF22_1, xF22_2, xF22_3, xF22_4, xF22_5, xF22_6, xF22_7, xF22_8⟩ := F2.ce9
   go_wp2_with fail
   (with_reducible refine (h3 _ (hT.below B0)).mono ?_)
   rintro r w3 ⟨rfl, hb3⟩
   clear xF32_0 xF32_1 xF32_2 xF32_3 xF32_4 xF32_5 xF22_0 xF22_1 xF22_2 xF22_3 xF22_4 xF22_5 xF22_6 xF22_7 xF22_8
   replace F2 := F2.keep hb3
   replace F3 := F3.keep hb3
   replace B0 := B0.trans (hb3.mono B0.size)
   clear hb3
   replace F2 := F2.allocd (.cells #[.bool Sn, .string SS, .int .i64 Se, .bool Sm, .string ST, .int .i64 Sf] 28)
   clear F3
   have F7 := Blk.put (w3) #[.bool Sn, .string SS, .int .i64 Se, .bool Sm, .string ST, .int .i64 Sf] 28
   replace B0 := B0.alloc B0.size (.cells #[.bool Sn, .string SS, .int .i64 Se, .bool Sm, .string ST, .int .i64 Sf] 28)
   obtain ⟨xF73_0, xF73_1, xF73_2, xF73_3, xF73_4, xF73_5⟩ := F7.ce6
   obtain ⟨xF23_0, xF23_1, xF23_2, xF23_3, xF23_4, xF23_5, xF23_6, xF23_7, xF23_8⟩ := F2.ce9
   go_wp2_with fail
   (with_reducible refine (h4 _ (hT.below B0)).mono ?_)
   rintro r w4 ⟨rfl, hb4⟩
   clear xF73_0 xF73_1 xF73_2 xF73_3 xF73_4 xF73_5 xF23_0 xF23_1 xF23_2 xF23_3 xF23_4 xF23_5 xF23_6 xF23_7 xF23_8
   replace F2 := F2.keep hb4
   replace F7 := F7.keep hb4
   replace B0 := B0.trans (hb4.mono B0.size)
   clear hb4
   go_wp2_with fail
   refine wp_region_any (by kernel_rfl) ?_
   obtain ⟨xF74_0, xF74_1, xF74_2, xF74_3, xF74_4, xF74_5⟩ := F7.ce6
   obtain ⟨xF24_0, xF24_1, xF24_2, xF24_3, xF24_4, xF24_5, xF24_6, xF24_7, xF24_8⟩ := F2.ce9
   have hHeld : (fun w' : World => w'.cell? ⟨w3.heap.size, 0, none⟩ = some (.bool Sn) ∧ w'.cell? ⟨w3.heap.size, 1, none⟩ = some (.string SS) ∧ w'.cell? ⟨w3.heap.size, 2, none⟩ = some (.int .i64 Se) ∧ w'.cell? ⟨w3.heap.size, 3, none⟩ = some (.bool Sm) ∧ w'.cell? ⟨w3.heap.size, 4, none⟩ = some (.string ST) ∧ w'.cell? ⟨w3.heap.size, 5, none⟩ = some (.int .i64 Sf) ∧ w'.cell? ⟨w.heap.size, 0, none⟩ = some (.bool cn) ∧ w'.cell? ⟨w.heap.size, 1, none⟩ = some (.string cS) ∧ w'.cell? ⟨w.heap.size, 2, none⟩ = some (.int .i64 ce) ∧ w'.cell? ⟨w.heap.size, 3, none⟩ = some (.bool cm) ∧ w'.cell? ⟨w.heap.size, 4, none⟩ = some (.string cT) ∧ w'.cell? ⟨w.heap.size, 5, none⟩ = some (.int .i64 cf) ∧ w'.cell? ⟨w.heap.size, 6, none⟩ = some (.int .i64 e) ∧ w'.cell? ⟨w.heap.size, 7, none⟩ = some (.int .i64 a) ∧ w'.cell? ⟨w.heap.size, 8, none⟩ = some (.int .i64 d)) (w4).drew := ⟨xF74_0, xF74_1, xF74_2, xF74_3, xF74_4, xF74_5, xF24_0, xF24_1, xF24_2, xF24_3, xF24_4, xF24_5, xF24_6, xF24_7, xF24_8⟩
   refine wpAny_of_held (S := fun w' : World => w'.cell? ⟨w3.heap.size, 0, none⟩ = some (.bool Sn) ∧ w'.cell? ⟨w3.heap.size, 1, none⟩ = some (.string SS) ∧ w'.cell? ⟨w3.heap.size, 2, none⟩ = some (.int .i64 Se) ∧ w'.cell? ⟨w3.heap.size, 3, none⟩ = some (.bool Sm) ∧ w'.cell? ⟨w3.heap.size, 4, none⟩ = some (.string ST) ∧ w'.cell? ⟨w3.heap.size, 5, none⟩ = some (.int .i64 Sf) ∧ w'.cell? ⟨w.heap.size, 0, none⟩ = some (.bool cn) ∧ w'.cell? ⟨w.heap.size, 1, none⟩ = some (.string cS) ∧ w'.cell? ⟨w.heap.size, 2, none⟩ = some (.int .i64 ce) ∧ w'.cell? ⟨w.heap.size, 3, none⟩ = some (.bool cm) ∧ w'.cell? ⟨w.heap.size, 4, none⟩ = some (.string cT) ∧ w'.cell? ⟨w.heap.size, 5, none⟩ = some (.int .i64 cf) ∧ w'.cell? ⟨w.heap.size, 6, none⟩ = some (.int .i64 e) ∧ w'.cell? ⟨w.heap.size, 7, none⟩ = some (.int .i64 a) ∧ w'.cell? ⟨w.heap.size, 8, none⟩ = some (.int .i64 d)) _ _ _ _ ?_
   replace F2 := F2.drew
   replace F7 := F7.drew
   replace B0 := B0.drew
   refine tkA 0 ?_
   (try dsimp only [Act.put]); (try go_frame)
   refine tkA 1 ?_
   (try dsimp only [Act.put]); (try go_frame)
   refine tkA 3 ?_
   (try dsimp only [Act.put]); (try go_frame)
   refine tkA 4 ?_
   (try dsimp only [Act.put]); (try go_frame)
   refine tkA 5 ?_
   (try dsimp only [Act.put]); (try go_frame)
   refine tkA 6 ?_
   (try dsimp only [Act.put]); (try go_frame)
   refine wpAnyH_ready (rs := [2]) (by kernel_rfl) (by simp) ?_
   refine AllReadyH.cons rfl (fun K hK => ?_) AllReadyH.nil
   go_simp
   (with_reducible refine (h5 _).mono ?_)
   rintro r w5 ⟨rfl, hb5⟩
   clear xF74_0 xF74_1 xF74_2 xF74_3 xF74_4 xF74_5 xF24_0 xF24_1 xF24_2 xF24_3 xF24_4 xF24_5 xF24_6 xF24_7 xF24_8
   replace F2 := F2.keep hb5
   replace F7 := F7.keep hb5
   replace B0 := B0.trans (hb5.mono B0.size)
   clear hb5
   obtain ⟨xF76_0, xF76_1, xF76_2, xF76_3, xF76_4, xF76_5⟩ := F7.ce6
   obtain ⟨xF26_0, xF26_1, xF26_2, xF26_3, xF26_4, xF26_5, xF26_6, xF26_7, xF26_8⟩ := F2.ce9
   refine hK.out _ _ ?_ (fun hHeld => ?_)
   ·exact ⟨xF76_0, xF76_1, xF76_2, xF76_3, xF76_4, xF76_5, xF26_0, xF26_1, xF26_2, xF26_3, xF26_4, xF26_5, xF26_6, xF26_7, xF26_8⟩
   clear hK K
   (try dsimp only [Act.put]); (try go_frame)
   refine wpAnyH_ready (rs := [7]) (by kernel_rfl) (by simp) ?_
   refine AllReadyH.cons rfl (fun K hK => ?_) AllReadyH.nil
   go_simp
   (with_reducible refine (h6 _ (hT.below B0)).mono ?_)
   rintro r w6 ⟨rfl, hb6⟩
   clear xF76_0 xF76_1 xF76_2 xF76_3 xF76_4 xF76_5 xF26_0 xF26_1 xF26_2 xF26_3 xF26_4 xF26_5 xF26_6 xF26_7 xF26_8
   replace F2 := F2.keep hb6
   replace F7 := F7.keep hb6
   replace B0 := B0.trans (hb6.mono B0.size)
   clear hb6
   obtain ⟨xF77_0, xF77_1, xF77_2, xF77_3, xF77_4, xF77_5⟩ := F7.ce6
   obtain ⟨xF27_0, xF27_1, xF27_2, xF27_3, xF27_4, xF27_5, xF27_6, xF27_7, xF27_8⟩ := F2.ce9
   refine hK.out _ _ ?_ (fun hHeld => ?_)
   ·exact ⟨xF77_0, xF77_1, xF77_2, xF77_3, xF77_4, xF77_5, xF27_0, xF27_1, xF27_2, xF27_3, xF27_4, xF27_5, xF27_6, xF27_7, xF27_8⟩
   clear hK K
   (try dsimp only [Act.put]); (try go_frame)
   refine tkA 8 ?_
   (try dsimp only [Act.put]); (try go_frame)
   refine tkA 9 ?_
   (try dsimp only [Act.put]); (try go_frame)
   refine tkA 10 ?_
   (try dsimp only [Act.put]); (try go_frame)
   refine tkA 11 ?_
   (try dsimp only [Act.put]); (try go_frame)
   refine tkA 12 ?_
   (try dsimp only [Act.put]); (try go_frame)
   refine wpAnyH_done (by kernel_rfl) ?_ _
   try simp only [QCut]
   clear hHeld
   clear xF77_0 xF77_1 xF77_2 xF77_3 xF77_4 xF77_5 xF27_0 xF27_1 xF27_2 xF27_3 xF27_4 xF27_5 xF27_6 xF27_7 xF27_8
   go_wp2
   go_ret3
   exact ⟨rfl, B0⟩
  ·go_enter Tryz.func32, Tryz.ntmps32
   have B0 := Below.refl w.heap.size w
   have F2 := Blk.put (w) #[.bool cn, .string cS, .int .i64 ce, .bool cm, .string cT, .int .i64 cf, .int .i64 e, .int .i64 a, .int .i64 d] 74
   replace B0 := B0.alloc B0.size (.cells #[.bool cn, .string cS, .int .i64 ce, .bool cm, .string cT, .int .i64 cf, .int .i64 e, .int .i64 a, .int .i64 d] 74)
   replace F2 := F2.allocd (.cells #[.bool gn, .string gS, .int .i64 ge, .bool gm, .string gT, .int .i64 gf] 28)
   have F3 := Blk.put ((w).alloc (.cells #[.bool cn, .string cS, .int .i64 ce, .bool cm, .string cT, .int .i64 cf, .int .i64 e, .int .i64 a, .int .i64 d] 74)) #[.bool gn, .string gS, .int .i64 ge, .bool gm, .string gT, .int .i64 gf] 28
   rw [show ((w).alloc (.cells #[.bool cn, .string cS, .int .i64 ce, .bool cm, .string cT, .int .i64 cf, .int .i64 e, .int .i64 a, .int .i64 d] 74)).heap.size = w.heap.size + 1 by simp] at F3
   replace B0 := B0.alloc B0.size (.cells #[.bool gn, .string gS, .int .i64 ge, .bool gm, .string gT, .int .i64 gf] 28)
   obtain ⟨xF20_0, xF20_1, xF20_2, xF20_3, xF20_4, xF20_5, xF20_6, xF20_7, xF20_8⟩ := F2.ce9
   go_wp2_with fail
   (with_reducible refine (h1 _).mono ?_)
   rintro r w1 ⟨rfl, hb1⟩
   clear xF20_0 xF20_1 xF20_2 xF20_3 xF20_4 xF20_5 xF20_6 xF20_7 xF20_8
   replace F2 := F2.keep hb1
   replace F3 := F3.keep hb1
   replace B0 := B0.trans (hb1.mono B0.size)
   clear hb1
   obtain ⟨xF31_0, xF31_1, xF31_2, xF31_3, xF31_4, xF31_5⟩ := F3.ce6
   go_wp2_with fail
   (with_reducible refine (h2 _).mono ?_)
   rintro r w2 ⟨rfl, hb2⟩
   clear xF31_0 xF31_1 xF31_2 xF31_3 xF31_4 xF31_5
   replace F2 := F2.keep hb2
   replace F3 := F3.keep hb2
   replace B0 := B0.trans (hb2.mono B0.size)
   clear hb2
   obtain ⟨xF32_0, xF32_1, xF32_2, xF32_3, xF32_4, xF32_5⟩ := F3.ce6
   obtain ⟨xF22_0, xF22_1, xF22_2, xF22_3, xF22_4, xF22_5, xF22_6, xF22_7, xF22_8⟩ := F2.ce9
   go_wp2_with fail
   (with_reducible refine (h3 _ (hT.below B0)).mono ?_)
   rintro r w3 ⟨rfl, hb3⟩
   clear xF32_0 xF32_1 xF32_2 xF32_3 xF32_4 xF32_5 xF22_0 xF22_1 xF22_2 xF22_3 xF22_4 xF22_5 xF22_6 xF22_7 xF22_8
   replace F2 := F2.keep hb3
   replace F3 := F3.keep hb3
   replace B0 := B0.trans (hb3.mono B0.size)
   clear hb3
   replace F2 := F2.allocd (.cells #[.bool Sn, .string SS, .int .i64 Se, .bool Sm, .string ST, .int .i64 Sf] 28)
   clear F3
   have F7 := Blk.put (w3) #[.bool Sn, .string SS, .int .i64 Se, .bool Sm, .string ST, .int .i64 Sf] 28
   replace B0 := B0.alloc B0.size (.cells #[.bool Sn, .string SS, .int .i64 Se, .bool Sm, .string ST, .int .i64 Sf] 28)
   obtain ⟨xF73_0, xF73_1, xF73_2, xF73_3, xF73_4, xF73_5⟩ := F7.ce6
   obtain ⟨xF23_0, xF23_1, xF23_2, xF23_3, xF23_4, xF23_5, xF23_6, xF23_7, xF23_8⟩ := F2.ce9
   go_wp2_with fail
   (with_reducible refine (h4 _ (hT.below B0)).mono ?_)
   rintro r w4 ⟨rfl, hb4⟩
   clear xF73_0 xF73_1 xF73_2 xF73_3 xF73_4 xF73_5 xF23_0 xF23_1 xF23_2 xF23_3 xF23_4 xF23_5 xF23_6 xF23_7 xF23_8
   replace F2 := F2.keep hb4
   replace F7 := F7.keep hb4
   replace B0 := B0.trans (hb4.mono B0.size)
   clear hb4
   go_wp2_with fail
   refine wp_region_any (by kernel_rfl) ?_
   obtain ⟨xF74_0, xF74_1, xF74_2, xF74_3, xF74_4, xF74_5⟩ := F7.ce6
   obtain ⟨xF24_0, xF24_1, xF24_2, xF24_3, xF24_4, xF24_5, xF24_6, xF24_7, xF24_8⟩ := F2.ce9
   have hHeld : (fun w' : World => w'.cell? ⟨w3.heap.size, 0, none⟩ = some (.bool Sn) ∧ w'.cell? ⟨w3.heap.size, 1, none⟩ = some (.string SS) ∧ w'.cell? ⟨w3.heap.size, 2, none⟩ = some (.int .i64 Se) ∧ w'.cell? ⟨w3.heap.size, 3, none⟩ = some (.bool Sm) ∧ w'.cell? ⟨w3.heap.size, 4, none⟩ = some (.string ST) ∧ w'.cell? ⟨w3.heap.size, 5, none⟩ = some (.int .i64 Sf) ∧ w'.cell? ⟨w.heap.size, 0, none⟩ = some (.bool cn) ∧ w'.cell? ⟨w.heap.size, 1, none⟩ = some (.string cS) ∧ w'.cell? ⟨w.heap.size, 2, none⟩ = some (.int .i64 ce) ∧ w'.cell? ⟨w.heap.size, 3, none⟩ = some (.bool cm) ∧ w'.cell? ⟨w.heap.size, 4, none⟩ = some (.string cT) ∧ w'.cell? ⟨w.heap.size, 5, none⟩ = some (.int .i64 cf) ∧ w'.cell? ⟨w.heap.size, 6, none⟩ = some (.int .i64 e) ∧ w'.cell? ⟨w.heap.size, 7, none⟩ = some (.int .i64 a) ∧ w'.cell? ⟨w.heap.size, 8, none⟩ = some (.int .i64 d)) (w4).drew := ⟨xF74_0, xF74_1, xF74_2, xF74_3, xF74_4, xF74_5, xF24_0, xF24_1, xF24_2, xF24_3, xF24_4, xF24_5, xF24_6, xF24_7, xF24_8⟩
   refine wpAny_of_held (S := fun w' : World => w'.cell? ⟨w3.heap.size, 0, none⟩ = some (.bool Sn) ∧ w'.cell? ⟨w3.heap.size, 1, none⟩ = some (.string SS) ∧ w'.cell? ⟨w3.heap.size, 2, none⟩ = some (.int .i64 Se) ∧ w'.cell? ⟨w3.heap.size, 3, none⟩ = some (.bool Sm) ∧ w'.cell? ⟨w3.heap.size, 4, none⟩ = some (.string ST) ∧ w'.cell? ⟨w3.heap.size, 5, none⟩ = some (.int .i64 Sf) ∧ w'.cell? ⟨w.heap.size, 0, none⟩ = some (.bool cn) ∧ w'.cell? ⟨w.heap.size, 1, none⟩ = some (.string cS) ∧ w'.cell? ⟨w.heap.size, 2, none⟩ = some (.int .i64 ce) ∧ w'.cell? ⟨w.heap.size, 3, none⟩ = some (.bool cm) ∧ w'.cell? ⟨w.heap.size, 4, none⟩ = some (.string cT) ∧ w'.cell? ⟨w.heap.size, 5, none⟩ = some (.int .i64 cf) ∧ w'.cell? ⟨w.heap.size, 6, none⟩ = some (.int .i64 e) ∧ w'.cell? ⟨w.heap.size, 7, none⟩ = some (.int .i64 a) ∧ w'.cell? ⟨w.heap.size, 8, none⟩ = some (.int .i64 d)) _ _ _ _ ?_
   replace F2 := F2.drew
   replace F7 := F7.drew
   replace B0 := B0.drew
   refine tkA 0 ?_
   (try dsimp only [Act.put]); (try go_frame)
   refine tkA 1 ?_
   (try dsimp only [Act.put]); (try go_frame)
   refine tkA 3 ?_
   (try dsimp only [Act.put]); (try go_frame)
   refine tkA 4 ?_
   (try dsimp only [Act.put]); (try go_frame)
   refine tkA 5 ?_
   (try dsimp only [Act.put]); (try go_frame)
   refine tkA 6 ?_
   (try dsimp only [Act.put]); (try go_frame)
   refine wpAnyH_ready (rs := [2]) (by kernel_rfl) (by simp) ?_
   refine AllReadyH.cons rfl (fun K hK => ?_) AllReadyH.nil
   go_simp
   (with_reducible refine (h5 _).mono ?_)
   rintro r w5 ⟨rfl, hb5⟩
   clear xF74_0 xF74_1 xF74_2 xF74_3 xF74_4 xF74_5 xF24_0 xF24_1 xF24_2 xF24_3 xF24_4 xF24_5 xF24_6 xF24_7 xF24_8
   replace F2 := F2.keep hb5
   replace F7 := F7.keep hb5
   replace B0 := B0.trans (hb5.mono B0.size)
   clear hb5
   obtain ⟨xF76_0, xF76_1, xF76_2, xF76_3, xF76_4, xF76_5⟩ := F7.ce6
   obtain ⟨xF26_0, xF26_1, xF26_2, xF26_3, xF26_4, xF26_5, xF26_6, xF26_7, xF26_8⟩ := F2.ce9
   refine hK.out _ _ ?_ (fun hHeld => ?_)
   ·exact ⟨xF76_0, xF76_1, xF76_2, xF76_3, xF76_4, xF76_5, xF26_0, xF26_1, xF26_2, xF26_3, xF26_4, xF26_5, xF26_6, xF26_7, xF26_8⟩
   clear hK K
   (try dsimp only [Act.put]); (try go_frame)
   refine wpAnyH_ready (rs := [7]) (by kernel_rfl) (by simp) ?_
   refine AllReadyH.cons rfl (fun K hK => ?_) AllReadyH.nil
   go_simp
   (with_reducible refine (h6 _ (hT.below B0)).mono ?_)
   rintro r w6 ⟨rfl, hb6⟩
   clear xF76_0 xF76_1 xF76_2 xF76_3 xF76_4 xF76_5 xF26_0 xF26_1 xF26_2 xF26_3 xF26_4 xF26_5 xF26_6 xF26_7 xF26_8
   replace F2 := F2.keep hb6
   replace F7 := F7.keep hb6
   replace B0 := B0.trans (hb6.mono B0.size)
   clear hb6
   obtain ⟨xF77_0, xF77_1, xF77_2, xF77_3, xF77_4, xF77_5⟩ := F7.ce6
   obtain ⟨xF27_0, xF27_1, xF27_2, xF27_3, xF27_4, xF27_5, xF27_6, xF27_7, xF27_8⟩ := F2.ce9
   refine hK.out _ _ ?_ (fun hHeld => ?_)
   ·exact ⟨xF77_0, xF77_1, xF77_2, xF77_3, xF77_4, xF77_5, xF27_0, xF27_1, xF27_2, xF27_3, xF27_4, xF27_5, xF27_6, xF27_7, xF27_8⟩
   clear hK K
   (try dsimp only [Act.put]); (try go_frame)
   refine tkA 8 ?_
   (try dsimp only [Act.put]); (try go_frame)
   refine tkA 9 ?_
   (try dsimp only [Act.put]); (try go_frame)
   refine tkA 10 ?_
   (try dsimp only [Act.put]); (try go_frame)
   refine tkA 11 ?_
   (try dsimp only [Act.put]); (try go_frame)
   refine tkA 12 ?_
   (try dsimp only [Act.put]); (try go_frame)
   refine wpAnyH_done (by kernel_rfl) ?_ _
   try simp only [QCut]
   clear hHeld
   clear xF77_0 xF77_1 xF77_2 xF77_3 xF77_4 xF77_5 xF27_0 xF27_1 xF27_2 xF27_3 xF27_4 xF27_5 xF27_6 xF27_7 xF27_8
   go_wp2
   go_ret3
   exact ⟨rfl, B0⟩

end Go.Proofs.YtfbkopepkklkjaaGreatDoor
