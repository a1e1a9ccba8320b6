/- Sub, Mul; the reference's Add, Sub, Mul. -/
import Derived.Test.YtjldfclncipbgaaGreatDoorBJ

/- The walks over dyad.Sub, Mul. -/
namespace Go.Proofs.YtjldfclncipbgaaGreatDoor
open Go Go.RowKit Go.PlainAid Fil

theorem dy_put3 {w w' : World} (u v x : Value) (hB : Below w.heap.size w w') : Below w.heap.size w (((w'.setCell ⟨w.heap.size + 1 + 1, 0, none⟩ u).setCell ⟨w.heap.size + 1 + 1, 1, none⟩ v).setCell ⟨w.heap.size + 1 + 1, 2, none⟩ x) :=
  ((hB.setCell (by simp; omega) _).setCell (by simp; omega) _).setCell (by simp; omega) _

theorem okD.neg {n : Bool} {x : Nat} {e : Int} (h : okD n x e) : okD (!n && decide (x ≠ 0)) x e := by
  rcases h with ⟨h1, h2, h3⟩ | h
  · refine .inl ⟨h1, ?_, h3⟩; rw [decide_eq_false (by simpa using h1), Bool.and_false]
  · exact .inr h
theorem sz_neg {n : Bool} {x : Nat} : sz (!n && decide (x ≠ 0)) x = -sz n x := by
  by_cases hx : x = 0
  · subst hx; rw [sz_zero, sz_zero]; rfl
  · rw [decide_eq_true hx, Bool.and_true]; unfold sz; cases n <;> simp

set_option maxHeartbeats 2000000 in
theorem dsub_ok (na : Bool) (xa : Nat) (ea : Int) (nb : Bool) (xb : Nat) (eb : Int) (w : World) (ha : okD na xa ea) (hb : okD nb xb eb) (hT : Tab w) :
    Calls Tryz.prog 67 #[.agg #[.bool na, .string (bstr xa), .int .i64 ea], .agg #[.bool nb, .string (bstr xb), .int .i64 eb]] w fun r w' => r = .returned (mkV (addZ (sz na xa) ea (-sz nb xb) eb) (min ea eb)) ∧ Below w.heap.size w w' := by
  have Hall := all_two w na (bstr xa) ea nb (bstr xb) eb (bstr_len ha) (bstr_len hb)
  rw [mayB_ok ha, mayB_ok hb] at Hall
  have hng := fun W => dneg_ok nb xb eb W hb
  unfold dyN at hng
  have had := fun W hT => dadd_ok na xa ea (!nb && decide (xb ≠ 0)) xb eb W ha hb.neg hT
  rw [sz_neg] at had
  generalize (!nb && decide (xb ≠ 0)) = nn at *
  generalize addZ (sz na xa) ea (-sz nb xb) eb = Z at *
  generalize min ea eb = lo at *
  generalize bstr xa = sa at *
  generalize bstr xb = sb at *
  have HA := Lib.hid had
  clear ha hb had
  go_enter Tryz.func67, Tryz.ntmps67
  go_wp2_with fail
  refine Hall.mono ?_
  rintro r w1 ⟨rfl, hb1⟩
  obtain ⟨⟨a0, a1, a2, -, -, -⟩, ⟨b0, b1, b2, -, -, -⟩, -, hB1, hs1⟩ := dy_three w na sa ea nb sb eb hb1
  clear Hall
  go_wp2_with fail
  refine wp_region_cut 6 (by kernel_rfl) (by kernel_rfl) ?_
  rintro W rfl
  simp only [List.take_succ_cons, List.take_zero, List.drop_succ_cons, List.drop_zero]
  have hHeld : (fun w' : World => w'.cell? ⟨w.heap.size, 0, none⟩ = some (.bool na) ∧ w'.cell? ⟨w.heap.size, 1, none⟩ = some (.string sa) ∧ w'.cell? ⟨w.heap.size, 2, none⟩ = some (.int .i64 ea) ∧ w'.cell? ⟨w.heap.size + 1, 0, none⟩ = some (.bool nb) ∧ w'.cell? ⟨w.heap.size + 1, 1, none⟩ = some (.string sb) ∧ w'.cell? ⟨w.heap.size + 1, 2, none⟩ = some (.int .i64 eb)) w1.drew := ⟨a0, a1, a2, b0, b1, b2⟩
  refine wpAny_of_held (S := fun w' : World => w'.cell? ⟨w.heap.size, 0, none⟩ = some (.bool na) ∧ w'.cell? ⟨w.heap.size, 1, none⟩ = some (.string sa) ∧ w'.cell? ⟨w.heap.size, 2, none⟩ = some (.int .i64 ea) ∧ w'.cell? ⟨w.heap.size + 1, 0, none⟩ = some (.bool nb) ∧ w'.cell? ⟨w.heap.size + 1, 1, none⟩ = some (.string sb) ∧ w'.cell? ⟨w.heap.size + 1, 2, none⟩ = some (.int .i64 eb)) _ _ _ _ ?_
  have hk0 := Lib.hid (And.intro hb1 (And.intro hB1 hs1))
  clear hb1 hB1 hs1
  refine wpAnyH_take (i := 0) (v := _) (by first | (simp only [List.getElem?_toArray, List.getElem?_cons_zero]; rfl) | rfl) (by kernel_rfl) (by kernel_rfl) (by kernel_rfl) (by exact fun _ _ _ h => h) (Or.inl ⟨by rfl, by (intro w hSw; (try dsimp only at hSw); go_simp; (try with_reducible rfl); (try (refine (if_neg ?_).trans rfl; omega)))⟩) (by assumption) ?_
  (try dsimp only [Act.put]); (try go_frame)
  refine wpAnyH_take (i := 1) (v := _) (by first | (simp only [List.getElem?_toArray, List.getElem?_cons_zero, List.getElem?_cons_succ]; rfl) | rfl) (by kernel_rfl) (by kernel_rfl) (by kernel_rfl) (by exact fun _ _ _ h => h) (Or.inl ⟨by rfl, by (intro w hSw; (try dsimp only at hSw); go_simp; (try with_reducible rfl); (try (refine (if_neg ?_).trans rfl; omega)))⟩) (by assumption) ?_
  (try dsimp only [Act.put]); (try go_frame)
  clear a0 a1 a2 b0 b1 b2
  refine wpAnyH_ready (rs := [2]) (by kernel_rfl) (by simp) ?_
  refine AllReadyH.cons rfl (fun K hK => ?_) AllReadyH.nil
  go_simp
  (with_reducible refine (hng _).mono ?_)
  rintro r w2 ⟨rfl, hb2⟩
  have hb2' := hk0.out.1.drew.trans (hb2.mono hk0.out.2.2)
  obtain ⟨⟨a0, a1, a2, -, -, -⟩, ⟨b0, b1, b2, -, -, -⟩, -, hB2, hs2⟩ := dy_three w na sa ea nb sb eb hb2'
  refine hK.out _ _ ?_ (fun hHeld => ?_)
  · exact ⟨a0, a1, a2, b0, b1, b2⟩
  clear hK K hng a0 a1 a2 b0 b1 b2
  (try dsimp only [Act.put]); (try go_frame)
  refine wpAnyH_ready (rs := [3]) (by kernel_rfl) (by simp) ?_
  refine AllReadyH.cons rfl (fun K hK => ?_) AllReadyH.nil
  go_simp
  (with_reducible refine (HA.out _ (hT.below hB2)).mono ?_)
  rintro r w3 ⟨rfl, hb3⟩
  obtain ⟨⟨a0, a1, a2, -, -, -⟩, ⟨b0, b1, b2, -, -, -⟩, ⟨c0, c1, c2, f0, f1, f2⟩, hB3, hs3⟩ := dy_three w na sa ea nb sb eb (hb2'.trans (hb3.mono hs2))
  refine hK.out _ _ ?_ (fun hHeld => ?_)
  · exact ⟨a0, a1, a2, b0, b1, b2⟩
  clear hK K a0 a1 a2 b0 b1 b2
  have hbZ := dy_put3 (.bool (mkN Z lo)) (.string (bstr (mkX Z lo))) (.int .i64 (mkE Z lo)) hB3
  unfold mkV dyR
  clear hb2 hb2' hb3 hk0 hB2 hB3 hs2 hs3
  (try dsimp only [Act.put]); (try go_frame)
  refine wpAnyH_take (i := 4) (v := _) (by first | (simp only [List.getElem?_toArray, List.getElem?_cons_zero, List.getElem?_cons_succ]; rfl) | rfl) (by kernel_rfl) (by kernel_rfl) (by kernel_rfl) (by exact fun _ _ _ h => h) (Or.inl ⟨by rfl, by (intro w hSw; (try dsimp only at hSw); go_simp; (try with_reducible rfl); (try (refine (if_neg ?_).trans rfl; omega)))⟩) (by assumption) ?_
  (try dsimp only [Act.put]); (try go_frame)
  refine wpAnyH_take (i := 5) (v := _) (by first | (simp only [List.getElem?_toArray, List.getElem?_cons_zero, List.getElem?_cons_succ]; rfl) | rfl) (by kernel_rfl) (by kernel_rfl) (by kernel_rfl) (by exact fun _ _ _ h => h) (Or.inl ⟨by rfl, by (intro w hSw; (try dsimp only at hSw); go_simp; (try with_reducible rfl); (try (refine (if_neg ?_).trans rfl; omega)))⟩) (by assumption) ?_
  (try dsimp only [Act.put]); (try go_frame)
  refine wpAnyH_done (by kernel_rfl) ?_ _
  try simp only [QCut]
  go_wp2
  exact bodyPost_ret (v := .tuple #[.agg #[.bool (mkN Z lo), .string (bstr (mkX Z lo)), .int .i64 (mkE Z lo)], .int .i64 (mkR Z lo)]) (by simp [results, Tryz.results67, go_sem, c0, c1, c2]) rfl ⟨rfl, hbZ⟩

theorem dn32_mul {a b : Nat} (ha : Fil.dn 8 a ≤ 16384) (hb : Fil.dn 8 b ≤ 16384) : Fil.dn 32 (a * b) ≤ 16384 ∧ Fil.dn 8 (a * b) ≤ 32768 := by
  have h1 := lt_of_dn (k := 8) (by omega) ha
  have h2 := lt_of_dn (k := 8) (by omega) hb
  obtain ⟨n, hn⟩ : ∃ n : Nat, n = 16384 := ⟨_, rfl⟩
  rw [← hn] at h1 h2
  have h3 : a * b < 2 ^ (8 * (n + n)) := by rw [padd]; exact Nat.mul_lt_mul'' h1 h2
  have h4 := dn_le (k := 8) (by omega) h3
  have h5 := dn_le (k := 32) (n := n) (by omega) (Nat.lt_of_lt_of_le h3 (pmono (by omega)))
  exact ⟨by omega, by omega⟩

set_option maxHeartbeats 4000000 in
theorem dmul_ok (na : Bool) (xa : Nat) (ea : Int) (nb : Bool) (xb : Nat) (eb : Int) (w : World) (ha : okD na xa ea) (hb : okD nb xb eb) (hT : Tab w) :
    Calls Tryz.prog 68 #[.agg #[.bool na, .string (bstr xa), .int .i64 ea], .agg #[.bool nb, .string (bstr xb), .int .i64 eb]] w fun r w' => r = .returned (mkV (sz na xa * sz nb xb) (ea + eb)) ∧ Below w.heap.size w w' := by
  have Hall := all_two w na (bstr xa) ea nb (bstr xb) eb (bstr_len ha) (bstr_len hb)
  rw [mayB_ok ha, mayB_ok hb] at Hall
  have hwa := fun W => whole_any na xa ea W ha
  have hwb := fun W => whole_any nb xb eb W hb
  have ia1 := ha.e1
  have ia2 := ha.e2
  have ib1 := hb.e1
  have ib2 := hb.e2
  have da : Fil.dn 32 (sz na xa).natAbs ≤ 1099511627776 := by rw [sz_abs]; have := ha.dn; have := dn8_32 xa (Fil.dn 8 xa) (lt_dn (by omega) xa); omega
  have db : Fil.dn 32 (sz nb xb).natAbs ≤ 1099511627776 := by rw [sz_abs]; have := hb.dn; have := dn8_32 xb (Fil.dn 8 xb) (lt_dn (by omega) xb); omega
  have dZ : Fil.dn 32 (sz na xa * sz nb xb).natAbs ≤ 1048576 := by
    rw [Int.natAbs_mul, sz_abs, sz_abs]; have := (dn32_mul ha.dn hb.dn).1; omega
  have W1 : IntKind.i64.wrap (ea + eb) = ea + eb := IntWalk.i64_in _ (by omega)
  have HD := Lib.hid (And.intro da (And.intro db dZ))
  generalize bstr xa = sa at *
  generalize bstr xb = sb at *
  generalize sz na xa = za at *
  generalize sz nb xb = zb at *
  clear ha hb da db dZ
  go_enter Tryz.func68, Tryz.ntmps68
  go_wp2_with fail
  refine Hall.mono ?_
  rintro r w1 ⟨rfl, hb1⟩
  obtain ⟨⟨a0, a1, a2, -, -, -⟩, -, -, -, hs1⟩ := dy_three w na sa ea nb sb eb hb1
  clear Hall
  go_wp2_with fail
  (with_reducible refine (hwa _).mono ?_)
  rintro r w2 ⟨rfl, hI, hb2⟩
  have l2 := hI.lt
  have hb2' := hb1.trans (hb2.mono hs1)
  have hp3 : w.heap.size + 1 + 1 + 1 ≤ w1.heap.size + 1 := by omega
  generalize hp : w1.heap.size + 1 = p at *
  clear a0 a1 a2 hb1 hb2 hwa hp hs1
  obtain ⟨⟨a0, a1, a2, -, -, -⟩, ⟨b0, b1, b2, -, -, -⟩, -, hB2, hs2⟩ := dy_three w na sa ea nb sb eb hb2'
  go_wp2_with fail
  refine wp_region_cut 13 (by kernel_rfl) (by kernel_rfl) ?_
  rintro W rfl
  simp only [List.take_succ_cons, List.take_zero, List.drop_succ_cons, List.drop_zero]
  have hHeld : (fun w' : World => w'.cell? ⟨w.heap.size, 2, none⟩ = some (.int .i64 ea) ∧ w'.cell? ⟨w.heap.size + 1, 0, none⟩ = some (.bool nb) ∧ w'.cell? ⟨w.heap.size + 1, 1, none⟩ = some (.string sb) ∧ w'.cell? ⟨w.heap.size + 1, 2, none⟩ = some (.int .i64 eb)) w2.drew := ⟨a2, b0, b1, b2⟩
  refine wpAny_of_held (S := fun w' : World => w'.cell? ⟨w.heap.size, 2, none⟩ = some (.int .i64 ea) ∧ w'.cell? ⟨w.heap.size + 1, 0, none⟩ = some (.bool nb) ∧ w'.cell? ⟨w.heap.size + 1, 1, none⟩ = some (.string sb) ∧ w'.cell? ⟨w.heap.size + 1, 2, none⟩ = some (.int .i64 eb)) _ _ _ _ ?_
  have hk0 := Lib.hid (And.intro hb2' (And.intro hB2 hs2))
  have HI := Lib.hid hI
  clear hb2' hB2 hI
  refine wpAnyH_take (i := 0) (v := _) (by first | (simp only [List.getElem?_toArray, List.getElem?_cons_zero]; rfl) | rfl) (by kernel_rfl) (by kernel_rfl) (by kernel_rfl) (by exact fun _ _ _ h => h) (Or.inl ⟨by rfl, by (intro w hSw; (try dsimp only at hSw); go_simp; (try with_reducible rfl); (try (refine (if_neg ?_).trans rfl; omega)))⟩) (by assumption) ?_
  (try dsimp only [Act.put]); (try go_frame)
  refine wpAnyH_take (i := 1) (v := _) (by first | (simp only [List.getElem?_toArray, List.getElem?_cons_zero, List.getElem?_cons_succ]; rfl) | rfl) (by kernel_rfl) (by kernel_rfl) (by kernel_rfl) (by exact fun _ _ _ h => h) (Or.inl ⟨by rfl, by (intro w hSw; (try dsimp only at hSw); go_simp; (try with_reducible rfl); (try (refine (if_neg ?_).trans rfl; omega)))⟩) (by assumption) ?_
  (try dsimp only [Act.put]); (try go_frame)
  refine wpAnyH_take (i := 2) (v := _) (by first | (simp only [List.getElem?_toArray, List.getElem?_cons_zero, List.getElem?_cons_succ]; rfl) | rfl) (by kernel_rfl) (by kernel_rfl) (by kernel_rfl) (by exact fun _ _ _ h => h) (Or.inl ⟨by rfl, by (intro w hSw; (try dsimp only at hSw); go_simp; (try with_reducible rfl); (try (refine (if_neg ?_).trans rfl; omega)))⟩) (by assumption) ?_
  (try dsimp only [Act.put]); (try go_frame)
  refine wpAnyH_take (i := 5) (v := _) (by first | (simp only [List.getElem?_toArray, List.getElem?_cons_zero, List.getElem?_cons_succ]; rfl) | rfl) (by kernel_rfl) (by kernel_rfl) (by kernel_rfl) (by exact fun _ _ _ h => h) (Or.inl ⟨by rfl, by (intro w hSw; (try dsimp only at hSw); go_simp; (try with_reducible rfl); (try (refine (if_neg ?_).trans rfl; omega)))⟩) (by assumption) ?_
  (try dsimp only [Act.put]); (try go_frame)
  refine wpAnyH_take (i := 6) (v := _) (by first | (simp only [List.getElem?_toArray, List.getElem?_cons_zero, List.getElem?_cons_succ]; rfl) | rfl) (by kernel_rfl) (by kernel_rfl) (by kernel_rfl) (by exact fun _ _ _ h => h) (Or.inl ⟨by rfl, by (intro w hSw; (try dsimp only at hSw); go_simp; (try with_reducible rfl); (try (refine (if_neg ?_).trans rfl; omega)))⟩) (by assumption) ?_
  (try dsimp only [Act.put]); (try go_frame)
  refine wpAnyH_take (i := 7) (v := _) (by first | (simp only [List.getElem?_toArray, List.getElem?_cons_zero, List.getElem?_cons_succ]; rfl) | rfl) (by kernel_rfl) (by kernel_rfl) (by kernel_rfl) (by exact fun _ _ _ h => h) (Or.inl ⟨by rfl, by (intro w hSw; (try dsimp only at hSw); go_simp; (try with_reducible rfl); (try (refine (if_neg ?_).trans rfl; omega)))⟩) (by assumption) ?_
  (try dsimp only [Act.put]); (try go_frame)
  refine wpAnyH_take (i := 8) (v := _) (by first | (simp only [List.getElem?_toArray, List.getElem?_cons_zero, List.getElem?_cons_succ]; rfl) | rfl) (by kernel_rfl) (by kernel_rfl) (by kernel_rfl) (by exact fun _ _ _ h => h) (Or.inl ⟨by rfl, by (intro w hSw; (try dsimp only at hSw); go_simp; (try with_reducible rfl); (try (refine (if_neg ?_).trans rfl; omega)))⟩) (by assumption) ?_
  (try dsimp only [Act.put]); (try go_frame)
  refine wpAnyH_take (i := 9) (v := _) (by first | (simp only [List.getElem?_toArray, List.getElem?_cons_zero, List.getElem?_cons_succ]; rfl) | rfl) (by kernel_rfl) (by kernel_rfl) (by kernel_rfl) (by exact fun _ _ _ h => h) (Or.inl ⟨by rfl, by (intro w hSw; (try dsimp only at hSw); go_simp; (try with_reducible rfl); (try (refine (if_neg ?_).trans rfl; omega)))⟩) (by assumption) ?_
  (try dsimp only [Act.put]); (try go_frame)
  clear a0 a1 a2 b0 b1 b2
  refine wpAnyH_ready (rs := [3]) (by kernel_rfl) (by simp) ?_
  refine AllReadyH.cons rfl (fun K hK => ?_) AllReadyH.nil
  go_simp
  (with_reducible refine (hwb _).mono ?_)
  rintro r w3 ⟨rfl, hJ, hb3⟩
  have hb3' := hk0.out.1.drew.trans (hb3.mono hs2)
  obtain ⟨⟨a0, a1, a2, -, -, -⟩, ⟨b0, b1, b2, -, -, -⟩, -, hB3, hs3⟩ := dy_three w na sa ea nb sb eb hb3'
  have hI3 : IntAt w3 p 0 za := (show IntAt w2.drew p 0 za from HI.out).below hb3
  refine hK.out _ _ ?_ (fun hHeld => ?_)
  · exact ⟨a2, b0, b1, b2⟩
  clear hK K hwb a0 a1 a2 b0 b1 b2
  (try dsimp only [Act.put]); (try go_frame)
  refine wpAnyH_ready (rs := [4]) (by kernel_rfl) (by simp) ?_
  refine AllReadyH.cons rfl (fun K hK => ?_) AllReadyH.nil
  go_simp
  refine (mul_any p 0 p 0 _ 0 za zb _ hI3.room hI3 hJ HD.out.1 HD.out.2.1).mono ?_
  rintro r w4 ⟨rfl, hI4, hB4⟩
  have hb4' := hb3'.trans (hB4.below hp3 hs3)
  obtain ⟨⟨a0, a1, a2, -, -, -⟩, ⟨b0, b1, b2, -, -, -⟩, -, hB5, hs4⟩ := dy_three w na sa ea nb sb eb hb4'
  refine hK.out _ _ ?_ (fun hHeld => ?_)
  · exact ⟨a2, b0, b1, b2⟩
  clear hK K a0 a1 a2 b0 b1 b2 hB4 hI3 hJ
  (try dsimp only [Act.put]); (try go_frame)
  refine wpAnyH_ready (rs := [10]) (by kernel_rfl) (by simp) ?_
  refine AllReadyH.cons rfl (fun K hK => ?_) AllReadyH.nil
  go_simp
  refine (made_any p 0 _ (ea + eb) w4 hI4 HD.out.2.2 (hT.below hB5) (by omega) (by omega)).mono ?_
  rintro r w5 ⟨rfl, hb5⟩
  obtain ⟨⟨a0, a1, a2, -, -, -⟩, ⟨b0, b1, b2, -, -, -⟩, ⟨c0, c1, c2, f0, f1, f2⟩, hB6, -⟩ := dy_three w na sa ea nb sb eb (hb4'.trans (hb5.mono hs4))
  refine hK.out _ _ ?_ (fun hHeld => ?_)
  · exact ⟨a2, b0, b1, b2⟩
  clear hK K a0 a1 a2 b0 b1 b2
  have hbZ := dy_put3 (.bool (mkN (za * zb) (ea + eb))) (.string (bstr (mkX (za * zb) (ea + eb)))) (.int .i64 (mkE (za * zb) (ea + eb))) hB6
  unfold dyR
  clear hb3 hb3' hb4' hb5 hk0 hB3 hB5 hB6 hs2 hs3 hs4 HI hI4 W1
  (try dsimp only [Act.put]); (try go_frame)
  refine wpAnyH_take (i := 11) (v := _) (by first | (simp only [List.getElem?_toArray, List.getElem?_cons_zero, List.getElem?_cons_succ]; rfl) | rfl) (by kernel_rfl) (by kernel_rfl) (by kernel_rfl) (by exact fun _ _ _ h => h) (Or.inl ⟨by rfl, by (intro w hSw; (try dsimp only at hSw); go_simp; (try with_reducible rfl); (try (refine (if_neg ?_).trans rfl; omega)))⟩) (by assumption) ?_
  (try dsimp only [Act.put]); (try go_frame)
  refine wpAnyH_take (i := 12) (v := _) (by first | (simp only [List.getElem?_toArray, List.getElem?_cons_zero, List.getElem?_cons_succ]; rfl) | rfl) (by kernel_rfl) (by kernel_rfl) (by kernel_rfl) (by exact fun _ _ _ h => h) (Or.inl ⟨by rfl, by (intro w hSw; (try dsimp only at hSw); go_simp; (try with_reducible rfl); (try (refine (if_neg ?_).trans rfl; omega)))⟩) (by assumption) ?_
  (try dsimp only [Act.put]); (try go_frame)
  refine wpAnyH_done (by kernel_rfl) ?_ _
  try simp only [QCut]
  go_wp2
  exact bodyPost_ret (v := .tuple #[.agg #[.bool (mkN (za * zb) (ea + eb)), .string (bstr (mkX (za * zb) (ea + eb))), .int .i64 (mkE (za * zb) (ea + eb))], .int .i64 (mkR (za * zb) (ea + eb))]) (by simp [results, Tryz.results68, go_sem, c0, c1, c2]) rfl ⟨rfl, hbZ⟩
end Go.Proofs.YtjldfclncipbgaaGreatDoor

/- The walks over the reference's Add. -/
namespace Go.Proofs.YtjldfclncipbgaaGreatDoor
open Go Go.RowKit Go.PlainAid Fil

end Go.Proofs.YtjldfclncipbgaaGreatDoor

/- The walks over the reference's Sub, Mul. -/
namespace Go.Proofs.YtjldfclncipbgaaGreatDoor
open Go Go.RowKit Go.PlainAid Fil

end Go.Proofs.YtjldfclncipbgaaGreatDoor
