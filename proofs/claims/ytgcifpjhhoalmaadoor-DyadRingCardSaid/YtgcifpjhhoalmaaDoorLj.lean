/- filigreelaw03.DyadRing where one of the Dyads may not be; the whole. -/
import Derived.Test.YtgcifpjhhoalmaaDoorLg
namespace Go.Proofs.YtgcifpjhhoalmaaDoor
open Go Go.RowKit Go.PlainAid Fil

set_option maxRecDepth 100000 in
set_option maxHeartbeats 8000000 in
theorem ring_bad (an : Bool) (sa : ByteArray) (ae : Int) (bn : Bool) (sb : ByteArray) (be : Int) (cn : Bool) (sc : ByteArray) (ce : Int) (f : Int) (w : World) (hT : Tab w) (h : oks [okE (mayB an sa ae), okE (mayB bn sb be), okE (mayB cn sc ce)] = false) (hsa : sa.size ≤ 9223372036854775807) (hsb : sb.size ≤ 9223372036854775807) (hsc : sc.size ≤ 9223372036854775807) :
    Calls Tryd.prog 16 #[.agg #[.bool an, .string sa, .int .i64 ae], .agg #[.bool bn, .string sb, .int .i64 be], .agg #[.bool cn, .string sc, .int .i64 ce], .int .i64 f] w fun r w' => r = .returned (.bool true) ∧ Below w.heap.size w w' := by
  have hca := fun W => check_any an sa ae W hsa
  have hcb := fun W => check_any bn sb be W hsb
  have hcc := fun W => check_any cn sc ce W hsc
  have hall3 := fun W => l3all_3 (okE (mayB an sa ae)) (okE (mayB bn sb be)) (okE (mayB cn sc ce)) W
  rw [h] at hall3
  generalize okE (mayB an sa ae) = ea at *
  generalize okE (mayB bn sb be) = eb at *
  generalize okE (mayB cn sc ce) = ec at *
  clear h hsa hsb hsc
  have Da := DyAt.put w an sa ae
  have Dax := Da.allocd (.cells #[.bool bn, .string sb, .int .i64 be] 24)
  have Daxx := Dax.allocd (.cells #[.bool cn, .string sc, .int .i64 ce] 24)
  have Db := DyAt.put (w.alloc (.cells #[.bool an, .string sa, .int .i64 ae] 24)) bn sb be
  rw [show (w.alloc (.cells #[.bool an, .string sa, .int .i64 ae] 24)).heap.size = w.heap.size + 1 by simp] at Db
  have Dbx := Db.allocd (.cells #[.bool cn, .string sc, .int .i64 ce] 24)
  have Dc := DyAt.put ((w.alloc (.cells #[.bool an, .string sa, .int .i64 ae] 24)).alloc (.cells #[.bool bn, .string sb, .int .i64 be] 24)) cn sc ce
  rw [show ((w.alloc (.cells #[.bool an, .string sa, .int .i64 ae] 24)).alloc (.cells #[.bool bn, .string sb, .int .i64 be] 24)).heap.size = w.heap.size + 1 + 1 by simp] at Dc
  have B0 := (((Below.refl w.heap.size w).alloc (Nat.le_refl _) (.cells #[.bool an, .string sa, .int .i64 ae] 24)).alloc (by simp) (.cells #[.bool bn, .string sb, .int .i64 be] 24)).alloc (by simp; omega) (.cells #[.bool cn, .string sc, .int .i64 ce] 24)
  clear Da Dax Db
  have Da := Daxx
  have Db := Dbx
  clear Daxx Dbx
  go_enter Tryd.func16, Tryd.ntmps16
  go_wp2_with fail
  (with_reducible refine (awake_any _ (hT.below B0)).mono ?_)
  rintro r wq1 ⟨rfl, hb1⟩
  replace Da := Da.keep hb1
  replace Db := Db.keep hb1
  replace Dc := Dc.keep hb1
  replace B0 := B0.trans (hb1.mono B0.size)
  clear hb1
  have lDa := Da.lt
  have lDb := Db.lt
  have lDc := Dc.lt
  obtain ⟨xDa0, xDa1, xDa2, -, -, -⟩ := id Da
  obtain ⟨xDb0, xDb1, xDb2, -, -, -⟩ := id Db
  obtain ⟨xDc0, xDc1, xDc2, -, -, -⟩ := id Dc
  go_wp2_with fail
  refine wp_region_cut 6 (by kernel_rfl) (by kernel_rfl) ?_
  rintro W rfl
  simp only [List.take_succ_cons, List.take_zero, List.drop_succ_cons, List.drop_zero]
  have hHeld : (fun w' : World => w'.cell? ⟨w.heap.size, 0, none⟩ = some (.bool an) ∧ w'.cell? ⟨w.heap.size, 1, none⟩ = some (.string sa) ∧ w'.cell? ⟨w.heap.size, 2, none⟩ = some (.int .i64 ae) ∧ w'.cell? ⟨w.heap.size + 1, 0, none⟩ = some (.bool bn) ∧ w'.cell? ⟨w.heap.size + 1, 1, none⟩ = some (.string sb) ∧ w'.cell? ⟨w.heap.size + 1, 2, none⟩ = some (.int .i64 be) ∧ w'.cell? ⟨w.heap.size + 1 + 1, 0, none⟩ = some (.bool cn) ∧ w'.cell? ⟨w.heap.size + 1 + 1, 1, none⟩ = some (.string sc) ∧ w'.cell? ⟨w.heap.size + 1 + 1, 2, none⟩ = some (.int .i64 ce)) (wq1).drew := ⟨xDa0, xDa1, xDa2, xDb0, xDb1, xDb2, xDc0, xDc1, xDc2⟩
  refine wpAny_of_held (S := fun w' : World => w'.cell? ⟨w.heap.size, 0, none⟩ = some (.bool an) ∧ w'.cell? ⟨w.heap.size, 1, none⟩ = some (.string sa) ∧ w'.cell? ⟨w.heap.size, 2, none⟩ = some (.int .i64 ae) ∧ w'.cell? ⟨w.heap.size + 1, 0, none⟩ = some (.bool bn) ∧ w'.cell? ⟨w.heap.size + 1, 1, none⟩ = some (.string sb) ∧ w'.cell? ⟨w.heap.size + 1, 2, none⟩ = some (.int .i64 be) ∧ w'.cell? ⟨w.heap.size + 1 + 1, 0, none⟩ = some (.bool cn) ∧ w'.cell? ⟨w.heap.size + 1 + 1, 1, none⟩ = some (.string sc) ∧ w'.cell? ⟨w.heap.size + 1 + 1, 2, none⟩ = some (.int .i64 ce)) _ _ _ _ ?_
  replace B0 := B0.drew
  replace Da := Da.drew
  replace Db := Db.drew
  replace Dc := Dc.drew
  refine wpAnyH_take (i := 0) (v := _) (by first | (simp only [List.getElem?_toArray, List.getElem?_cons_zero]; rfl) | rfl) (by kernel_rfl) (by kernel_rfl) (by kernel_rfl) (by exact fun _ _ _ h => h) (Or.inl ⟨by rfl, by (intro w hSw; (try dsimp only at hSw); go_simp; try with_reducible rfl)⟩) (by assumption) ?_
  (try dsimp only [Act.put]); (try go_frame)
  refine wpAnyH_take (i := 2) (v := _) (by first | (simp only [List.getElem?_toArray, List.getElem?_cons_zero, List.getElem?_cons_succ]; rfl) | rfl) (by kernel_rfl) (by kernel_rfl) (by kernel_rfl) (by exact fun _ _ _ h => h) (Or.inl ⟨by rfl, by (intro w hSw; (try dsimp only at hSw); go_simp; try with_reducible rfl)⟩) (by assumption) ?_
  (try dsimp only [Act.put]); (try go_frame)
  refine wpAnyH_take (i := 4) (v := _) (by first | (simp only [List.getElem?_toArray, List.getElem?_cons_zero, List.getElem?_cons_succ]; rfl) | rfl) (by kernel_rfl) (by kernel_rfl) (by kernel_rfl) (by exact fun _ _ _ h => h) (Or.inl ⟨by rfl, by (intro w hSw; (try dsimp only at hSw); go_simp; try with_reducible rfl)⟩) (by assumption) ?_
  (try dsimp only [Act.put]); (try go_frame)
  refine wpAnyH_ready (rs := [1]) (by kernel_rfl) (by simp) ?_
  refine AllReadyH.cons rfl (fun K hK => ?_) AllReadyH.nil
  go_simp
  (with_reducible refine (hca _).mono ?_)
  rintro r wr0 ⟨rfl, hc0⟩
  clear xDa0 xDa1 xDa2
  clear xDb0 xDb1 xDb2
  clear xDc0 xDc1 xDc2
  clear lDa lDb lDc
  replace Da := Da.keep hc0
  replace Db := Db.keep hc0
  replace Dc := Dc.keep hc0
  replace B0 := B0.trans (hc0.mono B0.size)
  clear hc0
  have lDa := Da.lt
  have lDb := Db.lt
  have lDc := Dc.lt
  obtain ⟨xDa0, xDa1, xDa2, -, -, -⟩ := id Da
  obtain ⟨xDb0, xDb1, xDb2, -, -, -⟩ := id Db
  obtain ⟨xDc0, xDc1, xDc2, -, -, -⟩ := id Dc
  refine hK.out _ _ ?_ (fun hHeld => ?_)
  · exact ⟨xDa0, xDa1, xDa2, xDb0, xDb1, xDb2, xDc0, xDc1, xDc2⟩
  clear hK K
  (try dsimp only [Act.put]); (try go_frame)
  refine wpAnyH_ready (rs := [3]) (by kernel_rfl) (by simp) ?_
  refine AllReadyH.cons rfl (fun K hK => ?_) AllReadyH.nil
  go_simp
  (with_reducible refine (hcb _).mono ?_)
  rintro r wr1 ⟨rfl, hc1⟩
  clear xDa0 xDa1 xDa2
  clear xDb0 xDb1 xDb2
  clear xDc0 xDc1 xDc2
  clear lDa lDb lDc
  replace Da := Da.keep hc1
  replace Db := Db.keep hc1
  replace Dc := Dc.keep hc1
  replace B0 := B0.trans (hc1.mono B0.size)
  clear hc1
  have lDa := Da.lt
  have lDb := Db.lt
  have lDc := Dc.lt
  obtain ⟨xDa0, xDa1, xDa2, -, -, -⟩ := id Da
  obtain ⟨xDb0, xDb1, xDb2, -, -, -⟩ := id Db
  obtain ⟨xDc0, xDc1, xDc2, -, -, -⟩ := id Dc
  refine hK.out _ _ ?_ (fun hHeld => ?_)
  · exact ⟨xDa0, xDa1, xDa2, xDb0, xDb1, xDb2, xDc0, xDc1, xDc2⟩
  clear hK K
  (try dsimp only [Act.put]); (try go_frame)
  refine wpAnyH_ready (rs := [5]) (by kernel_rfl) (by simp) ?_
  refine AllReadyH.cons rfl (fun K hK => ?_) AllReadyH.nil
  go_simp
  (with_reducible refine (hcc _).mono ?_)
  rintro r wr2 ⟨rfl, hc2⟩
  clear xDa0 xDa1 xDa2
  clear xDb0 xDb1 xDb2
  clear xDc0 xDc1 xDc2
  clear lDa lDb lDc
  replace Da := Da.keep hc2
  replace Db := Db.keep hc2
  replace Dc := Dc.keep hc2
  replace B0 := B0.trans (hc2.mono B0.size)
  clear hc2
  have lDa := Da.lt
  have lDb := Db.lt
  have lDc := Dc.lt
  obtain ⟨xDa0, xDa1, xDa2, -, -, -⟩ := id Da
  obtain ⟨xDb0, xDb1, xDb2, -, -, -⟩ := id Db
  obtain ⟨xDc0, xDc1, xDc2, -, -, -⟩ := id Dc
  refine hK.out _ _ ?_ (fun hHeld => ?_)
  · exact ⟨xDa0, xDa1, xDa2, xDb0, xDb1, xDb2, xDc0, xDc1, xDc2⟩
  clear hK K
  (try dsimp only [Act.put]); (try go_frame)
  refine wpAnyH_done (by kernel_rfl) ?_ _
  try simp only [QCut]
  clear hHeld
  clear xDa0 xDa1 xDa2
  clear xDb0 xDb1 xDb2
  clear xDc0 xDc1 xDc2
  go_wp2_with fail
  (with_reducible refine (hall3 _).mono ?_)
  rintro r wr3 ⟨rfl, hc3⟩
  clear lDa lDb lDc
  replace Da := Da.keep hc3
  replace Db := Db.keep hc3
  replace Dc := Dc.keep hc3
  replace B0 := B0.trans (hc3.mono B0.size)
  clear hc3
  have lDa := Da.lt
  have lDb := Db.lt
  have lDc := Dc.lt
  go_wp2
  go_ret
  exact ⟨rfl, B0⟩

theorem dyadRing_any (an : Bool) (sa : ByteArray) (ae : Int) (bn : Bool) (sb : ByteArray) (be : Int) (cn : Bool) (sc : ByteArray) (ce : Int) (f : Int) (w : World) (hT : Tab w) (hsa : sa.size ≤ 9223372036854775807) (hsb : sb.size ≤ 9223372036854775807) (hsc : sc.size ≤ 9223372036854775807) (hf1 : -9223372036854775808 ≤ f) (hf2 : f ≤ 9223372036854775807) :
    Calls Tryd.prog 16 #[.agg #[.bool an, .string sa, .int .i64 ae], .agg #[.bool bn, .string sb, .int .i64 be], .agg #[.bool cn, .string sc, .int .i64 ce], .int .i64 f] w fun r w' => r = .returned (.bool true) ∧ Below w.heap.size w w' := by
  cases ha : mayB an sa ae
  · refine ring_bad an sa ae bn sb be cn sc ce f w hT ?_ hsa hsb hsc
    rw [ha]; simp [oks, okE]
  cases hb : mayB bn sb be
  · refine ring_bad an sa ae bn sb be cn sc ce f w hT ?_ hsa hsb hsc
    rw [hb]; simp [oks, okE]
  cases hc : mayB cn sc ce
  · refine ring_bad an sa ae bn sb be cn sc ce f w hT ?_ hsa hsb hsc
    rw [hc]; simp [oks, okE]
  obtain ⟨xa, rfl, ka⟩ := ok_of_may ha
  obtain ⟨xb, rfl, kb⟩ := ok_of_may hb
  obtain ⟨xc, rfl, kc⟩ := ok_of_may hc
  exact ring_ok ⟨an, xa, ae⟩ ⟨bn, xb, be⟩ ⟨cn, xc, ce⟩ f w ka kb kc hf1 hf2 hT
end Go.Proofs.YtgcifpjhhoalmaaDoor
