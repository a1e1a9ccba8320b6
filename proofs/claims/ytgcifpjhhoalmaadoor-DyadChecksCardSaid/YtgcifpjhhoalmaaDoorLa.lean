/- The walk over filigreelaw03.DyadChecks. -/
import Derived.Test.YtgcifpjhhoalmaaDoorRg
namespace Go.Proofs.YtgcifpjhhoalmaaDoor
open Go Go.RowKit Go.PlainAid Fil

set_option maxHeartbeats 2000000 in
theorem checks_bad (neg : Bool) (s : ByteArray) (e : Int) (w : World) (hT : Tab w) (h : mayB neg s e = false) (hs : s.size ≤ 9223372036854775807) :
    Calls Tryd.prog 5 #[.agg #[.bool neg, .string s, .int .i64 e]] w fun r w' => r = .returned (.bool true) ∧ Below w.heap.size w w' := by
  have hb0 := box_below w neg s e
  have cc := fun (w1 : World) hb => box_cells w neg s e (w' := w1) hb
  have hm := fun W => rmay_any neg s e W hs
  have hc := fun W => check_any neg s e W hs
  rw [h] at hm
  rw [h, okE_f] at hc
  have ht := fun W => dtop_bad neg s e W h hs
  have hsi := fun W => dsign_bad neg s e W h hs
  have hne := fun W => dneg_bad neg s e W h hs
  have hab := fun W => dabs_bad neg s e W h hs
  have hlt : w.heap.size < (w.alloc (.cells #[.bool neg, .string s, .int .i64 e] 24)).heap.size := by simp
  clear h
  unfold dyN at hne hab
  rw [bstr_zero] at hne hab
  go_enter Tryd.func5, Tryd.ntmps5
  go_wp2_with fail
  refine (ht _).mono ?_
  rintro r w1 ⟨rfl, hb1⟩
  obtain ⟨c0, c1, c2⟩ := cc _ hb1
  go_wp2_with fail
  refine (hm _).mono ?_
  rintro r w2 ⟨rfl, hb2⟩
  have hb2' := hb1.trans (hb2.mono hb1.size)
  clear c0 c1 c2 hb1 hb2
  obtain ⟨c0, c1, c2⟩ := cc _ hb2'
  go_wp2_with fail
  refine (hc _).mono ?_
  rintro r w3 ⟨rfl, hb3⟩
  have hb3' := hb2'.trans (hb3.mono hb2'.size)
  clear c0 c1 c2 hb2' hb3
  obtain ⟨c0, c1, c2⟩ := cc _ hb3'
  go_wp2_with fail
  refine (hsi _).mono ?_
  rintro r w4 ⟨rfl, hb4⟩
  have hb4' := hb3'.trans (hb4.mono hb3'.size)
  clear c0 c1 c2 hb3' hb4
  obtain ⟨c0, c1, c2⟩ := cc _ hb4'
  go_wp2_with fail
  refine (hne _).mono ?_
  rintro r w5 ⟨rfl, hb5⟩
  have hb5' := hb4'.trans (hb5.mono hb4'.size)
  clear c0 c1 c2 hb4' hb5
  obtain ⟨c0, c1, c2⟩ := cc _ hb5'
  go_wp2_with fail
  refine (hab _).mono ?_
  rintro r w6 ⟨rfl, hb6⟩
  have hb6' := hb5'.trans (hb6.mono hb5'.size)
  clear c0 c1 c2 hb5' hb6
  obtain ⟨c0, c1, c2⟩ := cc _ hb6'
  have hB := hb0.trans (hb6'.mono (Nat.le_of_lt hlt))
  have hT2 := hT.below hB
  go_wp2_with fail
  refine (awake_any _ hT2).mono ?_
  rintro r w7 ⟨rfl, hb7⟩
  go_wp2
  go_ret
  exact ⟨rfl, hB.trans (hb7.mono hB.size)⟩
end Go.Proofs.YtgcifpjhhoalmaaDoor
