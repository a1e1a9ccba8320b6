/- The walk over dyad.cut, where nothing is cut off. -/
import Derived.Test.YtgcifpjhhoalmaaDoorDh
namespace Go.Proofs.YtgcifpjhhoalmaaDoor
open Go Go.RowKit Go.PlainAid Fil

/-- the call of SetBytes over a Dyad's number, into a new Int behind the Dyad's block -/
theorem set_new (neg : Bool) (x : Nat) (e : Int) (w : World) (hdn : Fil.dn 8 x ≤ 16384) :
    Calls Tryd.prog 126 #[.pointer (some ⟨w.heap.size + 1, 0, none⟩), .slice (some ⟨w.heap.size + 1 + 1, 0, none⟩) (Fil.dn 8 x) (convC ((w.alloc (.cells #[.bool neg, .string (bstr x), .int .i64 e] 24)).alloc (Obj.cells #[Value.bool false, Value.slice none 0 0] 146)) (bstr x))]
      (convW ((w.alloc (.cells #[.bool neg, .string (bstr x), .int .i64 e] 24)).alloc (Obj.cells #[Value.bool false, Value.slice none 0 0] 146)) (bstr x)) fun r w' =>
        r = .returned (.pointer (some ⟨w.heap.size + 1, 0, none⟩)) ∧ IntAt w' (w.heap.size + 1) 0 (x : Int) ∧ Below (w.heap.size + 1) (w.alloc (.cells #[.bool neg, .string (bstr x), .int .i64 e] 24)) w' := by
  have hbx : Below (w.alloc (.cells #[.bool neg, .string (bstr x), .int .i64 e] 24)).heap.size (w.alloc (.cells #[.bool neg, .string (bstr x), .int .i64 e] 24)) ((w.alloc (.cells #[.bool neg, .string (bstr x), .int .i64 e] 24)).alloc (Obj.cells #[Value.bool false, Value.slice none 0 0] 146)) := (Below.refl _ _).alloc (Nat.le_refl _) _
  have hr0 : Room ((w.alloc (.cells #[.bool neg, .string (bstr x), .int .i64 e] 24)).alloc (Obj.cells #[Value.bool false, Value.slice none 0 0] 146)) (w.alloc (.cells #[.bool neg, .string (bstr x), .int .i64 e] 24)).heap.size 0 := Room.new _ 146 _ (by decide) (by simp)
  have hsz1 : (w.alloc (.cells #[.bool neg, .string (bstr x), .int .i64 e] 24)).heap.size = w.heap.size + 1 := by simp
  rw [hsz1] at hr0 hbx
  have hsz2 : ((w.alloc (.cells #[.bool neg, .string (bstr x), .int .i64 e] 24)).alloc (Obj.cells #[Value.bool false, Value.slice none 0 0] 146)).heap.size = w.heap.size + 1 + 1 := by simp
  have hslc := convW_slc ((w.alloc (.cells #[.bool neg, .string (bstr x), .int .i64 e] 24)).alloc (Obj.cells #[Value.bool false, Value.slice none 0 0] 146)) x
  have hcb := convW_below ((w.alloc (.cells #[.bool neg, .string (bstr x), .int .i64 e] 24)).alloc (Obj.cells #[Value.bool false, Value.slice none 0 0] 146)) (bstr x)
  rw [hsz2] at hslc
  have hr1 := hr0.below hcb
  refine (setbytes_any (w.heap.size + 1) 0 _ (Fil.dn 8 x) _ x _ hr1 (lt_dn (by omega) x) (by omega) hslc).mono ?_
  rintro r w1 ⟨rfl, hI, hB⟩
  rw [hsz2] at hcb
  exact ⟨rfl, hI, hbx.trans ((hcb.mono (by omega)).trans (hB.below (Nat.le_refl _) (by have := hcb.size; omega)))⟩

set_option maxHeartbeats 2000000 in
theorem dcut_exact (neg : Bool) (x : Nat) (e top : Int) (last : Int) (k : Nat) (w : World) (h : okD neg x e) (ht1 : -1200000 ≤ top) (ht2 : top ≤ 1200000) (hl : last = max (top - 52) (-1074)) (hk : e - last = (k : Int)) (hf : x * 2 ^ k < 18446744073709551616) :
    Calls Tryd.prog 145 #[.agg #[.bool neg, .string (bstr x), .int .i64 e], .int .i64 top] w fun r w' => r = .returned (.tuple #[.int .u64 ((x * 2 ^ k : Nat) : Int), .int .i64 last, .int .i64 0, .bool true]) ∧ Below w.heap.size w w' := by
  have hsz := bstr_size x
  have hdn := h.dn
  have hrc := run_conv
  have e1 := h.e1
  have e2 := h.e2
  have hl' := hl.symm
  have hk0 : 0 ≤ (k : Int) := by omega
  have hk1 : (k : Int) ≤ 2300000 := by omega
  have hd1 : decide (last ≤ e) = true := by rw [decide_eq_true_eq]; omega
  have hl1 : -1074 ≤ last := by omega
  have hl2 : last ≤ 1200000 := by omega
  have H := Lib.hid h
  have Hf := Lib.hid hf
  have Hl := Lib.hid hl
  clear h hf hl
  go_enter Tryd.func145, Tryd.ntmps145
  go_wp2_with fail
  refine (set_new neg x e w hdn).mono ?_
  rintro r w1 ⟨rfl, hI, hb1⟩
  obtain ⟨c0, c1, c2, -, -, -⟩ := DyAt.new w w.heap.size neg (bstr x) e rfl hb1
  have hB : Below w.heap.size w w1 := ((Below.refl _ _).alloc (Nat.le_refl _) _).trans (hb1.mono (by omega))
  clear hb1
  go_wp2_with fail
  have hd32 : Fil.dn 32 ((x : Int)).natAbs ≤ 16384 := by have := dn32_shl (k := 0) hdn (by omega); simpa using this
  refine (lsh_any (w.heap.size + 1) 0 (w.heap.size + 1) 0 k (x : Int) _ hI.room hI (by omega) (by omega)).mono ?_
  rintro r w2 ⟨rfl, hI2, hB2⟩
  have hB3 : Below w.heap.size w w2 := hB.trans (hB2.below (by omega) hB.size)
  have hab : ((x : Int) * 2 ^ k).natAbs = x * 2 ^ k := abs_shl (x : Int) k
  clear hI hB2 hB c0 c1 c2
  go_wp2_with fail
  refine (uint64_any (w.heap.size + 1) 0 _ _ hI2 (by rw [hab]; exact Hf.out)).mono ?_
  rintro r w3 ⟨rfl, rfl⟩
  rw [hab]
  go_wp2
  go_returns
  exact ⟨rfl, hB3⟩
end Go.Proofs.YtgcifpjhhoalmaaDoor
