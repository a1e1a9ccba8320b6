/- The contracts of dyad's functions over Dyads that may be; filigreelaw03.all. -/
import Derived.Test.YtgcifpjhhoalmaaDoorBH
import Derived.Test.YtgcifpjhhoalmaaDoorB7
namespace Go.Proofs.YtgcifpjhhoalmaaDoor
open Go Go.RowKit Go.PlainAid Fil

theorem cadd (a b : DY) (w : World) (ha : a.ok) (hb : b.ok) (hT : Tab w) :
    Calls Tryd.prog 51 #[.agg #[.bool a.n, .string (bstr a.x), .int .i64 a.e], .agg #[.bool b.n, .string (bstr b.x), .int .i64 b.e]] w fun r w' => r = .returned (.tuple #[.agg #[.bool (yAdd a b).1.n, .string (bstr (yAdd a b).1.x), .int .i64 (yAdd a b).1.e], .int .i64 (yAdd a b).2]) ∧ Below w.heap.size w w' := dadd_ok a.n a.x a.e b.n b.x b.e w ha hb hT
theorem csub (a b : DY) (w : World) (ha : a.ok) (hb : b.ok) (hT : Tab w) :
    Calls Tryd.prog 68 #[.agg #[.bool a.n, .string (bstr a.x), .int .i64 a.e], .agg #[.bool b.n, .string (bstr b.x), .int .i64 b.e]] w fun r w' => r = .returned (.tuple #[.agg #[.bool (ySub a b).1.n, .string (bstr (ySub a b).1.x), .int .i64 (ySub a b).1.e], .int .i64 (ySub a b).2]) ∧ Below w.heap.size w w' := by
  have h := dsub_ok a.n a.x a.e b.n b.x b.e w ha hb hT
  have e : -sz b.n b.x = (yNeg b).z := (yNeg_z b).symm
  rw [e] at h
  exact h
theorem cmul (a b : DY) (w : World) (ha : a.ok) (hb : b.ok) (hT : Tab w) :
    Calls Tryd.prog 46 #[.agg #[.bool a.n, .string (bstr a.x), .int .i64 a.e], .agg #[.bool b.n, .string (bstr b.x), .int .i64 b.e]] w fun r w' => r = .returned (.tuple #[.agg #[.bool (yMul a b).1.n, .string (bstr (yMul a b).1.x), .int .i64 (yMul a b).1.e], .int .i64 (yMul a b).2]) ∧ Below w.heap.size w w' := dmul_ok a.n a.x a.e b.n b.x b.e w ha hb hT
theorem ccmp (a b : DY) (w : World) (ha : a.ok) (hb : b.ok) :
    Calls Tryd.prog 82 #[.agg #[.bool a.n, .string (bstr a.x), .int .i64 a.e], .agg #[.bool b.n, .string (bstr b.x), .int .i64 b.e]] w fun r w' => r = .returned (.tuple #[.int .i64 (yCmp a b), .int .i64 0]) ∧ Below w.heap.size w w' := dcmp_ok a.n a.x a.e b.n b.x b.e w ha hb
theorem csign (a : DY) (w : World) (ha : a.ok) :
    Calls Tryd.prog 33 #[.agg #[.bool a.n, .string (bstr a.x), .int .i64 a.e]] w fun r w' => r = .returned (.int .i64 a.z.sign) ∧ Below w.heap.size w w' := dsign_ok a.n a.x a.e w ha
theorem cfloor (a : DY) (f : Int) (w : World) (ha : a.ok) (hT : Tab w) :
    Calls Tryd.prog 40 #[.agg #[.bool a.n, .string (bstr a.x), .int .i64 a.e], .int .i64 f] w fun r w' => r = .returned (.tuple #[.agg #[.bool (yFloor a f).1.n, .string (bstr (yFloor a f).1.x), .int .i64 (yFloor a f).1.e], .int .i64 (yFloor a f).2]) ∧ Below w.heap.size w w' := by
  have h := dfloor_ok a.n a.x a.e f w ha hT
  rw [flV_y] at h
  exact h
theorem cof (z f : Int) (w : World) (hT : Tab w) (h0 : -9223372036854775808 ≤ z) (h1 : z ≤ 9223372036854775807) (he1 : -9223372036854775808 ≤ f) (he2 : f ≤ 9223372036854775807) :
    Calls Tryd.prog 52 #[.int .i64 z, .int .i64 f] w fun r w' => r = .returned (.tuple #[.agg #[.bool (mkD z f, mkR z f).1.n, .string (bstr (mkD z f, mkR z f).1.x), .int .i64 (mkD z f, mkR z f).1.e], .int .i64 (mkD z f, mkR z f).2]) ∧ Below w.heap.size w w' := dof_any z f w hT h0 h1 he1 he2
theorem ccheck (a : DY) (w : World) (ha : a.ok) :
    Calls Tryd.prog 32 #[.agg #[.bool a.n, .string (bstr a.x), .int .i64 a.e]] w fun r w' => r = .returned (.int .i64 0) ∧ Below w.heap.size w w' := by
  have h := check_any a.n (bstr a.x) a.e w (bstr_len ha)
  rw [mayB_ok ha, okE_t] at h
  exact h

/-- did all go well? -/
def oks (l : List Int) : Bool := l.all (· == 0)
set_option maxHeartbeats 1000000 in
theorem l3all_any (b n c : Nat) (E : Nat → Int) (w : World) (hn : n ≤ 1000) (hc : ∀ i, i < n → w.cell? ⟨b, i, none⟩ = some (.int .i64 (E i))) :
    Calls Tryd.prog 93 #[.slice (some ⟨b, 0, none⟩) n c] w fun r w' => r = .returned (.bool (allB n fun i => E i == 0)) ∧ w = w' := by
  have g0 : 0 ≤ (n : Int) := by omega
  have g1 : (n : Int) ≤ 1000 := by omega
  have HC := Lib.hid hc
  clear hc
  go_enter Tryd.func93, Tryd.ntmps93
  go_wp2
  go_loopg [3] n (fun g s3 wr => w = wr ∧ ∃ i : Nat, i ≤ n ∧ g = n - i ∧ s3 = .int .i64 i ∧ ∀ j, j < i → (E j == 0) = true)
  case atStart => exact ⟨rfl, 0, by omega, by omega, rfl, fun j hj => absurd hj (by omega)⟩
  case round =>
    obtain ⟨rfl, i, hi, hg, rfl, hall⟩ := hrel
    have Hg := Lib.hid hg
    have Hall := Lib.hid hall
    clear hg hall
    by_cases hin : i < n
    · have k1 := HC.out i hin
      have q0 : 0 ≤ (i : Int) := by omega
      have q1 : (i : Int) < (n : Int) := by omega
      cases he : (E i == 0)
      · have he2 : (E i != 0) = true := by simp [bne, he]
        have He := Lib.hid he
        clear hi
        go_wp2
        go_ret
        exact ⟨ret_bool (by rw [allB_no hin He.out]), rfl⟩
      · have he2 : (E i != 0) = false := by simp [bne, he]
        have He := Lib.hid he
        clear hi
        go_wp2
        go_roundg (n - (i + 1))
        case measure => have := Hg.out; omega
        case rel => exact ⟨rfl, i + 1, by omega, rfl, by go_num, fun j hj => by
          by_cases e : j = i
          · subst e; exact He.out
          · exact Hall.out j (by omega)⟩
    · obtain rfl : i = n := by omega
      go_wp2
      go_ret
      exact ⟨ret_bool (by rw [allB_yes Hall.out]), rfl⟩
theorem new_ints (W : World) (xs : List Int) (i : Nat) (hi : i < xs.length) : (W.alloc (.cells (xs.map (Value.int .i64)).toArray 26)).cell? ⟨W.heap.size, i, none⟩ = some (.int .i64 (xs.getD i 0)) := by
  rw [cell_of_row _ W.heap.size _ _ 26 (0, 0) (heap_alloc_new W _)]
  simp [hi, List.getD]
theorem l3all_3 (a b c : Int) (W : World) :
    Calls Tryd.prog 93 #[.slice (some ⟨W.heap.size, 0, none⟩) 3 3] (W.alloc (.cells #[.int .i64 a, .int .i64 b, .int .i64 c] 26)) fun r w' => r = .returned (.bool (oks [a, b, c])) ∧ Below W.heap.size W w' := by
  refine (l3all_any W.heap.size 3 3 (fun i => [a, b, c].getD i 0) _ (by omega) (fun i hi => new_ints W [a, b, c] i hi)).mono ?_
  rintro r w' ⟨rfl, rfl⟩
  exact ⟨rfl, (Below.refl _ _).alloc (Nat.le_refl _) _⟩
theorem l3all_5 (a b c d e : Int) (W : World) :
    Calls Tryd.prog 93 #[.slice (some ⟨W.heap.size, 0, none⟩) 5 5] (W.alloc (.cells #[.int .i64 a, .int .i64 b, .int .i64 c, .int .i64 d, .int .i64 e] 26)) fun r w' => r = .returned (.bool (oks [a, b, c, d, e])) ∧ Below W.heap.size W w' := by
  refine (l3all_any W.heap.size 5 5 (fun i => [a, b, c, d, e].getD i 0) _ (by omega) (fun i hi => new_ints W [a, b, c, d, e] i hi)).mono ?_
  rintro r w' ⟨rfl, rfl⟩
  exact ⟨rfl, (Below.refl _ _).alloc (Nat.le_refl _) _⟩
end Go.Proofs.YtgcifpjhhoalmaaDoor
