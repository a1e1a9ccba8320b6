/- The reference's numbers of any length: rows of the call's own; the walk over of. -/
import Derived.Test.YtgcifpjhhoalmaaDoorRe
namespace Go.Proofs.YtgcifpjhhoalmaaDoor
open Go Go.RowKit Go.PlainAid Fil

theorem Tryd.info3 : (Tryd.prog.info? 3).map (fun i => (i.zero, i.size, i.bytes)) = some (some (.int .i64 0), 1, 8) := by kernel_rfl
/-- a row of whole numbers that the call has made -/
def Own (w : World) (B : Nat) (v : Value) (n : Nat) (f : Nat → Int) : Prop := w.ownsRow B 3 1 v n ((List.range n).map fun i => .int .i64 (f i))
theorem Own.nil (w : World) (B : Nat) (f : Nat → Int) : Own w B (.slice none 0 0) 0 f := World.ownsRow_nil _ _ _ _
theorem range_grow (n : Nat) (f : Nat → Int) : (List.range n).map (fun i => Value.int .i64 (f i)) ++ [.int .i64 (f n)] = (List.range (n + 1)).map fun i => Value.int .i64 (f i) := by
  rw [List.range_succ, List.map_append]; rfl

set_option maxHeartbeats 2000000 in
theorem rof_any (x : Nat) (w : World) (hx : Fil.dn 8 x ≤ 1048576) :
    Calls Tryd.prog 110 #[.string (bstr x)] w fun r w' => ∃ v, r = .returned v ∧ Own w' w.heap.size v (Fil.dn 8 x) (fun i => (dg 8 x i : Int)) ∧ Below w.heap.size w w' := by
  have hsz := bstr_size x
  obtain ⟨n, hn⟩ : ∃ n, n = Fil.dn 8 x := ⟨_, rfl⟩
  have hbt := fun j (h : j < n) => bstr_bt x (n - 1 - j) (by omega)
  have hgb := get_bt (bstr x)
  rw [← hn] at hsz hx ⊢
  obtain ⟨i0, hi, hp⟩ := Option.map_eq_some_iff.1 Tryd.info3
  have hz0 : i0.zero = some (.int .i64 0) := congrArg Prod.fst hp
  have hz1 : i0.size = 1 := congrArg (fun q => q.2.1) hp
  have hz2 : i0.bytes = 8 := congrArg (fun q => q.2.2) hp
  have HX := Lib.hid hbt
  clear hbt
  go_enter Tryd.func110, Tryd.ntmps110
  go_wp2
  go_loopg [3, 4] n (fun g v s4 wr => ∃ j : Nat, j ≤ n ∧ g = n - j ∧ s4 = .int .i64 ((n : Int) - 1 - j) ∧ Own wr w.heap.size v j (fun i => (dg 8 x i : Int)) ∧ Below w.heap.size w wr)
  case atStart => exact ⟨0, by omega, by omega, by go_num, Own.nil _ _ _, Below.refl _ _⟩
  case round =>
    obtain ⟨j, hj, hg, rfl, hown, hbel⟩ := hrel
    by_cases hjn : j < n
    · obtain ⟨k, hk⟩ : ∃ k, k = n - 1 - j := ⟨_, rfl⟩
      have hkc : (n : Int) - 1 - j = (k : Int) := by omega
      have hbk : bt (bstr x) k = (dg 8 x j : Int) := by rw [hk, HX.out j hjn, ← hn, show n - 1 - (n - 1 - j) = j by omega]
      have hd0 : 0 ≤ (dg 8 x j : Int) := by omega
      have hd1 : (dg 8 x j : Int) < 256 := by have := dg_lt 8 x j; omega
      have hks : k < (bstr x).size := by rw [hsz]; omega
      have hkn : (k : Int) < 1048576 := by omega
      rw [hkc]
      have Hk := Lib.hid (And.intro hk (And.intro hkc (And.intro hjn (And.intro hg hbel))))
      have hx' := Lib.hid hx
      have hbs := hbel.size
      clear hk hkc hjn hg hn hx hj
      go_wp2_with (at_builtin; refine wpList_append_own _ rfl _ _ 122 rfl w.heap.size 3 i0 (.int .i64 0) 1 8 Tryd.underlying122 hi hz0 hz1 hz2 rfl (by decide) _ _ _ rfl (hown.alloc _) ⟨wr.heap.size, 0, none⟩ 1 1 [.int .i64 (dg 8 x j)] rfl rfl ?c1 ?c2 ?c3 ?c4 ?c5 ?_)
      case c1 =>
        intro j u hj
        match j, hj with
        | 0, hj => simp at hj; subst hj; simp [Addr.add]
      case c2 => intro u hu; simp at hu; subst hu; rfl
      case c3 => have := Hk.out; have := hx'.out; unfold maxLen; omega
      case c4 => have := Hk.out; have := hx'.out; omega
      case c5 => simp; omega
      · intro v' w1 hown' hgrow _
        rw [range_grow] at hown'
        have hb1 := (hbel.alloc hbs (Obj.cells #[Value.int IntKind.i64 (dg 8 x j)] 3)).grown hgrow (by simp; omega) (fun k hk => (hown.lt k hk).1)
        clear hown hgrow hbel hbk hd0 hd1 hks hgb
        go_wp2
        go_roundg (n - (j + 1))
        case measure => have := Hk.out; omega
        case rel => exact ⟨j + 1, by have := Hk.out; omega, rfl, congrArg (Value.int IntKind.i64) (by have := Hk.out; omega), hown', hb1⟩
    · have he : j = n := by omega
      rw [show (n : Int) - 1 - j = -1 by omega]
      subst he
      clear hn hj hjn hg hx hsz
      go_wp2
      go_ret
      exact ⟨_, rfl, hown, hbel⟩
end Go.Proofs.YtgcifpjhhoalmaaDoor
