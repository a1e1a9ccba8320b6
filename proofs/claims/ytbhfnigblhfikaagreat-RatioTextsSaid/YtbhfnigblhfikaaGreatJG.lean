/- slices.Reverse at bytes; rows of bytes of the call's own. -/
import Derived.Test.YtbhfnigblhfikaaGreatJB
import Derived.Shelf.RegionOpenPlain
import Derived.OwnWalk
namespace Go.Proofs.YtbhfnigblhfikaaGreat
open Go Go.RowKit Go.PlainAid Fil

/-- i cells from both ends exchanged -/
def rvs (f : Nat → Value) (n i j : Nat) : Value := if j < n ∧ (j < i ∨ n ≤ i + j) then f (n - 1 - j) else f j
theorem rvs_zero (f : Nat → Value) (n j : Nat) : rvs f n 0 j = f j := by unfold rvs; rw [if_neg (by omega)]
theorem rvs_step {f : Nat → Value} {n i j : Nat} (h : i + i + 1 < n) : (if j = n - 1 - i then f i else if j = i then f (n - 1 - i) else rvs f n i j) = rvs f n (i + 1) j := by
  unfold rvs
  by_cases h1 : j = n - 1 - i
  · subst h1; rw [if_pos rfl, if_pos (by omega), show n - 1 - (n - 1 - i) = i by omega]
  · rw [if_neg h1]
    by_cases h2 : j = i
    · subst h2; rw [if_pos rfl, if_pos (by omega)]
    · rw [if_neg h2]
      by_cases h3 : j < n ∧ (j < i ∨ n ≤ i + j)
      · rw [if_pos h3, if_pos (by omega)]
      · rw [if_neg h3, if_neg (by omega)]
theorem rvs_all {f : Nat → Value} {n i j : Nat} (h : n ≤ i + i + 1) : rvs f n i j = if j < n then f (n - 1 - j) else f j := by
  unfold rvs
  by_cases h1 : j < n
  · rw [if_pos h1]
    by_cases h2 : j < i ∨ n ≤ i + j
    · rw [if_pos ⟨h1, h2⟩]
    · rw [if_neg (fun k => h2 k.2), show n - 1 - j = j by omega]
  · rw [if_neg h1, if_neg (fun k => h1 k.1)]
theorem rvs_lo {f : Nat → Value} {n i : Nat} (h : i + i + 1 < n) : rvs f n i i = f i := by unfold rvs; rw [if_neg (by omega)]
theorem rvs_hi {f : Nat → Value} {n i : Nat} (h : i + i + 1 < n) : rvs f n i (n - 1 - i) = f (n - 1 - i) := by unfold rvs; rw [if_neg (by omega)]
set_option maxRecDepth 1000000 in
set_option maxHeartbeats 4000000 in
theorem reverse_any (g n cap : Nat) (f : Nat → Value) (w : World) (h : w.rowIs g 5 cap f) (hn : n ≤ cap) (hc : n ≤ 1099511627776) (hu : ∀ j, j < n → ∃ x : Nat, f j = .int .u8 x) :
    Calls Tryz.prog 56 #[.slice (some ⟨g, 0, none⟩) n cap] w fun e w' => e = .returned (.tuple #[]) ∧ w'.rowIs g 5 cap (fun j => if j < n then f (n - 1 - j) else f j) ∧ Below g w w' := by
  have lg := h.lt
  have mixed : Tryz.prog.follows .mixedOrders = true := by kernel_rfl
  go_enter Tryz.func56, Tryz.ntmps56
  go_wp2
  go_loopg [2, 3] n (fun gg s2 s3 wr => ∃ i : Nat, i ≤ n ∧ gg = n - i ∧ s2 = .int .i64 i ∧ s3 = .int .i64 ((n : Int) - 1 - i) ∧ wr.rowIs g 5 cap (rvs f n i) ∧ Below g w wr)
  case atStart => exact ⟨0, by omega, by omega, rfl, by go_num, h.congr (fun j _ => (rvs_zero _ _ _).symm), Below.refl _ _⟩
  case round =>
    obtain ⟨i, hi, hg, rfl, rfl, hrow, hbel⟩ := hrel
    by_cases hlt : i + i + 1 < n
    · obtain ⟨k, hk⟩ : ∃ k, k = n - 1 - i := ⟨_, rfl⟩
      have hkc : (n : Int) - 1 - i = (k : Int) := by omega
      have c1 := hrow.cell (i := i) (by omega)
      have c2 := hrow.cell (i := n - 1 - i) (by omega)
      have f1 := hrow.frozen i
      have f2 := hrow.frozen (n - 1 - i)
      rw [rvs_lo hlt] at c1
      rw [rvs_hi hlt, ← hk] at c2
      rw [← hk] at f2
      obtain ⟨x, hx⟩ := hu i (by omega)
      obtain ⟨y, hy⟩ := hu k (by omega)
      rw [hx] at c1
      rw [hy] at c2
      rw [hkc]
      have hik : i < k := by omega
      have hkn : k < n := by omega
      have hne : ¬ i = k := by omega
      have hin : i < n := by omega
      have Hk := Lib.hid (And.intro hk (And.intro hlt (And.intro hg (And.intro hx hy))))
      clear hk hkc hlt hg hx hy hu
      go_wp2_with fail
      go_region_o
      go_wp2
      go_roundg (n - (i + 1))
      case measure => have := Hk.out; omega
      case rel =>
        refine ⟨i + 1, by omega, rfl, by go_num, congrArg (Value.int IntKind.i64) (by have := Hk.out; omega), ((hrow.set i _).set k _).drew.congr (fun j _ => ?_), ((hbel.setCell (Nat.le_refl _) _).setCell (Nat.le_refl _) _).drew⟩
        rw [← rvs_step Hk.out.2.1, ← Hk.out.1, Hk.out.2.2.2.1, Hk.out.2.2.2.2]
    · have hlt' : ¬ (i : Int) < (n : Int) - 1 - i := by omega
      have Hl := Lib.hid hlt
      clear hlt hg
      go_wp2
      go_end0
      exact ⟨rfl, hrow.congr (fun j _ => rvs_all (by have := Hl.out; omega)), hbel⟩

/-- a row of bytes that the call has made -/
def OwnB (w : World) (B : Nat) (v : Value) (l : List UInt8) : Prop := w.ownsRow B 5 1 v l.length (l.map fun c => .int .u8 (c.toNat : Int))
theorem OwnB.nil (w : World) (B : Nat) : OwnB w B (.slice none 0 0) [] := World.ownsRow_nil _ _ _ _
theorem OwnB.row {w : World} {B : Nat} {v : Value} {l : List UInt8} (h : OwnB w B v l) (h0 : l ≠ []) : ∃ (g cap : Nat) (f : Nat → Value), v = .slice (some ⟨g, 0, none⟩) l.length cap ∧ B ≤ g ∧ l.length ≤ cap ∧ w.rowIs g 5 cap f ∧ ∀ (j : Nat) (hj : j < l.length), f j = .int .u8 (l[j].toNat : Int) := by
  rcases h.2 with ⟨_, h1⟩ | ⟨g, cap, cur, hv, hg, hh, hc, hx, hs, ht⟩
  · exact absurd (List.eq_nil_of_length_eq_zero h1) h0
  · refine ⟨g, cap, fun j => cur.getD j undef, hv, hg, hc, ⟨cur, hh, by simpa using hs, fun i hi => ?_⟩, fun j hj => ?_⟩
    · have : i < cur.size := by rw [show cur.size = cap by simpa using hs]; exact hi
      simp [this]
    · have h1 : (cur.toList.take (l.length * 1))[j]? = (l.map fun c => Value.int .u8 (c.toNat : Int))[j]? := by rw [ht]
      rw [List.getElem?_take_of_lt (by omega), List.getElem?_map, List.getElem?_eq_getElem hj] at h1
      have h2 : cur[j]? = some (.int .u8 (l[j].toNat : Int)) := by simpa using h1
      show cur.getD j undef = _
      rw [Array.getD_eq_getD_getElem?, h2]; rfl
end Go.Proofs.YtbhfnigblhfikaaGreat
