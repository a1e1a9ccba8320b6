/- Shift and Floor, both. -/
import Derived.Test.YtbhfnigblhfikaaGreatB9

/- The walks over dyad.Shift and the reference's. -/
namespace Go.Proofs.YtbhfnigblhfikaaGreat
open Go Go.RowKit Go.PlainAid Fil

theorem mkV_odd_yes {neg : Bool} {x : Nat} {f : Int} (h1 : x % 2 = 1) (h2 : Fil.dn 8 x ≤ 16384) (h3 : -1048576 ≤ f) (h4 : f ≤ 1048576) : mkV (sz neg x) f = dyR neg x f 0 := mkV_id (.inr ⟨h1, h2, h3, h4⟩)
theorem mkV_odd_no {neg : Bool} {x : Nat} {f : Int} (h1 : x % 2 = 1) (h : f < -1048576 ∨ 1048576 < f) : mkV (sz neg x) f = dyR false 0 0 4 := by
  have hz := sz_ne (neg := neg) (show x ≠ 0 by omega)
  rcases h with h | h
  · exact mkV_bad (mkOk_no2 hz (by rw [sz_abs, tz_odd h1]; omega))
  · exact mkV_bad (mkOk_no3 hz (by rw [sz_abs, tz_odd h1]; omega))
theorem okD.odd {neg : Bool} {x : Nat} {e : Int} (h : okD neg x e) (hx : x ≠ 0) : x % 2 = 1 := by
  rcases h with ⟨h, _⟩ | h
  · exact absurd h hx
  · exact h.1
theorem okD.nil {neg : Bool} {e : Int} (h : okD neg 0 e) : neg = false ∧ e = 0 := by
  rcases h with ⟨_, h1, h2⟩ | h
  · exact ⟨h1, h2⟩
  · omega
/-- what a call of one Dyad with one to answer leaves when it lays its answer -/
theorem dy_put {w w' : World} (u v x : Value) (hB : Below w.heap.size w w') : Below w.heap.size w (((w'.setCell ⟨w.heap.size + 1, 0, none⟩ u).setCell ⟨w.heap.size + 1, 1, none⟩ v).setCell ⟨w.heap.size + 1, 2, none⟩ x) :=
  ((hB.setCell (Nat.le_succ _) _).setCell (Nat.le_succ _) _).setCell (Nat.le_succ _) _

end Go.Proofs.YtbhfnigblhfikaaGreat

/- The walks over dyad.Floor and the reference's. -/
namespace Go.Proofs.YtbhfnigblhfikaaGreat
open Go Go.RowKit Go.PlainAid Fil

/-- the floor's magnitude -/
def flX (neg : Bool) (x k : Nat) : Nat := if neg then x / 2 ^ k + 1 else x / 2 ^ k
theorem shr_flX {neg : Bool} {x k : Nat} (ho : x % 2 = 1) (hk : 0 < k) : shrZ (sz neg x) k = sz neg (flX neg x k) := by
  have hx : x ≠ 0 := by omega
  unfold shrZ
  rw [sg_sz hx, sz_abs, tz_odd ho]
  cases neg
  · have : ¬ sz false x < 0 := by simp [sz]
    rw [if_neg (fun h => this h.1)]; rfl
  · have : sz true x < 0 := by unfold sz; simp; omega
    rw [if_pos ⟨this, hk⟩]; rfl
theorem flX_le (neg : Bool) (x k : Nat) : flX neg x k ≤ x + 1 := by
  have := Nat.div_le_self x (2 ^ k)
  unfold flX; split <;> omega
theorem dn_flX {neg : Bool} {x k : Nat} (h : Fil.dn 8 x ≤ 16384) : Fil.dn 8 (flX neg x k) ≤ 16385 ∧ Fil.dn 32 (flX neg x k) ≤ 16385 := by
  have h0 := lt_of_dn (k := 8) (by omega) h
  obtain ⟨n, hn⟩ : ∃ n : Nat, n = 16384 := ⟨_, rfl⟩
  rw [← hn] at h0
  have h1 : flX neg x k < 2 ^ (8 * (n + 1)) := by
    have h2 := flX_le neg x k
    rw [pstep]
    have := pp (8 * n)
    omega
  have h3 := dn_le (k := 8) (by omega) h1
  have h4 := dn_le (k := 32) (n := n + 1) (by omega) (Nat.lt_of_lt_of_le h1 (pmono (by omega)))
  exact ⟨by omega, by omega⟩
/-- Floor's answer -/
def flV (neg : Bool) (x : Nat) (e f : Int) : Value :=
  if f < -1048576 ∨ 1048576 < f then dyR false 0 0 2 else if f ≤ e ∨ x = 0 then dyR neg x e 0 else mkV (sz neg (flX neg x (f - e).toNat)) f
theorem flV_out {neg : Bool} {x : Nat} {e f : Int} (h : f < -1048576 ∨ 1048576 < f) : flV neg x e f = dyR false 0 0 2 := if_pos h
theorem flV_same {neg : Bool} {x : Nat} {e f : Int} (h1 : ¬ f < -1048576) (h2 : ¬ 1048576 < f) (h : f ≤ e ∨ x = 0) : flV neg x e f = dyR neg x e 0 := by unfold flV; rw [if_neg (by omega), if_pos h]
theorem flV_cut {neg : Bool} {x : Nat} {e f : Int} {k : Nat} (h1 : ¬ f < -1048576) (h2 : ¬ 1048576 < f) (h3 : ¬ f ≤ e) (h4 : x ≠ 0) (hk : f - e = k) : flV neg x e f = mkV (sz neg (flX neg x k)) f := by
  unfold flV; rw [if_neg (by omega), if_neg (by omega), show (f - e).toNat = k by omega]

end Go.Proofs.YtbhfnigblhfikaaGreat

/- The walk over the reference's Floor. -/
namespace Go.Proofs.YtbhfnigblhfikaaGreat
open Go Go.RowKit Go.PlainAid Fil

theorem dn8_one : Fil.dn 8 1 = 1 := by rw [dn8_bl]; decide
theorem slc_one (w : World) : Slc (w.alloc (.cells #[.int .i64 1] 3)) 3 (some ⟨w.heap.size, 0, none⟩) 1 (i8 1) := fun _ =>
  ⟨w.heap.size, 0, _, _, rfl, heap_alloc_new w _, fun j hj => by
    have : j = 0 := by omega
    subst this
    rfl⟩

theorem dyR_nil (r : Int) : dyR false 0 0 r = .tuple #[.agg #[.bool false, .string { data := #[] }, .int .i64 0], .int .i64 r] := by unfold dyR; rw [bstr_zero]
theorem DyAt.lt {w : World} {b : Nat} {neg : Bool} {s : ByteArray} {e : Int} (h : DyAt w b neg s e) : b < w.heap.size := World.block_lt_of_cell? _ _ h.c0
theorem DyAt.keep {w w' : World} {b : Nat} {neg : Bool} {s : ByteArray} {e : Int} (h : DyAt w b neg s e) (hb : Below w.heap.size w w') : DyAt w' b neg s e := h.below hb h.lt
theorem DyAt.allocd {w : World} {b : Nat} {neg : Bool} {s : ByteArray} {e : Int} (h : DyAt w b neg s e) (o : Obj) : DyAt (w.alloc o) b neg s e := h.keep ((Below.refl _ _).alloc (Nat.le_refl _) _)
theorem flV_form (neg : Bool) (x : Nat) (e f : Int) : ∃ n y g r, flV neg x e f = dyR n y g r := by
  unfold flV
  split
  · exact ⟨_, _, _, _, rfl⟩
  · split
    · exact ⟨_, _, _, _, rfl⟩
    · exact ⟨_, _, _, _, rfl⟩
end Go.Proofs.YtbhfnigblhfikaaGreat
