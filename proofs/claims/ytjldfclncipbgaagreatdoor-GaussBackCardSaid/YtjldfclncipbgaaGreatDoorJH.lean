/- wide.Int.String. -/
import Derived.Test.YtjldfclncipbgaaGreatDoorJG
namespace Go.Proofs.YtjldfclncipbgaaGreatDoor
open Go Go.RowKit Go.PlainAid Fil

theorem decs_len {x K : Nat} (h : Fil.dn 32 x ≤ K) : (decs x).length ≤ 10 * K := by
  refine decs_length_le _ _ (Nat.lt_of_lt_of_le (lt_of_dn (k := 32) (by omega) h) ?_)
  rw [Nat.pow_mul, Nat.pow_mul]
  exact Nat.pow_le_pow_left (by decide) _
theorem map_snoc (l : List UInt8) (c : UInt8) : (l.map fun c => Value.int .u8 (c.toNat : Int)) ++ [.int .u8 (c.toNat : Int)] = (l ++ [c]).map fun c => Value.int .u8 (c.toNat : Int) := by simp
theorem dig_char {r : Nat} : (UInt8.ofNat (48 + r % 10)).toNat = 48 + r % 10 := u8_of_lt (by omega)
/-- a row of bytes as a text -/
theorem run_text (w : World) (g c cap : Nat) (l : List UInt8) (f : Nat → Value) (h : w.rowIs g 5 cap f) (hn : l.length ≤ cap) (hf : ∀ (j : Nat) (hj : j < l.length), f j = .int .u8 (l[j].toNat : Int)) :
    (convert 87 9 (.slice (some ⟨g, 0, none⟩) l.length c)).run Tryz.prog w = .ok (.string ⟨l.toArray⟩) w := by
  exact run_convert_bytes_back (P := Tryz.prog) w 87 9 5 ⟨g, 0, none⟩ c l Tryz.underlying87 Tryz.underlying5 Tryz.underlying9 (fun j hj => by
    have h1 := h.cell (i := j) (by omega)
    have e : (Addr.add ⟨g, 0, none⟩ j) = ⟨g, j, none⟩ := by unfold Addr.add; split <;> simp_all
    rw [e, h1, hf j hj])
theorem Slc.grown {w w' : World} {A : Option Addr} {n : Nat} {f : Nat → Value} {row : Option Nat} (h : Slc w 89 A n f) (hg : w.grownBy w' row) (hr : ∀ k, row = some k → ∃ cs fz, w.heap[k]? = some (.cells cs 5 fz)) : Slc w' 89 A n f := fun hn => by
  obtain ⟨b, o, cs, fz, hA, hb, hc⟩ := h hn
  refine ⟨b, o, cs, fz, hA, (hg.block b (lt_of_heap hb) fun e => ?_).trans hb, hc⟩
  obtain ⟨cs', fz', h'⟩ := hr b e.symm
  rw [hb] at h'
  injection h' with h'; injection h' with _ h'; exact absurd h' (by decide)
theorem Dig.grown {w w' : World} {A : Option Addr} {n c x : Nat} {row : Option Nat} (h : Dig w A n c x) (hg : w.grownBy w' row) (hr : ∀ k, row = some k → ∃ cs fz, w.heap[k]? = some (.cells cs 5 fz)) : Dig w' A n c x := ⟨h.1, h.2.1, Slc.grown (f := d32 x) h.2.2 hg hr⟩
theorem OwnB.typ {w : World} {B : Nat} {v : Value} {l : List UInt8} (h : OwnB w B v l) : ∀ k, v.ownBlock = some k → ∃ cs fz, w.heap[k]? = some (.cells cs 5 fz) := by
  intro k hk
  rcases h.2 with ⟨rfl, _⟩ | ⟨g, cap, cur, rfl, _, hh, _⟩
  · simp [Value.ownBlock] at hk
  · simp [Value.ownBlock] at hk; subst hk; exact ⟨cur, _, hh⟩
theorem OwnB.below {w w' : World} {B : Nat} {v : Value} {l : List UInt8} (h : OwnB w B v l) (hb : Below w.heap.size w w') : OwnB w' B v l := by
  refine ⟨h.1, ?_⟩
  rcases h.2 with h2 | ⟨g, cap, cur, hv, hg, hh, hr⟩
  · exact .inl h2
  · exact .inr ⟨g, cap, cur, hv, hg, (hb.block g (lt_of_heap hh)).trans hh, hr⟩
set_option maxRecDepth 1000000 in
set_option maxHeartbeats 8000000 in
theorem string_any (b o x : Nat) (w : World) (h : IntAt w b o (x : Int)) (hz : Fil.dn 32 x ≤ 100000000) :
    Calls Tryz.prog 25 #[.pointer (some ⟨b, o, none⟩)] w fun e w' => e = .returned (.string ⟨(dtx x).toArray⟩) ∧ Below w.heap.size w w' := by
  obtain ⟨A, n, c, h1, h2, D⟩ := h.cells
  have lb := h.lt
  rw [Int.natAbs_natCast] at D
  have hsg : sg (x : Int) = false := by simp [sg]
  rw [hsg] at h1
  have hn := D.1
  clear h hsg
  by_cases hx : x = 0
  · subst hx
    rw [dn_zero] at hn
    subst hn
    clear D
    go_enter Tryz.func25, Tryz.ntmps25
    go_wp2
    go_ret
    exact ⟨rfl, Below.refl _ _⟩
  · have hn0 : 0 < n := by rw [hn]; exact dn_pos hx
    have hlen := decs_len hz
    have hne : decs x ≠ [] := by rw [decs_pos hx]; simp
    have hdt : dtx x = (decs x).reverse := by unfold dtx; rw [if_neg hx]
    rw [hdt]
    obtain ⟨X, hX⟩ : ∃ X, X = decs x := ⟨_, rfl⟩
    rw [← hX] at hlen hne ⊢
    obtain ⟨i0, hi, hp⟩ := Option.map_eq_some_iff.1 Tryz.info5
    have hz0 : i0.zero = some (.int .u8 0) := congrArg Prod.fst hp
    have hz1 : i0.size = 1 := congrArg (fun q => q.2.1) hp
    have hz2 : i0.bytes = 1 := congrArg (fun q => q.2.2) hp
    have hsh := fun W A n c D (dd : Dig W A n c D) (hn : n ≤ 100000000) => short_any A n c D 1000000000 W dd.1 (by omega) (by omega) (by omega) dd.2.2
    have HX := Lib.hid (And.intro hX (And.intro hne (And.intro hlen lb)))
    have hnz : ((n : Int) == 0) = false := by simp; omega
    have hnK : n ≤ 100000000 := by rw [hn]; exact hz
    clear hX hne hlen hz hn hx hdt lb
    have mixed : Tryz.prog.follows .mixedOrders = true := by kernel_rfl
    go_enter Tryz.func25, Tryz.ntmps25
    go_wp2
    go_loopg [3, 4] x (fun g s3 s4 wr => ∃ (l : List UInt8) (A : Option Addr) (n c : Nat), s4 = .slice A n c ∧ n ≤ 100000000 ∧ Dig wr A n c g ∧ OwnB wr w.heap.size s3 l ∧ l ++ decs g = X ∧ Below w.heap.size w wr)
    case atStart => exact ⟨[], A, n, c, rfl, hnK, D, OwnB.nil _ _, HX.out.1.symm, Below.refl _ _⟩
    case round =>
      clear D hn0 hnK h2 hnz
      obtain ⟨l, A1, n1, c1, rfl, hn1, D1, hown, hl, hbel⟩ := hrel
      have Hl := Lib.hid hl
      clear hl
      by_cases h0 : gk = 0
      · subst h0
        have hn0 : n1 = 0 := by rw [D1.1, dn_zero]
        subst hn0
        have hlX := Hl.out
        rw [decs_zero, List.append_nil] at hlX
        subst hlX
        obtain ⟨g, cap, f, rfl, hB, hc, hrow, hf⟩ := hown.row HX.out.2.1
        have k1 := (Below.cellAt hbel HX.out.2.2.2 o).trans h1
        have hrv := fun W R => reverse_any g l.length cap f W R hc (by have := HX.out.2.2.1; omega) (fun j hj => ⟨_, hf j hj⟩)
        clear D1 hown h1
        go_wp2_with fail
        refine (hrv _ hrow).mono ?_
        rintro e w2 ⟨rfl, hrow2, hb2⟩
        have hbel2 := hbel.trans (hb2.mono hB)
        have hcv := fun C => run_text w2 g C cap l.reverse _ hrow2 (by simpa using hc) (fun j hj => by
          have hj' : j < l.length := by simpa using hj
          rw [if_pos hj', hf _ (by omega), List.getElem_reverse])
        rw [List.length_reverse] at hcv
        clear hrv hrow hb2
        go_wp2
        go_ret
        exact ⟨rfl, hbel2⟩
      · have hn1p : 0 < n1 := by rw [D1.1]; exact dn_pos h0
        have H0 := Lib.hid h0
        clear h0
        go_wp2_with fail
        refine (hsh _ A1 n1 c1 gk D1 hn1).mono ?_
        rintro e w1 ⟨A2, c2, rfl, hc2, hs2, hb1⟩
        have D2 : Dig w1 A2 (Fil.dn 32 (gk / 1000000000)) c2 (gk / 1000000000) := ⟨rfl, hc2, hs2⟩
        replace hown := hown.below hb1
        replace hbel := hbel.trans (hb1.mono hbel.size)
        have hgs := grp_start gk
        have hdle : Fil.dn 32 (gk / 1000000000) ≤ n1 := by rw [D1.1]; exact dn_mono (by omega) (Nat.div_le_self _ _)
        have hrlt : gk % 1000000000 < 10 ^ (9 - 0) := Nat.mod_lt _ (by decide)
        have hgd : gk / 1000000000 < gk := Nat.div_lt_self (by have := H0.out; omega) (by decide)
        generalize gk / 1000000000 = d at *
        generalize gk % 1000000000 = r0 at *
        generalize hm2 : Fil.dn 32 d = m2 at *
        have HS := Lib.hid (And.intro hgs (And.intro hrlt (And.intro hgd (And.intro hm2 (And.intro hdle hn1)))))
        have hm2b : m2 ≤ 100000000 := by omega
        clear hb1 hc2 hs2 D1 hgs hrlt hgd hm2 hdle hn1
        go_wp2
        go_loopg [3, 5, 6] 9 (fun gg s3 s5 s6 wi => ∃ (l' : List UInt8) (r i : Nat), i ≤ 9 ∧ gg = 9 - i ∧ s5 = .int .u32 r ∧ s6 = .int .i64 i ∧ r < 10 ^ (9 - i) ∧ OwnB wi w.heap.size s3 l' ∧ l' ++ decs (grp d r i) = X ∧ Below w.heap.size w wi ∧ Dig wi A2 m2 c2 d)
        case atStart => exact ⟨l, r0, 0, by omega, rfl, rfl, rfl, HS.out.2.1, hown, by rw [HS.out.1]; exact Hl.out, hbel, D2⟩
        case round =>
          clear hown hbel D2 hn1p
          obtain ⟨l', r, i, hi9, hgg, rfl, rfl, hr, hown, hl', hbel, D2⟩ := hrel
          by_cases h9 : i < 9
          · by_cases hg0 : grp d r i = 0
            · obtain ⟨hd0, hr0⟩ := (grp_zero_iff d r i).1 hg0
              rw [hg0] at hl'
              subst hr0
              have hm0 : m2 = 0 := by rw [← HS.out.2.2.2.1, hd0, dn_zero]
              subst hm0
              have Hl2 := Lib.hid (And.intro hl' hd0)
              clear hl' hg0 hd0 hr
              go_wp2
              go_roundg d
              case measure => exact HS.out.2.2.1
              case rel => exact ⟨l', A2, 0, c2, rfl, by omega, D2, hown, by rw [Hl2.out.2]; exact Hl2.out.1, hbel⟩
            · have hst := grp_step h9 hg0
              have hre := grp_rest h9 hr
              have hrb : r < 4294967296 := Nat.lt_of_lt_of_le hr (Nat.le_trans (Nat.pow_le_pow_right (by decide) (by omega : 9 - i ≤ 9)) (by decide))
              obtain ⟨m, hm⟩ : ∃ m, m = r % 10 := ⟨_, rfl⟩
              have em : (r : Int) % 10 = (m : Int) := by omega
              have hmb : m < 10 := by omega
              obtain ⟨q, hq⟩ : ∃ q, q = 48 + m := ⟨_, rfl⟩
              have eq4 : (48 : Int) + (m : Int) = (q : Int) := by omega
              have hqb : q < 256 := by omega
              obtain ⟨r', hr'⟩ : ∃ r', r' = r / 10 := ⟨_, rfl⟩
              have er : (r : Int) / 10 = (r' : Int) := by omega
              have hch : ((UInt8.ofNat (48 + r % 10)).toNat : Int) = (q : Int) := by rw [dig_char]; omega
              have hlen : l'.length < 1000000000 := by
                have h1 := HX.out.2.2.1
                rw [← hl', List.length_append, hst, List.length_cons] at h1
                omega
              rw [hst] at hl'
              rw [← hr'] at hl' hre
              generalize UInt8.ofNat (48 + r % 10) = C at *
              have hgo : 0 < r ∨ (¬ 0 < r ∧ 0 < m2) := by
                rcases Nat.eq_zero_or_pos r with h | h
                · right
                  refine ⟨by omega, ?_⟩
                  rw [← HS.out.2.2.2.1]
                  exact dn_pos fun hd => hg0 ((grp_zero_iff d r i).2 ⟨hd, h⟩)
                · exact .inl h
              have hbs := hbel.size
              have Hk := Lib.hid (And.intro hl' (And.intro hre (And.intro hch (And.intro hgg hlen))))
              have HR := Lib.hid hr'
              clear hl' hre hch hgg hg0 hst hm hq hr' hr hlen
              rcases hgo with hgo | ⟨hgo, hgo2⟩
              all_goals
                go_wp2_with (at_builtin; refine wpList_append_own _ rfl _ _ 87 rfl w.heap.size 5 i0 (.int .u8 0) 1 1 Tryz.underlying87 hi hz0 hz1 hz2 rfl (by decide) _ _ _ rfl (by exact hown.alloc _) ⟨wr.heap.size, 0, none⟩ 1 1 [.int .u8 (q : Int)] rfl rfl ?c1 ?c2 ?c3 ?c4 ?c5 ?_)
                case c1 =>
                  intro j u hj
                  match j, hj with
                  | 0, hj => simp at hj; subst hj; simp [Addr.add]
                case c2 => intro u hu; simp at hu; subst hu; rfl
                case c3 => have := Hk.out.2.2.2.2; unfold maxLen; omega
                case c4 => have := Hk.out.2.2.2.2; omega
                case c5 => simp; omega
                · intro v' w2 hown' hgrow _
                  have hownA : OwnB (wr.alloc (.cells #[.int .u8 (q : Int)] 5)) w.heap.size _ l' := hown.alloc _
                  have D2' := (D2.alloc (.cells #[.int .u8 (q : Int)] 5)).grown hgrow hownA.typ
                  have hb2 := (hbel.alloc hbs (.cells #[.int .u8 (q : Int)] 5)).grown hgrow (by simp; omega) (fun k hk => (hown.lt k hk).1)
                  rw [← Hk.out.2.2.1, map_snoc] at hown'
                  have hown2 : OwnB w2 w.heap.size v' (l' ++ [C]) := by
                    have e : (l' ++ [C]).length = l'.length + 1 := by simp
                    unfold OwnB
                    rw [e]; exact hown'
                  clear hown hown' hgrow hbel D2 hownA
                  go_wp2
                  go_roundg (9 - (i + 1))
                  case measure => have := Hk.out.2.2.2.1; omega
                  case rel => exact ⟨l' ++ [C], r', i + 1, by omega, rfl, by go_num, by go_num, Hk.out.2.1, hown2, by rw [List.append_assoc]; exact Hk.out.1, hb2, D2'⟩
          · have hi : i = 9 := by omega
            subst hi
            have hr0 : r = 0 := by simpa using hr
            rw [grp_nine hr] at hl'
            have Hl2 := Lib.hid hl'
            clear hl' hr hr0 hgg h9
            go_wp2
            go_roundg d
            case measure => exact HS.out.2.2.1
            case rel => exact ⟨l', A2, m2, c2, rfl, hm2b, D2, hown, Hl2.out, hbel⟩
end Go.Proofs.YtjldfclncipbgaaGreatDoor
