/- Merged: MR MG -/
import Derived.Test.YtjldfclncipbgaaGreatDoorMQ
import Derived.Test.YtjldfclncipbgaaGreatDoorMP
import Derived.WalkSmall
import Derived.ChangeBears2
import Derived.Test.YtjldfclncipbgaaGreatDoorJH

/- strconv.Itoa and Atoi where the card's tables lie. -/
namespace Go.Proofs.YtjldfclncipbgaaGreatDoor
open Go Go.RowKit Go.PlainAid Fil

/-- what the cards lay of the library's variables -/
def TabK (w : World) : Prop := Tab w ∧ Lib.TabIs Tryz.prog w "internal/strconv.uint64pow10" .u64 Lib.pow10Tab ∧ ∃ tp p, w.var? Tryz.prog "strconv.ErrSyntax" = some #[.iface tp p]
theorem TabK.tab {w : World} (h : TabK w) : Tab w := h.1
theorem var_lt {w : World} {n : String} {g : Nat} {v : Value} {l : List Value} (hg : Tryz.prog.globalNamed n = some g) (h : w.var? Tryz.prog n = some (v :: l).toArray) : g < w.heap.size :=
  World.block_lt_of_cell? _ ⟨g, 0, none⟩ (u := v) (by rw [World.var?_cell hg h 0]; rfl)
theorem TabK.below {w w' : World} (h : TabK w) (hb : Below w.heap.size w w') : TabK w' := by
  obtain ⟨h1, h2, tp, p, h3⟩ := h
  refine ⟨h1.below hb, ?_, tp, p, ?_⟩
  · exact var?_below hb (g := 4) (by kernel_rfl) (var_lt (v := .int .u64 1) (l := (Lib.pow10Tab.tail).map fun z => Value.int .u64 z) (by kernel_rfl) h2) h2
  · exact var?_below hb (g := 1) (by kernel_rfl) (var_lt (v := .iface tp p) (l := []) (by kernel_rfl) h3) h3
theorem below_grow9 (w : World) (k : Nat) (os : Array Obj) : Below w.heap.size w (Sort.grow (w.drewN k) os) :=
  ⟨rfl, rfl, rfl, by show w.heap.size ≤ (w.heap ++ os).size; rw [Array.size_append]; omega, fun j hj => by show (w.heap ++ os)[j]? = w.heap[j]?; rw [Array.getElem?_append_left hj]⟩
theorem citoa (e : Int) (w : World) (hT : TabK w) (h0 : -9223372036854775808 ≤ e) (h1 : e ≤ 9223372036854775807) :
    Calls Tryz.prog 26 #[.int .i64 e] w fun r w' => r = .returned (.string ⟨(itx e).toArray⟩) ∧ Below w.heap.size w w' := by
  refine (Tryz.strconv_Itoa e h0 h1 w hT.2.1).mono ?_
  rintro r w' ⟨rfl, k, os, rfl⟩
  exact ⟨by rw [itoa_itx], below_grow9 _ _ _⟩
theorem catoi (s : ByteArray) (n : Int) (w : World) (hl : s.size ≤ 18) (h : Lib.atoi s.data.toList = some n) :
    Calls Tryz.prog 30 #[.string s] w fun r w' => r = .returned (.tuple #[.int .i64 n, .nilIface]) ∧ Below w.heap.size w w' := by
  refine (Tryz.strconv_Atoi s n hl h w).mono ?_
  rintro r w' ⟨rfl, t, rfl⟩
  exact ⟨rfl, Lib.bytesWorld_below _ _ _⟩
theorem catoi_bad (s : ByteArray) (w : World) (hT : TabK w) (hl : s.size ≤ 18) (h : Lib.atoi s.data.toList = none) :
    Calls Tryz.prog 30 #[.string s] w fun r w' => (∃ tp pv, r = .returned (.tuple #[.int .i64 0, .iface tp pv])) ∧ Below w.heap.size w w' := by
  obtain ⟨tp, p, h3⟩ := hT.2.2
  refine (Tryz.strconv_Atoi_err_var s hl h tp p w h3).mono ?_
  rintro r w' ⟨N, rfl, _, _, hb⟩
  exact ⟨⟨_, _, rfl⟩, hb⟩
end Go.Proofs.YtjldfclncipbgaaGreatDoor

/- wide.Int.String of a number below zero. -/
namespace Go.Proofs.YtjldfclncipbgaaGreatDoor
open Go Go.RowKit Go.PlainAid Fil

set_option maxRecDepth 1000000 in
set_option maxHeartbeats 8000000 in
theorem string_neg (b o x : Nat) (w : World) (hx : x ≠ 0) (h : IntAt w b o (sz true x)) (hz : Fil.dn 32 x ≤ 100000000) :
    Calls Tryz.prog 25 #[.pointer (some ⟨b, o, none⟩)] w fun e w' => e = .returned (.string ⟨(45 :: dtx x).toArray⟩) ∧ Below w.heap.size w w' := by
  obtain ⟨A, n, c, h1, h2, D⟩ := h.cells
  have lb := h.lt
  rw [sz_abs] at D
  have hsg : sg (sz true x) = true := by simp [sg, sz]; omega
  rw [hsg] at h1
  have hn := D.1
  clear h hsg
  have hn0 : 0 < n := by rw [hn]; exact dn_pos hx
  have hlen := decs_len hz
  have hne : decs x ≠ [] := by rw [decs_pos hx]; simp
  have hdt : dtx x = (decs x).reverse := by unfold dtx; rw [if_neg hx]
  rw [hdt]
  obtain ⟨X, hX⟩ : ∃ X, X = decs x := ⟨_, rfl⟩
  rw [← hX] at hlen hne ⊢
  obtain ⟨i0, hi, hp⟩ := Option.map_eq_some_iff.1 Tryz.info5
  have hz0 : i0.zero = some (.int .u8 0) := congrArg Prod.fst hp
  have hz1 : i0.size = 1 := congrArg (fun q => q.2.1) hp
  have hz2 : i0.bytes = 1 := congrArg (fun q => q.2.2) hp
  have hsh := fun W A n c D (dd : Dig W A n c D) (hn : n ≤ 100000000) => short_any A n c D 1000000000 W dd.1 (by omega) (by omega) (by omega) dd.2.2
  have HX := Lib.hid (And.intro hX (And.intro hne (And.intro hlen lb)))
  have hnz : ((n : Int) == 0) = false := by simp; omega
  have hnK : n ≤ 100000000 := by rw [hn]; exact hz
  clear hX hne hlen hz hn hx hdt lb
  have mixed : Tryz.prog.follows .mixedOrders = true := by kernel_rfl
  go_enter Tryz.func25, Tryz.ntmps25
  go_wp2
  go_loopg [3, 4] x (fun g s3 s4 wr => ∃ (l : List UInt8) (A : Option Addr) (n c : Nat), s4 = .slice A n c ∧ n ≤ 100000000 ∧ Dig wr A n c g ∧ OwnB wr w.heap.size s3 l ∧ l ++ decs g = X ∧ Below w.heap.size w wr)
  case atStart => exact ⟨[], A, n, c, rfl, hnK, D, OwnB.nil _ _, HX.out.1.symm, Below.refl _ _⟩
  case round =>
    clear D hn0 hnK h2 hnz
    obtain ⟨l, A1, n1, c1, rfl, hn1, D1, hown, hl, hbel⟩ := hrel
    have Hl := Lib.hid hl
    clear hl
    by_cases h0 : gk = 0
    · subst h0
      have hn0 : n1 = 0 := by rw [D1.1, dn_zero]
      subst hn0
      have hlX := Hl.out
      rw [decs_zero, List.append_nil] at hlX
      subst hlX
      have k1 := (Below.cellAt hbel HX.out.2.2.2 o).trans h1
      have hbs := hbel.size
      have hl1 : l.length ≤ 1000000000 := by have := HX.out.2.2.1; omega
      clear D1 h1
      go_wp2_with (at_builtin; refine wpList_append_own _ rfl _ _ 87 rfl w.heap.size 5 i0 (.int .u8 0) 1 1 Tryz.underlying87 hi hz0 hz1 hz2 rfl (by decide) _ _ _ rfl (by exact hown.alloc _) ⟨wr.heap.size, 0, none⟩ 1 1 [.int .u8 45] rfl rfl ?c1 ?c2 ?c3 ?c4 ?c5 ?_)
      case c1 =>
        intro j u hj
        match j, hj with
        | 0, hj => simp at hj; subst hj; simp [Addr.add]
      case c2 => intro u hu; simp at hu; subst hu; rfl
      case c3 => unfold maxLen; omega
      case c4 => omega
      case c5 => simp; omega
      · intro v' w2 hown' hgrow _
        have hb2 := (hbel.alloc hbs (.cells #[.int .u8 45] 5)).grown hgrow (by simp; omega) (fun k hk => (hown.lt k hk).1)
        have hown2 : OwnB w2 w.heap.size v' (l ++ [45]) := by
          have e : (l ++ [(45 : UInt8)]).length = l.length + 1 := by simp
          have e2 := map_snoc l 45
          unfold OwnB
          rw [e, ← e2]; exact hown'
        clear hown hown' hgrow hbel
        obtain ⟨g, cap, f, rfl, hB, hc, hrow, hf⟩ := hown2.row (by simp)
        obtain ⟨L, hL⟩ : ∃ L, L = l ++ [(45 : UInt8)] := ⟨_, rfl⟩
        rw [← hL] at hc hf ⊢
        have hLl : L.length ≤ 1000000001 := by rw [hL]; simp; omega
        have hrv := fun W R => reverse_any g L.length cap f W R hc (by omega) (fun j hj => ⟨_, hf j hj⟩)
        have HL := Lib.hid hL
        clear hown2 k1 hL
        go_wp2_with fail
        refine (hrv _ hrow).mono ?_
        rintro e w3 ⟨rfl, hrow2, hb3⟩
        have hbel2 := hb2.trans (hb3.mono hB)
        have hcv := fun C => run_text w3 g C cap L.reverse _ hrow2 (by simpa using hc) (fun j hj => by
          have hj' : j < L.length := by simpa using hj
          rw [if_pos hj', hf _ (by omega), List.getElem_reverse])
        rw [List.length_reverse] at hcv
        clear hrv hrow hb3
        go_wp2
        go_ret
        exact ⟨by rw [HL.out, List.reverse_append]; rfl, hbel2⟩
    · have hn1p : 0 < n1 := by rw [D1.1]; exact dn_pos h0
      have H0 := Lib.hid h0
      clear h0
      go_wp2_with fail
      refine (hsh _ A1 n1 c1 gk D1 hn1).mono ?_
      rintro e w1 ⟨A2, c2, rfl, hc2, hs2, hb1⟩
      have D2 : Dig w1 A2 (Fil.dn 32 (gk / 1000000000)) c2 (gk / 1000000000) := ⟨rfl, hc2, hs2⟩
      replace hown := hown.below hb1
      replace hbel := hbel.trans (hb1.mono hbel.size)
      have hgs := grp_start gk
      have hdle : Fil.dn 32 (gk / 1000000000) ≤ n1 := by rw [D1.1]; exact dn_mono (by omega) (Nat.div_le_self _ _)
      have hrlt : gk % 1000000000 < 10 ^ (9 - 0) := Nat.mod_lt _ (by decide)
      have hgd : gk / 1000000000 < gk := Nat.div_lt_self (by have := H0.out; omega) (by decide)
      generalize gk / 1000000000 = d at *
      generalize gk % 1000000000 = r0 at *
      generalize hm2 : Fil.dn 32 d = m2 at *
      have HS := Lib.hid (And.intro hgs (And.intro hrlt (And.intro hgd (And.intro hm2 (And.intro hdle hn1)))))
      have hm2b : m2 ≤ 100000000 := by omega
      clear hb1 hc2 hs2 D1 hgs hrlt hgd hm2 hdle hn1
      go_wp2
      go_loopg [3, 5, 6] 9 (fun gg s3 s5 s6 wi => ∃ (l' : List UInt8) (r i : Nat), i ≤ 9 ∧ gg = 9 - i ∧ s5 = .int .u32 r ∧ s6 = .int .i64 i ∧ r < 10 ^ (9 - i) ∧ OwnB wi w.heap.size s3 l' ∧ l' ++ decs (grp d r i) = X ∧ Below w.heap.size w wi ∧ Dig wi A2 m2 c2 d)
      case atStart => exact ⟨l, r0, 0, by omega, rfl, rfl, rfl, HS.out.2.1, hown, by rw [HS.out.1]; exact Hl.out, hbel, D2⟩
      case round =>
        clear hown hbel D2 hn1p
        obtain ⟨l', r, i, hi9, hgg, rfl, rfl, hr, hown, hl', hbel, D2⟩ := hrel
        by_cases h9 : i < 9
        · by_cases hg0 : grp d r i = 0
          · obtain ⟨hd0, hr0⟩ := (grp_zero_iff d r i).1 hg0
            rw [hg0] at hl'
            subst hr0
            have hm0 : m2 = 0 := by rw [← HS.out.2.2.2.1, hd0, dn_zero]
            subst hm0
            have Hl2 := Lib.hid (And.intro hl' hd0)
            clear hl' hg0 hd0 hr
            go_wp2
            go_roundg d
            case measure => exact HS.out.2.2.1
            case rel => exact ⟨l', A2, 0, c2, rfl, by omega, D2, hown, by rw [Hl2.out.2]; exact Hl2.out.1, hbel⟩
          · have hst := grp_step h9 hg0
            have hre := grp_rest h9 hr
            have hrb : r < 4294967296 := Nat.lt_of_lt_of_le hr (Nat.le_trans (Nat.pow_le_pow_right (by decide) (by omega : 9 - i ≤ 9)) (by decide))
            obtain ⟨m, hm⟩ : ∃ m, m = r % 10 := ⟨_, rfl⟩
            have em : (r : Int) % 10 = (m : Int) := by omega
            have hmb : m < 10 := by omega
            obtain ⟨q, hq⟩ : ∃ q, q = 48 + m := ⟨_, rfl⟩
            have eq4 : (48 : Int) + (m : Int) = (q : Int) := by omega
            have hqb : q < 256 := by omega
            obtain ⟨r', hr'⟩ : ∃ r', r' = r / 10 := ⟨_, rfl⟩
            have er : (r : Int) / 10 = (r' : Int) := by omega
            have hch : ((UInt8.ofNat (48 + r % 10)).toNat : Int) = (q : Int) := by rw [dig_char]; omega
            have hlen : l'.length < 1000000000 := by
              have h1 := HX.out.2.2.1
              rw [← hl', List.length_append, hst, List.length_cons] at h1
              omega
            rw [hst] at hl'
            rw [← hr'] at hl' hre
            generalize UInt8.ofNat (48 + r % 10) = C at *
            have hgo : 0 < r ∨ (¬ 0 < r ∧ 0 < m2) := by
              rcases Nat.eq_zero_or_pos r with h | h
              · right
                refine ⟨by omega, ?_⟩
                rw [← HS.out.2.2.2.1]
                exact dn_pos fun hd => hg0 ((grp_zero_iff d r i).2 ⟨hd, h⟩)
              · exact .inl h
            have hbs := hbel.size
            have Hk := Lib.hid (And.intro hl' (And.intro hre (And.intro hch (And.intro hgg hlen))))
            have HR := Lib.hid hr'
            clear hl' hre hch hgg hg0 hst hm hq hr' hr hlen
            rcases hgo with hgo | ⟨hgo, hgo2⟩
            all_goals
              go_wp2_with (at_builtin; refine wpList_append_own _ rfl _ _ 87 rfl w.heap.size 5 i0 (.int .u8 0) 1 1 Tryz.underlying87 hi hz0 hz1 hz2 rfl (by decide) _ _ _ rfl (by exact hown.alloc _) ⟨wr.heap.size, 0, none⟩ 1 1 [.int .u8 (q : Int)] rfl rfl ?c1 ?c2 ?c3 ?c4 ?c5 ?_)
              case c1 =>
                intro j u hj
                match j, hj with
                | 0, hj => simp at hj; subst hj; simp [Addr.add]
              case c2 => intro u hu; simp at hu; subst hu; rfl
              case c3 => have := Hk.out.2.2.2.2; unfold maxLen; omega
              case c4 => have := Hk.out.2.2.2.2; omega
              case c5 => simp; omega
              · intro v' w2 hown' hgrow _
                have hownA : OwnB (wr.alloc (.cells #[.int .u8 (q : Int)] 5)) w.heap.size _ l' := hown.alloc _
                have D2' := (D2.alloc (.cells #[.int .u8 (q : Int)] 5)).grown hgrow hownA.typ
                have hb2 := (hbel.alloc hbs (.cells #[.int .u8 (q : Int)] 5)).grown hgrow (by simp; omega) (fun k hk => (hown.lt k hk).1)
                rw [← Hk.out.2.2.1, map_snoc] at hown'
                have hown2 : OwnB w2 w.heap.size v' (l' ++ [C]) := by
                  have e : (l' ++ [C]).length = l'.length + 1 := by simp
                  unfold OwnB
                  rw [e]; exact hown'
                clear hown hown' hgrow hbel D2 hownA
                go_wp2
                go_roundg (9 - (i + 1))
                case measure => have := Hk.out.2.2.2.1; omega
                case rel => exact ⟨l' ++ [C], r', i + 1, by omega, rfl, by go_num, by go_num, Hk.out.2.1, hown2, by rw [List.append_assoc]; exact Hk.out.1, hb2, D2'⟩
        · have hi : i = 9 := by omega
          subst hi
          have hr0 : r = 0 := by simpa using hr
          rw [grp_nine hr] at hl'
          have Hl2 := Lib.hid hl'
          clear hl' hr hr0 hgg h9
          go_wp2
          go_roundg d
          case measure => exact HS.out.2.2.1
          case rel => exact ⟨l', A2, m2, c2, rfl, hm2b, D2, hown, Hl2.out, hbel⟩
end Go.Proofs.YtjldfclncipbgaaGreatDoor
