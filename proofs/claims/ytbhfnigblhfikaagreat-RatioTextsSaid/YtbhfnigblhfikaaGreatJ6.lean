/- The walks over wide's digits: over at any divisor, common. -/
import Derived.Test.YtbhfnigblhfikaaGreatJ4
namespace Go.Proofs.YtbhfnigblhfikaaGreat
open Go Go.RowKit Fil

theorem dn_le1 {y : Nat} (h : dn 32 y = 1) : y < 4294967296 ∧ dg 32 y 0 = y := by
  have h1 := lt_dn (k := 32) (by omega) y
  rw [h] at h1
  refine ⟨h1, ?_⟩
  unfold dg; simp; omega
set_option maxRecDepth 100000 in
set_option maxHeartbeats 2000000 in
theorem over_less (A B : Option Addr) (n c x m d y : Nat) (w : World) (ha : Dig w A n c x) (hb : Dig w B m d y) (hc : n ≤ 1099511627000) (hd : m ≤ 4398046511104) (hxy : x < y) :
    Calls Tryz.prog 91 #[.slice A n c, .slice B m d] w fun e w' => OverR w w' x y e := by
  have hcmp := fun W (hA : Slc W 97 A n (d32 x)) (hB : Slc W 97 B m (d32 y)) => cmp_any A B n c x m d y W ha.1 hb.1 (by omega) (by omega) hA hB
  rw [cmpZ_lt hxy] at hcmp
  have Ha := Lib.hid ha
  have hsa := ha.2.2
  have hsb := hb.2.2
  clear ha hb
  go_enter Tryz.func91, Tryz.ntmps91
  go_wp2_with fail
  refine (hcmp _ hsa hsb).mono ?_
  rintro e w' ⟨rfl, k0, rfl⟩
  clear hcmp hsa hsb
  go_wp2
  have e1 : x / y = 0 := Nat.div_eq_of_lt hxy
  have e2 : x % y = x := Nat.mod_eq_of_lt hxy
  have hn := Ha.out.1
  exact bodyPost_ret (v := .tuple #[.slice none 0 0, .slice A n c]) (by simp [results, Tryz.results91, go_sem]) rfl
    ⟨none, 0, A, c, by rw [e1, e2, dn_zero, ← hn], by rw [e1, dn_zero]; exact Dig.nil _ _, by rw [e2, ← hn]; exact Ha.out.drewN k0, Below.drewN' (Below.refl _ _) k0⟩

set_option maxRecDepth 100000 in
set_option maxHeartbeats 2000000 in
theorem over_one (A B : Option Addr) (n c x d y : Nat) (w : World) (ha : Dig w A n c x) (hb : Dig w B 1 d y) (hc : n ≤ 1099511627000) (hy : y ≠ 0) (hyx : y ≤ x) :
    Calls Tryz.prog 91 #[.slice A n c, .slice B 1 d] w fun e w' => OverR w w' x y e := by
  obtain ⟨hy1, hy2⟩ := dn_le1 hb.1.symm
  have hcmp := fun W (hA : Slc W 97 A n (d32 x)) (hB : Slc W 97 B 1 (d32 y)) => cmp_any A B n c x 1 d y W ha.1 hb.1 (by omega) (by omega) hA hB
  have tcmp := cmpZ_not_lt hyx
  generalize cmpZ x y = z at *
  have hsh := fun W (hA : Slc W 97 A n (d32 x)) => short_any A n c x y W ha.1 (by omega) (Nat.pos_of_ne_zero hy) hy1 hA
  have hsa := ha.2.2
  have hsb := hb.2.2
  obtain ⟨b2, o2, rfl, _, hc2⟩ := hsb.cell (by omega)
  have k0 := hc2 0 (by omega)
  simp only [d32, hy2, Nat.add_zero] at k0
  have hrl : x % y < 2 ^ (32 * 1) := Nat.lt_trans (Nat.mod_lt _ (Nat.pos_of_ne_zero hy)) hy1
  have hct := fun W B (h : Slc W 97 (some ⟨B, 0, none⟩) 1 (d32 (x % y))) => cut_any (some ⟨B, 0, none⟩) 1 1 (x % y) W hrl (Nat.le_refl _) (by omega) h
  have hle := dn_le (k := 32) (by omega) hrl
  obtain ⟨r, hr⟩ : ∃ r, r = x % y := ⟨_, rfl⟩
  obtain ⟨q, hq⟩ : ∃ q, q = x / y := ⟨_, rfl⟩
  rw [← hr] at hsh hct hle hrl
  rw [← hq] at hsh
  have hr0 : dg 32 r 0 = r := by unfold dg; simp at hrl ⊢; omega
  have Hq := Lib.hid (And.intro hq hr)
  clear ha hb hc2 hq hr hy2 hrl hy hyx
  go_enter Tryz.func91, Tryz.ntmps91
  go_wp2_with fail
  refine (hcmp _ hsa hsb).mono ?_
  rintro e w' ⟨rfl, k9, rfl⟩
  clear hcmp
  go_wp2_with fail
  refine (hsh _ (hsa.drewN k9)).mono ?_
  rintro e w1 ⟨Aq, cq, rfl, hcq, hsq, hb1⟩
  clear hsh hsa hsb k0
  go_wp2_with fail
  refine (hct _ _ (fun _ => ?_)).mono ?_
  · refine ⟨w1.heap.size, 0, _, _, rfl, heap_alloc_new w1 _, fun j hj => ?_⟩
    obtain rfl : j = 0 := by omega
    rw [d32, hr0]; rfl
  rintro e w2 ⟨rfl, rfl⟩
  clear hct
  go_wp2_with fail
  have hs1 : Slc (w1.alloc (.cells #[.int .u32 (r : Int)] 97)) 97 (some ⟨w1.heap.size, 0, none⟩) 1 (d32 r) := fun _ => ⟨w1.heap.size, 0, _, _, rfl, heap_alloc_new w1 _, fun j hj => by
    obtain rfl : j = 0 := by omega
    rw [d32, hr0]; rfl⟩
  exact bodyPost_ret (v := .tuple #[.slice Aq (dn 32 q) cq, .slice (some ⟨w1.heap.size, 0, none⟩) (dn 32 r) 1]) (by simp [results, Tryz.results91, go_sem]) rfl
    ⟨_, _, _, _, by rw [← Hq.out.1, ← Hq.out.2], by rw [← Hq.out.1]; exact ⟨rfl, hcq, hsq.alloc _⟩, by rw [← Hq.out.2]; exact ⟨rfl, hle, hs1.le hle⟩, (Below.drewN_left hb1).alloc (by exact hb1.size) _⟩

theorem over_any (A B : Option Addr) (n c x m d y : Nat) (w : World) (ha : Dig w A n c x) (hb : Dig w B m d y) (hc : n ≤ 1099511627000) (hd : m ≤ 1099511627000) (hy : y ≠ 0) :
    Calls Tryz.prog 91 #[.slice A n c, .slice B m d] w fun e w' => OverR w w' x y e := by
  by_cases hxy : x < y
  · exact over_less A B n c x m d y w ha hb hc (by omega) hxy
  have hm : m ≠ 0 := by rw [hb.1]; exact fun h => hy (dn_eq_zero.1 h)
  by_cases h1 : m = 1
  · subst h1; exact over_one A B n c x d y w ha hb hc hy (by omega)
  · obtain ⟨p, rfl⟩ : ∃ p, m = p + 2 := ⟨m - 2, by omega⟩
    exact over_long A B n c x p d y w ha hb hc (by omega)

set_option maxHeartbeats 2000000 in
theorem common_any (A B : Option Addr) (n c x m d y : Nat) (w : World) (ha : Dig w A n c x) (hb : Dig w B m d y) (hc : n ≤ 1099511627000) (hd : m ≤ 1099511627000) :
    Calls Tryz.prog 84 #[.slice A n c, .slice B m d] w fun e w' => ∃ A' c', e = .returned (.slice A' (dn 32 (Nat.gcd x y)) c') ∧ Dig w' A' (dn 32 (Nat.gcd x y)) c' (Nat.gcd x y) ∧ Below w.heap.size w w' := by
  obtain ⟨G, hG⟩ : ∃ G, G = Nat.gcd x y := ⟨_, rfl⟩
  rw [← hG]
  have HG := Lib.hid hG
  clear hG
  go_enter Tryz.func84, Tryz.ntmps84
  go_wp2
  go_loopg [0, 1] y (fun g s0 s1 wr => ∃ (A1 : Option Addr) (n1 c1 x1 : Nat) (B1 : Option Addr) (m1 d1 : Nat), s0 = .slice A1 n1 c1 ∧ s1 = .slice B1 m1 d1 ∧ Dig wr A1 n1 c1 x1 ∧ Dig wr B1 m1 d1 g ∧ n1 ≤ 1099511627000 ∧ m1 ≤ 1099511627000 ∧ Nat.gcd x1 g = G ∧ Below w.heap.size w wr)
  case atStart => exact ⟨A, n, c, x, B, m, d, rfl, rfl, ha, hb, hc, hd, HG.out.symm, Below.refl _ _⟩
  case round =>
    clear ha hb hc hd
    obtain ⟨A1, n1, c1, x1, B1, m1, d1, rfl, rfl, h1, h2, hn1, hm1, hg, hbel⟩ := hrel
    have Hg := Lib.hid hg
    clear hg
    by_cases h0 : gk = 0
    · subst h0
      have hm0 : m1 = 0 := by rw [h2.1, dn_zero]
      subst hm0
      have hx := Hg.out
      rw [Nat.gcd_zero_right] at hx
      subst hx
      have hn := Lib.hid h1.1
      clear h2
      go_wp2
      go_ret
      exact ⟨A1, c1, by rw [← hn.out]; rfl, by rw [← hn.out]; exact h1, hbel⟩
    · have hm0 : 0 < m1 := by rw [h2.1]; exact dn_pos h0
      have hov := fun W => over_any A1 B1 n1 c1 x1 m1 d1 gk W
      have H0 := Lib.hid h0
      clear h0
      go_wp2_with fail
      refine (hov _ h1 h2 hn1 hm1 H0.out).mono ?_
      rintro e w' ⟨Aq, cq, Ar, cr, rfl, hq, hr, hb'⟩
      have h2' := h2.below hb'
      have hbel' := hbel.trans (hb'.mono hbel.size)
      have hmle : dn 32 (x1 % gk) ≤ m1 := by rw [h2.1]; exact dn_mono (by omega) (Nat.le_of_lt (Nat.mod_lt _ (Nat.pos_of_ne_zero H0.out)))
      clear hov h1 h2 hbel hb' hq
      go_wp2
      go_roundg (x1 % gk)
      case measure => exact Nat.mod_lt _ (Nat.pos_of_ne_zero H0.out)
      case rel => exact ⟨B1, m1, d1, gk, Ar, _, cr, rfl, rfl, h2', hr, hm1, by omega, by rw [Nat.gcd_comm, ← Nat.gcd_rec, Nat.gcd_comm]; exact Hg.out, hbel'⟩
end Go.Proofs.YtbhfnigblhfikaaGreat
