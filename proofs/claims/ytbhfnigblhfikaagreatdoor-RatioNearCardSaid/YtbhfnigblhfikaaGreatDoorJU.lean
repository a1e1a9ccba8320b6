/- What split tells, in plain Lean; Rat.SetInt. -/
import Derived.Test.YtbhfnigblhfikaaGreatDoorJT
import Derived.Test.YtbhfnigblhfikaaGreatDoorJR
import Derived.Test.YtbhfnigblhfikaaGreatDoorJN
namespace Go.Proofs.YtbhfnigblhfikaaGreatDoor
open Go Go.RowKit Go.PlainAid Fil

/-- what is known of a decimal that split has told -/
structure DcmOk (s : ByteArray) (d : Dcm) : Prop where
  head : goodL d.head.data.toList
  tail : allDec d.tail.data.toList
  power : d.power.size = 0 ∧ d.down = false ∨ goodL d.power.data.toList
  sizes : d.head.size + d.tail.size ≤ s.size
  psize : d.power.size ≤ s.size
theorem ksplit_as (s : ByteArray) (dn dd : Bool) (H T Q : ByteArray) (ok : Bool) (w : World) (h1 : s.size ≤ 1000000) (h : SP s = (⟨dn, dd, H, T, Q⟩, ok)) :
    Calls Tryz.prog 80 #[.string s] w fun e w' => e = .returned (.tuple #[.agg #[.bool dn, .bool dd, .string H, .string T, .string Q], .bool ok]) ∧ Below w.heap.size w w' := by
  have hk := ksplit_any s w h1
  rw [h] at hk
  exact hk
set_option maxHeartbeats 1000000 in
theorem ratsetint_any (b b1 : Nat) (p : Int) (w : World) (hr : RRoom w b) (h1 : IntAt w b1 0 p) (n1 : b1 ≠ b) (sp : Fil.dn 32 p.natAbs ≤ 1099511627000) :
    Calls Tryz.prog 76 #[.pointer (some ⟨b, 0, none⟩), .pointer (some ⟨b1, 0, none⟩)] w fun e w' => e = .returned (.pointer (some ⟨b, 0, none⟩)) ∧ RatAt w' b (Rat.divInt p 1) ∧ Far w w' b := by
  have hn := fun W b2 a b' c n2 => norm_any b b1 0 b2 0 p 1 W a b' c n1 n2 (by decide) sp (by decide)
  have Hr := Lib.hid (And.intro hr h1)
  have lb := hr.lt
  clear n1 sp hr h1
  go_enter Tryz.func76, Tryz.ntmps76
  go_wp2_with fail
  refine (newint_any 1 w (by decide) (by decide)).mono ?_
  rintro r w1 ⟨rfl, I, hB⟩
  have R := Hr.out.1.below hB
  have J := Hr.out.2.below hB
  have HF := Lib.hid hB
  clear hB
  go_wp2_with fail
  refine (hn _ _ R J I (by omega)).mono ?_
  rintro r w2 ⟨rfl, Q, hF⟩
  clear hn R J I
  go_wp2
  go_ret
  exact ⟨rfl, Q, Far.after HF.out hF Hr.out.1⟩
end Go.Proofs.YtbhfnigblhfikaaGreatDoor
