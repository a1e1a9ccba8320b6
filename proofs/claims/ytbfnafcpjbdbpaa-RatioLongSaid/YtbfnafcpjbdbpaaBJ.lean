/- The walks over the reference's numbers of layer 2: made, Of; over dyad.Make, the reference's Make and Of. -/
import Derived.Test.YtbfnafcpjbdbpaaB7
import Derived.Test.YtbfnafcpjbdbpaaBA
namespace Go.Proofs.Ytbfnafcpjbdbpaa
open Go Go.RowKit Go.PlainAid Fil

theorem run_backS (w : World) (g x : Nat) (h : w.rowIs g 5 (Fil.dn 8 x) (fun i => b8 x (Fil.dn 8 x - 1 - i))) (c : Nat) :
    (convert 47 9 (.slice (some ⟨g, 0, none⟩) (Fil.dn 8 x) c)).run Try.prog w = .ok (.string (bstr x)) w := by
  have := run_convert_bytes_back (P := Try.prog) w 47 9 5 ⟨g, 0, none⟩ c (bs x) Try.underlying47 Try.underlying5 Try.underlying9 (fun j hj => by
    have hj' : j < Fil.dn 8 x := by rw [bs_length] at hj; exact hj
    have h1 := h.cell hj'
    have e : (Addr.add ⟨g, 0, none⟩ j) = ⟨g, j, none⟩ := by unfold Addr.add; split <;> simp_all
    rw [e, h1, bs_get]; rfl)
  rw [bs_length] at this
  exact this

end Go.Proofs.Ytbfnafcpjbdbpaa
