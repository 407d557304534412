import Derived.Test.YtpeljnnbknnbmaaOnPDx0
import Derived.Test.YtpeljnnbknnbmaaOnN8
import Derived.Outline
namespace Go.Proofs.Ytpeljnnbknnbmaa.PD
open Go.RowKit Go.Proofs.YtpeljnnbknnbmaaW.PrintWords Go.Proofs.YtpeljnnbknnbmaaW.PrintLast Go.Proofs.YtpeljnnbknnbmaaW.PrintMore
set_option linter.unusedVariables false
set_option linter.unusedSimpArgs false
section
variable {c n : Int}
end
theorem rd_at {V : List Int} (d : Nat) (x : Int) (hd : d < V.length) : rd (V.set d x) (d : Int) = x := by rw [rd_set V d x d hd, if_pos rfl]
theorem rd_far {V : List Int} (d j : Nat) (x : Int) (hd : d < V.length) (h : d ≠ j) : rd (V.set d x) (j : Int) = rd V (j : Int) := by rw [rd_set V d x j hd, if_neg h]
end Go.Proofs.Ytpeljnnbknnbmaa.PD
