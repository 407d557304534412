/- Which steps do nothing: of every step the program's answer is the document's. -/
import Derived.Test.YtpeljnnbknnbmaaGoodPeepIdle
namespace Go.Proofs.Ytpeljnnbknnbmaa.Pure
open Go.RowKit Go.Proofs.Ytpeljnnbknnbmaa.PB Go.Proofs.YtpeljnnbknnbmaaW.PrintWords
theorem PeepIdle : pintlelaw39_PeepIdle.Pure := by
  intro x0 h0
  have hb : ∀ v : Int, (Lit.int .i32 v).wf = true → -2147483648 ≤ v ∧ v ≤ 2147483647 := fun v hv => by
    simp [Lit.wf, IntKind.min, IntKind.max, IntKind.bits, IntKind.signed] at hv
    omega
  exact if_pos (hb _ h0.2.2.2.2)
end Go.Proofs.Ytpeljnnbknnbmaa.Pure
