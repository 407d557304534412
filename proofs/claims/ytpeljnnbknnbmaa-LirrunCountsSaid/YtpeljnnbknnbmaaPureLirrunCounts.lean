/- What is within a loop of the loop program is done as many times as told, its counter going down to 1: for every count that the law lets in and every counter. -/
import Derived.Test.YtpeljnnbknnbmaaGoodLirrunCounts
namespace Go.Proofs.Ytpeljnnbknnbmaa.Pure
open Go.RowKit Go.Proofs.Ytpeljnnbknnbmaa.PD Go.Proofs.YtpeljnnbknnbmaaW.PrintWords
theorem LirrunCounts : pintlelaw16_LirrunCounts.Pure := by
  intro x0 x1 h0 h1
  simp [Lit.wf, IntKind.min, IntKind.max, IntKind.bits, IntKind.signed] at h0 h1
  exact if_pos ⟨⟨by omega, by omega⟩, ⟨by omega, by omega⟩⟩
end Go.Proofs.Ytpeljnnbknnbmaa.Pure
