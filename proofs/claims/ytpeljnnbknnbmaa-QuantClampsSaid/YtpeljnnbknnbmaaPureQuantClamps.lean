/- The steps that are told let a variable be within bounds, and change no other one: for all variables, numbers and bounds. -/
import Derived.Test.YtpeljnnbknnbmaaGoodQuantClamps
namespace Go.Proofs.Ytpeljnnbknnbmaa.Pure
open Go.RowKit Go.Proofs.Ytpeljnnbknnbmaa.PA Go.Proofs.YtpeljnnbknnbmaaW.PrintWords
theorem QuantClamps : pintlelaw20_QuantClamps.Pure := by
  intro x0 n l2 h0 hn hl h2
  have hb64 : ∀ v : Int, (Lit.int .i64 v).wf = true → -9223372036854775808 ≤ v ∧ v ≤ 9223372036854775807 := fun v hv => by
    simp [Lit.wf, IntKind.min, IntKind.max, IntKind.bits, IntKind.signed] at hv
    omega
  exact if_pos (hb64 _ h0.2.2)
end Go.Proofs.Ytpeljnnbknnbmaa.Pure
