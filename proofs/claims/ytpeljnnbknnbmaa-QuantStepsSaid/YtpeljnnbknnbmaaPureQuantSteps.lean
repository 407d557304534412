/- The steps that are told let a variable be another one, scaled, and change no other one: for all variables, numbers, multipliers and shifts. -/
import Derived.Test.YtpeljnnbknnbmaaGoodQuantSteps
namespace Go.Proofs.Ytpeljnnbknnbmaa.Pure
open Go.RowKit Go.Proofs.Ytpeljnnbknnbmaa.PA Go.Proofs.YtpeljnnbknnbmaaW.PrintWords
theorem QuantSteps : pintlelaw20_QuantSteps.Pure := by
  intro x0 n x2 h0 hn h2
  have hb : ∀ v : Int, (Lit.int .i32 v).wf = true → -2147483648 ≤ v ∧ v ≤ 2147483647 := fun v hv => by
    simp [Lit.wf, IntKind.min, IntKind.max, IntKind.bits, IntKind.signed] at hv
    omega
  have hb64 : ∀ v : Int, (Lit.int .i64 v).wf = true → -9223372036854775808 ≤ v ∧ v ≤ 9223372036854775807 := fun v hv => by
    simp [Lit.wf, IntKind.min, IntKind.max, IntKind.bits, IntKind.signed] at hv
    omega
  exact if_pos ⟨hb64 _ h0.2.2, hb _ hn, hb _ h2.1⟩
end Go.Proofs.Ytpeljnnbknnbmaa.Pure
