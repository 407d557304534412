import Derived.Test.YtpeljnnbknnbmaaOnGoodLirrunOne
/- What any single step does with any two numbers is what the document tells: variables, bytes, steps and traps. -/
namespace Go.Proofs.Ytpeljnnbknnbmaa.Pure
open Go.RowKit Go.Proofs.Ytpeljnnbknnbmaa.PD Go.Proofs.YtpeljnnbknnbmaaW.PrintWords
theorem LirrunOne : pintlelaw16_LirrunOne.Pure := by
  intro x0 a1 a2 h0 h1 h2
  have hb32 : ∀ v : Int, (Lit.int .i32 v).wf = true → -2147483648 ≤ v ∧ v ≤ 2147483647 := fun v hv => by
    simp [Lit.wf, IntKind.min, IntKind.max, IntKind.bits, IntKind.signed] at hv
    omega
  have hbu : ∀ v : Int, (Lit.int .u32 v).wf = true → 0 ≤ v ∧ v < 4294967296 := fun v hv => by
    simp [Lit.wf, IntKind.min, IntKind.max, IntKind.bits, IntKind.signed] at hv
    omega
  exact if_pos ⟨hb32 _ h0.2.2.2.2, hbu _ h1, hbu _ h2⟩
end Go.Proofs.Ytpeljnnbknnbmaa.Pure
