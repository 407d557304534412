import Derived.Test.YtpeljnnbknnbmaaMaGoodLirrunMany
/- Where neither of two runs of one program stops at the memory, they do as many steps: for every program and every two memories. -/
namespace Go.Proofs.Ytpeljnnbknnbmaa.Pure
open Go.RowKit Go.Proofs.Ytpeljnnbknnbmaa.PD Go.Proofs.YtpeljnnbknnbmaaW.PrintWords
theorem LirrunMany : pintlelaw16_LirrunMany.Pure := by
  intro l0 l1 l2 h0 h1 h2
  have hb8 : ∀ v : Int, (Lit.int .u8 v).wf = true → 0 ≤ v ∧ v < 256 := fun v hv => by
    simp [Lit.wf, IntKind.min, IntKind.max, IntKind.bits, IntKind.signed] at hv
    omega
  exact if_pos ⟨by have := h0.1; omega, fun x hx => hb8 _ (h1.2.2 x hx), fun x hx => hb8 _ (h2.2.2 x hx)⟩
end Go.Proofs.Ytpeljnnbknnbmaa.Pure
