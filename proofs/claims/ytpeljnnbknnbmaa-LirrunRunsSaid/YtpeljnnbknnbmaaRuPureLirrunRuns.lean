import Derived.Test.YtpeljnnbknnbmaaRuGoodLirrunRuns
/- What any program does with any bytes and any fuel is what the document tells: variables, bytes, steps and traps. -/
namespace Go.Proofs.Ytpeljnnbknnbmaa.Pure
open Go.RowKit Go.Proofs.Ytpeljnnbknnbmaa.PD Go.Proofs.YtpeljnnbknnbmaaW.PrintWords
theorem LirrunRuns : pintlelaw16_LirrunRuns.Pure := by
  intro l0 l1 a2 h0 h1 h2
  have hb8 : ∀ v : Int, (Lit.int .u8 v).wf = true → 0 ≤ v ∧ v < 256 := fun v hv => by
    simp [Lit.wf, IntKind.min, IntKind.max, IntKind.bits, IntKind.signed] at hv
    omega
  have hb32 : ∀ v : Int, (Lit.int .i32 v).wf = true → -2147483648 ≤ v ∧ v ≤ 2147483647 := fun v hv => by
    simp [Lit.wf, IntKind.min, IntKind.max, IntKind.bits, IntKind.signed] at hv
    omega
  have hb64 : ∀ v : Int, (Lit.int .i64 v).wf = true → -9223372036854775808 ≤ v ∧ v < 9223372036854775808 := fun v hv => by
    simp [Lit.wf, IntKind.min, IntKind.max, IntKind.bits, IntKind.signed] at hv
    omega
  exact if_pos ⟨by have := h0.1; omega, fun x hx => hb8 _ (h1.2.2 x hx), fun y hy => hb32 _ (h0.2.2 y hy).2.2.2.2, (hb64 _ h2).1, (hb64 _ h2).2⟩
end Go.Proofs.Ytpeljnnbknnbmaa.Pure
