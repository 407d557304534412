import Derived.Test.YtbbjooaggdgcmaaGoodMemTargets
namespace Go.Proofs.Ytbbjooaggdgcmaa.Pure
open Go.RowKit Go.Proofs.Ytbbjooaggdgcmaa.PA Go.Proofs.YtbbjooaggdgcmaaW.PrintWords
/- YOURS: def pintlelaw05_MemTargets.Pure : Prop := ∀ (x0 : S24), good_S24 x0 → pintlelaw05_MemTargets.f x0.f0 x0.f1 x0.f2 x0.f3 = some true -/
theorem MemTargets : pintlelaw05_MemTargets.Pure := by
  intro x h
  have hb : ∀ v : Int, (Lit.int .u32 v).wf = true → 0 ≤ v ∧ v < 4294967296 := fun v hv => by
    simp [Lit.wf, IntKind.min, IntKind.max, IntKind.bits, IntKind.signed] at hv
    omega
  exact if_pos ⟨hb _ h.1, hb _ h.2.1, hb _ h.2.2.1, hb _ h.2.2.2⟩
end Go.Proofs.Ytbbjooaggdgcmaa.Pure
