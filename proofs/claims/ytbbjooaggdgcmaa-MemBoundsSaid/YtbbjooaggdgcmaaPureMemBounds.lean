import Derived.Test.YtbbjooaggdgcmaaGoodMemBounds
namespace Go.Proofs.Ytbbjooaggdgcmaa.Pure
open Go.RowKit Go.Proofs.Ytbbjooaggdgcmaa.PB Go.Proofs.YtbbjooaggdgcmaaW.PrintWords
/- YOURS: def pintlelaw05_MemBounds.Pure : Prop := ∀ (x0 : S24) (a1 : Int), good_S24 x0 → (Lit.int .u8 a1).wf = true → pintlelaw05_MemBounds.f x0.f0 x0.f1 x0.f2 x0.f3 a1 = some true -/
theorem MemBounds : pintlelaw05_MemBounds.Pure := by
  intro x y h hy
  have hb : ∀ v : Int, (Lit.int .u32 v).wf = true → 0 ≤ v ∧ v < 4294967296 := fun v hv => by
    simp [Lit.wf, IntKind.min, IntKind.max, IntKind.bits, IntKind.signed] at hv
    omega
  have hb8 : ∀ v : Int, (Lit.int .u8 v).wf = true → 0 ≤ v ∧ v < 256 := fun v hv => by
    simp [Lit.wf, IntKind.min, IntKind.max, IntKind.bits, IntKind.signed] at hv
    omega
  exact if_pos ⟨hb _ h.1, hb _ h.2.1, hb _ h.2.2.1, hb _ h.2.2.2, hb8 _ hy⟩
end Go.Proofs.Ytbbjooaggdgcmaa.Pure
