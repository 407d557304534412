import Derived.Test.YtbbjooaggdgcmaaGoodMemNone
namespace Go.Proofs.Ytbbjooaggdgcmaa.Pure
open Go.RowKit Go.Proofs.Ytbbjooaggdgcmaa.PA Go.Proofs.YtbbjooaggdgcmaaW.PrintWords
/- YOURS: def pintlelaw05_MemNone.Pure : Prop := ∀ (x0 : S45), good_S45 x0 → pintlelaw05_MemNone.f x0.f0 x0.f1 x0.f2 x0.f3 x0.f4 = some true -/
theorem MemNone : pintlelaw05_MemNone.Pure := by
  intro _ _
  rfl
end Go.Proofs.Ytbbjooaggdgcmaa.Pure
