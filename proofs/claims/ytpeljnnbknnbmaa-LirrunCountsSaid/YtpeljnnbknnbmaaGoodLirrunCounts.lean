-- Written by rows2.py (pr.py's), for this seat: what the law's one pure statement is. Not trusted: Lean checks it.
import Derived.Test.YtpeljnnbknnbmaaPDx12
import Derived.Test.YtpeljnnbknnbmaaOpens
namespace Go.Proofs.Ytpeljnnbknnbmaa.PD
open Go.RowKit Go.Proofs.YtpeljnnbknnbmaaW.PrintWords Go.Proofs.Ytpeljnnbknnbmaa.Opens
set_option linter.unusedVariables false
def pintlelaw16_LirrunCounts.Pure : Prop := ∀ (a0 : Int) (a1 : Int), (Lit.int .u16 a0).wf = true → (Lit.int .u8 a1).wf = true → pintlelaw16_LirrunCounts.f a0 a1 = some true
end Go.Proofs.Ytpeljnnbknnbmaa.PD
