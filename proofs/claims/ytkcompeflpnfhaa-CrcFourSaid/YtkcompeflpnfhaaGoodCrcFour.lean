-- Written by rows2.py (pr.py's), for this seat: what the law's one pure statement is. Not trusted: Lean checks it.
import Derived.Test.YtkcompeflpnfhaaPAx7
import Derived.Test.YtkcompeflpnfhaaOpens
namespace Go.Proofs.Ytkcompeflpnfhaa.PA
open Go.RowKit Go.Proofs.YtkcompeflpnfhaaW.PrintWords Go.Proofs.Ytkcompeflpnfhaa.Opens
set_option linter.unusedVariables false
def pintlelaw08_CrcFour.Pure : Prop := ∀ (l0 : List Int) (a1 : Int) (l2 : List Int), (l0.length * 1 ≤ 140737488351232 ∧ l0.length ≤ maxLen ∧ ∀ y ∈ l0, (Lit.int .u8 y).wf = true) → (Lit.int .i64 a1).wf = true → l2.length = 4 → (∀ y ∈ l2, (Lit.int .u8 y).wf = true) → pintlelaw08_CrcFour.f l0 a1 l2 = some true
end Go.Proofs.Ytkcompeflpnfhaa.PA
