-- Written by pr.py, a driver around the kit's printer, for this seat. Not trusted: Lean checks it.
import Derived.Test.YtpeljnnbknnbmaaPDx0
import Derived.Test.YtpeljnnbknnbmaaN12
namespace Go.Proofs.Ytpeljnnbknnbmaa.PD
open Go.RowKit Go.Proofs.YtpeljnnbknnbmaaW.PrintWords Go.Proofs.YtpeljnnbknnbmaaW.PrintLast Go.Proofs.YtpeljnnbknnbmaaW.PrintMore
attribute [local go_sem] max2_int min2_int max_two min_two max_three min_three max_four min_four   -- for this text's walks alone
set_option linter.unusedVariables false
set_option linter.unusedSimpArgs false

--BREAK @N@N12
/-! ### pintlelaw16_LirrunCounts: function 7 -/
def pintlelaw16_LirrunCounts.f (many d : Int) : Option Bool := if (0 ≤ many ∧ many ≤ 65535) ∧ (0 ≤ d ∧ d ≤ 255) then some true else none
theorem pintlelaw16_LirrunCounts.calls (many d : Int) (r : Bool) (w : World) (h : pintlelaw16_LirrunCounts.f many d = some r) :
    Calls Try.prog 7 #[.int .u16 many, .int .u8 d] w fun e w' => e = .returned (.bool r) ∧ Below w.heap.size w w' := by
  unfold pintlelaw16_LirrunCounts.f at h
  split at h
  case isTrue hb =>
    obtain rfl := Option.some.inj h
    exact counts_calls many d hb.1.1 hb.1.2 hb.2.1 hb.2.2 w
  case isFalse => exact nomatch h

end Go.Proofs.Ytpeljnnbknnbmaa.PD
