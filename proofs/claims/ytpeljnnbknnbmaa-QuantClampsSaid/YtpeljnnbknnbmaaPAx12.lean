-- Written by pr.py, a driver around the kit's printer, for this seat. Not trusted: Lean checks it.
import Derived.Test.YtpeljnnbknnbmaaPAx0
import Derived.Test.YtpeljnnbknnbmaaR9
namespace Go.Proofs.Ytpeljnnbknnbmaa.PA
open Go.RowKit Go.Proofs.YtpeljnnbknnbmaaW.PrintWords Go.Proofs.YtpeljnnbknnbmaaW.PrintLast Go.Proofs.YtpeljnnbknnbmaaW.PrintMore
attribute [local go_sem] max2_int min2_int max_two min_two max_three min_three max_four min_four   -- for this text's walks alone
set_option linter.unusedVariables false
set_option linter.unusedSimpArgs false

--BREAK @N@R9
/-! ### pintlelaw20_QuantClamps: function 4 -/
def pintlelaw20_QuantClamps.f (D A T n : Int) (l2 : List Int) : Option Bool := if -9223372036854775808 ≤ T ∧ T ≤ 9223372036854775807 then some true else none
theorem pintlelaw20_QuantClamps.calls (D A T n : Int) (l2 : List Int) (r : Bool) (w : World) (hl2 : l2.length = 2) (h : pintlelaw20_QuantClamps.f D A T n l2 = some r) :
    Calls Try.prog 4 #[.agg #[.int .i64 D, .int .i64 A, .int .i64 T], .int .i32 n, .agg (l2.map (Value.int .i32)).toArray] w fun e w' => e = .returned (.bool r) ∧ Below w.heap.size w w' := by
  unfold pintlelaw20_QuantClamps.f at h
  split at h
  case isTrue hb =>
    obtain rfl := Option.some.inj h
    match l2, hl2 with
    | [lo, hi], _ => exact quantClamps_calls D A T n lo hi hb w
  case isFalse => exact nomatch h

end Go.Proofs.Ytpeljnnbknnbmaa.PA
