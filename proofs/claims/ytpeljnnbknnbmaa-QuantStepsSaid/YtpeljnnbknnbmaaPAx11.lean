-- Written by pr.py, a driver around the kit's printer, for this seat. Not trusted: Lean checks it.
import Derived.Test.YtpeljnnbknnbmaaPAx0
import Derived.Test.YtpeljnnbknnbmaaR9
namespace Go.Proofs.Ytpeljnnbknnbmaa.PA
open Go.RowKit Go.Proofs.YtpeljnnbknnbmaaW.PrintWords Go.Proofs.YtpeljnnbknnbmaaW.PrintLast Go.Proofs.YtpeljnnbknnbmaaW.PrintMore
attribute [local go_sem] max2_int min2_int max_two min_two max_three min_three max_four min_four   -- for this text's walks alone
set_option linter.unusedVariables false
set_option linter.unusedSimpArgs false

--BREAK @N@R9
/-! ### pintlelaw20_QuantSteps: function 3 -/
def pintlelaw20_QuantSteps.f (D A T n m s : Int) : Option Bool := if (-9223372036854775808 ≤ T ∧ T ≤ 9223372036854775807) ∧ (-2147483648 ≤ n ∧ n ≤ 2147483647) ∧ (-2147483648 ≤ m ∧ m ≤ 2147483647) then some true else none
theorem pintlelaw20_QuantSteps.calls (D A T n m s : Int) (r : Bool) (w : World) (h : pintlelaw20_QuantSteps.f D A T n m s = some r) :
    Calls Try.prog 3 #[.agg #[.int .i64 D, .int .i64 A, .int .i64 T], .int .i32 n, .agg #[.int .i32 m, .int .i64 s]] w fun e w' => e = .returned (.bool r) ∧ Below w.heap.size w w' := by
  unfold pintlelaw20_QuantSteps.f at h
  split at h
  case isTrue hb =>
    obtain rfl := Option.some.inj h
    exact quantSteps_calls D A T n m s hb.1 hb.2.1 hb.2.2 w
  case isFalse => exact nomatch h

end Go.Proofs.Ytpeljnnbknnbmaa.PA
