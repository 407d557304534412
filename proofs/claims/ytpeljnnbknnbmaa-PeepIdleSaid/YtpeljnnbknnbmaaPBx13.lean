-- Written by pr.py, a driver around the kit's printer, for this seat. Not trusted: Lean checks it.
import Derived.Test.YtpeljnnbknnbmaaPBx0
import Derived.Test.YtpeljnnbknnbmaaT5
import Derived.Test.YtpeljnnbknnbmaaM8
namespace Go.Proofs.Ytpeljnnbknnbmaa.PB
open Go.RowKit Go.Proofs.YtpeljnnbknnbmaaW.PrintWords Go.Proofs.YtpeljnnbknnbmaaW.PrintLast Go.Proofs.YtpeljnnbknnbmaaW.PrintMore
attribute [local go_sem] max2_int min2_int max_two min_two max_three min_three max_four min_four   -- for this text's walks alone
set_option linter.unusedVariables false
set_option linter.unusedSimpArgs false

--BREAK @N@T5,@N@M8
/-! ### pintlelaw39_PeepIdle: function 6 -/
def pintlelaw39_PeepIdle.f (o d a b i : Int) : Option Bool := if -2147483648 ≤ i ∧ i ≤ 2147483647 then some true else none
theorem pintlelaw39_PeepIdle.calls (o d a b i : Int) (r : Bool) (w : World) (h : pintlelaw39_PeepIdle.f o d a b i = some r) :
    Calls Try.prog 6 #[.agg #[.int .i64 o, .int .i64 d, .int .i64 a, .int .i64 b, .int .i32 i]] w fun e w' => e = .returned (.bool r) ∧ Below w.heap.size w w' := by
  unfold pintlelaw39_PeepIdle.f at h
  split at h
  case isTrue hb =>
    obtain rfl := Option.some.inj h
    exact peepidle_calls ⟨o, d, a, b, i⟩ (idleV o d a b i) w 2 1 (Idle_eq 0 o d a b i) (refidle_eq 0 o d a b i hb)
  case isFalse => exact nomatch h

end Go.Proofs.Ytpeljnnbknnbmaa.PB
