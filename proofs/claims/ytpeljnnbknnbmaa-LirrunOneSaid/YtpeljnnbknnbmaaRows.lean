/-
  No cell of these rows narrows 'for every input' (looked for: loops, veiled, ifaces, maps, wideKeys, modest, calm, conditions, laid).
  DERIVED. THE GIVEN ROWS OF THIS SEAT. 10 by the template 'for every input the law returns true; each argument reads behind the call as it read before'; 0 by the template 'total and deterministic' (their statements: YtpeljnnbknnbmaaTotals.lean).
  GIVEN WITH THE SEED: the statements are not yours to turn. If you find one false, say at which input.
  Laid BY PROGRAM, IN A SANDBOX (cutbox-rows.mjs): the forced cells as the released guide's own fill.sh prints them over the translation 3b6a939cce59dffe… (all of the seat's roots in one cut). By AI agents, Wed Nov 11 2026. No macro, syntax, notation, axiom, sorry.
-/
import Derived.Test.YtpeljnnbknnbmaaChecked
import GoSem.Claim
import GoSem.ClaimJoined
import GoSem.ClaimMapViews
import Derived.JoinedTies
import Derived.KernelRfl
namespace Go.Proofs.Ytpeljnnbknnbmaa
/- THE CELL 'sum', in the pinned program and in every row, IS THE sha256 OF THE DUMP (.gsa) THAT YtpeljnnbknnbmaaProg.lean LOADS. Nothing in Lean hashes anything: it is a label: what it is worth is what the hold of that sum in a sandbox is worth. -/
noncomputable def Try.pinned : Pinned := { name := "ytpeljnnbknnbmaa", sum := "3b6a939cce59dffebfac07e07e681bcb5022f9199d530cf3695c7383561385eb", checked := Try.checked }
namespace Rows
def none {H : Type} : Left H := { results := [], args := [] }

/-- 'pintlelaw20.QuantSteps': WHATEVER THE INPUT: true; the input reads as it did. -/
def quantStepsSpec : ChangeSpec := { name := "quantSteps", fn := fun _ => fun
  | [d1, d2, d3] => { results := [.lit (.bool true)], args := [d1, d2, d3] }
  | _ => none }
def quantStepsRow : OpenClaim := { program := "ytpeljnnbknnbmaa", sum := "3b6a939cce59dffebfac07e07e681bcb5022f9199d530cf3695c7383561385eb", func := "pintle/pintlelaw20.QuantSteps", spec := "quantSteps", recurses := true, apart := false }
def QuantStepsSaid : Prop := quantStepsRow.holds Try.pinned (OpenSpec.ofChange quantStepsSpec)

/-- ITS FALSE NEIGHBOUR: 'it returns false'. Refute it at one input. -/
def quantStepsWrong : ChangeSpec := { name := "quantSteps", fn := fun _ => fun
  | [d1, d2, d3] => { results := [.lit (.bool false)], args := [d1, d2, d3] }
  | _ => none }
def QuantStepsWrongFalsely : Prop := quantStepsRow.holds Try.pinned (OpenSpec.ofChange quantStepsWrong)

/-- 'pintlelaw20.QuantClamps': WHATEVER THE INPUT: true; the input reads as it did. -/
def quantClampsSpec : ChangeSpec := { name := "quantClamps", fn := fun _ => fun
  | [d1, d2, d3] => { results := [.lit (.bool true)], args := [d1, d2, d3] }
  | _ => none }
def quantClampsRow : OpenClaim := { program := "ytpeljnnbknnbmaa", sum := "3b6a939cce59dffebfac07e07e681bcb5022f9199d530cf3695c7383561385eb", func := "pintle/pintlelaw20.QuantClamps", spec := "quantClamps", recurses := true, apart := false }
def QuantClampsSaid : Prop := quantClampsRow.holds Try.pinned (OpenSpec.ofChange quantClampsSpec)

/-- ITS FALSE NEIGHBOUR: 'it returns false'. Refute it at one input. -/
def quantClampsWrong : ChangeSpec := { name := "quantClamps", fn := fun _ => fun
  | [d1, d2, d3] => { results := [.lit (.bool false)], args := [d1, d2, d3] }
  | _ => none }
def QuantClampsWrongFalsely : Prop := quantClampsRow.holds Try.pinned (OpenSpec.ofChange quantClampsWrong)

/-- 'pintlelaw39.PeepOnce': WHATEVER THE INPUT: true; the input reads as it did. -/
def peepOnceSpec : ChangeSpec := { name := "peepOnce", fn := fun _ => fun
  | [d] => { results := [.lit (.bool true)], args := [d] }
  | _ => none }
def peepOnceRow : OpenClaim := { program := "ytpeljnnbknnbmaa", sum := "3b6a939cce59dffebfac07e07e681bcb5022f9199d530cf3695c7383561385eb", func := "pintle/pintlelaw39.PeepOnce", spec := "peepOnce", recurses := true, apart := false }
def PeepOnceSaid : Prop := peepOnceRow.holds Try.pinned (OpenSpec.ofChange peepOnceSpec)

/-- ITS FALSE NEIGHBOUR: 'it returns false'. Refute it at one input. -/
def peepOnceWrong : ChangeSpec := { name := "peepOnce", fn := fun _ => fun
  | [d] => { results := [.lit (.bool false)], args := [d] }
  | _ => none }
def PeepOnceWrongFalsely : Prop := peepOnceRow.holds Try.pinned (OpenSpec.ofChange peepOnceWrong)

/-- 'pintlelaw39.PeepIdle': WHATEVER THE INPUT: true; the input reads as it did. -/
def peepIdleSpec : ChangeSpec := { name := "peepIdle", fn := fun _ => fun
  | [d] => { results := [.lit (.bool true)], args := [d] }
  | _ => none }
def peepIdleRow : OpenClaim := { program := "ytpeljnnbknnbmaa", sum := "3b6a939cce59dffebfac07e07e681bcb5022f9199d530cf3695c7383561385eb", func := "pintle/pintlelaw39.PeepIdle", spec := "peepIdle", recurses := true, apart := false }
def PeepIdleSaid : Prop := peepIdleRow.holds Try.pinned (OpenSpec.ofChange peepIdleSpec)

/-- ITS FALSE NEIGHBOUR: 'it returns false'. Refute it at one input. -/
def peepIdleWrong : ChangeSpec := { name := "peepIdle", fn := fun _ => fun
  | [d] => { results := [.lit (.bool false)], args := [d] }
  | _ => none }
def PeepIdleWrongFalsely : Prop := peepIdleRow.holds Try.pinned (OpenSpec.ofChange peepIdleWrong)

/-- 'pintlelaw16.LirrunCounts': WHATEVER THE INPUT: true; the input reads as it did. -/
def lirrunCountsSpec : ChangeSpec := { name := "lirrunCounts", fn := fun _ => fun
  | [d1, d2] => { results := [.lit (.bool true)], args := [d1, d2] }
  | _ => none }
def lirrunCountsRow : OpenClaim := { program := "ytpeljnnbknnbmaa", sum := "3b6a939cce59dffebfac07e07e681bcb5022f9199d530cf3695c7383561385eb", func := "pintle/pintlelaw16.LirrunCounts", spec := "lirrunCounts", apart := false }
def LirrunCountsSaid : Prop := lirrunCountsRow.holds Try.pinned (OpenSpec.ofChange lirrunCountsSpec)

/-- ITS FALSE NEIGHBOUR: 'it returns false'. Refute it at one input. -/
def lirrunCountsWrong : ChangeSpec := { name := "lirrunCounts", fn := fun _ => fun
  | [d1, d2] => { results := [.lit (.bool false)], args := [d1, d2] }
  | _ => none }
def LirrunCountsWrongFalsely : Prop := lirrunCountsRow.holds Try.pinned (OpenSpec.ofChange lirrunCountsWrong)

/-- 'pintlelaw16.LirrunRuns': WHATEVER THE INPUT: true; the input reads as it did. -/
def lirrunRunsSpec : ChangeSpec := { name := "lirrunRuns", fn := fun _ => fun
  | [d1, d2, d3] => { results := [.lit (.bool true)], args := [d1, d2, d3] }
  | _ => none }
def lirrunRunsRow : OpenClaim := { program := "ytpeljnnbknnbmaa", sum := "3b6a939cce59dffebfac07e07e681bcb5022f9199d530cf3695c7383561385eb", func := "pintle/pintlelaw16.LirrunRuns", spec := "lirrunRuns", recurses := true, apart := false }
def LirrunRunsSaid : Prop := lirrunRunsRow.holds Try.pinned (OpenSpec.ofChange lirrunRunsSpec)

/-- ITS FALSE NEIGHBOUR: 'it returns false'. Refute it at one input. -/
def lirrunRunsWrong : ChangeSpec := { name := "lirrunRuns", fn := fun _ => fun
  | [d1, d2, d3] => { results := [.lit (.bool false)], args := [d1, d2, d3] }
  | _ => none }
def LirrunRunsWrongFalsely : Prop := lirrunRunsRow.holds Try.pinned (OpenSpec.ofChange lirrunRunsWrong)

/-- 'pintlelaw16.LirrunOne': WHATEVER THE INPUT: true; the input reads as it did. -/
def lirrunOneSpec : ChangeSpec := { name := "lirrunOne", fn := fun _ => fun
  | [d1, d2, d3] => { results := [.lit (.bool true)], args := [d1, d2, d3] }
  | _ => none }
def lirrunOneRow : OpenClaim := { program := "ytpeljnnbknnbmaa", sum := "3b6a939cce59dffebfac07e07e681bcb5022f9199d530cf3695c7383561385eb", func := "pintle/pintlelaw16.LirrunOne", spec := "lirrunOne", recurses := true, apart := false }
def LirrunOneSaid : Prop := lirrunOneRow.holds Try.pinned (OpenSpec.ofChange lirrunOneSpec)

/-- ITS FALSE NEIGHBOUR: 'it returns false'. Refute it at one input. -/
def lirrunOneWrong : ChangeSpec := { name := "lirrunOne", fn := fun _ => fun
  | [d1, d2, d3] => { results := [.lit (.bool false)], args := [d1, d2, d3] }
  | _ => none }
def LirrunOneWrongFalsely : Prop := lirrunOneRow.holds Try.pinned (OpenSpec.ofChange lirrunOneWrong)

/-- 'pintlelaw16.LirrunMany': WHATEVER THE INPUT: true; the input reads as it did. -/
def lirrunManySpec : ChangeSpec := { name := "lirrunMany", fn := fun _ => fun
  | [d1, d2, d3] => { results := [.lit (.bool true)], args := [d1, d2, d3] }
  | _ => none }
def lirrunManyRow : OpenClaim := { program := "ytpeljnnbknnbmaa", sum := "3b6a939cce59dffebfac07e07e681bcb5022f9199d530cf3695c7383561385eb", func := "pintle/pintlelaw16.LirrunMany", spec := "lirrunMany", apart := false }
def LirrunManySaid : Prop := lirrunManyRow.holds Try.pinned (OpenSpec.ofChange lirrunManySpec)

/-- ITS FALSE NEIGHBOUR: 'it returns false'. Refute it at one input. -/
def lirrunManyWrong : ChangeSpec := { name := "lirrunMany", fn := fun _ => fun
  | [d1, d2, d3] => { results := [.lit (.bool false)], args := [d1, d2, d3] }
  | _ => none }
def LirrunManyWrongFalsely : Prop := lirrunManyRow.holds Try.pinned (OpenSpec.ofChange lirrunManyWrong)

/-- 'pintlelaw20.QuantRuns': WHATEVER THE INPUT: true; the input reads as it did. -/
def quantRunsSpec : ChangeSpec := { name := "quantRuns", fn := fun _ => fun
  | [d1, d2, d3] => { results := [.lit (.bool true)], args := [d1, d2, d3] }
  | _ => none }
def quantRunsRow : OpenClaim := { program := "ytpeljnnbknnbmaa", sum := "3b6a939cce59dffebfac07e07e681bcb5022f9199d530cf3695c7383561385eb", func := "pintle/pintlelaw20.QuantRuns", spec := "quantRuns", apart := false }
def QuantRunsSaid : Prop := quantRunsRow.holds Try.pinned (OpenSpec.ofChange quantRunsSpec)

/-- ITS FALSE NEIGHBOUR: 'it returns false'. Refute it at one input. -/
def quantRunsWrong : ChangeSpec := { name := "quantRuns", fn := fun _ => fun
  | [d1, d2, d3] => { results := [.lit (.bool false)], args := [d1, d2, d3] }
  | _ => none }
def QuantRunsWrongFalsely : Prop := quantRunsRow.holds Try.pinned (OpenSpec.ofChange quantRunsWrong)

/-- 'pintlelaw39.PeepSame': WHATEVER THE INPUT: true; the input reads as it did. -/
def peepSameSpec : ChangeSpec := { name := "peepSame", fn := fun _ => fun
  | [d1, d2] => { results := [.lit (.bool true)], args := [d1, d2] }
  | _ => none }
def peepSameRow : OpenClaim := { program := "ytpeljnnbknnbmaa", sum := "3b6a939cce59dffebfac07e07e681bcb5022f9199d530cf3695c7383561385eb", func := "pintle/pintlelaw39.PeepSame", spec := "peepSame", recurses := true, apart := false }
def PeepSameSaid : Prop := peepSameRow.holds Try.pinned (OpenSpec.ofChange peepSameSpec)

/-- ITS FALSE NEIGHBOUR: 'it returns false'. Refute it at one input. -/
def peepSameWrong : ChangeSpec := { name := "peepSame", fn := fun _ => fun
  | [d1, d2] => { results := [.lit (.bool false)], args := [d1, d2] }
  | _ => none }
def PeepSameWrongFalsely : Prop := peepSameRow.holds Try.pinned (OpenSpec.ofChange peepSameWrong)

/- THE SECOND FORM. 'bulk': how many values and letters a reading holds, each counted each time it is reached (what is shared counts as often as it is met; a slice's spare places count too). A statement '..UptoSaid' is the law's where the arguments, and the package variables that the reading takes, are together of bulk at most 1048576: NARROWER than '..Said'. Prove '..Said' where nothing that the law and all that it calls make is longer than what came in: it says more and counts as full. Else prove '..UptoSaid'. A law counts once. -/
mutual
def uptoBulk {H : Type} : DataW H → Nat
  | .lit (.string bytes) => bytes.length + 1
  | .lit _ => 1
  | .nil => 1
  | .ptr d => uptoBulk d + 1
  | .slice elems spare => uptoBulkAll elems + uptoBulkAll spare + 1
  | .agg parts => uptoBulkAll parts + 1
  | .iface _ d => uptoBulk d + 1
  | .map entries => uptoBulkEntries entries + 1
  | .held _ => 1
def uptoBulkAll {H : Type} : List (DataW H) → Nat
  | [] => 0
  | d :: r => uptoBulk d + uptoBulkAll r
def uptoBulkEntries {H : Type} : List (Lit × DataW H) → Nat
  | [] => 0
  | x :: r => uptoBulkEntry x + uptoBulkEntries r
def uptoBulkEntry {H : Type} : Lit × DataW H → Nat
  | (.string bytes, d) => bytes.length + uptoBulk d + 1
  | (_, d) => uptoBulk d + 1
 end
def uptoSmall : (H : Type) → List (DataW H) → Bool := fun _ ds => decide (uptoBulkAll ds ≤ 1048576)
def OpenSpec.upto (s : _root_.Go.ChangeSpec) : _root_.Go.OpenSpec := { _root_.Go.OpenSpec.ofChange s with cond := some uptoSmall }

/-- 'pintlelaw20.QuantSteps', WHERE WHAT IT READS IS OF BULK AT MOST 1048576: true; the input reads as it did. -/
def quantStepsUptoRow : OpenClaim := { program := "ytpeljnnbknnbmaa", sum := "3b6a939cce59dffebfac07e07e681bcb5022f9199d530cf3695c7383561385eb", func := "pintle/pintlelaw20.QuantSteps", spec := "quantSteps", recurses := true, apart := false, narrowed := true }
def QuantStepsUptoSaid : Prop := quantStepsUptoRow.holds Try.pinned (OpenSpec.upto quantStepsSpec)

/-- 'pintlelaw20.QuantClamps', WHERE WHAT IT READS IS OF BULK AT MOST 1048576: true; the input reads as it did. -/
def quantClampsUptoRow : OpenClaim := { program := "ytpeljnnbknnbmaa", sum := "3b6a939cce59dffebfac07e07e681bcb5022f9199d530cf3695c7383561385eb", func := "pintle/pintlelaw20.QuantClamps", spec := "quantClamps", recurses := true, apart := false, narrowed := true }
def QuantClampsUptoSaid : Prop := quantClampsUptoRow.holds Try.pinned (OpenSpec.upto quantClampsSpec)

/-- 'pintlelaw39.PeepOnce', WHERE WHAT IT READS IS OF BULK AT MOST 1048576: true; the input reads as it did. -/
def peepOnceUptoRow : OpenClaim := { program := "ytpeljnnbknnbmaa", sum := "3b6a939cce59dffebfac07e07e681bcb5022f9199d530cf3695c7383561385eb", func := "pintle/pintlelaw39.PeepOnce", spec := "peepOnce", recurses := true, apart := false, narrowed := true }
def PeepOnceUptoSaid : Prop := peepOnceUptoRow.holds Try.pinned (OpenSpec.upto peepOnceSpec)

/-- 'pintlelaw39.PeepIdle', WHERE WHAT IT READS IS OF BULK AT MOST 1048576: true; the input reads as it did. -/
def peepIdleUptoRow : OpenClaim := { program := "ytpeljnnbknnbmaa", sum := "3b6a939cce59dffebfac07e07e681bcb5022f9199d530cf3695c7383561385eb", func := "pintle/pintlelaw39.PeepIdle", spec := "peepIdle", recurses := true, apart := false, narrowed := true }
def PeepIdleUptoSaid : Prop := peepIdleUptoRow.holds Try.pinned (OpenSpec.upto peepIdleSpec)

/-- 'pintlelaw16.LirrunCounts', WHERE WHAT IT READS IS OF BULK AT MOST 1048576: true; the input reads as it did. -/
def lirrunCountsUptoRow : OpenClaim := { program := "ytpeljnnbknnbmaa", sum := "3b6a939cce59dffebfac07e07e681bcb5022f9199d530cf3695c7383561385eb", func := "pintle/pintlelaw16.LirrunCounts", spec := "lirrunCounts", apart := false, narrowed := true }
def LirrunCountsUptoSaid : Prop := lirrunCountsUptoRow.holds Try.pinned (OpenSpec.upto lirrunCountsSpec)

/-- 'pintlelaw16.LirrunRuns', WHERE WHAT IT READS IS OF BULK AT MOST 1048576: true; the input reads as it did. -/
def lirrunRunsUptoRow : OpenClaim := { program := "ytpeljnnbknnbmaa", sum := "3b6a939cce59dffebfac07e07e681bcb5022f9199d530cf3695c7383561385eb", func := "pintle/pintlelaw16.LirrunRuns", spec := "lirrunRuns", recurses := true, apart := false, narrowed := true }
def LirrunRunsUptoSaid : Prop := lirrunRunsUptoRow.holds Try.pinned (OpenSpec.upto lirrunRunsSpec)

/-- 'pintlelaw16.LirrunOne', WHERE WHAT IT READS IS OF BULK AT MOST 1048576: true; the input reads as it did. -/
def lirrunOneUptoRow : OpenClaim := { program := "ytpeljnnbknnbmaa", sum := "3b6a939cce59dffebfac07e07e681bcb5022f9199d530cf3695c7383561385eb", func := "pintle/pintlelaw16.LirrunOne", spec := "lirrunOne", recurses := true, apart := false, narrowed := true }
def LirrunOneUptoSaid : Prop := lirrunOneUptoRow.holds Try.pinned (OpenSpec.upto lirrunOneSpec)

/-- 'pintlelaw16.LirrunMany', WHERE WHAT IT READS IS OF BULK AT MOST 1048576: true; the input reads as it did. -/
def lirrunManyUptoRow : OpenClaim := { program := "ytpeljnnbknnbmaa", sum := "3b6a939cce59dffebfac07e07e681bcb5022f9199d530cf3695c7383561385eb", func := "pintle/pintlelaw16.LirrunMany", spec := "lirrunMany", apart := false, narrowed := true }
def LirrunManyUptoSaid : Prop := lirrunManyUptoRow.holds Try.pinned (OpenSpec.upto lirrunManySpec)

/-- 'pintlelaw20.QuantRuns', WHERE WHAT IT READS IS OF BULK AT MOST 1048576: true; the input reads as it did. -/
def quantRunsUptoRow : OpenClaim := { program := "ytpeljnnbknnbmaa", sum := "3b6a939cce59dffebfac07e07e681bcb5022f9199d530cf3695c7383561385eb", func := "pintle/pintlelaw20.QuantRuns", spec := "quantRuns", apart := false, narrowed := true }
def QuantRunsUptoSaid : Prop := quantRunsUptoRow.holds Try.pinned (OpenSpec.upto quantRunsSpec)

/-- 'pintlelaw39.PeepSame', WHERE WHAT IT READS IS OF BULK AT MOST 1048576: true; the input reads as it did. -/
def peepSameUptoRow : OpenClaim := { program := "ytpeljnnbknnbmaa", sum := "3b6a939cce59dffebfac07e07e681bcb5022f9199d530cf3695c7383561385eb", func := "pintle/pintlelaw39.PeepSame", spec := "peepSame", recurses := true, apart := false, narrowed := true }
def PeepSameUptoSaid : Prop := peepSameUptoRow.holds Try.pinned (OpenSpec.upto peepSameSpec)

end Rows
end Go.Proofs.Ytpeljnnbknnbmaa
