/-
  No cell of these rows narrows 'for every input' (looked for: loops, veiled, ifaces, maps, wideKeys, modest, calm, conditions, laid).
  DERIVED. THE GIVEN ROWS OF THIS SEAT. 4 by the template 'for every input the law returns true; each argument reads behind the call as it read before'; 0 by the template 'total and deterministic' (their statements: YtahegimfdbapeaaTotals.lean).
  GIVEN WITH THE SEED: the statements are not yours to turn. If you find one false, say at which input.
  Laid BY PROGRAM, IN A SANDBOX (cutbox-rows.mjs): the forced cells as the released guide's own fill.sh prints them over the translation d723a0525133bd21… (all of the seat's roots in one cut). By AI agents, Wed Nov 11 2026. No macro, syntax, notation, axiom, sorry.
-/
import Derived.Test.YtahegimfdbapeaaChecked
import GoSem.Claim
import GoSem.ClaimJoined
import GoSem.ClaimMapViews
import Derived.JoinedTies
import Derived.KernelRfl
namespace Go.Proofs.Ytahegimfdbapeaa
/- THE CELL 'sum', in the pinned program and in every row, IS THE sha256 OF THE DUMP (.gsa) THAT YtahegimfdbapeaaProg.lean LOADS. Nothing in Lean hashes anything: it is a label: what it is worth is what the hold of that sum in a sandbox is worth. -/
noncomputable def Try.pinned : Pinned := { name := "ytahegimfdbapeaa", sum := "d723a0525133bd21bb3c38b9a245d8abbf70b7f68a47b785930b40f54106d8a0", checked := Try.checked }
namespace Rows
def none {H : Type} : Left H := { results := [], args := [] }

/-- 'pintlelaw20.QuantSteps': WHATEVER THE INPUT: true; the input reads as it did. -/
def quantStepsSpec : ChangeSpec := { name := "quantSteps", fn := fun _ => fun
  | [d1, d2, d3] => { results := [.lit (.bool true)], args := [d1, d2, d3] }
  | _ => none }
def quantStepsRow : OpenClaim := { program := "ytahegimfdbapeaa", sum := "d723a0525133bd21bb3c38b9a245d8abbf70b7f68a47b785930b40f54106d8a0", func := "pintle/pintlelaw20.QuantSteps", spec := "quantSteps", recurses := true, apart := false }
def QuantStepsSaid : Prop := quantStepsRow.holds Try.pinned (OpenSpec.ofChange quantStepsSpec)

/-- ITS FALSE NEIGHBOUR: 'it returns false'. Refute it at one input. -/
def quantStepsWrong : ChangeSpec := { name := "quantSteps", fn := fun _ => fun
  | [d1, d2, d3] => { results := [.lit (.bool false)], args := [d1, d2, d3] }
  | _ => none }
def QuantStepsWrongFalsely : Prop := quantStepsRow.holds Try.pinned (OpenSpec.ofChange quantStepsWrong)

/-- 'pintlelaw20.QuantOrder': WHATEVER THE INPUT: true; the input reads as it did. -/
def quantOrderSpec : ChangeSpec := { name := "quantOrder", fn := fun _ => fun
  | [d1, d2, d3] => { results := [.lit (.bool true)], args := [d1, d2, d3] }
  | _ => none }
def quantOrderRow : OpenClaim := { program := "ytahegimfdbapeaa", sum := "d723a0525133bd21bb3c38b9a245d8abbf70b7f68a47b785930b40f54106d8a0", func := "pintle/pintlelaw20.QuantOrder", spec := "quantOrder", apart := false }
def QuantOrderSaid : Prop := quantOrderRow.holds Try.pinned (OpenSpec.ofChange quantOrderSpec)

/-- ITS FALSE NEIGHBOUR: 'it returns false'. Refute it at one input. -/
def quantOrderWrong : ChangeSpec := { name := "quantOrder", fn := fun _ => fun
  | [d1, d2, d3] => { results := [.lit (.bool false)], args := [d1, d2, d3] }
  | _ => none }
def QuantOrderWrongFalsely : Prop := quantOrderRow.holds Try.pinned (OpenSpec.ofChange quantOrderWrong)

/-- 'pintlelaw20.QuantClamps': WHATEVER THE INPUT: true; the input reads as it did. -/
def quantClampsSpec : ChangeSpec := { name := "quantClamps", fn := fun _ => fun
  | [d1, d2, d3] => { results := [.lit (.bool true)], args := [d1, d2, d3] }
  | _ => none }
def quantClampsRow : OpenClaim := { program := "ytahegimfdbapeaa", sum := "d723a0525133bd21bb3c38b9a245d8abbf70b7f68a47b785930b40f54106d8a0", func := "pintle/pintlelaw20.QuantClamps", spec := "quantClamps", recurses := true, apart := false }
def QuantClampsSaid : Prop := quantClampsRow.holds Try.pinned (OpenSpec.ofChange quantClampsSpec)

/-- ITS FALSE NEIGHBOUR: 'it returns false'. Refute it at one input. -/
def quantClampsWrong : ChangeSpec := { name := "quantClamps", fn := fun _ => fun
  | [d1, d2, d3] => { results := [.lit (.bool false)], args := [d1, d2, d3] }
  | _ => none }
def QuantClampsWrongFalsely : Prop := quantClampsRow.holds Try.pinned (OpenSpec.ofChange quantClampsWrong)

/-- 'pintlelaw20.QuantScales': WHATEVER THE INPUT: true; the input reads as it did. -/
def quantScalesSpec : ChangeSpec := { name := "quantScales", fn := fun _ => fun
  | [d1, d2, d3] => { results := [.lit (.bool true)], args := [d1, d2, d3] }
  | _ => none }
def quantScalesRow : OpenClaim := { program := "ytahegimfdbapeaa", sum := "d723a0525133bd21bb3c38b9a245d8abbf70b7f68a47b785930b40f54106d8a0", func := "pintle/pintlelaw20.QuantScales", spec := "quantScales", apart := false }
def QuantScalesSaid : Prop := quantScalesRow.holds Try.pinned (OpenSpec.ofChange quantScalesSpec)

/-- ITS FALSE NEIGHBOUR: 'it returns false'. Refute it at one input. -/
def quantScalesWrong : ChangeSpec := { name := "quantScales", fn := fun _ => fun
  | [d1, d2, d3] => { results := [.lit (.bool false)], args := [d1, d2, d3] }
  | _ => none }
def QuantScalesWrongFalsely : Prop := quantScalesRow.holds Try.pinned (OpenSpec.ofChange quantScalesWrong)

/- THE SECOND FORM. 'bulk': how many values and letters a reading holds, each counted each time it is reached (what is shared counts as often as it is met; a slice's spare places count too). A statement '..UptoSaid' is the law's where the arguments, and the package variables that the reading takes, are together of bulk at most 1048576: NARROWER than '..Said'. Prove '..Said' where nothing that the law and all that it calls make is longer than what came in: it says more and counts as full. Else prove '..UptoSaid'. A law counts once. -/
mutual
def uptoBulk {H : Type} : DataW H → Nat
  | .lit (.string bytes) => bytes.length + 1
  | .lit _ => 1
  | .nil => 1
  | .ptr d => uptoBulk d + 1
  | .slice elems spare => uptoBulkAll elems + uptoBulkAll spare + 1
  | .agg parts => uptoBulkAll parts + 1
  | .iface _ d => uptoBulk d + 1
  | .map entries => uptoBulkEntries entries + 1
  | .held _ => 1
def uptoBulkAll {H : Type} : List (DataW H) → Nat
  | [] => 0
  | d :: r => uptoBulk d + uptoBulkAll r
def uptoBulkEntries {H : Type} : List (Lit × DataW H) → Nat
  | [] => 0
  | x :: r => uptoBulkEntry x + uptoBulkEntries r
def uptoBulkEntry {H : Type} : Lit × DataW H → Nat
  | (.string bytes, d) => bytes.length + uptoBulk d + 1
  | (_, d) => uptoBulk d + 1
 end
def uptoSmall : (H : Type) → List (DataW H) → Bool := fun _ ds => decide (uptoBulkAll ds ≤ 1048576)
def OpenSpec.upto (s : _root_.Go.ChangeSpec) : _root_.Go.OpenSpec := { _root_.Go.OpenSpec.ofChange s with cond := some uptoSmall }

/-- 'pintlelaw20.QuantSteps', WHERE WHAT IT READS IS OF BULK AT MOST 1048576: true; the input reads as it did. -/
def quantStepsUptoRow : OpenClaim := { program := "ytahegimfdbapeaa", sum := "d723a0525133bd21bb3c38b9a245d8abbf70b7f68a47b785930b40f54106d8a0", func := "pintle/pintlelaw20.QuantSteps", spec := "quantSteps", recurses := true, apart := false, narrowed := true }
def QuantStepsUptoSaid : Prop := quantStepsUptoRow.holds Try.pinned (OpenSpec.upto quantStepsSpec)

/-- 'pintlelaw20.QuantOrder', WHERE WHAT IT READS IS OF BULK AT MOST 1048576: true; the input reads as it did. -/
def quantOrderUptoRow : OpenClaim := { program := "ytahegimfdbapeaa", sum := "d723a0525133bd21bb3c38b9a245d8abbf70b7f68a47b785930b40f54106d8a0", func := "pintle/pintlelaw20.QuantOrder", spec := "quantOrder", apart := false, narrowed := true }
def QuantOrderUptoSaid : Prop := quantOrderUptoRow.holds Try.pinned (OpenSpec.upto quantOrderSpec)

/-- 'pintlelaw20.QuantClamps', WHERE WHAT IT READS IS OF BULK AT MOST 1048576: true; the input reads as it did. -/
def quantClampsUptoRow : OpenClaim := { program := "ytahegimfdbapeaa", sum := "d723a0525133bd21bb3c38b9a245d8abbf70b7f68a47b785930b40f54106d8a0", func := "pintle/pintlelaw20.QuantClamps", spec := "quantClamps", recurses := true, apart := false, narrowed := true }
def QuantClampsUptoSaid : Prop := quantClampsUptoRow.holds Try.pinned (OpenSpec.upto quantClampsSpec)

/-- 'pintlelaw20.QuantScales', WHERE WHAT IT READS IS OF BULK AT MOST 1048576: true; the input reads as it did. -/
def quantScalesUptoRow : OpenClaim := { program := "ytahegimfdbapeaa", sum := "d723a0525133bd21bb3c38b9a245d8abbf70b7f68a47b785930b40f54106d8a0", func := "pintle/pintlelaw20.QuantScales", spec := "quantScales", apart := false, narrowed := true }
def QuantScalesUptoSaid : Prop := quantScalesUptoRow.holds Try.pinned (OpenSpec.upto quantScalesSpec)

end Rows
end Go.Proofs.Ytahegimfdbapeaa
