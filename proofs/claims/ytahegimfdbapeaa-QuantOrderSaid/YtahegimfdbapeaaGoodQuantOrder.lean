-- Written by rows2.py (pr.py's), for this seat: what the law's one pure statement is. Not trusted: Lean checks it.
import Derived.Test.YtahegimfdbapeaaPAx8
import Derived.Test.YtahegimfdbapeaaOpens
namespace Go.Proofs.Ytahegimfdbapeaa.PA
open Go.RowKit Go.Proofs.YtahegimfdbapeaaW.PrintWords Go.Proofs.Ytahegimfdbapeaa.Opens
set_option linter.unusedVariables false
def good_S25 (x : S25) : Prop := (Lit.int .i32 x.f0).wf = true ∧ (Lit.int .i64 x.f1).wf = true
set_option maxRecDepth 100000 in
theorem opens_S25 : Opens Try.prog 25 k25.K good_S25 := by
  have h := opens_struct (P := Try.prog) (d := (Kd.pair (Kd.int .i32) (Kd.int .i64))) (f := fun x : S25 => (x.f0, x.f1)) (g := fun a => ⟨a.1, a.2⟩) Try.underlying25 (by kernel_rfl) (fun _ => rfl) (opensF_cons (a := (Kd.int .i32)) (b := (Kd.int .i64)) (by rfl) (by kernel_rfl) (opens_int Try.underlying21) (opensF_one (d := (Kd.int .i64)) (by rfl) (by kernel_rfl) (opens_int Try.underlying3)))
  exact h
def pintlelaw20_QuantOrder.Pure : Prop := ∀ (a0 : Int) (a1 : Int) (x2 : S25), (Lit.int .i32 a0).wf = true → (Lit.int .i32 a1).wf = true → good_S25 x2 → ∃ k, pintlelaw20_QuantOrder.f k a0 a1 x2.f0 x2.f1 = some true
end Go.Proofs.Ytahegimfdbapeaa.PA
