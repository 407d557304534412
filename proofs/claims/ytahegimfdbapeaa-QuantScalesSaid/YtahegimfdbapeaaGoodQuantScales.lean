-- Written by rows2.py (pr.py's), for this seat: what the law's one pure statement is. Not trusted: Lean checks it.
import Derived.Test.YtahegimfdbapeaaPAx10
import Derived.Test.YtahegimfdbapeaaOpens
namespace Go.Proofs.Ytahegimfdbapeaa.PA
open Go.RowKit Go.Proofs.YtahegimfdbapeaaW.PrintWords Go.Proofs.Ytahegimfdbapeaa.Opens
set_option linter.unusedVariables false
def good_S44 (x : S44) : Prop := (Lit.int .i64 x.f0).wf = true ∧ (Lit.int .i32 x.f1).wf = true ∧ (Lit.int .i32 x.f2).wf = true ∧ (Lit.int .i32 x.f3).wf = true
set_option maxRecDepth 100000 in
theorem opens_S44 : Opens Try.prog 44 k44.K good_S44 := by
  have h := opens_struct (P := Try.prog) (d := (Kd.pair (Kd.int .i64) (Kd.pair (Kd.int .i32) (Kd.pair (Kd.int .i32) (Kd.int .i32))))) (f := fun x : S44 => (x.f0, x.f1, x.f2, x.f3)) (g := fun a => ⟨a.1, a.2.1, a.2.2.1, a.2.2.2⟩) Try.underlying44 (by kernel_rfl) (fun _ => rfl) (opensF_cons (a := (Kd.int .i64)) (b := (Kd.pair (Kd.int .i32) (Kd.pair (Kd.int .i32) (Kd.int .i32)))) (by rfl) (by kernel_rfl) (opens_int Try.underlying3) (opensF_cons (a := (Kd.int .i32)) (b := (Kd.pair (Kd.int .i32) (Kd.int .i32))) (by rfl) (by kernel_rfl) (opens_int Try.underlying21) (opensF_cons (a := (Kd.int .i32)) (b := (Kd.int .i32)) (by rfl) (by kernel_rfl) (opens_int Try.underlying21) (opensF_one (d := (Kd.int .i32)) (by rfl) (by kernel_rfl) (opens_int Try.underlying21)))))
  exact h
def pintlelaw20_QuantScales.Pure : Prop := ∀ (a0 : Int) (a1 : Int) (x2 : S44), (Lit.int .i32 a0).wf = true → (Lit.int .i32 a1).wf = true → good_S44 x2 → ∃ k, pintlelaw20_QuantScales.f k a0 a1 x2.f0 x2.f1 x2.f2 x2.f3 = some true
end Go.Proofs.Ytahegimfdbapeaa.PA
