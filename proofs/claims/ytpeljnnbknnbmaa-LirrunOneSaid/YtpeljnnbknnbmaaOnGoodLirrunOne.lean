import Derived.Test.YtpeljnnbknnbmaaOnPDx26
import Derived.Test.YtpeljnnbknnbmaaOnOpens
-- Written by rows2.py (pr.py's), for this seat: what the law's one pure statement is. Not trusted: Lean checks it.
namespace Go.Proofs.Ytpeljnnbknnbmaa.PD
open Go.RowKit Go.Proofs.YtpeljnnbknnbmaaW.PrintWords Go.Proofs.Ytpeljnnbknnbmaa.Opens
set_option linter.unusedVariables false
def good_S49 (x : S49) : Prop := (Lit.int .i64 x.f0).wf = true ∧ (Lit.int .i64 x.f1).wf = true ∧ (Lit.int .i64 x.f2).wf = true ∧ (Lit.int .i64 x.f3).wf = true ∧ (Lit.int .i32 x.f4).wf = true
set_option maxRecDepth 100000 in
theorem opens_S49 : Opens Try.prog 49 k49.K good_S49 := by
  have h := opens_struct (P := Try.prog) (d := (Kd.pair (Kd.int .i64) (Kd.pair (Kd.int .i64) (Kd.pair (Kd.int .i64) (Kd.pair (Kd.int .i64) (Kd.int .i32)))))) (f := fun x : S49 => (x.f0, x.f1, x.f2, x.f3, x.f4)) (g := fun a => ⟨a.1, a.2.1, a.2.2.1, a.2.2.2.1, a.2.2.2.2⟩) Try.underlying49 (by kernel_rfl) (fun _ => rfl) (opensF_cons (a := (Kd.int .i64)) (b := (Kd.pair (Kd.int .i64) (Kd.pair (Kd.int .i64) (Kd.pair (Kd.int .i64) (Kd.int .i32))))) (by rfl) (by kernel_rfl) (opens_int Try.underlying3) (opensF_cons (a := (Kd.int .i64)) (b := (Kd.pair (Kd.int .i64) (Kd.pair (Kd.int .i64) (Kd.int .i32)))) (by rfl) (by kernel_rfl) (opens_int Try.underlying3) (opensF_cons (a := (Kd.int .i64)) (b := (Kd.pair (Kd.int .i64) (Kd.int .i32))) (by rfl) (by kernel_rfl) (opens_int Try.underlying3) (opensF_cons (a := (Kd.int .i64)) (b := (Kd.int .i32)) (by rfl) (by kernel_rfl) (opens_int Try.underlying3) (opensF_one (d := (Kd.int .i32)) (by rfl) (by kernel_rfl) (opens_int Try.underlying21))))))
  exact h
def pintlelaw16_LirrunOne.Pure : Prop := ∀ (x0 : S49) (a1 : Int) (a2 : Int), good_S49 x0 → (Lit.int .u32 a1).wf = true → (Lit.int .u32 a2).wf = true → pintlelaw16_LirrunOne.f x0.f0 x0.f1 x0.f2 x0.f3 x0.f4 a1 a2 = some true
end Go.Proofs.Ytpeljnnbknnbmaa.PD
