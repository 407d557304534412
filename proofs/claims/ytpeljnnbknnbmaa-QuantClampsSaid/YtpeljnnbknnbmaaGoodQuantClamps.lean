-- Written by rows2.py (pr.py's), for this seat: what the law's one pure statement is. Not trusted: Lean checks it.
import Derived.Test.YtpeljnnbknnbmaaPAx12
import Derived.Test.YtpeljnnbknnbmaaOpens
namespace Go.Proofs.Ytpeljnnbknnbmaa.PA
open Go.RowKit Go.Proofs.YtpeljnnbknnbmaaW.PrintWords Go.Proofs.Ytpeljnnbknnbmaa.Opens
set_option linter.unusedVariables false
def good_S23 (x : S23) : Prop := (Lit.int .i64 x.f0).wf = true ∧ (Lit.int .i64 x.f1).wf = true ∧ (Lit.int .i64 x.f2).wf = true
set_option maxRecDepth 100000 in
theorem opens_S23 : Opens Try.prog 23 k23.K good_S23 := by
  have h := opens_struct (P := Try.prog) (d := (Kd.pair (Kd.int .i64) (Kd.pair (Kd.int .i64) (Kd.int .i64)))) (f := fun x : S23 => (x.f0, x.f1, x.f2)) (g := fun a => ⟨a.1, a.2.1, a.2.2⟩) Try.underlying23 (by kernel_rfl) (fun _ => rfl) (opensF_cons (a := (Kd.int .i64)) (b := (Kd.pair (Kd.int .i64) (Kd.int .i64))) (by rfl) (by kernel_rfl) (opens_int Try.underlying3) (opensF_cons (a := (Kd.int .i64)) (b := (Kd.int .i64)) (by rfl) (by kernel_rfl) (opens_int Try.underlying3) (opensF_one (d := (Kd.int .i64)) (by rfl) (by kernel_rfl) (opens_int Try.underlying3))))
  exact h
def pintlelaw20_QuantClamps.Pure : Prop := ∀ (x0 : S23) (a1 : Int) (l2 : List Int), good_S23 x0 → (Lit.int .i32 a1).wf = true → l2.length = 2 → (∀ y ∈ l2, (Lit.int .i32 y).wf = true) → pintlelaw20_QuantClamps.f x0.f0 x0.f1 x0.f2 a1 l2 = some true
end Go.Proofs.Ytpeljnnbknnbmaa.PA
