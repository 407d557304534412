-- Written by rows2.py (pr.py's), for this seat: what the law's one pure statement is. Not trusted: Lean checks it.
import Derived.Test.YtbbjooaggdgcmaaPBx12
import Derived.Test.YtbbjooaggdgcmaaOpens
namespace Go.Proofs.Ytbbjooaggdgcmaa.PB
open Go.RowKit Go.Proofs.YtbbjooaggdgcmaaW.PrintWords Go.Proofs.Ytbbjooaggdgcmaa.Opens
set_option linter.unusedVariables false
def good_S24 (x : S24) : Prop := (Lit.int .u32 x.f0).wf = true ∧ (Lit.int .u32 x.f1).wf = true ∧ (Lit.int .u32 x.f2).wf = true ∧ (Lit.int .u32 x.f3).wf = true
set_option maxRecDepth 100000 in
theorem opens_S24 : Opens Try.prog 24 k24.K good_S24 := by
  have h := opens_struct (P := Try.prog) (d := (Kd.pair (Kd.int .u32) (Kd.pair (Kd.int .u32) (Kd.pair (Kd.int .u32) (Kd.int .u32))))) (f := fun x : S24 => (x.f0, x.f1, x.f2, x.f3)) (g := fun a => ⟨a.1, a.2.1, a.2.2.1, a.2.2.2⟩) Try.underlying24 (by kernel_rfl) (fun _ => rfl) (opensF_cons (a := (Kd.int .u32)) (b := (Kd.pair (Kd.int .u32) (Kd.pair (Kd.int .u32) (Kd.int .u32)))) (by rfl) (by kernel_rfl) (opens_int Try.underlying22) (opensF_cons (a := (Kd.int .u32)) (b := (Kd.pair (Kd.int .u32) (Kd.int .u32))) (by rfl) (by kernel_rfl) (opens_int Try.underlying22) (opensF_cons (a := (Kd.int .u32)) (b := (Kd.int .u32)) (by rfl) (by kernel_rfl) (opens_int Try.underlying22) (opensF_one (d := (Kd.int .u32)) (by rfl) (by kernel_rfl) (opens_int Try.underlying22)))))
  exact h
def pintlelaw05_MemBounds.Pure : Prop := ∀ (x0 : S24) (a1 : Int), good_S24 x0 → (Lit.int .u8 a1).wf = true → pintlelaw05_MemBounds.f x0.f0 x0.f1 x0.f2 x0.f3 a1 = some true
end Go.Proofs.Ytbbjooaggdgcmaa.PB
