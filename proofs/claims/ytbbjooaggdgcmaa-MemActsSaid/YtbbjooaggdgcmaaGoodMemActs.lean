-- Written by rows2.py (pr.py's), for this seat: what the law's one pure statement is. Not trusted: Lean checks it.
import Derived.Test.YtbbjooaggdgcmaaPCx20
import Derived.Test.YtbbjooaggdgcmaaOpens
namespace Go.Proofs.Ytbbjooaggdgcmaa.PC
open Go.RowKit Go.Proofs.YtbbjooaggdgcmaaW.PrintWords Go.Proofs.Ytbbjooaggdgcmaa.Opens
set_option linter.unusedVariables false
def good_S45 (x : S45) : Prop := (Lit.int .i64 x.f0).wf = true ∧ (Lit.int .i64 x.f1).wf = true ∧ (Lit.int .u32 x.f2).wf = true ∧ (Lit.int .u32 x.f3).wf = true ∧ (x.f4.length * 1 ≤ 140737488351232 ∧ x.f4.length ≤ maxLen ∧ ∀ y ∈ x.f4, (Lit.int .u8 y).wf = true)
set_option maxRecDepth 100000 in
theorem opens_S45 : Opens Try.prog 45 k45.K good_S45 := by
  have h := opens_struct (P := Try.prog) (d := (Kd.pair (Kd.int .i64) (Kd.pair (Kd.int .i64) (Kd.pair (Kd.int .u32) (Kd.pair (Kd.int .u32) (Kd.slice 5 (Kd.int .u8))))))) (f := fun x : S45 => (x.f0, x.f1, x.f2, x.f3, x.f4)) (g := fun a => ⟨a.1, a.2.1, a.2.2.1, a.2.2.2.1, a.2.2.2.2⟩) Try.underlying45 (by kernel_rfl) (fun _ => rfl) (opensF_cons (a := (Kd.int .i64)) (b := (Kd.pair (Kd.int .i64) (Kd.pair (Kd.int .u32) (Kd.pair (Kd.int .u32) (Kd.slice 5 (Kd.int .u8)))))) (by rfl) (by kernel_rfl) (opens_int Try.underlying3) (opensF_cons (a := (Kd.int .i64)) (b := (Kd.pair (Kd.int .u32) (Kd.pair (Kd.int .u32) (Kd.slice 5 (Kd.int .u8))))) (by rfl) (by kernel_rfl) (opens_int Try.underlying3) (opensF_cons (a := (Kd.int .u32)) (b := (Kd.pair (Kd.int .u32) (Kd.slice 5 (Kd.int .u8)))) (by rfl) (by kernel_rfl) (opens_int Try.underlying22) (opensF_cons (a := (Kd.int .u32)) (b := (Kd.slice 5 (Kd.int .u8))) (by rfl) (by kernel_rfl) (opens_int Try.underlying22) (opensF_one (d := (Kd.slice 5 (Kd.int .u8))) (by rfl) (by kernel_rfl) (opens_slice (d := (Kd.int .u8)) (B := 1) Try.underlying43 (by kernel_rfl) (by kernel_rfl) (opens_int Try.underlying5)))))))
  exact h
def pintlelaw05_MemActs.Pure : Prop := ∀ (l0 : List (S45)), (l0.length * 48 ≤ 140737488351232 ∧ l0.length ≤ maxLen ∧ ∀ y ∈ l0, good_S45 y) → pintlelaw05_MemActs.f l0 = some true
end Go.Proofs.Ytbbjooaggdgcmaa.PC
