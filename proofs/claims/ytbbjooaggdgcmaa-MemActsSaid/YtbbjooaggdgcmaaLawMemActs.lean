-- Written by rows2.py (pr.py's), for this seat: the law's row, out of its pure statement and the walks. Not trusted: Lean checks it.
import Derived.Test.YtbbjooaggdgcmaaRows
import Derived.Test.YtbbjooaggdgcmaaPCx20
import Derived.Test.YtbbjooaggdgcmaaGoodMemActs
import Derived.Test.YtbbjooaggdgcmaaPureMemActs
import Derived.WalkKit
import Derived.ProofKit
import Derived.OpenShut
import Derived.ShutString
import Derived.ChangeOld
import Derived.Below
import Derived.SizedLaws
namespace Go.Proofs.Ytbbjooaggdgcmaa.memActs
open Go.ChangeShapes Go.WideShapes Go.ChangeAt Go.RowKit Go.Proofs.Ytbbjooaggdgcmaa.Opens Go.Proofs.Ytbbjooaggdgcmaa.PC Go.Proofs.YtbbjooaggdgcmaaW.PrintWords
open Go.ChangeMaps (open_string shut_string)
set_option linter.unusedVariables false
theorem own : ownKnob Try.prog.godebug = none := by kernel_rfl
theorem laidOut : laidOutB Try.prog = true := by kernel_rfl
set_option maxRecDepth 100000 in
theorem lifted (os : Os) (started : os.Started) (H : Type) (enc : TypeId × Value → H) :
    ReturnsInHanded {} Try.checked os 5 .any (Rows.memActsSpec.pre6 enc Try.prog Try.f5 Rows.memActsRow.domain false) (Rows.memActsSpec.post enc Try.prog Try.f5 false true false false) := by
  refine returnsInHanded_of_change_sized (C := Try.checked) own started (by kernel_rfl) Try.func5
    (ChangeSpec.witness6 (enc := enc) (C := Try.checked) false ⟨#[], #[.slice none 0 0], []⟩ 8 (by kernel_rfl) (by kernel_rfl) (by kernel_rfl) (by kernel_rfl)) ?_
  intro W base args ds gs before hval0 hW hcnd hsz0 _
  have hsz : (DataW.weightsEach Try.prog (Try.f5.params.toList ++ Rows.memActsSpec.plain.varTypes Try.prog) (ds ++ gs)).all (· ≤ reachBytes) = true := hsz0
  have hval : ∀ (j : Nat) t v, Try.f5.params[j]? = some t → args[j]? = some v → Value.okWide Try.prog W .any base t v := hval0
  have hW' := hW
  obtain ⟨p, q, hA0, hV, rfl, hfz, hnd⟩ := hW
  have hA : DataW.TrodAll enc Try.prog W 0 (fun _ => true) true Try.f5.params.toList args.toList ds p := hA0
  rw [Try.params5] at hA hval hsz
  obtain ⟨v0, vs0, d0, ds0, p0, q0, hargs, rfl, rfl, h0, r0⟩ := trodAll_cons hA
  obtain ⟨rfl, rfl, rfl⟩ := trodAll_nil r0
  obtain rfl : args = #[v0] := by cases args; simp_all
  obtain ⟨rfl, rfl⟩ := trodVars_none hV
  have lt0 : ∀ x ∈ p0, x.block < W.heap.size := by obtain ⟨m, hm⟩ := h0; exact DataW.trod_lt m _ _ _ hm
  obtain ⟨ad0, len0, cap0, rfl⟩ := okWide_slice Try.underlying41 (hval 0 41 v0 rfl rfl)
  obtain ⟨l0, hK0, hg0⟩ : ∃ l, (Kd.slice 45 k45).K W l [.slice ad0 len0 cap0] ∧ (l.length * 48 ≤ 140737488351232 ∧ l.length ≤ maxLen ∧ ∀ y ∈ l, good_S45 y) := by
    obtain ⟨fu, hf⟩ := h0
    exact Opens.get (opens_slice (d := k45) (B := 48) Try.underlying41 (by kernel_rfl) (by kernel_rfl) opens_S45) hf (each_weights hsz (j := 0) rfl rfl)
  obtain ⟨A0, c0, hcs0, hc0, hr0⟩ := hK0
  obtain ⟨rfl, rfl, rfl⟩ : ad0 = A0 ∧ len0 = l0.length ∧ cap0 = c0 := by simpa using hcs0
  clear hA0 hval0 hsz0 hsz
  have hP := Pure.MemActs l0 hg0
  refine (pintlelaw05_MemActs.calls ad0 cap0 l0 true W hr0 hc0 hP).mono ?_
  rintro e W' ⟨rfl, hd⟩
  have bel : Below W.heap.size W W' := hd
  exact ⟨_, rfl, _, _, _, [], _, [], hW', trodAll_mk1 (shut_bool Try.underlying4 _), (trodAll_cons_mk (Below.trod laidOut (by kernel_rfl) (of_decide_eq_true (by kernel_rfl)) h0 bel lt0) trodAll_mk0), rfl, bel.frame _, fun h => by cases h⟩
theorem over : Rows.memActsRow.holds Try.pinned (OpenSpec.ofChange Rows.memActsSpec) :=
  OpenClaim.holds_of_wide 5 Try.f5 rfl rfl rfl rfl rfl rfl rfl ⟨rfl, rfl, rfl, rfl, rfl⟩ rfl rfl rfl rfl rfl (by kernel_rfl) Try.func5 (by kernel_rfl)
    (of_decide_eq_true (by kernel_rfl)) (by unfold Func.isWrapper; first | (rw [if_pos (by decide +kernel)]; kernel_rfl) | (rw [if_neg (by decide +kernel)]; exact ⟨rfl, rfl⟩))
    (fun os started H enc _ => lifted os started H enc)
theorem proved : Rows.MemActsSaid := over
#print axioms proved
end Go.Proofs.Ytbbjooaggdgcmaa.memActs
namespace Go.Proofs.Ytbbjooaggdgcmaa
/-- The row, under a short name, for the claim. -/
theorem memActs_holds : Rows.MemActsSaid := memActs.proved
end Go.Proofs.Ytbbjooaggdgcmaa
