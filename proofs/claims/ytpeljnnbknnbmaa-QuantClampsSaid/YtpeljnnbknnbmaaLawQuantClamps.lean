-- Written by rows2.py (pr.py's), for this seat: the law's row, out of its pure statement and the walks. Not trusted: Lean checks it.
import Derived.Test.YtpeljnnbknnbmaaRows
import Derived.Test.YtpeljnnbknnbmaaPAx12
import Derived.Test.YtpeljnnbknnbmaaGoodQuantClamps
import Derived.Test.YtpeljnnbknnbmaaPureQuantClamps
import Derived.WalkKit
import Derived.ProofKit
import Derived.OpenShut
import Derived.ShutString
import Derived.ChangeOld
import Derived.Below
import Derived.SizedLaws
namespace Go.Proofs.Ytpeljnnbknnbmaa.quantClamps
open Go.ChangeShapes Go.WideShapes Go.ChangeAt Go.RowKit Go.Proofs.Ytpeljnnbknnbmaa.Opens Go.Proofs.Ytpeljnnbknnbmaa.PA Go.Proofs.YtpeljnnbknnbmaaW.PrintWords
open Go.ChangeMaps (open_string shut_string)
set_option linter.unusedVariables false
theorem own : ownKnob Try.prog.godebug = none := by kernel_rfl
theorem laidOut : laidOutB Try.prog = true := by kernel_rfl
set_option maxRecDepth 100000 in
theorem lifted (os : Os) (started : os.Started) (H : Type) (enc : TypeId × Value → H) :
    ReturnsInHanded {} Try.checked os 4 .any (Rows.quantClampsSpec.pre6 enc Try.prog Try.f4 Rows.quantClampsRow.domain false) (Rows.quantClampsSpec.post enc Try.prog Try.f4 false true false false) := by
  refine returnsInHanded_of_change_sized (C := Try.checked) own started (by kernel_rfl) Try.func4
    (ChangeSpec.witness6 (enc := enc) (C := Try.checked) false ⟨#[], #[.agg #[.int .i64 0, .int .i64 0, .int .i64 0], .int .i32 0, .agg #[.int .i32 0, .int .i32 0]], []⟩ 8 (by kernel_rfl) (by kernel_rfl) (by kernel_rfl) (by kernel_rfl)) ?_
  intro W base args ds gs before hval0 hW hcnd hsz0 _
  have hsz : (DataW.weightsEach Try.prog (Try.f4.params.toList ++ Rows.quantClampsSpec.plain.varTypes Try.prog) (ds ++ gs)).all (· ≤ reachBytes) = true := hsz0
  have hval : ∀ (j : Nat) t v, Try.f4.params[j]? = some t → args[j]? = some v → Value.okWide Try.prog W .any base t v := hval0
  have hW' := hW
  obtain ⟨p, q, hA0, hV, rfl, hfz, hnd⟩ := hW
  have hA : DataW.TrodAll enc Try.prog W 0 (fun _ => true) true Try.f4.params.toList args.toList ds p := hA0
  rw [Try.params4] at hA hval hsz
  obtain ⟨v0, vs0, d0, ds0, p0, q0, hargs, rfl, rfl, h0, r0⟩ := trodAll_cons hA
  obtain ⟨v1, vs1, d1, ds1, p1, q1, rfl, rfl, rfl, h1, r1⟩ := trodAll_cons r0
  obtain ⟨v2, vs2, d2, ds2, p2, q2, rfl, rfl, rfl, h2, r2⟩ := trodAll_cons r1
  obtain ⟨rfl, rfl, rfl⟩ := trodAll_nil r2
  obtain rfl : args = #[v0, v1, v2] := by cases args; simp_all
  obtain ⟨rfl, rfl⟩ := trodVars_none hV
  have lt0 : ∀ x ∈ p0, x.block < W.heap.size := by obtain ⟨m, hm⟩ := h0; exact DataW.trod_lt m _ _ _ hm
  obtain ⟨cs0, rfl, _⟩ := okWide_struct Try.underlying23 (hval 0 23 v0 rfl rfl)
  obtain ⟨x0, hK0, hg0⟩ : ∃ x, k23.K W x cs0.toList ∧ good_S23 x := by
    obtain ⟨fu, hf⟩ := h0
    exact opens_S23.get hf (each_weights hsz (j := 0) rfl rfl)
  have hcs0 := k23_open hK0
  obtain rfl : cs0 = #[.int .i64 x0.f0, .int .i64 x0.f1, .int .i64 x0.f2] := Array.toList_inj.1 hcs0
  obtain ⟨a1, rfl, rfl, rfl, w1⟩ := open_int Try.underlying21 (hval 1 21 v1 rfl rfl) h1
  have lt2 : ∀ x ∈ p2, x.block < W.heap.size := by obtain ⟨m, hm⟩ := h2; exact DataW.trod_lt m _ _ _ hm
  obtain ⟨cs2, rfl, _⟩ := okWide_array Try.underlying37 (hval 2 37 v2 rfl rfl)
  obtain ⟨l2, hK2, hg2⟩ : ∃ l : List Int, ArrK (Kd.int .i32) 2 W l cs2.toList ∧ ∀ y ∈ l, (Lit.int .i32 y).wf = true := by
    obtain ⟨fu, hf⟩ := h2
    exact (opens_array (d := Kd.int .i32) Try.underlying37 (by kernel_rfl) (by kernel_rfl) (opens_int Try.underlying21)).get hf (each_weights hsz (j := 2) rfl rfl)
  obtain rfl : cs2 = (l2.map (Value.int .i32)).toArray := by rw [← arr_ints hK2]
  have hl2 := hK2.1
  clear hA0 hval0 hsz0 hsz
  have hP := Pure.QuantClamps x0 a1 l2 hg0 w1 hl2 hg2
  refine (pintlelaw20_QuantClamps.calls x0.f0 x0.f1 x0.f2 a1 l2 true W hl2 hP).mono ?_
  rintro e W' ⟨rfl, hd⟩
  have bel : Below W.heap.size W W' := hd
  exact ⟨_, rfl, _, _, _, [], _, [], hW', trodAll_mk1 (shut_bool Try.underlying4 _), (trodAll_cons_mk (Below.trod laidOut (by kernel_rfl) (of_decide_eq_true (by kernel_rfl)) h0 bel lt0) (trodAll_cons_mk (shut_int Try.underlying21 w1) (trodAll_cons_mk (Below.trod laidOut (by kernel_rfl) (of_decide_eq_true (by kernel_rfl)) h2 bel lt2) trodAll_mk0))), rfl, bel.frame _, fun h => by cases h⟩
theorem over : Rows.quantClampsRow.holds Try.pinned (OpenSpec.ofChange Rows.quantClampsSpec) :=
  OpenClaim.holds_of_wide 4 Try.f4 rfl rfl rfl rfl rfl rfl rfl ⟨rfl, rfl, rfl, rfl, rfl⟩ rfl rfl rfl rfl rfl (by kernel_rfl) Try.func4 (by kernel_rfl)
    (of_decide_eq_true (by kernel_rfl)) (by unfold Func.isWrapper; first | (rw [if_pos (by decide +kernel)]; kernel_rfl) | (rw [if_neg (by decide +kernel)]; exact ⟨rfl, rfl⟩))
    (fun os started H enc _ => lifted os started H enc)
theorem proved : Rows.QuantClampsSaid := over
#print axioms proved
end Go.Proofs.Ytpeljnnbknnbmaa.quantClamps
namespace Go.Proofs.Ytpeljnnbknnbmaa
/-- The row, under a short name, for the claim. -/
theorem quantClamps_holds : Rows.QuantClampsSaid := quantClamps.proved
end Go.Proofs.Ytpeljnnbknnbmaa
