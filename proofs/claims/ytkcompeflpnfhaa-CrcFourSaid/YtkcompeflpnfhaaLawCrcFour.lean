-- Written by rows2.py (pr.py's), for this seat: the law's row, out of its pure statement and the walks. Not trusted: Lean checks it.
import Derived.Test.YtkcompeflpnfhaaRows
import Derived.Test.YtkcompeflpnfhaaPAx7
import Derived.Test.YtkcompeflpnfhaaGoodCrcFour
import Derived.Test.YtkcompeflpnfhaaPureCrcFour
import Derived.WalkKit
import Derived.ProofKit
import Derived.OpenShut
import Derived.ShutString
import Derived.ChangeOld
import Derived.Below
import Derived.SizedLaws
namespace Go.Proofs.Ytkcompeflpnfhaa.crcFour
open Go.ChangeShapes Go.WideShapes Go.ChangeAt Go.RowKit Go.Proofs.Ytkcompeflpnfhaa.Opens Go.Proofs.Ytkcompeflpnfhaa.PA Go.Proofs.YtkcompeflpnfhaaW.PrintWords
open Go.ChangeMaps (open_string shut_string)
set_option linter.unusedVariables false
theorem own : ownKnob Try.prog.godebug = none := by kernel_rfl
theorem laidOut : laidOutB Try.prog = true := by kernel_rfl
set_option maxRecDepth 100000 in
theorem lifted (os : Os) (started : os.Started) (H : Type) (enc : TypeId × Value → H) :
    ReturnsInHanded {} Try.checked os 4 .any (Rows.crcFourSpec.pre6 enc Try.prog Try.f4 Rows.crcFourRow.domain false) (Rows.crcFourSpec.post enc Try.prog Try.f4 false true false false) := by
  refine returnsInHanded_of_change_sized (C := Try.checked) own started (by kernel_rfl) Try.func4
    (ChangeSpec.witness6 (enc := enc) (C := Try.checked) false ⟨#[], #[.slice none 0 0, .int .i64 0, .agg #[.int .u8 0, .int .u8 0, .int .u8 0, .int .u8 0]], []⟩ 8 (by kernel_rfl) (by kernel_rfl) (by kernel_rfl) (by kernel_rfl)) ?_
  intro W base args ds gs before hval0 hW hcnd hsz0 _
  have hsz : (DataW.weightsEach Try.prog (Try.f4.params.toList ++ Rows.crcFourSpec.plain.varTypes Try.prog) (ds ++ gs)).all (· ≤ reachBytes) = true := hsz0
  have hval : ∀ (j : Nat) t v, Try.f4.params[j]? = some t → args[j]? = some v → Value.okWide Try.prog W .any base t v := hval0
  have hW' := hW
  obtain ⟨p, q, hA0, hV, rfl, hfz, hnd⟩ := hW
  have hA : DataW.TrodAll enc Try.prog W 0 (fun _ => true) true Try.f4.params.toList args.toList ds p := hA0
  rw [Try.params4] at hA hval hsz
  obtain ⟨v0, vs0, d0, ds0, p0, q0, hargs, rfl, rfl, h0, r0⟩ := trodAll_cons hA
  obtain ⟨v1, vs1, d1, ds1, p1, q1, rfl, rfl, rfl, h1, r1⟩ := trodAll_cons r0
  obtain ⟨v2, vs2, d2, ds2, p2, q2, rfl, rfl, rfl, h2, r2⟩ := trodAll_cons r1
  obtain ⟨rfl, rfl, rfl⟩ := trodAll_nil r2
  obtain rfl : args = #[v0, v1, v2] := by cases args; simp_all
  obtain ⟨rfl, rfl⟩ := trodVars_none hV
  have lt0 : ∀ x ∈ p0, x.block < W.heap.size := by obtain ⟨m, hm⟩ := h0; exact DataW.trod_lt m _ _ _ hm
  obtain ⟨ad0, len0, cap0, rfl⟩ := okWide_slice Try.underlying22 (hval 0 22 v0 rfl rfl)
  obtain ⟨l0, hK0, hg0⟩ : ∃ l, (Kd.slice 5 (Kd.int .u8)).K W l [.slice ad0 len0 cap0] ∧ (l.length * 1 ≤ 140737488351232 ∧ l.length ≤ maxLen ∧ ∀ y ∈ l, (Lit.int .u8 y).wf = true) := by
    obtain ⟨fu, hf⟩ := h0
    exact Opens.get (opens_slice (d := (Kd.int .u8)) (B := 1) Try.underlying22 (by kernel_rfl) (by kernel_rfl) (opens_int Try.underlying5)) hf (each_weights hsz (j := 0) rfl rfl)
  obtain ⟨A0, c0, hcs0, hc0, hr0⟩ := hK0
  obtain ⟨rfl, rfl, rfl⟩ : ad0 = A0 ∧ len0 = l0.length ∧ cap0 = c0 := by simpa using hcs0
  obtain ⟨a1, rfl, rfl, rfl, w1⟩ := open_int Try.underlying3 (hval 1 3 v1 rfl rfl) h1
  have lt2 : ∀ x ∈ p2, x.block < W.heap.size := by obtain ⟨m, hm⟩ := h2; exact DataW.trod_lt m _ _ _ hm
  obtain ⟨cs2, rfl, _⟩ := okWide_array Try.underlying29 (hval 2 29 v2 rfl rfl)
  obtain ⟨l2, hK2, hg2⟩ : ∃ l : List Int, ArrK (Kd.int .u8) 4 W l cs2.toList ∧ ∀ y ∈ l, (Lit.int .u8 y).wf = true := by
    obtain ⟨fu, hf⟩ := h2
    exact (opens_array (d := Kd.int .u8) Try.underlying29 (by kernel_rfl) (by kernel_rfl) (opens_int Try.underlying5)).get hf (each_weights hsz (j := 2) rfl rfl)
  obtain rfl : cs2 = (l2.map (Value.int .u8)).toArray := by rw [← arr_ints hK2]
  have hl2 := hK2.1
  clear hA0 hval0 hsz0 hsz
  have hP := Pure.CrcFour l0 a1 l2 hg0 w1 hl2 hg2
  refine (pintlelaw08_CrcFour.calls ad0 cap0 l0 a1 l2 true W hr0 hc0 hl2 hP).mono ?_
  rintro e W' ⟨rfl, hd⟩
  have bel : Below W.heap.size W W' := hd
  exact ⟨_, rfl, _, _, _, [], _, [], hW', trodAll_mk1 (shut_bool Try.underlying4 _), (trodAll_cons_mk (Below.trod laidOut (by kernel_rfl) (of_decide_eq_true (by kernel_rfl)) h0 bel lt0) (trodAll_cons_mk (shut_int Try.underlying3 w1) (trodAll_cons_mk (Below.trod laidOut (by kernel_rfl) (of_decide_eq_true (by kernel_rfl)) h2 bel lt2) trodAll_mk0))), rfl, bel.frame _, fun h => by cases h⟩
theorem over : Rows.crcFourRow.holds Try.pinned (OpenSpec.ofChange Rows.crcFourSpec) :=
  OpenClaim.holds_of_wide 4 Try.f4 rfl rfl rfl rfl rfl rfl rfl ⟨rfl, rfl, rfl, rfl, rfl⟩ rfl rfl rfl rfl rfl (by kernel_rfl) Try.func4 (by kernel_rfl)
    (of_decide_eq_true (by kernel_rfl)) (by unfold Func.isWrapper; first | (rw [if_pos (by decide +kernel)]; kernel_rfl) | (rw [if_neg (by decide +kernel)]; exact ⟨rfl, rfl⟩))
    (fun os started H enc _ => lifted os started H enc)
theorem proved : Rows.CrcFourSaid := over
#print axioms proved
end Go.Proofs.Ytkcompeflpnfhaa.crcFour
namespace Go.Proofs.Ytkcompeflpnfhaa
/-- The row, under a short name, for the claim. -/
theorem crcFour_holds : Rows.CrcFourSaid := crcFour.proved
end Go.Proofs.Ytkcompeflpnfhaa
