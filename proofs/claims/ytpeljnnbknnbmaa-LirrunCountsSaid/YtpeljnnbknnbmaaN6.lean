import Derived.Test.YtpeljnnbknnbmaaN5
import Derived.Test.YtpeljnnbknnbmaaPDx4
import Derived.Deep.MidRow
namespace Go.Proofs.Ytpeljnnbknnbmaa.PD
open Go.RowKit Go.Proofs.YtpeljnnbknnbmaaW.PrintWords Go.Proofs.YtpeljnnbknnbmaaW.PrintLast Go.Proofs.YtpeljnnbknnbmaaW.PrintMore
set_option linter.unusedVariables false
set_option linter.unusedSimpArgs false
section
variable {P : Program}
theorem wpList_built {ops : Array Oper} {rest : List Oper} {o : Oper} {a : Act} {w : World} {Q : Exit → Act → World → Prop} (hgd : o.guard = none) (t : TypeId) (parts : Array (Nat × Operand)) (ho : o.op = .build t parts)
    (ps : Array (Nat × Value)) (hp : parts.toList.map (fun x => (x.1, a.eval x.2)) = ps.toList) (v : Value) (hr : (Instr.build t ps).run P w = .ok v w)
    (h : wpList P ops Q rest (a.put o.dst v) w) : wpList P ops Q (o :: rest) a w :=
  wpList_plain hgd fun _ hK => by
    have hp' : parts.map (fun (i, x) => (i, a.eval x)) = ps := by
      apply Array.ext'
      rw [Array.toList_map]; exact hp
    unfold Oper.wp execOp
    simp only [ho, Sem.run_bind, hp', hr, Sem.run_pure, Result.andThen_ok]
    exact hK _ _ h
end
/-- a runner as it is made -/
noncomputable def rnC0 (lv ev mv : Value) : Array Value := ((Try.zeroCells102.setIfInBounds 0 lv).setIfInBounds 1 ev).setIfInBounds 2 mv
theorem zero102_size : Try.zeroCells102.size = 68 := by kernel_rfl
theorem zero102_3 : Try.zeroCells102[3]? = some (.int .i64 0) := by kernel_rfl
theorem zero102_v : Try.zeroCells102.toList.drop 4 = List.replicate 64 (.int .u32 0) := by kernel_rfl
theorem zero102_at (j : Nat) (hj : j < 64) : Try.zeroCells102[4 + j]? = some (.int .u32 0) := by
  have h : (Try.zeroCells102.toList.drop 4)[j]? = some (.int .u32 0) := by rw [zero102_v, List.getElem?_replicate, if_pos hj]
  rw [List.getElem?_drop] at h
  rw [← h, Array.getElem?_toList]
theorem rnC0_ok (lv ev mv : Value) : RnC (rnC0 lv ev mv) lv ev mv 0 (List.replicate 64 0) := by
  have hs : (rnC0 lv ev mv).size = 68 := by unfold rnC0; simp [zero102_size]
  refine ⟨hs, List.length_replicate, ?_, ?_, ?_, ?_, fun j hj => ?_⟩
  · unfold rnC0
    rw [Array.getElem?_setIfInBounds_ne (by omega), Array.getElem?_setIfInBounds_ne (by omega), Array.getElem?_setIfInBounds_self_of_lt (by simp [zero102_size])]
  · unfold rnC0
    rw [Array.getElem?_setIfInBounds_ne (by omega), Array.getElem?_setIfInBounds_self_of_lt (by simp [zero102_size])]
  · unfold rnC0
    rw [Array.getElem?_setIfInBounds_self_of_lt (by simp [zero102_size])]
  · unfold rnC0
    rw [Array.getElem?_setIfInBounds_ne (by omega), Array.getElem?_setIfInBounds_ne (by omega), Array.getElem?_setIfInBounds_ne (by omega)]
    exact zero102_3
  · unfold rnC0
    rw [Array.getElem?_setIfInBounds_ne (by omega), Array.getElem?_setIfInBounds_ne (by omega), Array.getElem?_setIfInBounds_ne (by omega), zero102_at j hj]
    have : rd (List.replicate 64 (0 : Int)) (j : Int) = 0 := by
      unfold rd
      rw [Int.toNat_natCast, List.getD_eq_getElem?_getD, List.getElem?_replicate, if_pos hj]; rfl
    rw [this]
theorem run_build102 (A B p : Option Addr) (n c m d : Nat) (w : World) :
    (Instr.build 102 #[(0, .slice A n c), (1, .slice B m d), (2, .pointer p)]).run Try.prog w = .ok (.agg (rnC0 (.slice A n c) (.slice B m d) (.pointer p))) w := by
  have e1 : (Value.pointer p).cells = #[Value.pointer p] := rfl
  have e2 : ∀ (A : Option Addr) (n c : Nat), (Value.slice A n c).cells = #[Value.slice A n c] := fun _ _ _ => rfl
  have e4 : (Value.agg Try.zeroCells102).cells = Try.zeroCells102 := rfl
  simp [Instr.build, Try.underlying102, Sem.run_bind, Instr.fill, e1, e2, e4, zero102_size, rnC0]
end Go.Proofs.Ytpeljnnbknnbmaa.PD
