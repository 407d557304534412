-- Written by pr.py, a driver around the kit's printer, for this seat. Not trusted: Lean checks it.
import Derived.Test.YtbbjooaggdgcmaaPCx0
import Derived.Test.YtbbjooaggdgcmaaPCx3
namespace Go.Proofs.Ytbbjooaggdgcmaa.PC
open Go.RowKit Go.Proofs.YtbbjooaggdgcmaaW.PrintWords Go.Proofs.YtbbjooaggdgcmaaW.PrintLast Go.Proofs.YtbbjooaggdgcmaaW.PrintMore
attribute [local go_sem] max2_int min2_int max_two min_two max_three min_three max_four min_four   -- for this text's walks alone
set_option linter.unusedVariables false
set_option linter.unusedSimpArgs false

--BREAK 
/-! ### mem_Memory_Target: function 15 -/
set_option maxHeartbeats 4000000 in
theorem target_calls (base g bf br : Nat) (F R : Int) (fl rl : List Int) (w : World) (hm : MemAt w base g bf br F R fl rl) :
    Calls Try.prog 15 #[.pointer (some ⟨g, 0, none⟩)] w fun e w' => e = .returned (.agg #[.int .u32 F, .int .u32 fl.length, .int .u32 R, .int .u32 rl.length]) ∧ Below w.heap.size w w' := by
  obtain ⟨q0, q1, q2, q3, _, _, _, _⟩ := mem_cells hm
  have hlt := hm.lt.1
  clear hm
  go_enter Try.func15, Try.ntmps15
  go_wp2
  exact bodyPost_ret (v := .agg #[.int .u32 F, .int .u32 fl.length, .int .u32 R, .int .u32 rl.length]) (by simp [results, Try.results15, go_sem]) rfl ⟨rfl, Below.alloc (Below.refl _ _) (Nat.le_refl _) _⟩
set_option maxHeartbeats 4000000 in
theorem target_nil (w : World) :
    Calls Try.prog 15 #[.pointer none] w fun e w' => e = .returned (.agg #[.int .u32 0, .int .u32 0, .int .u32 0, .int .u32 0]) ∧ Below w.heap.size w w' := by
  go_enter Try.func15, Try.ntmps15
  go_wp2
  exact bodyPost_ret (v := .agg #[.int .u32 0, .int .u32 0, .int .u32 0, .int .u32 0]) (by simp [results, Try.results15, go_sem]) rfl ⟨rfl, Below.alloc (Below.refl _ _) (Nat.le_refl _) _⟩

end Go.Proofs.Ytbbjooaggdgcmaa.PC
