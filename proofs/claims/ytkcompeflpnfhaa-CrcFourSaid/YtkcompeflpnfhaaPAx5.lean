-- Written by pr.py, a driver around the kit's printer, for this seat. Not trusted: Lean checks it.
import Derived.Test.YtkcompeflpnfhaaPAx0
import Derived.Test.YtkcompeflpnfhaaPAx4
namespace Go.Proofs.Ytkcompeflpnfhaa.PA
open Go.RowKit Go.Proofs.YtkcompeflpnfhaaW.PrintWords Go.Proofs.YtkcompeflpnfhaaW.PrintLast Go.Proofs.YtkcompeflpnfhaaW.PrintMore
attribute [local go_sem] max2_int min2_int max_two min_two max_three min_three max_four min_four   -- for this text's walks alone
set_option linter.unusedVariables false
set_option linter.unusedSimpArgs false

--BREAK 
/-! ### pintlelaw08_lives: function 10 -/
theorem C_of_blk {w : World} {g : Nat} {cs : Array Value} {t : TypeId} {fr : Nat × Nat} (h : w.heap[g]? = some (.cells cs t fr)) (k : IntKind) (xs : List Int) (hx : cs.toList = xs.map (Value.int k)) (hm : xs.length ≤ 9223372036854775807) : Kd.C (Kd.int k) w (some ⟨g, 0, none⟩) xs.length xs := by
  refine Kd.C_of_reads (d := (0 : Int)) (h1 := fun _ => rfl) ⟨rfl, hm, fun _ => ⟨_, rfl, fun j hj => ?_⟩⟩
  rw [add_plain, cell_of_row w g j cs t fr h]
  have : cs[j]? = cs.toList[j]? := by simp
  rw [this, hx, List.getElem?_map]
  simp [hj]
theorem crc_nine : crc_Sum.f [49, 50, 51, 52, 53, 54, 55, 56, 57] = some 3421780262 := by decide +kernel
set_option maxHeartbeats 4000000 in
theorem lives_any (w : World) : Calls Try.prog 10 #[] w fun e w' => e = .returned (.bool true) ∧ Below w.heap.size w w' := by
  have kc := fun (w : World) (C : Array Value) (n c : Nat) => Lib.run_convert_bytes_const (P := Try.prog) w 22 5 C n c Try.underlying22 Try.underlying5
  have HC : Aside0 (Kd.C (Kd.int .u8) (w.alloc (.cells #[.int .u8 49, .int .u8 50, .int .u8 51, .int .u8 52, .int .u8 53, .int .u8 54, .int .u8 55, .int .u8 56, .int .u8 57] 5 (9, 10))) (some ⟨w.heap.size, 0, none⟩) 9 [49, 50, 51, 52, 53, 54, 55, 56, 57]) :=
    ⟨C_of_blk (heap_alloc_new w _) .u8 [49, 50, 51, 52, 53, 54, 55, 56, 57] rfl (by decide)⟩
  go_enter Try.func10, Try.ntmps10
  go_wp2_with (go_at_call 7; refine (crc_Sum.calls _ _ [49, 50, 51, 52, 53, 54, 55, 56, 57] 3421780262 _ HC.out (by decide) crc_nine).mono ?_; rintro e w1 ⟨rfl, hb1⟩)
  go_ret
  exact ⟨rfl, (Below.alloc (Below.refl _ _) (Nat.le_refl _) _).trans (hb1.mono (by simp))⟩
def pintlelaw08_lives.f : Option Bool := some true
theorem pintlelaw08_lives.calls (r : Bool) (w : World) (h : pintlelaw08_lives.f = some r) :
    Calls Try.prog 10 #[] w fun e w' => e = .returned (.bool r) ∧ Below w.heap.size w w' := by
  obtain rfl := Option.some.inj h
  exact lives_any w

end Go.Proofs.Ytkcompeflpnfhaa.PA
