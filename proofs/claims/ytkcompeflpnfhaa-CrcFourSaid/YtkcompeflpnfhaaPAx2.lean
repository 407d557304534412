-- Written by pr.py, a driver around the kit's printer, for this seat. Not trusted: Lean checks it.
import Derived.Test.YtkcompeflpnfhaaPAx0
import Derived.Test.YtkcompeflpnfhaaPAx1
namespace Go.Proofs.Ytkcompeflpnfhaa.PA
open Go.RowKit Go.Proofs.YtkcompeflpnfhaaW.PrintWords Go.Proofs.YtkcompeflpnfhaaW.PrintLast Go.Proofs.YtkcompeflpnfhaaW.PrintMore
attribute [local go_sem] max2_int min2_int max_two min_two max_three min_three max_four min_four   -- for this text's walks alone
set_option linter.unusedVariables false
set_option linter.unusedSimpArgs false

--BREAK 
/-! ### crc_table: function 15 -/
def halfV (n : Int) : Int := (crc_half.f 10 n).getD 0
theorem half_any (n : Int) (w : World) (h : (crc_half.f 10 n).isSome = true) : Calls Try.prog 16 #[.int .u32 n] w fun e w' => e = .returned (.int .u32 (halfV n)) ∧ Drawn0 w w' :=
  crc_half.calls 10 n (halfV n) w (by unfold halfV; cases e : crc_half.f 10 n with | none => simp [e] at h | some r => rfl)
def tabN (k : Nat) : List Int := (List.range 16).map fun i => if i < k then halfV i else 0
def tabC (k : Nat) : Array Value := ((tabN k).map (Value.int .u32)).toArray
theorem tabC_step (k : Nat) (h : k < 16) : (tabC k).setIfInBounds k (.int .u32 (halfV k)) = tabC (k + 1) := by
  unfold tabC
  rw [List.setIfInBounds_toArray, ← List.map_set]
  congr 2
  unfold tabN
  apply List.ext_getElem
  · simp
  · intro i h1 h2
    simp at h1 h2
    simp only [List.getElem_set, List.getElem_map, List.getElem_range]
    by_cases e : k = i
    · subst e; simp
    · rw [if_neg e]
      by_cases h3 : i < k
      · rw [if_pos h3, if_pos (by omega)]
      · rw [if_neg h3, if_neg (by omega)]
theorem setCell_row_step {wr : World} {B k : Nat} (h : wr.heap[B]? = some (.cells (tabC k) 35 (0, 0))) (hk : k < 16) (nd : Nat) : ((wr.drewN nd).setCell ⟨B, k, none⟩ (.int .u32 (halfV k))).heap[B]? = some (.cells (tabC (k + 1)) 35 (0, 0)) := by
  rw [heap_setCell_same (wr.drewN nd) B k (tabC k) 35 _ h, tabC_step k hk]
theorem half_some (k : Nat) (h : k < 16) : (crc_half.f 10 k).isSome = true := by
  have : ∀ k : Fin 16, (crc_half.f 10 (k.val : Int)).isSome = true := by decide +kernel
  exact this ⟨k, h⟩
set_option maxHeartbeats 4000000 in
theorem table_calls (w : World) : Calls Try.prog 15 #[] w fun e w' => e = .returned (.agg (tabC 16)) ∧ Below w.heap.size w w' := by
  have hB := heap_alloc_new w (.cells (tabC 0) 35 (0, 0))
  have hB' : (w.alloc (.cells (tabC 0) 35 (0, 0))).heap[w.heap.size]? = some (.cells (tabC 0) 35 (0, 0)) := hB
  clear hB
  have HB := Aside0.mk hB'
  clear hB'
  go_enter Try.func15, Try.ntmps15
  go_wp2
  go_loopw [2] (fun i wr => ∃ k : Nat, k ≤ 16 ∧ i = .int .i64 k ∧ Aside0 (wr.heap[w.heap.size]? = some (.cells (tabC k) 35 (0, 0))) ∧ Aside0 (Below w.heap.size w wr)) (fun i _ => 16 - (intOf i).toNat)
  case atStart => exact ⟨0, by omega, rfl, ⟨HB.out⟩, ⟨Below.alloc (Below.refl _ _) (Nat.le_refl _) _⟩⟩
  case round =>
    obtain ⟨k, hk, rfl, hb, hbel⟩ := hrel
    clear HB
    by_cases hlt : k < 16
    · have hc : wr.cell? ⟨w.heap.size, k, none⟩ = some (.int .u32 0) := by
        rw [cell_of_row wr _ k _ _ _ hb.out]; simp [tabC, tabN, hlt]
      have hf : wr.frozen? ⟨w.heap.size, k, none⟩ = false := frozen_of_row wr _ k _ _ hb.out
      go_wp2_with (go_at_call 16; refine Calls.mono (half_any _ _ ?hh) ?_; (case hh => exact half_some k hlt); rintro e w' ⟨rfl, ⟨nd, rfl⟩⟩)
      have hs := setCell_row_step hb.out hlt nd
      have hbel' : Below w.heap.size w ((wr.drewN nd).setCell ⟨w.heap.size, k, none⟩ (.int .u32 (halfV k))) := (pw_below_drewN hbel.out nd).setCell (Nat.le_refl _) _
      have HS := Aside0.mk hs
      have HBEL := Aside0.mk hbel'
      clear hs hbel' hc hf hb hbel
      go_roundw
      case rel => exact ⟨k + 1, by omega, by go_num, HS, HBEL⟩
      case measure => simp [intOf]; omega
    · obtain rfl : k = 16 := by omega
      go_wp2_with (first | (refine wpList_load_row rfl 35 _ rfl w.heap.size rfl 35 (tabC 16) (0, 0) _ hb.out Try.underlying35 rfl (by kernel_rfl) ?_) | (refine wpList_store_row rfl 35 _ _ rfl w.heap.size (tabC 16) rfl rfl 35 (tabC 16) hb.out (by kernel_rfl) rfl (by kernel_rfl) ?_))
      refine bodyPost_ret (v := .agg (tabC 16)) (results_cell_row rfl _ _ w.heap.size 35 (tabC 16) (0, 0) _ rfl (setRow_heap wr w.heap.size _ _ _ _ hb.out) Try.underlying35 rfl (by kernel_rfl)) rfl ⟨rfl, below_setRow hbel.out (Nat.le_refl _) _⟩

end Go.Proofs.Ytkcompeflpnfhaa.PA
