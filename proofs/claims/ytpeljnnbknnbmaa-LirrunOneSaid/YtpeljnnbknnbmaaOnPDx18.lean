import Derived.Test.YtpeljnnbknnbmaaOnPDx0
import Derived.Test.YtpeljnnbknnbmaaOnPDx17
-- Written by pr.py, a driver around the kit's printer, for this seat. Not trusted: Lean checks it.
namespace Go.Proofs.Ytpeljnnbknnbmaa.PD
open Go.RowKit Go.Proofs.YtpeljnnbknnbmaaW.PrintWords Go.Proofs.YtpeljnnbknnbmaaW.PrintLast Go.Proofs.YtpeljnnbknnbmaaW.PrintMore
attribute [local go_sem] max2_int min2_int max_two min_two max_three min_three max_four min_four   -- for this text's walks alone
set_option linter.unusedVariables false
set_option linter.unusedSimpArgs false

/-! ### pintlelaw05_Map: function 62 -/
def pintlelaw05_Map.f  : Option (Int × Int × Int × Int) := some (4096, 256, 2147483648, 128)
set_option maxHeartbeats 8000000 in
set_option maxRecDepth 100000 in
theorem pintlelaw05_Map.calls  (r1 : Int) (r2 : Int) (r3 : Int) (r4 : Int) (w : World) (h : pintlelaw05_Map.f  = some (r1, r2, r3, r4)) :
    Calls Try.prog 62 #[] w fun e w' => e = .returned (.agg #[.int .u32 r1, .int .u32 r2, .int .u32 r3, .int .u32 r4]) ∧ Below w.heap.size w w' := by
  have hu82 := Try.underlying82
  have HB := Aside0.mk (Below.refl w.heap.size w)
  have H : (some (4096, 256, 2147483648, 128)) = some (r1, r2, r3, r4) := h
  clear h
  simp only [Option.some.injEq, Prod.mk.injEq] at H
  obtain ⟨rfl, rfl, rfl, rfl⟩ := H
  go_enter Try.func62, Try.ntmps62
  go_wp2_with (first | ((with_reducible refine gate_dst (N := 0) rfl ?_); refine box_event ?hg (N := 0) ?hd (cs := #[.int .u32 0, .int .u32 0, .int .u32 0, .int .u32 0]) (t := 82) ?hr ?_; (case hd => rfl); (case hg => rfl); (case hr => first | (go_simp; done) | (go_simp; rfl)); intro gb247 hg w1 hbox hb; have n0_ := Aside0.mk (below_step (by repeat (first | (with_reducible first | exact HB.out | apply below_alloc | apply pw_below_drewN | apply below_drew1) | exact HB.out)) hb); have n1_ := Aside0.mk (hbox); have n2_ := Aside0.mk ((by rw [hg]; exact (below_size (by repeat (first | (with_reducible first | exact HB.out | apply below_alloc | apply pw_below_drewN | apply below_drew1) | exact HB.out))) : w.heap.size ≤ gb247)); have n3_ := Aside0.mk ((by rw [hg]; exact (below_size (by repeat (first | (with_reducible first | exact HB.out | apply below_alloc | apply pw_below_drewN | apply below_drew1) | exact HB.out))) : w.heap.size ≤ gb247)); clear HB; have HB := n0_; have BK247 := n1_; have GW247 := n2_; have GE247 := n3_; clear n0_ n1_ n2_ n3_; clear hb hbox hg; have hcz2_0 : w1.cell? ⟨gb247, 0, none⟩ = some (.int .u32 0) := (blk_cell BK247.out 0).trans rfl; have hcz2_1 : w1.cell? ⟨gb247, 1, none⟩ = some (.int .u32 0) := (blk_cell BK247.out 1).trans rfl; have hcz2_2 : w1.cell? ⟨gb247, 2, none⟩ = some (.int .u32 0) := (blk_cell BK247.out 2).trans rfl; have hcz2_3 : w1.cell? ⟨gb247, 3, none⟩ = some (.int .u32 0) := (blk_cell BK247.out 3).trans rfl; have hfz2_0 := blk_frozen BK247.out 0; have hfz2_1 := blk_frozen BK247.out 1; have hfz2_2 := blk_frozen BK247.out 2; have hfz2_3 := blk_frozen BK247.out 3))
  refine bodyPost_ret (results_cell_row rfl _ _ gb247 82 #[.int .u32 4096, .int .u32 256, .int .u32 2147483648, .int .u32 128] (0, 0) _ rfl (by (with_reducible repeat (first | refine blk_drewN ?_ _ | refine blk_drew ?_ | refine blk_alloc ?_ _)); refine blk_put (cs := #[.int .u32 4096, .int .u32 256, .int .u32 2147483648, .int .u32 0]) ?_ 3 _ rfl; (with_reducible repeat (first | refine blk_drewN ?_ _ | refine blk_drew ?_ | refine blk_alloc ?_ _)); refine blk_put (cs := #[.int .u32 4096, .int .u32 256, .int .u32 0, .int .u32 0]) ?_ 2 _ rfl; (with_reducible repeat (first | refine blk_drewN ?_ _ | refine blk_drew ?_ | refine blk_alloc ?_ _)); refine blk_put (cs := #[.int .u32 4096, .int .u32 0, .int .u32 0, .int .u32 0]) ?_ 1 _ rfl; (with_reducible repeat (first | refine blk_drewN ?_ _ | refine blk_drew ?_ | refine blk_alloc ?_ _)); refine blk_put (cs := #[.int .u32 0, .int .u32 0, .int .u32 0, .int .u32 0]) ?_ 0 _ rfl; (with_reducible repeat (first | refine blk_drewN ?_ _ | refine blk_drew ?_ | refine blk_alloc ?_ _)); exact BK247.out) Try.underlying82 rfl (by kernel_rfl)) rfl ?_
  exact ⟨by first | rfl | (simp [errW_none, errW_some] <;> rfl) | (simp [*, errW_none, errW_some] <;> rfl), by repeat (first | (with_reducible first | exact HB.out | apply below_alloc | apply pw_below_drewN | apply below_drew1 | refine below_set ?_ GE247.out) | exact HB.out)⟩

end Go.Proofs.Ytpeljnnbknnbmaa.PD
