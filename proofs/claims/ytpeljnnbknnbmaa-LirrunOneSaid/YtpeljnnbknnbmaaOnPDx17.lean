import Derived.Test.YtpeljnnbknnbmaaOnPDx0
import Derived.Test.YtpeljnnbknnbmaaOnPDx5
import Derived.Test.YtpeljnnbknnbmaaOnPDx6
import Derived.Test.YtpeljnnbknnbmaaOnPDx16
import Derived.RegionTactic
import Derived.ChangeAlike
import Derived.BigRegion
import Derived.Deep.OwnRows
-- Written by pr.py, a driver around the kit's printer, for this seat. Not trusted: Lean checks it.
namespace Go.Proofs.Ytpeljnnbknnbmaa.PD
open Go.RowKit Go.Proofs.YtpeljnnbknnbmaaW.PrintWords Go.Proofs.YtpeljnnbknnbmaaW.PrintLast Go.Proofs.YtpeljnnbknnbmaaW.PrintMore
attribute [local go_sem] max2_int min2_int max_two min_two max_three min_three max_four min_four   -- for this text's walks alone
set_option linter.unusedVariables false
set_option linter.unusedSimpArgs false

theorem made_u8s (n : Nat) : madeCells #[.int .u8 0] n = u8s (List.replicate n 0) := by
  apply Array.toList_inj.1
  rw [toList_madeCells_one]
  unfold u8s
  simp
theorem heap_three (w : World) (A B C : Obj) : (((w.alloc A).alloc B).alloc C).heap[w.heap.size]? = some A ∧ (((w.alloc A).alloc B).alloc C).heap[w.heap.size + 1]? = some B ∧ (((w.alloc A).alloc B).alloc C).heap[w.heap.size + 2]? = some C := by
  have e1 : (w.alloc A).heap.size = w.heap.size + 1 := by simp
  have e2 : ((w.alloc A).alloc B).heap.size = w.heap.size + 2 := by simp
  refine ⟨?_, ?_, ?_⟩
  · rw [Below.heap_alloc _ _ _ (by omega), Below.heap_alloc _ _ _ (by omega)]; exact heap_alloc_new w A
  · rw [Below.heap_alloc _ _ _ (by omega), ← e1]; exact heap_alloc_new _ B
  · rw [← e2]; exact heap_alloc_new _ C
theorem mem_made (w : World) (base nf nr : Nat) (F R : Int) (hb : base ≤ w.heap.size) (W : World)
    (hW : W.heap = (((w.alloc (.cells (madeCells #[.int .u8 0] nf) 5)).alloc (.cells (madeCells #[.int .u8 0] nr) 5)).alloc (.cells (memCells F R nf nr w.heap.size (w.heap.size + 1)) 135)).heap) :
    MemAt W base (w.heap.size + 2) w.heap.size (w.heap.size + 1) F R (List.replicate nf 0) (List.replicate nr 0) := by
  obtain ⟨h1, h2, h3⟩ := heap_three w (.cells (madeCells #[.int .u8 0] nf) 5) (.cells (madeCells #[.int .u8 0] nr) 5) (.cells (memCells F R nf nr w.heap.size (w.heap.size + 1)) 135)
  rw [← hW] at h1 h2 h3
  exact ⟨by rw [h3, List.length_replicate, List.length_replicate], by rw [h1, made_u8s], by rw [h2, made_u8s], by omega, by omega, hb, by omega⟩
theorem mem_made' (w : World) (base nf nr : Nat) (F R : Int) (hb : base ≤ w.heap.size) (W : World)
    (hW : W.heap = (((w.alloc (.cells (madeCells #[.int .u8 0] nr) 5)).alloc (.cells (madeCells #[.int .u8 0] nf) 5)).alloc (.cells (memCells F R nf nr (w.heap.size + 1) w.heap.size) 135)).heap) :
    MemAt W base (w.heap.size + 2) (w.heap.size + 1) w.heap.size F R (List.replicate nf 0) (List.replicate nr 0) := by
  obtain ⟨h1, h2, h3⟩ := heap_three w (.cells (madeCells #[.int .u8 0] nr) 5) (.cells (madeCells #[.int .u8 0] nf) 5) (.cells (memCells F R nf nr (w.heap.size + 1) w.heap.size) 135)
  rw [← hW] at h1 h2 h3
  exact ⟨by rw [h3, List.length_replicate, List.length_replicate], by rw [h2, made_u8s], by rw [h1, made_u8s], by omega, by omega, by omega, hb⟩
def NewTold (w : World) (F R : Int) (nf nr : Nat) (e : Ending) (w' : World) : Prop :=
  ∃ g bf br, e = .returned (.tuple #[.pointer (some ⟨g, 0, none⟩), .int .i64 0]) ∧ MemAt w' w.heap.size g bf br F R (List.replicate nf 0) (List.replicate nr 0) ∧ Below w.heap.size w w'
theorem blk_alloc {w : World} {g : Nat} {o : Obj} (h : w.heap[g]? = some o) (o2 : Obj) : (w.alloc o2).heap[g]? = some o :=
  (Below.heap_alloc w o2 g (blk_lt h)).trans h
set_option maxHeartbeats 4000000 in
theorem new_yes (F R : Int) (nf nr : Nat) (w : World) (hc : mem_can.f F nf R nr = some true) (hnf : nf ≤ 1048576) (hnr : nr ≤ 1048576) :
    Calls Try.prog 61 #[.agg #[.int .u32 F, .int .u32 nf, .int .u32 R, .int .u32 nr]] w (NewTold w F R nf nr) := by
  have HC := Aside0.mk hc
  clear hc
  have hmk1 := fun W => run_make_row' (P := Try.prog) 56 5 (.int .u8 0) 1 Try.underlying56 info_u8 rfl .u32 .u32 nf (by omega) (by omega) W
  have hmk2 := fun W => run_make_row' (P := Try.prog) 56 5 (.int .u8 0) 1 Try.underlying56 info_u8 rfl .u32 .u32 nr (by omega) (by omega) W
  go_enter Try.func61, Try.ntmps61
  go_wp2_with (go_at_call 86; refine (mem_can.calls F nf R nr true _ HC.out).mono ?_; rintro e w1 ⟨rfl, hb⟩; have hblk : w1.heap[w.heap.size]? = some (.cells #[.int .u32 F, .int .u32 nf, .int .u32 R, .int .u32 nr] 82 (0, 0)) := (hb.block _ (by simp)).trans (heap_alloc_new w _); have q0 := blk_cell hblk 0; have q1 := blk_cell hblk 1;  have q2 := blk_cell hblk 2; have q3 := blk_cell hblk 3; have HB := Aside0.mk hb; have q0a := fun o => (blk_cell (blk_alloc hblk o) 0); have q1a := fun o => (blk_cell (blk_alloc hblk o) 1); have q2a := fun o => (blk_cell (blk_alloc hblk o) 2); have q3a := fun o => (blk_cell (blk_alloc hblk o) 3); have q0b := fun o o2 => (blk_cell (blk_alloc (blk_alloc hblk o) o2) 0); have q1b := fun o o2 => (blk_cell (blk_alloc (blk_alloc hblk o) o2) 1); have q2b := fun o o2 => (blk_cell (blk_alloc (blk_alloc hblk o) o2) 2); have q3b := fun o o2 => (blk_cell (blk_alloc (blk_alloc hblk o) o2) 3); clear hb hblk)
  go_region
  all_goals go_wp2
  all_goals go_ret2
  · have z1 := (Below.alloc (Below.refl w.heap.size w) (Nat.le_refl _) (.cells #[.int .u32 F, .int .u32 nf, .int .u32 R, .int .u32 nr] 82)).trans (HB.out.mono (by simp))
    first
    | exact ⟨w1.heap.size + 2, w1.heap.size, w1.heap.size + 1, rfl, mem_made w1 _ nf nr F R z1.size _ rfl, below_drew (((z1.alloc z1.size _).alloc (by have := z1.size; simp; omega) _).alloc (by have := z1.size; simp; omega) _)⟩
    | exact ⟨w1.heap.size + 2, w1.heap.size + 1, w1.heap.size, rfl, mem_made' w1 _ nf nr F R z1.size _ rfl, below_drew (((z1.alloc z1.size _).alloc (by have := z1.size; simp; omega) _).alloc (by have := z1.size; simp; omega) _)⟩
  · have z1 := (Below.alloc (Below.refl w.heap.size w) (Nat.le_refl _) (.cells #[.int .u32 F, .int .u32 nf, .int .u32 R, .int .u32 nr] 82)).trans (HB.out.mono (by simp))
    first
    | exact ⟨w1.heap.size + 2, w1.heap.size, w1.heap.size + 1, rfl, mem_made w1 _ nf nr F R z1.size _ rfl, below_drew (((z1.alloc z1.size _).alloc (by have := z1.size; simp; omega) _).alloc (by have := z1.size; simp; omega) _)⟩
    | exact ⟨w1.heap.size + 2, w1.heap.size + 1, w1.heap.size, rfl, mem_made' w1 _ nf nr F R z1.size _ rfl, below_drew (((z1.alloc z1.size _).alloc (by have := z1.size; simp; omega) _).alloc (by have := z1.size; simp; omega) _)⟩

end Go.Proofs.Ytpeljnnbknnbmaa.PD
