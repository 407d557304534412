import Derived.Test.YtpeljnnbknnbmaaM2
import Derived.Outline
import Derived.Deep.RegionHeld3
import Derived.Deep.OwnRows
import Derived.Laws.CopyOwn
import Derived.Lib.SliceRun
import Derived.RegionTactic
import Derived.BigRegion
namespace Go.Proofs.Ytpeljnnbknnbmaa.PA
open Go.RowKit Go.Proofs.YtpeljnnbknnbmaaW.PrintWords Go.Proofs.YtpeljnnbknnbmaaW.PrintLast Go.Proofs.YtpeljnnbknnbmaaW.PrintMore
set_option linter.unusedVariables false
set_option linter.unusedSimpArgs false
/-- the cells of the document's runner: its memory, 64 variables, steps, fuel, trap -/
structure RunC (C : Array Value) (mv : Value) (V : List Int) (st fu tr : Int) : Prop where
  sz : C.size = 68
  len : V.length = 64
  m : C[0]? = some mv
  v : ∀ j : Nat, j < 64 → C[1 + j]? = some (.int .u32 (rd V (j : Int)))
  st : C[65]? = some (.int .i64 st)
  fu : C[66]? = some (.int .i64 fu)
  tr : C[67]? = some (.int .i64 tr)
theorem rd_set (V : List Int) (d : Nat) (x : Int) (j : Nat) (hd : d < V.length) : rd (V.set d x) (j : Int) = if d = j then x else rd V (j : Int) := by
  unfold rd
  simp only [Int.toNat_natCast, List.getD_eq_getElem?_getD, List.getElem?_set]
  split
  · rename_i h; subst h; simp [hd]
  · rfl
section
variable {C : Array Value} {mv : Value} {V : List Int} {st fu tr : Int}
theorem RunC.setV (h : RunC C mv V st fu tr) (d : Nat) (hd : d < 64) (x : Int) : RunC (C.setIfInBounds (1 + d) (.int .u32 x)) mv (V.set d x) st fu tr := by
  obtain ⟨h1, h2, h3, h4, h5, h6, h7⟩ := h
  have hs : 1 + d < C.size := by omega
  refine ⟨by simpa using h1, by simpa using h2, ?_, fun j hj => ?_, ?_, ?_, ?_⟩
  · rw [Array.getElem?_setIfInBounds_ne (by omega)]; exact h3
  · rw [rd_set V d x j (by omega)]
    by_cases e : d = j
    · subst e; rw [if_pos rfl, Array.getElem?_setIfInBounds_self_of_lt hs]
    · rw [if_neg e, Array.getElem?_setIfInBounds_ne (by omega)]; exact h4 j hj
  · rw [Array.getElem?_setIfInBounds_ne (by omega)]; exact h5
  · rw [Array.getElem?_setIfInBounds_ne (by omega)]; exact h6
  · rw [Array.getElem?_setIfInBounds_ne (by omega)]; exact h7
theorem RunC.setSt (h : RunC C mv V st fu tr) (x : Int) : RunC (C.setIfInBounds 65 (.int .i64 x)) mv V x fu tr := by
  obtain ⟨h1, h2, h3, h4, h5, h6, h7⟩ := h
  refine ⟨by simpa using h1, h2, ?_, fun j hj => ?_, ?_, ?_, ?_⟩
  · rw [Array.getElem?_setIfInBounds_ne (by omega)]; exact h3
  · rw [Array.getElem?_setIfInBounds_ne (by omega)]; exact h4 j hj
  · rw [Array.getElem?_setIfInBounds_self_of_lt (by omega)]
  · rw [Array.getElem?_setIfInBounds_ne (by omega)]; exact h6
  · rw [Array.getElem?_setIfInBounds_ne (by omega)]; exact h7
theorem RunC.setTr (h : RunC C mv V st fu tr) (x : Int) : RunC (C.setIfInBounds 67 (.int .i64 x)) mv V st fu x := by
  obtain ⟨h1, h2, h3, h4, h5, h6, h7⟩ := h
  refine ⟨by simpa using h1, h2, ?_, fun j hj => ?_, ?_, ?_, ?_⟩
  · rw [Array.getElem?_setIfInBounds_ne (by omega)]; exact h3
  · rw [Array.getElem?_setIfInBounds_ne (by omega)]; exact h4 j hj
  · rw [Array.getElem?_setIfInBounds_ne (by omega)]; exact h5
  · rw [Array.getElem?_setIfInBounds_ne (by omega)]; exact h6
  · rw [Array.getElem?_setIfInBounds_self_of_lt (by omega)]
end
/-- a runner lies in block g -/
def RunAt (w : World) (g : Nat) (mv : Value) (V : List Int) (st fu tr : Int) : Prop := ∃ C, w.heap[g]? = some (.cells C 63 (0, 0)) ∧ RunC C mv V st fu tr
section
variable {w w1 : World} {g : Nat} {mv : Value} {V : List Int} {st fu tr : Int}
theorem RunAt.lt (h : RunAt w g mv V st fu tr) : g < w.heap.size := by
  obtain ⟨C, hC, _⟩ := h
  exact (Array.getElem?_eq_some_iff.1 hC).1
theorem RunAt.frozen (h : RunAt w g mv V st fu tr) (j : Nat) : w.frozen? ⟨g, j, none⟩ = false := by
  obtain ⟨C, hC, _⟩ := h
  exact frozen_of_row w g j C 63 hC
theorem RunAt.m (h : RunAt w g mv V st fu tr) : w.cell? ⟨g, 0, none⟩ = some mv := by
  obtain ⟨C, hC, r⟩ := h
  rw [cell_of_row w g 0 C 63 _ hC]; exact r.m
theorem RunAt.v (h : RunAt w g mv V st fu tr) (j : Nat) (hj : j < 64) : w.cell? ⟨g, 1 + j, none⟩ = some (.int .u32 (rd V (j : Int))) := by
  obtain ⟨C, hC, r⟩ := h
  rw [cell_of_row w g (1 + j) C 63 _ hC]; exact r.v j hj
theorem RunAt.gst (h : RunAt w g mv V st fu tr) : w.cell? ⟨g, 65, none⟩ = some (.int .i64 st) := by
  obtain ⟨C, hC, r⟩ := h
  rw [cell_of_row w g 65 C 63 _ hC]; exact r.st
theorem RunAt.gfu (h : RunAt w g mv V st fu tr) : w.cell? ⟨g, 66, none⟩ = some (.int .i64 fu) := by
  obtain ⟨C, hC, r⟩ := h
  rw [cell_of_row w g 66 C 63 _ hC]; exact r.fu
theorem RunAt.gtr (h : RunAt w g mv V st fu tr) : w.cell? ⟨g, 67, none⟩ = some (.int .i64 tr) := by
  obtain ⟨C, hC, r⟩ := h
  rw [cell_of_row w g 67 C 63 _ hC]; exact r.tr
theorem RunAt.move (h : RunAt w g mv V st fu tr) (hm : w1.heap[g]? = w.heap[g]?) : RunAt w1 g mv V st fu tr := by
  obtain ⟨C, hC, r⟩ := h
  exact ⟨C, hm.trans hC, r⟩
theorem RunAt.drewN (h : RunAt w g mv V st fu tr) (n : Nat) : RunAt (w.drewN n) g mv V st fu tr := h
theorem RunAt.below (h : RunAt w g mv V st fu tr) (hb : Below w.heap.size w w1) : RunAt w1 g mv V st fu tr := h.move (hb.block g h.lt)
theorem RunAt.setV (h : RunAt w g mv V st fu tr) (d : Nat) (hd : d < 64) (x : Int) : RunAt (w.setCell ⟨g, 1 + d, none⟩ (.int .u32 x)) g mv (V.set d x) st fu tr := by
  obtain ⟨C, hC, r⟩ := h
  exact ⟨_, heap_setCell_same w g (1 + d) C 63 _ hC, r.setV d hd x⟩
theorem RunAt.setSt (h : RunAt w g mv V st fu tr) (x : Int) : RunAt (w.setCell ⟨g, 65, none⟩ (.int .i64 x)) g mv V x fu tr := by
  obtain ⟨C, hC, r⟩ := h
  exact ⟨_, heap_setCell_same w g 65 C 63 _ hC, r.setSt x⟩
theorem RunAt.setTr (h : RunAt w g mv V st fu tr) (x : Int) : RunAt (w.setCell ⟨g, 67, none⟩ (.int .i64 x)) g mv V st fu x := by
  obtain ⟨C, hC, r⟩ := h
  exact ⟨_, heap_setCell_same w g 67 C 63 _ hC, r.setTr x⟩
end
theorem ends_calls (w : World) (g : Nat) (mv : Value) (V : List Int) (st fu tr : Int) (h : RunAt w g mv V st fu tr) :
    Calls Try.prog 65 #[.pointer (some ⟨g, 0, none⟩)] w fun e w' => e = .returned (.bool (decide (tr ≠ 0 ∨ fu ≤ st))) ∧ Drawn0 w w' := by
  have h1 := h.gst
  have h2 := h.gfu
  have h3 := h.gtr
  clear h
  by_cases ht : tr = 0
  · have hd : decide (tr = 0) = true := decide_eq_true ht
    have hd1 : (tr != 0) = false := by simp [ht]
    have he : (decide (tr ≠ 0 ∨ fu ≤ st)) = decide (fu ≤ st) := by simp [ht]
    rw [he]
    clear he ht
    go_enter Try.func65, Try.ntmps65
    go_wp2
    go_quiet (fail)
    go_wp2
    go_ret
    exact ⟨rfl, ⟨_, rfl⟩⟩
  · have hd : decide (tr = 0) = false := decide_eq_false ht
    have hd1 : (tr != 0) = true := by simp [ht]
    have he : (decide (tr ≠ 0 ∨ fu ≤ st)) = true := by simp [ht]
    rw [he]
    clear he ht
    go_enter Try.func65, Try.ntmps65
    go_wp2
    go_quiet (fail)
    go_wp2
    go_ret
    exact ⟨rfl, ⟨_, rfl⟩⟩

/-- the world is the old one but for the blocks in S, and for new ones -/
structure Keep (S : Nat → Prop) (w w' : World) : Prop where
  os : w'.os = w.os
  tape : w'.tape = w.tape
  output : w'.output = w.output
  size : w.heap.size ≤ w'.heap.size
  block : ∀ i, i < w.heap.size → ¬ S i → w'.heap[i]? = w.heap[i]?
theorem Keep.refl (S : Nat → Prop) (w : World) : Keep S w w := ⟨rfl, rfl, rfl, Nat.le_refl _, fun _ _ _ => rfl⟩
theorem Keep.trans {S : Nat → Prop} {w w1 w2 : World} (h : Keep S w w1) (k : Keep S w1 w2) : Keep S w w2 :=
  ⟨k.os.trans h.os, k.tape.trans h.tape, k.output.trans h.output, Nat.le_trans h.size k.size, fun i hi hs => (k.block i (Nat.lt_of_lt_of_le hi h.size) hs).trans (h.block i hi hs)⟩
theorem Keep.of_below {S : Nat → Prop} {w w1 : World} (h : Below w.heap.size w w1) : Keep S w w1 := ⟨h.os, h.tape, h.output, h.size, fun i hi _ => h.block i hi⟩
theorem Keep.drewN {S : Nat → Prop} {w w1 : World} (h : Keep S w w1) (n : Nat) : Keep S w (w1.drewN n) := ⟨h.os, h.tape, h.output, h.size, h.block⟩
theorem Keep.drew {S : Nat → Prop} {w w1 : World} (h : Keep S w w1) : Keep S w w1.drew := ⟨h.os, h.tape, h.output, h.size, h.block⟩
theorem Keep.alloc {S : Nat → Prop} {w w1 : World} (h : Keep S w w1) (o : Obj) : Keep S w (w1.alloc o) := h.trans (Keep.of_below ((Below.refl _ _).alloc (Nat.le_refl _) o))
theorem Keep.setCell {S : Nat → Prop} {w w1 : World} (h : Keep S w w1) (p : Addr) (hp : S p.block) (u : Value) : Keep S w (w1.setCell p u) :=
  ⟨h.os, h.tape, h.output, by simpa [World.setCell] using h.size, fun i hi hs => (Below.heap_setCell w1 p u i (fun e => hs (e ▸ hp))).trans (h.block i hi hs)⟩
theorem Keep.setG {g : Nat} {w w1 : World} (h : Keep (· = g) w w1) (j : Nat) (u : Value) : Keep (· = g) w (w1.setCell ⟨g, j, none⟩ u) := h.setCell _ rfl _
theorem Keep.below {S : Nat → Prop} {w w1 : World} (h : Keep S w w1) (B : Nat) (hB : B ≤ w.heap.size) (hS : ∀ i, S i → B ≤ i) : Below B w w1 :=
  ⟨h.os, h.tape, h.output, h.size, fun i hi => h.block i (Nat.lt_of_lt_of_le hi hB) (fun hs => by have := hS i hs; omega)⟩
theorem Keep.mono {S T : Nat → Prop} {w w1 : World} (h : Keep S w w1) (hST : ∀ i, S i → T i) : Keep T w w1 := ⟨h.os, h.tape, h.output, h.size, fun i hi hs => h.block i hi (fun k => hs (hST i k))⟩
theorem RunAt.alloc {w : World} {g : Nat} {mv : Value} {V : List Int} {st fu tr : Int} (h : RunAt w g mv V st fu tr) (o : Obj) : RunAt (w.alloc o) g mv V st fu tr := h.below ((Below.refl _ _).alloc (Nat.le_refl _) o)
theorem RunAt.drew {w : World} {g : Nat} {mv : Value} {V : List Int} {st fu tr : Int} (h : RunAt w g mv V st fu tr) : RunAt w.drew g mv V st fu tr := h
/-- what a step leaves: the runner, all else -/
def OneTold (w : World) (g : Nat) (mv : Value) (V : List Int) (st fu tr : Int) (e : Ending) (w' : World) : Prop := e = .returned (.tuple #[]) ∧ RunAt w' g mv V st fu tr ∧ Keep (· = g) w w'
set_option maxHeartbeats 4000000 in
theorem one_set (w : World) (g : Nat) (mv : Value) (V : List Int) (st fu : Int) (h : RunAt w g mv V st fu 0) (hst : 0 ≤ st) (hst2 : st < 9223372036854775807) (d : Nat) (hd : d < 64) (A B imm : Int) :
    Calls Try.prog 66 #[.pointer (some ⟨g, 0, none⟩), .agg #[.int .i64 1, .int .i64 d, .int .i64 A, .int .i64 B, .int .i32 imm]] w (OneTold w g mv (V.set d (imm % 4294967296)) (st + 1) fu 0) := by
  have h1 := h.gst
  have h2 := h.gtr
  have h3 := h.v d hd
  have hfz := h.frozen (1 + d)
  have hfz2 := h.frozen 65
  have hlt := h.lt
  have hdi : (d : Int) < 64 := by omega
  have n1 : ¬ (1 + d = 65) := by omega
  have n2 : ¬ (1 + d = 67) := by omega
  have n3 : ¬ (65 = 1 + d) := by omega
  have n4 : ¬ (67 = 1 + d) := by omega
  have HR := Aside0.mk h
  clear h
  go_enter Try.func66, Try.ntmps66
  go_wp2
  go_region
  go_wp2
  go_end0
  exact ⟨rfl, by repeat (first | exact HR.out | exact RunAt.setSt (RunAt.setV HR.out d hd _) _ | apply RunAt.drew | apply RunAt.drewN | apply RunAt.alloc), by repeat (first | exact Keep.refl _ _ | apply Keep.drew | apply Keep.drewN | apply Keep.alloc | apply Keep.setG)⟩
set_option maxHeartbeats 4000000 in
theorem one_move (w : World) (g : Nat) (mv : Value) (V : List Int) (st fu : Int) (h : RunAt w g mv V st fu 0) (hst : 0 ≤ st) (hst2 : st < 9223372036854775807) (d a : Nat) (hd : d < 64) (ha : a < 64) (B imm : Int) :
    Calls Try.prog 66 #[.pointer (some ⟨g, 0, none⟩), .agg #[.int .i64 2, .int .i64 d, .int .i64 a, .int .i64 B, .int .i32 imm]] w (OneTold w g mv (V.set d (rd V a)) (st + 1) fu 0) := by
  have h1 := h.gst
  have h2 := h.gtr
  have h3 := h.v d hd
  have h4 := h.v a ha
  have hfz := h.frozen (1 + d)
  have hfz2 := h.frozen 65
  have hlt := h.lt
  have hdi : (d : Int) < 64 := by omega
  have hai : (a : Int) < 64 := by omega
  have n1 : ¬ (1 + d = 65) := by omega
  have n2 : ¬ (1 + d = 67) := by omega
  have n3 : ¬ (65 = 1 + d) := by omega
  have n4 : ¬ (67 = 1 + d) := by omega
  have HR := Aside0.mk h
  clear h
  go_enter Try.func66, Try.ntmps66
  go_wp2
  go_region
  go_wp2
  go_end0
  exact ⟨rfl, by repeat (first | exact HR.out | exact RunAt.setSt (RunAt.setV HR.out d hd _) _ | apply RunAt.drew | apply RunAt.drewN | apply RunAt.alloc), by repeat (first | exact Keep.refl _ _ | apply Keep.drew | apply Keep.drewN | apply Keep.alloc | apply Keep.setG)⟩
end Go.Proofs.Ytpeljnnbknnbmaa.PA
