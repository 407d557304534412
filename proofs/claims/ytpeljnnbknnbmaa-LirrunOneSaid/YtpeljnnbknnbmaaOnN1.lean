import Derived.Test.YtpeljnnbknnbmaaOnPDx10
import Derived.Test.YtpeljnnbknnbmaaOnPDx11
import Derived.Outline
import Derived.Deep.RegionHeld3
import Derived.Deep.OwnRows
import Derived.Laws.CopyOwn
import Derived.Lib.SliceRun
import Derived.RegionTactic
import Derived.BigRegion
namespace Go.Proofs.Ytpeljnnbknnbmaa.PD
open Go.RowKit Go.Proofs.YtpeljnnbknnbmaaW.PrintWords Go.Proofs.YtpeljnnbknnbmaaW.PrintLast Go.Proofs.YtpeljnnbknnbmaaW.PrintMore
set_option linter.unusedVariables false
set_option linter.unusedSimpArgs false
/-- the world is the old one but for the blocks in S, and for new ones -/
structure Keep (S : Nat → Prop) (w w' : World) : Prop where
  os : w'.os = w.os
  tape : w'.tape = w.tape
  output : w'.output = w.output
  size : w.heap.size ≤ w'.heap.size
  block : ∀ i, i < w.heap.size → ¬ S i → w'.heap[i]? = w.heap[i]?
theorem Keep.refl (S : Nat → Prop) (w : World) : Keep S w w := ⟨rfl, rfl, rfl, Nat.le_refl _, fun _ _ _ => rfl⟩
theorem Keep.trans {S : Nat → Prop} {w w1 w2 : World} (h : Keep S w w1) (k : Keep S w1 w2) : Keep S w w2 :=
  ⟨k.os.trans h.os, k.tape.trans h.tape, k.output.trans h.output, Nat.le_trans h.size k.size, fun i hi hs => (k.block i (Nat.lt_of_lt_of_le hi h.size) hs).trans (h.block i hi hs)⟩
theorem Keep.of_below {S : Nat → Prop} {w w1 : World} (h : Below w.heap.size w w1) : Keep S w w1 := ⟨h.os, h.tape, h.output, h.size, fun i hi _ => h.block i hi⟩
theorem Keep.drewN {S : Nat → Prop} {w w1 : World} (h : Keep S w w1) (n : Nat) : Keep S w (w1.drewN n) := ⟨h.os, h.tape, h.output, h.size, h.block⟩
theorem Keep.drew {S : Nat → Prop} {w w1 : World} (h : Keep S w w1) : Keep S w w1.drew := ⟨h.os, h.tape, h.output, h.size, h.block⟩
theorem Keep.alloc {S : Nat → Prop} {w w1 : World} (h : Keep S w w1) (o : Obj) : Keep S w (w1.alloc o) := h.trans (Keep.of_below ((Below.refl _ _).alloc (Nat.le_refl _) o))
theorem Keep.setCell {S : Nat → Prop} {w w1 : World} (h : Keep S w w1) (p : Addr) (hp : S p.block) (u : Value) : Keep S w (w1.setCell p u) :=
  ⟨h.os, h.tape, h.output, by simpa [World.setCell] using h.size, fun i hi hs => (Below.heap_setCell w1 p u i (fun e => hs (e ▸ hp))).trans (h.block i hi hs)⟩
theorem Keep.setG {g : Nat} {w w1 : World} (h : Keep (· = g) w w1) (j : Nat) (u : Value) : Keep (· = g) w (w1.setCell ⟨g, j, none⟩ u) := h.setCell _ rfl _
theorem Keep.below {S : Nat → Prop} {w w1 : World} (h : Keep S w w1) (B : Nat) (hB : B ≤ w.heap.size) (hS : ∀ i, S i → B ≤ i) : Below B w w1 :=
  ⟨h.os, h.tape, h.output, h.size, fun i hi => h.block i (Nat.lt_of_lt_of_le hi hB) (fun hs => by have := hS i hs; omega)⟩
theorem rd_set (V : List Int) (d : Nat) (x : Int) (j : Nat) (hd : d < V.length) : rd (V.set d x) (j : Int) = if d = j then x else rd V (j : Int) := by
  unfold rd
  simp only [Int.toNat_natCast, List.getD_eq_getElem?_getD, List.getElem?_set]
  split
  · rename_i h; subst h; simp [hd]
  · rfl
/-- the cells of the program's runner: its steps, where loops end, its memory, where it is, 64 variables -/
structure RnC (C : Array Value) (lv ev mv : Value) (at_ : Int) (V : List Int) : Prop where
  sz : C.size = 68
  len : V.length = 64
  l : C[0]? = some lv
  e : C[1]? = some ev
  m : C[2]? = some mv
  a : C[3]? = some (.int .i64 at_)
  v : ∀ j : Nat, j < 64 → C[4 + j]? = some (.int .u32 (rd V (j : Int)))
section
variable {C : Array Value} {lv ev mv : Value} {at_ : Int} {V : List Int}
theorem RnC.setV (h : RnC C lv ev mv at_ V) (d : Nat) (hd : d < 64) (x : Int) : RnC (C.setIfInBounds (4 + d) (.int .u32 x)) lv ev mv at_ (V.set d x) := by
  obtain ⟨h1, h2, h3, h4, h5, h6, h7⟩ := h
  have hs : 4 + d < C.size := by omega
  refine ⟨by simpa using h1, by simpa using h2, ?_, ?_, ?_, ?_, fun j hj => ?_⟩
  · rw [Array.getElem?_setIfInBounds_ne (by omega)]; exact h3
  · rw [Array.getElem?_setIfInBounds_ne (by omega)]; exact h4
  · rw [Array.getElem?_setIfInBounds_ne (by omega)]; exact h5
  · rw [Array.getElem?_setIfInBounds_ne (by omega)]; exact h6
  · rw [rd_set V d x j (by omega)]
    by_cases e : d = j
    · subst e; rw [if_pos rfl, Array.getElem?_setIfInBounds_self_of_lt hs]
    · rw [if_neg e, Array.getElem?_setIfInBounds_ne (by omega)]; exact h7 j hj
theorem RnC.setA (h : RnC C lv ev mv at_ V) (x : Int) : RnC (C.setIfInBounds 3 (.int .i64 x)) lv ev mv x V := by
  obtain ⟨h1, h2, h3, h4, h5, h6, h7⟩ := h
  refine ⟨by simpa using h1, h2, ?_, ?_, ?_, ?_, fun j hj => ?_⟩
  · rw [Array.getElem?_setIfInBounds_ne (by omega)]; exact h3
  · rw [Array.getElem?_setIfInBounds_ne (by omega)]; exact h4
  · rw [Array.getElem?_setIfInBounds_ne (by omega)]; exact h5
  · rw [Array.getElem?_setIfInBounds_self_of_lt (by omega)]
  · rw [Array.getElem?_setIfInBounds_ne (by omega)]; exact h7 j hj
end
/-- a runner lies in block g -/
def RnAt (w : World) (g : Nat) (lv ev mv : Value) (at_ : Int) (V : List Int) : Prop := ∃ C, w.heap[g]? = some (.cells C 102 (0, 0)) ∧ RnC C lv ev mv at_ V
section
variable {w w1 : World} {g : Nat} {lv ev mv : Value} {at_ : Int} {V : List Int}
theorem RnAt.lt (h : RnAt w g lv ev mv at_ V) : g < w.heap.size := by
  obtain ⟨C, hC, _⟩ := h
  exact blk_lt hC
theorem RnAt.frozen (h : RnAt w g lv ev mv at_ V) (j : Nat) : w.frozen? ⟨g, j, none⟩ = false := by
  obtain ⟨C, hC, _⟩ := h
  exact blk_frozen hC j
theorem RnAt.gl (h : RnAt w g lv ev mv at_ V) : w.cell? ⟨g, 0, none⟩ = some lv := by
  obtain ⟨C, hC, r⟩ := h; rw [blk_cell hC]; exact r.l
theorem RnAt.ge (h : RnAt w g lv ev mv at_ V) : w.cell? ⟨g, 1, none⟩ = some ev := by
  obtain ⟨C, hC, r⟩ := h; rw [blk_cell hC]; exact r.e
theorem RnAt.gm (h : RnAt w g lv ev mv at_ V) : w.cell? ⟨g, 2, none⟩ = some mv := by
  obtain ⟨C, hC, r⟩ := h; rw [blk_cell hC]; exact r.m
theorem RnAt.ga (h : RnAt w g lv ev mv at_ V) : w.cell? ⟨g, 3, none⟩ = some (.int .i64 at_) := by
  obtain ⟨C, hC, r⟩ := h; rw [blk_cell hC]; exact r.a
theorem RnAt.gv (h : RnAt w g lv ev mv at_ V) (j : Nat) (hj : j < 64) : w.cell? ⟨g, 4 + j, none⟩ = some (.int .u32 (rd V (j : Int))) := by
  obtain ⟨C, hC, r⟩ := h; rw [blk_cell hC]; exact r.v j hj
theorem RnAt.below (h : RnAt w g lv ev mv at_ V) (hb : Below w.heap.size w w1) : RnAt w1 g lv ev mv at_ V := by
  obtain ⟨C, hC, r⟩ := h
  exact ⟨C, (hb.block g (blk_lt hC)).trans hC, r⟩
theorem RnAt.drew (h : RnAt w g lv ev mv at_ V) : RnAt w.drew g lv ev mv at_ V := h
theorem RnAt.drewN (h : RnAt w g lv ev mv at_ V) (n : Nat) : RnAt (w.drewN n) g lv ev mv at_ V := h
theorem RnAt.alloc (h : RnAt w g lv ev mv at_ V) (o : Obj) : RnAt (w.alloc o) g lv ev mv at_ V := h.below ((Below.refl _ _).alloc (Nat.le_refl _) o)
theorem RnAt.setV (h : RnAt w g lv ev mv at_ V) (d : Nat) (hd : d < 64) (x : Int) : RnAt (w.setCell ⟨g, 4 + d, none⟩ (.int .u32 x)) g lv ev mv at_ (V.set d x) := by
  obtain ⟨C, hC, r⟩ := h
  exact ⟨_, heap_setCell_same w g (4 + d) C 102 _ hC, r.setV d hd x⟩
theorem RnAt.setA (h : RnAt w g lv ev mv at_ V) (x : Int) : RnAt (w.setCell ⟨g, 3, none⟩ (.int .i64 x)) g lv ev mv x V := by
  obtain ⟨C, hC, r⟩ := h
  exact ⟨_, heap_setCell_same w g 3 C 102 _ hC, r.setA x⟩
end
/-- what a plain step leaves -/
def PlainTold (w : World) (g : Nat) (lv ev mv : Value) (at_ : Int) (V : List Int) (e : Ending) (w' : World) : Prop := e = .returned (.tuple #[]) ∧ RnAt w' g lv ev mv at_ V ∧ Keep (· = g) w w'
set_option maxRecDepth 100000 in
set_option maxHeartbeats 4000000 in
theorem plain_set (w : World) (g : Nat) (lv ev mv : Value) (at_ : Int) (V : List Int) (h : RnAt w g lv ev mv at_ V) (op : Int) (ho : op = 1 ∨ op = 23) (d : Nat) (hd : d < 64) (A B imm : Int) :
    Calls Try.prog 60 #[.pointer (some ⟨g, 0, none⟩), .agg #[.int .i64 op, .int .i64 d, .int .i64 A, .int .i64 B, .int .i32 imm]] w (PlainTold w g lv ev mv at_ (V.set d (imm % 4294967296))) := by
  have h3 := h.gv d hd
  have hfz := h.frozen (4 + d)
  have hlt := h.lt
  have hdi : (d : Int) < 64 := by omega
  have HR := Aside0.mk h
  clear h
  rcases ho with rfl | rfl
  all_goals
    go_enter Try.func60, Try.ntmps60
    go_wp2
    go_region
    go_wp2
    go_end0
    exact ⟨rfl, by repeat (first | exact HR.out | exact RnAt.setV HR.out d hd _ | apply RnAt.drew | apply RnAt.drewN | apply RnAt.alloc), by repeat (first | exact Keep.refl _ _ | apply Keep.drew | apply Keep.drewN | apply Keep.alloc | apply Keep.setG)⟩
set_option maxRecDepth 100000 in
set_option maxHeartbeats 4000000 in
theorem plain_move (w : World) (g : Nat) (lv ev mv : Value) (at_ : Int) (V : List Int) (h : RnAt w g lv ev mv at_ V) (d a : Nat) (hd : d < 64) (ha : a < 64) (B imm : Int) :
    Calls Try.prog 60 #[.pointer (some ⟨g, 0, none⟩), .agg #[.int .i64 2, .int .i64 d, .int .i64 a, .int .i64 B, .int .i32 imm]] w (PlainTold w g lv ev mv at_ (V.set d (rd V a))) := by
  have h3 := h.gv d hd
  have h4 := h.gv a ha
  have hfz := h.frozen (4 + d)
  have hlt := h.lt
  have hdi : (d : Int) < 64 := by omega
  have hai : (a : Int) < 64 := by omega
  have HR := Aside0.mk h
  clear h
  go_enter Try.func60, Try.ntmps60
  go_wp2
  go_region
  go_wp2
  go_end0
  exact ⟨rfl, by repeat (first | exact HR.out | exact RnAt.setV HR.out d hd _ | apply RnAt.drew | apply RnAt.drewN | apply RnAt.alloc), by repeat (first | exact Keep.refl _ _ | apply Keep.drew | apply Keep.drewN | apply Keep.alloc | apply Keep.setG)⟩
end Go.Proofs.Ytpeljnnbknnbmaa.PD
