import Derived.Test.YtpeljnnbknnbmaaOnPDx9
import Derived.Test.YtpeljnnbknnbmaaOnN8
import Derived.StillTailTactics
import Derived.Outline
import Derived.Test.YtpeljnnbknnbmaaOnPDx0
section
section
namespace Go.Proofs.Ytpeljnnbknnbmaa.PD
open Go.RowKit Go.Proofs.YtpeljnnbknnbmaaW.PrintWords Go.Proofs.YtpeljnnbknnbmaaW.PrintLast Go.Proofs.YtpeljnnbknnbmaaW.PrintMore
set_option linter.unusedVariables false
set_option linter.unusedSimpArgs false
/-- the runner and its memory, in one world -/
structure RM (w : World) (base g : Nat) (lv ev : Value) (at_ : Int) (V : List Int) (gm bf br : Nat) (F R : Int) (fl rl : List Int) : Prop where
  rn : RnAt w g lv ev (.pointer (some ⟨gm, 0, none⟩)) at_ V
  mm : MemAt w base gm bf br F R fl rl
  bg : base ≤ g
  n1 : g ≠ gm
  n2 : g ≠ bf
  n3 : g ≠ br
/-- what a step of memory leaves: whether it traps, the variables, the bytes -/
def MemStep (w : World) (base g : Nat) (lv ev : Value) (at_ : Int) (V : List Int) (gm bf br : Nat) (F R : Int) (fl rl : List Int) (t : Int) (e : Ending) (w' : World) : Prop :=
  e = .returned (.int .i64 t) ∧ RM w' base g lv ev at_ V gm bf br F R fl rl ∧ Keep (fun i => i = g ∨ i = br) w w'
theorem RnAt.but {w w1 : World} {g br : Nat} {lv ev mv : Value} {at_ : Int} {V : List Int} (h : RnAt w g lv ev mv at_ V) (hk : KeepBut w w1 br none) (hg : g ≠ br) : RnAt w1 g lv ev mv at_ V := by
  obtain ⟨C, hC, r⟩ := h
  exact ⟨C, hk.blk hC hg (by simp), r⟩
theorem Keep.but {w W w1 : World} {g br base : Nat} (h : Keep (fun i => i = g ∨ i = br) w W) (hk : KeepBut W w1 br none) (hb : Below base W w1) : Keep (fun i => i = g ∨ i = br) w w1 :=
  h.trans ⟨hb.os, hb.tape, hb.output, hk.1, fun i hi hs => hk.2 i hi (fun e => hs (Or.inr e)) (by simp)⟩
set_option maxRecDepth 100000 in
set_option maxHeartbeats 8000000 in
theorem mem_store8 (w : World) (base g : Nat) (lv ev : Value) (at_ : Int) (V : List Int) (gm bf br : Nat) (F R : Int) (fl rl : List Int) (h : RM w base g lv ev at_ V gm bf br F R fl rl) (hF : MemFit F R fl.length rl.length) (hu : ∀ x ∈ V, U32 x) (hl : V.length = 64) (a b : Nat) (ha : a < 64) (hb : b < 64) (D imm : Int) :
    Calls Try.prog 59 #[.pointer (some ⟨g, 0, none⟩), .agg #[.int .i64 21, .int .i64 D, .int .i64 a, .int .i64 b, .int .i32 imm]] w (MemStep w base g lv ev at_ V gm bf br F R fl (storeL R rl ((rd V a + imm) % 4294967296) 1 (rd V b)) (storeT R rl.length ((rd V a + imm) % 4294967296) 1)) := by
  have h3 := h.rn.gv a ha
  have h4 := h.rn.gv b hb
  have h5 := h.rn.gm
  have hlt := h.rn.lt
  have hai : (a : Int) < 64 := by omega
  have hbi : (b : Int) < 64 := by omega
  obtain ⟨ad, had⟩ : ∃ ad, ad = (rd V a + imm) % 4294967296 := ⟨_, rfl⟩
  have had' : (rd V a + imm) % 4294967296 = ad := had.symm
  have hub := rd_u32 hl hu b hb
  obtain ⟨vb, hvb⟩ : ∃ vb, vb = rd V (b : Int) := ⟨_, rfl⟩
  obtain ⟨va, hva⟩ : ∃ va, va = rd V (a : Int) := ⟨_, rfl⟩
  rw [← hvb] at h4 hub
  rw [← hva] at h3 had'
  rw [← had, ← hvb]
  have had0 : 0 ≤ ad ∧ ad < 4294967296 := by rw [had]; omega
  have HS := Aside0.mk (fun (W : World) (hm : MemAt W base gm bf br F R fl rl) => store_calls base gm bf br F R fl rl ad 1 vb W hm hF had0.1 had0.2 hub.1 hub.2 (by decide))
  have HR := Aside0.mk h
  have HVB := Aside0.mk hvb
  have hb' := hb
  clear had hvb hva hF hu hl had0 hub
  go_enter Try.func59, Try.ntmps59
  go_wp2
  go_quiet (fail)
  go_wp2
  have HMM := Aside0.mk (show MemAt ((w.alloc (.cells #[.int .i64 21, .int .i64 D, .int .i64 a, .int .i64 b, .int .i32 imm] 49)).drewN (nq + 1)) base gm bf br F R fl rl from HR.out.mm.below (pw_below_drewN (below_alloc (Below.refl _ _) _) _))
  have HRN := Aside0.mk (show RnAt ((w.alloc (.cells #[.int .i64 21, .int .i64 D, .int .i64 a, .int .i64 b, .int .i32 imm] 49)).drewN (nq + 1)) g lv ev (.pointer (some ⟨gm, 0, none⟩)) at_ V from HR.out.rn.alloc _)
  have HBX := Aside0.mk (show ((w.alloc (.cells #[.int .i64 21, .int .i64 D, .int .i64 a, .int .i64 b, .int .i32 imm] 49)).drewN (nq + 1)).heap[w.heap.size]? = _ from heap_alloc_new w _)
  have HKP := Aside0.mk (show Keep (fun i => i = g ∨ i = br) w ((w.alloc (.cells #[.int .i64 21, .int .i64 D, .int .i64 a, .int .i64 b, .int .i32 imm] 49)).drewN (nq + 1)) from ((Keep.refl _ _).alloc _).drewN _)
  have HN3 := Aside0.mk HR.out.n3
  have HNB := Aside0.mk (show w.heap.size ≠ br from by have := HR.out.mm.lt; omega)
  refine wp_region_held_drew (S := fun W' => W'.cell? ⟨w.heap.size, 3, none⟩ = some (.int .i64 b) ∧ W'.cell? ⟨g, 2, none⟩ = some (.pointer (some ⟨gm, 0, none⟩)) ∧ W'.cell? ⟨g, 4 + b, none⟩ = some (.int .u32 vb)) (by kernel_rfl) ⟨blk_cell HBX.out 3, HRN.out.gm, by have := HRN.out.gv b hb'; rw [← HVB.out] at this; exact this⟩ (fun hHeld => ?_)
  refine wpAnyH_take (i := 0) (v := ?_) rfl (by kernel_rfl) (by kernel_rfl) (by kernel_rfl) (fun _ _ _ h => h) (Or.inl ⟨by rfl, ?_⟩) (by assumption) ?_
  rotate_left
  · (intro w hSw; go_simp; (try with_reducible rfl))
  try simp only [Act.put, List.getElem_toArray, List.getElem_cons_succ, List.getElem_cons_zero, List.setIfInBounds_toArray, List.set_cons_zero, List.set_cons_succ]
  refine wpAnyH_take (i := 1) (v := ?_) rfl (by kernel_rfl) (by kernel_rfl) (by kernel_rfl) (fun _ _ _ h => h) (Or.inl ⟨by rfl, ?_⟩) (by assumption) ?_
  rotate_left
  · (intro w hSw; go_simp; (try with_reducible rfl))
  try simp only [Act.put, List.getElem_toArray, List.getElem_cons_succ, List.getElem_cons_zero, List.setIfInBounds_toArray, List.set_cons_zero, List.set_cons_succ]
  refine wpAnyH_take (i := 2) (v := ?_) rfl (by kernel_rfl) (by kernel_rfl) (by kernel_rfl) (fun _ _ _ h => h) (Or.inl ⟨by rfl, ?_⟩) (by assumption) ?_
  rotate_left
  · (intro w hSw; go_simp; (try with_reducible rfl))
  try simp only [Act.put, List.getElem_toArray, List.getElem_cons_succ, List.getElem_cons_zero, List.setIfInBounds_toArray, List.set_cons_zero, List.set_cons_succ]
  refine wpAnyH_take (i := 3) (v := ?_) rfl (by kernel_rfl) (by kernel_rfl) (by kernel_rfl) (fun _ _ _ h => h) (Or.inl ⟨by rfl, ?_⟩) (by assumption) ?_
  rotate_left
  · (intro w hSw; go_simp; (try with_reducible rfl))
  try simp only [Act.put, List.getElem_toArray, List.getElem_cons_succ, List.getElem_cons_zero, List.setIfInBounds_toArray, List.set_cons_zero, List.set_cons_succ]
  refine wpAnyH_take (i := 4) (v := ?_) rfl (by kernel_rfl) (by kernel_rfl) (by kernel_rfl) (fun _ _ _ h => h) (Or.inl ⟨by rfl, ?_⟩) (by assumption) ?_
  rotate_left
  · (intro w hSw; go_simp; (try with_reducible rfl))
  try simp only [Act.put, List.getElem_toArray, List.getElem_cons_succ, List.getElem_cons_zero, List.setIfInBounds_toArray, List.set_cons_zero, List.set_cons_succ]
  refine wpAnyH_take (i := 5) (v := ?_) rfl (by kernel_rfl) (by kernel_rfl) (by kernel_rfl) (fun _ _ _ h => h) (Or.inl ⟨by rfl, ?_⟩) (by assumption) ?_
  rotate_left
  · (intro w hSw; go_simp; (try with_reducible rfl))
  try simp only [Act.put, List.getElem_toArray, List.getElem_cons_succ, List.getElem_cons_zero, List.setIfInBounds_toArray, List.set_cons_zero, List.set_cons_succ]
  refine wpAnyH_take (i := 6) (v := ?_) rfl (by kernel_rfl) (by kernel_rfl) (by kernel_rfl) (fun _ _ _ h => h) (Or.inl ⟨by rfl, ?_⟩) (by assumption) ?_
  rotate_left
  · (intro w hSw; go_simp; (try with_reducible rfl))
  try simp only [Act.put, List.getElem_toArray, List.getElem_cons_succ, List.getElem_cons_zero, List.setIfInBounds_toArray, List.set_cons_zero, List.set_cons_succ]
  refine wpAnyH_take (i := 7) (v := ?_) rfl (by kernel_rfl) (by kernel_rfl) (by kernel_rfl) (fun _ _ _ h => h) (Or.inl ⟨by rfl, ?_⟩) (by assumption) ?_
  rotate_left
  · (intro w hSw; go_simp; (try with_reducible rfl))
  try simp only [Act.put, List.getElem_toArray, List.getElem_cons_succ, List.getElem_cons_zero, List.setIfInBounds_toArray, List.set_cons_zero, List.set_cons_succ]
  refine wpAnyH_take (i := 8) (v := ?_) rfl (by kernel_rfl) (by kernel_rfl) (by kernel_rfl) (fun _ _ _ h => h) (Or.inl ⟨by rfl, ?_⟩) (by assumption) ?_
  rotate_left
  · (intro w hSw; go_simp; (try with_reducible rfl))
  try simp only [Act.put, List.getElem_toArray, List.getElem_cons_succ, List.getElem_cons_zero, List.setIfInBounds_toArray, List.set_cons_zero, List.set_cons_succ]
  refine wpAnyH_take (i := 9) (v := ?_) rfl (by kernel_rfl) (by kernel_rfl) (by kernel_rfl) (fun _ _ _ h => h) (Or.inl ⟨by rfl, ?_⟩) (by assumption) ?_
  rotate_left
  · (intro w hSw; go_simp; (try with_reducible rfl))
  try simp only [Act.put, List.getElem_toArray, List.getElem_cons_succ, List.getElem_cons_zero, List.setIfInBounds_toArray, List.set_cons_zero, List.set_cons_succ]
  refine wpAnyH_take (i := 10) (v := ?_) rfl (by kernel_rfl) (by kernel_rfl) (by kernel_rfl) (fun _ _ _ h => h) (Or.inl ⟨by rfl, ?_⟩) (by assumption) ?_
  rotate_left
  · (intro w hSw; go_simp; (try with_reducible rfl))
  try simp only [Act.put, List.getElem_toArray, List.getElem_cons_succ, List.getElem_cons_zero, List.setIfInBounds_toArray, List.set_cons_zero, List.set_cons_succ]
  refine wpAnyH_take (i := 11) (v := ?_) rfl (by kernel_rfl) (by kernel_rfl) (by kernel_rfl) (fun _ _ _ h => h) (Or.inl ⟨by rfl, ?_⟩) (by assumption) ?_
  rotate_left
  · (intro w hSw; go_simp; (try with_reducible rfl))
  try simp only [Act.put, List.getElem_toArray, List.getElem_cons_succ, List.getElem_cons_zero, List.setIfInBounds_toArray, List.set_cons_zero, List.set_cons_succ]
  refine wpAnyH_ready (rs := [12]) (by kernel_rfl) (by simp) ?_
  refine AllReadyH.cons rfl (fun K hK => ?_) (AllReadyH.nil)
  go_simp
  (go_at_call 81; refine (HS.out _ HMM.out).mono ?_; rintro e w5 ⟨rfl, hm5, hk5, hb5⟩)
  clear hHeld
  have hr5 := RnAt.but HRN.out (show KeepBut _ w5 br none from hk5) HN3.out
  have hbx5 := KeepBut.blk (show KeepBut _ w5 br none from hk5) HBX.out HNB.out (by simp)
  have hke5 := Keep.but HKP.out (show KeepBut _ w5 br none from hk5) hb5
  refine hK.out _ _ ⟨blk_cell hbx5 3, hr5.gm, by have := hr5.gv b hb'; rw [← HVB.out] at this; exact this⟩ (fun hHeld => ?_)
  clear hK K
  try simp only [Act.put, List.getElem_toArray, List.getElem_cons_succ, List.getElem_cons_zero, List.setIfInBounds_toArray, List.set_cons_zero, List.set_cons_succ]
  refine wpAnyH_take (i := 13) (v := ?_) rfl (by kernel_rfl) (by kernel_rfl) (by kernel_rfl) (fun _ _ _ h => h) (Or.inl ⟨by rfl, ?_⟩) (by assumption) ?_
  rotate_left
  · (intro w hSw; go_simp; (try with_reducible rfl))
  try simp only [Act.put, List.getElem_toArray, List.getElem_cons_succ, List.getElem_cons_zero, List.setIfInBounds_toArray, List.set_cons_zero, List.set_cons_succ]
  refine wpAnyH_done (by kernel_rfl) ?_ _
  go_wp2
  go_ret
  exact ⟨rfl, ⟨hr5, hm5, HR.out.bg, HR.out.n1, HR.out.n2, HR.out.n3⟩, hke5⟩
set_option maxRecDepth 100000 in
set_option maxHeartbeats 8000000 in
theorem mem_store32 (w : World) (base g : Nat) (lv ev : Value) (at_ : Int) (V : List Int) (gm bf br : Nat) (F R : Int) (fl rl : List Int) (h : RM w base g lv ev at_ V gm bf br F R fl rl) (hF : MemFit F R fl.length rl.length) (hu : ∀ x ∈ V, U32 x) (hl : V.length = 64) (a b : Nat) (ha : a < 64) (hb : b < 64) (D imm : Int) :
    Calls Try.prog 59 #[.pointer (some ⟨g, 0, none⟩), .agg #[.int .i64 22, .int .i64 D, .int .i64 a, .int .i64 b, .int .i32 imm]] w (MemStep w base g lv ev at_ V gm bf br F R fl (storeL R rl ((rd V a + imm) % 4294967296) 4 (rd V b)) (storeT R rl.length ((rd V a + imm) % 4294967296) 4)) := by
  have h3 := h.rn.gv a ha
  have h4 := h.rn.gv b hb
  have h5 := h.rn.gm
  have hlt := h.rn.lt
  have hai : (a : Int) < 64 := by omega
  have hbi : (b : Int) < 64 := by omega
  obtain ⟨ad, had⟩ : ∃ ad, ad = (rd V a + imm) % 4294967296 := ⟨_, rfl⟩
  have had' : (rd V a + imm) % 4294967296 = ad := had.symm
  have hub := rd_u32 hl hu b hb
  obtain ⟨vb, hvb⟩ : ∃ vb, vb = rd V (b : Int) := ⟨_, rfl⟩
  obtain ⟨va, hva⟩ : ∃ va, va = rd V (a : Int) := ⟨_, rfl⟩
  rw [← hvb] at h4 hub
  rw [← hva] at h3 had'
  rw [← had, ← hvb]
  have had0 : 0 ≤ ad ∧ ad < 4294967296 := by rw [had]; omega
  have HS := Aside0.mk (fun (W : World) (hm : MemAt W base gm bf br F R fl rl) => store_calls base gm bf br F R fl rl ad 4 vb W hm hF had0.1 had0.2 hub.1 hub.2 (by decide))
  have HR := Aside0.mk h
  have HVB := Aside0.mk hvb
  have hb' := hb
  clear had hvb hva hF hu hl had0 hub
  go_enter Try.func59, Try.ntmps59
  go_wp2
  go_quiet (fail)
  go_wp2
  have HMM := Aside0.mk (show MemAt ((w.alloc (.cells #[.int .i64 22, .int .i64 D, .int .i64 a, .int .i64 b, .int .i32 imm] 49)).drewN (nq + 1)) base gm bf br F R fl rl from HR.out.mm.below (pw_below_drewN (below_alloc (Below.refl _ _) _) _))
  have HRN := Aside0.mk (show RnAt ((w.alloc (.cells #[.int .i64 22, .int .i64 D, .int .i64 a, .int .i64 b, .int .i32 imm] 49)).drewN (nq + 1)) g lv ev (.pointer (some ⟨gm, 0, none⟩)) at_ V from HR.out.rn.alloc _)
  have HBX := Aside0.mk (show ((w.alloc (.cells #[.int .i64 22, .int .i64 D, .int .i64 a, .int .i64 b, .int .i32 imm] 49)).drewN (nq + 1)).heap[w.heap.size]? = _ from heap_alloc_new w _)
  have HKP := Aside0.mk (show Keep (fun i => i = g ∨ i = br) w ((w.alloc (.cells #[.int .i64 22, .int .i64 D, .int .i64 a, .int .i64 b, .int .i32 imm] 49)).drewN (nq + 1)) from ((Keep.refl _ _).alloc _).drewN _)
  have HN3 := Aside0.mk HR.out.n3
  have HNB := Aside0.mk (show w.heap.size ≠ br from by have := HR.out.mm.lt; omega)
  refine wp_region_held_drew (S := fun W' => W'.cell? ⟨w.heap.size, 3, none⟩ = some (.int .i64 b) ∧ W'.cell? ⟨g, 2, none⟩ = some (.pointer (some ⟨gm, 0, none⟩)) ∧ W'.cell? ⟨g, 4 + b, none⟩ = some (.int .u32 vb)) (by kernel_rfl) ⟨blk_cell HBX.out 3, HRN.out.gm, by have := HRN.out.gv b hb'; rw [← HVB.out] at this; exact this⟩ (fun hHeld => ?_)
  refine wpAnyH_take (i := 0) (v := ?_) rfl (by kernel_rfl) (by kernel_rfl) (by kernel_rfl) (fun _ _ _ h => h) (Or.inl ⟨by rfl, ?_⟩) (by assumption) ?_
  rotate_left
  · (intro w hSw; go_simp; (try with_reducible rfl))
  try simp only [Act.put, List.getElem_toArray, List.getElem_cons_succ, List.getElem_cons_zero, List.setIfInBounds_toArray, List.set_cons_zero, List.set_cons_succ]
  refine wpAnyH_take (i := 1) (v := ?_) rfl (by kernel_rfl) (by kernel_rfl) (by kernel_rfl) (fun _ _ _ h => h) (Or.inl ⟨by rfl, ?_⟩) (by assumption) ?_
  rotate_left
  · (intro w hSw; go_simp; (try with_reducible rfl))
  try simp only [Act.put, List.getElem_toArray, List.getElem_cons_succ, List.getElem_cons_zero, List.setIfInBounds_toArray, List.set_cons_zero, List.set_cons_succ]
  refine wpAnyH_take (i := 2) (v := ?_) rfl (by kernel_rfl) (by kernel_rfl) (by kernel_rfl) (fun _ _ _ h => h) (Or.inl ⟨by rfl, ?_⟩) (by assumption) ?_
  rotate_left
  · (intro w hSw; go_simp; (try with_reducible rfl))
  try simp only [Act.put, List.getElem_toArray, List.getElem_cons_succ, List.getElem_cons_zero, List.setIfInBounds_toArray, List.set_cons_zero, List.set_cons_succ]
  refine wpAnyH_take (i := 3) (v := ?_) rfl (by kernel_rfl) (by kernel_rfl) (by kernel_rfl) (fun _ _ _ h => h) (Or.inl ⟨by rfl, ?_⟩) (by assumption) ?_
  rotate_left
  · (intro w hSw; go_simp; (try with_reducible rfl))
  try simp only [Act.put, List.getElem_toArray, List.getElem_cons_succ, List.getElem_cons_zero, List.setIfInBounds_toArray, List.set_cons_zero, List.set_cons_succ]
  refine wpAnyH_take (i := 4) (v := ?_) rfl (by kernel_rfl) (by kernel_rfl) (by kernel_rfl) (fun _ _ _ h => h) (Or.inl ⟨by rfl, ?_⟩) (by assumption) ?_
  rotate_left
  · (intro w hSw; go_simp; (try with_reducible rfl))
  try simp only [Act.put, List.getElem_toArray, List.getElem_cons_succ, List.getElem_cons_zero, List.setIfInBounds_toArray, List.set_cons_zero, List.set_cons_succ]
  refine wpAnyH_take (i := 5) (v := ?_) rfl (by kernel_rfl) (by kernel_rfl) (by kernel_rfl) (fun _ _ _ h => h) (Or.inl ⟨by rfl, ?_⟩) (by assumption) ?_
  rotate_left
  · (intro w hSw; go_simp; (try with_reducible rfl))
  try simp only [Act.put, List.getElem_toArray, List.getElem_cons_succ, List.getElem_cons_zero, List.setIfInBounds_toArray, List.set_cons_zero, List.set_cons_succ]
  refine wpAnyH_take (i := 6) (v := ?_) rfl (by kernel_rfl) (by kernel_rfl) (by kernel_rfl) (fun _ _ _ h => h) (Or.inl ⟨by rfl, ?_⟩) (by assumption) ?_
  rotate_left
  · (intro w hSw; go_simp; (try with_reducible rfl))
  try simp only [Act.put, List.getElem_toArray, List.getElem_cons_succ, List.getElem_cons_zero, List.setIfInBounds_toArray, List.set_cons_zero, List.set_cons_succ]
  refine wpAnyH_take (i := 7) (v := ?_) rfl (by kernel_rfl) (by kernel_rfl) (by kernel_rfl) (fun _ _ _ h => h) (Or.inl ⟨by rfl, ?_⟩) (by assumption) ?_
  rotate_left
  · (intro w hSw; go_simp; (try with_reducible rfl))
  try simp only [Act.put, List.getElem_toArray, List.getElem_cons_succ, List.getElem_cons_zero, List.setIfInBounds_toArray, List.set_cons_zero, List.set_cons_succ]
  refine wpAnyH_take (i := 8) (v := ?_) rfl (by kernel_rfl) (by kernel_rfl) (by kernel_rfl) (fun _ _ _ h => h) (Or.inl ⟨by rfl, ?_⟩) (by assumption) ?_
  rotate_left
  · (intro w hSw; go_simp; (try with_reducible rfl))
  try simp only [Act.put, List.getElem_toArray, List.getElem_cons_succ, List.getElem_cons_zero, List.setIfInBounds_toArray, List.set_cons_zero, List.set_cons_succ]
  refine wpAnyH_take (i := 9) (v := ?_) rfl (by kernel_rfl) (by kernel_rfl) (by kernel_rfl) (fun _ _ _ h => h) (Or.inl ⟨by rfl, ?_⟩) (by assumption) ?_
  rotate_left
  · (intro w hSw; go_simp; (try with_reducible rfl))
  try simp only [Act.put, List.getElem_toArray, List.getElem_cons_succ, List.getElem_cons_zero, List.setIfInBounds_toArray, List.set_cons_zero, List.set_cons_succ]
  refine wpAnyH_take (i := 10) (v := ?_) rfl (by kernel_rfl) (by kernel_rfl) (by kernel_rfl) (fun _ _ _ h => h) (Or.inl ⟨by rfl, ?_⟩) (by assumption) ?_
  rotate_left
  · (intro w hSw; go_simp; (try with_reducible rfl))
  try simp only [Act.put, List.getElem_toArray, List.getElem_cons_succ, List.getElem_cons_zero, List.setIfInBounds_toArray, List.set_cons_zero, List.set_cons_succ]
  refine wpAnyH_take (i := 11) (v := ?_) rfl (by kernel_rfl) (by kernel_rfl) (by kernel_rfl) (fun _ _ _ h => h) (Or.inl ⟨by rfl, ?_⟩) (by assumption) ?_
  rotate_left
  · (intro w hSw; go_simp; (try with_reducible rfl))
  try simp only [Act.put, List.getElem_toArray, List.getElem_cons_succ, List.getElem_cons_zero, List.setIfInBounds_toArray, List.set_cons_zero, List.set_cons_succ]
  refine wpAnyH_ready (rs := [12]) (by kernel_rfl) (by simp) ?_
  refine AllReadyH.cons rfl (fun K hK => ?_) (AllReadyH.nil)
  go_simp
  (go_at_call 81; refine (HS.out _ HMM.out).mono ?_; rintro e w5 ⟨rfl, hm5, hk5, hb5⟩)
  clear hHeld
  have hr5 := RnAt.but HRN.out (show KeepBut _ w5 br none from hk5) HN3.out
  have hbx5 := KeepBut.blk (show KeepBut _ w5 br none from hk5) HBX.out HNB.out (by simp)
  have hke5 := Keep.but HKP.out (show KeepBut _ w5 br none from hk5) hb5
  refine hK.out _ _ ⟨blk_cell hbx5 3, hr5.gm, by have := hr5.gv b hb'; rw [← HVB.out] at this; exact this⟩ (fun hHeld => ?_)
  clear hK K
  try simp only [Act.put, List.getElem_toArray, List.getElem_cons_succ, List.getElem_cons_zero, List.setIfInBounds_toArray, List.set_cons_zero, List.set_cons_succ]
  refine wpAnyH_take (i := 13) (v := ?_) rfl (by kernel_rfl) (by kernel_rfl) (by kernel_rfl) (fun _ _ _ h => h) (Or.inl ⟨by rfl, ?_⟩) (by assumption) ?_
  rotate_left
  · (intro w hSw; go_simp; (try with_reducible rfl))
  try simp only [Act.put, List.getElem_toArray, List.getElem_cons_succ, List.getElem_cons_zero, List.setIfInBounds_toArray, List.set_cons_zero, List.set_cons_succ]
  refine wpAnyH_done (by kernel_rfl) ?_ _
  go_wp2
  go_ret
  exact ⟨rfl, ⟨hr5, hm5, HR.out.bg, HR.out.n1, HR.out.n2, HR.out.n3⟩, hke5⟩

end Go.Proofs.Ytpeljnnbknnbmaa.PD
end
section
namespace Go.Proofs.Ytpeljnnbknnbmaa.PD
open Go.RowKit Go.Proofs.YtpeljnnbknnbmaaW.PrintWords Go.Proofs.YtpeljnnbknnbmaaW.PrintLast Go.Proofs.YtpeljnnbknnbmaaW.PrintMore
set_option linter.unusedVariables false
set_option linter.unusedSimpArgs false
/-- what a load brings: the number, and whether it traps -/
def ldV (op F R : Int) (fl rl : List Int) (ad : Int) : Int × Int :=
  let n := if op = 17 then 1 else if op = 18 then 1 else if op = 19 then 2 else 4
  let p := loadV F R fl rl ad n
  if p.2 = 0 ∧ (op = 17 ∨ op = 19) then ((num_Sext.f p.1 (8 * n)).getD 0, 0) else p
theorem MemAt.setO {w : World} {base gm bf br g : Nat} {F R : Int} {fl rl : List Int} {k : Nat} (h : MemAt w base gm bf br F R fl rl) (h1 : g ≠ gm) (h2 : g ≠ bf) (h3 : g ≠ br) (u : Value) : MemAt (w.setCell ⟨g, k, none⟩ u) base gm bf br F R fl rl :=
  h.move fun i hi => Below.heap_setCell w ⟨g, k, none⟩ u i (by intro e; rcases hi with rfl | rfl | rfl; exact h1 e.symm; exact h2 e.symm; exact h3 e.symm)
theorem MemAt.drewO {w : World} {base gm bf br : Nat} {F R : Int} {fl rl : List Int} {n : Nat} (h : MemAt w base gm bf br F R fl rl) : MemAt (w.drewN n) base gm bf br F R fl rl := ⟨h.hg, h.hf, h.hr, h.ne, h.lg, h.lf, h.lr⟩
theorem sext_some (x n : Int) (hn : n = 8 ∨ n = 16) : num_Sext.f x n = some ((num_Sext.f x n).getD 0) := by
  rcases hn with rfl | rfl
  · unfold num_Sext.f
    rw [if_neg (by decide), if_neg (by decide), if_pos (by rw [show wrap64 (32 - 8) = 24 by kernel_rfl]; decide)]
    rfl
  · unfold num_Sext.f
    rw [if_neg (by decide), if_neg (by decide), if_pos (by rw [show wrap64 (32 - 16) = 16 by kernel_rfl]; decide)]
    rfl
set_option maxRecDepth 100000 in
set_option maxHeartbeats 8000000 in
theorem mem_load17 (w : World) (base g : Nat) (lv ev : Value) (at_ : Int) (V : List Int) (gm bf br : Nat) (F R : Int) (fl rl : List Int) (h : RM w base g lv ev at_ V gm bf br F R fl rl) (hF : MemFit F R fl.length rl.length) (hbf : Bytes fl) (hbr : Bytes rl) (hl : V.length = 64) (d a : Nat) (hd : d < 64) (ha : a < 64) (B imm : Int) :
    Calls Try.prog 59 #[.pointer (some ⟨g, 0, none⟩), .agg #[.int .i64 17, .int .i64 d, .int .i64 a, .int .i64 B, .int .i32 imm]] w (MemStep w base g lv ev at_ (if (ldV 17 F R fl rl ((rd V a + imm) % 4294967296)).2 = 0 then V.set d (ldV 17 F R fl rl ((rd V a + imm) % 4294967296)).1 else V) gm bf br F R fl rl (ldV 17 F R fl rl ((rd V a + imm) % 4294967296)).2) := by
  have h3 := h.rn.gv a ha
  have h5 := h.rn.gm
  have hlt := h.rn.lt
  have hai : (a : Int) < 64 := by omega
  have hdi : (d : Int) < 64 := by omega
  obtain ⟨ad, had⟩ : ∃ ad, ad = (rd V a + imm) % 4294967296 := ⟨_, rfl⟩
  have had' : (rd V a + imm) % 4294967296 = ad := had.symm
  obtain ⟨va, hva⟩ : ∃ va, va = rd V (a : Int) := ⟨_, rfl⟩
  rw [← hva] at h3 had'
  rw [← had]
  have had0 : 0 ≤ ad ∧ ad < 4294967296 := by rw [had]; omega
  have HLC := Aside0.mk (fun (W : World) (hm : MemAt W base gm bf br F R fl rl) => load_calls base gm bf br F R fl rl ad 1 W hm hF hbf hbr had0.1 had0.2 (by decide))
  have hldv : ldV 17 F R fl rl ad = (if (loadV F R fl rl ad 1).2 = 0 then ((num_Sext.f (loadV F R fl rl ad 1).1 8).getD 0, 0) else loadV F R fl rl ad 1) := by unfold ldV; simp
  obtain ⟨lw, lt, hlwt⟩ : ∃ lw lt, loadV F R fl rl ad 1 = (lw, lt) := ⟨_, _, rfl⟩
  rw [hldv]
  simp only [hlwt] at HLC ⊢
  have HR := Aside0.mk h
  have hd' := hd
  have HSX := Aside0.mk (sext_some lw 8 (by decide))
  have HLD := Aside0.mk (lirrun_loads.calls 17 1 true)
  have HMA := Aside0.mk (fun (W : World) (hb : Below w.heap.size w W) => HR.out.mm.below hb)
  have HRA := Aside0.mk (fun (W : World) (hb : Below w.heap.size w W) => HR.out.rn.below hb)
  clear h had hva hF hl had0 hldv hlwt hbf hbr
  by_cases ht : lt = 0
  · subst ht
    go_enter Try.func59, Try.ntmps59
    go_wp2
    go_quiet (fail)
    go_wp2_with (first | (go_at_call 82; refine (HLD.out _ rfl).mono ?_; rintro e w5 ⟨rfl, ⟨n5, rfl⟩⟩) | (go_at_call 68; refine (HLC.out _ (HMA.out _ (by repeat (first | exact below_alloc (Below.refl _ _) _ | apply pw_below_drewN)))).mono ?_; rintro e w6 ⟨rfl, hb6⟩; have HB6 := Aside0.mk hb6; clear hb6) | (go_at_call 83; refine (num_Sext.calls _ _ _ _ HSX.out).mono ?_; rintro e w7 ⟨rfl, ⟨n7, rfl⟩⟩))
    have hbw : Below w.heap.size w w6 := (pw_below_drewN (below_alloc (Below.refl _ _) _) _).trans (HB6.out.mono (by simp))
    have hbx : w6.heap[w.heap.size]? = some (.cells #[.int .i64 17, .int .i64 d, .int .i64 a, .int .i64 B, .int .i32 imm] 49) := (HB6.out.block w.heap.size (by simp)).trans (heap_alloc_new w _)
    have hrn := HRA.out _ hbw
    have g3 := hrn.gv d hd'
    have gf := hrn.frozen (4 + d)
    have hne : w.heap.size ≠ g := by omega
    have hne2 : g ≠ w.heap.size := by omega
    have HBW := Aside0.mk hbw
    have HRN := Aside0.mk hrn
    have HMM := Aside0.mk (HMA.out _ hbw)
    have b1 := blk_cell hbx 1
    clear hbw hrn hbx
    refine wp_region_held_drew (S := fun W' => W'.cell? ⟨w.heap.size, 1, none⟩ = some (.int .i64 d)) (by kernel_rfl) (show _ from b1) (fun hHeld => ?_)
    refine wpAnyH_take (i := 0) (v := ?_) rfl (by kernel_rfl) (by kernel_rfl) (by kernel_rfl) (fun _ _ _ h => h) (Or.inl ⟨by rfl, ?_⟩) (by assumption) ?_
    rotate_left
    · (intro w hSw; go_simp; (try with_reducible rfl))
    try simp only [Act.put, List.getElem_toArray, List.getElem_cons_succ, List.getElem_cons_zero, List.setIfInBounds_toArray, List.set_cons_zero, List.set_cons_succ]
    refine wpAnyH_take (i := 1) (v := ?_) rfl (by kernel_rfl) (by kernel_rfl) (by kernel_rfl) (fun _ _ _ h => h) (Or.inl ⟨by rfl, ?_⟩) (by assumption) ?_
    rotate_left
    · (intro w hSw; go_simp; (try with_reducible rfl))
    try simp only [Act.put, List.getElem_toArray, List.getElem_cons_succ, List.getElem_cons_zero, List.setIfInBounds_toArray, List.set_cons_zero, List.set_cons_succ]
    refine wpAnyH_take (i := 2) (v := ?_) rfl (by kernel_rfl) (by kernel_rfl) (by kernel_rfl) (fun _ _ _ h => h) (Or.inl ⟨by rfl, ?_⟩) (by assumption) ?_
    rotate_left
    · (intro w hSw; go_simp; (try with_reducible rfl))
    try simp only [Act.put, List.getElem_toArray, List.getElem_cons_succ, List.getElem_cons_zero, List.setIfInBounds_toArray, List.set_cons_zero, List.set_cons_succ]
    refine wpAnyH_take (i := 3) (v := ?_) rfl (by kernel_rfl) (by kernel_rfl) (by kernel_rfl) (fun _ _ _ h => h) (Or.inl ⟨by rfl, ?_⟩) (by assumption) ?_
    rotate_left
    · (intro w hSw; go_simp; (try with_reducible rfl))
    try simp only [Act.put, List.getElem_toArray, List.getElem_cons_succ, List.getElem_cons_zero, List.setIfInBounds_toArray, List.set_cons_zero, List.set_cons_succ]
    refine wpAnyH_take (i := 4) (v := ?_) rfl (by kernel_rfl) (by kernel_rfl) (by kernel_rfl) (fun _ _ _ h => h) (Or.inl ⟨by rfl, ?_⟩) (by assumption) ?_
    rotate_left
    · (intro w hSw; go_simp; (try with_reducible rfl))
    try simp only [Act.put, List.getElem_toArray, List.getElem_cons_succ, List.getElem_cons_zero, List.setIfInBounds_toArray, List.set_cons_zero, List.set_cons_succ]
    refine wpAnyH_take (i := 5) (v := ?_) rfl (by kernel_rfl) (by kernel_rfl) (by kernel_rfl) (fun _ _ _ h => h) (Or.inl ⟨by rfl, ?_⟩) (by assumption) ?_
    rotate_left
    · (intro w hSw; go_simp; (try with_reducible rfl))
    try simp only [Act.put, List.getElem_toArray, List.getElem_cons_succ, List.getElem_cons_zero, List.setIfInBounds_toArray, List.set_cons_zero, List.set_cons_succ]
    refine wpAnyH_take (i := 6) (v := ?_) rfl (by kernel_rfl) (by kernel_rfl) (by kernel_rfl) (fun _ _ _ h => h) (Or.inl ⟨by rfl, ?_⟩) (by assumption) ?_
    rotate_left
    · (intro w hSw; go_simp; (try with_reducible rfl))
    try simp only [Act.put, List.getElem_toArray, List.getElem_cons_succ, List.getElem_cons_zero, List.setIfInBounds_toArray, List.set_cons_zero, List.set_cons_succ]
    refine wpAnyH_ready (rs := [7]) (by kernel_rfl) (by simp) ?_
    refine AllReadyH.cons rfl (fun K hK => ?_) (AllReadyH.nil)
    go_simp
    refine hK.out _ _ (by go_keep) (fun hHeld => ?_)
    clear hK K
    try simp only [Act.put, List.getElem_toArray, List.getElem_cons_succ, List.getElem_cons_zero, List.setIfInBounds_toArray, List.set_cons_zero, List.set_cons_succ]
    refine wpAnyH_done (by kernel_rfl) ?_ _
    go_wp2
    go_ret
    exact ⟨rfl, ⟨RnAt.setV (RnAt.drewN HRN.out _) d hd' _, MemAt.setO (MemAt.drewO HMM.out) HR.out.n1 HR.out.n2 HR.out.n3 _, HR.out.bg, HR.out.n1, HR.out.n2, HR.out.n3⟩, (((Keep.of_below HBW.out).drewN _).setCell _ (Or.inl rfl) _)⟩
  · have HT := Aside0.mk ht
    (try simp only [if_neg ht])
    clear ht
    go_enter Try.func59, Try.ntmps59
    go_wp2
    go_quiet (fail)
    have htb : (lt != 0) = true := by simpa using HT.out
    have htc : (lt == 0) = false := by simpa using HT.out
    go_wp2_with (first | (go_at_call 82; refine (HLD.out _ rfl).mono ?_; rintro e w5 ⟨rfl, ⟨n5, rfl⟩⟩) | (go_at_call 68; refine (HLC.out _ (HMA.out _ (by repeat (first | exact below_alloc (Below.refl _ _) _ | apply pw_below_drewN)))).mono ?_; rintro e w6 ⟨rfl, hb6⟩; have HB6 := Aside0.mk hb6; clear hb6))
    go_ret
    have hbw : Below w.heap.size w w6 := (pw_below_drewN (below_alloc (Below.refl _ _) _) _).trans (HB6.out.mono (by simp))
    exact ⟨rfl, ⟨HRA.out _ hbw, HMA.out _ hbw, HR.out.bg, HR.out.n1, HR.out.n2, HR.out.n3⟩, Keep.of_below hbw⟩
set_option maxRecDepth 100000 in
set_option maxHeartbeats 8000000 in
theorem mem_load18 (w : World) (base g : Nat) (lv ev : Value) (at_ : Int) (V : List Int) (gm bf br : Nat) (F R : Int) (fl rl : List Int) (h : RM w base g lv ev at_ V gm bf br F R fl rl) (hF : MemFit F R fl.length rl.length) (hbf : Bytes fl) (hbr : Bytes rl) (hl : V.length = 64) (d a : Nat) (hd : d < 64) (ha : a < 64) (B imm : Int) :
    Calls Try.prog 59 #[.pointer (some ⟨g, 0, none⟩), .agg #[.int .i64 18, .int .i64 d, .int .i64 a, .int .i64 B, .int .i32 imm]] w (MemStep w base g lv ev at_ (if (ldV 18 F R fl rl ((rd V a + imm) % 4294967296)).2 = 0 then V.set d (ldV 18 F R fl rl ((rd V a + imm) % 4294967296)).1 else V) gm bf br F R fl rl (ldV 18 F R fl rl ((rd V a + imm) % 4294967296)).2) := by
  have h3 := h.rn.gv a ha
  have h5 := h.rn.gm
  have hlt := h.rn.lt
  have hai : (a : Int) < 64 := by omega
  have hdi : (d : Int) < 64 := by omega
  obtain ⟨ad, had⟩ : ∃ ad, ad = (rd V a + imm) % 4294967296 := ⟨_, rfl⟩
  have had' : (rd V a + imm) % 4294967296 = ad := had.symm
  obtain ⟨va, hva⟩ : ∃ va, va = rd V (a : Int) := ⟨_, rfl⟩
  rw [← hva] at h3 had'
  rw [← had]
  have had0 : 0 ≤ ad ∧ ad < 4294967296 := by rw [had]; omega
  have HLC := Aside0.mk (fun (W : World) (hm : MemAt W base gm bf br F R fl rl) => load_calls base gm bf br F R fl rl ad 1 W hm hF hbf hbr had0.1 had0.2 (by decide))
  have hldv : ldV 18 F R fl rl ad = loadV F R fl rl ad 1 := by unfold ldV; simp
  obtain ⟨lw, lt, hlwt⟩ : ∃ lw lt, loadV F R fl rl ad 1 = (lw, lt) := ⟨_, _, rfl⟩
  rw [hldv]
  simp only [hlwt] at HLC ⊢
  have HR := Aside0.mk h
  have hd' := hd
  have HSX := Aside0.mk (sext_some lw 8 (by decide))
  have HLD := Aside0.mk (lirrun_loads.calls 18 1 false)
  have HMA := Aside0.mk (fun (W : World) (hb : Below w.heap.size w W) => HR.out.mm.below hb)
  have HRA := Aside0.mk (fun (W : World) (hb : Below w.heap.size w W) => HR.out.rn.below hb)
  clear h had hva hF hl had0 hldv hlwt hbf hbr
  by_cases ht : lt = 0
  · subst ht
    go_enter Try.func59, Try.ntmps59
    go_wp2
    go_quiet (fail)
    go_wp2_with (first | (go_at_call 82; refine (HLD.out _ rfl).mono ?_; rintro e w5 ⟨rfl, ⟨n5, rfl⟩⟩) | (go_at_call 68; refine (HLC.out _ (HMA.out _ (by repeat (first | exact below_alloc (Below.refl _ _) _ | apply pw_below_drewN)))).mono ?_; rintro e w6 ⟨rfl, hb6⟩; have HB6 := Aside0.mk hb6; clear hb6) | (go_at_call 83; refine (num_Sext.calls _ _ _ _ HSX.out).mono ?_; rintro e w7 ⟨rfl, ⟨n7, rfl⟩⟩))
    have hbw : Below w.heap.size w w6 := (pw_below_drewN (below_alloc (Below.refl _ _) _) _).trans (HB6.out.mono (by simp))
    have hbx : w6.heap[w.heap.size]? = some (.cells #[.int .i64 18, .int .i64 d, .int .i64 a, .int .i64 B, .int .i32 imm] 49) := (HB6.out.block w.heap.size (by simp)).trans (heap_alloc_new w _)
    have hrn := HRA.out _ hbw
    have g3 := hrn.gv d hd'
    have gf := hrn.frozen (4 + d)
    have hne : w.heap.size ≠ g := by omega
    have hne2 : g ≠ w.heap.size := by omega
    have HBW := Aside0.mk hbw
    have HRN := Aside0.mk hrn
    have HMM := Aside0.mk (HMA.out _ hbw)
    have b1 := blk_cell hbx 1
    clear hbw hrn hbx
    refine wp_region_held_drew (S := fun W' => W'.cell? ⟨w.heap.size, 1, none⟩ = some (.int .i64 d)) (by kernel_rfl) (show _ from b1) (fun hHeld => ?_)
    refine wpAnyH_take (i := 0) (v := ?_) rfl (by kernel_rfl) (by kernel_rfl) (by kernel_rfl) (fun _ _ _ h => h) (Or.inl ⟨by rfl, ?_⟩) (by assumption) ?_
    rotate_left
    · (intro w hSw; go_simp; (try with_reducible rfl))
    try simp only [Act.put, List.getElem_toArray, List.getElem_cons_succ, List.getElem_cons_zero, List.setIfInBounds_toArray, List.set_cons_zero, List.set_cons_succ]
    refine wpAnyH_take (i := 1) (v := ?_) rfl (by kernel_rfl) (by kernel_rfl) (by kernel_rfl) (fun _ _ _ h => h) (Or.inl ⟨by rfl, ?_⟩) (by assumption) ?_
    rotate_left
    · (intro w hSw; go_simp; (try with_reducible rfl))
    try simp only [Act.put, List.getElem_toArray, List.getElem_cons_succ, List.getElem_cons_zero, List.setIfInBounds_toArray, List.set_cons_zero, List.set_cons_succ]
    refine wpAnyH_take (i := 2) (v := ?_) rfl (by kernel_rfl) (by kernel_rfl) (by kernel_rfl) (fun _ _ _ h => h) (Or.inl ⟨by rfl, ?_⟩) (by assumption) ?_
    rotate_left
    · (intro w hSw; go_simp; (try with_reducible rfl))
    try simp only [Act.put, List.getElem_toArray, List.getElem_cons_succ, List.getElem_cons_zero, List.setIfInBounds_toArray, List.set_cons_zero, List.set_cons_succ]
    refine wpAnyH_take (i := 3) (v := ?_) rfl (by kernel_rfl) (by kernel_rfl) (by kernel_rfl) (fun _ _ _ h => h) (Or.inl ⟨by rfl, ?_⟩) (by assumption) ?_
    rotate_left
    · (intro w hSw; go_simp; (try with_reducible rfl))
    try simp only [Act.put, List.getElem_toArray, List.getElem_cons_succ, List.getElem_cons_zero, List.setIfInBounds_toArray, List.set_cons_zero, List.set_cons_succ]
    refine wpAnyH_take (i := 4) (v := ?_) rfl (by kernel_rfl) (by kernel_rfl) (by kernel_rfl) (fun _ _ _ h => h) (Or.inl ⟨by rfl, ?_⟩) (by assumption) ?_
    rotate_left
    · (intro w hSw; go_simp; (try with_reducible rfl))
    try simp only [Act.put, List.getElem_toArray, List.getElem_cons_succ, List.getElem_cons_zero, List.setIfInBounds_toArray, List.set_cons_zero, List.set_cons_succ]
    refine wpAnyH_take (i := 5) (v := ?_) rfl (by kernel_rfl) (by kernel_rfl) (by kernel_rfl) (fun _ _ _ h => h) (Or.inl ⟨by rfl, ?_⟩) (by assumption) ?_
    rotate_left
    · (intro w hSw; go_simp; (try with_reducible rfl))
    try simp only [Act.put, List.getElem_toArray, List.getElem_cons_succ, List.getElem_cons_zero, List.setIfInBounds_toArray, List.set_cons_zero, List.set_cons_succ]
    refine wpAnyH_take (i := 6) (v := ?_) rfl (by kernel_rfl) (by kernel_rfl) (by kernel_rfl) (fun _ _ _ h => h) (Or.inl ⟨by rfl, ?_⟩) (by assumption) ?_
    rotate_left
    · (intro w hSw; go_simp; (try with_reducible rfl))
    try simp only [Act.put, List.getElem_toArray, List.getElem_cons_succ, List.getElem_cons_zero, List.setIfInBounds_toArray, List.set_cons_zero, List.set_cons_succ]
    refine wpAnyH_ready (rs := [7]) (by kernel_rfl) (by simp) ?_
    refine AllReadyH.cons rfl (fun K hK => ?_) (AllReadyH.nil)
    go_simp
    refine hK.out _ _ (by go_keep) (fun hHeld => ?_)
    clear hK K
    try simp only [Act.put, List.getElem_toArray, List.getElem_cons_succ, List.getElem_cons_zero, List.setIfInBounds_toArray, List.set_cons_zero, List.set_cons_succ]
    refine wpAnyH_done (by kernel_rfl) ?_ _
    go_wp2
    go_ret
    exact ⟨rfl, ⟨RnAt.setV (RnAt.drewN HRN.out _) d hd' _, MemAt.setO (MemAt.drewO HMM.out) HR.out.n1 HR.out.n2 HR.out.n3 _, HR.out.bg, HR.out.n1, HR.out.n2, HR.out.n3⟩, (((Keep.of_below HBW.out).drewN _).setCell _ (Or.inl rfl) _)⟩
  · have HT := Aside0.mk ht
    (try simp only [if_neg ht])
    clear ht
    go_enter Try.func59, Try.ntmps59
    go_wp2
    go_quiet (fail)
    have htb : (lt != 0) = true := by simpa using HT.out
    have htc : (lt == 0) = false := by simpa using HT.out
    go_wp2_with (first | (go_at_call 82; refine (HLD.out _ rfl).mono ?_; rintro e w5 ⟨rfl, ⟨n5, rfl⟩⟩) | (go_at_call 68; refine (HLC.out _ (HMA.out _ (by repeat (first | exact below_alloc (Below.refl _ _) _ | apply pw_below_drewN)))).mono ?_; rintro e w6 ⟨rfl, hb6⟩; have HB6 := Aside0.mk hb6; clear hb6))
    go_ret
    have hbw : Below w.heap.size w w6 := (pw_below_drewN (below_alloc (Below.refl _ _) _) _).trans (HB6.out.mono (by simp))
    exact ⟨rfl, ⟨HRA.out _ hbw, HMA.out _ hbw, HR.out.bg, HR.out.n1, HR.out.n2, HR.out.n3⟩, Keep.of_below hbw⟩
set_option maxRecDepth 100000 in
set_option maxHeartbeats 8000000 in
theorem mem_load19 (w : World) (base g : Nat) (lv ev : Value) (at_ : Int) (V : List Int) (gm bf br : Nat) (F R : Int) (fl rl : List Int) (h : RM w base g lv ev at_ V gm bf br F R fl rl) (hF : MemFit F R fl.length rl.length) (hbf : Bytes fl) (hbr : Bytes rl) (hl : V.length = 64) (d a : Nat) (hd : d < 64) (ha : a < 64) (B imm : Int) :
    Calls Try.prog 59 #[.pointer (some ⟨g, 0, none⟩), .agg #[.int .i64 19, .int .i64 d, .int .i64 a, .int .i64 B, .int .i32 imm]] w (MemStep w base g lv ev at_ (if (ldV 19 F R fl rl ((rd V a + imm) % 4294967296)).2 = 0 then V.set d (ldV 19 F R fl rl ((rd V a + imm) % 4294967296)).1 else V) gm bf br F R fl rl (ldV 19 F R fl rl ((rd V a + imm) % 4294967296)).2) := by
  have h3 := h.rn.gv a ha
  have h5 := h.rn.gm
  have hlt := h.rn.lt
  have hai : (a : Int) < 64 := by omega
  have hdi : (d : Int) < 64 := by omega
  obtain ⟨ad, had⟩ : ∃ ad, ad = (rd V a + imm) % 4294967296 := ⟨_, rfl⟩
  have had' : (rd V a + imm) % 4294967296 = ad := had.symm
  obtain ⟨va, hva⟩ : ∃ va, va = rd V (a : Int) := ⟨_, rfl⟩
  rw [← hva] at h3 had'
  rw [← had]
  have had0 : 0 ≤ ad ∧ ad < 4294967296 := by rw [had]; omega
  have HLC := Aside0.mk (fun (W : World) (hm : MemAt W base gm bf br F R fl rl) => load_calls base gm bf br F R fl rl ad 2 W hm hF hbf hbr had0.1 had0.2 (by decide))
  have hldv : ldV 19 F R fl rl ad = (if (loadV F R fl rl ad 2).2 = 0 then ((num_Sext.f (loadV F R fl rl ad 2).1 16).getD 0, 0) else loadV F R fl rl ad 2) := by unfold ldV; simp
  obtain ⟨lw, lt, hlwt⟩ : ∃ lw lt, loadV F R fl rl ad 2 = (lw, lt) := ⟨_, _, rfl⟩
  rw [hldv]
  simp only [hlwt] at HLC ⊢
  have HR := Aside0.mk h
  have hd' := hd
  have HSX := Aside0.mk (sext_some lw 16 (by decide))
  have HLD := Aside0.mk (lirrun_loads.calls 19 2 true)
  have HMA := Aside0.mk (fun (W : World) (hb : Below w.heap.size w W) => HR.out.mm.below hb)
  have HRA := Aside0.mk (fun (W : World) (hb : Below w.heap.size w W) => HR.out.rn.below hb)
  clear h had hva hF hl had0 hldv hlwt hbf hbr
  by_cases ht : lt = 0
  · subst ht
    go_enter Try.func59, Try.ntmps59
    go_wp2
    go_quiet (fail)
    go_wp2_with (first | (go_at_call 82; refine (HLD.out _ rfl).mono ?_; rintro e w5 ⟨rfl, ⟨n5, rfl⟩⟩) | (go_at_call 68; refine (HLC.out _ (HMA.out _ (by repeat (first | exact below_alloc (Below.refl _ _) _ | apply pw_below_drewN)))).mono ?_; rintro e w6 ⟨rfl, hb6⟩; have HB6 := Aside0.mk hb6; clear hb6) | (go_at_call 83; refine (num_Sext.calls _ _ _ _ HSX.out).mono ?_; rintro e w7 ⟨rfl, ⟨n7, rfl⟩⟩))
    have hbw : Below w.heap.size w w6 := (pw_below_drewN (below_alloc (Below.refl _ _) _) _).trans (HB6.out.mono (by simp))
    have hbx : w6.heap[w.heap.size]? = some (.cells #[.int .i64 19, .int .i64 d, .int .i64 a, .int .i64 B, .int .i32 imm] 49) := (HB6.out.block w.heap.size (by simp)).trans (heap_alloc_new w _)
    have hrn := HRA.out _ hbw
    have g3 := hrn.gv d hd'
    have gf := hrn.frozen (4 + d)
    have hne : w.heap.size ≠ g := by omega
    have hne2 : g ≠ w.heap.size := by omega
    have HBW := Aside0.mk hbw
    have HRN := Aside0.mk hrn
    have HMM := Aside0.mk (HMA.out _ hbw)
    have b1 := blk_cell hbx 1
    clear hbw hrn hbx
    refine wp_region_held_drew (S := fun W' => W'.cell? ⟨w.heap.size, 1, none⟩ = some (.int .i64 d)) (by kernel_rfl) (show _ from b1) (fun hHeld => ?_)
    refine wpAnyH_take (i := 0) (v := ?_) rfl (by kernel_rfl) (by kernel_rfl) (by kernel_rfl) (fun _ _ _ h => h) (Or.inl ⟨by rfl, ?_⟩) (by assumption) ?_
    rotate_left
    · (intro w hSw; go_simp; (try with_reducible rfl))
    try simp only [Act.put, List.getElem_toArray, List.getElem_cons_succ, List.getElem_cons_zero, List.setIfInBounds_toArray, List.set_cons_zero, List.set_cons_succ]
    refine wpAnyH_take (i := 1) (v := ?_) rfl (by kernel_rfl) (by kernel_rfl) (by kernel_rfl) (fun _ _ _ h => h) (Or.inl ⟨by rfl, ?_⟩) (by assumption) ?_
    rotate_left
    · (intro w hSw; go_simp; (try with_reducible rfl))
    try simp only [Act.put, List.getElem_toArray, List.getElem_cons_succ, List.getElem_cons_zero, List.setIfInBounds_toArray, List.set_cons_zero, List.set_cons_succ]
    refine wpAnyH_take (i := 2) (v := ?_) rfl (by kernel_rfl) (by kernel_rfl) (by kernel_rfl) (fun _ _ _ h => h) (Or.inl ⟨by rfl, ?_⟩) (by assumption) ?_
    rotate_left
    · (intro w hSw; go_simp; (try with_reducible rfl))
    try simp only [Act.put, List.getElem_toArray, List.getElem_cons_succ, List.getElem_cons_zero, List.setIfInBounds_toArray, List.set_cons_zero, List.set_cons_succ]
    refine wpAnyH_take (i := 3) (v := ?_) rfl (by kernel_rfl) (by kernel_rfl) (by kernel_rfl) (fun _ _ _ h => h) (Or.inl ⟨by rfl, ?_⟩) (by assumption) ?_
    rotate_left
    · (intro w hSw; go_simp; (try with_reducible rfl))
    try simp only [Act.put, List.getElem_toArray, List.getElem_cons_succ, List.getElem_cons_zero, List.setIfInBounds_toArray, List.set_cons_zero, List.set_cons_succ]
    refine wpAnyH_take (i := 4) (v := ?_) rfl (by kernel_rfl) (by kernel_rfl) (by kernel_rfl) (fun _ _ _ h => h) (Or.inl ⟨by rfl, ?_⟩) (by assumption) ?_
    rotate_left
    · (intro w hSw; go_simp; (try with_reducible rfl))
    try simp only [Act.put, List.getElem_toArray, List.getElem_cons_succ, List.getElem_cons_zero, List.setIfInBounds_toArray, List.set_cons_zero, List.set_cons_succ]
    refine wpAnyH_take (i := 5) (v := ?_) rfl (by kernel_rfl) (by kernel_rfl) (by kernel_rfl) (fun _ _ _ h => h) (Or.inl ⟨by rfl, ?_⟩) (by assumption) ?_
    rotate_left
    · (intro w hSw; go_simp; (try with_reducible rfl))
    try simp only [Act.put, List.getElem_toArray, List.getElem_cons_succ, List.getElem_cons_zero, List.setIfInBounds_toArray, List.set_cons_zero, List.set_cons_succ]
    refine wpAnyH_take (i := 6) (v := ?_) rfl (by kernel_rfl) (by kernel_rfl) (by kernel_rfl) (fun _ _ _ h => h) (Or.inl ⟨by rfl, ?_⟩) (by assumption) ?_
    rotate_left
    · (intro w hSw; go_simp; (try with_reducible rfl))
    try simp only [Act.put, List.getElem_toArray, List.getElem_cons_succ, List.getElem_cons_zero, List.setIfInBounds_toArray, List.set_cons_zero, List.set_cons_succ]
    refine wpAnyH_ready (rs := [7]) (by kernel_rfl) (by simp) ?_
    refine AllReadyH.cons rfl (fun K hK => ?_) (AllReadyH.nil)
    go_simp
    refine hK.out _ _ (by go_keep) (fun hHeld => ?_)
    clear hK K
    try simp only [Act.put, List.getElem_toArray, List.getElem_cons_succ, List.getElem_cons_zero, List.setIfInBounds_toArray, List.set_cons_zero, List.set_cons_succ]
    refine wpAnyH_done (by kernel_rfl) ?_ _
    go_wp2
    go_ret
    exact ⟨rfl, ⟨RnAt.setV (RnAt.drewN HRN.out _) d hd' _, MemAt.setO (MemAt.drewO HMM.out) HR.out.n1 HR.out.n2 HR.out.n3 _, HR.out.bg, HR.out.n1, HR.out.n2, HR.out.n3⟩, (((Keep.of_below HBW.out).drewN _).setCell _ (Or.inl rfl) _)⟩
  · have HT := Aside0.mk ht
    (try simp only [if_neg ht])
    clear ht
    go_enter Try.func59, Try.ntmps59
    go_wp2
    go_quiet (fail)
    have htb : (lt != 0) = true := by simpa using HT.out
    have htc : (lt == 0) = false := by simpa using HT.out
    go_wp2_with (first | (go_at_call 82; refine (HLD.out _ rfl).mono ?_; rintro e w5 ⟨rfl, ⟨n5, rfl⟩⟩) | (go_at_call 68; refine (HLC.out _ (HMA.out _ (by repeat (first | exact below_alloc (Below.refl _ _) _ | apply pw_below_drewN)))).mono ?_; rintro e w6 ⟨rfl, hb6⟩; have HB6 := Aside0.mk hb6; clear hb6))
    go_ret
    have hbw : Below w.heap.size w w6 := (pw_below_drewN (below_alloc (Below.refl _ _) _) _).trans (HB6.out.mono (by simp))
    exact ⟨rfl, ⟨HRA.out _ hbw, HMA.out _ hbw, HR.out.bg, HR.out.n1, HR.out.n2, HR.out.n3⟩, Keep.of_below hbw⟩
set_option maxRecDepth 100000 in
set_option maxHeartbeats 8000000 in
theorem mem_load20 (w : World) (base g : Nat) (lv ev : Value) (at_ : Int) (V : List Int) (gm bf br : Nat) (F R : Int) (fl rl : List Int) (h : RM w base g lv ev at_ V gm bf br F R fl rl) (hF : MemFit F R fl.length rl.length) (hbf : Bytes fl) (hbr : Bytes rl) (hl : V.length = 64) (d a : Nat) (hd : d < 64) (ha : a < 64) (B imm : Int) :
    Calls Try.prog 59 #[.pointer (some ⟨g, 0, none⟩), .agg #[.int .i64 20, .int .i64 d, .int .i64 a, .int .i64 B, .int .i32 imm]] w (MemStep w base g lv ev at_ (if (ldV 20 F R fl rl ((rd V a + imm) % 4294967296)).2 = 0 then V.set d (ldV 20 F R fl rl ((rd V a + imm) % 4294967296)).1 else V) gm bf br F R fl rl (ldV 20 F R fl rl ((rd V a + imm) % 4294967296)).2) := by
  have h3 := h.rn.gv a ha
  have h5 := h.rn.gm
  have hlt := h.rn.lt
  have hai : (a : Int) < 64 := by omega
  have hdi : (d : Int) < 64 := by omega
  obtain ⟨ad, had⟩ : ∃ ad, ad = (rd V a + imm) % 4294967296 := ⟨_, rfl⟩
  have had' : (rd V a + imm) % 4294967296 = ad := had.symm
  obtain ⟨va, hva⟩ : ∃ va, va = rd V (a : Int) := ⟨_, rfl⟩
  rw [← hva] at h3 had'
  rw [← had]
  have had0 : 0 ≤ ad ∧ ad < 4294967296 := by rw [had]; omega
  have HLC := Aside0.mk (fun (W : World) (hm : MemAt W base gm bf br F R fl rl) => load_calls base gm bf br F R fl rl ad 4 W hm hF hbf hbr had0.1 had0.2 (by decide))
  have hldv : ldV 20 F R fl rl ad = loadV F R fl rl ad 4 := by unfold ldV; simp
  obtain ⟨lw, lt, hlwt⟩ : ∃ lw lt, loadV F R fl rl ad 4 = (lw, lt) := ⟨_, _, rfl⟩
  rw [hldv]
  simp only [hlwt] at HLC ⊢
  have HR := Aside0.mk h
  have hd' := hd
  have HSX := Aside0.mk (sext_some lw 8 (by decide))
  have HLD := Aside0.mk (lirrun_loads.calls 20 4 false)
  have HMA := Aside0.mk (fun (W : World) (hb : Below w.heap.size w W) => HR.out.mm.below hb)
  have HRA := Aside0.mk (fun (W : World) (hb : Below w.heap.size w W) => HR.out.rn.below hb)
  clear h had hva hF hl had0 hldv hlwt hbf hbr
  by_cases ht : lt = 0
  · subst ht
    go_enter Try.func59, Try.ntmps59
    go_wp2
    go_quiet (fail)
    go_wp2_with (first | (go_at_call 82; refine (HLD.out _ rfl).mono ?_; rintro e w5 ⟨rfl, ⟨n5, rfl⟩⟩) | (go_at_call 68; refine (HLC.out _ (HMA.out _ (by repeat (first | exact below_alloc (Below.refl _ _) _ | apply pw_below_drewN)))).mono ?_; rintro e w6 ⟨rfl, hb6⟩; have HB6 := Aside0.mk hb6; clear hb6) | (go_at_call 83; refine (num_Sext.calls _ _ _ _ HSX.out).mono ?_; rintro e w7 ⟨rfl, ⟨n7, rfl⟩⟩))
    have hbw : Below w.heap.size w w6 := (pw_below_drewN (below_alloc (Below.refl _ _) _) _).trans (HB6.out.mono (by simp))
    have hbx : w6.heap[w.heap.size]? = some (.cells #[.int .i64 20, .int .i64 d, .int .i64 a, .int .i64 B, .int .i32 imm] 49) := (HB6.out.block w.heap.size (by simp)).trans (heap_alloc_new w _)
    have hrn := HRA.out _ hbw
    have g3 := hrn.gv d hd'
    have gf := hrn.frozen (4 + d)
    have hne : w.heap.size ≠ g := by omega
    have hne2 : g ≠ w.heap.size := by omega
    have HBW := Aside0.mk hbw
    have HRN := Aside0.mk hrn
    have HMM := Aside0.mk (HMA.out _ hbw)
    have b1 := blk_cell hbx 1
    clear hbw hrn hbx
    refine wp_region_held_drew (S := fun W' => W'.cell? ⟨w.heap.size, 1, none⟩ = some (.int .i64 d)) (by kernel_rfl) (show _ from b1) (fun hHeld => ?_)
    refine wpAnyH_take (i := 0) (v := ?_) rfl (by kernel_rfl) (by kernel_rfl) (by kernel_rfl) (fun _ _ _ h => h) (Or.inl ⟨by rfl, ?_⟩) (by assumption) ?_
    rotate_left
    · (intro w hSw; go_simp; (try with_reducible rfl))
    try simp only [Act.put, List.getElem_toArray, List.getElem_cons_succ, List.getElem_cons_zero, List.setIfInBounds_toArray, List.set_cons_zero, List.set_cons_succ]
    refine wpAnyH_take (i := 1) (v := ?_) rfl (by kernel_rfl) (by kernel_rfl) (by kernel_rfl) (fun _ _ _ h => h) (Or.inl ⟨by rfl, ?_⟩) (by assumption) ?_
    rotate_left
    · (intro w hSw; go_simp; (try with_reducible rfl))
    try simp only [Act.put, List.getElem_toArray, List.getElem_cons_succ, List.getElem_cons_zero, List.setIfInBounds_toArray, List.set_cons_zero, List.set_cons_succ]
    refine wpAnyH_take (i := 2) (v := ?_) rfl (by kernel_rfl) (by kernel_rfl) (by kernel_rfl) (fun _ _ _ h => h) (Or.inl ⟨by rfl, ?_⟩) (by assumption) ?_
    rotate_left
    · (intro w hSw; go_simp; (try with_reducible rfl))
    try simp only [Act.put, List.getElem_toArray, List.getElem_cons_succ, List.getElem_cons_zero, List.setIfInBounds_toArray, List.set_cons_zero, List.set_cons_succ]
    refine wpAnyH_take (i := 3) (v := ?_) rfl (by kernel_rfl) (by kernel_rfl) (by kernel_rfl) (fun _ _ _ h => h) (Or.inl ⟨by rfl, ?_⟩) (by assumption) ?_
    rotate_left
    · (intro w hSw; go_simp; (try with_reducible rfl))
    try simp only [Act.put, List.getElem_toArray, List.getElem_cons_succ, List.getElem_cons_zero, List.setIfInBounds_toArray, List.set_cons_zero, List.set_cons_succ]
    refine wpAnyH_take (i := 4) (v := ?_) rfl (by kernel_rfl) (by kernel_rfl) (by kernel_rfl) (fun _ _ _ h => h) (Or.inl ⟨by rfl, ?_⟩) (by assumption) ?_
    rotate_left
    · (intro w hSw; go_simp; (try with_reducible rfl))
    try simp only [Act.put, List.getElem_toArray, List.getElem_cons_succ, List.getElem_cons_zero, List.setIfInBounds_toArray, List.set_cons_zero, List.set_cons_succ]
    refine wpAnyH_take (i := 5) (v := ?_) rfl (by kernel_rfl) (by kernel_rfl) (by kernel_rfl) (fun _ _ _ h => h) (Or.inl ⟨by rfl, ?_⟩) (by assumption) ?_
    rotate_left
    · (intro w hSw; go_simp; (try with_reducible rfl))
    try simp only [Act.put, List.getElem_toArray, List.getElem_cons_succ, List.getElem_cons_zero, List.setIfInBounds_toArray, List.set_cons_zero, List.set_cons_succ]
    refine wpAnyH_take (i := 6) (v := ?_) rfl (by kernel_rfl) (by kernel_rfl) (by kernel_rfl) (fun _ _ _ h => h) (Or.inl ⟨by rfl, ?_⟩) (by assumption) ?_
    rotate_left
    · (intro w hSw; go_simp; (try with_reducible rfl))
    try simp only [Act.put, List.getElem_toArray, List.getElem_cons_succ, List.getElem_cons_zero, List.setIfInBounds_toArray, List.set_cons_zero, List.set_cons_succ]
    refine wpAnyH_ready (rs := [7]) (by kernel_rfl) (by simp) ?_
    refine AllReadyH.cons rfl (fun K hK => ?_) (AllReadyH.nil)
    go_simp
    refine hK.out _ _ (by go_keep) (fun hHeld => ?_)
    clear hK K
    try simp only [Act.put, List.getElem_toArray, List.getElem_cons_succ, List.getElem_cons_zero, List.setIfInBounds_toArray, List.set_cons_zero, List.set_cons_succ]
    refine wpAnyH_done (by kernel_rfl) ?_ _
    go_wp2
    go_ret
    exact ⟨rfl, ⟨RnAt.setV (RnAt.drewN HRN.out _) d hd' _, MemAt.setO (MemAt.drewO HMM.out) HR.out.n1 HR.out.n2 HR.out.n3 _, HR.out.bg, HR.out.n1, HR.out.n2, HR.out.n3⟩, (((Keep.of_below HBW.out).drewN _).setCell _ (Or.inl rfl) _)⟩
  · have HT := Aside0.mk ht
    (try simp only [if_neg ht])
    clear ht
    go_enter Try.func59, Try.ntmps59
    go_wp2
    go_quiet (fail)
    have htb : (lt != 0) = true := by simpa using HT.out
    have htc : (lt == 0) = false := by simpa using HT.out
    go_wp2_with (first | (go_at_call 82; refine (HLD.out _ rfl).mono ?_; rintro e w5 ⟨rfl, ⟨n5, rfl⟩⟩) | (go_at_call 68; refine (HLC.out _ (HMA.out _ (by repeat (first | exact below_alloc (Below.refl _ _) _ | apply pw_below_drewN)))).mono ?_; rintro e w6 ⟨rfl, hb6⟩; have HB6 := Aside0.mk hb6; clear hb6))
    go_ret
    have hbw : Below w.heap.size w w6 := (pw_below_drewN (below_alloc (Below.refl _ _) _) _).trans (HB6.out.mono (by simp))
    exact ⟨rfl, ⟨HRA.out _ hbw, HMA.out _ hbw, HR.out.bg, HR.out.n1, HR.out.n2, HR.out.n3⟩, Keep.of_below hbw⟩

end Go.Proofs.Ytpeljnnbknnbmaa.PD
end
end
section
section
namespace Go.Proofs.Ytpeljnnbknnbmaa.PD
open Go.RowKit Go.Proofs.YtpeljnnbknnbmaaW.PrintWords Go.Proofs.YtpeljnnbknnbmaaW.PrintLast Go.Proofs.YtpeljnnbknnbmaaW.PrintMore
set_option linter.unusedVariables false
set_option linter.unusedSimpArgs false
def isMem (x : S49) : Prop := 17 ≤ x.f0 ∧ x.f0 ≤ 22
instance (x : S49) : Decidable (isMem x) := by unfold isMem; infer_instance
def mAd (x : S49) (V : List Int) : Int := (rd V x.f2 + x.f4) % 4294967296
/-- whether a step of memory traps; the variables and the RAM behind it -/
def mTrap (F R : Int) (fl : List Int) (x : S49) (V rl : List Int) : Int :=
  if x.f0 = 21 then storeT R rl.length (mAd x V) 1 else if x.f0 = 22 then storeT R rl.length (mAd x V) 4 else (ldV x.f0 F R fl rl (mAd x V)).2
def mV (F R : Int) (fl : List Int) (x : S49) (V rl : List Int) : List Int :=
  if x.f0 = 21 then V else if x.f0 = 22 then V else if (ldV x.f0 F R fl rl (mAd x V)).2 = 0 then V.set x.f1.toNat (ldV x.f0 F R fl rl (mAd x V)).1 else V
def mL (R : Int) (x : S49) (V rl : List Int) : List Int :=
  if x.f0 = 21 then storeL R rl (mAd x V) 1 (rd V x.f3) else if x.f0 = 22 then storeL R rl (mAd x V) 4 (rd V x.f3) else rl
structure MOk (x : S49) : Prop where
  o : isMem x
  d : 0 ≤ x.f1 ∧ x.f1 < 64
  a : 0 ≤ x.f2 ∧ x.f2 < 64
  b : 0 ≤ x.f3 ∧ x.f3 < 64
theorem mem_some (w : World) (base g : Nat) (lv ev : Value) (at_ : Int) (V : List Int) (gm bf br : Nat) (F R : Int) (fl rl : List Int) (h : RM w base g lv ev at_ V gm bf br F R fl rl) (hF : MemFit F R fl.length rl.length) (hbf : Bytes fl) (hbr : Bytes rl) (hu : ∀ x ∈ V, U32 x) (hl : V.length = 64) (x : S49) (hx : MOk x) :
    Calls Try.prog 59 #[.pointer (some ⟨g, 0, none⟩), .agg #[.int .i64 x.f0, .int .i64 x.f1, .int .i64 x.f2, .int .i64 x.f3, .int .i32 x.f4]] w (MemStep w base g lv ev at_ (mV F R fl x V rl) gm bf br F R fl (mL R x V rl) (mTrap F R fl x V rl)) := by
  obtain ⟨⟨ho1, ho2⟩, hd, ha, hb⟩ := hx
  obtain ⟨o, d, a, b, i⟩ := x
  simp only at ho1 ho2 hd ha hb
  obtain ⟨d, rfl⟩ : ∃ n : Nat, d = n := ⟨d.toNat, by omega⟩
  obtain ⟨a, rfl⟩ : ∃ n : Nat, a = n := ⟨a.toNat, by omega⟩
  obtain ⟨b, rfl⟩ : ∃ n : Nat, b = n := ⟨b.toNat, by omega⟩
  rcases (by omega : o = 17 ∨ o = 18 ∨ o = 19 ∨ o = 20 ∨ o = 21 ∨ o = 22) with rfl | rfl | rfl | rfl | rfl | rfl
  · exact mem_load17 w base g lv ev at_ V gm bf br F R fl rl h hF hbf hbr hl d a (by omega) (by omega) b i
  · exact mem_load18 w base g lv ev at_ V gm bf br F R fl rl h hF hbf hbr hl d a (by omega) (by omega) b i
  · exact mem_load19 w base g lv ev at_ V gm bf br F R fl rl h hF hbf hbr hl d a (by omega) (by omega) b i
  · exact mem_load20 w base g lv ev at_ V gm bf br F R fl rl h hF hbf hbr hl d a (by omega) (by omega) b i
  · exact mem_store8 w base g lv ev at_ V gm bf br F R fl rl h hF hu hl a b (by omega) (by omega) d i
  · exact mem_store32 w base g lv ev at_ V gm bf br F R fl rl h hF hu hl a b (by omega) (by omega) d i
/-- a row that is read, behind what leaves its block alone -/
theorem C_flat {α : Type} {d : Kd α} {w w1 : World} {ad : Addr} {n : Nat} {xs : List α} (hK : ∀ x cs, d.K w x cs → d.K w1 x cs) (h : d.C w (some ad) n xs) (hk : ad.block < w.heap.size → w1.heap[ad.block]? = w.heap[ad.block]?) : d.C w1 (some ad) n xs := by
  refine ⟨h.1, h.2.1, fun hn => ?_⟩
  obtain ⟨ad', e, hc⟩ := h.2.2 hn
  injection e with e
  subst e
  refine ⟨ad, rfl, fun j p hj => ?_⟩
  obtain ⟨c, hl, hr, hcell⟩ := hc j p hj
  refine ⟨c, hl, hK _ _ hr, fun i u hi => ?_⟩
  have h1 := hcell i u hi
  have hb := World.block_lt_of_cell? w _ h1
  rw [show (ad.add (j * d.sz + i)).block = ad.block by unfold Addr.add; split <;> rfl] at hb
  have h2 := hk hb
  rw [← h1]
  unfold World.cell?
  rw [show (ad.add (j * d.sz + i)).block = ad.block by unfold Addr.add; split <;> rfl, h2]
theorem C_keep49 {w w1 : World} {ad : Addr} {n : Nat} {xs : List S49} {br : Nat} (h : Kd.C k49 w (some ad) n xs) (hk : Keep (· = br) w w1) (hne : ad.block ≠ br) : Kd.C k49 w1 (some ad) n xs :=
  C_flat (fun x cs hx => by rw [k49_open hx]; exact k49_mk w1 x) h (fun hb => hk.block _ hb hne)
theorem C_keepi {w w1 : World} {ad : Addr} {n : Nat} {xs : List Int} {br : Nat} (h : Kd.C (Kd.int .i64) w (some ad) n xs) (hk : Keep (· = br) w w1) (hne : ad.block ≠ br) : Kd.C (Kd.int .i64) w1 (some ad) n xs :=
  C_flat (w := w) (w1 := w1) (fun x cs hx => hx) h (fun hb => hk.block _ hb hne)
/-- one step of a program with memory: where it is, its variables, the RAM -/
def sStep (l : List S49) (E : List Int) (F R : Int) (fl : List Int) (s : Int × List Int × List Int) : Int × List Int × List Int :=
  if isMem (rd_T49 l s.1) then (s.1 + 1, mV F R fl (rd_T49 l s.1) s.2.1 s.2.2, mL R (rd_T49 l s.1) s.2.1 s.2.2)
  else ((pStep l E (s.1, s.2.1)).1, (pStep l E (s.1, s.2.1)).2, s.2.2)
def sTr (l : List S49) (F R : Int) (fl : List Int) (s : Int × List Int × List Int) : Int := if isMem (rd_T49 l s.1) then mTrap F R fl (rd_T49 l s.1) s.2.1 s.2.2 else 0
def sRun (l : List S49) (E : List Int) (F R : Int) (fl rl : List Int) : Nat → Int × List Int × List Int
  | 0 => (0, List.replicate 64 0, rl)
  | k + 1 => sStep l E F R fl (sRun l E F R fl rl k)
/-- a step that can be done where the program is -/
structure SOn (l : List S49) (E : List Int) (nr : Nat) (s : Int × List Int × List Int) : Prop where
  u : ∀ x ∈ s.2.1, U32 x
  len : s.2.1.length = 64
  at0 : 0 ≤ s.1
  at1 : s.1 < l.length
  br : Bytes s.2.2
  rlen : s.2.2.length = nr
  ok : (isMem (rd_T49 l s.1) → MOk (rd_T49 l s.1)) ∧ (¬ isMem (rd_T49 l s.1) → POn l E (s.1, s.2.1))
theorem mTrap_stays {F R : Int} {fl : List Int} {x : S49} {V rl : List Int} (h : mTrap F R fl x V rl ≠ 0) : mV F R fl x V rl = V ∧ mL R x V rl = rl := by
  unfold mTrap at h
  unfold mV mL
  by_cases h1 : x.f0 = 21
  · rw [if_pos h1] at h
    rw [if_pos h1, if_pos h1]
    unfold storeL
    rw [if_neg h]
    exact ⟨rfl, rfl⟩
  · rw [if_neg h1] at h
    rw [if_neg h1, if_neg h1]
    by_cases h2 : x.f0 = 22
    · rw [if_pos h2] at h
      rw [if_pos h2, if_pos h2]
      unfold storeL
      rw [if_neg h]
      exact ⟨rfl, rfl⟩
    · rw [if_neg h2] at h
      rw [if_neg h2, if_neg h2, if_neg h]
      exact ⟨rfl, rfl⟩
theorem Keep.shrink {w w1 w2 : World} {g br : Nat} (h : Keep (· = br) w w1) (k : Keep (fun i => i = g ∨ i = br) w1 w2) (hg : w.heap.size ≤ g) : Keep (· = br) w w2 :=
  ⟨k.os.trans h.os, k.tape.trans h.tape, k.output.trans h.output, Nat.le_trans h.size k.size, fun i hi hs => (k.block i (Nat.lt_of_lt_of_le hi h.size) (fun e => by rcases e with e | e; exact absurd hi (by omega); exact hs e)).trans (h.block i hi hs)⟩
theorem RM.setA {w : World} {base g : Nat} {lv ev : Value} {at_ : Int} {V : List Int} {gm bf br : Nat} {F R : Int} {fl rl : List Int} (h : RM w base g lv ev at_ V gm bf br F R fl rl) (x : Int) : RM (w.setCell ⟨g, 3, none⟩ (.int .i64 x)) base g lv ev x V gm bf br F R fl rl :=
  ⟨h.rn.setA x, MemAt.setO h.mm h.n1 h.n2 h.n3 _, h.bg, h.n1, h.n2, h.n3⟩
theorem RM.below {w w1 : World} {base g : Nat} {lv ev : Value} {at_ : Int} {V : List Int} {gm bf br : Nat} {F R : Int} {fl rl : List Int} (h : RM w base g lv ev at_ V gm bf br F R fl rl) (hb : Below w.heap.size w w1) : RM w1 base g lv ev at_ V gm bf br F R fl rl :=
  ⟨h.rn.below hb, h.mm.below hb, h.bg, h.n1, h.n2, h.n3⟩
theorem plain_rm (w : World) (base g : Nat) (la ea : Addr) (lc ec : Nat) (l : List S49) (E : List Int) (s : Int × List Int) (gm bf br : Nat) (F R : Int) (fl rl : List Int) (hs : POn l E s) (hEl : E.length = l.length) (hC : Kd.C k49 w (some la) l.length l) (hE : Kd.C (Kd.int .i64) w (some ea) E.length E)
    (h : RM w base g (.slice (some la) l.length lc) (.slice (some ea) E.length ec) s.1 s.2 gm bf br F R fl rl) (hg : la.block ≠ g) :
    Calls Try.prog 60 #[.pointer (some ⟨g, 0, none⟩), .agg #[.int .i64 (rd_T49 l s.1).f0, .int .i64 (rd_T49 l s.1).f1, .int .i64 (rd_T49 l s.1).f2, .int .i64 (rd_T49 l s.1).f3, .int .i32 (rd_T49 l s.1).f4]] w fun e w' =>
      e = .returned (.tuple #[]) ∧ RM w' base g (.slice (some la) l.length lc) (.slice (some ea) E.length ec) ((pStep l E s).1 - 1) (pStep l E s).2 gm bf br F R fl rl ∧ Keep (fun i => i = g ∨ i = br) w w' := by
  refine (plain_on w g la ea lc ec _ l E s hs hEl hC hE h.rn hg).mono ?_
  rintro e w' ⟨rfl, hr, hk⟩
  exact ⟨rfl, ⟨hr, h.mm.move fun k hk' => by rcases hk' with rfl | rfl | rfl; exact hk.block _ h.mm.lt.1 (Ne.symm h.n1); exact hk.block _ h.mm.lt.2.1 (Ne.symm h.n2); exact hk.block _ h.mm.lt.2.2 (Ne.symm h.n3), h.bg, h.n1, h.n2, h.n3⟩, ⟨hk.os, hk.tape, hk.output, hk.size, fun i hi hs => hk.block i hi (fun e => hs (Or.inl e))⟩⟩

end Go.Proofs.Ytpeljnnbknnbmaa.PD
end
section
namespace Go.Proofs.Ytpeljnnbknnbmaa.PD
open Go.RowKit Go.Proofs.YtpeljnnbknnbmaaW.PrintWords Go.Proofs.YtpeljnnbknnbmaaW.PrintLast Go.Proofs.YtpeljnnbknnbmaaW.PrintMore
set_option linter.unusedVariables false
set_option linter.unusedSimpArgs false
theorem Keep.setNew {S : Nat → Prop} {w w1 : World} (h : Keep S w w1) (p : Addr) (hp : w.heap.size ≤ p.block) (u : Value) : Keep S w (w1.setCell p u) :=
  ⟨h.os, h.tape, h.output, by simpa [World.setCell] using h.size, fun i hi hs => (Below.heap_setCell w1 p u i (by omega)).trans (h.block i hi hs)⟩
end Go.Proofs.Ytpeljnnbknnbmaa.PD
end
end
