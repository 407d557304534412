import Derived.Test.YtpeljnnbknnbmaaMaPDx9
import Derived.Test.YtpeljnnbknnbmaaMaN8
import Derived.StillTailTactics
import Derived.Outline
import Derived.Test.YtpeljnnbknnbmaaMaPDx0
section
section
namespace Go.Proofs.Ytpeljnnbknnbmaa.PD
open Go.RowKit Go.Proofs.YtpeljnnbknnbmaaW.PrintWords Go.Proofs.YtpeljnnbknnbmaaW.PrintLast Go.Proofs.YtpeljnnbknnbmaaW.PrintMore
set_option linter.unusedVariables false
set_option linter.unusedSimpArgs false
/-- the runner and its memory, in one world -/
structure RM (w : World) (base g : Nat) (lv ev : Value) (at_ : Int) (V : List Int) (gm bf br : Nat) (F R : Int) (fl rl : List Int) : Prop where
  rn : RnAt w g lv ev (.pointer (some ⟨gm, 0, none⟩)) at_ V
  mm : MemAt w base gm bf br F R fl rl
  bg : base ≤ g
  n1 : g ≠ gm
  n2 : g ≠ bf
  n3 : g ≠ br
/-- what a step of memory leaves: whether it traps, the variables, the bytes -/
def MemStep (w : World) (base g : Nat) (lv ev : Value) (at_ : Int) (V : List Int) (gm bf br : Nat) (F R : Int) (fl rl : List Int) (t : Int) (e : Ending) (w' : World) : Prop :=
  e = .returned (.int .i64 t) ∧ RM w' base g lv ev at_ V gm bf br F R fl rl ∧ Keep (fun i => i = g ∨ i = br) w w'
theorem RnAt.but {w w1 : World} {g br : Nat} {lv ev mv : Value} {at_ : Int} {V : List Int} (h : RnAt w g lv ev mv at_ V) (hk : KeepBut w w1 br none) (hg : g ≠ br) : RnAt w1 g lv ev mv at_ V := by
  obtain ⟨C, hC, r⟩ := h
  exact ⟨C, hk.blk hC hg (by simp), r⟩
theorem Keep.but {w W w1 : World} {g br base : Nat} (h : Keep (fun i => i = g ∨ i = br) w W) (hk : KeepBut W w1 br none) (hb : Below base W w1) : Keep (fun i => i = g ∨ i = br) w w1 :=
  h.trans ⟨hb.os, hb.tape, hb.output, hk.1, fun i hi hs => hk.2 i hi (fun e => hs (Or.inr e)) (by simp)⟩
set_option maxRecDepth 100000 in
set_option maxHeartbeats 8000000 in
theorem mem_store8 (w : World) (base g : Nat) (lv ev : Value) (at_ : Int) (V : List Int) (gm bf br : Nat) (F R : Int) (fl rl : List Int) (h : RM w base g lv ev at_ V gm bf br F R fl rl) (hF : MemFit F R fl.length rl.length) (hu : ∀ x ∈ V, U32 x) (hl : V.length = 64) (a b : Nat) (ha : a < 64) (hb : b < 64) (D imm : Int) :
    Calls Try.prog 59 #[.pointer (some ⟨g, 0, none⟩), .agg #[.int .i64 21, .int .i64 D, .int .i64 a, .int .i64 b, .int .i32 imm]] w (MemStep w base g lv ev at_ V gm bf br F R fl (storeL R rl ((rd V a + imm) % 4294967296) 1 (rd V b)) (storeT R rl.length ((rd V a + imm) % 4294967296) 1)) := by
  have h3 := h.rn.gv a ha
  have h4 := h.rn.gv b hb
  have h5 := h.rn.gm
  have hlt := h.rn.lt
  have hai : (a : Int) < 64 := by omega
  have hbi : (b : Int) < 64 := by omega
  obtain ⟨ad, had⟩ : ∃ ad, ad = (rd V a + imm) % 4294967296 := ⟨_, rfl⟩
  have had' : (rd V a + imm) % 4294967296 = ad := had.symm
  have hub := rd_u32 hl hu b hb
  obtain ⟨vb, hvb⟩ : ∃ vb, vb = rd V (b : Int) := ⟨_, rfl⟩
  obtain ⟨va, hva⟩ : ∃ va, va = rd V (a : Int) := ⟨_, rfl⟩
  rw [← hvb] at h4 hub
  rw [← hva] at h3 had'
  rw [← had, ← hvb]
  have had0 : 0 ≤ ad ∧ ad < 4294967296 := by rw [had]; omega
  have HS := Aside0.mk (fun (W : World) (hm : MemAt W base gm bf br F R fl rl) => store_calls base gm bf br F R fl rl ad 1 vb W hm hF had0.1 had0.2 hub.1 hub.2 (by decide))
  have HR := Aside0.mk h
  have HVB := Aside0.mk hvb
  have hb' := hb
  clear had hvb hva hF hu hl had0 hub
  go_enter Try.func59, Try.ntmps59
  go_wp2
  go_quiet (fail)
  go_wp2
  have HMM := Aside0.mk (show MemAt ((w.alloc (.cells #[.int .i64 21, .int .i64 D, .int .i64 a, .int .i64 b, .int .i32 imm] 49)).drewN (nq + 1)) base gm bf br F R fl rl from HR.out.mm.below (pw_below_drewN (below_alloc (Below.refl _ _) _) _))
  have HRN := Aside0.mk (show RnAt ((w.alloc (.cells #[.int .i64 21, .int .i64 D, .int .i64 a, .int .i64 b, .int .i32 imm] 49)).drewN (nq + 1)) g lv ev (.pointer (some ⟨gm, 0, none⟩)) at_ V from HR.out.rn.alloc _)
  have HBX := Aside0.mk (show ((w.alloc (.cells #[.int .i64 21, .int .i64 D, .int .i64 a, .int .i64 b, .int .i32 imm] 49)).drewN (nq + 1)).heap[w.heap.size]? = _ from heap_alloc_new w _)
  have HKP := Aside0.mk (show Keep (fun i => i = g ∨ i = br) w ((w.alloc (.cells #[.int .i64 21, .int .i64 D, .int .i64 a, .int .i64 b, .int .i32 imm] 49)).drewN (nq + 1)) from ((Keep.refl _ _).alloc _).drewN _)
  have HN3 := Aside0.mk HR.out.n3
  have HNB := Aside0.mk (show w.heap.size ≠ br from by have := HR.out.mm.lt; omega)
  refine wp_region_held_drew (S := fun W' => W'.cell? ⟨w.heap.size, 3, none⟩ = some (.int .i64 b) ∧ W'.cell? ⟨g, 2, none⟩ = some (.pointer (some ⟨gm, 0, none⟩)) ∧ W'.cell? ⟨g, 4 + b, none⟩ = some (.int .u32 vb)) (by kernel_rfl) ⟨blk_cell HBX.out 3, HRN.out.gm, by have := HRN.out.gv b hb'; rw [← HVB.out] at this; exact this⟩ (fun hHeld => ?_)
  refine wpAnyH_take (i := 0) (v := ?_) rfl (by kernel_rfl) (by kernel_rfl) (by kernel_rfl) (fun _ _ _ h => h) (Or.inl ⟨by rfl, ?_⟩) (by assumption) ?_
  rotate_left
  · (intro w hSw; go_simp; (try with_reducible rfl))
  try simp only [Act.put, List.getElem_toArray, List.getElem_cons_succ, List.getElem_cons_zero, List.setIfInBounds_toArray, List.set_cons_zero, List.set_cons_succ]
  refine wpAnyH_take (i := 1) (v := ?_) rfl (by kernel_rfl) (by kernel_rfl) (by kernel_rfl) (fun _ _ _ h => h) (Or.inl ⟨by rfl, ?_⟩) (by assumption) ?_
  rotate_left
  · (intro w hSw; go_simp; (try with_reducible rfl))
  try simp only [Act.put, List.getElem_toArray, List.getElem_cons_succ, List.getElem_cons_zero, List.setIfInBounds_toArray, List.set_cons_zero, List.set_cons_succ]
  refine wpAnyH_take (i := 2) (v := ?_) rfl (by kernel_rfl) (by kernel_rfl) (by kernel_rfl) (fun _ _ _ h => h) (Or.inl ⟨by rfl, ?_⟩) (by assumption) ?_
  rotate_left
  · (intro w hSw; go_simp; (try with_reducible rfl))
  try simp only [Act.put, List.getElem_toArray, List.getElem_cons_succ, List.getElem_cons_zero, List.setIfInBounds_toArray, List.set_cons_zero, List.set_cons_succ]
  refine wpAnyH_take (i := 3) (v := ?_) rfl (by kernel_rfl) (by kernel_rfl) (by kernel_rfl) (fun _ _ _ h => h) (Or.inl ⟨by rfl, ?_⟩) (by assumption) ?_
  rotate_left
  · (intro w hSw; go_simp; (try with_reducible rfl))
  try simp only [Act.put, List.getElem_toArray, List.getElem_cons_succ, List.getElem_cons_zero, List.setIfInBounds_toArray, List.set_cons_zero, List.set_cons_succ]
  refine wpAnyH_take (i := 4) (v := ?_) rfl (by kernel_rfl) (by kernel_rfl) (by kernel_rfl) (fun _ _ _ h => h) (Or.inl ⟨by rfl, ?_⟩) (by assumption) ?_
  rotate_left
  · (intro w hSw; go_simp; (try with_reducible rfl))
  try simp only [Act.put, List.getElem_toArray, List.getElem_cons_succ, List.getElem_cons_zero, List.setIfInBounds_toArray, List.set_cons_zero, List.set_cons_succ]
  refine wpAnyH_take (i := 5) (v := ?_) rfl (by kernel_rfl) (by kernel_rfl) (by kernel_rfl) (fun _ _ _ h => h) (Or.inl ⟨by rfl, ?_⟩) (by assumption) ?_
  rotate_left
  · (intro w hSw; go_simp; (try with_reducible rfl))
  try simp only [Act.put, List.getElem_toArray, List.getElem_cons_succ, List.getElem_cons_zero, List.setIfInBounds_toArray, List.set_cons_zero, List.set_cons_succ]
  refine wpAnyH_take (i := 6) (v := ?_) rfl (by kernel_rfl) (by kernel_rfl) (by kernel_rfl) (fun _ _ _ h => h) (Or.inl ⟨by rfl, ?_⟩) (by assumption) ?_
  rotate_left
  · (intro w hSw; go_simp; (try with_reducible rfl))
  try simp only [Act.put, List.getElem_toArray, List.getElem_cons_succ, List.getElem_cons_zero, List.setIfInBounds_toArray, List.set_cons_zero, List.set_cons_succ]
  refine wpAnyH_take (i := 7) (v := ?_) rfl (by kernel_rfl) (by kernel_rfl) (by kernel_rfl) (fun _ _ _ h => h) (Or.inl ⟨by rfl, ?_⟩) (by assumption) ?_
  rotate_left
  · (intro w hSw; go_simp; (try with_reducible rfl))
  try simp only [Act.put, List.getElem_toArray, List.getElem_cons_succ, List.getElem_cons_zero, List.setIfInBounds_toArray, List.set_cons_zero, List.set_cons_succ]
  refine wpAnyH_take (i := 8) (v := ?_) rfl (by kernel_rfl) (by kernel_rfl) (by kernel_rfl) (fun _ _ _ h => h) (Or.inl ⟨by rfl, ?_⟩) (by assumption) ?_
  rotate_left
  · (intro w hSw; go_simp; (try with_reducible rfl))
  try simp only [Act.put, List.getElem_toArray, List.getElem_cons_succ, List.getElem_cons_zero, List.setIfInBounds_toArray, List.set_cons_zero, List.set_cons_succ]
  refine wpAnyH_take (i := 9) (v := ?_) rfl (by kernel_rfl) (by kernel_rfl) (by kernel_rfl) (fun _ _ _ h => h) (Or.inl ⟨by rfl, ?_⟩) (by assumption) ?_
  rotate_left
  · (intro w hSw; go_simp; (try with_reducible rfl))
  try simp only [Act.put, List.getElem_toArray, List.getElem_cons_succ, List.getElem_cons_zero, List.setIfInBounds_toArray, List.set_cons_zero, List.set_cons_succ]
  refine wpAnyH_take (i := 10) (v := ?_) rfl (by kernel_rfl) (by kernel_rfl) (by kernel_rfl) (fun _ _ _ h => h) (Or.inl ⟨by rfl, ?_⟩) (by assumption) ?_
  rotate_left
  · (intro w hSw; go_simp; (try with_reducible rfl))
  try simp only [Act.put, List.getElem_toArray, List.getElem_cons_succ, List.getElem_cons_zero, List.setIfInBounds_toArray, List.set_cons_zero, List.set_cons_succ]
  refine wpAnyH_take (i := 11) (v := ?_) rfl (by kernel_rfl) (by kernel_rfl) (by kernel_rfl) (fun _ _ _ h => h) (Or.inl ⟨by rfl, ?_⟩) (by assumption) ?_
  rotate_left
  · (intro w hSw; go_simp; (try with_reducible rfl))
  try simp only [Act.put, List.getElem_toArray, List.getElem_cons_succ, List.getElem_cons_zero, List.setIfInBounds_toArray, List.set_cons_zero, List.set_cons_succ]
  refine wpAnyH_ready (rs := [12]) (by kernel_rfl) (by simp) ?_
  refine AllReadyH.cons rfl (fun K hK => ?_) (AllReadyH.nil)
  go_simp
  (go_at_call 81; refine (HS.out _ HMM.out).mono ?_; rintro e w5 ⟨rfl, hm5, hk5, hb5⟩)
  clear hHeld
  have hr5 := RnAt.but HRN.out (show KeepBut _ w5 br none from hk5) HN3.out
  have hbx5 := KeepBut.blk (show KeepBut _ w5 br none from hk5) HBX.out HNB.out (by simp)
  have hke5 := Keep.but HKP.out (show KeepBut _ w5 br none from hk5) hb5
  refine hK.out _ _ ⟨blk_cell hbx5 3, hr5.gm, by have := hr5.gv b hb'; rw [← HVB.out] at this; exact this⟩ (fun hHeld => ?_)
  clear hK K
  try simp only [Act.put, List.getElem_toArray, List.getElem_cons_succ, List.getElem_cons_zero, List.setIfInBounds_toArray, List.set_cons_zero, List.set_cons_succ]
  refine wpAnyH_take (i := 13) (v := ?_) rfl (by kernel_rfl) (by kernel_rfl) (by kernel_rfl) (fun _ _ _ h => h) (Or.inl ⟨by rfl, ?_⟩) (by assumption) ?_
  rotate_left
  · (intro w hSw; go_simp; (try with_reducible rfl))
  try simp only [Act.put, List.getElem_toArray, List.getElem_cons_succ, List.getElem_cons_zero, List.setIfInBounds_toArray, List.set_cons_zero, List.set_cons_succ]
  refine wpAnyH_done (by kernel_rfl) ?_ _
  go_wp2
  go_ret
  exact ⟨rfl, ⟨hr5, hm5, HR.out.bg, HR.out.n1, HR.out.n2, HR.out.n3⟩, hke5⟩
set_option maxRecDepth 100000 in
set_option maxHeartbeats 8000000 in
theorem mem_store32 (w : World) (base g : Nat) (lv ev : Value) (at_ : Int) (V : List Int) (gm bf br : Nat) (F R : Int) (fl rl : List Int) (h : RM w base g lv ev at_ V gm bf br F R fl rl) (hF : MemFit F R fl.length rl.length) (hu : ∀ x ∈ V, U32 x) (hl : V.length = 64) (a b : Nat) (ha : a < 64) (hb : b < 64) (D imm : Int) :
    Calls Try.prog 59 #[.pointer (some ⟨g, 0, none⟩), .agg #[.int .i64 22, .int .i64 D, .int .i64 a, .int .i64 b, .int .i32 imm]] w (MemStep w base g lv ev at_ V gm bf br F R fl (storeL R rl ((rd V a + imm) % 4294967296) 4 (rd V b)) (storeT R rl.length ((rd V a + imm) % 4294967296) 4)) := by
  have h3 := h.rn.gv a ha
  have h4 := h.rn.gv b hb
  have h5 := h.rn.gm
  have hlt := h.rn.lt
  have hai : (a : Int) < 64 := by omega
  have hbi : (b : Int) < 64 := by omega
  obtain ⟨ad, had⟩ : ∃ ad, ad = (rd V a + imm) % 4294967296 := ⟨_, rfl⟩
  have had' : (rd V a + imm) % 4294967296 = ad := had.symm
  have hub := rd_u32 hl hu b hb
  obtain ⟨vb, hvb⟩ : ∃ vb, vb = rd V (b : Int) := ⟨_, rfl⟩
  obtain ⟨va, hva⟩ : ∃ va, va = rd V (a : Int) := ⟨_, rfl⟩
  rw [← hvb] at h4 hub
  rw [← hva] at h3 had'
  rw [← had, ← hvb]
  have had0 : 0 ≤ ad ∧ ad < 4294967296 := by rw [had]; omega
  have HS := Aside0.mk (fun (W : World) (hm : MemAt W base gm bf br F R fl rl) => store_calls base gm bf br F R fl rl ad 4 vb W hm hF had0.1 had0.2 hub.1 hub.2 (by decide))
  have HR := Aside0.mk h
  have HVB := Aside0.mk hvb
  have hb' := hb
  clear had hvb hva hF hu hl had0 hub
  go_enter Try.func59, Try.ntmps59
  go_wp2
  go_quiet (fail)
  go_wp2
  have HMM := Aside0.mk (show MemAt ((w.alloc (.cells #[.int .i64 22, .int .i64 D, .int .i64 a, .int .i64 b, .int .i32 imm] 49)).drewN (nq + 1)) base gm bf br F R fl rl from HR.out.mm.below (pw_below_drewN (below_alloc (Below.refl _ _) _) _))
  have HRN := Aside0.mk (show RnAt ((w.alloc (.cells #[.int .i64 22, .int .i64 D, .int .i64 a, .int .i64 b, .int .i32 imm] 49)).drewN (nq + 1)) g lv ev (.pointer (some ⟨gm, 0, none⟩)) at_ V from HR.out.rn.alloc _)
  have HBX := Aside0.mk (show ((w.alloc (.cells #[.int .i64 22, .int .i64 D, .int .i64 a, .int .i64 b, .int .i32 imm] 49)).drewN (nq + 1)).heap[w.heap.size]? = _ from heap_alloc_new w _)
  have HKP := Aside0.mk (show Keep (fun i => i = g ∨ i = br) w ((w.alloc (.cells #[.int .i64 22, .int .i64 D, .int .i64 a, .int .i64 b, .int .i32 imm] 49)).drewN (nq + 1)) from ((Keep.refl _ _).alloc _).drewN _)
  have HN3 := Aside0.mk HR.out.n3
  have HNB := Aside0.mk (show w.heap.size ≠ br from by have := HR.out.mm.lt; omega)
  refine wp_region_held_drew (S := fun W' => W'.cell? ⟨w.heap.size, 3, none⟩ = some (.int .i64 b) ∧ W'.cell? ⟨g, 2, none⟩ = some (.pointer (some ⟨gm, 0, none⟩)) ∧ W'.cell? ⟨g, 4 + b, none⟩ = some (.int .u32 vb)) (by kernel_rfl) ⟨blk_cell HBX.out 3, HRN.out.gm, by have := HRN.out.gv b hb'; rw [← HVB.out] at this; exact this⟩ (fun hHeld => ?_)
  refine wpAnyH_take (i := 0) (v := ?_) rfl (by kernel_rfl) (by kernel_rfl) (by kernel_rfl) (fun _ _ _ h => h) (Or.inl ⟨by rfl, ?_⟩) (by assumption) ?_
  rotate_left
  · (intro w hSw; go_simp; (try with_reducible rfl))
  try simp only [Act.put, List.getElem_toArray, List.getElem_cons_succ, List.getElem_cons_zero, List.setIfInBounds_toArray, List.set_cons_zero, List.set_cons_succ]
  refine wpAnyH_take (i := 1) (v := ?_) rfl (by kernel_rfl) (by kernel_rfl) (by kernel_rfl) (fun _ _ _ h => h) (Or.inl ⟨by rfl, ?_⟩) (by assumption) ?_
  rotate_left
  · (intro w hSw; go_simp; (try with_reducible rfl))
  try simp only [Act.put, List.getElem_toArray, List.getElem_cons_succ, List.getElem_cons_zero, List.setIfInBounds_toArray, List.set_cons_zero, List.set_cons_succ]
  refine wpAnyH_take (i := 2) (v := ?_) rfl (by kernel_rfl) (by kernel_rfl) (by kernel_rfl) (fun _ _ _ h => h) (Or.inl ⟨by rfl, ?_⟩) (by assumption) ?_
  rotate_left
  · (intro w hSw; go_simp; (try with_reducible rfl))
  try simp only [Act.put, List.getElem_toArray, List.getElem_cons_succ, List.getElem_cons_zero, List.setIfInBounds_toArray, List.set_cons_zero, List.set_cons_succ]
  refine wpAnyH_take (i := 3) (v := ?_) rfl (by kernel_rfl) (by kernel_rfl) (by kernel_rfl) (fun _ _ _ h => h) (Or.inl ⟨by rfl, ?_⟩) (by assumption) ?_
  rotate_left
  · (intro w hSw; go_simp; (try with_reducible rfl))
  try simp only [Act.put, List.getElem_toArray, List.getElem_cons_succ, List.getElem_cons_zero, List.setIfInBounds_toArray, List.set_cons_zero, List.set_cons_succ]
  refine wpAnyH_take (i := 4) (v := ?_) rfl (by kernel_rfl) (by kernel_rfl) (by kernel_rfl) (fun _ _ _ h => h) (Or.inl ⟨by rfl, ?_⟩) (by assumption) ?_
  rotate_left
  · (intro w hSw; go_simp; (try with_reducible rfl))
  try simp only [Act.put, List.getElem_toArray, List.getElem_cons_succ, List.getElem_cons_zero, List.setIfInBounds_toArray, List.set_cons_zero, List.set_cons_succ]
  refine wpAnyH_take (i := 5) (v := ?_) rfl (by kernel_rfl) (by kernel_rfl) (by kernel_rfl) (fun _ _ _ h => h) (Or.inl ⟨by rfl, ?_⟩) (by assumption) ?_
  rotate_left
  · (intro w hSw; go_simp; (try with_reducible rfl))
  try simp only [Act.put, List.getElem_toArray, List.getElem_cons_succ, List.getElem_cons_zero, List.setIfInBounds_toArray, List.set_cons_zero, List.set_cons_succ]
  refine wpAnyH_take (i := 6) (v := ?_) rfl (by kernel_rfl) (by kernel_rfl) (by kernel_rfl) (fun _ _ _ h => h) (Or.inl ⟨by rfl, ?_⟩) (by assumption) ?_
  rotate_left
  · (intro w hSw; go_simp; (try with_reducible rfl))
  try simp only [Act.put, List.getElem_toArray, List.getElem_cons_succ, List.getElem_cons_zero, List.setIfInBounds_toArray, List.set_cons_zero, List.set_cons_succ]
  refine wpAnyH_take (i := 7) (v := ?_) rfl (by kernel_rfl) (by kernel_rfl) (by kernel_rfl) (fun _ _ _ h => h) (Or.inl ⟨by rfl, ?_⟩) (by assumption) ?_
  rotate_left
  · (intro w hSw; go_simp; (try with_reducible rfl))
  try simp only [Act.put, List.getElem_toArray, List.getElem_cons_succ, List.getElem_cons_zero, List.setIfInBounds_toArray, List.set_cons_zero, List.set_cons_succ]
  refine wpAnyH_take (i := 8) (v := ?_) rfl (by kernel_rfl) (by kernel_rfl) (by kernel_rfl) (fun _ _ _ h => h) (Or.inl ⟨by rfl, ?_⟩) (by assumption) ?_
  rotate_left
  · (intro w hSw; go_simp; (try with_reducible rfl))
  try simp only [Act.put, List.getElem_toArray, List.getElem_cons_succ, List.getElem_cons_zero, List.setIfInBounds_toArray, List.set_cons_zero, List.set_cons_succ]
  refine wpAnyH_take (i := 9) (v := ?_) rfl (by kernel_rfl) (by kernel_rfl) (by kernel_rfl) (fun _ _ _ h => h) (Or.inl ⟨by rfl, ?_⟩) (by assumption) ?_
  rotate_left
  · (intro w hSw; go_simp; (try with_reducible rfl))
  try simp only [Act.put, List.getElem_toArray, List.getElem_cons_succ, List.getElem_cons_zero, List.setIfInBounds_toArray, List.set_cons_zero, List.set_cons_succ]
  refine wpAnyH_take (i := 10) (v := ?_) rfl (by kernel_rfl) (by kernel_rfl) (by kernel_rfl) (fun _ _ _ h => h) (Or.inl ⟨by rfl, ?_⟩) (by assumption) ?_
  rotate_left
  · (intro w hSw; go_simp; (try with_reducible rfl))
  try simp only [Act.put, List.getElem_toArray, List.getElem_cons_succ, List.getElem_cons_zero, List.setIfInBounds_toArray, List.set_cons_zero, List.set_cons_succ]
  refine wpAnyH_take (i := 11) (v := ?_) rfl (by kernel_rfl) (by kernel_rfl) (by kernel_rfl) (fun _ _ _ h => h) (Or.inl ⟨by rfl, ?_⟩) (by assumption) ?_
  rotate_left
  · (intro w hSw; go_simp; (try with_reducible rfl))
  try simp only [Act.put, List.getElem_toArray, List.getElem_cons_succ, List.getElem_cons_zero, List.setIfInBounds_toArray, List.set_cons_zero, List.set_cons_succ]
  refine wpAnyH_ready (rs := [12]) (by kernel_rfl) (by simp) ?_
  refine AllReadyH.cons rfl (fun K hK => ?_) (AllReadyH.nil)
  go_simp
  (go_at_call 81; refine (HS.out _ HMM.out).mono ?_; rintro e w5 ⟨rfl, hm5, hk5, hb5⟩)
  clear hHeld
  have hr5 := RnAt.but HRN.out (show KeepBut _ w5 br none from hk5) HN3.out
  have hbx5 := KeepBut.blk (show KeepBut _ w5 br none from hk5) HBX.out HNB.out (by simp)
  have hke5 := Keep.but HKP.out (show KeepBut _ w5 br none from hk5) hb5
  refine hK.out _ _ ⟨blk_cell hbx5 3, hr5.gm, by have := hr5.gv b hb'; rw [← HVB.out] at this; exact this⟩ (fun hHeld => ?_)
  clear hK K
  try simp only [Act.put, List.getElem_toArray, List.getElem_cons_succ, List.getElem_cons_zero, List.setIfInBounds_toArray, List.set_cons_zero, List.set_cons_succ]
  refine wpAnyH_take (i := 13) (v := ?_) rfl (by kernel_rfl) (by kernel_rfl) (by kernel_rfl) (fun _ _ _ h => h) (Or.inl ⟨by rfl, ?_⟩) (by assumption) ?_
  rotate_left
  · (intro w hSw; go_simp; (try with_reducible rfl))
  try simp only [Act.put, List.getElem_toArray, List.getElem_cons_succ, List.getElem_cons_zero, List.setIfInBounds_toArray, List.set_cons_zero, List.set_cons_succ]
  refine wpAnyH_done (by kernel_rfl) ?_ _
  go_wp2
  go_ret
  exact ⟨rfl, ⟨hr5, hm5, HR.out.bg, HR.out.n1, HR.out.n2, HR.out.n3⟩, hke5⟩

end Go.Proofs.Ytpeljnnbknnbmaa.PD
end
section
namespace Go.Proofs.Ytpeljnnbknnbmaa.PD
open Go.RowKit Go.Proofs.YtpeljnnbknnbmaaW.PrintWords Go.Proofs.YtpeljnnbknnbmaaW.PrintLast Go.Proofs.YtpeljnnbknnbmaaW.PrintMore
set_option linter.unusedVariables false
set_option linter.unusedSimpArgs false
/-- what a load brings: the number, and whether it traps -/
def ldV (op F R : Int) (fl rl : List Int) (ad : Int) : Int × Int :=
  let n := if op = 17 then 1 else if op = 18 then 1 else if op = 19 then 2 else 4
  let p := loadV F R fl rl ad n
  if p.2 = 0 ∧ (op = 17 ∨ op = 19) then ((num_Sext.f p.1 (8 * n)).getD 0, 0) else p
theorem MemAt.setO {w : World} {base gm bf br g : Nat} {F R : Int} {fl rl : List Int} {k : Nat} (h : MemAt w base gm bf br F R fl rl) (h1 : g ≠ gm) (h2 : g ≠ bf) (h3 : g ≠ br) (u : Value) : MemAt (w.setCell ⟨g, k, none⟩ u) base gm bf br F R fl rl :=
  h.move fun i hi => Below.heap_setCell w ⟨g, k, none⟩ u i (by intro e; rcases hi with rfl | rfl | rfl; exact h1 e.symm; exact h2 e.symm; exact h3 e.symm)
theorem MemAt.drewO {w : World} {base gm bf br : Nat} {F R : Int} {fl rl : List Int} {n : Nat} (h : MemAt w base gm bf br F R fl rl) : MemAt (w.drewN n) base gm bf br F R fl rl := ⟨h.hg, h.hf, h.hr, h.ne, h.lg, h.lf, h.lr⟩
theorem sext_some (x n : Int) (hn : n = 8 ∨ n = 16) : num_Sext.f x n = some ((num_Sext.f x n).getD 0) := by
  rcases hn with rfl | rfl
  · unfold num_Sext.f
    rw [if_neg (by decide), if_neg (by decide), if_pos (by rw [show wrap64 (32 - 8) = 24 by kernel_rfl]; decide)]
    rfl
  · unfold num_Sext.f
    rw [if_neg (by decide), if_neg (by decide), if_pos (by rw [show wrap64 (32 - 16) = 16 by kernel_rfl]; decide)]
    rfl
set_option maxRecDepth 100000 in
set_option maxHeartbeats 8000000 in
theorem mem_load17 (w : World) (base g : Nat) (lv ev : Value) (at_ : Int) (V : List Int) (gm bf br : Nat) (F R : Int) (fl rl : List Int) (h : RM w base g lv ev at_ V gm bf br F R fl rl) (hF : MemFit F R fl.length rl.length) (hbf : Bytes fl) (hbr : Bytes rl) (hl : V.length = 64) (d a : Nat) (hd : d < 64) (ha : a < 64) (B imm : Int) :
    Calls Try.prog 59 #[.pointer (some ⟨g, 0, none⟩), .agg #[.int .i64 17, .int .i64 d, .int .i64 a, .int .i64 B, .int .i32 imm]] w (MemStep w base g lv ev at_ (if (ldV 17 F R fl rl ((rd V a + imm) % 4294967296)).2 = 0 then V.set d (ldV 17 F R fl rl ((rd V a + imm) % 4294967296)).1 else V) gm bf br F R fl rl (ldV 17 F R fl rl ((rd V a + imm) % 4294967296)).2) := by
  have h3 := h.rn.gv a ha
  have h5 := h.rn.gm
  have hlt := h.rn.lt
  have hai : (a : Int) < 64 := by omega
  have hdi : (d : Int) < 64 := by omega
  obtain ⟨ad, had⟩ : ∃ ad, ad = (rd V a + imm) % 4294967296 := ⟨_, rfl⟩
  have had' : (rd V a + imm) % 4294967296 = ad := had.symm
  obtain ⟨va, hva⟩ : ∃ va, va = rd V (a : Int) := ⟨_, rfl⟩
  rw [← hva] at h3 had'
  rw [← had]
  have had0 : 0 ≤ ad ∧ ad < 4294967296 := by rw [had]; omega
  have HLC := Aside0.mk (fun (W : World) (hm : MemAt W base gm bf br F R fl rl) => load_calls base gm bf br F R fl rl ad 1 W hm hF hbf hbr had0.1 had0.2 (by decide))
  have hldv : ldV 17 F R fl rl ad = (if (loadV F R fl rl ad 1).2 = 0 then ((num_Sext.f (loadV F R fl rl ad 1).1 8).getD 0, 0) else loadV F R fl rl ad 1) := by unfold ldV; simp
  obtain ⟨lw, lt, hlwt⟩ : ∃ lw lt, loadV F R fl rl ad 1 = (lw, lt) := ⟨_, _, rfl⟩
  rw [hldv]
  simp only [hlwt] at HLC ⊢
  have HR := Aside0.mk h
  have hd' := hd
  have HSX := Aside0.mk (sext_some lw 8 (by decide))
  have HLD := Aside0.mk (lirrun_loads.calls 17 1 true)
  have HMA := Aside0.mk (fun (W : World) (hb : Below w.heap.size w W) => HR.out.mm.below hb)
  have HRA := Aside0.mk (fun (W : World) (hb : Below w.heap.size w W) => HR.out.rn.below hb)
  clear h had hva hF hl had0 hldv hlwt hbf hbr
  by_cases ht : lt = 0
  · subst ht
    go_enter Try.func59, Try.ntmps59
    go_wp2
    go_quiet (fail)
    go_wp2_with (first | (go_at_call 82; refine (HLD.out _ rfl).mono ?_; rintro e w5 ⟨rfl, ⟨n5, rfl⟩⟩) | (go_at_call 68; refine (HLC.out _ (HMA.out _ (by repeat (first | exact below_alloc (Below.refl _ _) _ | apply pw_below_drewN)))).mono ?_; rintro e w6 ⟨rfl, hb6⟩; have HB6 := Aside0.mk hb6; clear hb6) | (go_at_call 83; refine (num_Sext.calls _ _ _ _ HSX.out).mono ?_; rintro e w7 ⟨rfl, ⟨n7, rfl⟩⟩))
    have hbw : Below w.heap.size w w6 := (pw_below_drewN (below_alloc (Below.refl _ _) _) _).trans (HB6.out.mono (by simp))
    have hbx : w6.heap[w.heap.size]? = some (.cells #[.int .i64 17, .int .i64 d, .int .i64 a, .int .i64 B, .int .i32 imm] 49) := (HB6.out.block w.heap.size (by simp)).trans (heap_alloc_new w _)
    have hrn := HRA.out _ hbw
    have g3 := hrn.gv d hd'
    have gf := hrn.frozen (4 + d)
    have hne : w.heap.size ≠ g := by omega
    have hne2 : g ≠ w.heap.size := by omega
    have HBW := Aside0.mk hbw
    have HRN := Aside0.mk hrn
    have HMM := Aside0.mk (HMA.out _ hbw)
    have b1 := blk_cell hbx 1
    clear hbw hrn hbx
    refine wp_region_held_drew (S := fun W' => W'.cell? ⟨w.heap.size, 1, none⟩ = some (.int .i64 d)) (by kernel_rfl) (show _ from b1) (fun hHeld => ?_)
    refine wpAnyH_take (i := 0) (v := ?_) rfl (by kernel_rfl) (by kernel_rfl) (by kernel_rfl) (fun _ _ _ h => h) (Or.inl ⟨by rfl, ?_⟩) (by assumption) ?_
    rotate_left
    · (intro w hSw; go_simp; (try with_reducible rfl))
    try simp only [Act.put, List.getElem_toArray, List.getElem_cons_succ, List.getElem_cons_zero, List.setIfInBounds_toArray, List.set_cons_zero, List.set_cons_succ]
    refine wpAnyH_take (i := 1) (v := ?_) rfl (by kernel_rfl) (by kernel_rfl) (by kernel_rfl) (fun _ _ _ h => h) (Or.inl ⟨by rfl, ?_⟩) (by assumption) ?_
    rotate_left
    · (intro w hSw; go_simp; (try with_reducible rfl))
    try simp only [Act.put, List.getElem_toArray, List.getElem_cons_succ, List.getElem_cons_zero, List.setIfInBounds_toArray, List.set_cons_zero, List.set_cons_succ]
    refine wpAnyH_take (i := 2) (v := ?_) rfl (by kernel_rfl) (by kernel_rfl) (by kernel_rfl) (fun _ _ _ h => h) (Or.inl ⟨by rfl, ?_⟩) (by assumption) ?_
    rotate_left
    · (intro w hSw; go_simp; (try with_reducible rfl))
    try simp only [Act.put, List.getElem_toArray, List.getElem_cons_succ, List.getElem_cons_zero, List.setIfInBounds_toArray, List.set_cons_zero, List.set_cons_succ]
    refine wpAnyH_take (i := 3) (v := ?_) rfl (by kernel_rfl) (by kernel_rfl) (by kernel_rfl) (fun _ _ _ h => h) (Or.inl ⟨by rfl, ?_⟩) (by assumption) ?_
    rotate_left
    · (intro w hSw; go_simp; (try with_reducible rfl))
    try simp only [Act.put, List.getElem_toArray, List.getElem_cons_succ, List.getElem_cons_zero, List.setIfInBounds_toArray, List.set_cons_zero, List.set_cons_succ]
    refine wpAnyH_take (i := 4) (v := ?_) rfl (by kernel_rfl) (by kernel_rfl) (by kernel_rfl) (fun _ _ _ h => h) (Or.inl ⟨by rfl, ?_⟩) (by assumption) ?_
    rotate_left
    · (intro w hSw; go_simp; (try with_reducible rfl))
    try simp only [Act.put, List.getElem_toArray, List.getElem_cons_succ, List.getElem_cons_zero, List.setIfInBounds_toArray, List.set_cons_zero, List.set_cons_succ]
    refine wpAnyH_take (i := 5) (v := ?_) rfl (by kernel_rfl) (by kernel_rfl) (by kernel_rfl) (fun _ _ _ h => h) (Or.inl ⟨by rfl, ?_⟩) (by assumption) ?_
    rotate_left
    · (intro w hSw; go_simp; (try with_reducible rfl))
    try simp only [Act.put, List.getElem_toArray, List.getElem_cons_succ, List.getElem_cons_zero, List.setIfInBounds_toArray, List.set_cons_zero, List.set_cons_succ]
    refine wpAnyH_take (i := 6) (v := ?_) rfl (by kernel_rfl) (by kernel_rfl) (by kernel_rfl) (fun _ _ _ h => h) (Or.inl ⟨by rfl, ?_⟩) (by assumption) ?_
    rotate_left
    · (intro w hSw; go_simp; (try with_reducible rfl))
    try simp only [Act.put, List.getElem_toArray, List.getElem_cons_succ, List.getElem_cons_zero, List.setIfInBounds_toArray, List.set_cons_zero, List.set_cons_succ]
    refine wpAnyH_ready (rs := [7]) (by kernel_rfl) (by simp) ?_
    refine AllReadyH.cons rfl (fun K hK => ?_) (AllReadyH.nil)
    go_simp
    refine hK.out _ _ (by go_keep) (fun hHeld => ?_)
    clear hK K
    try simp only [Act.put, List.getElem_toArray, List.getElem_cons_succ, List.getElem_cons_zero, List.setIfInBounds_toArray, List.set_cons_zero, List.set_cons_succ]
    refine wpAnyH_done (by kernel_rfl) ?_ _
    go_wp2
    go_ret
    exact ⟨rfl, ⟨RnAt.setV (RnAt.drewN HRN.out _) d hd' _, MemAt.setO (MemAt.drewO HMM.out) HR.out.n1 HR.out.n2 HR.out.n3 _, HR.out.bg, HR.out.n1, HR.out.n2, HR.out.n3⟩, (((Keep.of_below HBW.out).drewN _).setCell _ (Or.inl rfl) _)⟩
  · have HT := Aside0.mk ht
    (try simp only [if_neg ht])
    clear ht
    go_enter Try.func59, Try.ntmps59
    go_wp2
    go_quiet (fail)
    have htb : (lt != 0) = true := by simpa using HT.out
    have htc : (lt == 0) = false := by simpa using HT.out
    go_wp2_with (first | (go_at_call 82; refine (HLD.out _ rfl).mono ?_; rintro e w5 ⟨rfl, ⟨n5, rfl⟩⟩) | (go_at_call 68; refine (HLC.out _ (HMA.out _ (by repeat (first | exact below_alloc (Below.refl _ _) _ | apply pw_below_drewN)))).mono ?_; rintro e w6 ⟨rfl, hb6⟩; have HB6 := Aside0.mk hb6; clear hb6))
    go_ret
    have hbw : Below w.heap.size w w6 := (pw_below_drewN (below_alloc (Below.refl _ _) _) _).trans (HB6.out.mono (by simp))
    exact ⟨rfl, ⟨HRA.out _ hbw, HMA.out _ hbw, HR.out.bg, HR.out.n1, HR.out.n2, HR.out.n3⟩, Keep.of_below hbw⟩
set_option maxRecDepth 100000 in
set_option maxHeartbeats 8000000 in
theorem mem_load18 (w : World) (base g : Nat) (lv ev : Value) (at_ : Int) (V : List Int) (gm bf br : Nat) (F R : Int) (fl rl : List Int) (h : RM w base g lv ev at_ V gm bf br F R fl rl) (hF : MemFit F R fl.length rl.length) (hbf : Bytes fl) (hbr : Bytes rl) (hl : V.length = 64) (d a : Nat) (hd : d < 64) (ha : a < 64) (B imm : Int) :
    Calls Try.prog 59 #[.pointer (some ⟨g, 0, none⟩), .agg #[.int .i64 18, .int .i64 d, .int .i64 a, .int .i64 B, .int .i32 imm]] w (MemStep w base g lv ev at_ (if (ldV 18 F R fl rl ((rd V a + imm) % 4294967296)).2 = 0 then V.set d (ldV 18 F R fl rl ((rd V a + imm) % 4294967296)).1 else V) gm bf br F R fl rl (ldV 18 F R fl rl ((rd V a + imm) % 4294967296)).2) := by
  have h3 := h.rn.gv a ha
  have h5 := h.rn.gm
  have hlt := h.rn.lt
  have hai : (a : Int) < 64 := by omega
  have hdi : (d : Int) < 64 := by omega
  obtain ⟨ad, had⟩ : ∃ ad, ad = (rd V a + imm) % 4294967296 := ⟨_, rfl⟩
  have had' : (rd V a + imm) % 4294967296 = ad := had.symm
  obtain ⟨va, hva⟩ : ∃ va, va = rd V (a : Int) := ⟨_, rfl⟩
  rw [← hva] at h3 had'
  rw [← had]
  have had0 : 0 ≤ ad ∧ ad < 4294967296 := by rw [had]; omega
  have HLC := Aside0.mk (fun (W : World) (hm : MemAt W base gm bf br F R fl rl) => load_calls base gm bf br F R fl rl ad 1 W hm hF hbf hbr had0.1 had0.2 (by decide))
  have hldv : ldV 18 F R fl rl ad = loadV F R fl rl ad 1 := by unfold ldV; simp
  obtain ⟨lw, lt, hlwt⟩ : ∃ lw lt, loadV F R fl rl ad 1 = (lw, lt) := ⟨_, _, rfl⟩
  rw [hldv]
  simp only [hlwt] at HLC ⊢
  have HR := Aside0.mk h
  have hd' := hd
  have HSX := Aside0.mk (sext_some lw 8 (by decide))
  have HLD := Aside0.mk (lirrun_loads.calls 18 1 false)
  have HMA := Aside0.mk (fun (W : World) (hb : Below w.heap.size w W) => HR.out.mm.below hb)
  have HRA := Aside0.mk (fun (W : World) (hb : Below w.heap.size w W) => HR.out.rn.below hb)
  clear h had hva hF hl had0 hldv hlwt hbf hbr
  by_cases ht : lt = 0
  · subst ht
    go_enter Try.func59, Try.ntmps59
    go_wp2
    go_quiet (fail)
    go_wp2_with (first | (go_at_call 82; refine (HLD.out _ rfl).mono ?_; rintro e w5 ⟨rfl, ⟨n5, rfl⟩⟩) | (go_at_call 68; refine (HLC.out _ (HMA.out _ (by repeat (first | exact below_alloc (Below.refl _ _) _ | apply pw_below_drewN)))).mono ?_; rintro e w6 ⟨rfl, hb6⟩; have HB6 := Aside0.mk hb6; clear hb6) | (go_at_call 83; refine (num_Sext.calls _ _ _ _ HSX.out).mono ?_; rintro e w7 ⟨rfl, ⟨n7, rfl⟩⟩))
    have hbw : Below w.heap.size w w6 := (pw_below_drewN (below_alloc (Below.refl _ _) _) _).trans (HB6.out.mono (by simp))
    have hbx : w6.heap[w.heap.size]? = some (.cells #[.int .i64 18, .int .i64 d, .int .i64 a, .int .i64 B, .int .i32 imm] 49) := (HB6.out.block w.heap.size (by simp)).trans (heap_alloc_new w _)
    have hrn := HRA.out _ hbw
    have g3 := hrn.gv d hd'
    have gf := hrn.frozen (4 + d)
    have hne : w.heap.size ≠ g := by omega
    have hne2 : g ≠ w.heap.size := by omega
    have HBW := Aside0.mk hbw
    have HRN := Aside0.mk hrn
    have HMM := Aside0.mk (HMA.out _ hbw)
    have b1 := blk_cell hbx 1
    clear hbw hrn hbx
    refine wp_region_held_drew (S := fun W' => W'.cell? ⟨w.heap.size, 1, none⟩ = some (.int .i64 d)) (by kernel_rfl) (show _ from b1) (fun hHeld => ?_)
    refine wpAnyH_take (i := 0) (v := ?_) rfl (by kernel_rfl) (by kernel_rfl) (by kernel_rfl) (fun _ _ _ h => h) (Or.inl ⟨by rfl, ?_⟩) (by assumption) ?_
    rotate_left
    · (intro w hSw; go_simp; (try with_reducible rfl))
    try simp only [Act.put, List.getElem_toArray, List.getElem_cons_succ, List.getElem_cons_zero, List.setIfInBounds_toArray, List.set_cons_zero, List.set_cons_succ]
    refine wpAnyH_take (i := 1) (v := ?_) rfl (by kernel_rfl) (by kernel_rfl) (by kernel_rfl) (fun _ _ _ h => h) (Or.inl ⟨by rfl, ?_⟩) (by assumption) ?_
    rotate_left
    · (intro w hSw; go_simp; (try with_reducible rfl))
    try simp only [Act.put, List.getElem_toArray, List.getElem_cons_succ, List.getElem_cons_zero, List.setIfInBounds_toArray, List.set_cons_zero, List.set_cons_succ]
    refine wpAnyH_take (i := 2) (v := ?_) rfl (by kernel_rfl) (by kernel_rfl) (by kernel_rfl) (fun _ _ _ h => h) (Or.inl ⟨by rfl, ?_⟩) (by assumption) ?_
    rotate_left
    · (intro w hSw; go_simp; (try with_reducible rfl))
    try simp only [Act.put, List.getElem_toArray, List.getElem_cons_succ, List.getElem_cons_zero, List.setIfInBounds_toArray, List.set_cons_zero, List.set_cons_succ]
    refine wpAnyH_take (i := 3) (v := ?_) rfl (by kernel_rfl) (by kernel_rfl) (by kernel_rfl) (fun _ _ _ h => h) (Or.inl ⟨by rfl, ?_⟩) (by assumption) ?_
    rotate_left
    · (intro w hSw; go_simp; (try with_reducible rfl))
    try simp only [Act.put, List.getElem_toArray, List.getElem_cons_succ, List.getElem_cons_zero, List.setIfInBounds_toArray, List.set_cons_zero, List.set_cons_succ]
    refine wpAnyH_take (i := 4) (v := ?_) rfl (by kernel_rfl) (by kernel_rfl) (by kernel_rfl) (fun _ _ _ h => h) (Or.inl ⟨by rfl, ?_⟩) (by assumption) ?_
    rotate_left
    · (intro w hSw; go_simp; (try with_reducible rfl))
    try simp only [Act.put, List.getElem_toArray, List.getElem_cons_succ, List.getElem_cons_zero, List.setIfInBounds_toArray, List.set_cons_zero, List.set_cons_succ]
    refine wpAnyH_take (i := 5) (v := ?_) rfl (by kernel_rfl) (by kernel_rfl) (by kernel_rfl) (fun _ _ _ h => h) (Or.inl ⟨by rfl, ?_⟩) (by assumption) ?_
    rotate_left
    · (intro w hSw; go_simp; (try with_reducible rfl))
    try simp only [Act.put, List.getElem_toArray, List.getElem_cons_succ, List.getElem_cons_zero, List.setIfInBounds_toArray, List.set_cons_zero, List.set_cons_succ]
    refine wpAnyH_take (i := 6) (v := ?_) rfl (by kernel_rfl) (by kernel_rfl) (by kernel_rfl) (fun _ _ _ h => h) (Or.inl ⟨by rfl, ?_⟩) (by assumption) ?_
    rotate_left
    · (intro w hSw; go_simp; (try with_reducible rfl))
    try simp only [Act.put, List.getElem_toArray, List.getElem_cons_succ, List.getElem_cons_zero, List.setIfInBounds_toArray, List.set_cons_zero, List.set_cons_succ]
    refine wpAnyH_ready (rs := [7]) (by kernel_rfl) (by simp) ?_
    refine AllReadyH.cons rfl (fun K hK => ?_) (AllReadyH.nil)
    go_simp
    refine hK.out _ _ (by go_keep) (fun hHeld => ?_)
    clear hK K
    try simp only [Act.put, List.getElem_toArray, List.getElem_cons_succ, List.getElem_cons_zero, List.setIfInBounds_toArray, List.set_cons_zero, List.set_cons_succ]
    refine wpAnyH_done (by kernel_rfl) ?_ _
    go_wp2
    go_ret
    exact ⟨rfl, ⟨RnAt.setV (RnAt.drewN HRN.out _) d hd' _, MemAt.setO (MemAt.drewO HMM.out) HR.out.n1 HR.out.n2 HR.out.n3 _, HR.out.bg, HR.out.n1, HR.out.n2, HR.out.n3⟩, (((Keep.of_below HBW.out).drewN _).setCell _ (Or.inl rfl) _)⟩
  · have HT := Aside0.mk ht
    (try simp only [if_neg ht])
    clear ht
    go_enter Try.func59, Try.ntmps59
    go_wp2
    go_quiet (fail)
    have htb : (lt != 0) = true := by simpa using HT.out
    have htc : (lt == 0) = false := by simpa using HT.out
    go_wp2_with (first | (go_at_call 82; refine (HLD.out _ rfl).mono ?_; rintro e w5 ⟨rfl, ⟨n5, rfl⟩⟩) | (go_at_call 68; refine (HLC.out _ (HMA.out _ (by repeat (first | exact below_alloc (Below.refl _ _) _ | apply pw_below_drewN)))).mono ?_; rintro e w6 ⟨rfl, hb6⟩; have HB6 := Aside0.mk hb6; clear hb6))
    go_ret
    have hbw : Below w.heap.size w w6 := (pw_below_drewN (below_alloc (Below.refl _ _) _) _).trans (HB6.out.mono (by simp))
    exact ⟨rfl, ⟨HRA.out _ hbw, HMA.out _ hbw, HR.out.bg, HR.out.n1, HR.out.n2, HR.out.n3⟩, Keep.of_below hbw⟩
set_option maxRecDepth 100000 in
set_option maxHeartbeats 8000000 in
theorem mem_load19 (w : World) (base g : Nat) (lv ev : Value) (at_ : Int) (V : List Int) (gm bf br : Nat) (F R : Int) (fl rl : List Int) (h : RM w base g lv ev at_ V gm bf br F R fl rl) (hF : MemFit F R fl.length rl.length) (hbf : Bytes fl) (hbr : Bytes rl) (hl : V.length = 64) (d a : Nat) (hd : d < 64) (ha : a < 64) (B imm : Int) :
    Calls Try.prog 59 #[.pointer (some ⟨g, 0, none⟩), .agg #[.int .i64 19, .int .i64 d, .int .i64 a, .int .i64 B, .int .i32 imm]] w (MemStep w base g lv ev at_ (if (ldV 19 F R fl rl ((rd V a + imm) % 4294967296)).2 = 0 then V.set d (ldV 19 F R fl rl ((rd V a + imm) % 4294967296)).1 else V) gm bf br F R fl rl (ldV 19 F R fl rl ((rd V a + imm) % 4294967296)).2) := by
  have h3 := h.rn.gv a ha
  have h5 := h.rn.gm
  have hlt := h.rn.lt
  have hai : (a : Int) < 64 := by omega
  have hdi : (d : Int) < 64 := by omega
  obtain ⟨ad, had⟩ : ∃ ad, ad = (rd V a + imm) % 4294967296 := ⟨_, rfl⟩
  have had' : (rd V a + imm) % 4294967296 = ad := had.symm
  obtain ⟨va, hva⟩ : ∃ va, va = rd V (a : Int) := ⟨_, rfl⟩
  rw [← hva] at h3 had'
  rw [← had]
  have had0 : 0 ≤ ad ∧ ad < 4294967296 := by rw [had]; omega
  have HLC := Aside0.mk (fun (W : World) (hm : MemAt W base gm bf br F R fl rl) => load_calls base gm bf br F R fl rl ad 2 W hm hF hbf hbr had0.1 had0.2 (by decide))
  have hldv : ldV 19 F R fl rl ad = (if (loadV F R fl rl ad 2).2 = 0 then ((num_Sext.f (loadV F R fl rl ad 2).1 16).getD 0, 0) else loadV F R fl rl ad 2) := by unfold ldV; simp
  obtain ⟨lw, lt, hlwt⟩ : ∃ lw lt, loadV F R fl rl ad 2 = (lw, lt) := ⟨_, _, rfl⟩
  rw [hldv]
  simp only [hlwt] at HLC ⊢
  have HR := Aside0.mk h
  have hd' := hd
  have HSX := Aside0.mk (sext_some lw 16 (by decide))
  have HLD := Aside0.mk (lirrun_loads.calls 19 2 true)
  have HMA := Aside0.mk (fun (W : World) (hb : Below w.heap.size w W) => HR.out.mm.below hb)
  have HRA := Aside0.mk (fun (W : World) (hb : Below w.heap.size w W) => HR.out.rn.below hb)
  clear h had hva hF hl had0 hldv hlwt hbf hbr
  by_cases ht : lt = 0
  · subst ht
    go_enter Try.func59, Try.ntmps59
    go_wp2
    go_quiet (fail)
    go_wp2_with (first | (go_at_call 82; refine (HLD.out _ rfl).mono ?_; rintro e w5 ⟨rfl, ⟨n5, rfl⟩⟩) | (go_at_call 68; refine (HLC.out _ (HMA.out _ (by repeat (first | exact below_alloc (Below.refl _ _) _ | apply pw_below_drewN)))).mono ?_; rintro e w6 ⟨rfl, hb6⟩; have HB6 := Aside0.mk hb6; clear hb6) | (go_at_call 83; refine (num_Sext.calls _ _ _ _ HSX.out).mono ?_; rintro e w7 ⟨rfl, ⟨n7, rfl⟩⟩))
    have hbw : Below w.heap.size w w6 := (pw_below_drewN (below_alloc (Below.refl _ _) _) _).trans (HB6.out.mono (by simp))
    have hbx : w6.heap[w.heap.size]? = some (.cells #[.int .i64 19, .int .i64 d, .int .i64 a, .int .i64 B, .int .i32 imm] 49) := (HB6.out.block w.heap.size (by simp)).trans (heap_alloc_new w _)
    have hrn := HRA.out _ hbw
    have g3 := hrn.gv d hd'
    have gf := hrn.frozen (4 + d)
    have hne : w.heap.size ≠ g := by omega
    have hne2 : g ≠ w.heap.size := by omega
    have HBW := Aside0.mk hbw
    have HRN := Aside0.mk hrn
    have HMM := Aside0.mk (HMA.out _ hbw)
    have b1 := blk_cell hbx 1
    clear hbw hrn hbx
    refine wp_region_held_drew (S := fun W' => W'.cell? ⟨w.heap.size, 1, none⟩ = some (.int .i64 d)) (by kernel_rfl) (show _ from b1) (fun hHeld => ?_)
    refine wpAnyH_take (i := 0) (v := ?_) rfl (by kernel_rfl) (by kernel_rfl) (by kernel_rfl) (fun _ _ _ h => h) (Or.inl ⟨by rfl, ?_⟩) (by assumption) ?_
    rotate_left
    · (intro w hSw; go_simp; (try with_reducible rfl))
    try simp only [Act.put, List.getElem_toArray, List.getElem_cons_succ, List.getElem_cons_zero, List.setIfInBounds_toArray, List.set_cons_zero, List.set_cons_succ]
    refine wpAnyH_take (i := 1) (v := ?_) rfl (by kernel_rfl) (by kernel_rfl) (by kernel_rfl) (fun _ _ _ h => h) (Or.inl ⟨by rfl, ?_⟩) (by assumption) ?_
    rotate_left
    · (intro w hSw; go_simp; (try with_reducible rfl))
    try simp only [Act.put, List.getElem_toArray, List.getElem_cons_succ, List.getElem_cons_zero, List.setIfInBounds_toArray, List.set_cons_zero, List.set_cons_succ]
    refine wpAnyH_take (i := 2) (v := ?_) rfl (by kernel_rfl) (by kernel_rfl) (by kernel_rfl) (fun _ _ _ h => h) (Or.inl ⟨by rfl, ?_⟩) (by assumption) ?_
    rotate_left
    · (intro w hSw; go_simp; (try with_reducible rfl))
    try simp only [Act.put, List.getElem_toArray, List.getElem_cons_succ, List.getElem_cons_zero, List.setIfInBounds_toArray, List.set_cons_zero, List.set_cons_succ]
    refine wpAnyH_take (i := 3) (v := ?_) rfl (by kernel_rfl) (by kernel_rfl) (by kernel_rfl) (fun _ _ _ h => h) (Or.inl ⟨by rfl, ?_⟩) (by assumption) ?_
    rotate_left
    · (intro w hSw; go_simp; (try with_reducible rfl))
    try simp only [Act.put, List.getElem_toArray, List.getElem_cons_succ, List.getElem_cons_zero, List.setIfInBounds_toArray, List.set_cons_zero, List.set_cons_succ]
    refine wpAnyH_take (i := 4) (v := ?_) rfl (by kernel_rfl) (by kernel_rfl) (by kernel_rfl) (fun _ _ _ h => h) (Or.inl ⟨by rfl, ?_⟩) (by assumption) ?_
    rotate_left
    · (intro w hSw; go_simp; (try with_reducible rfl))
    try simp only [Act.put, List.getElem_toArray, List.getElem_cons_succ, List.getElem_cons_zero, List.setIfInBounds_toArray, List.set_cons_zero, List.set_cons_succ]
    refine wpAnyH_take (i := 5) (v := ?_) rfl (by kernel_rfl) (by kernel_rfl) (by kernel_rfl) (fun _ _ _ h => h) (Or.inl ⟨by rfl, ?_⟩) (by assumption) ?_
    rotate_left
    · (intro w hSw; go_simp; (try with_reducible rfl))
    try simp only [Act.put, List.getElem_toArray, List.getElem_cons_succ, List.getElem_cons_zero, List.setIfInBounds_toArray, List.set_cons_zero, List.set_cons_succ]
    refine wpAnyH_take (i := 6) (v := ?_) rfl (by kernel_rfl) (by kernel_rfl) (by kernel_rfl) (fun _ _ _ h => h) (Or.inl ⟨by rfl, ?_⟩) (by assumption) ?_
    rotate_left
    · (intro w hSw; go_simp; (try with_reducible rfl))
    try simp only [Act.put, List.getElem_toArray, List.getElem_cons_succ, List.getElem_cons_zero, List.setIfInBounds_toArray, List.set_cons_zero, List.set_cons_succ]
    refine wpAnyH_ready (rs := [7]) (by kernel_rfl) (by simp) ?_
    refine AllReadyH.cons rfl (fun K hK => ?_) (AllReadyH.nil)
    go_simp
    refine hK.out _ _ (by go_keep) (fun hHeld => ?_)
    clear hK K
    try simp only [Act.put, List.getElem_toArray, List.getElem_cons_succ, List.getElem_cons_zero, List.setIfInBounds_toArray, List.set_cons_zero, List.set_cons_succ]
    refine wpAnyH_done (by kernel_rfl) ?_ _
    go_wp2
    go_ret
    exact ⟨rfl, ⟨RnAt.setV (RnAt.drewN HRN.out _) d hd' _, MemAt.setO (MemAt.drewO HMM.out) HR.out.n1 HR.out.n2 HR.out.n3 _, HR.out.bg, HR.out.n1, HR.out.n2, HR.out.n3⟩, (((Keep.of_below HBW.out).drewN _).setCell _ (Or.inl rfl) _)⟩
  · have HT := Aside0.mk ht
    (try simp only [if_neg ht])
    clear ht
    go_enter Try.func59, Try.ntmps59
    go_wp2
    go_quiet (fail)
    have htb : (lt != 0) = true := by simpa using HT.out
    have htc : (lt == 0) = false := by simpa using HT.out
    go_wp2_with (first | (go_at_call 82; refine (HLD.out _ rfl).mono ?_; rintro e w5 ⟨rfl, ⟨n5, rfl⟩⟩) | (go_at_call 68; refine (HLC.out _ (HMA.out _ (by repeat (first | exact below_alloc (Below.refl _ _) _ | apply pw_below_drewN)))).mono ?_; rintro e w6 ⟨rfl, hb6⟩; have HB6 := Aside0.mk hb6; clear hb6))
    go_ret
    have hbw : Below w.heap.size w w6 := (pw_below_drewN (below_alloc (Below.refl _ _) _) _).trans (HB6.out.mono (by simp))
    exact ⟨rfl, ⟨HRA.out _ hbw, HMA.out _ hbw, HR.out.bg, HR.out.n1, HR.out.n2, HR.out.n3⟩, Keep.of_below hbw⟩
set_option maxRecDepth 100000 in
set_option maxHeartbeats 8000000 in
theorem mem_load20 (w : World) (base g : Nat) (lv ev : Value) (at_ : Int) (V : List Int) (gm bf br : Nat) (F R : Int) (fl rl : List Int) (h : RM w base g lv ev at_ V gm bf br F R fl rl) (hF : MemFit F R fl.length rl.length) (hbf : Bytes fl) (hbr : Bytes rl) (hl : V.length = 64) (d a : Nat) (hd : d < 64) (ha : a < 64) (B imm : Int) :
    Calls Try.prog 59 #[.pointer (some ⟨g, 0, none⟩), .agg #[.int .i64 20, .int .i64 d, .int .i64 a, .int .i64 B, .int .i32 imm]] w (MemStep w base g lv ev at_ (if (ldV 20 F R fl rl ((rd V a + imm) % 4294967296)).2 = 0 then V.set d (ldV 20 F R fl rl ((rd V a + imm) % 4294967296)).1 else V) gm bf br F R fl rl (ldV 20 F R fl rl ((rd V a + imm) % 4294967296)).2) := by
  have h3 := h.rn.gv a ha
  have h5 := h.rn.gm
  have hlt := h.rn.lt
  have hai : (a : Int) < 64 := by omega
  have hdi : (d : Int) < 64 := by omega
  obtain ⟨ad, had⟩ : ∃ ad, ad = (rd V a + imm) % 4294967296 := ⟨_, rfl⟩
  have had' : (rd V a + imm) % 4294967296 = ad := had.symm
  obtain ⟨va, hva⟩ : ∃ va, va = rd V (a : Int) := ⟨_, rfl⟩
  rw [← hva] at h3 had'
  rw [← had]
  have had0 : 0 ≤ ad ∧ ad < 4294967296 := by rw [had]; omega
  have HLC := Aside0.mk (fun (W : World) (hm : MemAt W base gm bf br F R fl rl) => load_calls base gm bf br F R fl rl ad 4 W hm hF hbf hbr had0.1 had0.2 (by decide))
  have hldv : ldV 20 F R fl rl ad = loadV F R fl rl ad 4 := by unfold ldV; simp
  obtain ⟨lw, lt, hlwt⟩ : ∃ lw lt, loadV F R fl rl ad 4 = (lw, lt) := ⟨_, _, rfl⟩
  rw [hldv]
  simp only [hlwt] at HLC ⊢
  have HR := Aside0.mk h
  have hd' := hd
  have HSX := Aside0.mk (sext_some lw 8 (by decide))
  have HLD := Aside0.mk (lirrun_loads.calls 20 4 false)
  have HMA := Aside0.mk (fun (W : World) (hb : Below w.heap.size w W) => HR.out.mm.below hb)
  have HRA := Aside0.mk (fun (W : World) (hb : Below w.heap.size w W) => HR.out.rn.below hb)
  clear h had hva hF hl had0 hldv hlwt hbf hbr
  by_cases ht : lt = 0
  · subst ht
    go_enter Try.func59, Try.ntmps59
    go_wp2
    go_quiet (fail)
    go_wp2_with (first | (go_at_call 82; refine (HLD.out _ rfl).mono ?_; rintro e w5 ⟨rfl, ⟨n5, rfl⟩⟩) | (go_at_call 68; refine (HLC.out _ (HMA.out _ (by repeat (first | exact below_alloc (Below.refl _ _) _ | apply pw_below_drewN)))).mono ?_; rintro e w6 ⟨rfl, hb6⟩; have HB6 := Aside0.mk hb6; clear hb6) | (go_at_call 83; refine (num_Sext.calls _ _ _ _ HSX.out).mono ?_; rintro e w7 ⟨rfl, ⟨n7, rfl⟩⟩))
    have hbw : Below w.heap.size w w6 := (pw_below_drewN (below_alloc (Below.refl _ _) _) _).trans (HB6.out.mono (by simp))
    have hbx : w6.heap[w.heap.size]? = some (.cells #[.int .i64 20, .int .i64 d, .int .i64 a, .int .i64 B, .int .i32 imm] 49) := (HB6.out.block w.heap.size (by simp)).trans (heap_alloc_new w _)
    have hrn := HRA.out _ hbw
    have g3 := hrn.gv d hd'
    have gf := hrn.frozen (4 + d)
    have hne : w.heap.size ≠ g := by omega
    have hne2 : g ≠ w.heap.size := by omega
    have HBW := Aside0.mk hbw
    have HRN := Aside0.mk hrn
    have HMM := Aside0.mk (HMA.out _ hbw)
    have b1 := blk_cell hbx 1
    clear hbw hrn hbx
    refine wp_region_held_drew (S := fun W' => W'.cell? ⟨w.heap.size, 1, none⟩ = some (.int .i64 d)) (by kernel_rfl) (show _ from b1) (fun hHeld => ?_)
    refine wpAnyH_take (i := 0) (v := ?_) rfl (by kernel_rfl) (by kernel_rfl) (by kernel_rfl) (fun _ _ _ h => h) (Or.inl ⟨by rfl, ?_⟩) (by assumption) ?_
    rotate_left
    · (intro w hSw; go_simp; (try with_reducible rfl))
    try simp only [Act.put, List.getElem_toArray, List.getElem_cons_succ, List.getElem_cons_zero, List.setIfInBounds_toArray, List.set_cons_zero, List.set_cons_succ]
    refine wpAnyH_take (i := 1) (v := ?_) rfl (by kernel_rfl) (by kernel_rfl) (by kernel_rfl) (fun _ _ _ h => h) (Or.inl ⟨by rfl, ?_⟩) (by assumption) ?_
    rotate_left
    · (intro w hSw; go_simp; (try with_reducible rfl))
    try simp only [Act.put, List.getElem_toArray, List.getElem_cons_succ, List.getElem_cons_zero, List.setIfInBounds_toArray, List.set_cons_zero, List.set_cons_succ]
    refine wpAnyH_take (i := 2) (v := ?_) rfl (by kernel_rfl) (by kernel_rfl) (by kernel_rfl) (fun _ _ _ h => h) (Or.inl ⟨by rfl, ?_⟩) (by assumption) ?_
    rotate_left
    · (intro w hSw; go_simp; (try with_reducible rfl))
    try simp only [Act.put, List.getElem_toArray, List.getElem_cons_succ, List.getElem_cons_zero, List.setIfInBounds_toArray, List.set_cons_zero, List.set_cons_succ]
    refine wpAnyH_take (i := 3) (v := ?_) rfl (by kernel_rfl) (by kernel_rfl) (by kernel_rfl) (fun _ _ _ h => h) (Or.inl ⟨by rfl, ?_⟩) (by assumption) ?_
    rotate_left
    · (intro w hSw; go_simp; (try with_reducible rfl))
    try simp only [Act.put, List.getElem_toArray, List.getElem_cons_succ, List.getElem_cons_zero, List.setIfInBounds_toArray, List.set_cons_zero, List.set_cons_succ]
    refine wpAnyH_take (i := 4) (v := ?_) rfl (by kernel_rfl) (by kernel_rfl) (by kernel_rfl) (fun _ _ _ h => h) (Or.inl ⟨by rfl, ?_⟩) (by assumption) ?_
    rotate_left
    · (intro w hSw; go_simp; (try with_reducible rfl))
    try simp only [Act.put, List.getElem_toArray, List.getElem_cons_succ, List.getElem_cons_zero, List.setIfInBounds_toArray, List.set_cons_zero, List.set_cons_succ]
    refine wpAnyH_take (i := 5) (v := ?_) rfl (by kernel_rfl) (by kernel_rfl) (by kernel_rfl) (fun _ _ _ h => h) (Or.inl ⟨by rfl, ?_⟩) (by assumption) ?_
    rotate_left
    · (intro w hSw; go_simp; (try with_reducible rfl))
    try simp only [Act.put, List.getElem_toArray, List.getElem_cons_succ, List.getElem_cons_zero, List.setIfInBounds_toArray, List.set_cons_zero, List.set_cons_succ]
    refine wpAnyH_take (i := 6) (v := ?_) rfl (by kernel_rfl) (by kernel_rfl) (by kernel_rfl) (fun _ _ _ h => h) (Or.inl ⟨by rfl, ?_⟩) (by assumption) ?_
    rotate_left
    · (intro w hSw; go_simp; (try with_reducible rfl))
    try simp only [Act.put, List.getElem_toArray, List.getElem_cons_succ, List.getElem_cons_zero, List.setIfInBounds_toArray, List.set_cons_zero, List.set_cons_succ]
    refine wpAnyH_ready (rs := [7]) (by kernel_rfl) (by simp) ?_
    refine AllReadyH.cons rfl (fun K hK => ?_) (AllReadyH.nil)
    go_simp
    refine hK.out _ _ (by go_keep) (fun hHeld => ?_)
    clear hK K
    try simp only [Act.put, List.getElem_toArray, List.getElem_cons_succ, List.getElem_cons_zero, List.setIfInBounds_toArray, List.set_cons_zero, List.set_cons_succ]
    refine wpAnyH_done (by kernel_rfl) ?_ _
    go_wp2
    go_ret
    exact ⟨rfl, ⟨RnAt.setV (RnAt.drewN HRN.out _) d hd' _, MemAt.setO (MemAt.drewO HMM.out) HR.out.n1 HR.out.n2 HR.out.n3 _, HR.out.bg, HR.out.n1, HR.out.n2, HR.out.n3⟩, (((Keep.of_below HBW.out).drewN _).setCell _ (Or.inl rfl) _)⟩
  · have HT := Aside0.mk ht
    (try simp only [if_neg ht])
    clear ht
    go_enter Try.func59, Try.ntmps59
    go_wp2
    go_quiet (fail)
    have htb : (lt != 0) = true := by simpa using HT.out
    have htc : (lt == 0) = false := by simpa using HT.out
    go_wp2_with (first | (go_at_call 82; refine (HLD.out _ rfl).mono ?_; rintro e w5 ⟨rfl, ⟨n5, rfl⟩⟩) | (go_at_call 68; refine (HLC.out _ (HMA.out _ (by repeat (first | exact below_alloc (Below.refl _ _) _ | apply pw_below_drewN)))).mono ?_; rintro e w6 ⟨rfl, hb6⟩; have HB6 := Aside0.mk hb6; clear hb6))
    go_ret
    have hbw : Below w.heap.size w w6 := (pw_below_drewN (below_alloc (Below.refl _ _) _) _).trans (HB6.out.mono (by simp))
    exact ⟨rfl, ⟨HRA.out _ hbw, HMA.out _ hbw, HR.out.bg, HR.out.n1, HR.out.n2, HR.out.n3⟩, Keep.of_below hbw⟩

end Go.Proofs.Ytpeljnnbknnbmaa.PD
end
end
section
section
namespace Go.Proofs.Ytpeljnnbknnbmaa.PD
open Go.RowKit Go.Proofs.YtpeljnnbknnbmaaW.PrintWords Go.Proofs.YtpeljnnbknnbmaaW.PrintLast Go.Proofs.YtpeljnnbknnbmaaW.PrintMore
set_option linter.unusedVariables false
set_option linter.unusedSimpArgs false
def isMem (x : S49) : Prop := 17 ≤ x.f0 ∧ x.f0 ≤ 22
instance (x : S49) : Decidable (isMem x) := by unfold isMem; infer_instance
def mAd (x : S49) (V : List Int) : Int := (rd V x.f2 + x.f4) % 4294967296
/-- whether a step of memory traps; the variables and the RAM behind it -/
def mTrap (F R : Int) (fl : List Int) (x : S49) (V rl : List Int) : Int :=
  if x.f0 = 21 then storeT R rl.length (mAd x V) 1 else if x.f0 = 22 then storeT R rl.length (mAd x V) 4 else (ldV x.f0 F R fl rl (mAd x V)).2
def mV (F R : Int) (fl : List Int) (x : S49) (V rl : List Int) : List Int :=
  if x.f0 = 21 then V else if x.f0 = 22 then V else if (ldV x.f0 F R fl rl (mAd x V)).2 = 0 then V.set x.f1.toNat (ldV x.f0 F R fl rl (mAd x V)).1 else V
def mL (R : Int) (x : S49) (V rl : List Int) : List Int :=
  if x.f0 = 21 then storeL R rl (mAd x V) 1 (rd V x.f3) else if x.f0 = 22 then storeL R rl (mAd x V) 4 (rd V x.f3) else rl
structure MOk (x : S49) : Prop where
  o : isMem x
  d : 0 ≤ x.f1 ∧ x.f1 < 64
  a : 0 ≤ x.f2 ∧ x.f2 < 64
  b : 0 ≤ x.f3 ∧ x.f3 < 64
theorem mem_some (w : World) (base g : Nat) (lv ev : Value) (at_ : Int) (V : List Int) (gm bf br : Nat) (F R : Int) (fl rl : List Int) (h : RM w base g lv ev at_ V gm bf br F R fl rl) (hF : MemFit F R fl.length rl.length) (hbf : Bytes fl) (hbr : Bytes rl) (hu : ∀ x ∈ V, U32 x) (hl : V.length = 64) (x : S49) (hx : MOk x) :
    Calls Try.prog 59 #[.pointer (some ⟨g, 0, none⟩), .agg #[.int .i64 x.f0, .int .i64 x.f1, .int .i64 x.f2, .int .i64 x.f3, .int .i32 x.f4]] w (MemStep w base g lv ev at_ (mV F R fl x V rl) gm bf br F R fl (mL R x V rl) (mTrap F R fl x V rl)) := by
  obtain ⟨⟨ho1, ho2⟩, hd, ha, hb⟩ := hx
  obtain ⟨o, d, a, b, i⟩ := x
  simp only at ho1 ho2 hd ha hb
  obtain ⟨d, rfl⟩ : ∃ n : Nat, d = n := ⟨d.toNat, by omega⟩
  obtain ⟨a, rfl⟩ : ∃ n : Nat, a = n := ⟨a.toNat, by omega⟩
  obtain ⟨b, rfl⟩ : ∃ n : Nat, b = n := ⟨b.toNat, by omega⟩
  rcases (by omega : o = 17 ∨ o = 18 ∨ o = 19 ∨ o = 20 ∨ o = 21 ∨ o = 22) with rfl | rfl | rfl | rfl | rfl | rfl
  · exact mem_load17 w base g lv ev at_ V gm bf br F R fl rl h hF hbf hbr hl d a (by omega) (by omega) b i
  · exact mem_load18 w base g lv ev at_ V gm bf br F R fl rl h hF hbf hbr hl d a (by omega) (by omega) b i
  · exact mem_load19 w base g lv ev at_ V gm bf br F R fl rl h hF hbf hbr hl d a (by omega) (by omega) b i
  · exact mem_load20 w base g lv ev at_ V gm bf br F R fl rl h hF hbf hbr hl d a (by omega) (by omega) b i
  · exact mem_store8 w base g lv ev at_ V gm bf br F R fl rl h hF hu hl a b (by omega) (by omega) d i
  · exact mem_store32 w base g lv ev at_ V gm bf br F R fl rl h hF hu hl a b (by omega) (by omega) d i
/-- a row that is read, behind what leaves its block alone -/
theorem C_flat {α : Type} {d : Kd α} {w w1 : World} {ad : Addr} {n : Nat} {xs : List α} (hK : ∀ x cs, d.K w x cs → d.K w1 x cs) (h : d.C w (some ad) n xs) (hk : ad.block < w.heap.size → w1.heap[ad.block]? = w.heap[ad.block]?) : d.C w1 (some ad) n xs := by
  refine ⟨h.1, h.2.1, fun hn => ?_⟩
  obtain ⟨ad', e, hc⟩ := h.2.2 hn
  injection e with e
  subst e
  refine ⟨ad, rfl, fun j p hj => ?_⟩
  obtain ⟨c, hl, hr, hcell⟩ := hc j p hj
  refine ⟨c, hl, hK _ _ hr, fun i u hi => ?_⟩
  have h1 := hcell i u hi
  have hb := World.block_lt_of_cell? w _ h1
  rw [show (ad.add (j * d.sz + i)).block = ad.block by unfold Addr.add; split <;> rfl] at hb
  have h2 := hk hb
  rw [← h1]
  unfold World.cell?
  rw [show (ad.add (j * d.sz + i)).block = ad.block by unfold Addr.add; split <;> rfl, h2]
theorem C_keep49 {w w1 : World} {ad : Addr} {n : Nat} {xs : List S49} {br : Nat} (h : Kd.C k49 w (some ad) n xs) (hk : Keep (· = br) w w1) (hne : ad.block ≠ br) : Kd.C k49 w1 (some ad) n xs :=
  C_flat (fun x cs hx => by rw [k49_open hx]; exact k49_mk w1 x) h (fun hb => hk.block _ hb hne)
theorem C_keepi {w w1 : World} {ad : Addr} {n : Nat} {xs : List Int} {br : Nat} (h : Kd.C (Kd.int .i64) w (some ad) n xs) (hk : Keep (· = br) w w1) (hne : ad.block ≠ br) : Kd.C (Kd.int .i64) w1 (some ad) n xs :=
  C_flat (w := w) (w1 := w1) (fun x cs hx => hx) h (fun hb => hk.block _ hb hne)
/-- one step of a program with memory: where it is, its variables, the RAM -/
def sStep (l : List S49) (E : List Int) (F R : Int) (fl : List Int) (s : Int × List Int × List Int) : Int × List Int × List Int :=
  if isMem (rd_T49 l s.1) then (s.1 + 1, mV F R fl (rd_T49 l s.1) s.2.1 s.2.2, mL R (rd_T49 l s.1) s.2.1 s.2.2)
  else ((pStep l E (s.1, s.2.1)).1, (pStep l E (s.1, s.2.1)).2, s.2.2)
def sTr (l : List S49) (F R : Int) (fl : List Int) (s : Int × List Int × List Int) : Int := if isMem (rd_T49 l s.1) then mTrap F R fl (rd_T49 l s.1) s.2.1 s.2.2 else 0
def sRun (l : List S49) (E : List Int) (F R : Int) (fl rl : List Int) : Nat → Int × List Int × List Int
  | 0 => (0, List.replicate 64 0, rl)
  | k + 1 => sStep l E F R fl (sRun l E F R fl rl k)
/-- a step that can be done where the program is -/
structure SOn (l : List S49) (E : List Int) (nr : Nat) (s : Int × List Int × List Int) : Prop where
  u : ∀ x ∈ s.2.1, U32 x
  len : s.2.1.length = 64
  at0 : 0 ≤ s.1
  at1 : s.1 < l.length
  br : Bytes s.2.2
  rlen : s.2.2.length = nr
  ok : (isMem (rd_T49 l s.1) → MOk (rd_T49 l s.1)) ∧ (¬ isMem (rd_T49 l s.1) → POn l E (s.1, s.2.1))
theorem mTrap_stays {F R : Int} {fl : List Int} {x : S49} {V rl : List Int} (h : mTrap F R fl x V rl ≠ 0) : mV F R fl x V rl = V ∧ mL R x V rl = rl := by
  unfold mTrap at h
  unfold mV mL
  by_cases h1 : x.f0 = 21
  · rw [if_pos h1] at h
    rw [if_pos h1, if_pos h1]
    unfold storeL
    rw [if_neg h]
    exact ⟨rfl, rfl⟩
  · rw [if_neg h1] at h
    rw [if_neg h1, if_neg h1]
    by_cases h2 : x.f0 = 22
    · rw [if_pos h2] at h
      rw [if_pos h2, if_pos h2]
      unfold storeL
      rw [if_neg h]
      exact ⟨rfl, rfl⟩
    · rw [if_neg h2] at h
      rw [if_neg h2, if_neg h2, if_neg h]
      exact ⟨rfl, rfl⟩
theorem Keep.shrink {w w1 w2 : World} {g br : Nat} (h : Keep (· = br) w w1) (k : Keep (fun i => i = g ∨ i = br) w1 w2) (hg : w.heap.size ≤ g) : Keep (· = br) w w2 :=
  ⟨k.os.trans h.os, k.tape.trans h.tape, k.output.trans h.output, Nat.le_trans h.size k.size, fun i hi hs => (k.block i (Nat.lt_of_lt_of_le hi h.size) (fun e => by rcases e with e | e; exact absurd hi (by omega); exact hs e)).trans (h.block i hi hs)⟩
theorem RM.setA {w : World} {base g : Nat} {lv ev : Value} {at_ : Int} {V : List Int} {gm bf br : Nat} {F R : Int} {fl rl : List Int} (h : RM w base g lv ev at_ V gm bf br F R fl rl) (x : Int) : RM (w.setCell ⟨g, 3, none⟩ (.int .i64 x)) base g lv ev x V gm bf br F R fl rl :=
  ⟨h.rn.setA x, MemAt.setO h.mm h.n1 h.n2 h.n3 _, h.bg, h.n1, h.n2, h.n3⟩
theorem RM.below {w w1 : World} {base g : Nat} {lv ev : Value} {at_ : Int} {V : List Int} {gm bf br : Nat} {F R : Int} {fl rl : List Int} (h : RM w base g lv ev at_ V gm bf br F R fl rl) (hb : Below w.heap.size w w1) : RM w1 base g lv ev at_ V gm bf br F R fl rl :=
  ⟨h.rn.below hb, h.mm.below hb, h.bg, h.n1, h.n2, h.n3⟩
theorem plain_rm (w : World) (base g : Nat) (la ea : Addr) (lc ec : Nat) (l : List S49) (E : List Int) (s : Int × List Int) (gm bf br : Nat) (F R : Int) (fl rl : List Int) (hs : POn l E s) (hEl : E.length = l.length) (hC : Kd.C k49 w (some la) l.length l) (hE : Kd.C (Kd.int .i64) w (some ea) E.length E)
    (h : RM w base g (.slice (some la) l.length lc) (.slice (some ea) E.length ec) s.1 s.2 gm bf br F R fl rl) (hg : la.block ≠ g) :
    Calls Try.prog 60 #[.pointer (some ⟨g, 0, none⟩), .agg #[.int .i64 (rd_T49 l s.1).f0, .int .i64 (rd_T49 l s.1).f1, .int .i64 (rd_T49 l s.1).f2, .int .i64 (rd_T49 l s.1).f3, .int .i32 (rd_T49 l s.1).f4]] w fun e w' =>
      e = .returned (.tuple #[]) ∧ RM w' base g (.slice (some la) l.length lc) (.slice (some ea) E.length ec) ((pStep l E s).1 - 1) (pStep l E s).2 gm bf br F R fl rl ∧ Keep (fun i => i = g ∨ i = br) w w' := by
  refine (plain_on w g la ea lc ec _ l E s hs hEl hC hE h.rn hg).mono ?_
  rintro e w' ⟨rfl, hr, hk⟩
  exact ⟨rfl, ⟨hr, h.mm.move fun k hk' => by rcases hk' with rfl | rfl | rfl; exact hk.block _ h.mm.lt.1 (Ne.symm h.n1); exact hk.block _ h.mm.lt.2.1 (Ne.symm h.n2); exact hk.block _ h.mm.lt.2.2 (Ne.symm h.n3), h.bg, h.n1, h.n2, h.n3⟩, ⟨hk.os, hk.tape, hk.output, hk.size, fun i hi hs => hk.block i hi (fun e => hs (Or.inl e))⟩⟩

end Go.Proofs.Ytpeljnnbknnbmaa.PD
end
section
namespace Go.Proofs.Ytpeljnnbknnbmaa.PD
open Go.RowKit Go.Proofs.YtpeljnnbknnbmaaW.PrintWords Go.Proofs.YtpeljnnbknnbmaaW.PrintLast Go.Proofs.YtpeljnnbknnbmaaW.PrintMore
set_option linter.unusedVariables false
set_option linter.unusedSimpArgs false
theorem Keep.setNew {S : Nat → Prop} {w w1 : World} (h : Keep S w w1) (p : Addr) (hp : w.heap.size ≤ p.block) (u : Value) : Keep S w (w1.setCell p u) :=
  ⟨h.os, h.tape, h.output, by simpa [World.setCell] using h.size, fun i hi hs => (Below.heap_setCell w1 p u i (by omega)).trans (h.block i hi hs)⟩
set_option maxRecDepth 100000 in
set_option maxHeartbeats 16000000 in
theorem run_mem (w : World) (la : Addr) (lc : Nat) (l : List S49) (hC : Kd.C k49 w (some la) l.length l) (hlc : l.length ≤ lc) (kc : Nat) (hchk : lir_Check.f kc l = some 0) (E : List Int) (eb : Bool) (hends : lir_Ends.f kc l = some (E, eb)) (hEl : E.length = l.length) (hl0 : 0 < l.length)
    (base gm bf br : Nat) (F R : Int) (fl rl0 : List Int) (hm : MemAt w base gm bf br F R fl rl0) (hF : MemFit F R fl.length rl0.length) (hbf : Bytes fl) (hlabr : la.block ≠ br)
    (N fuel : Nat) (hfuel : (fuel : Int) < 9223372036854775807) (hlm : (l.length : Int) < 9223372036854775807) (hN : N ≤ fuel) (t : Int)
    (hon : ∀ k, k < N → SOn l E rl0.length (sRun l E F R fl rl0 k) ∧ sTr l F R fl (sRun l E F R fl rl0 k) = 0) (h0 : 0 ≤ (sRun l E F R fl rl0 N).1)
    (hend : (¬ ((sRun l E F R fl rl0 N).1 < l.length ∧ N < fuel) ∧ t = 0) ∨ (N < fuel ∧ SOn l E rl0.length (sRun l E F R fl rl0 N) ∧ sTr l F R fl (sRun l E F R fl rl0 N) = t ∧ t ≠ 0)) :
    Calls Try.prog 30 #[.slice (some la) l.length lc, .pointer (some ⟨gm, 0, none⟩), .int .i64 fuel] w fun e w' => ∃ g ev, w.heap.size ≤ g ∧ e = .returned (.tuple #[.slice (some ⟨g, 4, none⟩) 64 64, .int .i64 N, .int .i64 t, .int .i64 0]) ∧ RM w' base g (.slice (some la) l.length lc) ev (sRun l E F R fl rl0 N).1 (sRun l E F R fl rl0 N).2.1 gm bf br F R fl (sRun l E F R fl rl0 N).2.2 ∧ Keep (· = br) w w' := by
  have HC := Aside0.mk hC
  have HCH := Aside0.mk hchk
  have HEN := Aside0.mk hends
  have HON := Aside0.mk hon
  have HEND := Aside0.mk hend
  have HMM := Aside0.mk hm
  have HFF := Aside0.mk hF
  have HBF := Aside0.mk hbf
  have HNE := Aside0.mk hlabr
  clear hC hchk hends hon hend hm hF hbf hlabr
  go_enter Try.func30, Try.ntmps30
  go_wp2_with (first | (go_at_call 50; (with_reducible refine (lir_Check.calls kc _ _ l 0 _ HC.out hlc HCH.out).mono ?_); rintro e w1 ⟨rfl, hb1⟩; have HB1 := Aside0.mk hb1; clear hb1) | (go_at_call 58; (with_reducible refine (lir_Ends.calls kc _ _ l E eb _ (Kd.C_below HC.out HB1.out) hlc HEN.out).mono ?_); rintro e w2 ⟨v0, rfl, hv, hb2⟩; obtain ⟨A0, c0, hA0, hc0, hC2⟩ := Kd.R_reads hv; obtain ⟨inn, hinn⟩ := Kd.R_own hv; have HOB := Aside0.mk (fun k hk => own_base hinn k hk); subst hA0; have HB2 := Aside0.mk hb2; have HC2 := Aside0.mk hC2; clear hb2 hv hC2 hinn) | (refine wpList_built rfl 102 _ rfl #[(0, .slice (some la) l.length lc), (1, .slice A0 E.length c0), (2, .pointer (some ⟨gm, 0, none⟩))] rfl _ (run_build102 _ _ _ _ _ _ _ _) ?_))
  obtain ⟨ea, _, hea, _, _, _⟩ := Kd.C_get HC2.out (0 : Int) 0 (by omega) (by omega)
  subst hea
  have hlw1 : w.heap.size ≤ w1.heap.size := HB1.out.size
  have hlw : w.heap.size ≤ w2.heap.size := (HB1.out.trans (HB2.out.mono HB1.out.size)).size
  have hmlt := HMM.out.lt
  have hmlg := HMM.out.lg
  have HEAB := Aside0.mk (show ea.block ≠ br from by have := HOB.out ea.block rfl; omega)
  have hbb : Below w.heap.size w w2 := HB1.out.trans (HB2.out.mono HB1.out.size)
  have hm2 := HMM.out.below hbb
  have hR0 : RM (w2.alloc (.cells (rnC0 (.slice (some la) l.length lc) (.slice (some ea) l.length c0) (.pointer (some ⟨gm, 0, none⟩))) 102)) base w2.heap.size (.slice (some la) l.length lc) (.slice (some ea) l.length c0) 0 (List.replicate 64 0) gm bf br F R fl rl0 :=
    ⟨⟨_, heap_alloc_new w2 _, rnC0_ok _ _ _⟩, hm2.below (below_alloc (Below.refl _ _) _), by omega, by omega, by omega, by omega⟩
  have HR0 := Aside0.mk hR0
  have HLA := Aside0.mk (show la.block ≠ w2.heap.size from by have := Kd.C_lt HC.out hl0 (by show 0 < 5; omega); omega)
  have HCW := Aside0.mk (fun (W : World) (hW : Keep (· = br) w2 W) => C_keep49 (Kd.C_below HC.out hbb) hW HNE.out)
  have HEW := Aside0.mk (fun (W : World) (hW : Keep (· = br) w2 W) => C_keepi HC2.out hW HEAB.out)
  have HALW := Aside0.mk (Keep.of_below (S := (· = br)) hbb)
  clear hR0 hbb hm2 hmlt hmlg hlw1
  go_loopw [14] (fun i wr => ∃ k : Nat, k ≤ N ∧ i = .int .i64 k ∧ Aside0 (RM wr base w2.heap.size (.slice (some la) l.length lc) (.slice (some ea) l.length c0) (sRun l E F R fl rl0 k).1 (sRun l E F R fl rl0 k).2.1 gm bf br F R fl (sRun l E F R fl rl0 k).2.2) ∧ Aside0 (Keep (· = br) w2 wr)) (fun i _ => N - (intOf i).toNat)
  case atStart => exact ⟨0, by omega, rfl, HR0, ⟨(Keep.refl _ _).alloc _⟩⟩
  case round =>
    obtain ⟨k, hk, rfl, hR, hB⟩ := hrel
    by_cases h1 : k < N
    · obtain ⟨hon, htr⟩ := HON.out k h1
      have g3 := hR.out.rn.ga
      have hlt := hR.out.rn.lt
      have hfz := hR.out.rn.frozen 3
      obtain ⟨s, hs⟩ : ∃ s, s = sRun l E F R fl rl0 k := ⟨_, rfl⟩
      have hnx : sRun l E F R fl rl0 (k + 1) = sStep l E F R fl s := by rw [hs]; rfl
      rw [← hs] at hon htr g3 hR
      have ha0 := hon.at0
      have ha1 := hon.at1
      obtain ⟨ad, ee, e0, e1, e2, e3, e4⟩ := at_T49 (HCW.out _ hB.out) s.1 ha0 ha1
      injection ee with ee
      subst ee
      obtain ⟨at_, hat⟩ : ∃ at_ : Nat, s.1 = at_ := ⟨s.1.toNat, by omega⟩
      have hai : (at_ : Int) < l.length := by omega
      have hkf : (k : Int) < fuel := by omega
      have hb1 : decide ((at_ : Int) < (l.length : Int)) = true := decide_eq_true hai
      have hb2 : decide ((k : Int) < (fuel : Int)) = true := decide_eq_true hkf
      obtain ⟨xx, hxx⟩ : ∃ xx, xx = rd_T49 l s.1 := ⟨_, rfl⟩
      have HAT := Aside0.mk hat
      have HLM := Aside0.mk hlm
      have HLW := Aside0.mk hlw
      by_cases hmem : isMem xx
      · have hst : sStep l E F R fl s = (s.1 + 1, mV F R fl xx s.2.1 s.2.2, mL R xx s.2.1 s.2.2) := by unfold sStep; rw [← hxx, if_pos hmem]
        have htr' : mTrap F R fl xx s.2.1 s.2.2 = 0 := by have := htr; unfold sTr at this; rw [← hxx, if_pos hmem] at this; exact this
        have HO := Aside0.mk (fun (W : World) (hr : RM W base w2.heap.size (.slice (some la) l.length lc) (.slice (some ea) l.length c0) s.1 s.2.1 gm bf br F R fl s.2.2) => mem_some W base w2.heap.size _ _ s.1 s.2.1 gm bf br F R fl s.2.2 hr (by rw [hon.rlen]; exact HFF.out) HBF.out hon.br hon.u hon.len xx (hxx ▸ hon.ok.1 (hxx ▸ hmem)))
        rw [htr'] at HO
        rw [← hxx] at e0 e1 e2 e3 e4
        rw [hat] at e0 e1 e2 e3 e4 g3
        simp only [Int.toNat_natCast] at e0 e1 e2 e3 e4
        have h17 : 17 ≤ xx.f0 := hmem.1
        have h22 : xx.f0 ≤ 22 := hmem.2
        have HNX := Aside0.mk (hnx.trans hst)
        clear hxx hon htr ha0 ha1 hat hnx hs hst htr' hmem hEl hlw h0 hl0 hN hlc hlm hb1 hb2
        go_wp2_with (go_at_call 59; go_loud ((with_reducible refine (HO.out _ ?h1).mono ?_); (case h1 => exact RM.below hR.out (below_alloc (Below.refl _ _) _)); rintro e w5 ⟨rfl, hr5, hk5⟩; rw [HAT.out] at hr5; have g5 := hr5.rn.ga; have f5 := hr5.rn.frozen 3; have hw5 : (at_ : Int) + 1 < 9223372036854775808 := (by have := HLM.out; omega); have hw6 : (k : Int) + 1 < 9223372036854775808 := (by omega); have HR5 := Aside0.mk hr5; have HK5 := Aside0.mk hk5; clear hr5 hk5))
        go_roundw
        case rel =>
          refine ⟨k + 1, by omega, by go_num, ⟨?_⟩, ⟨?_⟩⟩
          · rw [HNX.out, HAT.out]
            exact RM.setA HR5.out _
          · exact (Keep.shrink (hB.out.alloc _) HK5.out (Nat.le_refl _)).setNew _ (Nat.le_refl _) _
        case measure => simp [intOf]; omega
      · have hst : sStep l E F R fl s = ((pStep l E (s.1, s.2.1)).1, (pStep l E (s.1, s.2.1)).2, s.2.2) := by unfold sStep; rw [← hxx, if_neg hmem]
        have hpon := hon.ok.2 (hxx ▸ hmem)
        have hps := pStep_at hpon
        have HO := Aside0.mk (fun (W : World) (hW : Keep (· = br) w2 W) (hr : RM W base w2.heap.size (.slice (some la) l.length lc) (.slice (some ea) E.length c0) s.1 s.2.1 gm bf br F R fl s.2.2) => plain_rm W base w2.heap.size la ea lc c0 l E (s.1, s.2.1) gm bf br F R fl s.2.2 hpon hEl (HCW.out W hW) (HEW.out W hW) hr HLA.out)
        simp only [← hxx] at HO
        obtain ⟨p5, hp5⟩ : ∃ p5, p5 = pStep l E (s.1, s.2.1) := ⟨_, rfl⟩
        rw [← hp5] at hst hps
        simp only [← hp5] at HO
        have hno : ¬ (17 ≤ xx.f0 ∧ xx.f0 ≤ 22) := hmem
        rw [← hxx] at e0 e1 e2 e3 e4
        rw [hat] at e0 e1 e2 e3 e4 g3
        simp only [Int.toNat_natCast] at e0 e1 e2 e3 e4
        have HNX := Aside0.mk (hnx.trans hst)
        have HST := Aside0.mk hps
        have HEL := Aside0.mk hEl
        clear hxx hon htr ha0 ha1 hat hnx hs hst hmem hpon hps hp5 hEl hlw h0 hl0 hN hlc hlm hb1 hb2
        by_cases h17 : 17 ≤ xx.f0
        all_goals try have h22 : ¬ (xx.f0 ≤ 22) := fun h => hno ⟨h17, h⟩
        all_goals clear hno
        all_goals
          go_wp2_with (go_at_call 60; go_loud ((with_reducible refine (HO.out _ ?h1 ?h2).mono ?_); (case h1 => exact hB.out.alloc _); (case h2 => rw [HEL.out]; exact RM.below hR.out (below_alloc (Below.refl _ _) _)); rintro e w5 ⟨rfl, hr5, hk5⟩; have hz5 := HST.out; obtain ⟨a5, ha5⟩ : ∃ a5 : Nat, p5.1 - 1 = a5 := ⟨(p5.1 - 1).toNat, by omega⟩; rw [ha5] at hr5; have g5 := hr5.rn.ga; have f5 := hr5.rn.frozen 3; have hw5 : (a5 : Int) + 1 < 9223372036854775808 := (by have := HLM.out; omega); have hw6 : (k : Int) + 1 < 9223372036854775808 := (by omega); have HA5 := Aside0.mk ha5; have HR5 := Aside0.mk hr5; have HK5 := Aside0.mk hk5; clear hr5 hk5 hz5 ha5))
          go_roundw
          case rel =>
            refine ⟨k + 1, by omega, by go_num, ⟨?_⟩, ⟨?_⟩⟩
            · rw [HNX.out]
              simp only
              rw [show p5.1 = (a5 : Int) + 1 from by have := HA5.out; omega]
              have hq := RM.setA HR5.out ((a5 : Int) + 1)
              rw [HEL.out] at hq
              exact hq
            · exact (Keep.shrink (hB.out.alloc _) HK5.out (Nat.le_refl _)).setNew _ (Nat.le_refl _) _
          case measure => simp [intOf]; omega
    · obtain rfl : k = N := by omega
      have g3 := hR.out.rn.ga
      have hlt := hR.out.rn.lt
      have hfz := hR.out.rn.frozen 3
      obtain ⟨s, hs⟩ : ∃ s, s = sRun l E F R fl rl0 k := ⟨_, rfl⟩
      have hend := HEND.out
      rw [← hs] at hend g3 hR h0
      have HS := Aside0.mk hs
      have HLW := Aside0.mk hlw
      rcases hend with ⟨hend, rfl⟩ | ⟨hkfu, hon, htr, ht0⟩
      · obtain ⟨at_, hat⟩ : ∃ at_ : Nat, s.1 = at_ := ⟨s.1.toNat, by omega⟩
        rw [hat] at hend g3
        have HAT := Aside0.mk hat
        clear hs hat hEl hlw h0 hl0 hlc hlm HON HEND hN h1
        by_cases hA : (at_ : Int) < l.length
        all_goals try have hB2 : ¬ ((k : Int) < fuel) := (fun h => hend ⟨hA, (by omega)⟩)
        all_goals clear hend
        all_goals
          go_wp2
          rw [← HS.out]
          (try simp only [Exit.inBlock, Exit.then])
          refine bodyPost_ret (results_tmp4 rfl _ _ _) rfl ?_
          first | exact ⟨w2.heap.size, HLW.out, rfl, ⟨_, hR.out⟩, Keep.trans HALW.out hB.out⟩ | exact ⟨w2.heap.size, _, HLW.out, rfl, hR.out, Keep.trans HALW.out hB.out⟩
      · have ha0 := hon.at0
        have ha1 := hon.at1
        obtain ⟨ad, ee, e0, e1, e2, e3, e4⟩ := at_T49 (HCW.out _ hB.out) s.1 ha0 ha1
        injection ee with ee
        subst ee
        obtain ⟨at_, hat⟩ : ∃ at_ : Nat, s.1 = at_ := ⟨s.1.toNat, by omega⟩
        have hai : (at_ : Int) < l.length := by omega
        have hkf : (k : Int) < fuel := by omega
        obtain ⟨xx, hxx⟩ : ∃ xx, xx = rd_T49 l s.1 := ⟨_, rfl⟩
        have HAT := Aside0.mk hat
        have hmem : isMem xx := by
          apply Classical.byContradiction
          intro hno
          unfold sTr at htr
          rw [← hxx, if_neg hno] at htr
          exact ht0 htr.symm
        have htr' : mTrap F R fl xx s.2.1 s.2.2 = t := by have := htr; unfold sTr at this; rw [← hxx, if_pos hmem] at this; exact this
        have hsty := mTrap_stays (F := F) (R := R) (fl := fl) (x := xx) (V := s.2.1) (rl := s.2.2) (by rw [htr']; exact ht0)
        have HO := Aside0.mk (fun (W : World) (hr : RM W base w2.heap.size (.slice (some la) l.length lc) (.slice (some ea) l.length c0) s.1 s.2.1 gm bf br F R fl s.2.2) => mem_some W base w2.heap.size _ _ s.1 s.2.1 gm bf br F R fl s.2.2 hr (by rw [hon.rlen]; exact HFF.out) HBF.out hon.br hon.u hon.len xx (hxx ▸ hon.ok.1 (hxx ▸ hmem)))
        rw [htr', hsty.1, hsty.2] at HO
        rw [← hxx] at e0 e1 e2 e3 e4
        rw [hat] at e0 e1 e2 e3 e4 g3
        simp only [Int.toNat_natCast] at e0 e1 e2 e3 e4
        have h17 : 17 ≤ xx.f0 := hmem.1
        have h22 : xx.f0 ≤ 22 := hmem.2
        have htb : (t != 0) = true := by simpa using ht0
        have htc : (t == 0) = false := by simpa using ht0
        clear hxx hon htr ha0 ha1 hat hs hmem hsty htr' ht0 hEl hlw h0 hl0 hlc hlm HON HEND hN h1
        go_wp2_with (go_at_call 59; go_loud ((with_reducible refine (HO.out _ ?h1).mono ?_); (case h1 => exact RM.below hR.out (below_alloc (Below.refl _ _) _)); rintro e w5 ⟨rfl, hr5, hk5⟩; have HR5 := Aside0.mk hr5; have HK5 := Aside0.mk hk5; clear hr5 hk5))
        rw [← HS.out]
        (try simp only [Exit.inBlock, Exit.then])
        refine bodyPost_ret (results_tmp4 rfl _ _ _) rfl ?_
        first | exact ⟨w2.heap.size, HLW.out, rfl, ⟨_, HR5.out⟩, Keep.trans HALW.out (Keep.shrink (hB.out.alloc _) HK5.out (Nat.le_refl _))⟩ | exact ⟨w2.heap.size, _, HLW.out, rfl, HR5.out, Keep.trans HALW.out (Keep.shrink (hB.out.alloc _) HK5.out (Nat.le_refl _))⟩

end Go.Proofs.Ytpeljnnbknnbmaa.PD
end
end
