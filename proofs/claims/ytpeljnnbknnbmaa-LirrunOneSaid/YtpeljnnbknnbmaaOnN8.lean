import Derived.Test.YtpeljnnbknnbmaaOnN2
import Derived.Test.YtpeljnnbknnbmaaOnN1
import Derived.Test.YtpeljnnbknnbmaaOnPDx4
import Derived.Deep.MidRow
section
namespace Go.Proofs.Ytpeljnnbknnbmaa.PD
open Go.RowKit Go.Proofs.YtpeljnnbknnbmaaW.PrintWords Go.Proofs.YtpeljnnbknnbmaaW.PrintLast Go.Proofs.YtpeljnnbknnbmaaW.PrintMore
set_option linter.unusedVariables false
set_option linter.unusedSimpArgs false
set_option maxRecDepth 100000 in
set_option maxHeartbeats 8000000 in
theorem plain_reg (w : World) (g : Nat) (lv ev mv : Value) (at_ : Int) (V : List Int) (h : RnAt w g lv ev mv at_ V) (hu : ∀ x ∈ V, U32 x) (hl : V.length = 64) (o : Nat) (h3' : 3 ≤ o) (h12 : o ≤ 12) (d a b : Nat) (hd : d < 64) (ha : a < 64) (hb : b < 64) (imm : Int) :
    Calls Try.prog 60 #[.pointer (some ⟨g, 0, none⟩), .agg #[.int .i64 o, .int .i64 d, .int .i64 a, .int .i64 b, .int .i32 imm]] w (PlainTold w g lv ev mv at_ (V.set d (docAlu (rd opsT o) (rd V a) (rd V b)))) := by
  have hA1 := alu_op 0 o h3' (by omega)
  have hA2 := (numAlu_eq (ops_in o h3' (by omega)) (rd_u32 hl hu a ha) (rd_u32 hl hu b hb) 0).1
  obtain ⟨res, hres⟩ : ∃ res, res = docAlu (rd opsT o) (rd V a) (rd V b) := ⟨_, rfl⟩
  rw [← hres] at hA2
  rw [← hres]
  obtain ⟨aop, haop⟩ : ∃ aop, aop = rd opsT (o : Int) := ⟨_, rfl⟩
  rw [← haop] at hA1 hA2
  have h3 := h.gv d hd
  have h4 := h.gv a ha
  have h5 := h.gv b hb
  have hfz := h.frozen (4 + d)
  have hlt := h.lt
  have hdi : (d : Int) < 64 := by omega
  have hai : (a : Int) < 64 := by omega
  have hbi : (b : Int) < 64 := by omega
  have hne : ¬ (g = w.heap.size) := by omega
  have hne2 : ¬ (w.heap.size = g) := by omega
  have o1 : ¬ ((o : Int) = 1) := by omega
  have o2 : ¬ ((o : Int) = 2) := by omega
  have o3 : ¬ ((o : Int) = 13) := by omega
  have o4 : ¬ ((o : Int) = 14) := by omega
  have o5 : ¬ ((o : Int) = 15) := by omega
  have o6 : ¬ ((o : Int) = 16) := by omega
  have o7 : ¬ ((o : Int) = 23) := by omega
  have o8 : ¬ ((o : Int) = 24) := by omega
  have HR := Aside0.mk h
  have H1 := Aside0.mk hA1
  have H2 := Aside0.mk hA2
  clear h hA1 hA2 hres haop hu
  go_enter Try.func60, Try.ntmps60
  go_wp2
  refine wp_region_held_drew (S := (fun W' => W'.cell? ⟨w.heap.size, 0, none⟩ = some (.int .i64 o) ∧ W'.cell? ⟨w.heap.size, 1, none⟩ = some (.int .i64 d) ∧ W'.cell? ⟨w.heap.size, 2, none⟩ = some (.int .i64 a) ∧ W'.cell? ⟨w.heap.size, 3, none⟩ = some (.int .i64 b))) (by kernel_rfl) (by go_keep) (fun hHeld => ?_)
  refine wpAnyH_take (i := 0) (v := ?_) rfl (by kernel_rfl) (by kernel_rfl) (by kernel_rfl) (fun _ _ _ h => h) (Or.inl ⟨by rfl, ?_⟩) (by assumption) ?_
  rotate_left
  · (intro w hSw; (try dsimp only at hSw); go_simp; (try with_reducible rfl))
  try simp only [Act.put, List.getElem_toArray, List.getElem_cons_succ, List.getElem_cons_zero, List.setIfInBounds_toArray, List.set_cons_zero, List.set_cons_succ]
  refine wpAnyH_take (i := 1) (v := ?_) rfl (by kernel_rfl) (by kernel_rfl) (by kernel_rfl) (fun _ _ _ h => h) (Or.inl ⟨by rfl, ?_⟩) (by assumption) ?_
  rotate_left
  · (intro w hSw; (try dsimp only at hSw); go_simp; (try with_reducible rfl))
  try simp only [Act.put, List.getElem_toArray, List.getElem_cons_succ, List.getElem_cons_zero, List.setIfInBounds_toArray, List.set_cons_zero, List.set_cons_succ]
  refine wpAnyH_take (i := 2) (v := ?_) rfl (by kernel_rfl) (by kernel_rfl) (by kernel_rfl) (fun _ _ _ h => h) (Or.inl ⟨by rfl, ?_⟩) (by assumption) ?_
  rotate_left
  · (intro w hSw; (try dsimp only at hSw); go_simp; (try with_reducible rfl))
  try simp only [Act.put, List.getElem_toArray, List.getElem_cons_succ, List.getElem_cons_zero, List.setIfInBounds_toArray, List.set_cons_zero, List.set_cons_succ]
  refine wpAnyH_take (i := 3) (v := ?_) rfl (by kernel_rfl) (by kernel_rfl) (by kernel_rfl) (fun _ _ _ h => h) (Or.inl ⟨by rfl, ?_⟩) (by assumption) ?_
  rotate_left
  · (intro w hSw; (try dsimp only at hSw); go_simp; (try with_reducible rfl))
  try simp only [Act.put, List.getElem_toArray, List.getElem_cons_succ, List.getElem_cons_zero, List.setIfInBounds_toArray, List.set_cons_zero, List.set_cons_succ]
  refine wpAnyH_take (i := 4) (v := ?_) rfl (by kernel_rfl) (by kernel_rfl) (by kernel_rfl) (fun _ _ _ h => h) (Or.inl ⟨by rfl, ?_⟩) (by assumption) ?_
  rotate_left
  · (intro w hSw; (try dsimp only at hSw); go_simp; (try with_reducible rfl))
  try simp only [Act.put, List.getElem_toArray, List.getElem_cons_succ, List.getElem_cons_zero, List.setIfInBounds_toArray, List.set_cons_zero, List.set_cons_succ]
  refine wpAnyH_take (i := 6) (v := ?_) rfl (by kernel_rfl) (by kernel_rfl) (by kernel_rfl) (fun _ _ _ h => h) (Or.inl ⟨by rfl, ?_⟩) (by assumption) ?_
  rotate_left
  · (intro w hSw; (try dsimp only at hSw); go_simp; (try with_reducible rfl))
  try simp only [Act.put, List.getElem_toArray, List.getElem_cons_succ, List.getElem_cons_zero, List.setIfInBounds_toArray, List.set_cons_zero, List.set_cons_succ]
  refine wpAnyH_take (i := 7) (v := ?_) rfl (by kernel_rfl) (by kernel_rfl) (by kernel_rfl) (fun _ _ _ h => h) (Or.inl ⟨by rfl, ?_⟩) (by assumption) ?_
  rotate_left
  · (intro w hSw; (try dsimp only at hSw); go_simp; (try with_reducible rfl))
  try simp only [Act.put, List.getElem_toArray, List.getElem_cons_succ, List.getElem_cons_zero, List.setIfInBounds_toArray, List.set_cons_zero, List.set_cons_succ]
  refine wpAnyH_take (i := 8) (v := ?_) rfl (by kernel_rfl) (by kernel_rfl) (by kernel_rfl) (fun _ _ _ h => h) (Or.inl ⟨by rfl, ?_⟩) (by assumption) ?_
  rotate_left
  · (intro w hSw; (try dsimp only at hSw); go_simp; (try with_reducible rfl))
  try simp only [Act.put, List.getElem_toArray, List.getElem_cons_succ, List.getElem_cons_zero, List.setIfInBounds_toArray, List.set_cons_zero, List.set_cons_succ]
  refine wpAnyH_take (i := 9) (v := ?_) rfl (by kernel_rfl) (by kernel_rfl) (by kernel_rfl) (fun _ _ _ h => h) (Or.inl ⟨by rfl, ?_⟩) (by assumption) ?_
  rotate_left
  · (intro w hSw; (try dsimp only at hSw); go_simp; (try with_reducible rfl))
  try simp only [Act.put, List.getElem_toArray, List.getElem_cons_succ, List.getElem_cons_zero, List.setIfInBounds_toArray, List.set_cons_zero, List.set_cons_succ]
  refine wpAnyH_take (i := 10) (v := ?_) rfl (by kernel_rfl) (by kernel_rfl) (by kernel_rfl) (fun _ _ _ h => h) (Or.inl ⟨by rfl, ?_⟩) (by assumption) ?_
  rotate_left
  · (intro w hSw; (try dsimp only at hSw); go_simp; (try with_reducible rfl))
  try simp only [Act.put, List.getElem_toArray, List.getElem_cons_succ, List.getElem_cons_zero, List.setIfInBounds_toArray, List.set_cons_zero, List.set_cons_succ]
  refine wpAnyH_take (i := 11) (v := ?_) rfl (by kernel_rfl) (by kernel_rfl) (by kernel_rfl) (fun _ _ _ h => h) (Or.inl ⟨by rfl, ?_⟩) (by assumption) ?_
  rotate_left
  · (intro w hSw; (try dsimp only at hSw); go_simp; (try with_reducible rfl))
  try simp only [Act.put, List.getElem_toArray, List.getElem_cons_succ, List.getElem_cons_zero, List.setIfInBounds_toArray, List.set_cons_zero, List.set_cons_succ]
  refine wpAnyH_take (i := 13) (v := ?_) rfl (by kernel_rfl) (by kernel_rfl) (by kernel_rfl) (fun _ _ _ h => h) (Or.inl ⟨by rfl, ?_⟩) (by assumption) ?_
  rotate_left
  · (intro w hSw; (try dsimp only at hSw); go_simp; (try with_reducible rfl))
  try simp only [Act.put, List.getElem_toArray, List.getElem_cons_succ, List.getElem_cons_zero, List.setIfInBounds_toArray, List.set_cons_zero, List.set_cons_succ]
  refine wpAnyH_take (i := 14) (v := ?_) rfl (by kernel_rfl) (by kernel_rfl) (by kernel_rfl) (fun _ _ _ h => h) (Or.inl ⟨by rfl, ?_⟩) (by assumption) ?_
  rotate_left
  · (intro w hSw; (try dsimp only at hSw); go_simp; (try with_reducible rfl))
  try simp only [Act.put, List.getElem_toArray, List.getElem_cons_succ, List.getElem_cons_zero, List.setIfInBounds_toArray, List.set_cons_zero, List.set_cons_succ]
  refine wpAnyH_take (i := 15) (v := ?_) rfl (by kernel_rfl) (by kernel_rfl) (by kernel_rfl) (fun _ _ _ h => h) (Or.inl ⟨by rfl, ?_⟩) (by assumption) ?_
  rotate_left
  · (intro w hSw; (try dsimp only at hSw); go_simp; (try with_reducible rfl))
  try simp only [Act.put, List.getElem_toArray, List.getElem_cons_succ, List.getElem_cons_zero, List.setIfInBounds_toArray, List.set_cons_zero, List.set_cons_succ]
  refine wpAnyH_take (i := 16) (v := ?_) rfl (by kernel_rfl) (by kernel_rfl) (by kernel_rfl) (fun _ _ _ h => h) (Or.inl ⟨by rfl, ?_⟩) (by assumption) ?_
  rotate_left
  · (intro w hSw; (try dsimp only at hSw); go_simp; (try with_reducible rfl))
  try simp only [Act.put, List.getElem_toArray, List.getElem_cons_succ, List.getElem_cons_zero, List.setIfInBounds_toArray, List.set_cons_zero, List.set_cons_succ]
  refine wpAnyH_take (i := 17) (v := ?_) rfl (by kernel_rfl) (by kernel_rfl) (by kernel_rfl) (fun _ _ _ h => h) (Or.inl ⟨by rfl, ?_⟩) (by assumption) ?_
  rotate_left
  · (intro w hSw; (try dsimp only at hSw); go_simp; (try with_reducible rfl))
  try simp only [Act.put, List.getElem_toArray, List.getElem_cons_succ, List.getElem_cons_zero, List.setIfInBounds_toArray, List.set_cons_zero, List.set_cons_succ]
  refine wpAnyH_take (i := 18) (v := ?_) rfl (by kernel_rfl) (by kernel_rfl) (by kernel_rfl) (fun _ _ _ h => h) (Or.inl ⟨by rfl, ?_⟩) (by assumption) ?_
  rotate_left
  · (intro w hSw; (try dsimp only at hSw); go_simp; (try with_reducible rfl))
  try simp only [Act.put, List.getElem_toArray, List.getElem_cons_succ, List.getElem_cons_zero, List.setIfInBounds_toArray, List.set_cons_zero, List.set_cons_succ]
  refine wpAnyH_take (i := 24) (v := ?_) rfl (by kernel_rfl) (by kernel_rfl) (by kernel_rfl) (fun _ _ _ h => h) (Or.inl ⟨by rfl, ?_⟩) (by assumption) ?_
  rotate_left
  · (intro w hSw; (try dsimp only at hSw); go_simp; (try with_reducible rfl))
  try simp only [Act.put, List.getElem_toArray, List.getElem_cons_succ, List.getElem_cons_zero, List.setIfInBounds_toArray, List.set_cons_zero, List.set_cons_succ]
  refine wpAnyH_take (i := 25) (v := ?_) rfl (by kernel_rfl) (by kernel_rfl) (by kernel_rfl) (fun _ _ _ h => h) (Or.inl ⟨by rfl, ?_⟩) (by assumption) ?_
  rotate_left
  · (intro w hSw; (try dsimp only at hSw); go_simp; (try with_reducible rfl))
  try simp only [Act.put, List.getElem_toArray, List.getElem_cons_succ, List.getElem_cons_zero, List.setIfInBounds_toArray, List.set_cons_zero, List.set_cons_succ]
  refine wpAnyH_ready (rs := [5, 12, 19]) (by kernel_rfl) (by simp) ?_
  refine AllReadyH.cons rfl (fun K hK => ?_) (AllReadyH.cons rfl (fun K hK => ?_) (AllReadyH.cons rfl (fun K hK => ?_) AllReadyH.nil))
  · go_simp
    (go_at_call 85; (with_reducible refine (lirrun_alu.calls 1 _ _ _ H1.out).mono ?_); rintro e w5 ⟨rfl, ⟨nd, rfl⟩⟩)
    try go_wp2_with fail
    clear hHeld
    refine hK.out _ _ (by go_keep) (fun hHeld => ?_)
    clear hK K
    try simp only [Act.put, List.getElem_toArray, List.getElem_cons_succ, List.getElem_cons_zero, List.setIfInBounds_toArray, List.set_cons_zero, List.set_cons_succ]
    refine wpAnyH_ready (rs := [12, 19]) (by kernel_rfl) (by simp) ?_
    refine AllReadyH.cons rfl (fun K hK => ?_) (AllReadyH.cons rfl (fun K hK => ?_) AllReadyH.nil)
    · go_simp
      clear hHeld
      refine hK.out _ _ (by go_keep) (fun hHeld => ?_)
      clear hK K
      try simp only [Act.put, List.getElem_toArray, List.getElem_cons_succ, List.getElem_cons_zero, List.setIfInBounds_toArray, List.set_cons_zero, List.set_cons_succ]
      refine wpAnyH_ready (rs := [19]) (by kernel_rfl) (by simp) ?_
      refine AllReadyH.cons rfl (fun K hK => ?_) AllReadyH.nil
      go_simp
      clear hHeld
      refine hK.out _ _ (by go_keep) (fun hHeld => ?_)
      clear hK K
      try simp only [Act.put, List.getElem_toArray, List.getElem_cons_succ, List.getElem_cons_zero, List.setIfInBounds_toArray, List.set_cons_zero, List.set_cons_succ]
      refine wpAnyH_ready (rs := [20]) (by kernel_rfl) (by simp) ?_
      refine AllReadyH.cons rfl (fun K hK => ?_) AllReadyH.nil
      go_simp
      (go_at_call 84; (with_reducible refine (num_Alu.calls 2 _ _ _ _ _ _ H2.out).mono ?_); rintro e w5 ⟨rfl, ⟨nd, rfl⟩⟩)
      try go_wp2_with fail
      clear hHeld
      refine hK.out _ _ (by go_keep) (fun hHeld => ?_)
      clear hK K
      try simp only [Act.put, List.getElem_toArray, List.getElem_cons_succ, List.getElem_cons_zero, List.setIfInBounds_toArray, List.set_cons_zero, List.set_cons_succ]
      refine wpAnyH_take (i := 21) (v := ?_) rfl (by kernel_rfl) (by kernel_rfl) (by kernel_rfl) (fun _ _ _ h => h) (Or.inl ⟨by rfl, ?_⟩) (by assumption) ?_
      rotate_left
      · (intro w hSw; (try dsimp only at hSw); go_simp; (try with_reducible rfl))
      try simp only [Act.put, List.getElem_toArray, List.getElem_cons_succ, List.getElem_cons_zero, List.setIfInBounds_toArray, List.set_cons_zero, List.set_cons_succ]
      refine wpAnyH_take (i := 22) (v := ?_) rfl (by kernel_rfl) (by kernel_rfl) (by kernel_rfl) (fun _ _ _ h => h) (Or.inl ⟨by rfl, ?_⟩) (by assumption) ?_
      rotate_left
      · (intro w hSw; (try dsimp only at hSw); go_simp; (try with_reducible rfl))
      try simp only [Act.put, List.getElem_toArray, List.getElem_cons_succ, List.getElem_cons_zero, List.setIfInBounds_toArray, List.set_cons_zero, List.set_cons_succ]
      refine wpAnyH_take (i := 23) (v := ?_) rfl (by kernel_rfl) (by kernel_rfl) (by kernel_rfl) (fun _ _ _ h => h) (Or.inl ⟨by rfl, ?_⟩) (by assumption) ?_
      rotate_left
      · (intro w hSw; (try dsimp only at hSw); go_simp; (try with_reducible rfl))
      try simp only [Act.put, List.getElem_toArray, List.getElem_cons_succ, List.getElem_cons_zero, List.setIfInBounds_toArray, List.set_cons_zero, List.set_cons_succ]
      refine wpAnyH_take (i := 26) (v := ?_) rfl (by kernel_rfl) (by kernel_rfl) (by kernel_rfl) (fun _ _ _ h => h) (Or.inl ⟨by rfl, ?_⟩) (by assumption) ?_
      rotate_left
      · (intro w hSw; (try dsimp only at hSw); go_simp; (try with_reducible rfl))
      try simp only [Act.put, List.getElem_toArray, List.getElem_cons_succ, List.getElem_cons_zero, List.setIfInBounds_toArray, List.set_cons_zero, List.set_cons_succ]
      refine wpAnyH_ready (rs := [27]) (by kernel_rfl) (by simp) ?_
      refine AllReadyH.cons rfl (fun K hK => ?_) AllReadyH.nil
      go_simp
      clear hHeld
      refine hK.out _ _ (by go_keep) (fun hHeld => ?_)
      clear hK K
      try simp only [Act.put, List.getElem_toArray, List.getElem_cons_succ, List.getElem_cons_zero, List.setIfInBounds_toArray, List.set_cons_zero, List.set_cons_succ]
      refine wpAnyH_done (by kernel_rfl) ?_ _
      clear hHeld
      go_wp2
      go_end0
      exact ⟨rfl, by first | exact RnAt.setV (RnAt.drewN (RnAt.alloc HR.out _) _) d hd _ | exact RnAt.setV (RnAt.drew (RnAt.alloc HR.out _)) d hd _ | exact RnAt.drewN (RnAt.alloc (RnAt.setV HR.out d hd _) _) _ | exact RnAt.drew (RnAt.alloc (RnAt.setV HR.out d hd _) _), by repeat (first | exact Keep.refl _ _ | apply Keep.drew | apply Keep.drewN | apply Keep.alloc | apply Keep.setG)⟩
    · go_simp
      clear hHeld
      refine hK.out _ _ (by go_keep) (fun hHeld => ?_)
      clear hK K
      try simp only [Act.put, List.getElem_toArray, List.getElem_cons_succ, List.getElem_cons_zero, List.setIfInBounds_toArray, List.set_cons_zero, List.set_cons_succ]
      refine wpAnyH_ready (rs := [12]) (by kernel_rfl) (by simp) ?_
      refine AllReadyH.cons rfl (fun K hK => ?_) AllReadyH.nil
      go_simp
      clear hHeld
      refine hK.out _ _ (by go_keep) (fun hHeld => ?_)
      clear hK K
      try simp only [Act.put, List.getElem_toArray, List.getElem_cons_succ, List.getElem_cons_zero, List.setIfInBounds_toArray, List.set_cons_zero, List.set_cons_succ]
      refine wpAnyH_ready (rs := [20]) (by kernel_rfl) (by simp) ?_
      refine AllReadyH.cons rfl (fun K hK => ?_) AllReadyH.nil
      go_simp
      (go_at_call 84; (with_reducible refine (num_Alu.calls 2 _ _ _ _ _ _ H2.out).mono ?_); rintro e w5 ⟨rfl, ⟨nd, rfl⟩⟩)
      try go_wp2_with fail
      clear hHeld
      refine hK.out _ _ (by go_keep) (fun hHeld => ?_)
      clear hK K
      try simp only [Act.put, List.getElem_toArray, List.getElem_cons_succ, List.getElem_cons_zero, List.setIfInBounds_toArray, List.set_cons_zero, List.set_cons_succ]
      refine wpAnyH_take (i := 21) (v := ?_) rfl (by kernel_rfl) (by kernel_rfl) (by kernel_rfl) (fun _ _ _ h => h) (Or.inl ⟨by rfl, ?_⟩) (by assumption) ?_
      rotate_left
      · (intro w hSw; (try dsimp only at hSw); go_simp; (try with_reducible rfl))
      try simp only [Act.put, List.getElem_toArray, List.getElem_cons_succ, List.getElem_cons_zero, List.setIfInBounds_toArray, List.set_cons_zero, List.set_cons_succ]
      refine wpAnyH_take (i := 22) (v := ?_) rfl (by kernel_rfl) (by kernel_rfl) (by kernel_rfl) (fun _ _ _ h => h) (Or.inl ⟨by rfl, ?_⟩) (by assumption) ?_
      rotate_left
      · (intro w hSw; (try dsimp only at hSw); go_simp; (try with_reducible rfl))
      try simp only [Act.put, List.getElem_toArray, List.getElem_cons_succ, List.getElem_cons_zero, List.setIfInBounds_toArray, List.set_cons_zero, List.set_cons_succ]
      refine wpAnyH_take (i := 23) (v := ?_) rfl (by kernel_rfl) (by kernel_rfl) (by kernel_rfl) (fun _ _ _ h => h) (Or.inl ⟨by rfl, ?_⟩) (by assumption) ?_
      rotate_left
      · (intro w hSw; (try dsimp only at hSw); go_simp; (try with_reducible rfl))
      try simp only [Act.put, List.getElem_toArray, List.getElem_cons_succ, List.getElem_cons_zero, List.setIfInBounds_toArray, List.set_cons_zero, List.set_cons_succ]
      refine wpAnyH_take (i := 26) (v := ?_) rfl (by kernel_rfl) (by kernel_rfl) (by kernel_rfl) (fun _ _ _ h => h) (Or.inl ⟨by rfl, ?_⟩) (by assumption) ?_
      rotate_left
      · (intro w hSw; (try dsimp only at hSw); go_simp; (try with_reducible rfl))
      try simp only [Act.put, List.getElem_toArray, List.getElem_cons_succ, List.getElem_cons_zero, List.setIfInBounds_toArray, List.set_cons_zero, List.set_cons_succ]
      refine wpAnyH_ready (rs := [27]) (by kernel_rfl) (by simp) ?_
      refine AllReadyH.cons rfl (fun K hK => ?_) AllReadyH.nil
      go_simp
      clear hHeld
      refine hK.out _ _ (by go_keep) (fun hHeld => ?_)
      clear hK K
      try simp only [Act.put, List.getElem_toArray, List.getElem_cons_succ, List.getElem_cons_zero, List.setIfInBounds_toArray, List.set_cons_zero, List.set_cons_succ]
      refine wpAnyH_done (by kernel_rfl) ?_ _
      clear hHeld
      go_wp2
      go_end0
      exact ⟨rfl, by first | exact RnAt.setV (RnAt.drewN (RnAt.alloc HR.out _) _) d hd _ | exact RnAt.setV (RnAt.drew (RnAt.alloc HR.out _)) d hd _ | exact RnAt.drewN (RnAt.alloc (RnAt.setV HR.out d hd _) _) _ | exact RnAt.drew (RnAt.alloc (RnAt.setV HR.out d hd _) _), by repeat (first | exact Keep.refl _ _ | apply Keep.drew | apply Keep.drewN | apply Keep.alloc | apply Keep.setG)⟩
  · go_simp
    clear hHeld
    refine hK.out _ _ (by go_keep) (fun hHeld => ?_)
    clear hK K
    try simp only [Act.put, List.getElem_toArray, List.getElem_cons_succ, List.getElem_cons_zero, List.setIfInBounds_toArray, List.set_cons_zero, List.set_cons_succ]
    refine wpAnyH_ready (rs := [5, 19]) (by kernel_rfl) (by simp) ?_
    refine AllReadyH.cons rfl (fun K hK => ?_) (AllReadyH.cons rfl (fun K hK => ?_) AllReadyH.nil)
    · go_simp
      (go_at_call 85; (with_reducible refine (lirrun_alu.calls 1 _ _ _ H1.out).mono ?_); rintro e w5 ⟨rfl, ⟨nd, rfl⟩⟩)
      try go_wp2_with fail
      clear hHeld
      refine hK.out _ _ (by go_keep) (fun hHeld => ?_)
      clear hK K
      try simp only [Act.put, List.getElem_toArray, List.getElem_cons_succ, List.getElem_cons_zero, List.setIfInBounds_toArray, List.set_cons_zero, List.set_cons_succ]
      refine wpAnyH_ready (rs := [19]) (by kernel_rfl) (by simp) ?_
      refine AllReadyH.cons rfl (fun K hK => ?_) AllReadyH.nil
      go_simp
      clear hHeld
      refine hK.out _ _ (by go_keep) (fun hHeld => ?_)
      clear hK K
      try simp only [Act.put, List.getElem_toArray, List.getElem_cons_succ, List.getElem_cons_zero, List.setIfInBounds_toArray, List.set_cons_zero, List.set_cons_succ]
      refine wpAnyH_ready (rs := [20]) (by kernel_rfl) (by simp) ?_
      refine AllReadyH.cons rfl (fun K hK => ?_) AllReadyH.nil
      go_simp
      (go_at_call 84; (with_reducible refine (num_Alu.calls 2 _ _ _ _ _ _ H2.out).mono ?_); rintro e w5 ⟨rfl, ⟨nd, rfl⟩⟩)
      try go_wp2_with fail
      clear hHeld
      refine hK.out _ _ (by go_keep) (fun hHeld => ?_)
      clear hK K
      try simp only [Act.put, List.getElem_toArray, List.getElem_cons_succ, List.getElem_cons_zero, List.setIfInBounds_toArray, List.set_cons_zero, List.set_cons_succ]
      refine wpAnyH_take (i := 21) (v := ?_) rfl (by kernel_rfl) (by kernel_rfl) (by kernel_rfl) (fun _ _ _ h => h) (Or.inl ⟨by rfl, ?_⟩) (by assumption) ?_
      rotate_left
      · (intro w hSw; (try dsimp only at hSw); go_simp; (try with_reducible rfl))
      try simp only [Act.put, List.getElem_toArray, List.getElem_cons_succ, List.getElem_cons_zero, List.setIfInBounds_toArray, List.set_cons_zero, List.set_cons_succ]
      refine wpAnyH_take (i := 22) (v := ?_) rfl (by kernel_rfl) (by kernel_rfl) (by kernel_rfl) (fun _ _ _ h => h) (Or.inl ⟨by rfl, ?_⟩) (by assumption) ?_
      rotate_left
      · (intro w hSw; (try dsimp only at hSw); go_simp; (try with_reducible rfl))
      try simp only [Act.put, List.getElem_toArray, List.getElem_cons_succ, List.getElem_cons_zero, List.setIfInBounds_toArray, List.set_cons_zero, List.set_cons_succ]
      refine wpAnyH_take (i := 23) (v := ?_) rfl (by kernel_rfl) (by kernel_rfl) (by kernel_rfl) (fun _ _ _ h => h) (Or.inl ⟨by rfl, ?_⟩) (by assumption) ?_
      rotate_left
      · (intro w hSw; (try dsimp only at hSw); go_simp; (try with_reducible rfl))
      try simp only [Act.put, List.getElem_toArray, List.getElem_cons_succ, List.getElem_cons_zero, List.setIfInBounds_toArray, List.set_cons_zero, List.set_cons_succ]
      refine wpAnyH_take (i := 26) (v := ?_) rfl (by kernel_rfl) (by kernel_rfl) (by kernel_rfl) (fun _ _ _ h => h) (Or.inl ⟨by rfl, ?_⟩) (by assumption) ?_
      rotate_left
      · (intro w hSw; (try dsimp only at hSw); go_simp; (try with_reducible rfl))
      try simp only [Act.put, List.getElem_toArray, List.getElem_cons_succ, List.getElem_cons_zero, List.setIfInBounds_toArray, List.set_cons_zero, List.set_cons_succ]
      refine wpAnyH_ready (rs := [27]) (by kernel_rfl) (by simp) ?_
      refine AllReadyH.cons rfl (fun K hK => ?_) AllReadyH.nil
      go_simp
      clear hHeld
      refine hK.out _ _ (by go_keep) (fun hHeld => ?_)
      clear hK K
      try simp only [Act.put, List.getElem_toArray, List.getElem_cons_succ, List.getElem_cons_zero, List.setIfInBounds_toArray, List.set_cons_zero, List.set_cons_succ]
      refine wpAnyH_done (by kernel_rfl) ?_ _
      clear hHeld
      go_wp2
      go_end0
      exact ⟨rfl, by first | exact RnAt.setV (RnAt.drewN (RnAt.alloc HR.out _) _) d hd _ | exact RnAt.setV (RnAt.drew (RnAt.alloc HR.out _)) d hd _ | exact RnAt.drewN (RnAt.alloc (RnAt.setV HR.out d hd _) _) _ | exact RnAt.drew (RnAt.alloc (RnAt.setV HR.out d hd _) _), by repeat (first | exact Keep.refl _ _ | apply Keep.drew | apply Keep.drewN | apply Keep.alloc | apply Keep.setG)⟩
    · go_simp
      clear hHeld
      refine hK.out _ _ (by go_keep) (fun hHeld => ?_)
      clear hK K
      try simp only [Act.put, List.getElem_toArray, List.getElem_cons_succ, List.getElem_cons_zero, List.setIfInBounds_toArray, List.set_cons_zero, List.set_cons_succ]
      refine wpAnyH_ready (rs := [5]) (by kernel_rfl) (by simp) ?_
      refine AllReadyH.cons rfl (fun K hK => ?_) AllReadyH.nil
      go_simp
      (go_at_call 85; (with_reducible refine (lirrun_alu.calls 1 _ _ _ H1.out).mono ?_); rintro e w5 ⟨rfl, ⟨nd, rfl⟩⟩)
      try go_wp2_with fail
      clear hHeld
      refine hK.out _ _ (by go_keep) (fun hHeld => ?_)
      clear hK K
      try simp only [Act.put, List.getElem_toArray, List.getElem_cons_succ, List.getElem_cons_zero, List.setIfInBounds_toArray, List.set_cons_zero, List.set_cons_succ]
      refine wpAnyH_ready (rs := [20]) (by kernel_rfl) (by simp) ?_
      refine AllReadyH.cons rfl (fun K hK => ?_) AllReadyH.nil
      go_simp
      (go_at_call 84; (with_reducible refine (num_Alu.calls 2 _ _ _ _ _ _ H2.out).mono ?_); rintro e w5 ⟨rfl, ⟨nd, rfl⟩⟩)
      try go_wp2_with fail
      clear hHeld
      refine hK.out _ _ (by go_keep) (fun hHeld => ?_)
      clear hK K
      try simp only [Act.put, List.getElem_toArray, List.getElem_cons_succ, List.getElem_cons_zero, List.setIfInBounds_toArray, List.set_cons_zero, List.set_cons_succ]
      refine wpAnyH_take (i := 21) (v := ?_) rfl (by kernel_rfl) (by kernel_rfl) (by kernel_rfl) (fun _ _ _ h => h) (Or.inl ⟨by rfl, ?_⟩) (by assumption) ?_
      rotate_left
      · (intro w hSw; (try dsimp only at hSw); go_simp; (try with_reducible rfl))
      try simp only [Act.put, List.getElem_toArray, List.getElem_cons_succ, List.getElem_cons_zero, List.setIfInBounds_toArray, List.set_cons_zero, List.set_cons_succ]
      refine wpAnyH_take (i := 22) (v := ?_) rfl (by kernel_rfl) (by kernel_rfl) (by kernel_rfl) (fun _ _ _ h => h) (Or.inl ⟨by rfl, ?_⟩) (by assumption) ?_
      rotate_left
      · (intro w hSw; (try dsimp only at hSw); go_simp; (try with_reducible rfl))
      try simp only [Act.put, List.getElem_toArray, List.getElem_cons_succ, List.getElem_cons_zero, List.setIfInBounds_toArray, List.set_cons_zero, List.set_cons_succ]
      refine wpAnyH_take (i := 23) (v := ?_) rfl (by kernel_rfl) (by kernel_rfl) (by kernel_rfl) (fun _ _ _ h => h) (Or.inl ⟨by rfl, ?_⟩) (by assumption) ?_
      rotate_left
      · (intro w hSw; (try dsimp only at hSw); go_simp; (try with_reducible rfl))
      try simp only [Act.put, List.getElem_toArray, List.getElem_cons_succ, List.getElem_cons_zero, List.setIfInBounds_toArray, List.set_cons_zero, List.set_cons_succ]
      refine wpAnyH_take (i := 26) (v := ?_) rfl (by kernel_rfl) (by kernel_rfl) (by kernel_rfl) (fun _ _ _ h => h) (Or.inl ⟨by rfl, ?_⟩) (by assumption) ?_
      rotate_left
      · (intro w hSw; (try dsimp only at hSw); go_simp; (try with_reducible rfl))
      try simp only [Act.put, List.getElem_toArray, List.getElem_cons_succ, List.getElem_cons_zero, List.setIfInBounds_toArray, List.set_cons_zero, List.set_cons_succ]
      refine wpAnyH_ready (rs := [27]) (by kernel_rfl) (by simp) ?_
      refine AllReadyH.cons rfl (fun K hK => ?_) AllReadyH.nil
      go_simp
      clear hHeld
      refine hK.out _ _ (by go_keep) (fun hHeld => ?_)
      clear hK K
      try simp only [Act.put, List.getElem_toArray, List.getElem_cons_succ, List.getElem_cons_zero, List.setIfInBounds_toArray, List.set_cons_zero, List.set_cons_succ]
      refine wpAnyH_done (by kernel_rfl) ?_ _
      clear hHeld
      go_wp2
      go_end0
      exact ⟨rfl, by first | exact RnAt.setV (RnAt.drewN (RnAt.alloc HR.out _) _) d hd _ | exact RnAt.setV (RnAt.drew (RnAt.alloc HR.out _)) d hd _ | exact RnAt.drewN (RnAt.alloc (RnAt.setV HR.out d hd _) _) _ | exact RnAt.drew (RnAt.alloc (RnAt.setV HR.out d hd _) _), by repeat (first | exact Keep.refl _ _ | apply Keep.drew | apply Keep.drewN | apply Keep.alloc | apply Keep.setG)⟩
  · go_simp
    clear hHeld
    refine hK.out _ _ (by go_keep) (fun hHeld => ?_)
    clear hK K
    try simp only [Act.put, List.getElem_toArray, List.getElem_cons_succ, List.getElem_cons_zero, List.setIfInBounds_toArray, List.set_cons_zero, List.set_cons_succ]
    refine wpAnyH_ready (rs := [5, 12]) (by kernel_rfl) (by simp) ?_
    refine AllReadyH.cons rfl (fun K hK => ?_) (AllReadyH.cons rfl (fun K hK => ?_) AllReadyH.nil)
    · go_simp
      (go_at_call 85; (with_reducible refine (lirrun_alu.calls 1 _ _ _ H1.out).mono ?_); rintro e w5 ⟨rfl, ⟨nd, rfl⟩⟩)
      try go_wp2_with fail
      clear hHeld
      refine hK.out _ _ (by go_keep) (fun hHeld => ?_)
      clear hK K
      try simp only [Act.put, List.getElem_toArray, List.getElem_cons_succ, List.getElem_cons_zero, List.setIfInBounds_toArray, List.set_cons_zero, List.set_cons_succ]
      refine wpAnyH_ready (rs := [12]) (by kernel_rfl) (by simp) ?_
      refine AllReadyH.cons rfl (fun K hK => ?_) AllReadyH.nil
      go_simp
      clear hHeld
      refine hK.out _ _ (by go_keep) (fun hHeld => ?_)
      clear hK K
      try simp only [Act.put, List.getElem_toArray, List.getElem_cons_succ, List.getElem_cons_zero, List.setIfInBounds_toArray, List.set_cons_zero, List.set_cons_succ]
      refine wpAnyH_ready (rs := [20]) (by kernel_rfl) (by simp) ?_
      refine AllReadyH.cons rfl (fun K hK => ?_) AllReadyH.nil
      go_simp
      (go_at_call 84; (with_reducible refine (num_Alu.calls 2 _ _ _ _ _ _ H2.out).mono ?_); rintro e w5 ⟨rfl, ⟨nd, rfl⟩⟩)
      try go_wp2_with fail
      clear hHeld
      refine hK.out _ _ (by go_keep) (fun hHeld => ?_)
      clear hK K
      try simp only [Act.put, List.getElem_toArray, List.getElem_cons_succ, List.getElem_cons_zero, List.setIfInBounds_toArray, List.set_cons_zero, List.set_cons_succ]
      refine wpAnyH_take (i := 21) (v := ?_) rfl (by kernel_rfl) (by kernel_rfl) (by kernel_rfl) (fun _ _ _ h => h) (Or.inl ⟨by rfl, ?_⟩) (by assumption) ?_
      rotate_left
      · (intro w hSw; (try dsimp only at hSw); go_simp; (try with_reducible rfl))
      try simp only [Act.put, List.getElem_toArray, List.getElem_cons_succ, List.getElem_cons_zero, List.setIfInBounds_toArray, List.set_cons_zero, List.set_cons_succ]
      refine wpAnyH_take (i := 22) (v := ?_) rfl (by kernel_rfl) (by kernel_rfl) (by kernel_rfl) (fun _ _ _ h => h) (Or.inl ⟨by rfl, ?_⟩) (by assumption) ?_
      rotate_left
      · (intro w hSw; (try dsimp only at hSw); go_simp; (try with_reducible rfl))
      try simp only [Act.put, List.getElem_toArray, List.getElem_cons_succ, List.getElem_cons_zero, List.setIfInBounds_toArray, List.set_cons_zero, List.set_cons_succ]
      refine wpAnyH_take (i := 23) (v := ?_) rfl (by kernel_rfl) (by kernel_rfl) (by kernel_rfl) (fun _ _ _ h => h) (Or.inl ⟨by rfl, ?_⟩) (by assumption) ?_
      rotate_left
      · (intro w hSw; (try dsimp only at hSw); go_simp; (try with_reducible rfl))
      try simp only [Act.put, List.getElem_toArray, List.getElem_cons_succ, List.getElem_cons_zero, List.setIfInBounds_toArray, List.set_cons_zero, List.set_cons_succ]
      refine wpAnyH_take (i := 26) (v := ?_) rfl (by kernel_rfl) (by kernel_rfl) (by kernel_rfl) (fun _ _ _ h => h) (Or.inl ⟨by rfl, ?_⟩) (by assumption) ?_
      rotate_left
      · (intro w hSw; (try dsimp only at hSw); go_simp; (try with_reducible rfl))
      try simp only [Act.put, List.getElem_toArray, List.getElem_cons_succ, List.getElem_cons_zero, List.setIfInBounds_toArray, List.set_cons_zero, List.set_cons_succ]
      refine wpAnyH_ready (rs := [27]) (by kernel_rfl) (by simp) ?_
      refine AllReadyH.cons rfl (fun K hK => ?_) AllReadyH.nil
      go_simp
      clear hHeld
      refine hK.out _ _ (by go_keep) (fun hHeld => ?_)
      clear hK K
      try simp only [Act.put, List.getElem_toArray, List.getElem_cons_succ, List.getElem_cons_zero, List.setIfInBounds_toArray, List.set_cons_zero, List.set_cons_succ]
      refine wpAnyH_done (by kernel_rfl) ?_ _
      clear hHeld
      go_wp2
      go_end0
      exact ⟨rfl, by first | exact RnAt.setV (RnAt.drewN (RnAt.alloc HR.out _) _) d hd _ | exact RnAt.setV (RnAt.drew (RnAt.alloc HR.out _)) d hd _ | exact RnAt.drewN (RnAt.alloc (RnAt.setV HR.out d hd _) _) _ | exact RnAt.drew (RnAt.alloc (RnAt.setV HR.out d hd _) _), by repeat (first | exact Keep.refl _ _ | apply Keep.drew | apply Keep.drewN | apply Keep.alloc | apply Keep.setG)⟩
    · go_simp
      clear hHeld
      refine hK.out _ _ (by go_keep) (fun hHeld => ?_)
      clear hK K
      try simp only [Act.put, List.getElem_toArray, List.getElem_cons_succ, List.getElem_cons_zero, List.setIfInBounds_toArray, List.set_cons_zero, List.set_cons_succ]
      refine wpAnyH_ready (rs := [5]) (by kernel_rfl) (by simp) ?_
      refine AllReadyH.cons rfl (fun K hK => ?_) AllReadyH.nil
      go_simp
      (go_at_call 85; (with_reducible refine (lirrun_alu.calls 1 _ _ _ H1.out).mono ?_); rintro e w5 ⟨rfl, ⟨nd, rfl⟩⟩)
      try go_wp2_with fail
      clear hHeld
      refine hK.out _ _ (by go_keep) (fun hHeld => ?_)
      clear hK K
      try simp only [Act.put, List.getElem_toArray, List.getElem_cons_succ, List.getElem_cons_zero, List.setIfInBounds_toArray, List.set_cons_zero, List.set_cons_succ]
      refine wpAnyH_ready (rs := [20]) (by kernel_rfl) (by simp) ?_
      refine AllReadyH.cons rfl (fun K hK => ?_) AllReadyH.nil
      go_simp
      (go_at_call 84; (with_reducible refine (num_Alu.calls 2 _ _ _ _ _ _ H2.out).mono ?_); rintro e w5 ⟨rfl, ⟨nd, rfl⟩⟩)
      try go_wp2_with fail
      clear hHeld
      refine hK.out _ _ (by go_keep) (fun hHeld => ?_)
      clear hK K
      try simp only [Act.put, List.getElem_toArray, List.getElem_cons_succ, List.getElem_cons_zero, List.setIfInBounds_toArray, List.set_cons_zero, List.set_cons_succ]
      refine wpAnyH_take (i := 21) (v := ?_) rfl (by kernel_rfl) (by kernel_rfl) (by kernel_rfl) (fun _ _ _ h => h) (Or.inl ⟨by rfl, ?_⟩) (by assumption) ?_
      rotate_left
      · (intro w hSw; (try dsimp only at hSw); go_simp; (try with_reducible rfl))
      try simp only [Act.put, List.getElem_toArray, List.getElem_cons_succ, List.getElem_cons_zero, List.setIfInBounds_toArray, List.set_cons_zero, List.set_cons_succ]
      refine wpAnyH_take (i := 22) (v := ?_) rfl (by kernel_rfl) (by kernel_rfl) (by kernel_rfl) (fun _ _ _ h => h) (Or.inl ⟨by rfl, ?_⟩) (by assumption) ?_
      rotate_left
      · (intro w hSw; (try dsimp only at hSw); go_simp; (try with_reducible rfl))
      try simp only [Act.put, List.getElem_toArray, List.getElem_cons_succ, List.getElem_cons_zero, List.setIfInBounds_toArray, List.set_cons_zero, List.set_cons_succ]
      refine wpAnyH_take (i := 23) (v := ?_) rfl (by kernel_rfl) (by kernel_rfl) (by kernel_rfl) (fun _ _ _ h => h) (Or.inl ⟨by rfl, ?_⟩) (by assumption) ?_
      rotate_left
      · (intro w hSw; (try dsimp only at hSw); go_simp; (try with_reducible rfl))
      try simp only [Act.put, List.getElem_toArray, List.getElem_cons_succ, List.getElem_cons_zero, List.setIfInBounds_toArray, List.set_cons_zero, List.set_cons_succ]
      refine wpAnyH_take (i := 26) (v := ?_) rfl (by kernel_rfl) (by kernel_rfl) (by kernel_rfl) (fun _ _ _ h => h) (Or.inl ⟨by rfl, ?_⟩) (by assumption) ?_
      rotate_left
      · (intro w hSw; (try dsimp only at hSw); go_simp; (try with_reducible rfl))
      try simp only [Act.put, List.getElem_toArray, List.getElem_cons_succ, List.getElem_cons_zero, List.setIfInBounds_toArray, List.set_cons_zero, List.set_cons_succ]
      refine wpAnyH_ready (rs := [27]) (by kernel_rfl) (by simp) ?_
      refine AllReadyH.cons rfl (fun K hK => ?_) AllReadyH.nil
      go_simp
      clear hHeld
      refine hK.out _ _ (by go_keep) (fun hHeld => ?_)
      clear hK K
      try simp only [Act.put, List.getElem_toArray, List.getElem_cons_succ, List.getElem_cons_zero, List.setIfInBounds_toArray, List.set_cons_zero, List.set_cons_succ]
      refine wpAnyH_done (by kernel_rfl) ?_ _
      clear hHeld
      go_wp2
      go_end0
      exact ⟨rfl, by first | exact RnAt.setV (RnAt.drewN (RnAt.alloc HR.out _) _) d hd _ | exact RnAt.setV (RnAt.drew (RnAt.alloc HR.out _)) d hd _ | exact RnAt.drewN (RnAt.alloc (RnAt.setV HR.out d hd _) _) _ | exact RnAt.drew (RnAt.alloc (RnAt.setV HR.out d hd _) _), by repeat (first | exact Keep.refl _ _ | apply Keep.drew | apply Keep.drewN | apply Keep.alloc | apply Keep.setG)⟩
end Go.Proofs.Ytpeljnnbknnbmaa.PD
end
section
section
section
section
namespace Go.Proofs.Ytpeljnnbknnbmaa.PD
open Go.RowKit Go.Proofs.YtpeljnnbknnbmaaW.PrintWords Go.Proofs.YtpeljnnbknnbmaaW.PrintLast Go.Proofs.YtpeljnnbknnbmaaW.PrintMore
set_option linter.unusedVariables false
set_option linter.unusedSimpArgs false
theorem RnAt.v_nat {w : World} {g : Nat} {lv ev mv : Value} {at_ : Int} {V : List Int} (h : RnAt w g lv ev mv at_ V) (d : Nat) (x : Int) (hd : d < 64) : (w.setCell ⟨g, 4 + d, none⟩ (.int .u32 x)).cell? ⟨g, 4 + d, none⟩ = some (.int .u32 x) := by
  have := (h.setV d hd x).gv d hd
  have hl : d < V.length := by obtain ⟨C, _, r⟩ := h; have := r.len; omega
  rw [rd_set V d x d hl, if_pos rfl] at this
  exact this
set_option maxRecDepth 100000 in
set_option maxHeartbeats 4000000 in
/-- the end of a loop: the count goes down; while it is not 0 the runner stands at the loop's head -/
theorem plain_end (w : World) (g : Nat) (la ea : Addr) (ln lc en ec : Nat) (mv : Value) (k from_ d : Nat) (V : List Int) (h : RnAt w g (.slice (some la) ln lc) (.slice (some ea) en ec) mv k V) (hk : k < en) (hf : from_ < ln) (hd : d < 64)
    (he : w.cell? (ea.add k) = some (.int .i64 from_)) (hD : w.cell? ⟨(la.add (from_ * 5)).block, (la.add (from_ * 5)).off + 1, none⟩ = some (.int .i64 d))
    (hlg : (la.add (from_ * 5)).block ≠ g) (hla : (la.add (from_ * 5)).block < w.heap.size) (hea : (ea.add k).block < w.heap.size)
    (D A B imm : Int) :
    Calls Try.prog 60 #[.pointer (some ⟨g, 0, none⟩), .agg #[.int .i64 24, .int .i64 D, .int .i64 A, .int .i64 B, .int .i32 imm]] w (PlainTold w g (.slice (some la) ln lc) (.slice (some ea) en ec) mv (if (rd V d - 1) % 4294967296 = 0 then (k : Int) else from_) (V.set d ((rd V d - 1) % 4294967296))) := by
  have h0 := h.gl
  have h1 := h.ge
  have h3 := h.ga
  have h4 := h.gv d hd
  have hfz := h.frozen (4 + d)
  have hf3 := h.frozen 3
  have hlt := h.lt
  have hki : (k : Int) < en := by omega
  have hfi : (from_ : Int) < ln := by omega
  have hdi : (d : Int) < 64 := by omega
  have hne : ¬ (g = w.heap.size) := by omega
  have hne2 : ¬ (w.heap.size = g) := by omega
  have hne3 : ¬ ((ea.add k).block = w.heap.size) := by omega
  have hne4 : ¬ ((la.add (from_ * 5)).block = w.heap.size) := by omega
  have HR := Aside0.mk h
  obtain ⟨x, hx⟩ : ∃ x, x = (rd V d - 1) % 4294967296 := ⟨_, rfl⟩
  rw [← hx]
  have hst := HR.out.v_nat d x hd
  obtain ⟨r, hr⟩ : ∃ r, r = (if x = 0 then (k : Int) else from_) := ⟨_, rfl⟩
  rw [← hr]
  have HRR := Aside0.mk hr
  clear h hr
  go_enter Try.func60, Try.ntmps60
  go_wp2
  go_region
  go_wp2
  go_region
  go_wp2
  · rename_i hz
    rw [← hx] at hz
    have hz' : ¬ (x = 0) := by simpa using hz
    have hr : r = from_ := by rw [HRR.out, if_neg hz']
    rw [hr]
    rw [← hx]
    go_end0
    exact ⟨rfl, by repeat (first | exact RnAt.setA (RnAt.setV HR.out d hd _) _ | apply RnAt.drew | apply RnAt.drewN | apply RnAt.alloc), by repeat (first | exact Keep.refl _ _ | apply Keep.drew | apply Keep.drewN | apply Keep.alloc | apply Keep.setG)⟩
  · rename_i hz
    rw [← hx] at hz
    have hz' : x = 0 := by simpa using hz
    have hr : r = k := by rw [HRR.out, if_pos hz']
    rw [hr]
    rw [← hx]
    go_end0
    exact ⟨rfl, by repeat (first | exact RnAt.setV HR.out d hd _ | apply RnAt.drew | apply RnAt.drewN | apply RnAt.alloc), by repeat (first | exact Keep.refl _ _ | apply Keep.drew | apply Keep.drewN | apply Keep.alloc | apply Keep.setG)⟩
end Go.Proofs.Ytpeljnnbknnbmaa.PD
end
section
namespace Go.Proofs.Ytpeljnnbknnbmaa.PD
open Go.RowKit Go.Proofs.YtpeljnnbknnbmaaW.PrintWords Go.Proofs.YtpeljnnbknnbmaaW.PrintLast Go.Proofs.YtpeljnnbknnbmaaW.PrintMore
set_option linter.unusedVariables false
set_option linter.unusedSimpArgs false
/-- what a step without memory, that is no end of a loop, does to the variables -/
def pV (x : S49) (V : List Int) : List Int :=
  if x.f0 = 1 ∨ x.f0 = 23 then V.set x.f1.toNat (x.f4 % 4294967296)
  else if x.f0 = 2 then V.set x.f1.toNat (rd V x.f2)
  else V.set x.f1.toNat (docAlu (rd opsT x.f0) (rd V x.f2) (if 13 ≤ x.f0 then x.f4 % 4294967296 else rd V x.f3))
structure POk (x : S49) : Prop where
  o : (1 ≤ x.f0 ∧ x.f0 ≤ 16) ∨ x.f0 = 23
  d : 0 ≤ x.f1 ∧ x.f1 < 64
  a : 0 ≤ x.f2 ∧ x.f2 < 64
  b : 0 ≤ x.f3 ∧ x.f3 < 64
theorem plain_some (w : World) (g : Nat) (lv ev mv : Value) (at_ : Int) (V : List Int) (h : RnAt w g lv ev mv at_ V) (hu : ∀ x ∈ V, U32 x) (hl : V.length = 64) (x : S49) (hx : POk x) :
    Calls Try.prog 60 #[.pointer (some ⟨g, 0, none⟩), .agg #[.int .i64 x.f0, .int .i64 x.f1, .int .i64 x.f2, .int .i64 x.f3, .int .i32 x.f4]] w (PlainTold w g lv ev mv at_ (pV x V)) := by
  obtain ⟨ho, hd, ha, hb⟩ := hx
  obtain ⟨o, d, a, b, i⟩ := x
  simp only at ho hd ha hb ⊢
  obtain ⟨o, rfl⟩ : ∃ n : Nat, o = n := ⟨o.toNat, by omega⟩
  obtain ⟨d, rfl⟩ : ∃ n : Nat, d = n := ⟨d.toNat, by omega⟩
  obtain ⟨a, rfl⟩ : ∃ n : Nat, a = n := ⟨a.toNat, by omega⟩
  obtain ⟨b, rfl⟩ : ∃ n : Nat, b = n := ⟨b.toNat, by omega⟩
  unfold pV
  simp only [Int.toNat_natCast]
  by_cases e1 : (o : Int) = 1 ∨ (o : Int) = 23
  · rw [if_pos e1]
    exact plain_set w g lv ev mv at_ V h o e1 d (by omega) _ _ _
  · rw [if_neg e1]
    by_cases e2 : o = 2
    · subst e2
      rw [if_pos (show ((2 : Nat) : Int) = 2 from rfl)]
      exact plain_move w g lv ev mv at_ V h d a (by omega) (by omega) _ _
    · rw [if_neg (by omega)]
      by_cases e3 : 13 ≤ (o : Int)
      · rw [if_pos e3]
        exact plain_imm w g lv ev mv at_ V h hu hl o o rfl (by omega) (by omega) d a (by omega) (by omega) _ _
      · rw [if_neg e3]
        exact plain_reg w g lv ev mv at_ V h hu hl o (by omega) (by omega) d a b (by omega) (by omega) (by omega) _
theorem int_at {w : World} {ad : Addr} {n : Nat} {xs : List Int} (h : Kd.C (Kd.int .i64) w (some ad) n xs) (i : Nat) (hi : i < n) : w.cell? (ad.add i) = some (.int .i64 (rd xs i)) := by
  obtain ⟨ad', c, e, _, hK, hc0⟩ := Kd.C_get h (0 : Int) (i : Int) (by omega) (by omega)
  injection e with e
  subst e
  have hk : c = [.int .i64 (xs.getD i 0)] := hK
  subst hk
  have := hc0 0 _ rfl
  rw [Int.toNat_natCast] at this
  have e2 : i * (Kd.int IntKind.i64).sz + 0 = i := by show i * 1 + 0 = i; omega
  rw [e2] at this
  exact this
theorem add_blk (a : Addr) (n : Nat) : (a.add n).block = a.block := by
  unfold Addr.add
  first | rfl | (split <;> rfl)
theorem plain_end_l (w : World) (g : Nat) (la ea : Addr) (lc ec : Nat) (mv : Value) (k : Nat) (V E : List Int) (l : List S49) (hC : Kd.C k49 w (some la) l.length l) (hE : Kd.C (Kd.int .i64) w (some ea) E.length E)
    (h : RnAt w g (.slice (some la) l.length lc) (.slice (some ea) E.length ec) mv k V) (hk : k < E.length) (hf0 : 0 ≤ rd E k) (hf1 : rd E k < l.length) (hd0 : 0 ≤ (rd_T49 l (rd E k)).f1) (hd1 : (rd_T49 l (rd E k)).f1 < 64) (hg : la.block ≠ g) (x : S49) (hx : x.f0 = 24) :
    Calls Try.prog 60 #[.pointer (some ⟨g, 0, none⟩), .agg #[.int .i64 x.f0, .int .i64 x.f1, .int .i64 x.f2, .int .i64 x.f3, .int .i32 x.f4]] w
      (PlainTold w g (.slice (some la) l.length lc) (.slice (some ea) E.length ec) mv (if (rd V (rd_T49 l (rd E k)).f1 - 1) % 4294967296 = 0 then (k : Int) else rd E k) (V.set (rd_T49 l (rd E k)).f1.toNat ((rd V (rd_T49 l (rd E k)).f1 - 1) % 4294967296))) := by
  have he := int_at hE k hk
  obtain ⟨ad, e, _, e1, _, _, _⟩ := at_T49 hC (rd E k) hf0 hf1
  injection e with e
  subst e
  have hl1 := Kd.C_lt hC (by omega) (by show 0 < 5; omega)
  have hl2 := Kd.C_lt hE (by omega) (by show 0 < 1; omega)
  obtain ⟨f, hf⟩ : ∃ f : Nat, rd E k = f := ⟨(rd E k).toNat, by omega⟩
  rw [hf] at he e1 hf1 hd0 hd1 ⊢
  obtain ⟨d, hd⟩ : ∃ d : Nat, (rd_T49 l (f : Int)).f1 = d := ⟨((rd_T49 l (f : Int)).f1).toNat, by omega⟩
  rw [hd] at e1 hd1 ⊢
  rw [Int.toNat_natCast] at e1 ⊢
  rw [hx]
  exact plain_end w g la ea l.length lc E.length ec mv k f d V h hk (by omega) (by omega) he e1 (by rw [add_blk]; exact hg) (by rw [add_blk]; exact hl1) (by rw [add_blk]; exact hl2) _ _ _ _
end Go.Proofs.Ytpeljnnbknnbmaa.PD
end
end
section
section
namespace Go.Proofs.Ytpeljnnbknnbmaa.PD
open Go.RowKit Go.Proofs.YtpeljnnbknnbmaaW.PrintWords Go.Proofs.YtpeljnnbknnbmaaW.PrintLast Go.Proofs.YtpeljnnbknnbmaaW.PrintMore
set_option linter.unusedVariables false
set_option linter.unusedSimpArgs false
section
variable {P : Program}
theorem wpList_built {ops : Array Oper} {rest : List Oper} {o : Oper} {a : Act} {w : World} {Q : Exit → Act → World → Prop} (hgd : o.guard = none) (t : TypeId) (parts : Array (Nat × Operand)) (ho : o.op = .build t parts)
    (ps : Array (Nat × Value)) (hp : parts.toList.map (fun x => (x.1, a.eval x.2)) = ps.toList) (v : Value) (hr : (Instr.build t ps).run P w = .ok v w)
    (h : wpList P ops Q rest (a.put o.dst v) w) : wpList P ops Q (o :: rest) a w :=
  wpList_plain hgd fun _ hK => by
    have hp' : parts.map (fun (i, x) => (i, a.eval x)) = ps := by
      apply Array.ext'
      rw [Array.toList_map]; exact hp
    unfold Oper.wp execOp
    simp only [ho, Sem.run_bind, hp', hr, Sem.run_pure, Result.andThen_ok]
    exact hK _ _ h
end
/-- a runner as it is made -/
noncomputable def rnC0 (lv ev mv : Value) : Array Value := ((Try.zeroCells102.setIfInBounds 0 lv).setIfInBounds 1 ev).setIfInBounds 2 mv
theorem zero102_size : Try.zeroCells102.size = 68 := by kernel_rfl
theorem zero102_3 : Try.zeroCells102[3]? = some (.int .i64 0) := by kernel_rfl
theorem zero102_v : Try.zeroCells102.toList.drop 4 = List.replicate 64 (.int .u32 0) := by kernel_rfl
theorem zero102_at (j : Nat) (hj : j < 64) : Try.zeroCells102[4 + j]? = some (.int .u32 0) := by
  have h : (Try.zeroCells102.toList.drop 4)[j]? = some (.int .u32 0) := by rw [zero102_v, List.getElem?_replicate, if_pos hj]
  rw [List.getElem?_drop] at h
  rw [← h, Array.getElem?_toList]
theorem rnC0_ok (lv ev mv : Value) : RnC (rnC0 lv ev mv) lv ev mv 0 (List.replicate 64 0) := by
  have hs : (rnC0 lv ev mv).size = 68 := by unfold rnC0; simp [zero102_size]
  refine ⟨hs, List.length_replicate, ?_, ?_, ?_, ?_, fun j hj => ?_⟩
  · unfold rnC0
    rw [Array.getElem?_setIfInBounds_ne (by omega), Array.getElem?_setIfInBounds_ne (by omega), Array.getElem?_setIfInBounds_self_of_lt (by simp [zero102_size])]
  · unfold rnC0
    rw [Array.getElem?_setIfInBounds_ne (by omega), Array.getElem?_setIfInBounds_self_of_lt (by simp [zero102_size])]
  · unfold rnC0
    rw [Array.getElem?_setIfInBounds_self_of_lt (by simp [zero102_size])]
  · unfold rnC0
    rw [Array.getElem?_setIfInBounds_ne (by omega), Array.getElem?_setIfInBounds_ne (by omega), Array.getElem?_setIfInBounds_ne (by omega)]
    exact zero102_3
  · unfold rnC0
    rw [Array.getElem?_setIfInBounds_ne (by omega), Array.getElem?_setIfInBounds_ne (by omega), Array.getElem?_setIfInBounds_ne (by omega), zero102_at j hj]
    have : rd (List.replicate 64 (0 : Int)) (j : Int) = 0 := by
      unfold rd
      rw [Int.toNat_natCast, List.getD_eq_getElem?_getD, List.getElem?_replicate, if_pos hj]; rfl
    rw [this]
theorem run_build102 (A B p : Option Addr) (n c m d : Nat) (w : World) :
    (Instr.build 102 #[(0, .slice A n c), (1, .slice B m d), (2, .pointer p)]).run Try.prog w = .ok (.agg (rnC0 (.slice A n c) (.slice B m d) (.pointer p))) w := by
  have e1 : (Value.pointer p).cells = #[Value.pointer p] := rfl
  have e2 : ∀ (A : Option Addr) (n c : Nat), (Value.slice A n c).cells = #[Value.slice A n c] := fun _ _ _ => rfl
  have e4 : (Value.agg Try.zeroCells102).cells = Try.zeroCells102 := rfl
  simp [Instr.build, Try.underlying102, Sem.run_bind, Instr.fill, e1, e2, e4, zero102_size, rnC0]
end Go.Proofs.Ytpeljnnbknnbmaa.PD
end
section
namespace Go.Proofs.Ytpeljnnbknnbmaa.PD
open Go.RowKit Go.Proofs.YtpeljnnbknnbmaaW.PrintWords Go.Proofs.YtpeljnnbknnbmaaW.PrintLast Go.Proofs.YtpeljnnbknnbmaaW.PrintMore
set_option linter.unusedVariables false
set_option linter.unusedSimpArgs false
theorem results_tmp4 {fn : Func} {t u v x : Tmp} (h : fn.results = #[.tmp t, .tmp u, .tmp v, .tmp x]) (tmps : Array Value) (P : Program) (w : World) :
    (results fn tmps).run P w = .ok (.tuple #[tmps.getD t undef, tmps.getD u undef, tmps.getD v undef, tmps.getD x undef]) w := by
  simp [results, h]
/-- one step of a program that has no step of memory: where it is, its variables -/
def pStep (l : List S49) (E : List Int) (s : Int × List Int) : Int × List Int :=
  if (rd_T49 l s.1).f0 = 24 then
    ((if (rd s.2 (rd_T49 l (rd E s.1)).f1 - 1) % 4294967296 = 0 then s.1 else rd E s.1) + 1, s.2.set (rd_T49 l (rd E s.1)).f1.toNat ((rd s.2 (rd_T49 l (rd E s.1)).f1 - 1) % 4294967296))
  else (s.1 + 1, pV (rd_T49 l s.1) s.2)
def pRun (l : List S49) (E : List Int) : Nat → Int × List Int
  | 0 => (0, List.replicate 64 0)
  | k + 1 => pStep l E (pRun l E k)
/-- a step that can be done where the program is -/
structure POn (l : List S49) (E : List Int) (s : Int × List Int) : Prop where
  u : ∀ x ∈ s.2, U32 x
  len : s.2.length = 64
  at0 : 0 ≤ s.1
  at1 : s.1 < l.length
  ok : POk (rd_T49 l s.1) ∨ (rd_T49 l s.1).f0 = 24 ∧ 0 ≤ rd E s.1 ∧ rd E s.1 < l.length ∧ 0 ≤ (rd_T49 l (rd E s.1)).f1 ∧ (rd_T49 l (rd E s.1)).f1 < 64
theorem plain_on (w : World) (g : Nat) (la ea : Addr) (lc ec : Nat) (mv : Value) (l : List S49) (E : List Int) (s : Int × List Int) (hs : POn l E s) (hEl : E.length = l.length) (hC : Kd.C k49 w (some la) l.length l) (hE : Kd.C (Kd.int .i64) w (some ea) E.length E)
    (h : RnAt w g (.slice (some la) l.length lc) (.slice (some ea) E.length ec) mv s.1 s.2) (hg : la.block ≠ g) :
    Calls Try.prog 60 #[.pointer (some ⟨g, 0, none⟩), .agg #[.int .i64 (rd_T49 l s.1).f0, .int .i64 (rd_T49 l s.1).f1, .int .i64 (rd_T49 l s.1).f2, .int .i64 (rd_T49 l s.1).f3, .int .i32 (rd_T49 l s.1).f4]] w
      (PlainTold w g (.slice (some la) l.length lc) (.slice (some ea) E.length ec) mv ((pStep l E s).1 - 1) (pStep l E s).2) := by
  obtain ⟨hu, hl, h0, h1, hok⟩ := hs
  obtain ⟨at_, V⟩ := s
  simp only at hu hl h0 h1 hok h ⊢
  unfold pStep
  simp only
  rcases hok with hx | ⟨hx, hf0, hf1, hd0, hd1⟩
  · have hne : ¬ ((rd_T49 l at_).f0 = 24) := by have := hx.o; omega
    rw [if_neg hne]
    simp only
    rw [show at_ + 1 - 1 = at_ by omega]
    exact plain_some w g _ _ mv at_ V h hu hl _ hx
  · rw [if_pos hx]
    simp only
    obtain ⟨k, rfl⟩ : ∃ k : Nat, at_ = k := ⟨at_.toNat, by omega⟩
    have := plain_end_l w g la ea lc ec mv k V E l hC hE h (by omega) hf0 hf1 hd0 hd1 hg _ hx
    rw [show ∀ z : Int, z + 1 - 1 = z from fun z => by omega]
    exact this
theorem pStep_at {l : List S49} {E : List Int} {s : Int × List Int} (h : POn l E s) : 0 ≤ (pStep l E s).1 - 1 ∧ (pStep l E s).1 - 1 < l.length := by
  have h0 := h.at0
  have h1 := h.at1
  unfold pStep
  rcases h.ok with hx | ⟨hx, hf0, hf1, _, _⟩
  · have hne : ¬ ((rd_T49 l s.1).f0 = 24) := by have := hx.o; omega
    rw [if_neg hne]
    exact ⟨by show 0 ≤ s.1 + 1 - 1; omega, by show s.1 + 1 - 1 < _; omega⟩
  · rw [if_pos hx]
    show 0 ≤ (if _ then s.1 else rd E s.1) + 1 - 1 ∧ (if _ then s.1 else rd E s.1) + 1 - 1 < (l.length : Int)
    split <;> omega
set_option maxRecDepth 100000 in
set_option maxHeartbeats 8000000 in
theorem run_plain (w : World) (la : Addr) (lc : Nat) (l : List S49) (hC : Kd.C k49 w (some la) l.length l) (hlc : l.length ≤ lc) (kc : Nat) (hchk : lir_Check.f kc l = some 0) (E : List Int) (eb : Bool) (hends : lir_Ends.f kc l = some (E, eb)) (hEl : E.length = l.length) (hl0 : 0 < l.length) (mp : Option Addr)
    (N fuel : Nat) (hfuel : (fuel : Int) < 9223372036854775807) (hlm : (l.length : Int) < 9223372036854775807) (hN : N ≤ fuel) (hon : ∀ k, k < N → POn l E (pRun l E k)) (h0 : 0 ≤ (pRun l E N).1) (hend : ¬ ((pRun l E N).1 < l.length ∧ N < fuel)) :
    Calls Try.prog 30 #[.slice (some la) l.length lc, .pointer mp, .int .i64 fuel] w fun e w' => ∃ g ev, w.heap.size ≤ g ∧ e = .returned (.tuple #[.slice (some ⟨g, 4, none⟩) 64 64, .int .i64 N, .int .i64 0, .int .i64 0]) ∧ RnAt w' g (.slice (some la) l.length lc) ev (.pointer mp) (pRun l E N).1 (pRun l E N).2 ∧ Below w.heap.size w w' := by
  have HC := Aside0.mk hC
  have HCH := Aside0.mk hchk
  have HEN := Aside0.mk hends
  have HON := Aside0.mk hon
  have HEND := Aside0.mk hend
  clear hC hchk hends hon hend
  go_enter Try.func30, Try.ntmps30
  go_wp2_with (first
    | (go_at_call 50; (with_reducible refine (lir_Check.calls kc _ _ l 0 _ HC.out hlc HCH.out).mono ?_); rintro e w1 ⟨rfl, hb1⟩; have HB1 := Aside0.mk hb1; clear hb1)
    | (go_at_call 58; (with_reducible refine (lir_Ends.calls kc _ _ l E eb _ (Kd.C_below HC.out HB1.out) hlc HEN.out).mono ?_); rintro e w2 ⟨v0, rfl, hv, hb2⟩; obtain ⟨A0, c0, rfl, hc0, hC2⟩ := Kd.R_reads hv; have HB2 := Aside0.mk hb2; have HC2 := Aside0.mk hC2; clear hb2 hv hC2)
    | (refine wpList_built rfl 102 _ rfl #[(0, .slice (some la) l.length lc), (1, .slice A0 E.length c0), (2, .pointer mp)] rfl _ (run_build102 _ _ _ _ _ _ _ _) ?_))
  obtain ⟨ea, _, hea, _, _, _⟩ := Kd.C_get HC2.out (0 : Int) 0 (by omega) (by omega)
  subst hea
  have hlw : w.heap.size ≤ w2.heap.size := (HB1.out.trans (HB2.out.mono HB1.out.size)).size
  have hR0 : RnAt (w2.alloc (.cells (rnC0 (.slice (some la) l.length lc) (.slice (some ea) l.length c0) (.pointer mp)) 102)) w2.heap.size (.slice (some la) l.length lc) (.slice (some ea) l.length c0) (.pointer mp) 0 (List.replicate 64 0) := ⟨_, heap_alloc_new w2 _, rnC0_ok _ _ _⟩
  have HR0 := Aside0.mk hR0
  have HLA := Aside0.mk (show la.block ≠ w2.heap.size from by have := Kd.C_lt HC.out hl0 (by show 0 < 5; omega); omega)
  have HCW := Aside0.mk (fun (W : World) (hW : Below w2.heap.size w2 W) => Kd.C_below HC.out ((HB1.out.trans (HB2.out.mono HB1.out.size)).trans (hW.mono hlw)))
  have HEW := Aside0.mk (fun (W : World) (hW : Below w2.heap.size w2 W) => Kd.C_below HC2.out hW)
  have HALW := Aside0.mk (HB1.out.trans (HB2.out.mono HB1.out.size))
  clear hR0
  go_loopw [14] (fun i wr => ∃ k : Nat, k ≤ N ∧ i = .int .i64 k ∧ Aside0 (RnAt wr w2.heap.size (.slice (some la) l.length lc) (.slice (some ea) l.length c0) (.pointer mp) (pRun l E k).1 (pRun l E k).2) ∧ Aside0 (Below w2.heap.size w2 wr)) (fun i _ => N - (intOf i).toNat)
  case atStart => exact ⟨0, by omega, rfl, HR0, ⟨below_alloc (Below.refl _ _) _⟩⟩
  case round =>
    obtain ⟨k, hk, rfl, hR, hB⟩ := hrel
    by_cases h1 : k < N
    · have hon := HON.out k h1
      have g3 := hR.out.ga
      have hlt := hR.out.lt
      have hfz := hR.out.frozen 3
      obtain ⟨s, hs⟩ : ∃ s, s = pRun l E k := ⟨_, rfl⟩
      have hnx : pRun l E (k + 1) = pStep l E s := by rw [hs]; rfl
      rw [← hs] at hon g3 hR
      have hst := pStep_at hon
      have ha0 := hon.at0
      have ha1 := hon.at1
      obtain ⟨ad, ee, e0, e1, e2, e3, e4⟩ := at_T49 (HCW.out _ hB.out) s.1 ha0 ha1
      injection ee with ee
      subst ee
      obtain ⟨at_, hat⟩ : ∃ at_ : Nat, s.1 = at_ := ⟨s.1.toNat, by omega⟩
      have hai : (at_ : Int) < l.length := by omega
      have hkf : (k : Int) < fuel := by omega
      have hb1 : decide ((at_ : Int) < (l.length : Int)) = true := decide_eq_true hai
      have hb2 : decide ((k : Int) < (fuel : Int)) = true := decide_eq_true hkf
      have HO := Aside0.mk (fun (W : World) (hW : Below w2.heap.size w2 W) (hr : RnAt W w2.heap.size (.slice (some la) l.length lc) (.slice (some ea) l.length c0) (.pointer mp) s.1 s.2) => plain_on W w2.heap.size la ea lc c0 (.pointer mp) l E s hon hEl (HCW.out W hW) (HEW.out W hW) (by rw [hEl]; exact hr) HLA.out)
      obtain ⟨xx, hxx⟩ : ∃ xx, xx = rd_T49 l s.1 := ⟨_, rfl⟩
      have hno : ¬ (17 ≤ xx.f0 ∧ xx.f0 ≤ 22) := by
        rw [hxx]
        rcases hon.ok with h | h
        · have := h.o; omega
        · omega
      rw [← hxx] at e0 e1 e2 e3 e4 HO
      rw [hat] at e0 e1 e2 e3 e4 g3
      simp only [Int.toNat_natCast] at e0 e1 e2 e3 e4
      have HAT := Aside0.mk hat
      have HNX := Aside0.mk hnx
      clear hxx hon ha0 ha1 hat hnx hs
      have HST := Aside0.mk hst
      have HLM := Aside0.mk hlm
      have HEL := Aside0.mk hEl
      have HLW := Aside0.mk hlw
      clear hst hEl hlw h0 hl0 hN hlc hlm hb1 hb2
      by_cases h17 : 17 ≤ xx.f0
      all_goals try have h22 : ¬ (xx.f0 ≤ 22) := fun h => hno ⟨h17, h⟩
      all_goals clear hno
      all_goals
        go_wp2_with (go_at_call 60; go_loud ((with_reducible refine (HO.out _ ?h1 ?h2).mono ?_); (case h1 => exact below_alloc hB.out _); (case h2 => exact RnAt.alloc hR.out _); rintro e w5 ⟨rfl, hr5, hk5⟩; have hz5 := HST.out; obtain ⟨a5, ha5⟩ : ∃ a5 : Nat, (pStep l E s).1 - 1 = a5 := ⟨((pStep l E s).1 - 1).toNat, by omega⟩; rw [ha5] at hr5; have g5 := hr5.ga; have f5 := hr5.frozen 3; have hw5 : (a5 : Int) + 1 < 9223372036854775808 := (by have := HLM.out; omega); have hw6 : (k : Int) + 1 < 9223372036854775808 := (by omega); have HA5 := Aside0.mk ha5; have HR5 := Aside0.mk hr5; have HK5 := Aside0.mk hk5; clear hr5 hk5 hz5 ha5))
        go_roundw
        case rel =>
          refine ⟨k + 1, by omega, by go_num, ⟨?_⟩, ⟨?_⟩⟩
          · rw [HNX.out, show (pStep l E s).1 = (a5 : Int) + 1 from by have := HA5.out; omega]
            have hq := RnAt.setA HR5.out ((a5 : Int) + 1)
            rw [HEL.out] at hq
            exact hq
          · exact ((below_alloc hB.out _).trans (HK5.out.below w2.heap.size (below_alloc hB.out _).size (fun i hi => by omega))).setCell (Nat.le_refl _) _
        case measure => simp [intOf]; omega
    · obtain rfl : k = N := by omega
      have hend := HEND.out
      have g3 := hR.out.ga
      have hlt := hR.out.lt
      obtain ⟨s, hs⟩ : ∃ s, s = pRun l E k := ⟨_, rfl⟩
      rw [← hs] at hend g3 hR h0
      have HS := Aside0.mk hs
      obtain ⟨at_, hat⟩ : ∃ at_ : Nat, s.1 = at_ := ⟨s.1.toNat, by omega⟩
      rw [hat] at hend g3
      have HAT := Aside0.mk hat
      have HLW := Aside0.mk hlw
      clear hs hat hEl hlw h0 hl0 hlc hlm HON HEND hN h1
      by_cases hA : (at_ : Int) < l.length
      all_goals try have hB2 : ¬ ((k : Int) < fuel) := (fun h => hend ⟨hA, (by omega)⟩)
      all_goals clear hend
      all_goals
        go_wp2
        rw [← HS.out]
        (try simp only [Exit.inBlock, Exit.then])
        refine bodyPost_ret (results_tmp4 rfl _ _ _) rfl ?_
        first | exact ⟨w2.heap.size, HLW.out, rfl, ⟨_, hR.out⟩, HALW.out.trans (hB.out.mono HLW.out)⟩ | exact ⟨w2.heap.size, _, HLW.out, rfl, hR.out, HALW.out.trans (hB.out.mono HLW.out)⟩
end Go.Proofs.Ytpeljnnbknnbmaa.PD
end
end
end
section
namespace Go.Proofs.Ytpeljnnbknnbmaa.PD
open Go.RowKit Go.Proofs.YtpeljnnbknnbmaaW.PrintWords Go.Proofs.YtpeljnnbknnbmaaW.PrintLast Go.Proofs.YtpeljnnbknnbmaaW.PrintMore
theorem mem_set {V : List Int} {P : Int → Prop} (hV : ∀ x ∈ V, P x) (d : Nat) {y : Int} (hy : P y) : ∀ x ∈ V.set d y, P x := fun x hx => by
  rcases List.mem_or_eq_of_mem_set hx with h | h
  · exact hV x h
  · rw [h]; exact hy
theorem pV_ok {V : List Int} (hu : ∀ x ∈ V, U32 x) (hl : V.length = 64) {x : S49} (hx : POk x) : (∀ y ∈ pV x V, U32 y) ∧ (pV x V).length = 64 := by
  obtain ⟨ho, hd, ha, hb⟩ := hx
  obtain ⟨o, d, a, b, i⟩ := x
  simp only at ho hd ha hb
  obtain ⟨o, rfl⟩ : ∃ n : Nat, o = n := ⟨o.toNat, by omega⟩
  obtain ⟨d, rfl⟩ : ∃ n : Nat, d = n := ⟨d.toNat, by omega⟩
  obtain ⟨a, rfl⟩ : ∃ n : Nat, a = n := ⟨a.toNat, by omega⟩
  obtain ⟨b, rfl⟩ : ∃ n : Nat, b = n := ⟨b.toNat, by omega⟩
  unfold pV
  simp only [Int.toNat_natCast]
  by_cases e1 : (o : Int) = 1 ∨ (o : Int) = 23
  · rw [if_pos e1]
    exact ⟨mem_set hu d (u32_mod i), by rw [List.length_set]; exact hl⟩
  · rw [if_neg e1]
    by_cases e2 : (o : Int) = 2
    · rw [if_pos e2]
      exact ⟨mem_set hu d (rd_u32 hl hu a (by omega)), by rw [List.length_set]; exact hl⟩
    · rw [if_neg e2]
      have hb2 : U32 (if 13 ≤ (o : Int) then i % 4294967296 else rd V b) := by
        split
        · exact u32_mod i
        · exact rd_u32 hl hu b (by omega)
      exact ⟨mem_set hu d (numAlu_eq (ops_in o (by omega) (by omega)) (rd_u32 hl hu a (by omega)) hb2 0).2, by rw [List.length_set]; exact hl⟩
theorem pStep_ok {l : List S49} {E : List Int} {s : Int × List Int} (h : POn l E s) : (∀ y ∈ (pStep l E s).2, U32 y) ∧ (pStep l E s).2.length = 64 := by
  unfold pStep
  rcases h.ok with hx | ⟨hx, _⟩
  · have hne : ¬ ((rd_T49 l s.1).f0 = 24) := by have := hx.o; omega
    rw [if_neg hne]
    exact pV_ok h.u h.len hx
  · rw [if_pos hx]
    exact ⟨mem_set h.u _ (u32_mod _), by show (List.set _ _ _).length = 64; rw [List.length_set]; exact h.len⟩
end Go.Proofs.Ytpeljnnbknnbmaa.PD
end
end
