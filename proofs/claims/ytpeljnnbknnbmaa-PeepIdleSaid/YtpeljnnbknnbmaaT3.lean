import Derived.Test.YtpeljnnbknnbmaaT2
namespace Go.Proofs.Ytpeljnnbknnbmaa.PB
open Go.RowKit Go.Proofs.YtpeljnnbknnbmaaW.PrintWords Go.Proofs.YtpeljnnbknnbmaaW.PrintLast Go.Proofs.YtpeljnnbknnbmaaW.PrintMore
set_option linter.unusedVariables false
set_option linter.unusedSimpArgs false
theorem size_alloc (w : World) (o : Obj) : (w.alloc o).heap.size = w.heap.size + 1 := by
  show (w.heap.push o).size = _
  simp
set_option maxHeartbeats 4000000 in
theorem put_alone (w : World) (base g : Nat) (out : List S49) (op vs : List Int) (x : S49) (h : TidAt w base g out op vs) (hb : base ≤ w.heap.size) (hi : idleS x = false) (hl : 0 < out.length) (hmax : out.length < 1000000) (hp : pairV (rd_T49 out ((out.length : Int) - 1)) x = none) :
    Calls Try.prog 53 #[.pointer (some ⟨g, 0, none⟩), .agg #[.int .i64 x.f0, .int .i64 x.f1, .int .i64 x.f2, .int .i64 x.f3, .int .i32 x.f4]] w (TidTold w base g (out ++ [x]) op vs) := by
  obtain ⟨A, c, A1, c1, A2, c2, hv⟩ := h
  have HT := Aside0.mk hv
  have he : peep_idle.f 2 x.f0 x.f1 x.f2 x.f3 x.f4 = some false := by rw [idle_eq 0]; congr 1
  have HE := Aside0.mk he
  have hlt := blk_lt hv.blk
  obtain ⟨_, hcap, hC⟩ := Kd.R_reads' hv.rout
  obtain ⟨ad, rfl, e0, e1, e2, e3, e4⟩ := at_T49 hC ((out.length : Int) - 1) (by omega) (by omega)
  rw [show ((out.length : Int) - 1).toNat = out.length - 1 by omega] at e0 e1 e2 e3 e4
  obtain ⟨y, hy⟩ : ∃ y, y = rd_T49 out ((out.length : Int) - 1) := ⟨_, rfl⟩
  rw [← hy] at e0 e1 e2 e3 e4 hp
  have hpe : peep_pair.f 2 y.f0 y.f1 y.f2 y.f3 y.f4 x.f0 x.f1 x.f2 x.f3 x.f4 = some (0, 0, 0, 0, 0, false) := by rw [pair_eq 0]; unfold pairR; rw [hp]
  have HP := Aside0.mk hpe
  have HE0 := Aside0.mk e0
  have HE1 := Aside0.mk e1
  have HE2 := Aside0.mk e2
  have HE3 := Aside0.mk e3
  have HE4 := Aside0.mk e4
  have hk0 : decide ((0 : Int) ≤ (out.length : Int) - 1) = true := decide_eq_true (by omega)
  have hk1 : (0 : Int) ≤ (out.length : Int) - 1 := by omega
  have hk2 : (out.length : Int) - 1 < (out.length : Int) := by omega
  clear hv hi he hcap hC hy hpe hp e0 e1 e2 e3 e4
  go_enter Try.func53, Try.ntmps53
  go_wp2_with (first | (go_at_call 57; (with_reducible refine (peep_idle.calls 2 _ _ _ _ _ false _ HE.out).mono ?_); rintro e w1 ⟨rfl, hb1⟩; have HB1 := Aside0.mk ((below_alloc (Below.refl w.heap.size w) _).trans (hb1.mono (by simp))); have hbx := (hb1.block w.heap.size (by simp)).trans (heap_alloc_new w _); have HT1 := Aside0.mk (HT.out.below HB1.out); have q0 := blk_cell HT1.out.blk 0; have f0 := blk_frozen HT1.out.blk 0; have HBX := Aside0.mk hbx; clear hb1 hbx))
  have HKEEP := Aside0.mk (show ∀ W' : World, Below w1.heap.size w1 W' → (W'.cell? ⟨g, 0, none⟩ = some (.slice (some ad) out.length c) ∧ W'.cell? (ad.add ((out.length - 1) * 5)) = some (.int .i64 y.f0) ∧ W'.cell? ⟨(ad.add ((out.length - 1) * 5)).block, (ad.add ((out.length - 1) * 5)).off + 1, none⟩ = some (.int .i64 y.f1) ∧ W'.cell? ⟨(ad.add ((out.length - 1) * 5)).block, (ad.add ((out.length - 1) * 5)).off + 2, none⟩ = some (.int .i64 y.f2) ∧ W'.cell? ⟨(ad.add ((out.length - 1) * 5)).block, (ad.add ((out.length - 1) * 5)).off + 3, none⟩ = some (.int .i64 y.f3) ∧ W'.cell? ⟨(ad.add ((out.length - 1) * 5)).block, (ad.add ((out.length - 1) * 5)).off + 4, none⟩ = some (.int .i32 y.f4) ∧ W'.cell? ⟨w.heap.size, 0, none⟩ = some (.int .i64 x.f0) ∧ W'.cell? ⟨w.heap.size, 1, none⟩ = some (.int .i64 x.f1) ∧ W'.cell? ⟨w.heap.size, 2, none⟩ = some (.int .i64 x.f2) ∧ W'.cell? ⟨w.heap.size, 3, none⟩ = some (.int .i64 x.f3) ∧ W'.cell? ⟨w.heap.size, 4, none⟩ = some (.int .i32 x.f4) ∧ Below w1.heap.size w1 W') from fun W' h1 => by
    have hbx := (h1.block _ (blk_lt HBX.out)).trans HBX.out
    have z := HB1.out.trans (h1.mono HB1.out.size)
    exact ⟨blk_cell (HT1.out.below h1).blk 0, pw_cell_below z HE0.out, pw_cell_below z HE1.out, pw_cell_below z HE2.out, pw_cell_below z HE3.out, pw_cell_below z HE4.out, blk_cell hbx 0, blk_cell hbx 1, blk_cell hbx 2, blk_cell hbx 3, blk_cell hbx 4, h1⟩)
  have HAL := Aside0.mk (show (World.alloc w1 (.cells #[(.int .i64 0), (.int .i64 0), (.int .i64 0), (.int .i64 0), (.int .i32 0)] 49)).drew.heap[w1.heap.size]? = some (.cells #[(.int .i64 0), (.int .i64 0), (.int .i64 0), (.int .i64 0), (.int .i32 0)] 49) from heap_alloc_new w1 (.cells #[(.int .i64 0), (.int .i64 0), (.int .i64 0), (.int .i64 0), (.int .i32 0)] 49))
  have HLT := Aside0.mk (show w1.heap.size < (World.alloc w1 (.cells #[(.int .i64 0), (.int .i64 0), (.int .i64 0), (.int .i64 0), (.int .i32 0)] 49)).drew.heap.size from by show w1.heap.size < (World.alloc w1 (.cells #[(.int .i64 0), (.int .i64 0), (.int .i64 0), (.int .i64 0), (.int .i32 0)] 49)).heap.size; rw [size_alloc]; exact Nat.lt_succ_self _)
  clear q0 f0
  refine wp_region_held_drew (S := (fun W' => W'.cell? ⟨g, 0, none⟩ = some (.slice (some ad) out.length c) ∧ W'.cell? (ad.add ((out.length - 1) * 5)) = some (.int .i64 y.f0) ∧ W'.cell? ⟨(ad.add ((out.length - 1) * 5)).block, (ad.add ((out.length - 1) * 5)).off + 1, none⟩ = some (.int .i64 y.f1) ∧ W'.cell? ⟨(ad.add ((out.length - 1) * 5)).block, (ad.add ((out.length - 1) * 5)).off + 2, none⟩ = some (.int .i64 y.f2) ∧ W'.cell? ⟨(ad.add ((out.length - 1) * 5)).block, (ad.add ((out.length - 1) * 5)).off + 3, none⟩ = some (.int .i64 y.f3) ∧ W'.cell? ⟨(ad.add ((out.length - 1) * 5)).block, (ad.add ((out.length - 1) * 5)).off + 4, none⟩ = some (.int .i32 y.f4) ∧ W'.cell? ⟨w.heap.size, 0, none⟩ = some (.int .i64 x.f0) ∧ W'.cell? ⟨w.heap.size, 1, none⟩ = some (.int .i64 x.f1) ∧ W'.cell? ⟨w.heap.size, 2, none⟩ = some (.int .i64 x.f2) ∧ W'.cell? ⟨w.heap.size, 3, none⟩ = some (.int .i64 x.f3) ∧ W'.cell? ⟨w.heap.size, 4, none⟩ = some (.int .i32 x.f4) ∧ Below w1.heap.size w1 W')) (by kernel_rfl) (HKEEP.out _ (below_drew (Below.refl _ _))) (fun hHeld => ?_)
  refine wpAnyH_take (i := 0) (v := ?_) rfl (by kernel_rfl) (by kernel_rfl) (by kernel_rfl) (fun _ _ _ h => h) (Or.inl ⟨by rfl, ?_⟩) (by assumption) ?_
  rotate_left
  · (intro w hSw; (try dsimp only at hSw); go_simp; (try with_reducible rfl))
  try simp only [Act.put, List.getElem_toArray, List.getElem_cons_succ, List.getElem_cons_zero, List.setIfInBounds_toArray, List.set_cons_zero, List.set_cons_succ]
  refine wpAnyH_take (i := 1) (v := ?_) rfl (by kernel_rfl) (by kernel_rfl) (by kernel_rfl) (fun _ _ _ h => h) (Or.inl ⟨by rfl, ?_⟩) (by assumption) ?_
  rotate_left
  · (intro w hSw; (try dsimp only at hSw); go_simp; (try with_reducible rfl))
  try simp only [Act.put, List.getElem_toArray, List.getElem_cons_succ, List.getElem_cons_zero, List.setIfInBounds_toArray, List.set_cons_zero, List.set_cons_succ]
  refine wpAnyH_take (i := 2) (v := ?_) rfl (by kernel_rfl) (by kernel_rfl) (by kernel_rfl) (fun _ _ _ h => h) (Or.inl ⟨by rfl, ?_⟩) (by assumption) ?_
  rotate_left
  · (intro w hSw; (try dsimp only at hSw); go_simp; (try with_reducible rfl))
  try simp only [Act.put, List.getElem_toArray, List.getElem_cons_succ, List.getElem_cons_zero, List.setIfInBounds_toArray, List.set_cons_zero, List.set_cons_succ]
  refine wpAnyH_take (i := 3) (v := ?_) rfl (by kernel_rfl) (by kernel_rfl) (by kernel_rfl) (fun _ _ _ h => h) (Or.inl ⟨by rfl, ?_⟩) (by assumption) ?_
  rotate_left
  · (intro w hSw; (try dsimp only at hSw); go_simp; (try with_reducible rfl))
  try simp only [Act.put, List.getElem_toArray, List.getElem_cons_succ, List.getElem_cons_zero, List.setIfInBounds_toArray, List.set_cons_zero, List.set_cons_succ]
  refine wpAnyH_take (i := 4) (v := ?_) rfl (by kernel_rfl) (by kernel_rfl) (by kernel_rfl) (fun _ _ _ h => h) (Or.inl ⟨by rfl, ?_⟩) (by assumption) ?_
  rotate_left
  · (intro w hSw; (try dsimp only at hSw); go_simp; (try with_reducible rfl))
  try simp only [Act.put, List.getElem_toArray, List.getElem_cons_succ, List.getElem_cons_zero, List.setIfInBounds_toArray, List.set_cons_zero, List.set_cons_succ]
  refine wpAnyH_take (i := 5) (v := ?_) rfl (by kernel_rfl) (by kernel_rfl) (by kernel_rfl) (fun _ _ _ h => h) (Or.inl ⟨by rfl, ?_⟩) (by assumption) ?_
  rotate_left
  · (intro w hSw; (try dsimp only at hSw); go_simp; (try with_reducible rfl))
  try simp only [Act.put, List.getElem_toArray, List.getElem_cons_succ, List.getElem_cons_zero, List.setIfInBounds_toArray, List.set_cons_zero, List.set_cons_succ]
  refine wpAnyH_take (i := 6) (v := ?_) rfl (by kernel_rfl) (by kernel_rfl) (by kernel_rfl) (fun _ _ _ h => h) (Or.inl ⟨by rfl, ?_⟩) (by assumption) ?_
  rotate_left
  · (intro w hSw; (try dsimp only at hSw); go_simp; (try with_reducible rfl))
  try simp only [Act.put, List.getElem_toArray, List.getElem_cons_succ, List.getElem_cons_zero, List.setIfInBounds_toArray, List.set_cons_zero, List.set_cons_succ]
  refine wpAnyH_take (i := 7) (v := ?_) rfl (by kernel_rfl) (by kernel_rfl) (by kernel_rfl) (fun _ _ _ h => h) (Or.inl ⟨by rfl, ?_⟩) (by assumption) ?_
  rotate_left
  · (intro w hSw; (try dsimp only at hSw); go_simp; (try with_reducible rfl))
  try simp only [Act.put, List.getElem_toArray, List.getElem_cons_succ, List.getElem_cons_zero, List.setIfInBounds_toArray, List.set_cons_zero, List.set_cons_succ]
  refine wpAnyH_ready (rs := [8, 12]) (by kernel_rfl) (by simp) ?_
  refine AllReadyH.cons rfl (fun K hK => ?_) (AllReadyH.cons rfl (fun K hK => ?_) AllReadyH.nil)
  · go_simp
    (go_at_call 79; (with_reducible refine (peep_pair.calls 2 _ _ _ _ _ _ _ _ _ _ _ _ _ _ _ _ _ HP.out).mono ?_); rintro e w5 ⟨rfl, hb5⟩)
    try go_wp2_with fail
    have hb6 : Below w1.heap.size w1 w5 := (below_drew (Below.refl _ _)).trans hb5
    clear hHeld
    refine hK.out _ _ (HKEEP.out _ hb6) (fun hHeld => ?_)
    clear hK K hb5
    try simp only [Act.put, List.getElem_toArray, List.getElem_cons_succ, List.getElem_cons_zero, List.setIfInBounds_toArray, List.set_cons_zero, List.set_cons_succ]
    refine wpAnyH_take (i := 9) (v := ?_) rfl (by kernel_rfl) (by kernel_rfl) (by kernel_rfl) (fun _ _ _ h => h) (Or.inl ⟨by rfl, ?_⟩) (by assumption) ?_
    rotate_left
    · (intro w hSw; (try dsimp only at hSw); go_simp; (try with_reducible rfl))
    try simp only [Act.put, List.getElem_toArray, List.getElem_cons_succ, List.getElem_cons_zero, List.setIfInBounds_toArray, List.set_cons_zero, List.set_cons_succ]
    refine wpAnyH_take (i := 10) (v := ?_) rfl (by kernel_rfl) (by kernel_rfl) (by kernel_rfl) (fun _ _ _ h => h) (Or.inl ⟨by rfl, ?_⟩) (by assumption) ?_
    rotate_left
    · (intro w hSw; (try dsimp only at hSw); go_simp; (try with_reducible rfl))
    try simp only [Act.put, List.getElem_toArray, List.getElem_cons_succ, List.getElem_cons_zero, List.setIfInBounds_toArray, List.set_cons_zero, List.set_cons_succ]
    refine wpAnyH_take (i := 11) (v := ?_) rfl (by kernel_rfl) (by kernel_rfl) (by kernel_rfl) (fun _ _ _ h => h) (Or.inl ⟨by rfl, ?_⟩) (by assumption) ?_
    rotate_left
    · (intro w hSw; (try dsimp only at hSw); go_simp; (try with_reducible rfl))
    try simp only [Act.put, List.getElem_toArray, List.getElem_cons_succ, List.getElem_cons_zero, List.setIfInBounds_toArray, List.set_cons_zero, List.set_cons_succ]
    refine wpAnyH_ready (rs := [12]) (by kernel_rfl) (by simp) ?_
    refine AllReadyH.cons rfl (fun K hK => ?_) AllReadyH.nil
    go_simp
    clear hHeld
    refine hK.out _ _ (HKEEP.out _ (below_alloc hb6 _)) (fun hHeld => ?_)
    clear hK K
    try simp only [Act.put, List.getElem_toArray, List.getElem_cons_succ, List.getElem_cons_zero, List.setIfInBounds_toArray, List.set_cons_zero, List.set_cons_succ]
    refine wpAnyH_ready (rs := [13]) (by kernel_rfl) (by simp) ?_
    refine AllReadyH.cons rfl (fun K hK => ?_) AllReadyH.nil
    go_simp
    clear hHeld
    refine hK.out _ _ (HKEEP.out _ (below_alloc hb6 _)) (fun hHeld => ?_)
    clear hK K
    try simp only [Act.put, List.getElem_toArray, List.getElem_cons_succ, List.getElem_cons_zero, List.setIfInBounds_toArray, List.set_cons_zero, List.set_cons_succ]
    refine wpAnyH_take (i := 14) (v := ?_) rfl (by kernel_rfl) (by kernel_rfl) (by kernel_rfl) (fun _ _ _ h => h) (Or.inl ⟨by rfl, ?_⟩) (by assumption) ?_
    rotate_left
    · (intro w hSw; (try dsimp only at hSw); go_simp; (try with_reducible rfl))
    try simp only [Act.put, List.getElem_toArray, List.getElem_cons_succ, List.getElem_cons_zero, List.setIfInBounds_toArray, List.set_cons_zero, List.set_cons_succ]
    refine wpAnyH_done (by kernel_rfl) ?_ _
    have HB6 := Aside0.mk (show Below w1.heap.size w1 (World.alloc w5 (.cells #[(.int .i64 0), (.int .i64 0), (.int .i64 0), (.int .i64 0), (.int .i32 0)] 49)) from below_alloc hb6 _)
    clear hb6
    clear hHeld
    generalize (World.alloc w5 (.cells #[(.int .i64 0), (.int .i64 0), (.int .i64 0), (.int .i64 0), (.int .i32 0)] 49)) = W6 at *
    have HT6 := Aside0.mk (HT1.out.below HB6.out)
    have q0 := blk_cell HT6.out.blk 0
    have f0 := blk_frozen HT6.out.blk 0
    have hlt6 := blk_lt HT6.out.blk
    have hbx := (HB6.out.block _ (blk_lt HBX.out)).trans HBX.out
    have b0 := blk_cell hbx 0
    have b1 := blk_cell hbx 1
    have b2 := blk_cell hbx 2
    have b3 := blk_cell hbx 3
    have b4 := blk_cell hbx 4
    clear hbx
    go_wp2
    go_region_law (rw [drew_alloc]; refine Kd.R_append_step k49 (w0 := W6) base (by rfl) (.tmp 46) (.tmp 48) 26 49 (.agg #[(.int .i64 0), (.int .i64 0), (.int .i64 0), (.int .i64 0), (.int .i32 0)]) 40 rfl Try.underlying26 info49 rfl (by decide) (by decide) (.slice (some ad) out.length c) out x [.int .i64 x.f0, .int .i64 x.f1, .int .i64 x.f2, .int .i64 x.f3, .int .i32 x.f4] (fun _ => True) (fun _ => False) rfl rfl (k49_mkM _ _ _ _) (fun _ hk => hk.elim) (fun _ _ => trivial) (Kd.R_drew HT6.out.rout) (below_drew (Below.refl _ _)) (Nat.le_trans hb (Nat.le_trans HB1.out.size HB6.out.size)) (by omega) ?_; intro v1 w2 ho hb2 hgr hat; obtain ⟨A', c', hv'⟩ := Kd.R_slice ho; subst hv'; have hg3 := (TidV.grown (HT6.out.below (below_drew (Below.refl _ _))) hgr ho).1; have q0' := blk_cell hg3 0; have f0' := blk_frozen hg3 0; have HO := Aside0.mk ho; have HB2 := Aside0.mk hb2; have HG := Aside0.mk hgr; clear ho hb2 hgr hat hg3 q0 f0)
    all_goals
      go_end0
      have hap := TidV.appended (HT6.out.below (below_drew (Below.refl _ _))) HG.out HO.out
      rw [List.length_append, List.length_singleton] at hap
      exact ⟨rfl, ⟨_, _, _, _, _, _, hap⟩, (((HB1.out.mono hb).trans (HB6.out.mono (Nat.le_trans hb HB1.out.size))).trans HB2.out).setCell HT1.out.base_le _⟩
  · go_simp
    clear hHeld
    have hb6 : Below w1.heap.size w1 (World.alloc w1 (.cells #[(.int .i64 0), (.int .i64 0), (.int .i64 0), (.int .i64 0), (.int .i32 0)] 49)).drew := below_drew (below_alloc (Below.refl _ _) _)
    refine hK.out _ _ (HKEEP.out _ hb6) (fun hHeld => ?_)
    clear hK K
    try simp only [Act.put, List.getElem_toArray, List.getElem_cons_succ, List.getElem_cons_zero, List.setIfInBounds_toArray, List.set_cons_zero, List.set_cons_succ]
    refine wpAnyH_ready (rs := [8]) (by kernel_rfl) (by simp) ?_
    refine AllReadyH.cons rfl (fun K hK => ?_) AllReadyH.nil
    go_simp
    (go_at_call 79; (with_reducible refine (peep_pair.calls 2 _ _ _ _ _ _ _ _ _ _ _ _ _ _ _ _ _ HP.out).mono ?_); rintro e w5 ⟨rfl, hb5⟩)
    try go_wp2_with fail
    have hb7 : Below w1.heap.size w1 w5 := hb6.trans (hb5.mono hb6.size)
    have hz : w5.heap[w1.heap.size]? = some (.cells #[(.int .i64 0), (.int .i64 0), (.int .i64 0), (.int .i64 0), (.int .i32 0)] 49) := (hb5.block w1.heap.size HLT.out).trans HAL.out
    have HZ := Aside0.mk hz
    clear hHeld hb5 hz
    refine hK.out _ _ (HKEEP.out _ hb7) (fun hHeld => ?_)
    clear hK K hb6
    try simp only [Act.put, List.getElem_toArray, List.getElem_cons_succ, List.getElem_cons_zero, List.setIfInBounds_toArray, List.set_cons_zero, List.set_cons_succ]
    refine wpAnyH_take (i := 9) (v := ?_) rfl (by kernel_rfl) (by kernel_rfl) (by kernel_rfl) (fun _ _ _ h => h) (Or.inl ⟨by rfl, ?_⟩) (by assumption) ?_
    rotate_left
    · (intro w hSw; (try dsimp only at hSw); go_simp; (try with_reducible rfl))
    try simp only [Act.put, List.getElem_toArray, List.getElem_cons_succ, List.getElem_cons_zero, List.setIfInBounds_toArray, List.set_cons_zero, List.set_cons_succ]
    refine wpAnyH_take (i := 10) (v := ?_) rfl (by kernel_rfl) (by kernel_rfl) (by kernel_rfl) (fun _ _ _ h => h) (Or.inl ⟨by rfl, ?_⟩) (by assumption) ?_
    rotate_left
    · (intro w hSw; (try dsimp only at hSw); go_simp; (try with_reducible rfl))
    try simp only [Act.put, List.getElem_toArray, List.getElem_cons_succ, List.getElem_cons_zero, List.setIfInBounds_toArray, List.set_cons_zero, List.set_cons_succ]
    refine wpAnyH_take (i := 11) (v := ?_) rfl (by kernel_rfl) (by kernel_rfl) (by kernel_rfl) (fun _ _ _ h => h) (Or.inl ⟨by rfl, ?_⟩) (by assumption) ?_
    rotate_left
    · (intro w hSw; (try dsimp only at hSw); go_simp; (try with_reducible rfl))
    try simp only [Act.put, List.getElem_toArray, List.getElem_cons_succ, List.getElem_cons_zero, List.setIfInBounds_toArray, List.set_cons_zero, List.set_cons_succ]
    refine wpAnyH_ready (rs := [13]) (by kernel_rfl) (by simp) ?_
    refine AllReadyH.cons rfl (fun K hK => ?_) AllReadyH.nil
    clear hHeld
    have z0 := blk_cell HZ.out 0
    have z1 := blk_cell HZ.out 1
    have z2 := blk_cell HZ.out 2
    have z3 := blk_cell HZ.out 3
    have z4 := blk_cell HZ.out 4
    have y0 := blk_frozen HZ.out 0
    have y1 := blk_frozen HZ.out 1
    have y2 := blk_frozen HZ.out 2
    have y3 := blk_frozen HZ.out 3
    have y4 := blk_frozen HZ.out 4
    go_simp
    refine hK.out _ _ (HKEEP.out _ (Below.setCell (Below.setCell (Below.setCell (Below.setCell (Below.setCell hb7 (Nat.le_refl _) _) (Nat.le_refl _) _) (Nat.le_refl _) _) (Nat.le_refl _) _) (Nat.le_refl _) _)) (fun hHeld => ?_)
    clear hK K z0 z1 z2 z3 z4 y0 y1 y2 y3 y4
    try simp only [Act.put, List.getElem_toArray, List.getElem_cons_succ, List.getElem_cons_zero, List.setIfInBounds_toArray, List.set_cons_zero, List.set_cons_succ]
    refine wpAnyH_take (i := 14) (v := ?_) rfl (by kernel_rfl) (by kernel_rfl) (by kernel_rfl) (fun _ _ _ h => h) (Or.inl ⟨by rfl, ?_⟩) (by assumption) ?_
    rotate_left
    · (intro w hSw; (try dsimp only at hSw); go_simp; (try with_reducible rfl))
    try simp only [Act.put, List.getElem_toArray, List.getElem_cons_succ, List.getElem_cons_zero, List.setIfInBounds_toArray, List.set_cons_zero, List.set_cons_succ]
    refine wpAnyH_done (by kernel_rfl) ?_ _
    have HB6 := Aside0.mk (show Below w1.heap.size w1 (World.setCell (World.setCell (World.setCell (World.setCell (World.setCell w5 ⟨w1.heap.size, 0, none⟩ (.int .i64 0)) ⟨w1.heap.size, 1, none⟩ (.int .i64 0)) ⟨w1.heap.size, 2, none⟩ (.int .i64 0)) ⟨w1.heap.size, 3, none⟩ (.int .i64 0)) ⟨w1.heap.size, 4, none⟩ (.int .i32 0)) from (Below.setCell (Below.setCell (Below.setCell (Below.setCell (Below.setCell hb7 (Nat.le_refl _) _) (Nat.le_refl _) _) (Nat.le_refl _) _) (Nat.le_refl _) _) (Nat.le_refl _) _))
    clear hb7
    clear hHeld
    generalize (World.setCell (World.setCell (World.setCell (World.setCell (World.setCell w5 ⟨w1.heap.size, 0, none⟩ (.int .i64 0)) ⟨w1.heap.size, 1, none⟩ (.int .i64 0)) ⟨w1.heap.size, 2, none⟩ (.int .i64 0)) ⟨w1.heap.size, 3, none⟩ (.int .i64 0)) ⟨w1.heap.size, 4, none⟩ (.int .i32 0)) = W6 at *
    have HT6 := Aside0.mk (HT1.out.below HB6.out)
    have q0 := blk_cell HT6.out.blk 0
    have f0 := blk_frozen HT6.out.blk 0
    have hlt6 := blk_lt HT6.out.blk
    have hbx := (HB6.out.block _ (blk_lt HBX.out)).trans HBX.out
    have b0 := blk_cell hbx 0
    have b1 := blk_cell hbx 1
    have b2 := blk_cell hbx 2
    have b3 := blk_cell hbx 3
    have b4 := blk_cell hbx 4
    clear hbx
    go_wp2
    go_region_law (rw [drew_alloc]; refine Kd.R_append_step k49 (w0 := W6) base (by rfl) (.tmp 46) (.tmp 48) 26 49 (.agg #[(.int .i64 0), (.int .i64 0), (.int .i64 0), (.int .i64 0), (.int .i32 0)]) 40 rfl Try.underlying26 info49 rfl (by decide) (by decide) (.slice (some ad) out.length c) out x [.int .i64 x.f0, .int .i64 x.f1, .int .i64 x.f2, .int .i64 x.f3, .int .i32 x.f4] (fun _ => True) (fun _ => False) rfl rfl (k49_mkM _ _ _ _) (fun _ hk => hk.elim) (fun _ _ => trivial) (Kd.R_drew HT6.out.rout) (below_drew (Below.refl _ _)) (Nat.le_trans hb (Nat.le_trans HB1.out.size HB6.out.size)) (by omega) ?_; intro v1 w2 ho hb2 hgr hat; obtain ⟨A', c', hv'⟩ := Kd.R_slice ho; subst hv'; have hg3 := (TidV.grown (HT6.out.below (below_drew (Below.refl _ _))) hgr ho).1; have q0' := blk_cell hg3 0; have f0' := blk_frozen hg3 0; have HO := Aside0.mk ho; have HB2 := Aside0.mk hb2; have HG := Aside0.mk hgr; clear ho hb2 hgr hat hg3 q0 f0)
    all_goals
      go_end0
      have hap := TidV.appended (HT6.out.below (below_drew (Below.refl _ _))) HG.out HO.out
      rw [List.length_append, List.length_singleton] at hap
      exact ⟨rfl, ⟨_, _, _, _, _, _, hap⟩, (((HB1.out.mono hb).trans (HB6.out.mono (Nat.le_trans hb HB1.out.size))).trans HB2.out).setCell HT1.out.base_le _⟩
set_option maxHeartbeats 4000000 in
theorem put_pair (w : World) (base g : Nat) (out res : List S49) (op vs : List Int) (x : S49) (h : TidAt w base g out op vs) (hb : base ≤ w.heap.size) (hi : idleS x = false) (hl : 0 < out.length) (hmax : out.length < 1000000) (z : S49) (hp : pairV (rd_T49 out ((out.length : Int) - 1)) x = some z) (IH : ∀ (W : World), base ≤ W.heap.size → TidAt W base g (out.take (out.length - 1)) op vs → Calls Try.prog 53 #[.pointer (some ⟨g, 0, none⟩), .agg #[.int .i64 z.f0, .int .i64 z.f1, .int .i64 z.f2, .int .i64 z.f3, .int .i32 z.f4]] W (TidTold W base g res op vs)) :
    Calls Try.prog 53 #[.pointer (some ⟨g, 0, none⟩), .agg #[.int .i64 x.f0, .int .i64 x.f1, .int .i64 x.f2, .int .i64 x.f3, .int .i32 x.f4]] w (TidTold w base g res op vs) := by
  obtain ⟨A, c, A1, c1, A2, c2, hv⟩ := h
  have HT := Aside0.mk hv
  have he : peep_idle.f 2 x.f0 x.f1 x.f2 x.f3 x.f4 = some false := by rw [idle_eq 0]; congr 1
  have HE := Aside0.mk he
  have hlt := blk_lt hv.blk
  obtain ⟨_, hcap, hC⟩ := Kd.R_reads' hv.rout
  obtain ⟨ad, rfl, e0, e1, e2, e3, e4⟩ := at_T49 hC ((out.length : Int) - 1) (by omega) (by omega)
  rw [show ((out.length : Int) - 1).toNat = out.length - 1 by omega] at e0 e1 e2 e3 e4
  obtain ⟨y, hy⟩ : ∃ y, y = rd_T49 out ((out.length : Int) - 1) := ⟨_, rfl⟩
  rw [← hy] at e0 e1 e2 e3 e4 hp
  have hpe : peep_pair.f 2 y.f0 y.f1 y.f2 y.f3 y.f4 x.f0 x.f1 x.f2 x.f3 x.f4 = some (z.f0, z.f1, z.f2, z.f3, z.f4, true) := by rw [pair_eq 0]; unfold pairR; rw [hp]
  have HP := Aside0.mk hpe
  have HE0 := Aside0.mk e0
  have HE1 := Aside0.mk e1
  have HE2 := Aside0.mk e2
  have HE3 := Aside0.mk e3
  have HE4 := Aside0.mk e4
  have hk0 : decide ((0 : Int) ≤ (out.length : Int) - 1) = true := decide_eq_true (by omega)
  have hk1 : (0 : Int) ≤ (out.length : Int) - 1 := by omega
  have hk2 : (out.length : Int) - 1 < (out.length : Int) := by omega
  obtain ⟨i0, hi0, hz0, hz1, hz2⟩ := info_parts info49
  have hcut := cut_to (P := Try.prog) 26 49 .i64 Try.underlying26 hi0 (some ad) out.length c ((out.length : Int) - 1) (by omega) (by omega) hcap
  rw [show ((out.length : Int) - 1).toNat = out.length - 1 by omega] at hcut
  have HIH := Aside0.mk IH
  clear hi0 hz0 hz1 hz2 IH
  clear hv hi he hcap hC hy hpe hp e0 e1 e2 e3 e4
  go_enter Try.func53, Try.ntmps53
  go_wp2_with (first | (go_at_call 57; (with_reducible refine (peep_idle.calls 2 _ _ _ _ _ false _ HE.out).mono ?_); rintro e w1 ⟨rfl, hb1⟩; have HB1 := Aside0.mk ((below_alloc (Below.refl w.heap.size w) _).trans (hb1.mono (by simp))); have hbx := (hb1.block w.heap.size (by simp)).trans (heap_alloc_new w _); have HT1 := Aside0.mk (HT.out.below HB1.out); have q0 := blk_cell HT1.out.blk 0; have f0 := blk_frozen HT1.out.blk 0; have HBX := Aside0.mk hbx; clear hb1 hbx))
  have HKEEP := Aside0.mk (show ∀ W' : World, Below w1.heap.size w1 W' → (W'.cell? ⟨g, 0, none⟩ = some (.slice (some ad) out.length c) ∧ W'.cell? (ad.add ((out.length - 1) * 5)) = some (.int .i64 y.f0) ∧ W'.cell? ⟨(ad.add ((out.length - 1) * 5)).block, (ad.add ((out.length - 1) * 5)).off + 1, none⟩ = some (.int .i64 y.f1) ∧ W'.cell? ⟨(ad.add ((out.length - 1) * 5)).block, (ad.add ((out.length - 1) * 5)).off + 2, none⟩ = some (.int .i64 y.f2) ∧ W'.cell? ⟨(ad.add ((out.length - 1) * 5)).block, (ad.add ((out.length - 1) * 5)).off + 3, none⟩ = some (.int .i64 y.f3) ∧ W'.cell? ⟨(ad.add ((out.length - 1) * 5)).block, (ad.add ((out.length - 1) * 5)).off + 4, none⟩ = some (.int .i32 y.f4) ∧ W'.cell? ⟨w.heap.size, 0, none⟩ = some (.int .i64 x.f0) ∧ W'.cell? ⟨w.heap.size, 1, none⟩ = some (.int .i64 x.f1) ∧ W'.cell? ⟨w.heap.size, 2, none⟩ = some (.int .i64 x.f2) ∧ W'.cell? ⟨w.heap.size, 3, none⟩ = some (.int .i64 x.f3) ∧ W'.cell? ⟨w.heap.size, 4, none⟩ = some (.int .i32 x.f4) ∧ Below w1.heap.size w1 W') from fun W' h1 => by
    have hbx := (h1.block _ (blk_lt HBX.out)).trans HBX.out
    have z := HB1.out.trans (h1.mono HB1.out.size)
    exact ⟨blk_cell (HT1.out.below h1).blk 0, pw_cell_below z HE0.out, pw_cell_below z HE1.out, pw_cell_below z HE2.out, pw_cell_below z HE3.out, pw_cell_below z HE4.out, blk_cell hbx 0, blk_cell hbx 1, blk_cell hbx 2, blk_cell hbx 3, blk_cell hbx 4, h1⟩)
  have HAL := Aside0.mk (show (World.alloc w1 (.cells #[(.int .i64 0), (.int .i64 0), (.int .i64 0), (.int .i64 0), (.int .i32 0)] 49)).drew.heap[w1.heap.size]? = some (.cells #[(.int .i64 0), (.int .i64 0), (.int .i64 0), (.int .i64 0), (.int .i32 0)] 49) from heap_alloc_new w1 (.cells #[(.int .i64 0), (.int .i64 0), (.int .i64 0), (.int .i64 0), (.int .i32 0)] 49))
  have HLT := Aside0.mk (show w1.heap.size < (World.alloc w1 (.cells #[(.int .i64 0), (.int .i64 0), (.int .i64 0), (.int .i64 0), (.int .i32 0)] 49)).drew.heap.size from by show w1.heap.size < (World.alloc w1 (.cells #[(.int .i64 0), (.int .i64 0), (.int .i64 0), (.int .i64 0), (.int .i32 0)] 49)).heap.size; rw [size_alloc]; exact Nat.lt_succ_self _)
  clear q0 f0
  refine wp_region_held_drew (S := (fun W' => W'.cell? ⟨g, 0, none⟩ = some (.slice (some ad) out.length c) ∧ W'.cell? (ad.add ((out.length - 1) * 5)) = some (.int .i64 y.f0) ∧ W'.cell? ⟨(ad.add ((out.length - 1) * 5)).block, (ad.add ((out.length - 1) * 5)).off + 1, none⟩ = some (.int .i64 y.f1) ∧ W'.cell? ⟨(ad.add ((out.length - 1) * 5)).block, (ad.add ((out.length - 1) * 5)).off + 2, none⟩ = some (.int .i64 y.f2) ∧ W'.cell? ⟨(ad.add ((out.length - 1) * 5)).block, (ad.add ((out.length - 1) * 5)).off + 3, none⟩ = some (.int .i64 y.f3) ∧ W'.cell? ⟨(ad.add ((out.length - 1) * 5)).block, (ad.add ((out.length - 1) * 5)).off + 4, none⟩ = some (.int .i32 y.f4) ∧ W'.cell? ⟨w.heap.size, 0, none⟩ = some (.int .i64 x.f0) ∧ W'.cell? ⟨w.heap.size, 1, none⟩ = some (.int .i64 x.f1) ∧ W'.cell? ⟨w.heap.size, 2, none⟩ = some (.int .i64 x.f2) ∧ W'.cell? ⟨w.heap.size, 3, none⟩ = some (.int .i64 x.f3) ∧ W'.cell? ⟨w.heap.size, 4, none⟩ = some (.int .i32 x.f4) ∧ Below w1.heap.size w1 W')) (by kernel_rfl) (HKEEP.out _ (below_drew (Below.refl _ _))) (fun hHeld => ?_)
  refine wpAnyH_take (i := 0) (v := ?_) rfl (by kernel_rfl) (by kernel_rfl) (by kernel_rfl) (fun _ _ _ h => h) (Or.inl ⟨by rfl, ?_⟩) (by assumption) ?_
  rotate_left
  · (intro w hSw; (try dsimp only at hSw); go_simp; (try with_reducible rfl))
  try simp only [Act.put, List.getElem_toArray, List.getElem_cons_succ, List.getElem_cons_zero, List.setIfInBounds_toArray, List.set_cons_zero, List.set_cons_succ]
  refine wpAnyH_take (i := 1) (v := ?_) rfl (by kernel_rfl) (by kernel_rfl) (by kernel_rfl) (fun _ _ _ h => h) (Or.inl ⟨by rfl, ?_⟩) (by assumption) ?_
  rotate_left
  · (intro w hSw; (try dsimp only at hSw); go_simp; (try with_reducible rfl))
  try simp only [Act.put, List.getElem_toArray, List.getElem_cons_succ, List.getElem_cons_zero, List.setIfInBounds_toArray, List.set_cons_zero, List.set_cons_succ]
  refine wpAnyH_take (i := 2) (v := ?_) rfl (by kernel_rfl) (by kernel_rfl) (by kernel_rfl) (fun _ _ _ h => h) (Or.inl ⟨by rfl, ?_⟩) (by assumption) ?_
  rotate_left
  · (intro w hSw; (try dsimp only at hSw); go_simp; (try with_reducible rfl))
  try simp only [Act.put, List.getElem_toArray, List.getElem_cons_succ, List.getElem_cons_zero, List.setIfInBounds_toArray, List.set_cons_zero, List.set_cons_succ]
  refine wpAnyH_take (i := 3) (v := ?_) rfl (by kernel_rfl) (by kernel_rfl) (by kernel_rfl) (fun _ _ _ h => h) (Or.inl ⟨by rfl, ?_⟩) (by assumption) ?_
  rotate_left
  · (intro w hSw; (try dsimp only at hSw); go_simp; (try with_reducible rfl))
  try simp only [Act.put, List.getElem_toArray, List.getElem_cons_succ, List.getElem_cons_zero, List.setIfInBounds_toArray, List.set_cons_zero, List.set_cons_succ]
  refine wpAnyH_take (i := 4) (v := ?_) rfl (by kernel_rfl) (by kernel_rfl) (by kernel_rfl) (fun _ _ _ h => h) (Or.inl ⟨by rfl, ?_⟩) (by assumption) ?_
  rotate_left
  · (intro w hSw; (try dsimp only at hSw); go_simp; (try with_reducible rfl))
  try simp only [Act.put, List.getElem_toArray, List.getElem_cons_succ, List.getElem_cons_zero, List.setIfInBounds_toArray, List.set_cons_zero, List.set_cons_succ]
  refine wpAnyH_take (i := 5) (v := ?_) rfl (by kernel_rfl) (by kernel_rfl) (by kernel_rfl) (fun _ _ _ h => h) (Or.inl ⟨by rfl, ?_⟩) (by assumption) ?_
  rotate_left
  · (intro w hSw; (try dsimp only at hSw); go_simp; (try with_reducible rfl))
  try simp only [Act.put, List.getElem_toArray, List.getElem_cons_succ, List.getElem_cons_zero, List.setIfInBounds_toArray, List.set_cons_zero, List.set_cons_succ]
  refine wpAnyH_take (i := 6) (v := ?_) rfl (by kernel_rfl) (by kernel_rfl) (by kernel_rfl) (fun _ _ _ h => h) (Or.inl ⟨by rfl, ?_⟩) (by assumption) ?_
  rotate_left
  · (intro w hSw; (try dsimp only at hSw); go_simp; (try with_reducible rfl))
  try simp only [Act.put, List.getElem_toArray, List.getElem_cons_succ, List.getElem_cons_zero, List.setIfInBounds_toArray, List.set_cons_zero, List.set_cons_succ]
  refine wpAnyH_take (i := 7) (v := ?_) rfl (by kernel_rfl) (by kernel_rfl) (by kernel_rfl) (fun _ _ _ h => h) (Or.inl ⟨by rfl, ?_⟩) (by assumption) ?_
  rotate_left
  · (intro w hSw; (try dsimp only at hSw); go_simp; (try with_reducible rfl))
  try simp only [Act.put, List.getElem_toArray, List.getElem_cons_succ, List.getElem_cons_zero, List.setIfInBounds_toArray, List.set_cons_zero, List.set_cons_succ]
  refine wpAnyH_ready (rs := [8, 12]) (by kernel_rfl) (by simp) ?_
  refine AllReadyH.cons rfl (fun K hK => ?_) (AllReadyH.cons rfl (fun K hK => ?_) AllReadyH.nil)
  · go_simp
    (go_at_call 79; (with_reducible refine (peep_pair.calls 2 _ _ _ _ _ _ _ _ _ _ _ _ _ _ _ _ _ HP.out).mono ?_); rintro e w5 ⟨rfl, hb5⟩)
    try go_wp2_with fail
    have hb6 : Below w1.heap.size w1 w5 := (below_drew (Below.refl _ _)).trans hb5
    clear hHeld
    refine hK.out _ _ (HKEEP.out _ hb6) (fun hHeld => ?_)
    clear hK K hb5
    try simp only [Act.put, List.getElem_toArray, List.getElem_cons_succ, List.getElem_cons_zero, List.setIfInBounds_toArray, List.set_cons_zero, List.set_cons_succ]
    refine wpAnyH_take (i := 9) (v := ?_) rfl (by kernel_rfl) (by kernel_rfl) (by kernel_rfl) (fun _ _ _ h => h) (Or.inl ⟨by rfl, ?_⟩) (by assumption) ?_
    rotate_left
    · (intro w hSw; (try dsimp only at hSw); go_simp; (try with_reducible rfl))
    try simp only [Act.put, List.getElem_toArray, List.getElem_cons_succ, List.getElem_cons_zero, List.setIfInBounds_toArray, List.set_cons_zero, List.set_cons_succ]
    refine wpAnyH_take (i := 10) (v := ?_) rfl (by kernel_rfl) (by kernel_rfl) (by kernel_rfl) (fun _ _ _ h => h) (Or.inl ⟨by rfl, ?_⟩) (by assumption) ?_
    rotate_left
    · (intro w hSw; (try dsimp only at hSw); go_simp; (try with_reducible rfl))
    try simp only [Act.put, List.getElem_toArray, List.getElem_cons_succ, List.getElem_cons_zero, List.setIfInBounds_toArray, List.set_cons_zero, List.set_cons_succ]
    refine wpAnyH_take (i := 11) (v := ?_) rfl (by kernel_rfl) (by kernel_rfl) (by kernel_rfl) (fun _ _ _ h => h) (Or.inl ⟨by rfl, ?_⟩) (by assumption) ?_
    rotate_left
    · (intro w hSw; (try dsimp only at hSw); go_simp; (try with_reducible rfl))
    try simp only [Act.put, List.getElem_toArray, List.getElem_cons_succ, List.getElem_cons_zero, List.setIfInBounds_toArray, List.set_cons_zero, List.set_cons_succ]
    refine wpAnyH_ready (rs := [12]) (by kernel_rfl) (by simp) ?_
    refine AllReadyH.cons rfl (fun K hK => ?_) AllReadyH.nil
    go_simp
    clear hHeld
    refine hK.out _ _ (HKEEP.out _ (below_alloc hb6 _)) (fun hHeld => ?_)
    clear hK K
    try simp only [Act.put, List.getElem_toArray, List.getElem_cons_succ, List.getElem_cons_zero, List.setIfInBounds_toArray, List.set_cons_zero, List.set_cons_succ]
    refine wpAnyH_ready (rs := [13]) (by kernel_rfl) (by simp) ?_
    refine AllReadyH.cons rfl (fun K hK => ?_) AllReadyH.nil
    go_simp
    clear hHeld
    refine hK.out _ _ (HKEEP.out _ (below_alloc hb6 _)) (fun hHeld => ?_)
    clear hK K
    try simp only [Act.put, List.getElem_toArray, List.getElem_cons_succ, List.getElem_cons_zero, List.setIfInBounds_toArray, List.set_cons_zero, List.set_cons_succ]
    refine wpAnyH_take (i := 14) (v := ?_) rfl (by kernel_rfl) (by kernel_rfl) (by kernel_rfl) (fun _ _ _ h => h) (Or.inl ⟨by rfl, ?_⟩) (by assumption) ?_
    rotate_left
    · (intro w hSw; (try dsimp only at hSw); go_simp; (try with_reducible rfl))
    try simp only [Act.put, List.getElem_toArray, List.getElem_cons_succ, List.getElem_cons_zero, List.setIfInBounds_toArray, List.set_cons_zero, List.set_cons_succ]
    refine wpAnyH_done (by kernel_rfl) ?_ _
    have HB6 := Aside0.mk (show Below w1.heap.size w1 (World.alloc w5 (.cells #[(.int .i64 z.f0), (.int .i64 z.f1), (.int .i64 z.f2), (.int .i64 z.f3), (.int .i32 z.f4)] 49)) from below_alloc hb6 _)
    obtain ⟨NB, hNB⟩ : ∃ NB, NB = w5.heap.size := ⟨_, rfl⟩
    have hy6 : (World.alloc w5 (.cells #[(.int .i64 z.f0), (.int .i64 z.f1), (.int .i64 z.f2), (.int .i64 z.f3), (.int .i32 z.f4)] 49)).heap[NB]? = some (.cells #[(.int .i64 z.f0), (.int .i64 z.f1), (.int .i64 z.f2), (.int .i64 z.f3), (.int .i32 z.f4)] 49 (0, 0)) := by rw [hNB]; exact heap_alloc_new w5 _
    rw [← hNB]
    clear hNB
    clear hb6
    clear hHeld
    have HY := Aside0.mk hy6
    generalize (World.alloc w5 (.cells #[(.int .i64 z.f0), (.int .i64 z.f1), (.int .i64 z.f2), (.int .i64 z.f3), (.int .i32 z.f4)] 49)) = W6 at *
    have HT6 := Aside0.mk (HT1.out.below HB6.out)
    have q0 := blk_cell HT6.out.blk 0
    have f0 := blk_frozen HT6.out.blk 0
    have hlt6 := blk_lt HT6.out.blk
    have u0 := blk_cell HY.out 0
    have u1 := blk_cell HY.out 1
    have u2 := blk_cell HY.out 2
    have u3 := blk_cell HY.out 3
    have u4 := blk_cell HY.out 4
    have hbne : ¬ (g = NB) := fun e => by have h1 := HT6.out.blk; rw [e, HY.out] at h1; injection h1 with h1; injection h1 with _ h1; exact absurd h1 (by decide)
    have hbne2 : ¬ (NB = g) := fun e => hbne e.symm
    go_wp2_with (first | (go_at_call 53; refine (HIH.out _ ?h1 ?h2).mono ?_; (case h1 => exact Nat.le_trans hb (Nat.le_trans HB1.out.size (by simpa [World.setCell] using HB6.out.size))); (case h2 => exact ⟨_, _, _, _, _, _, HT6.out.cut (out.length - 1) (by omega)⟩); rintro e w9 ⟨rfl, ht9, hb9⟩))
    go_end0
    exact ⟨rfl, ht9, (((HB1.out.mono hb).trans (HB6.out.mono (Nat.le_trans hb HB1.out.size))).setCell HT1.out.base_le _).trans hb9⟩
  · go_simp
    clear hHeld
    have hb6 : Below w1.heap.size w1 (World.alloc w1 (.cells #[(.int .i64 0), (.int .i64 0), (.int .i64 0), (.int .i64 0), (.int .i32 0)] 49)).drew := below_drew (below_alloc (Below.refl _ _) _)
    refine hK.out _ _ (HKEEP.out _ hb6) (fun hHeld => ?_)
    clear hK K
    try simp only [Act.put, List.getElem_toArray, List.getElem_cons_succ, List.getElem_cons_zero, List.setIfInBounds_toArray, List.set_cons_zero, List.set_cons_succ]
    refine wpAnyH_ready (rs := [8]) (by kernel_rfl) (by simp) ?_
    refine AllReadyH.cons rfl (fun K hK => ?_) AllReadyH.nil
    go_simp
    (go_at_call 79; (with_reducible refine (peep_pair.calls 2 _ _ _ _ _ _ _ _ _ _ _ _ _ _ _ _ _ HP.out).mono ?_); rintro e w5 ⟨rfl, hb5⟩)
    try go_wp2_with fail
    have hb7 : Below w1.heap.size w1 w5 := hb6.trans (hb5.mono hb6.size)
    have hz : w5.heap[w1.heap.size]? = some (.cells #[(.int .i64 0), (.int .i64 0), (.int .i64 0), (.int .i64 0), (.int .i32 0)] 49) := (hb5.block w1.heap.size HLT.out).trans HAL.out
    have HZ := Aside0.mk hz
    clear hHeld hb5 hz
    refine hK.out _ _ (HKEEP.out _ hb7) (fun hHeld => ?_)
    clear hK K hb6
    try simp only [Act.put, List.getElem_toArray, List.getElem_cons_succ, List.getElem_cons_zero, List.setIfInBounds_toArray, List.set_cons_zero, List.set_cons_succ]
    refine wpAnyH_take (i := 9) (v := ?_) rfl (by kernel_rfl) (by kernel_rfl) (by kernel_rfl) (fun _ _ _ h => h) (Or.inl ⟨by rfl, ?_⟩) (by assumption) ?_
    rotate_left
    · (intro w hSw; (try dsimp only at hSw); go_simp; (try with_reducible rfl))
    try simp only [Act.put, List.getElem_toArray, List.getElem_cons_succ, List.getElem_cons_zero, List.setIfInBounds_toArray, List.set_cons_zero, List.set_cons_succ]
    refine wpAnyH_take (i := 10) (v := ?_) rfl (by kernel_rfl) (by kernel_rfl) (by kernel_rfl) (fun _ _ _ h => h) (Or.inl ⟨by rfl, ?_⟩) (by assumption) ?_
    rotate_left
    · (intro w hSw; (try dsimp only at hSw); go_simp; (try with_reducible rfl))
    try simp only [Act.put, List.getElem_toArray, List.getElem_cons_succ, List.getElem_cons_zero, List.setIfInBounds_toArray, List.set_cons_zero, List.set_cons_succ]
    refine wpAnyH_take (i := 11) (v := ?_) rfl (by kernel_rfl) (by kernel_rfl) (by kernel_rfl) (fun _ _ _ h => h) (Or.inl ⟨by rfl, ?_⟩) (by assumption) ?_
    rotate_left
    · (intro w hSw; (try dsimp only at hSw); go_simp; (try with_reducible rfl))
    try simp only [Act.put, List.getElem_toArray, List.getElem_cons_succ, List.getElem_cons_zero, List.setIfInBounds_toArray, List.set_cons_zero, List.set_cons_succ]
    refine wpAnyH_ready (rs := [13]) (by kernel_rfl) (by simp) ?_
    refine AllReadyH.cons rfl (fun K hK => ?_) AllReadyH.nil
    clear hHeld
    have z0 := blk_cell HZ.out 0
    have z1 := blk_cell HZ.out 1
    have z2 := blk_cell HZ.out 2
    have z3 := blk_cell HZ.out 3
    have z4 := blk_cell HZ.out 4
    have y0 := blk_frozen HZ.out 0
    have y1 := blk_frozen HZ.out 1
    have y2 := blk_frozen HZ.out 2
    have y3 := blk_frozen HZ.out 3
    have y4 := blk_frozen HZ.out 4
    go_simp
    refine hK.out _ _ (HKEEP.out _ (Below.setCell (Below.setCell (Below.setCell (Below.setCell (Below.setCell hb7 (Nat.le_refl _) _) (Nat.le_refl _) _) (Nat.le_refl _) _) (Nat.le_refl _) _) (Nat.le_refl _) _)) (fun hHeld => ?_)
    clear hK K z0 z1 z2 z3 z4 y0 y1 y2 y3 y4
    try simp only [Act.put, List.getElem_toArray, List.getElem_cons_succ, List.getElem_cons_zero, List.setIfInBounds_toArray, List.set_cons_zero, List.set_cons_succ]
    refine wpAnyH_take (i := 14) (v := ?_) rfl (by kernel_rfl) (by kernel_rfl) (by kernel_rfl) (fun _ _ _ h => h) (Or.inl ⟨by rfl, ?_⟩) (by assumption) ?_
    rotate_left
    · (intro w hSw; (try dsimp only at hSw); go_simp; (try with_reducible rfl))
    try simp only [Act.put, List.getElem_toArray, List.getElem_cons_succ, List.getElem_cons_zero, List.setIfInBounds_toArray, List.set_cons_zero, List.set_cons_succ]
    refine wpAnyH_done (by kernel_rfl) ?_ _
    have HB6 := Aside0.mk (show Below w1.heap.size w1 (World.setCell (World.setCell (World.setCell (World.setCell (World.setCell w5 ⟨w1.heap.size, 0, none⟩ (.int .i64 z.f0)) ⟨w1.heap.size, 1, none⟩ (.int .i64 z.f1)) ⟨w1.heap.size, 2, none⟩ (.int .i64 z.f2)) ⟨w1.heap.size, 3, none⟩ (.int .i64 z.f3)) ⟨w1.heap.size, 4, none⟩ (.int .i32 z.f4)) from (Below.setCell (Below.setCell (Below.setCell (Below.setCell (Below.setCell hb7 (Nat.le_refl _) _) (Nat.le_refl _) _) (Nat.le_refl _) _) (Nat.le_refl _) _) (Nat.le_refl _) _))
    have hy6 : (World.setCell (World.setCell (World.setCell (World.setCell (World.setCell w5 ⟨w1.heap.size, 0, none⟩ (.int .i64 z.f0)) ⟨w1.heap.size, 1, none⟩ (.int .i64 z.f1)) ⟨w1.heap.size, 2, none⟩ (.int .i64 z.f2)) ⟨w1.heap.size, 3, none⟩ (.int .i64 z.f3)) ⟨w1.heap.size, 4, none⟩ (.int .i32 z.f4)).heap[w1.heap.size]? = some (.cells #[(.int .i64 z.f0), (.int .i64 z.f1), (.int .i64 z.f2), (.int .i64 z.f3), (.int .i32 z.f4)] 49 (0, 0)) := by rw [heap_setCell_same _ _ _ _ _ _ (heap_setCell_same _ _ _ _ _ _ (heap_setCell_same _ _ _ _ _ _ (heap_setCell_same _ _ _ _ _ _ (heap_setCell_same _ _ _ _ _ _ HZ.out))))]; rfl
    clear hb7
    clear hHeld
    have HY := Aside0.mk hy6
    generalize (World.setCell (World.setCell (World.setCell (World.setCell (World.setCell w5 ⟨w1.heap.size, 0, none⟩ (.int .i64 z.f0)) ⟨w1.heap.size, 1, none⟩ (.int .i64 z.f1)) ⟨w1.heap.size, 2, none⟩ (.int .i64 z.f2)) ⟨w1.heap.size, 3, none⟩ (.int .i64 z.f3)) ⟨w1.heap.size, 4, none⟩ (.int .i32 z.f4)) = W6 at *
    have HT6 := Aside0.mk (HT1.out.below HB6.out)
    have q0 := blk_cell HT6.out.blk 0
    have f0 := blk_frozen HT6.out.blk 0
    have hlt6 := blk_lt HT6.out.blk
    have u0 := blk_cell HY.out 0
    have u1 := blk_cell HY.out 1
    have u2 := blk_cell HY.out 2
    have u3 := blk_cell HY.out 3
    have u4 := blk_cell HY.out 4
    have hbne : ¬ (g = w1.heap.size) := fun e => by have h1 := HT6.out.blk; rw [e, HY.out] at h1; injection h1 with h1; injection h1 with _ h1; exact absurd h1 (by decide)
    have hbne2 : ¬ (w1.heap.size = g) := fun e => hbne e.symm
    go_wp2_with (first | (go_at_call 53; refine (HIH.out _ ?h1 ?h2).mono ?_; (case h1 => exact Nat.le_trans hb (Nat.le_trans HB1.out.size (by simpa [World.setCell] using HB6.out.size))); (case h2 => exact ⟨_, _, _, _, _, _, HT6.out.cut (out.length - 1) (by omega)⟩); rintro e w9 ⟨rfl, ht9, hb9⟩))
    go_end0
    exact ⟨rfl, ht9, (((HB1.out.mono hb).trans (HB6.out.mono (Nat.le_trans hb HB1.out.size))).setCell HT1.out.base_le _).trans hb9⟩
end Go.Proofs.Ytpeljnnbknnbmaa.PB
