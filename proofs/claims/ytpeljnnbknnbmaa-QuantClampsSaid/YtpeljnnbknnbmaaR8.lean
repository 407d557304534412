import Derived.Test.YtpeljnnbknnbmaaM6
import Derived.Test.YtpeljnnbknnbmaaR7
import Derived.Deep.MidRow
namespace Go.Proofs.Ytpeljnnbknnbmaa.PA
open Go.RowKit Go.Proofs.YtpeljnnbknnbmaaW.PrintWords Go.Proofs.YtpeljnnbknnbmaaW.PrintLast Go.Proofs.YtpeljnnbknnbmaaW.PrintMore
set_option linter.unusedVariables false
set_option linter.unusedSimpArgs false
set_option maxHeartbeats 4000000 in
theorem quantClamps_no (D A T n lo hi : Int) (hT : -9223372036854775808 ≤ T ∧ T ≤ 9223372036854775807) (hno : ¬ BoundsP D T lo hi) (w : World) :
    Calls Try.prog 4 #[.agg #[.int .i64 D, .int .i64 A, .int .i64 T], .int .i32 n, .agg #[.int .i32 lo, .int .i32 hi]] w fun e w' => e = .returned (.bool true) ∧ Below w.heap.size w w' := by
  have H1 := Aside0.mk (clamps_none D T lo hi hT hno)
  obtain ⟨b, hb1, hb2⟩ := bounds_eq D T lo hi hT
  have hbf : b = false := by
    cases b
    · rfl
    · exact absurd (hb2.1 rfl) hno
  subst hbf
  have H2 := Aside0.mk hb1
  clear hb1 hb2 hno hT
  go_enter Try.func4, Try.ntmps4
  go_wp2
  go_quiet (fail)
  go_wp2_with (first
    | (go_at_call 20; refine (quant_Clamps.calls 1 D T lo hi [] _ H1.out).mono ?_; rintro e w1 ⟨v0, rfl, hv, hb1⟩; obtain ⟨A0, c0, rfl⟩ := Kd.R_slice hv; have HB1 := Aside0.mk hb1; have hblk : w1.heap[w.heap.size]? = some (.cells #[.int .i64 D, .int .i64 A, .int .i64 T] 23 (0, 0)) := (hb1.block _ (by simp [World.drewN]; omega)).trans (heap_alloc2_old w _ _); have q0 := cell_of_row w1 _ 0 _ _ _ hblk; have q1 := cell_of_row w1 _ 1 _ _ _ hblk; have q2 := cell_of_row w1 _ 2 _ _ _ hblk; clear hb1 hv hblk)
    | (go_at_call 21; refine (pintleref20_Bounds.calls D T lo hi false _ H2.out).mono ?_; rintro e w2 ⟨rfl, ⟨nd, rfl⟩⟩)
    | (go_at_call 15; refine (pintlelaw20_lives.calls 2 true _ (lives_any 0)).mono ?_; rintro e w4 ⟨rfl, hb4⟩; have HB4 := Aside0.mk hb4; clear hb4))
  go_ret
  have z0 : Below w.heap.size w w1 := (pw_below_drewN (below_alloc (below_alloc (Below.refl w.heap.size w) _) _) _).trans (HB1.out.mono (by simp [World.drewN]; omega))
  exact ⟨rfl, (pw_below_drewN z0 _).trans (HB4.out.mono z0.size)⟩
set_option maxHeartbeats 8000000 in
set_option maxRecDepth 100000 in
theorem quantClamps_a (d t : Nat) (A n N lo hi : Int) (hs : BoundsP d t lo hi) (hn : -536870912 ≤ N ∧ N ≤ 536870912) (hN : N = n) (w : World) :
    Calls Try.prog 4 #[.agg #[.int .i64 d, .int .i64 A, .int .i64 t], .int .i32 n, .agg #[.int .i32 lo, .int .i32 hi]] w fun e w' => e = .returned (.bool true) ∧ Below w.heap.size w w' := by
  have hs' := hs
  unfold BoundsP at hs'
  obtain ⟨b, hb1, hb2⟩ := bounds_eq d t lo hi (by omega)
  obtain rfl := hb2.2 hs
  have H2 := Aside0.mk hb1
  have hst := clamps_some d t lo hi hs
  obtain ⟨l, hl⟩ : ∃ l, l = lowL d t lo ++ highL d t hi := ⟨_, rfl⟩
  rw [← hl] at hst
  have H1 := Aside0.mk hst
  have HL := Aside0.mk hl
  have hd : d < 64 := by omega
  have hdi : (d : Int) < 64 := by omega
  have HT_ := Aside0.mk hs'
  have HS := Aside0.mk hs
  have HN := Aside0.mk hn
  subst hN
  have k1 : decide (536870912 < N) = false := decide_eq_false (by omega)
  have k2 : decide (N < -536870912) = false := decide_eq_false (by omega)
  clear hb1 hb2 hs hst hl hs' hn
  go_enter Try.func4, Try.ntmps4
  go_wp2
  go_quiet (fail)
  go_wp2_with (first
    | (go_at_call 20; refine (quant_Clamps.calls 1 d t lo hi l _ H1.out).mono ?_; rintro e w1 ⟨v0, rfl, hv, hb1⟩; obtain ⟨A0, c0, rfl, hc0, hC1⟩ := Kd.R_reads hv; have HB1 := Aside0.mk hb1; have HC1 := Aside0.mk hC1; have HC0 := Aside0.mk hc0; have hblk : w1.heap[w.heap.size]? = some (.cells #[.int .i64 d, .int .i64 A, .int .i64 t] 23 (0, 0)) := (hb1.block _ (by simp [World.drewN]; omega)).trans (heap_alloc2_old w _ _); have q0 := cell_of_row w1 _ 0 _ _ _ hblk; have q1 := cell_of_row w1 _ 1 _ _ _ hblk; have q2 := cell_of_row w1 _ 2 _ _ _ hblk; have HQ := Aside0.mk hblk; have HLT := Aside0.mk (show w.heap.size < w1.heap.size from (Array.getElem?_eq_some_iff.1 hblk).1); clear hb1 hv hblk hC1 hc0)
    | (go_at_call 21; refine (pintleref20_Bounds.calls d t lo hi true _ H2.out).mono ?_; rintro e w2 ⟨rfl, ⟨nd, rfl⟩⟩)
    | (refine wpList_store_row (P := Try.prog) rfl 31 _ _ rfl w1.heap.size (arrU (List.replicate 64 0)) rfl rfl 31 _ (heap_alloc_new (w1.drewN _) _) (by kernel_rfl) (by rfl) (arrU_one _) ?_))
  go_loopw [11] (fun i wr => ∃ (k : Nat) (V : List Int), k ≤ 64 ∧ i = .int .i64 k ∧ Aside0 (V.length = 64) ∧ Aside0 (∀ x ∈ V, U32 x) ∧ Aside0 (wr.heap[w1.heap.size]? = some (.cells (arrU V) 31 (0, 0))) ∧ Aside0 (Below w1.heap.size w1 wr)) (fun i _ => 64 - (intOf i).toNat)
  case atStart => exact ⟨0, List.replicate 64 0, by omega, rfl, ⟨rfl⟩, ⟨fun x hx => by rw [List.eq_of_mem_replicate hx]; exact ⟨by omega, by omega⟩⟩, ⟨setRow_heap _ _ _ _ _ _ (heap_alloc_new (w1.drewN _) _)⟩, ⟨below_setRow (below_alloc (pw_below_drewN (Below.refl _ _) _) _) (Nat.le_refl _) _⟩⟩
  case round =>
    obtain ⟨k, V, hk, rfl, hVl, hVu, hVh, hVb⟩ := hrel
    by_cases h1 : k < 64
    · have hb1 : decide ((k : Int) < 64) = true := decide_eq_true (by omega)
      have hki : (k : Int) < 64 := by omega
      have hc : wr.cell? ⟨w1.heap.size, k, none⟩ = some (.int .u32 (rd V k)) := by
        rw [cell_of_row wr _ k _ _ _ hVh.out]; exact arrU_at V k (by rw [hVl.out]; exact h1)
      have hf : wr.frozen? ⟨w1.heap.size, k, none⟩ = false := frozen_of_row wr _ k _ _ hVh.out
      go_wp2
      go_roundw
      case rel => exact ⟨k + 1, V.set k _, by omega, by go_num, ⟨by rw [List.length_set]; exact hVl.out⟩, ⟨mem_set hVu.out k (u32_mod _)⟩, ⟨by rw [heap_setCell_same _ _ _ _ _ _ hVh.out, arrU_set V k _]⟩, ⟨hVb.out.setCell (Nat.le_refl _) _⟩⟩
      case measure => simp [intOf]; omega
    · obtain rfl : k = 64 := by omega
      clear q0 q1 q2
      obtain ⟨_, _, _, ht63, _⟩ := HT_.out
      have hbk := (hVb.out.block w.heap.size HLT.out).trans HQ.out
      have q0 := cell_of_row wr _ 0 _ _ _ hbk
      have q1 := cell_of_row wr _ 1 _ _ _ hbk
      have q2 := cell_of_row wr _ 2 _ _ _ hbk
      have hca : wr.cell? ⟨w1.heap.size, d, none⟩ = some (.int .u32 (rd V d)) := by
        rw [cell_of_row wr _ d _ _ _ hVh.out]; exact arrU_at V d (by rw [hVl.out]; exact hd)
      have hfa : wr.frozen? ⟨w1.heap.size, d, none⟩ = false := frozen_of_row wr _ d _ _ hVh.out
      obtain ⟨V', hV'⟩ : ∃ V', V' = V.set d (N % 4294967296) := ⟨_, rfl⟩
      have hlen : V'.length = 64 := by rw [hV', List.length_set]; exact hVl.out
      have hu32 : ∀ x ∈ V', U32 x := by rw [hV']; exact mem_set hVu.out d (u32_mod _)
      have hrow : (wr.setCell ⟨w1.heap.size, d, none⟩ (.int .u32 (N % 4294967296))).heap[w1.heap.size]? = some (.cells (arrU V') 31 (0, 0)) := by
        rw [heap_setCell_same _ _ _ _ _ _ hVh.out, arrU_set V d _, hV']
      have hb2 : Below w1.heap.size w1 (wr.setCell ⟨w1.heap.size, d, none⟩ (.int .u32 (N % 4294967296))) := hVb.out.setCell (Nat.le_refl _) _
      have hHold : Holds V' (fun i => rd V' i) := ⟨hlen, hu32, fun i _ => rfl⟩
      have hfn : rd V' (d : Int) = N % 4294967296 := by rw [hV', rd_set V d _ d (by rw [hVl.out]; exact hd), if_pos rfl]
      obtain ⟨vt, vu, ⟨⟨f', hf', hfd, _, _, hfo⟩, _, _, _, _⟩⟩ := clamps_law d t lo hi N HS.out HN.out V' (fun i => rd V' i) hHold hfn
      rw [← HL.out] at hf'
      have hok : ∀ x ∈ l, PlainOk x := by rw [HL.out]; exact (clampL_ok d t hd (by omega) lo hi).1
      have hl13 : l.length ≤ 13 := by rw [HL.out]; simp [lowL, highL]
      obtain ⟨now, hnow⟩ : ∃ now, now = stepsV l V' := ⟨_, rfl⟩
      have HDO := Aside0.mk (fun (W : World) (hW : Below w1.heap.size w1 W) => does_calls aluAll A0 c0 l V' W (Kd.C_below HC1.out hW) hu32 hlen (by omega) hok)
      have hnl : now.length = 64 := by rw [hnow]; exact (stepsV_ok aluAll l V' hu32 hlen hok).2
      have hnd : rd now d = clampV N lo hi % 4294967296 := by rw [hnow, hf'.at_ d hd]; exact hfd
      have hno : ∀ i : Nat, i < 64 → (i : Int) ≠ d → (i : Int) ≠ t → (i : Int) ≠ (t : Int) + 1 → rd V' i = rd now i := fun i hi h1 h2 h3 => by
        rw [hnow, hf'.at_ i hi, hfo i (by omega) (by omega) (by omega)]
      rw [← hnow] at HDO
      have hcan : ∀ x ∈ l, CanB x := by rw [HL.out]; exact (clampL_ok d t hd (by omega) lo hi).2
      have HPL := Aside0.mk (plain_true l hcan (by omega))
      have HSC := Aside0.mk (ref_clamp N lo hi)
      have HROW := Aside0.mk hrow
      have HB2 := Aside0.mk hb2
      have hinf : (Try.prog.info? 31).map (·.size) = some (arrU V').size := by rw [arrU_size, hlen]; kernel_rfl
      have HINF := Aside0.mk hinf
      have hinf3 : (Try.prog.info? 31).map (·.size) = some (arrU now).size := by rw [arrU_size, hnl]; kernel_rfl
      have HINF3 := Aside0.mk hinf3
      have HSZ3 := Aside0.mk (show 64 = (arrU now).size by rw [arrU_size, hnl])
      have HOT := Aside0.mk (others_calls V' now hlen hnl d t (by omega) (by omega) hno)
      have HLN := Aside0.mk hlen
      have HNL := Aside0.mk hnl
      have HND := Aside0.mk hnd
      clear ht63 hbk hV' hlen hu32 hrow hb2 hHold hfn hok hl13 hf' hfd hfo hnow hnl hnd hno hcan hinf hinf3
      go_wp2_with (first
        | (refine wpList_load_row (P := Try.prog) rfl 31 _ rfl w1.heap.size rfl 31 (arrU V') (0, 0) _ HROW.out Try.underlying31 rfl HINF.out ?_)
        | (go_at_call 16; refine (HDO.out _ HB2.out).mono ?_; rintro e w3 ⟨rfl, hb3⟩; have HB3 := Aside0.mk hb3; clear hb3)
        | (refine wpList_store_row (P := Try.prog) rfl 31 _ _ rfl w3.heap.size (arrU now) rfl rfl 31 _ (heap_alloc_new w3 _) HINF3.out HSZ3.out (arrU_one _) ?_; generalize hw4 : World.setRow _ _ _ = w4; have HW4 := Aside0.mk hw4; clear hw4))
      have hz0 : w1.heap.size ≤ w3.heap.size := by have := (HB2.out.trans (HB3.out.mono HB2.out.size)).size; exact this
      have hb4 : Below w1.heap.size w1 w4 := by
        rw [← HW4.out]
        exact below_setRow (Below.alloc (HB2.out.trans (HB3.out.mono HB2.out.size)) hz0 _) hz0 _
      have hrow1 : w4.heap[w1.heap.size]? = some (.cells (arrU V') 31 (0, 0)) := by
        have hlt : w1.heap.size < (wr.setCell ⟨w1.heap.size, d, none⟩ (.int .u32 (N % 4294967296))).heap.size := (Array.getElem?_eq_some_iff.1 HROW.out).1
        have h3 := (HB3.out.block w1.heap.size hlt).trans HROW.out
        have hlt3 : w1.heap.size < w3.heap.size := (Array.getElem?_eq_some_iff.1 h3).1
        rw [← HW4.out, setRow_other _ _ _ _ (by omega), heap_alloc_old _ _ hlt3]
        exact h3
      have hrow3 : w4.heap[w3.heap.size]? = some (.cells (arrU now) 31 (0, 0)) := by
        rw [← HW4.out]
        exact setRow_heap _ _ _ _ _ _ (heap_alloc_new w3 _)
      have hbox : w4.heap[w.heap.size]? = some (.cells #[.int .i64 d, .int .i64 A, .int .i64 t] 23 (0, 0)) := (hb4.block _ HLT.out).trans HQ.out
      have hkeep : ∀ W W' : World, Below w4.heap.size w4 W → Below W.heap.size W W' → (W'.rangeAt w1.heap.size 0 (V'.map (Value.int .u32)) ∧ W'.rangeAt w3.heap.size 0 (now.map (Value.int .u32)) ∧ W'.cell? ⟨w3.heap.size, d, none⟩ = some (.int .u32 (IntKind.u32.wrap (clampV N lo hi))) ∧ W'.cell? ⟨w.heap.size, 0, none⟩ = some (.int .i64 d) ∧ W'.cell? ⟨w.heap.size, 2, none⟩ = some (.int .i64 t) ∧ Below w4.heap.size w4 W') := fun W W' h1 h2 => by
        have h3 := h1.trans (h2.mono h1.size)
        have r1 := (h3.block _ (Array.getElem?_eq_some_iff.1 hrow1).1).trans hrow1
        have r3 := (h3.block _ (Array.getElem?_eq_some_iff.1 hrow3).1).trans hrow3
        have rb := (h3.block _ (Array.getElem?_eq_some_iff.1 hbox).1).trans hbox
        refine ⟨fun j v hv => ?_, fun j v hv => ?_, ?_, cell_of_row W' _ 0 _ _ _ rb, cell_of_row W' _ 2 _ _ _ rb, h3⟩
        · rw [cell_of_row W' _ (0 + j) _ _ _ r1, Nat.zero_add]
          simpa [arrU] using hv
        · rw [cell_of_row W' _ (0 + j) _ _ _ r3, Nat.zero_add]
          simpa [arrU] using hv
        · rw [cell_of_row W' _ d _ _ _ r3, arrU_at now d (by rw [HNL.out]; exact hd), HND.out, IntKind.wrap_u32]
      have HKEEP := Aside0.mk hkeep
      have HC4 := Aside0.mk (fun (W : World) (hW : Below w4.heap.size w4 W) => Kd.C_below HC1.out (hb4.trans (hW.mono hb4.size)))
      have HB4 := Aside0.mk hb4
      have hu31 : Try.prog.underlying 31 = some (.array 64 30) := Try.underlying31
      have hi1 : (Try.prog.info? 31).map (·.size) = some (V'.map (Value.int .u32)).length := by rw [List.length_map, HLN.out]; kernel_rfl
      have hi2 : (Try.prog.info? 31).map (·.size) = some (now.map (Value.int .u32)).length := by rw [List.length_map, HNL.out]; kernel_rfl
      clear hz0 hb4 hrow1 hrow3 hbox hkeep q0 q1 q2 hca hfa
      refine wp_region_held_drew (S := (fun W' => W'.rangeAt w1.heap.size 0 (V'.map (Value.int .u32)) ∧ W'.rangeAt w3.heap.size 0 (now.map (Value.int .u32)) ∧ W'.cell? ⟨w3.heap.size, d, none⟩ = some (.int .u32 (IntKind.u32.wrap (clampV N lo hi))) ∧ W'.cell? ⟨w.heap.size, 0, none⟩ = some (.int .i64 d) ∧ W'.cell? ⟨w.heap.size, 2, none⟩ = some (.int .i64 t) ∧ Below w4.heap.size w4 W')) (by kernel_rfl) (HKEEP.out _ _ (Below.refl _ _) (below_drew (Below.refl _ _))) (fun hHeld => ?_)
      refine wpAnyH_take (i := 0) (v := ?_) rfl (by kernel_rfl) (by kernel_rfl) (by kernel_rfl) (fun _ _ _ h => h) (Or.inl ⟨by rfl, ?_⟩) (by assumption) ?_
      rotate_left
      · (intro w hSw; (try dsimp only at hSw); go_simp; (try with_reducible rfl))
      try simp only [Act.put, List.getElem_toArray, List.getElem_cons_succ, List.getElem_cons_zero, List.setIfInBounds_toArray, List.set_cons_zero, List.set_cons_succ]
      refine wpAnyH_ready (rs := [1]) (by kernel_rfl) (by simp) ?_
      refine AllReadyH.cons rfl (fun K hK => ?_) AllReadyH.nil
      go_simp
      (go_at_call 17; go_split_ands; refine (pintlelaw20_plain.calls (l.length + 2) A0 c0 l true _ (HC4.out _ (by assumption)) HC0.out HPL.out).mono ?_; rintro e w5 ⟨rfl, hb⟩)
      try go_wp2_with fail
      refine hK.out _ _ (by (try dsimp only); go_split_ands; exact HKEEP.out _ _ (by assumption) hb) (fun hHeld => ?_)
      clear hK K
      try simp only [Act.put, List.getElem_toArray, List.getElem_cons_succ, List.getElem_cons_zero, List.setIfInBounds_toArray, List.set_cons_zero, List.set_cons_succ]
      refine wpAnyH_take (i := 2) (v := ?_) rfl (by kernel_rfl) (by kernel_rfl) (by kernel_rfl) (fun _ _ _ h => h) (Or.inl ⟨by rfl, ?_⟩) (by assumption) ?_
      rotate_left
      · (intro w hSw; (try dsimp only at hSw); go_simp; (try with_reducible rfl))
      try simp only [Act.put, List.getElem_toArray, List.getElem_cons_succ, List.getElem_cons_zero, List.setIfInBounds_toArray, List.set_cons_zero, List.set_cons_succ]
      refine wpAnyH_take (i := 3) (v := ?_) rfl (by kernel_rfl) (by kernel_rfl) (by kernel_rfl) (fun _ _ _ h => h) (Or.inl ⟨by rfl, ?_⟩) (by assumption) ?_
      rotate_left
      · (intro w hSw; (try dsimp only at hSw); go_simp; (try with_reducible rfl))
      try simp only [Act.put, List.getElem_toArray, List.getElem_cons_succ, List.getElem_cons_zero, List.setIfInBounds_toArray, List.set_cons_zero, List.set_cons_succ]
      refine wpAnyH_take (i := 4) (v := ?_) rfl (by kernel_rfl) (by kernel_rfl) (by kernel_rfl) (fun _ _ _ h => h) (Or.inl ⟨by rfl, ?_⟩) (by assumption) ?_
      rotate_left
      · (intro w hSw; (try dsimp only at hSw); go_simp; (try with_reducible rfl))
      try simp only [Act.put, List.getElem_toArray, List.getElem_cons_succ, List.getElem_cons_zero, List.setIfInBounds_toArray, List.set_cons_zero, List.set_cons_succ]
      refine wpAnyH_take (i := 5) (v := ?_) rfl (by kernel_rfl) (by kernel_rfl) (by kernel_rfl) (fun _ _ _ h => h) (Or.inl ⟨by rfl, ?_⟩) (by assumption) ?_
      rotate_left
      · (intro w hSw; (try dsimp only at hSw); go_simp; (try with_reducible rfl))
      try simp only [Act.put, List.getElem_toArray, List.getElem_cons_succ, List.getElem_cons_zero, List.setIfInBounds_toArray, List.set_cons_zero, List.set_cons_succ]
      refine wpAnyH_take (i := 6) (v := ?_) rfl (by kernel_rfl) (by kernel_rfl) (by kernel_rfl) (fun _ _ _ h => h) (Or.inl ⟨by rfl, ?_⟩) (by assumption) ?_
      rotate_left
      · (intro w hSw; (try dsimp only at hSw); go_simp; (try with_reducible rfl))
      try simp only [Act.put, List.getElem_toArray, List.getElem_cons_succ, List.getElem_cons_zero, List.setIfInBounds_toArray, List.set_cons_zero, List.set_cons_succ]
      refine wpAnyH_take (i := 7) (v := ?_) rfl (by kernel_rfl) (by kernel_rfl) (by kernel_rfl) (fun _ _ _ h => h) (Or.inl ⟨by rfl, ?_⟩) (by assumption) ?_
      rotate_left
      · (intro w hSw; (try dsimp only at hSw); go_simp; (try with_reducible rfl))
      try simp only [Act.put, List.getElem_toArray, List.getElem_cons_succ, List.getElem_cons_zero, List.setIfInBounds_toArray, List.set_cons_zero, List.set_cons_succ]
      refine wpAnyH_take (i := 8) (v := ?_) rfl (by kernel_rfl) (by kernel_rfl) (by kernel_rfl) (fun _ _ _ h => h) (Or.inl ⟨by rfl, ?_⟩) (by assumption) ?_
      rotate_left
      · (intro w hSw; (try dsimp only at hSw); go_simp; (try with_reducible rfl))
      try simp only [Act.put, List.getElem_toArray, List.getElem_cons_succ, List.getElem_cons_zero, List.setIfInBounds_toArray, List.set_cons_zero, List.set_cons_succ]
      refine wpAnyH_take (i := 9) (v := ?_) rfl (by kernel_rfl) (by kernel_rfl) (by kernel_rfl) (fun _ _ _ h => h) (Or.inl ⟨by rfl, ?_⟩) (by assumption) ?_
      rotate_left
      · (intro w hSw; (try dsimp only at hSw); go_simp; (try with_reducible rfl))
      try simp only [Act.put, List.getElem_toArray, List.getElem_cons_succ, List.getElem_cons_zero, List.setIfInBounds_toArray, List.set_cons_zero, List.set_cons_succ]
      refine wpAnyH_ready (rs := [10]) (by kernel_rfl) (by simp) ?_
      refine AllReadyH.cons rfl (fun K hK => ?_) AllReadyH.nil
      go_simp
      (go_at_call 22; refine (pintleref20_Clamp.calls N lo hi _ _ HSC.out).mono ?_; rintro e w6 ⟨rfl, hd6⟩; have hb := hd6.below)
      try go_wp2_with fail
      refine hK.out _ _ (by (try dsimp only); go_split_ands; exact HKEEP.out _ _ (by assumption) hb) (fun hHeld => ?_)
      clear hK K
      try simp only [Act.put, List.getElem_toArray, List.getElem_cons_succ, List.getElem_cons_zero, List.setIfInBounds_toArray, List.set_cons_zero, List.set_cons_succ]
      refine wpAnyH_take (i := 11) (v := ?_) rfl (by kernel_rfl) (by kernel_rfl) (by kernel_rfl) (fun _ _ _ h => h) (Or.inl ⟨by rfl, ?_⟩) (by assumption) ?_
      rotate_left
      · (intro w hSw; (try dsimp only at hSw); go_simp; (try with_reducible rfl))
      try simp only [Act.put, List.getElem_toArray, List.getElem_cons_succ, List.getElem_cons_zero, List.setIfInBounds_toArray, List.set_cons_zero, List.set_cons_succ]
      refine wpAnyH_take (i := 12) (v := ?_) rfl (by kernel_rfl) (by kernel_rfl) (by kernel_rfl) (fun _ _ _ h => h) (Or.inl ⟨by rfl, ?_⟩) (by assumption) ?_
      rotate_left
      · (intro w hSw; (try dsimp only at hSw); go_simp; (try with_reducible rfl))
      try simp only [Act.put, List.getElem_toArray, List.getElem_cons_succ, List.getElem_cons_zero, List.setIfInBounds_toArray, List.set_cons_zero, List.set_cons_succ]
      refine wpAnyH_take (i := 13) (v := ?_) rfl (by kernel_rfl) (by kernel_rfl) (by kernel_rfl) (fun _ _ _ h => h) (Or.inl ⟨by rfl, ?_⟩) (by assumption) ?_
      rotate_left
      · (intro w hSw; (try dsimp only at hSw); go_simp; (try with_reducible rfl))
      try simp only [Act.put, List.getElem_toArray, List.getElem_cons_succ, List.getElem_cons_zero, List.setIfInBounds_toArray, List.set_cons_zero, List.set_cons_succ]
      refine wpAnyH_take (i := 14) (v := ?_) rfl (by kernel_rfl) (by kernel_rfl) (by kernel_rfl) (fun _ _ _ h => h) (Or.inl ⟨by rfl, ?_⟩) (by assumption) ?_
      rotate_left
      · (intro w hSw; (try dsimp only at hSw); go_simp; (try with_reducible rfl))
      try simp only [Act.put, List.getElem_toArray, List.getElem_cons_succ, List.getElem_cons_zero, List.setIfInBounds_toArray, List.set_cons_zero, List.set_cons_succ]
      refine wpAnyH_take (i := 15) rfl (by kernel_rfl) (by kernel_rfl) (by kernel_rfl) (fun _ _ _ h => h) (yieldsIf_load_mid (by rfl) 31 _ rfl w1.heap.size 0 rfl (V'.map (Value.int .u32)) _ (fun W hW => hW.1) hu31 rfl hi1) (by assumption) ?_
      try simp only [Act.put, List.getElem_toArray, List.getElem_cons_succ, List.getElem_cons_zero, List.setIfInBounds_toArray, List.set_cons_zero, List.set_cons_succ]
      refine wpAnyH_take (i := 16) rfl (by kernel_rfl) (by kernel_rfl) (by kernel_rfl) (fun _ _ _ h => h) (yieldsIf_load_mid (by rfl) 31 _ rfl w3.heap.size 0 rfl (now.map (Value.int .u32)) _ (fun W hW => hW.2.1) hu31 rfl hi2) (by assumption) ?_
      try simp only [Act.put, List.getElem_toArray, List.getElem_cons_succ, List.getElem_cons_zero, List.setIfInBounds_toArray, List.set_cons_zero, List.set_cons_succ]
      refine wpAnyH_take (i := 17) (v := ?_) rfl (by kernel_rfl) (by kernel_rfl) (by kernel_rfl) (fun _ _ _ h => h) (Or.inl ⟨by rfl, ?_⟩) (by assumption) ?_
      rotate_left
      · (intro w hSw; (try dsimp only at hSw); go_simp; (try with_reducible rfl))
      try simp only [Act.put, List.getElem_toArray, List.getElem_cons_succ, List.getElem_cons_zero, List.setIfInBounds_toArray, List.set_cons_zero, List.set_cons_succ]
      refine wpAnyH_take (i := 18) (v := ?_) rfl (by kernel_rfl) (by kernel_rfl) (by kernel_rfl) (fun _ _ _ h => h) (Or.inl ⟨by rfl, ?_⟩) (by assumption) ?_
      rotate_left
      · (intro w hSw; (try dsimp only at hSw); go_simp; (try with_reducible rfl))
      try simp only [Act.put, List.getElem_toArray, List.getElem_cons_succ, List.getElem_cons_zero, List.setIfInBounds_toArray, List.set_cons_zero, List.set_cons_succ]
      refine wpAnyH_take (i := 19) (v := ?_) rfl (by kernel_rfl) (by kernel_rfl) (by kernel_rfl) (fun _ _ _ h => h) (Or.inl ⟨by rfl, ?_⟩) (by assumption) ?_
      rotate_left
      · (intro w hSw; (try dsimp only at hSw); go_simp; (try with_reducible rfl))
      try simp only [Act.put, List.getElem_toArray, List.getElem_cons_succ, List.getElem_cons_zero, List.setIfInBounds_toArray, List.set_cons_zero, List.set_cons_succ]
      refine wpAnyH_take (i := 20) (v := ?_) rfl (by kernel_rfl) (by kernel_rfl) (by kernel_rfl) (fun _ _ _ h => h) (Or.inl ⟨by rfl, ?_⟩) (by assumption) ?_
      rotate_left
      · (intro w hSw; (try dsimp only at hSw); go_simp; (try with_reducible rfl))
      try simp only [Act.put, List.getElem_toArray, List.getElem_cons_succ, List.getElem_cons_zero, List.setIfInBounds_toArray, List.set_cons_zero, List.set_cons_succ]
      refine wpAnyH_ready (rs := [21]) (by kernel_rfl) (by simp) ?_
      refine AllReadyH.cons rfl (fun K hK => ?_) AllReadyH.nil
      go_simp
      (go_at_call 19; refine (HOT.out _).mono ?_; rintro e w7 ⟨rfl, hb⟩)
      try go_wp2_with fail
      refine hK.out _ _ (by (try dsimp only); go_split_ands; exact HKEEP.out _ _ (by assumption) hb) (fun hHeld => ?_)
      clear hK K
      try simp only [Act.put, List.getElem_toArray, List.getElem_cons_succ, List.getElem_cons_zero, List.setIfInBounds_toArray, List.set_cons_zero, List.set_cons_succ]
      refine wpAnyH_take (i := 22) (v := ?_) rfl (by kernel_rfl) (by kernel_rfl) (by kernel_rfl) (fun _ _ _ h => h) (Or.inl ⟨by rfl, ?_⟩) (by assumption) ?_
      rotate_left
      · (intro w hSw; (try dsimp only at hSw); go_simp; (try with_reducible rfl))
      try simp only [Act.put, List.getElem_toArray, List.getElem_cons_succ, List.getElem_cons_zero, List.setIfInBounds_toArray, List.set_cons_zero, List.set_cons_succ]
      refine wpAnyH_take (i := 23) (v := ?_) rfl (by kernel_rfl) (by kernel_rfl) (by kernel_rfl) (fun _ _ _ h => h) (Or.inl ⟨by rfl, ?_⟩) (by assumption) ?_
      rotate_left
      · (intro w hSw; (try dsimp only at hSw); go_simp; (try with_reducible rfl))
      try simp only [Act.put, List.getElem_toArray, List.getElem_cons_succ, List.getElem_cons_zero, List.setIfInBounds_toArray, List.set_cons_zero, List.set_cons_succ]
      refine wpAnyH_ready (rs := [24]) (by kernel_rfl) (by simp) ?_
      refine AllReadyH.cons rfl (fun K hK => ?_) AllReadyH.nil
      go_simp
      (go_at_call 15; refine (pintlelaw20_lives.calls 2 true _ (lives_any 0)).mono ?_; rintro e w8 ⟨rfl, hb⟩)
      try go_wp2_with fail
      refine hK.out _ _ (by (try dsimp only); go_split_ands; exact HKEEP.out _ _ (by assumption) hb) (fun hHeld => ?_)
      clear hK K
      try simp only [Act.put, List.getElem_toArray, List.getElem_cons_succ, List.getElem_cons_zero, List.setIfInBounds_toArray, List.set_cons_zero, List.set_cons_succ]
      refine wpAnyH_take (i := 25) (v := ?_) rfl (by kernel_rfl) (by kernel_rfl) (by kernel_rfl) (fun _ _ _ h => h) (Or.inl ⟨by rfl, ?_⟩) (by assumption) ?_
      rotate_left
      · (intro w hSw; (try dsimp only at hSw); go_simp; (try with_reducible rfl))
      try simp only [Act.put, List.getElem_toArray, List.getElem_cons_succ, List.getElem_cons_zero, List.setIfInBounds_toArray, List.set_cons_zero, List.set_cons_succ]
      refine wpAnyH_take (i := 26) (v := ?_) rfl (by kernel_rfl) (by kernel_rfl) (by kernel_rfl) (fun _ _ _ h => h) (Or.inl ⟨by rfl, ?_⟩) (by assumption) ?_
      rotate_left
      · (intro w hSw; (try dsimp only at hSw); go_simp; (try with_reducible rfl))
      try simp only [Act.put, List.getElem_toArray, List.getElem_cons_succ, List.getElem_cons_zero, List.setIfInBounds_toArray, List.set_cons_zero, List.set_cons_succ]
      refine wpAnyH_done (by kernel_rfl) ?_ _
      go_wp2
      go_ret
      go_split_ands
      have z0 : Below w.heap.size w w1 := (pw_below_drewN (below_alloc (below_alloc (Below.refl w.heap.size w) _) _) _).trans (HB1.out.mono (by simp [World.drewN]; omega))
      have z4 := z0.trans (HB4.out.mono z0.size)
      exact ⟨rfl, z4.trans (Below.mono (by assumption) z4.size)⟩
end Go.Proofs.Ytpeljnnbknnbmaa.PA
