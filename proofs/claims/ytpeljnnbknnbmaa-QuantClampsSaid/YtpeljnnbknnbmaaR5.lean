import Derived.Test.YtpeljnnbknnbmaaR4
namespace Go.Proofs.Ytpeljnnbknnbmaa.PA
open Go.RowKit Go.Proofs.YtpeljnnbknnbmaaW.PrintWords Go.Proofs.YtpeljnnbknnbmaaW.PrintLast Go.Proofs.YtpeljnnbknnbmaaW.PrintMore
set_option linter.unusedVariables false
set_option linter.unusedSimpArgs false
theorem arrU_one (V : List Int) : (arrU V).all (·.oneCell') = true := by
  simp [arrU]
  intro x _
  rfl
theorem part_of {C : Array Value} {mv : Value} {V : List Int} {st fu tr : Int} (h : RunC C mv V st fu tr) : ∀ (j : Nat) (v : Value), (V.map (Value.int .u32))[j]? = some v → C[1 + j]? = some v := fun j v hv => by
  have hj : j < 64 := by
    have := (List.getElem?_eq_some_iff.1 hv).1
    rw [List.length_map, h.len] at this; exact this
  rw [h.v j hj, ← hv]
  simp [rd, List.getD_eq_getElem?_getD, List.getElem?_eq_getElem (show j < V.length by rw [h.len]; exact hj)]
set_option maxHeartbeats 4000000 in
set_option maxRecDepth 100000 in
theorem does_calls (hA : AluAll) (A : Option Addr) (c : Nat) (l : List S49) (V : List Int) (w : World) (hC : Kd.C k49 w A l.length l) (hV : ∀ x ∈ V, U32 x) (hl : V.length = 64) (hn : l.length < 1000) (hx : ∀ x ∈ l, PlainOk x) :
    Calls Try.prog 16 #[.slice A l.length c, .agg (arrU V)] w fun e w' => e = .returned (.agg (arrU (stepsV l V))) ∧ Below w.heap.size w w' := by
  have HC := Aside0.mk hC
  have HX := Aside0.mk hx
  have HV := Aside0.mk hV
  have HA := Aside0.mk hA
  have HL := Aside0.mk hl
  have HRUN := Aside0.mk (fun (p : Option Addr) (W : World) => run_build63 p V hl 1000 W)
  have hsz : (arrU V).size = 64 := by rw [arrU_size, hl]
  have HSZ := Aside0.mk hsz
  have hrow : ∀ o1 o2, (((w.alloc (.cells (arrU V) 31 (0, 0))).alloc o1).alloc o2).heap[w.heap.size]? = some (.cells (arrU V) 31 (0, 0)) := fun o1 o2 => by
    rw [heap_alloc_old _ _ (by rw [size_alloc, size_alloc]; omega), heap_alloc_old _ _ (by rw [size_alloc]; omega)]
    exact heap_alloc_new w _
  have hinf : (Try.prog.info? 31).map (·.size) = some (arrU V).size := by rw [hsz]; kernel_rfl
  have HINF := Aside0.mk hinf
  clear hinf
  have HROW := Aside0.mk hrow
  have HCB := Aside0.mk (fun (W0 W : World) (hb : Below w.heap.size w W0) (hk : Keep (· = w.heap.size + 1 + 1 + 1) W0 W) => Kd.C_below hC (hb.trans (hk.below w.heap.size hb.size (fun i hi => by omega))))
  have HD := Aside0.mk (fun (W : World) h1 h2 => does_plain hA W (w.heap.size + 1 + 1 + 1) (.pointer (some ⟨w.heap.size + 1 + 1, 0, none⟩)) V 1000 h1 hV hl A c l h2 (by omega) (by omega) hx)
  have HR0 := Aside0.mk (runC0_ok (.pointer (some ⟨w.heap.size + 1 + 1, 0, none⟩)) V hl 1000)
  have hob := stepsV_ok hA l V hV hl hx
  have HLS := Aside0.mk hob.2
  have hinf2 : (Try.prog.info? 31).map (·.size) = some ((stepsV l V).map (Value.int .u32)).length := by rw [List.length_map, hob.2]; kernel_rfl
  have HINF2 := Aside0.mk hinf2
  have hsz3 : (arrU (stepsV l V)).size = 64 := by rw [arrU_size, hob.2]
  have hinf3 : (Try.prog.info? 31).map (·.size) = some (arrU (stepsV l V)).size := by rw [hsz3]; kernel_rfl
  have HINF3 := Aside0.mk hinf3
  have HSZ3 := Aside0.mk (show 64 = (arrU (stepsV l V)).size from hsz3.symm)
  clear hC hx hV hA hl hsz hrow hob hinf2 hsz3 hinf3
  go_enter Try.func16, Try.ntmps16
  go_wp2_with (first | (refine wpList_load_row rfl 31 _ rfl w.heap.size rfl 31 (arrU V) (0, 0) _ (HROW.out _ _) Try.underlying31 rfl HINF.out ?_) | (refine wpList_built rfl 63 _ rfl #[(0, .pointer (some ⟨w.heap.size + 1 + 1, 0, none⟩)), (1, .agg (arrU V)), (3, .int .i64 1000)] rfl _ (HRUN.out _ _) ?_) | (go_at_call 33; refine Calls.mono (HD.out _ ⟨_, heap_new3 w _ _ _ _, HR0.out⟩ (fun W hW => HCB.out _ W (below_alloc (below_alloc (below_alloc (below_alloc (Below.refl _ _) _) _) _) _) hW)) ?_; rintro e w2 ⟨rfl, ⟨C2, hC2, hc2⟩, hK2⟩; have HC2 := Aside0.mk hC2; have HX2 := Aside0.mk (part_of hc2); have HZ2 := Aside0.mk ((hK2.block (w.heap.size + 1) (by simp only [size_alloc]; omega) (by omega)).trans (heap_new1 w _ _ _ _)); have HB2 := Aside0.mk (show Below w.heap.size w w2 from (below_alloc (below_alloc (below_alloc (below_alloc (Below.refl _ _) _) _) _) _).trans (hK2.below w.heap.size (by simp only [size_alloc]; omega) (fun i hi => by omega))); clear hC2 hc2 hK2) | (refine wpList_load_part rfl 31 _ rfl (w.heap.size + 1 + 1 + 1) 1 rfl 63 C2 ((stepsV l V).map (Value.int .u32)) (0, 0) _ HC2.out HX2.out Try.underlying31 rfl HINF2.out ?_) | (refine wpList_store_row rfl 31 _ _ rfl (w.heap.size + 1) (arrU (stepsV l V)) rfl rfl 31 _ HZ2.out HINF3.out HSZ3.out (arrU_one _) ?_))
  refine bodyPost_ret (v := .agg (arrU (stepsV l V))) (results_cell_row rfl _ _ (w.heap.size + 1) 31 (arrU (stepsV l V)) (0, 0) _ rfl (setRow_heap w2 (w.heap.size + 1) _ _ _ _ HZ2.out) Try.underlying31 rfl HINF3.out) rfl ⟨rfl, below_setRow HB2.out (by omega) _⟩
end Go.Proofs.Ytpeljnnbknnbmaa.PA
