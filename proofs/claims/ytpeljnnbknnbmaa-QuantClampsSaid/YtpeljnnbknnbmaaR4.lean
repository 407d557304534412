import Derived.Test.YtpeljnnbknnbmaaR3
namespace Go.Proofs.Ytpeljnnbknnbmaa.PA
open Go.RowKit Go.Proofs.YtpeljnnbknnbmaaW.PrintWords Go.Proofs.YtpeljnnbknnbmaaW.PrintLast Go.Proofs.YtpeljnnbknnbmaaW.PrintMore
set_option linter.unusedVariables false
set_option linter.unusedSimpArgs false
section
variable {P : Program}
/-- part of a block is loaded whole -/
theorem run_load_part (w : World) (g off : Nat) (t ty : TypeId) (C : Array Value) (xs : List Value) (fr : Nat × Nat) (d : TypeDesc) (hg : w.heap[g]? = some (.cells C t fr)) (hx : ∀ j v, xs[j]? = some v → C[off + j]? = some v)
    (hu : P.underlying ty = some d) (hd : (match d with | .struct _ | .array _ _ => true | _ => false) = true) (hi : (P.info? ty).map (·.size) = some xs.length) :
    (loadVar ty ⟨g, off, none⟩).run P w = .ok (.agg xs.toArray) w := by
  have hl : (loadCells ⟨g, off, none⟩ xs.length).run P w = .ok xs.toArray w :=
    run_loadCells_list (P := P) w ⟨g, off, none⟩ xs (fun j v hv => by
      have hadd : (⟨g, off, none⟩ : Addr).add j = ⟨g, off + j, none⟩ := by unfold Addr.add; split <;> simp_all
      rw [hadd, cell_of_row w g (off + j) C t fr hg]
      exact hx j v hv)
  cases hq : P.info? ty with
  | none => simp [hq] at hi
  | some i =>
    have hs : i.size = xs.length := by simpa [hq] using hi
    have hagg : (isAgg ty).run P w = .ok true w := by
      unfold isAgg
      rw [Sem.run_bind, run_underlying hu w]
      cases d <;> simp_all
    simp [loadVar, Sem.run_bind, hagg, sizeOf, typeInfo, hq, hs, hl]
theorem wpList_load_part {ops : Array Oper} {rest : List Oper} {o : Oper} {a : Act} {w : World} {Q : Exit → Act → World → Prop} (hgd : o.guard = none) (ty : TypeId) (x : Operand) (ho : o.op = .load ty x)
    (g off : Nat) (hx : a.eval x = .pointer (some ⟨g, off, none⟩)) (t : TypeId) (C : Array Value) (xs : List Value) (fr : Nat × Nat) (d : TypeDesc) (hg : w.heap[g]? = some (.cells C t fr)) (hc : ∀ j v, xs[j]? = some v → C[off + j]? = some v)
    (hu : P.underlying ty = some d) (hd : (match d with | .struct _ | .array _ _ => true | _ => false) = true) (hi : (P.info? ty).map (·.size) = some xs.length)
    (h : wpList P ops Q rest (a.put o.dst (.agg xs.toArray)) w) : wpList P ops Q (o :: rest) a w :=
  wpList_plain hgd fun _ hK => by
    unfold Oper.wp execOp
    simp only [ho, hx, Instr.loadAt, Instr.sureAddr, Sem.run_bind, Sem.run_pure, Result.andThen_ok, run_load_part w g off t ty C xs fr d hg hc hu hd hi]
    exact hK _ _ h
theorem wpList_built {ops : Array Oper} {rest : List Oper} {o : Oper} {a : Act} {w : World} {Q : Exit → Act → World → Prop} (hgd : o.guard = none) (t : TypeId) (parts : Array (Nat × Operand)) (ho : o.op = .build t parts)
    (ps : Array (Nat × Value)) (hp : parts.toList.map (fun x => (x.1, a.eval x.2)) = ps.toList) (v : Value) (hr : (Instr.build t ps).run P w = .ok v w)
    (h : wpList P ops Q rest (a.put o.dst v) w) : wpList P ops Q (o :: rest) a w :=
  wpList_plain hgd fun _ hK => by
    have hp' : parts.map (fun (i, x) => (i, a.eval x)) = ps := by
      apply Array.ext'
      rw [Array.toList_map]; exact hp
    unfold Oper.wp execOp
    simp only [ho, Sem.run_bind, hp', hr, Sem.run_pure, Result.andThen_ok]
    exact hK _ _ h
end
theorem size_alloc (w : World) (o : Obj) : (w.alloc o).heap.size = w.heap.size + 1 := by
  show (w.heap.push o).size = _
  simp
theorem heap_new3 (w : World) (A B C O : Obj) : ((((w.alloc A).alloc B).alloc C).alloc O).heap[w.heap.size + 1 + 1 + 1]? = some O := by
  have := heap_alloc_new (((w.alloc A).alloc B).alloc C) O
  rwa [size_alloc, size_alloc, size_alloc] at this
theorem heap_new1 (w : World) (A B C O : Obj) : ((((w.alloc A).alloc B).alloc C).alloc O).heap[w.heap.size + 1]? = some B := by
  rw [heap_alloc_old _ _ (by simp only [size_alloc]; omega), heap_alloc_old _ _ (by simp only [size_alloc]; omega)]
  have := heap_alloc_new (w.alloc A) B
  rwa [size_alloc] at this
/-- an array of words as a value -/
def arrU (V : List Int) : Array Value := (V.map (Value.int .u32)).toArray
theorem arrU_size (V : List Int) : (arrU V).size = V.length := by simp [arrU]
theorem arrU_at (V : List Int) (j : Nat) (h : j < V.length) : (arrU V)[j]? = some (.int .u32 (rd V j)) := by
  simp [arrU, rd, List.getD_eq_getElem?_getD, List.getElem?_eq_getElem h]
/-- parts that are laid one behind the other -/
theorem fold_lay (C : Array Value) (off : Nat) : ∀ (l : List Value) (k : Nat) (Z : Array Value), off + k + l.length ≤ Z.size →
    ((l.zipIdx k).foldl (fun cs (x : Value × Nat) => cs.setIfInBounds (off + x.2) x.1) Z).size = Z.size ∧
    ∀ j : Nat, ((l.zipIdx k).foldl (fun cs (x : Value × Nat) => cs.setIfInBounds (off + x.2) x.1) Z)[j]? = if off + k ≤ j ∧ j < off + k + l.length then l[j - (off + k)]? else Z[j]?
  | [], k, Z, h => by
    refine ⟨rfl, fun j => ?_⟩
    rw [if_neg (by simp only [List.length_nil]; omega)]; rfl
  | v :: l, k, Z, h => by
    simp only [List.length_cons] at h
    obtain ⟨h1, h2⟩ := fold_lay C off l (k + 1) (Z.setIfInBounds (off + k) v) (by simp; omega)
    rw [List.zipIdx_cons, List.foldl_cons]
    refine ⟨by rw [h1]; simp, fun j => ?_⟩
    rw [h2 j]
    by_cases e : j = off + k
    · subst e
      rw [if_neg (by omega), if_pos (by simp), Array.getElem?_setIfInBounds_self_of_lt (by omega)]
      simp
    · by_cases e2 : off + (k + 1) ≤ j ∧ j < off + (k + 1) + l.length
      · rw [if_pos e2, if_pos (by simp; omega), show j - (off + k) = (j - (off + (k + 1))) + 1 by omega]; rfl
      · rw [if_neg e2, if_neg (by simp; omega), Array.getElem?_setIfInBounds_ne (by omega)]
noncomputable def runC0 (m : Value) (V : List Int) (fu : Int) : Array Value :=
  ((((V.map (Value.int .u32)).zipIdx 0).foldl (fun cs (x : Value × Nat) => cs.setIfInBounds (1 + x.2) x.1) (Try.zeroCells63.setIfInBounds 0 m))).setIfInBounds 66 (.int .i64 fu)
theorem zero63_size : Try.zeroCells63.size = 68 := by kernel_rfl
theorem zero63_65 : Try.zeroCells63[65]? = some (.int .i64 0) := by kernel_rfl
theorem zero63_67 : Try.zeroCells63[67]? = some (.int .i64 0) := by kernel_rfl
theorem runC0_ok (m : Value) (V : List Int) (hl : V.length = 64) (fu : Int) : RunC (runC0 m V fu) m V 0 fu 0 := by
  obtain ⟨h1, h2⟩ := fold_lay #[] 1 (V.map (Value.int .u32)) 0 (Try.zeroCells63.setIfInBounds 0 m) (by simp [zero63_size, hl])
  have hs : (runC0 m V fu).size = 68 := by unfold runC0; rw [Array.size_setIfInBounds, h1]; simp [zero63_size]
  have hg : ∀ j : Nat, j ≠ 66 → (runC0 m V fu)[j]? = if 1 + 0 ≤ j ∧ j < 1 + 0 + (V.map (Value.int .u32)).length then (V.map (Value.int .u32))[j - (1 + 0)]? else (Try.zeroCells63.setIfInBounds 0 m)[j]? := fun j hj => by
    unfold runC0
    rw [Array.getElem?_setIfInBounds_ne (by omega)]
    exact h2 j
  refine ⟨hs, hl, ?_, fun j hj => ?_, ?_, ?_, ?_⟩
  · rw [hg 0 (by omega), if_neg (by omega), Array.getElem?_setIfInBounds_self_of_lt (by simp [zero63_size])]
  · rw [hg (1 + j) (by omega), if_pos (by simp; omega)]
    simp [rd, List.getD_eq_getElem?_getD, List.getElem?_eq_getElem (show j < V.length by omega), show 1 + j - 1 = j by omega]
  · rw [hg 65 (by omega), if_neg (by simp; omega), Array.getElem?_setIfInBounds_ne (by omega)]; exact zero63_65
  · unfold runC0
    rw [Array.getElem?_setIfInBounds_self_of_lt (by rw [h1]; simp [zero63_size])]
  · rw [hg 67 (by omega), if_neg (by simp; omega), Array.getElem?_setIfInBounds_ne (by omega)]; exact zero63_67
theorem run_build63 (p : Option Addr) (V : List Int) (hl : V.length = 64) (fu : Int) (w : World) :
    (Instr.build 63 #[(0, .pointer p), (1, .agg (arrU V)), (3, .int .i64 fu)]).run Try.prog w = .ok (.agg (runC0 (.pointer p) V fu)) w := by
  have e1 : (Value.pointer p).cells = #[Value.pointer p] := rfl
  have e2 : (Value.int .i64 fu).cells = #[Value.int .i64 fu] := rfl
  have e3 : (Value.agg (arrU V)).cells = arrU V := rfl
  have e4 : (Value.agg Try.zeroCells63).cells = Try.zeroCells63 := rfl
  obtain ⟨h1, h2⟩ := fold_lay #[] 1 (V.map (Value.int .u32)) 0 (Try.zeroCells63.setIfInBounds 0 (.pointer p)) (by simp [zero63_size, hl])
  have e5 : ∀ (f : Array Value → Value × Nat → Array Value) (Z : Array Value), Array.foldl f Z (arrU V).zipIdx 0 64 = ((V.map (Value.int .u32)).zipIdx 0).foldl f Z := fun f Z => by
    have hz : (arrU V).zipIdx.size = 64 := by simp [arrU, hl]
    rw [← hz, Array.foldl_toList]
    simp [arrU]
  have h3 : ¬ (List.foldl (fun cs (x : Value × Nat) => cs.setIfInBounds (1 + x.snd) x.fst) (Try.zeroCells63.setIfInBounds 0 (Value.pointer p)) ((List.map (Value.int IntKind.u32) V).zipIdx 0)).size < 67 := by
    rw [h1]; simp [zero63_size]
  simp [Instr.build, Try.underlying63, Sem.run_bind, Instr.fill, e1, e2, e3, e4, zero63_size, arrU_size, hl, e5, h3, runC0]
end Go.Proofs.Ytpeljnnbknnbmaa.PA
