import Derived.Test.YtpeljnnbknnbmaaN1
namespace Go.Proofs.Ytpeljnnbknnbmaa.PD
open Go.RowKit Go.Proofs.YtpeljnnbknnbmaaW.PrintWords Go.Proofs.YtpeljnnbknnbmaaW.PrintLast Go.Proofs.YtpeljnnbknnbmaaW.PrintMore
set_option linter.unusedVariables false
set_option linter.unusedSimpArgs false
theorem RnAt.v_nat {w : World} {g : Nat} {lv ev mv : Value} {at_ : Int} {V : List Int} (h : RnAt w g lv ev mv at_ V) (d : Nat) (x : Int) (hd : d < 64) : (w.setCell ⟨g, 4 + d, none⟩ (.int .u32 x)).cell? ⟨g, 4 + d, none⟩ = some (.int .u32 x) := by
  have := (h.setV d hd x).gv d hd
  have hl : d < V.length := by obtain ⟨C, _, r⟩ := h; have := r.len; omega
  rw [rd_set V d x d hl, if_pos rfl] at this
  exact this
set_option maxRecDepth 100000 in
set_option maxHeartbeats 4000000 in
/-- the end of a loop: the count goes down; while it is not 0 the runner stands at the loop's head -/
theorem plain_end (w : World) (g : Nat) (la ea : Addr) (ln lc en ec : Nat) (mv : Value) (k from_ d : Nat) (V : List Int) (h : RnAt w g (.slice (some la) ln lc) (.slice (some ea) en ec) mv k V) (hk : k < en) (hf : from_ < ln) (hd : d < 64)
    (he : w.cell? (ea.add k) = some (.int .i64 from_)) (hD : w.cell? ⟨(la.add (from_ * 5)).block, (la.add (from_ * 5)).off + 1, none⟩ = some (.int .i64 d))
    (hlg : (la.add (from_ * 5)).block ≠ g) (hla : (la.add (from_ * 5)).block < w.heap.size) (hea : (ea.add k).block < w.heap.size)
    (D A B imm : Int) :
    Calls Try.prog 60 #[.pointer (some ⟨g, 0, none⟩), .agg #[.int .i64 24, .int .i64 D, .int .i64 A, .int .i64 B, .int .i32 imm]] w (PlainTold w g (.slice (some la) ln lc) (.slice (some ea) en ec) mv (if (rd V d - 1) % 4294967296 = 0 then (k : Int) else from_) (V.set d ((rd V d - 1) % 4294967296))) := by
  have h0 := h.gl
  have h1 := h.ge
  have h3 := h.ga
  have h4 := h.gv d hd
  have hfz := h.frozen (4 + d)
  have hf3 := h.frozen 3
  have hlt := h.lt
  have hki : (k : Int) < en := by omega
  have hfi : (from_ : Int) < ln := by omega
  have hdi : (d : Int) < 64 := by omega
  have hne : ¬ (g = w.heap.size) := by omega
  have hne2 : ¬ (w.heap.size = g) := by omega
  have hne3 : ¬ ((ea.add k).block = w.heap.size) := by omega
  have hne4 : ¬ ((la.add (from_ * 5)).block = w.heap.size) := by omega
  have HR := Aside0.mk h
  obtain ⟨x, hx⟩ : ∃ x, x = (rd V d - 1) % 4294967296 := ⟨_, rfl⟩
  rw [← hx]
  have hst := HR.out.v_nat d x hd
  obtain ⟨r, hr⟩ : ∃ r, r = (if x = 0 then (k : Int) else from_) := ⟨_, rfl⟩
  rw [← hr]
  have HRR := Aside0.mk hr
  clear h hr
  go_enter Try.func60, Try.ntmps60
  go_wp2
  go_region
  go_wp2
  go_region
  go_wp2
  · rename_i hz
    rw [← hx] at hz
    have hz' : ¬ (x = 0) := by simpa using hz
    have hr : r = from_ := by rw [HRR.out, if_neg hz']
    rw [hr]
    rw [← hx]
    go_end0
    exact ⟨rfl, by repeat (first | exact RnAt.setA (RnAt.setV HR.out d hd _) _ | apply RnAt.drew | apply RnAt.drewN | apply RnAt.alloc), by repeat (first | exact Keep.refl _ _ | apply Keep.drew | apply Keep.drewN | apply Keep.alloc | apply Keep.setG)⟩
  · rename_i hz
    rw [← hx] at hz
    have hz' : x = 0 := by simpa using hz
    have hr : r = k := by rw [HRR.out, if_pos hz']
    rw [hr]
    rw [← hx]
    go_end0
    exact ⟨rfl, by repeat (first | exact RnAt.setV HR.out d hd _ | apply RnAt.drew | apply RnAt.drewN | apply RnAt.alloc), by repeat (first | exact Keep.refl _ _ | apply Keep.drew | apply Keep.drewN | apply Keep.alloc | apply Keep.setG)⟩
end Go.Proofs.Ytpeljnnbknnbmaa.PD
