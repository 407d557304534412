import Derived.Test.YtpeljnnbknnbmaaT1
import Derived.Test.YtpeljnnbknnbmaaM7
namespace Go.Proofs.Ytpeljnnbknnbmaa.PB
open Go.RowKit Go.Proofs.YtpeljnnbknnbmaaW.PrintWords Go.Proofs.YtpeljnnbknnbmaaW.PrintLast Go.Proofs.YtpeljnnbknnbmaaW.PrintMore
set_option linter.unusedVariables false
set_option linter.unusedSimpArgs false
def idleS (x : S49) : Bool := idleV x.f0 x.f1 x.f2 x.f3 x.f4
/-- a step is put behind what is kept -/
def putL : Nat → List S49 → S49 → List S49
  | 0, out, x => out
  | n + 1, out, x => if idleS x = true then out else if out.length = 0 then out ++ [x] else
    match pairV (rd_T49 out ((out.length - 1 : Nat) : Int)) x with
    | some y => putL n (out.take (out.length - 1)) y
    | none => out ++ [x]
def putP (out : List S49) (x : S49) : List S49 := putL (out.length + 1) out x
/-- what a call of the tidier's leaves -/
def TidTold (w : World) (base g : Nat) (out : List S49) (op vs : List Int) (e : Ending) (w' : World) : Prop := e = .returned (.tuple #[]) ∧ TidAt w' base g out op vs ∧ Below base w w'
theorem drew_alloc (w : World) (o : Obj) : (w.alloc o).drew = w.drew.alloc o := rfl
set_option maxHeartbeats 4000000 in
theorem put_idle (w : World) (base g : Nat) (out : List S49) (op vs : List Int) (x : S49) (h : TidAt w base g out op vs) (hb : base ≤ w.heap.size) (hi : idleS x = true) :
    Calls Try.prog 53 #[.pointer (some ⟨g, 0, none⟩), .agg #[.int .i64 x.f0, .int .i64 x.f1, .int .i64 x.f2, .int .i64 x.f3, .int .i32 x.f4]] w (TidTold w base g out op vs) := by
  have HT := Aside0.mk h
  have he : peep_idle.f 2 x.f0 x.f1 x.f2 x.f3 x.f4 = some true := by rw [idle_eq 0]; congr 1
  have HE := Aside0.mk he
  clear h hi he
  go_enter Try.func53, Try.ntmps53
  go_wp2_with (first | (go_at_call 57; (with_reducible refine (peep_idle.calls 2 _ _ _ _ _ true _ HE.out).mono ?_); rintro e w1 ⟨rfl, hb1⟩; have HB1 := Aside0.mk hb1; clear hb1))
  go_end0
  have z : Below w.heap.size w w1 := (below_alloc (Below.refl _ _) _).trans (HB1.out.mono (by simp))
  exact ⟨rfl, HT.out.below z, z.mono hb⟩
set_option maxHeartbeats 4000000 in
theorem put_first (w : World) (base g : Nat) (op vs : List Int) (x : S49) (h : TidAt w base g [] op vs) (hb : base ≤ w.heap.size) (hi : idleS x = false) :
    Calls Try.prog 53 #[.pointer (some ⟨g, 0, none⟩), .agg #[.int .i64 x.f0, .int .i64 x.f1, .int .i64 x.f2, .int .i64 x.f3, .int .i32 x.f4]] w (TidTold w base g [x] op vs) := by
  obtain ⟨A, c, A1, c1, A2, c2, hv⟩ := h
  have HT := Aside0.mk hv
  have he : peep_idle.f 2 x.f0 x.f1 x.f2 x.f3 x.f4 = some false := by rw [idle_eq 0]; congr 1
  have HE := Aside0.mk he
  have hlt := blk_lt hv.blk
  clear hv hi he
  go_enter Try.func53, Try.ntmps53
  go_wp2_with (first | (go_at_call 57; (with_reducible refine (peep_idle.calls 2 _ _ _ _ _ false _ HE.out).mono ?_); rintro e w1 ⟨rfl, hb1⟩; have HB1 := Aside0.mk ((below_alloc (Below.refl w.heap.size w) _).trans (hb1.mono (by simp))); have hbx := (hb1.block w.heap.size (by simp)).trans (heap_alloc_new w _); have HT1 := Aside0.mk (HT.out.below HB1.out); have q0 := blk_cell HT1.out.blk 0; have f0 := blk_frozen HT1.out.blk 0; have hlt1 := blk_lt HT1.out.blk; have b0 := blk_cell hbx 0; have b1 := blk_cell hbx 1; have b2 := blk_cell hbx 2; have b3 := blk_cell hbx 3; have b4 := blk_cell hbx 4; clear hb1 hbx))
  go_region_law (rw [drew_alloc]; refine Kd.R_append_step k49 (w0 := w1) base (by rfl) (.tmp 46) (.tmp 48) 26 49 (.agg #[(.int .i64 0), (.int .i64 0), (.int .i64 0), (.int .i64 0), (.int .i32 0)]) 40 rfl Try.underlying26 info49 rfl (by decide) (by decide) (.slice A 0 c) [] x [.int .i64 x.f0, .int .i64 x.f1, .int .i64 x.f2, .int .i64 x.f3, .int .i32 x.f4] (fun _ => True) (fun _ => False) rfl rfl (k49_mkM _ _ _ _) (fun _ hk => hk.elim) (fun _ _ => trivial) (Kd.R_drew HT1.out.rout) (below_drew (Below.refl _ _)) (Nat.le_trans hb HB1.out.size) (by simp) ?_; intro v1 w2 ho hb2 hgr hat; obtain ⟨A', c', hv'⟩ := Kd.R_slice ho; subst hv'; have hg3 := (TidV.grown (HT1.out.below (below_drew (Below.refl _ _))) hgr ho).1; have q0' := blk_cell hg3 0; have f0' := blk_frozen hg3 0; have HO := Aside0.mk ho; have HB2 := Aside0.mk hb2; have HG := Aside0.mk hgr; clear ho hb2 hgr hat hg3 q0 f0)
  all_goals
    go_end0
    exact ⟨rfl, ⟨_, _, _, _, _, _, TidV.appended (out' := [x]) (HT1.out.below (below_drew (Below.refl _ _))) HG.out HO.out⟩, ((HB1.out.mono hb).trans HB2.out).setCell HT1.out.base_le _⟩
end Go.Proofs.Ytpeljnnbknnbmaa.PB
