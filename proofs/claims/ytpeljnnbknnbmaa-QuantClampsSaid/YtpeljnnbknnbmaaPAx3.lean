-- Written by pr.py, a driver around the kit's printer, for this seat. Not trusted: Lean checks it.
import Derived.Test.YtpeljnnbknnbmaaPAx0
import Derived.Test.YtpeljnnbknnbmaaPAx1
import Derived.Test.YtpeljnnbknnbmaaPAx2
namespace Go.Proofs.Ytpeljnnbknnbmaa.PA
open Go.RowKit Go.Proofs.YtpeljnnbknnbmaaW.PrintWords Go.Proofs.YtpeljnnbknnbmaaW.PrintLast Go.Proofs.YtpeljnnbknnbmaaW.PrintMore
attribute [local go_sem] max2_int min2_int max_two min_two max_three min_three max_four min_four   -- for this text's walks alone
set_option linter.unusedVariables false
set_option linter.unusedSimpArgs false

/-! ### quant_Steps: function 13 -/
def quant_Steps.j0 : Nat → Int → Int → Int → Int → Int → Bool → Option ((List (S49)))
  | 0, _, _, _, _, _, _ => none
  | k + 1, x0, x1, x2, x3, x4, x33 => if x33 = true then (some ([] : List (S49))) else ((some (([(⟨1, x2, 0, 0, x3⟩ : S49), (⟨6, wrap64 (x2 + 1), x1, x2, 0⟩ : S49), (⟨5, x0, x1, x2, 0⟩ : S49), (⟨1, x2, 0, 0, 1073741824⟩ : S49), (⟨3, x0, x0, x2, 0⟩ : S49), (⟨11, x2, x0, x2, 0⟩ : S49), (⟨3, wrap64 (x2 + 1), wrap64 (x2 + 1), x2, 0⟩ : S49), (⟨14, wrap64 (x2 + 1), wrap64 (x2 + 1), 0, 1⟩ : S49), (⟨15, x0, x0, 0, 31⟩ : S49), (⟨8, x0, x0, wrap64 (x2 + 1), 0⟩ : S49)] : List (S49)) : List (S49))).bind fun y110 => (if x4 = 0 then (some y110) else (if 0 ≤ (wrap64 (x4 - 1)) then ((some (([(⟨1, x2, 0, 0, shl .i32 1 (wrap64 (x4 - 1))⟩ : S49), (⟨3, x0, x0, x2, 0⟩ : S49), (⟨16, x0, x0, 0, wrap32 (x4)⟩ : S49)] : List (S49)) : List (S49))).bind fun y113 => (if y110.length + y113.length < 3518437208883 then (some (y110 ++ y113)) else (none))) else (none))))
def quant_Steps.f (k : Nat) (a0 : Int) (a1 : Int) (a2 : Int) (a3 : Int) (a4 : Int) : Option ((List (S49))) := (quant_good.f a4).bind fun t101 => (if t101 = true then ((quant_vars.f (([a1, a2, wrap64 (a2 + 1)] : List Int))).bind fun t105 => (if t105 = true then ((quant_vars.f (([a0, a2, wrap64 (a2 + 1)] : List Int))).bind fun t109 => (quant_Steps.j0 k a0 a1 a2 a3 a4 (!t109))) else (quant_Steps.j0 k a0 a1 a2 a3 a4 true))) else (quant_Steps.j0 k a0 a1 a2 a3 a4 true))
theorem quant_Steps.mono_l : ∀ k, (∀ y0 y1 y2 y3 y4 y5, LeO (quant_Steps.j0 k y0 y1 y2 y3 y4 y5) (quant_Steps.j0 (k + 1) y0 y1 y2 y3 y4 y5))
  | 0 => fun _ _ _ _ _ _ r h => by simp [quant_Steps.j0] at h
  | k + 1 => by
    have ih0 := quant_Steps.mono_l k
    · intro y0 y1 y2 y3 y4 y5
      unfold quant_Steps.j0
      repeat' first
      | (with_reducible exact ih0 _ _ _ _ _ _)
      | (with_reducible exact LeO.refl _)
      | (with_reducible exact LeO.none _)
      | (with_reducible refine LeO.ite ?_ ?_)
      | (with_reducible refine LeO.bind ?_ (fun _ => ?_))
      | exact ih0 _ _ _ _ _ _
      | exact LeO.none _
      | refine LeO.ite ?_ ?_
      | refine LeO.bind ?_ (fun _ => ?_)
theorem quant_Steps.mono : ∀ a0 a1 a2 a3 a4 k, LeO (quant_Steps.f k a0 a1 a2 a3 a4) (quant_Steps.f (k + 1) a0 a1 a2 a3 a4) := by
  intro a0 a1 a2 a3 a4 k
  have ih0 := quant_Steps.mono_l k
  unfold quant_Steps.f
  repeat' first
      | (with_reducible exact ih0 _ _ _ _ _ _)
      | (with_reducible exact LeO.refl _)
      | (with_reducible exact LeO.none _)
      | (with_reducible refine LeO.ite ?_ ?_)
      | (with_reducible refine LeO.bind ?_ (fun _ => ?_))
      | exact ih0 _ _ _ _ _ _
      | exact LeO.none _
      | refine LeO.ite ?_ ?_
      | refine LeO.bind ?_ (fun _ => ?_)
set_option maxHeartbeats 8000000 in
set_option maxRecDepth 100000 in
theorem quant_Steps.calls (k : Nat) (a0 : Int) (a1 : Int) (a2 : Int) (a3 : Int) (a4 : Int) (r : List (S49)) (w : World) (h : quant_Steps.f k a0 a1 a2 a3 a4 = some r) :
    Calls Try.prog 13 #[.int .i64 a0, .int .i64 a1, .int .i64 a2, .int .i32 a3, .int .i64 a4] w fun e w' => ∃ v0_ : Value, e = .returned (v0_) ∧ Kd.R k49 49 w' w.heap.size (fun _ => True) v0_ r ∧ Below w.heap.size w w' := by
  have hu49 := Try.underlying49
  have HB := Aside0.mk (Below.refl w.heap.size w)
  have H : ((quant_good.f a4).bind fun t101 => (if t101 = true then ((quant_vars.f (([a1, a2, wrap64 (a2 + 1)] : List Int))).bind fun t105 => (if t105 = true then ((quant_vars.f (([a0, a2, wrap64 (a2 + 1)] : List Int))).bind fun t109 => (quant_Steps.j0 k a0 a1 a2 a3 a4 (!t109))) else (quant_Steps.j0 k a0 a1 a2 a3 a4 true))) else (quant_Steps.j0 k a0 a1 a2 a3 a4 true))) = some r := h
  clear h
  have HC6 := Aside0.mk H
  clear H
  go_enter Try.func13, Try.ntmps13
  go_upto_region 1 with (fail)
  go_cut [33] (fun v33 wc => ∃ (kq : Nat) (x33_5 : Bool), v33 = .bool x33_5 ∧ Aside0 (quant_Steps.j0 kq a0 a1 a2 a3 a4 x33_5 = some r) ∧ Aside0 (kq ≤ k) ∧ Aside0 (Below w.heap.size w wc))
  case first =>
    have H := HC6.out
    clear HC6
    replace H := Option.bind_eq_some_iff.mp H
    obtain ⟨t101, A70, H⟩ := H
    replace H : (if t101 = true then ((quant_vars.f (([a1, a2, wrap64 (a2 + 1)] : List Int))).bind fun t105 => (if t105 = true then ((quant_vars.f (([a0, a2, wrap64 (a2 + 1)] : List Int))).bind fun t109 => (quant_Steps.j0 k a0 a1 a2 a3 a4 (!t109))) else (quant_Steps.j0 k a0 a1 a2 a3 a4 true))) else (quant_Steps.j0 k a0 a1 a2 a3 a4 true)) = some r := H
    have A7 := Aside0.mk A70
    clear A70
    by_cases c8 : t101 = true
    · subst c8
      have H1 : ((quant_vars.f (([a1, a2, wrap64 (a2 + 1)] : List Int))).bind fun t105 => (if t105 = true then ((quant_vars.f (([a0, a2, wrap64 (a2 + 1)] : List Int))).bind fun t109 => (quant_Steps.j0 k a0 a1 a2 a3 a4 (!t109))) else (quant_Steps.j0 k a0 a1 a2 a3 a4 true))) = some r := by rw [if_pos rfl] at H; exact H
      clear H
      have H := H1
      clear H1
      obtain ⟨y102, hy102⟩ : ∃ y_ : List Int, y_ = (([a1, a2, wrap64 (a2 + 1)] : List Int)) := ⟨_, rfl⟩
      replace H : ((quant_vars.f y102).bind fun t105 => (if t105 = true then ((quant_vars.f (([a0, a2, wrap64 (a2 + 1)] : List Int))).bind fun t109 => (quant_Steps.j0 k a0 a1 a2 a3 a4 (!t109))) else (quant_Steps.j0 k a0 a1 a2 a3 a4 true))) = some r := by first | (rw [hy102]; with_reducible exact H) | (have H2_ := (Option.bind_some _ _).symm.trans H; rw [hy102]; with_reducible exact H2_) | (have H2_ := (Option.bind_some _ _).symm.trans H; with_reducible exact H2_) | with_reducible exact H | (rw [hy102]; exact H) | exact H
      have Ny102 := Aside0.mk hy102
      clear hy102
      replace H := Option.bind_eq_some_iff.mp H
      obtain ⟨t105, A90, H⟩ := H
      replace H : (if t105 = true then ((quant_vars.f (([a0, a2, wrap64 (a2 + 1)] : List Int))).bind fun t109 => (quant_Steps.j0 k a0 a1 a2 a3 a4 (!t109))) else (quant_Steps.j0 k a0 a1 a2 a3 a4 true)) = some r := H
      have A9 := Aside0.mk A90
      clear A90
      by_cases c10 : t105 = true
      · subst c10
        have H1 : ((quant_vars.f (([a0, a2, wrap64 (a2 + 1)] : List Int))).bind fun t109 => (quant_Steps.j0 k a0 a1 a2 a3 a4 (!t109))) = some r := by rw [if_pos rfl] at H; exact H
        clear H
        have H := H1
        clear H1
        obtain ⟨y106, hy106⟩ : ∃ y_ : List Int, y_ = (([a0, a2, wrap64 (a2 + 1)] : List Int)) := ⟨_, rfl⟩
        replace H : ((quant_vars.f y106).bind fun t109 => (quant_Steps.j0 k a0 a1 a2 a3 a4 (!t109))) = some r := by first | (rw [hy106]; with_reducible exact H) | (have H2_ := (Option.bind_some _ _).symm.trans H; rw [hy106]; with_reducible exact H2_) | (have H2_ := (Option.bind_some _ _).symm.trans H; with_reducible exact H2_) | with_reducible exact H | (rw [hy106]; exact H) | exact H
        have Ny106 := Aside0.mk hy106
        clear hy106
        replace H := Option.bind_eq_some_iff.mp H
        obtain ⟨t109, A110, H⟩ := H
        replace H : (quant_Steps.j0 k a0 a1 a2 a3 a4 (!t109)) = some r := H
        have A11 := Aside0.mk A110
        clear A110
        have H' := Aside0.mk H
        clear H
        go_wp2_with (first | ((with_reducible refine gate_callee (f := 40) rfl ?_); refine goesL_ (some 14) rfl rfl Try.func40 (by kernel_rfl) rfl #[.int .i64 a4] rfl (by (try simp only [List.map_toArray, List.map_cons, List.map_nil]); first | done | rfl | (simp only [List.length_drop, List.length_take]; rfl)) ?_; (with_reducible refine (quant_good.calls a4 true _ A7.out).mono ?_); rintro e w' ⟨rfl, ⟨nd, rfl⟩⟩; refine ⟨_, rfl, ?_⟩) | ((with_reducible refine gate_dst (N := 21) rfl ?_); (try (refine gate_guard (by rfl) ?_; dsimp only)); refine Kd.R_lit (Kd.int .i64) _ 3 ?hg (N := 21) ?hd (xs := ([a1, a2, wrap64 (a2 + 1)] : List Int)) (inner := [.int .i64 a1, .int .i64 a2, .int .i64 (wrap64 (a2 + 1))]) (ok := fun _ => True) (okp := fun _ => True) ?hr ?hp (fun _ hk => hk) trivial (Below.refl _ _) (Nat.le_refl _) (by simp) ?_; (case hd => rfl); (case hg => rfl); (case hr => first | (go_simp; done) | (go_simp; rfl)); (case hp => exact (Reps.one (show Kd.M (Kd.int .i64) _ _ _ a1 [.int .i64 a1] from rfl) (Reps.one (show Kd.M (Kd.int .i64) _ _ _ a2 [.int .i64 a2] from rfl) (Reps.one (show Kd.M (Kd.int .i64) _ _ _ (wrap64 (a2 + 1)) [.int .i64 (wrap64 (a2 + 1))] from rfl) (Reps.none _ _))))); intro v103 w12 ho13 hb hg_ hnew_; clear hg_ hnew_; (first | rw [← Ny102.out] at ho13 | (simp only [Int.reduceToNat] at ho13; rw [← Ny102.out] at ho13)); have n0_ := Aside0.mk (Kd.R_lower ho13 (below_size (by repeat (first | (with_reducible first | exact HB.out | apply below_alloc | apply pw_below_drewN | apply below_drew1) | exact HB.out)))); have n1_ := Aside0.mk (below_step (by repeat (first | (with_reducible first | exact HB.out | apply below_alloc | apply pw_below_drewN | apply below_drew1) | exact HB.out)) hb); clear HB; have HO104 := n0_; have HB := n1_; clear n0_ n1_; clear hb ho13; obtain ⟨Ao14, co14, eo14⟩ := Kd.R_slice HO104.out; subst eo14) | (go_at_call 41; (with_reducible refine (quant_vars.calls _ _ y102 true _ ?side1 ?side2 A9.out).mono ?_); (case side1 => repeat (first | exact (Kd.R_reads' HO104.out).2.2 | (with_reducible refine Kd.C_alloc ?_ _) | (with_reducible refine Kd.C_drewN ?_ _) | (with_reducible refine Kd.C_drew ?_))); (case side2 => exact (Kd.R_reads' HO104.out).2.1); rintro e w15 ⟨rfl, hb⟩; have n0_ := Aside0.mk (Kd.R_below (by (with_reducible repeat (first | apply Kd.R_alloc | apply Kd.R_drewN | apply Kd.R_drew)); exact HO104.out) hb); have n1_ := Aside0.mk (below_step (by repeat (first | (with_reducible first | exact HB.out | apply below_alloc | apply pw_below_drewN | apply below_drew1) | exact HB.out)) hb); clear HO104; clear HB; have HO104 := n0_; have HB := n1_; clear n0_ n1_; (try clear hb); (try clear hb2); (try clear hk); (try clear hi)) | ((with_reducible refine gate_dst (N := 30) rfl ?_); (try (refine gate_guard (by rfl) ?_; dsimp only)); refine Kd.R_lit (Kd.int .i64) _ 3 ?hg (N := 30) ?hd (xs := ([a0, a2, wrap64 (a2 + 1)] : List Int)) (inner := [.int .i64 a0, .int .i64 a2, .int .i64 (wrap64 (a2 + 1))]) (ok := fun _ => True) (okp := fun _ => True) ?hr ?hp (fun _ hk => hk) trivial (Below.refl _ _) (Nat.le_refl _) (by simp) ?_; (case hd => rfl); (case hg => rfl); (case hr => first | (go_simp; done) | (go_simp; rfl)); (case hp => exact (Reps.one (show Kd.M (Kd.int .i64) _ _ _ a0 [.int .i64 a0] from rfl) (Reps.one (show Kd.M (Kd.int .i64) _ _ _ a2 [.int .i64 a2] from rfl) (Reps.one (show Kd.M (Kd.int .i64) _ _ _ (wrap64 (a2 + 1)) [.int .i64 (wrap64 (a2 + 1))] from rfl) (Reps.none _ _))))); intro v107 w16 ho17 hb hg_ hnew_; clear hg_ hnew_; (first | rw [← Ny106.out] at ho17 | (simp only [Int.reduceToNat] at ho17; rw [← Ny106.out] at ho17)); have n0_ := Aside0.mk (Kd.R_elder' (by (with_reducible repeat (first | apply Kd.R_alloc | apply Kd.R_drewN | apply Kd.R_drew)); exact HO104.out) (Kd.R_base ho17) hb); have n1_ := Aside0.mk (Kd.R_lower (Kd.R_new' ho17 (Kd.R_lt (by (with_reducible repeat (first | apply Kd.R_alloc | apply Kd.R_drewN | apply Kd.R_drew)); exact HO104.out))) (below_size (by repeat (first | (with_reducible first | exact HB.out | apply below_alloc | apply pw_below_drewN | apply below_drew1) | exact HB.out)))); have n2_ := Aside0.mk (below_step (by repeat (first | (with_reducible first | exact HB.out | apply below_alloc | apply pw_below_drewN | apply below_drew1) | exact HB.out)) hb); clear HO104; clear HB; have HO104 := n0_; have HO108 := n1_; have HB := n2_; clear n0_ n1_ n2_; clear hb ho17; obtain ⟨Ao18, co18, eo18⟩ := Kd.R_slice HO108.out; subst eo18) | (go_at_call 41; (with_reducible refine (quant_vars.calls _ _ y106 t109 _ ?side1 ?side2 A11.out).mono ?_); (case side1 => repeat (first | exact (Kd.R_reads' HO108.out).2.2 | (with_reducible refine Kd.C_alloc ?_ _) | (with_reducible refine Kd.C_drewN ?_ _) | (with_reducible refine Kd.C_drew ?_))); (case side2 => exact (Kd.R_reads' HO108.out).2.1); rintro e w19 ⟨rfl, hb⟩; have n0_ := Aside0.mk (Kd.R_below (by (with_reducible repeat (first | apply Kd.R_alloc | apply Kd.R_drewN | apply Kd.R_drew)); exact HO104.out) hb); have n1_ := Aside0.mk (Kd.R_below (by (with_reducible repeat (first | apply Kd.R_alloc | apply Kd.R_drewN | apply Kd.R_drew)); exact HO108.out) hb); have n2_ := Aside0.mk (below_step (by repeat (first | (with_reducible first | exact HB.out | apply below_alloc | apply pw_below_drewN | apply below_drew1) | exact HB.out)) hb); clear HO104; clear HO108; clear HB; have HO104 := n0_; have HO108 := n1_; have HB := n2_; clear n0_ n1_ n2_; (try clear hb); (try clear hb2); (try clear hk); (try clear hi)))
        go_meet
        case rel => exact ⟨_, (!t109), (by first | rfl | (simp; done) | (simp [*]; done) | (simp [*]; omega)), H', ⟨by first | omega | exact Nat.le_refl _⟩, ⟨by repeat (first | (with_reducible first | exact HB.out | apply below_alloc | apply pw_below_drewN | apply below_drew1) | exact HB.out)⟩⟩
      · replace c10 := Bool.eq_false_iff.mpr c10
        subst c10
        have H1 : (quant_Steps.j0 k a0 a1 a2 a3 a4 true) = some r := by rw [if_neg (show ¬ (false = true) by decide)] at H; exact H
        clear H
        have H := H1
        clear H1
        have H' := Aside0.mk H
        clear H
        go_wp2_with (first | ((with_reducible refine gate_callee (f := 40) rfl ?_); refine goesL_ (some 14) rfl rfl Try.func40 (by kernel_rfl) rfl #[.int .i64 a4] rfl (by (try simp only [List.map_toArray, List.map_cons, List.map_nil]); first | done | rfl | (simp only [List.length_drop, List.length_take]; rfl)) ?_; (with_reducible refine (quant_good.calls a4 true _ A7.out).mono ?_); rintro e w' ⟨rfl, ⟨nd, rfl⟩⟩; refine ⟨_, rfl, ?_⟩) | ((with_reducible refine gate_dst (N := 21) rfl ?_); (try (refine gate_guard (by rfl) ?_; dsimp only)); refine Kd.R_lit (Kd.int .i64) _ 3 ?hg (N := 21) ?hd (xs := ([a1, a2, wrap64 (a2 + 1)] : List Int)) (inner := [.int .i64 a1, .int .i64 a2, .int .i64 (wrap64 (a2 + 1))]) (ok := fun _ => True) (okp := fun _ => True) ?hr ?hp (fun _ hk => hk) trivial (Below.refl _ _) (Nat.le_refl _) (by simp) ?_; (case hd => rfl); (case hg => rfl); (case hr => first | (go_simp; done) | (go_simp; rfl)); (case hp => exact (Reps.one (show Kd.M (Kd.int .i64) _ _ _ a1 [.int .i64 a1] from rfl) (Reps.one (show Kd.M (Kd.int .i64) _ _ _ a2 [.int .i64 a2] from rfl) (Reps.one (show Kd.M (Kd.int .i64) _ _ _ (wrap64 (a2 + 1)) [.int .i64 (wrap64 (a2 + 1))] from rfl) (Reps.none _ _))))); intro v103 w20 ho21 hb hg_ hnew_; clear hg_ hnew_; (first | rw [← Ny102.out] at ho21 | (simp only [Int.reduceToNat] at ho21; rw [← Ny102.out] at ho21)); have n0_ := Aside0.mk (Kd.R_lower ho21 (below_size (by repeat (first | (with_reducible first | exact HB.out | apply below_alloc | apply pw_below_drewN | apply below_drew1) | exact HB.out)))); have n1_ := Aside0.mk (below_step (by repeat (first | (with_reducible first | exact HB.out | apply below_alloc | apply pw_below_drewN | apply below_drew1) | exact HB.out)) hb); clear HB; have HO104 := n0_; have HB := n1_; clear n0_ n1_; clear hb ho21; obtain ⟨Ao22, co22, eo22⟩ := Kd.R_slice HO104.out; subst eo22) | (go_at_call 41; (with_reducible refine (quant_vars.calls _ _ y102 false _ ?side1 ?side2 A9.out).mono ?_); (case side1 => repeat (first | exact (Kd.R_reads' HO104.out).2.2 | (with_reducible refine Kd.C_alloc ?_ _) | (with_reducible refine Kd.C_drewN ?_ _) | (with_reducible refine Kd.C_drew ?_))); (case side2 => exact (Kd.R_reads' HO104.out).2.1); rintro e w23 ⟨rfl, hb⟩; have n0_ := Aside0.mk (Kd.R_below (by (with_reducible repeat (first | apply Kd.R_alloc | apply Kd.R_drewN | apply Kd.R_drew)); exact HO104.out) hb); have n1_ := Aside0.mk (below_step (by repeat (first | (with_reducible first | exact HB.out | apply below_alloc | apply pw_below_drewN | apply below_drew1) | exact HB.out)) hb); clear HO104; clear HB; have HO104 := n0_; have HB := n1_; clear n0_ n1_; (try clear hb); (try clear hb2); (try clear hk); (try clear hi)))
        go_meet
        case rel => exact ⟨_, (true), (by first | rfl | (simp; done) | (simp [*]; done) | (simp [*]; omega)), H', ⟨by first | omega | exact Nat.le_refl _⟩, ⟨by repeat (first | (with_reducible first | exact HB.out | apply below_alloc | apply pw_below_drewN | apply below_drew1) | exact HB.out)⟩⟩
    · replace c8 := Bool.eq_false_iff.mpr c8
      subst c8
      have H1 : (quant_Steps.j0 k a0 a1 a2 a3 a4 true) = some r := by rw [if_neg (show ¬ (false = true) by decide)] at H; exact H
      clear H
      have H := H1
      clear H1
      have H' := Aside0.mk H
      clear H
      go_wp2_with (first | ((with_reducible refine gate_callee (f := 40) rfl ?_); refine goesL_ (some 14) rfl rfl Try.func40 (by kernel_rfl) rfl #[.int .i64 a4] rfl (by (try simp only [List.map_toArray, List.map_cons, List.map_nil]); first | done | rfl | (simp only [List.length_drop, List.length_take]; rfl)) ?_; (with_reducible refine (quant_good.calls a4 false _ A7.out).mono ?_); rintro e w' ⟨rfl, ⟨nd, rfl⟩⟩; refine ⟨_, rfl, ?_⟩))
      go_meet
      case rel => exact ⟨_, (true), (by first | rfl | (simp; done) | (simp [*]; done) | (simp [*]; omega)), H', ⟨by first | omega | exact Nat.le_refl _⟩, ⟨by repeat (first | (with_reducible first | exact HB.out | apply below_alloc | apply pw_below_drewN | apply below_drew1) | exact HB.out)⟩⟩
  case rest =>
    clear HC6
    try clear c1
    try clear p2
    try clear c4
    try clear p6
    try clear c8
    try clear c10
    try clear c13
    obtain ⟨kq, x33_5, rfl, HA, HJ5, HB⟩ := hcut
    cases kq with
    | zero => exact absurd HA.out (by simp [quant_Steps.j0])
    | succ kj5 =>
      have H := HA.out
      clear HA
      simp only [quant_Steps.j0] at H
      by_cases c24 : x33_5 = true
      · subst c24
        have H1 : (some ([] : List (S49))) = some r := by rw [if_pos rfl] at H; exact H
        clear H
        have H := H1
        clear H1
        obtain rfl := Option.some.inj H
        go_wp2
        go_ret
        exact ⟨_, by first | rfl | (simp [errW_none, errW_some] <;> rfl) | (simp [*, errW_none, errW_some] <;> rfl), by first | exact Kd.R_nil _ _ _ _ _ | exact Kd.N_nil _ _ _ _ _ | exact Kd.V_nil _ _ _ _ _ | exact Kd.Q_nil _ _ _ _ _ | exact Kd.S_nil _ _ _ _ _, by repeat (first | (with_reducible first | exact HB.out | apply below_alloc | apply pw_below_drewN | apply below_drew1) | exact HB.out)⟩
      · replace c24 := Bool.eq_false_iff.mpr c24
        subst c24
        have H1 : ((some (([(⟨1, a2, 0, 0, a3⟩ : S49), (⟨6, wrap64 (a2 + 1), a1, a2, 0⟩ : S49), (⟨5, a0, a1, a2, 0⟩ : S49), (⟨1, a2, 0, 0, 1073741824⟩ : S49), (⟨3, a0, a0, a2, 0⟩ : S49), (⟨11, a2, a0, a2, 0⟩ : S49), (⟨3, wrap64 (a2 + 1), wrap64 (a2 + 1), a2, 0⟩ : S49), (⟨14, wrap64 (a2 + 1), wrap64 (a2 + 1), 0, 1⟩ : S49), (⟨15, a0, a0, 0, 31⟩ : S49), (⟨8, a0, a0, wrap64 (a2 + 1), 0⟩ : S49)] : List (S49)) : List (S49))).bind fun y110 => (if a4 = 0 then (some y110) else (if 0 ≤ (wrap64 (a4 - 1)) then ((some (([(⟨1, a2, 0, 0, shl .i32 1 (wrap64 (a4 - 1))⟩ : S49), (⟨3, a0, a0, a2, 0⟩ : S49), (⟨16, a0, a0, 0, wrap32 (a4)⟩ : S49)] : List (S49)) : List (S49))).bind fun y113 => (if y110.length + y113.length < 3518437208883 then (some (y110 ++ y113)) else (none))) else (none)))) = some r := by rw [if_neg (show ¬ (false = true) by decide)] at H; exact H
        clear H
        have H := H1
        clear H1
        obtain ⟨y110, hy110⟩ : ∃ y_ : List (S49), y_ = (([(⟨1, a2, 0, 0, a3⟩ : S49), (⟨6, wrap64 (a2 + 1), a1, a2, 0⟩ : S49), (⟨5, a0, a1, a2, 0⟩ : S49), (⟨1, a2, 0, 0, 1073741824⟩ : S49), (⟨3, a0, a0, a2, 0⟩ : S49), (⟨11, a2, a0, a2, 0⟩ : S49), (⟨3, wrap64 (a2 + 1), wrap64 (a2 + 1), a2, 0⟩ : S49), (⟨14, wrap64 (a2 + 1), wrap64 (a2 + 1), 0, 1⟩ : S49), (⟨15, a0, a0, 0, 31⟩ : S49), (⟨8, a0, a0, wrap64 (a2 + 1), 0⟩ : S49)] : List (S49))) := ⟨_, rfl⟩
        replace H : (if a4 = 0 then (some y110) else (if 0 ≤ (wrap64 (a4 - 1)) then ((some (([(⟨1, a2, 0, 0, shl .i32 1 (wrap64 (a4 - 1))⟩ : S49), (⟨3, a0, a0, a2, 0⟩ : S49), (⟨16, a0, a0, 0, wrap32 (a4)⟩ : S49)] : List (S49)) : List (S49))).bind fun y113 => (if y110.length + y113.length < 3518437208883 then (some (y110 ++ y113)) else (none))) else (none))) = some r := by first | (rw [hy110]; with_reducible exact H) | (have H2_ := (Option.bind_some _ _).symm.trans H; rw [hy110]; with_reducible exact H2_) | (have H2_ := (Option.bind_some _ _).symm.trans H; with_reducible exact H2_) | with_reducible exact H | (rw [hy110]; exact H) | exact H
        have Ny110 := Aside0.mk hy110
        clear hy110
        by_cases c25 : a4 = 0
        · rw [if_pos c25] at H
          have c25b0 : (a4 == 0) = true := beq_iff_eq.mpr c25
          have c25b1 : (a4 != 0) = false := bne_eq_false_iff_eq.mpr c25
          clear c25
          obtain rfl := Option.some.inj H
          go_wp2_with (first | ((with_reducible refine gate_dst (N := 71) rfl ?_); (try (refine gate_guard (by rfl) ?_; dsimp only)); refine Kd.R_lit k49 _ 49 ?hg (N := 71) ?hd (xs := ([(⟨1, a2, 0, 0, a3⟩ : S49), (⟨6, wrap64 (a2 + 1), a1, a2, 0⟩ : S49), (⟨5, a0, a1, a2, 0⟩ : S49), (⟨1, a2, 0, 0, 1073741824⟩ : S49), (⟨3, a0, a0, a2, 0⟩ : S49), (⟨11, a2, a0, a2, 0⟩ : S49), (⟨3, wrap64 (a2 + 1), wrap64 (a2 + 1), a2, 0⟩ : S49), (⟨14, wrap64 (a2 + 1), wrap64 (a2 + 1), 0, 1⟩ : S49), (⟨15, a0, a0, 0, 31⟩ : S49), (⟨8, a0, a0, wrap64 (a2 + 1), 0⟩ : S49)] : List (S49))) (inner := [.int .i64 1, .int .i64 a2, .int .i64 0, .int .i64 0, .int .i32 a3, .int .i64 6, .int .i64 (wrap64 (a2 + 1)), .int .i64 a1, .int .i64 a2, .int .i32 0, .int .i64 5, .int .i64 a0, .int .i64 a1, .int .i64 a2, .int .i32 0, .int .i64 1, .int .i64 a2, .int .i64 0, .int .i64 0, .int .i32 1073741824, .int .i64 3, .int .i64 a0, .int .i64 a0, .int .i64 a2, .int .i32 0, .int .i64 11, .int .i64 a2, .int .i64 a0, .int .i64 a2, .int .i32 0, .int .i64 3, .int .i64 (wrap64 (a2 + 1)), .int .i64 (wrap64 (a2 + 1)), .int .i64 a2, .int .i32 0, .int .i64 14, .int .i64 (wrap64 (a2 + 1)), .int .i64 (wrap64 (a2 + 1)), .int .i64 0, .int .i32 1, .int .i64 15, .int .i64 a0, .int .i64 a0, .int .i64 0, .int .i32 31, .int .i64 8, .int .i64 a0, .int .i64 a0, .int .i64 (wrap64 (a2 + 1)), .int .i32 0]) (ok := fun _ => True) (okp := fun _ => True) ?hr ?hp (fun _ hk => hk) trivial (Below.refl _ _) (Nat.le_refl _) (by simp) ?_; (case hd => rfl); (case hg => rfl); (case hr => first | (go_simp; done) | (go_simp; rfl)); (case hp => exact (Reps.c5 (show Kd.M k49 _ _ _ (⟨1, a2, 0, 0, a3⟩ : S49) [.int .i64 1, .int .i64 a2, .int .i64 0, .int .i64 0, .int .i32 a3] from (k49_mkM _ _ _ (⟨1, a2, 0, 0, a3⟩ : S49) )) (Reps.c5 (show Kd.M k49 _ _ _ (⟨6, wrap64 (a2 + 1), a1, a2, 0⟩ : S49) [.int .i64 6, .int .i64 (wrap64 (a2 + 1)), .int .i64 a1, .int .i64 a2, .int .i32 0] from (k49_mkM _ _ _ (⟨6, wrap64 (a2 + 1), a1, a2, 0⟩ : S49) )) (Reps.c5 (show Kd.M k49 _ _ _ (⟨5, a0, a1, a2, 0⟩ : S49) [.int .i64 5, .int .i64 a0, .int .i64 a1, .int .i64 a2, .int .i32 0] from (k49_mkM _ _ _ (⟨5, a0, a1, a2, 0⟩ : S49) )) (Reps.c5 (show Kd.M k49 _ _ _ (⟨1, a2, 0, 0, 1073741824⟩ : S49) [.int .i64 1, .int .i64 a2, .int .i64 0, .int .i64 0, .int .i32 1073741824] from (k49_mkM _ _ _ (⟨1, a2, 0, 0, 1073741824⟩ : S49) )) (Reps.c5 (show Kd.M k49 _ _ _ (⟨3, a0, a0, a2, 0⟩ : S49) [.int .i64 3, .int .i64 a0, .int .i64 a0, .int .i64 a2, .int .i32 0] from (k49_mkM _ _ _ (⟨3, a0, a0, a2, 0⟩ : S49) )) (Reps.c5 (show Kd.M k49 _ _ _ (⟨11, a2, a0, a2, 0⟩ : S49) [.int .i64 11, .int .i64 a2, .int .i64 a0, .int .i64 a2, .int .i32 0] from (k49_mkM _ _ _ (⟨11, a2, a0, a2, 0⟩ : S49) )) (Reps.c5 (show Kd.M k49 _ _ _ (⟨3, wrap64 (a2 + 1), wrap64 (a2 + 1), a2, 0⟩ : S49) [.int .i64 3, .int .i64 (wrap64 (a2 + 1)), .int .i64 (wrap64 (a2 + 1)), .int .i64 a2, .int .i32 0] from (k49_mkM _ _ _ (⟨3, wrap64 (a2 + 1), wrap64 (a2 + 1), a2, 0⟩ : S49) )) (Reps.c5 (show Kd.M k49 _ _ _ (⟨14, wrap64 (a2 + 1), wrap64 (a2 + 1), 0, 1⟩ : S49) [.int .i64 14, .int .i64 (wrap64 (a2 + 1)), .int .i64 (wrap64 (a2 + 1)), .int .i64 0, .int .i32 1] from (k49_mkM _ _ _ (⟨14, wrap64 (a2 + 1), wrap64 (a2 + 1), 0, 1⟩ : S49) )) (Reps.c5 (show Kd.M k49 _ _ _ (⟨15, a0, a0, 0, 31⟩ : S49) [.int .i64 15, .int .i64 a0, .int .i64 a0, .int .i64 0, .int .i32 31] from (k49_mkM _ _ _ (⟨15, a0, a0, 0, 31⟩ : S49) )) (Reps.c5 (show Kd.M k49 _ _ _ (⟨8, a0, a0, wrap64 (a2 + 1), 0⟩ : S49) [.int .i64 8, .int .i64 a0, .int .i64 a0, .int .i64 (wrap64 (a2 + 1)), .int .i32 0] from (k49_mkM _ _ _ (⟨8, a0, a0, wrap64 (a2 + 1), 0⟩ : S49) )) (Reps.none _ _)))))))))))); intro v111 w26 ho27 hb hg_ hnew_; clear hg_ hnew_; (first | rw [← Ny110.out] at ho27 | (simp only [Int.reduceToNat] at ho27; rw [← Ny110.out] at ho27)); have n0_ := Aside0.mk (Kd.R_lower ho27 (below_size (by repeat (first | (with_reducible first | exact HB.out | apply below_alloc | apply pw_below_drewN | apply below_drew1) | exact HB.out)))); have n1_ := Aside0.mk (below_step (by repeat (first | (with_reducible first | exact HB.out | apply below_alloc | apply pw_below_drewN | apply below_drew1) | exact HB.out)) hb); clear HB; have HO112 := n0_; have HB := n1_; clear n0_ n1_; clear hb ho27))
          go_ret
          exact ⟨_, by first | rfl | (simp [errW_none, errW_some] <;> rfl) | (simp [*, errW_none, errW_some] <;> rfl), by (with_reducible repeat (first | apply Kd.R_alloc | apply Kd.R_drewN | apply Kd.R_drew)); exact HO112.out, by repeat (first | (with_reducible first | exact HB.out | apply below_alloc | apply pw_below_drewN | apply below_drew1) | exact HB.out)⟩
        · rw [if_neg c25] at H
          have c25b0 : (a4 == 0) = false := beq_eq_false_iff_ne.mpr c25
          have c25b1 : (a4 != 0) = true := bne_iff_ne.mpr c25
          obtain ⟨ji28, hji28⟩ : ∃ j_ : Int, (wrap64 (a4 - 1)) = j_ := ⟨_, rfl⟩
          replace H : (if 0 ≤ (ji28) then ((some (([(⟨1, a2, 0, 0, shl .i32 1 (ji28)⟩ : S49), (⟨3, a0, a0, a2, 0⟩ : S49), (⟨16, a0, a0, 0, wrap32 (a4)⟩ : S49)] : List (S49)) : List (S49))).bind fun y113 => (if y110.length + y113.length < 3518437208883 then (some (y110 ++ y113)) else (none))) else (none)) = some r := by first | (rw [hji28] at H; exact H) | (simp only [hji28] at H ⊢; exact H)
          have hji28w : (IntKind.i64.wrap (a4 - 1)) = ji28 := (i64_w _).trans hji28
          by_cases c29 : 0 ≤ (ji28)
          · rw [if_pos c29] at H
            have c29b0 := eq_true c29
            have c29b1 : decide (0 ≤ (ji28)) = true := decide_eq_true c29
            clear c29
            obtain ⟨ji30, hji30⟩ : ∃ j_ : Int, (shl .i32 1 (ji28)) = j_ := ⟨_, rfl⟩
            replace H : ((some (([(⟨1, a2, 0, 0, ji30⟩ : S49), (⟨3, a0, a0, a2, 0⟩ : S49), (⟨16, a0, a0, 0, wrap32 (a4)⟩ : S49)] : List (S49)) : List (S49))).bind fun y113 => (if y110.length + y113.length < 3518437208883 then (some (y110 ++ y113)) else (none))) = some r := by first | (rw [hji30] at H; exact H) | (simp only [hji30] at H ⊢; exact H)
            have hji30_ : (IntKind.i32.wrap (1 * 2 ^ min (ji28).toNat 32)) = ji30 := hji30
            have hji30z : (ji28) ≤ 32 → (IntKind.i32.wrap (1 * 2 ^ (ji28).toNat)) = ji30 := shl_small hji30
            have hji30u : (IntKind.i32.wrap (2 ^ min (ji28).toNat 32)) = ji30 := by have h_ := hji30_; rw [Int.one_mul] at h_; exact h_
            have hji30v : (ji28) ≤ 32 → (IntKind.i32.wrap (2 ^ (ji28).toNat)) = ji30 := fun hle_ => by have h_ := hji30z hle_; rw [Int.one_mul] at h_; exact h_
            have hji30y : (wrap32 (1 * 2 ^ min (ji28).toNat 32)) = ji30 := (i32_w _).symm.trans hji30_
            have hji30x : (ji28) ≤ 32 → (wrap32 (1 * 2 ^ (ji28).toNat)) = ji30 := fun h_ => (i32_w _).symm.trans (hji30z h_)
            obtain ⟨y113, hy113⟩ : ∃ y_ : List (S49), y_ = (([(⟨1, a2, 0, 0, ji30⟩ : S49), (⟨3, a0, a0, a2, 0⟩ : S49), (⟨16, a0, a0, 0, wrap32 (a4)⟩ : S49)] : List (S49))) := ⟨_, rfl⟩
            replace H : (if y110.length + y113.length < 3518437208883 then (some (y110 ++ y113)) else (none)) = some r := by first | (rw [hy113]; with_reducible exact H) | (have H2_ := (Option.bind_some _ _).symm.trans H; rw [hy113]; with_reducible exact H2_) | (have H2_ := (Option.bind_some _ _).symm.trans H; with_reducible exact H2_) | with_reducible exact H | (rw [hy113]; exact H) | exact H
            have Ny113 := Aside0.mk hy113
            clear hy113
            by_cases c31 : y110.length + y113.length < 3518437208883
            · rw [if_pos c31] at H
              have LMc31 := Aside0.mk c31
              clear c31
              obtain ⟨y116, hy116⟩ : ∃ y_ : List (S49), y_ = (y110 ++ y113) := ⟨_, rfl⟩
              replace H : (some y116) = some r := by first | (rw [hy116]; with_reducible exact H) | (have H2_ := (Option.bind_some _ _).symm.trans H; rw [hy116]; with_reducible exact H2_) | (have H2_ := (Option.bind_some _ _).symm.trans H; with_reducible exact H2_) | with_reducible exact H | (rw [hy116]; exact H) | exact H
              have Ny116 := Aside0.mk hy116
              clear hy116
              obtain rfl := Option.some.inj H
              go_wp2_with (first | ((with_reducible refine gate_dst (N := 71) rfl ?_); (try (refine gate_guard (by rfl) ?_; dsimp only)); refine Kd.R_lit k49 _ 49 ?hg (N := 71) ?hd (xs := ([(⟨1, a2, 0, 0, a3⟩ : S49), (⟨6, wrap64 (a2 + 1), a1, a2, 0⟩ : S49), (⟨5, a0, a1, a2, 0⟩ : S49), (⟨1, a2, 0, 0, 1073741824⟩ : S49), (⟨3, a0, a0, a2, 0⟩ : S49), (⟨11, a2, a0, a2, 0⟩ : S49), (⟨3, wrap64 (a2 + 1), wrap64 (a2 + 1), a2, 0⟩ : S49), (⟨14, wrap64 (a2 + 1), wrap64 (a2 + 1), 0, 1⟩ : S49), (⟨15, a0, a0, 0, 31⟩ : S49), (⟨8, a0, a0, wrap64 (a2 + 1), 0⟩ : S49)] : List (S49))) (inner := [.int .i64 1, .int .i64 a2, .int .i64 0, .int .i64 0, .int .i32 a3, .int .i64 6, .int .i64 (wrap64 (a2 + 1)), .int .i64 a1, .int .i64 a2, .int .i32 0, .int .i64 5, .int .i64 a0, .int .i64 a1, .int .i64 a2, .int .i32 0, .int .i64 1, .int .i64 a2, .int .i64 0, .int .i64 0, .int .i32 1073741824, .int .i64 3, .int .i64 a0, .int .i64 a0, .int .i64 a2, .int .i32 0, .int .i64 11, .int .i64 a2, .int .i64 a0, .int .i64 a2, .int .i32 0, .int .i64 3, .int .i64 (wrap64 (a2 + 1)), .int .i64 (wrap64 (a2 + 1)), .int .i64 a2, .int .i32 0, .int .i64 14, .int .i64 (wrap64 (a2 + 1)), .int .i64 (wrap64 (a2 + 1)), .int .i64 0, .int .i32 1, .int .i64 15, .int .i64 a0, .int .i64 a0, .int .i64 0, .int .i32 31, .int .i64 8, .int .i64 a0, .int .i64 a0, .int .i64 (wrap64 (a2 + 1)), .int .i32 0]) (ok := fun _ => True) (okp := fun _ => True) ?hr ?hp (fun _ hk => hk) trivial (Below.refl _ _) (Nat.le_refl _) (by simp) ?_; (case hd => rfl); (case hg => rfl); (case hr => first | (go_simp; done) | (go_simp; rfl)); (case hp => exact (Reps.c5 (show Kd.M k49 _ _ _ (⟨1, a2, 0, 0, a3⟩ : S49) [.int .i64 1, .int .i64 a2, .int .i64 0, .int .i64 0, .int .i32 a3] from (k49_mkM _ _ _ (⟨1, a2, 0, 0, a3⟩ : S49) )) (Reps.c5 (show Kd.M k49 _ _ _ (⟨6, wrap64 (a2 + 1), a1, a2, 0⟩ : S49) [.int .i64 6, .int .i64 (wrap64 (a2 + 1)), .int .i64 a1, .int .i64 a2, .int .i32 0] from (k49_mkM _ _ _ (⟨6, wrap64 (a2 + 1), a1, a2, 0⟩ : S49) )) (Reps.c5 (show Kd.M k49 _ _ _ (⟨5, a0, a1, a2, 0⟩ : S49) [.int .i64 5, .int .i64 a0, .int .i64 a1, .int .i64 a2, .int .i32 0] from (k49_mkM _ _ _ (⟨5, a0, a1, a2, 0⟩ : S49) )) (Reps.c5 (show Kd.M k49 _ _ _ (⟨1, a2, 0, 0, 1073741824⟩ : S49) [.int .i64 1, .int .i64 a2, .int .i64 0, .int .i64 0, .int .i32 1073741824] from (k49_mkM _ _ _ (⟨1, a2, 0, 0, 1073741824⟩ : S49) )) (Reps.c5 (show Kd.M k49 _ _ _ (⟨3, a0, a0, a2, 0⟩ : S49) [.int .i64 3, .int .i64 a0, .int .i64 a0, .int .i64 a2, .int .i32 0] from (k49_mkM _ _ _ (⟨3, a0, a0, a2, 0⟩ : S49) )) (Reps.c5 (show Kd.M k49 _ _ _ (⟨11, a2, a0, a2, 0⟩ : S49) [.int .i64 11, .int .i64 a2, .int .i64 a0, .int .i64 a2, .int .i32 0] from (k49_mkM _ _ _ (⟨11, a2, a0, a2, 0⟩ : S49) )) (Reps.c5 (show Kd.M k49 _ _ _ (⟨3, wrap64 (a2 + 1), wrap64 (a2 + 1), a2, 0⟩ : S49) [.int .i64 3, .int .i64 (wrap64 (a2 + 1)), .int .i64 (wrap64 (a2 + 1)), .int .i64 a2, .int .i32 0] from (k49_mkM _ _ _ (⟨3, wrap64 (a2 + 1), wrap64 (a2 + 1), a2, 0⟩ : S49) )) (Reps.c5 (show Kd.M k49 _ _ _ (⟨14, wrap64 (a2 + 1), wrap64 (a2 + 1), 0, 1⟩ : S49) [.int .i64 14, .int .i64 (wrap64 (a2 + 1)), .int .i64 (wrap64 (a2 + 1)), .int .i64 0, .int .i32 1] from (k49_mkM _ _ _ (⟨14, wrap64 (a2 + 1), wrap64 (a2 + 1), 0, 1⟩ : S49) )) (Reps.c5 (show Kd.M k49 _ _ _ (⟨15, a0, a0, 0, 31⟩ : S49) [.int .i64 15, .int .i64 a0, .int .i64 a0, .int .i64 0, .int .i32 31] from (k49_mkM _ _ _ (⟨15, a0, a0, 0, 31⟩ : S49) )) (Reps.c5 (show Kd.M k49 _ _ _ (⟨8, a0, a0, wrap64 (a2 + 1), 0⟩ : S49) [.int .i64 8, .int .i64 a0, .int .i64 a0, .int .i64 (wrap64 (a2 + 1)), .int .i32 0] from (k49_mkM _ _ _ (⟨8, a0, a0, wrap64 (a2 + 1), 0⟩ : S49) )) (Reps.none _ _)))))))))))); intro v111 w32 ho33 hb hg_ hnew_; clear hg_ hnew_; (first | rw [← Ny110.out] at ho33 | (simp only [Int.reduceToNat] at ho33; rw [← Ny110.out] at ho33)); have n0_ := Aside0.mk (Kd.R_lower ho33 (below_size (by repeat (first | (with_reducible first | exact HB.out | apply below_alloc | apply pw_below_drewN | apply below_drew1) | exact HB.out)))); have n1_ := Aside0.mk (below_step (by repeat (first | (with_reducible first | exact HB.out | apply below_alloc | apply pw_below_drewN | apply below_drew1) | exact HB.out)) hb); clear HB; have HO112 := n0_; have HB := n1_; clear n0_ n1_; clear hb ho33) | ((with_reducible refine gate_dst (N := 90) rfl ?_); (try (refine gate_guard (by rfl) ?_; dsimp only)); refine Kd.R_lit k49 _ 49 ?hg (N := 90) ?hd (xs := ([(⟨1, a2, 0, 0, ji30⟩ : S49), (⟨3, a0, a0, a2, 0⟩ : S49), (⟨16, a0, a0, 0, wrap32 (a4)⟩ : S49)] : List (S49))) (inner := [.int .i64 1, .int .i64 a2, .int .i64 0, .int .i64 0, .int .i32 ji30, .int .i64 3, .int .i64 a0, .int .i64 a0, .int .i64 a2, .int .i32 0, .int .i64 16, .int .i64 a0, .int .i64 a0, .int .i64 0, .int .i32 (wrap32 (a4))]) (ok := fun _ => True) (okp := fun _ => True) ?hr ?hp (fun _ hk => hk) trivial (Below.refl _ _) (Nat.le_refl _) (by simp) ?_; (case hd => rfl); (case hg => rfl); (case hr => first | (go_simp; done) | (go_simp; rfl)); (case hp => exact (Reps.c5 (show Kd.M k49 _ _ _ (⟨1, a2, 0, 0, ji30⟩ : S49) [.int .i64 1, .int .i64 a2, .int .i64 0, .int .i64 0, .int .i32 ji30] from (k49_mkM _ _ _ (⟨1, a2, 0, 0, ji30⟩ : S49) )) (Reps.c5 (show Kd.M k49 _ _ _ (⟨3, a0, a0, a2, 0⟩ : S49) [.int .i64 3, .int .i64 a0, .int .i64 a0, .int .i64 a2, .int .i32 0] from (k49_mkM _ _ _ (⟨3, a0, a0, a2, 0⟩ : S49) )) (Reps.c5 (show Kd.M k49 _ _ _ (⟨16, a0, a0, 0, wrap32 (a4)⟩ : S49) [.int .i64 16, .int .i64 a0, .int .i64 a0, .int .i64 0, .int .i32 (wrap32 (a4))] from (k49_mkM _ _ _ (⟨16, a0, a0, 0, wrap32 (a4)⟩ : S49) )) (Reps.none _ _))))); intro v114 w34 ho35 hb hg_ hnew_; clear hg_ hnew_; (first | rw [← Ny113.out] at ho35 | (simp only [Int.reduceToNat] at ho35; rw [← Ny113.out] at ho35)); have n0_ := Aside0.mk (Kd.R_elder' (by (with_reducible repeat (first | apply Kd.R_alloc | apply Kd.R_drewN | apply Kd.R_drew)); exact HO112.out) (Kd.R_base ho35) hb); have n1_ := Aside0.mk (Kd.R_lower (Kd.R_new' ho35 (Kd.R_lt (by (with_reducible repeat (first | apply Kd.R_alloc | apply Kd.R_drewN | apply Kd.R_drew)); exact HO112.out))) (below_size (by repeat (first | (with_reducible first | exact HB.out | apply below_alloc | apply pw_below_drewN | apply below_drew1) | exact HB.out)))); have n2_ := Aside0.mk (below_step (by repeat (first | (with_reducible first | exact HB.out | apply below_alloc | apply pw_below_drewN | apply below_drew1) | exact HB.out)) hb); clear HO112; clear HB; have HO112 := n0_; have HO115 := n1_; have HB := n2_; clear n0_ n1_ n2_; clear hb ho35; obtain ⟨Ao37, co37, eo37⟩ := Kd.R_slice HO115.out; subst eo37) | ((with_reducible refine gate_builtin (b := .append) (xs := #[.tmp 75, .tmp 90]) rfl ?_); (try (refine gate_guard (by rfl) ?_; dsimp only)); at_builtin; refine Kd.R_append_rows k49 (w0 := w) w.heap.size rfl (.tmp 75) (.tmp 90) 26 49 (.agg #[(.int .i64 0), (.int .i64 0), (.int .i64 0), (.int .i64 0), (.int .i32 0)]) 40 rfl Try.underlying26 info49 rfl (by decide) (by omega) v111 y110 y113 _ _ _ (fun k_ => some k_ ≠ (.slice Ao37 y113.length co37 : Value).ownBlock) (fun _ => False) rfl rfl ?aO ?aR (fun _ _ h => h) (fun _ h => h.elim) ?aF ?aB ?aS ?aL ?_; (case aR => repeat (first | exact (Kd.R_reads' HO115.out).2.2 | (with_reducible refine Kd.C_alloc ?_ _) | (with_reducible refine Kd.C_drewN ?_ _) | (with_reducible refine Kd.C_drew ?_))); (case aB => exact (by repeat (first | (with_reducible first | exact HB.out | apply below_alloc | apply pw_below_drewN | apply below_drew1) | exact HB.out))); (case aF => exact (fun k_ hk => Kd.fresh' (Kd.R_lt (by (with_reducible repeat (first | apply Kd.R_alloc | apply Kd.R_drewN | apply Kd.R_drew)); exact HO115.out)) k_ hk)); (case aO => exact (by (with_reducible repeat (first | apply Kd.R_alloc | apply Kd.R_drewN | apply Kd.R_drew)); exact Kd.R_mono HO112.out (fun _ hk => hk.2))); (case aS => exact (below_size (by repeat (first | (with_reducible first | exact HB.out | apply below_alloc | apply pw_below_drewN | apply below_drew1) | exact HB.out)))); (case aL => have := LMc31.out; omega); intro v117 w36 ho hb hg hat; rw [← Ny116.out] at ho; have n0_ := Aside0.mk (Kd.R_after (ok := (fun _ => True)) (by (with_reducible repeat (first | apply Kd.R_alloc | apply Kd.R_drewN | apply Kd.R_drew)); exact HO115.out) hg hat); have n1_ := Aside0.mk (hb); have n2_ := Aside0.mk (ho); clear HO115; clear HB; clear HO112; have HO115 := n0_; have HB := n1_; have HO118 := n2_; clear n0_ n1_ n2_; clear ho hb hg hat))
              go_ret
              exact ⟨_, by first | rfl | (simp [errW_none, errW_some] <;> rfl) | (simp only [← hji28, ← hji30]; first | rfl | (simp [errW_none, errW_some] <;> rfl)) | (simp [*, errW_none, errW_some] <;> rfl), by (with_reducible repeat (first | apply Kd.R_alloc | apply Kd.R_drewN | apply Kd.R_drew)); exact Kd.R_mono HO118.out (fun _ hk => trivial), by repeat (first | (with_reducible first | exact HB.out | apply below_alloc | apply pw_below_drewN | apply below_drew1) | exact HB.out)⟩
            · rw [if_neg c31] at H
              exact absurd H (by simp)
          · rw [if_neg c29] at H
            exact absurd H (by simp)

/-! ### pintleref20_vars: function 42 -/
def pintleref20_vars.f (a0 : Int) (a1 : Int) (a2 : Int) : Option (Bool) := if a0 ≥ 0 then (if a0 < 64 then (if a1 ≥ 0 then (if a1 < 64 then (if a2 ≥ 0 then (if a2 < 64 then (if a0 = a1 then (some false) else (if a1 = a2 then (some false) else (some (a2 != a0)))) else (some false)) else (some false)) else (some false)) else (some false)) else (some false)) else (some false)
set_option maxHeartbeats 8000000 in
set_option maxRecDepth 100000 in
theorem pintleref20_vars.calls (a0 : Int) (a1 : Int) (a2 : Int) (r : Bool) (w : World) (h : pintleref20_vars.f a0 a1 a2 = some r) :
    Calls Try.prog 42 #[.int .i64 a0, .int .i64 a1, .int .i64 a2] w fun e w' => e = .returned (.bool r) ∧ Drawn0 w w' := by
  have H : (if a0 ≥ 0 then (if a0 < 64 then (if a1 ≥ 0 then (if a1 < 64 then (if a2 ≥ 0 then (if a2 < 64 then (if a0 = a1 then (some false) else (if a1 = a2 then (some false) else (some (a2 != a0)))) else (some false)) else (some false)) else (some false)) else (some false)) else (some false)) else (some false)) = some r := h
  clear h
  by_cases c4 : a0 ≥ 0
  · rw [if_pos c4] at H
    have c4b0 : decide (0 ≤ a0) = true := decide_eq_true c4
    clear c4
    by_cases c5 : a0 < 64
    · rw [if_pos c5] at H
      have c5b0 : decide (a0 < 64) = true := decide_eq_true c5
      clear c5
      by_cases c6 : a1 ≥ 0
      · rw [if_pos c6] at H
        have c6b0 : decide (0 ≤ a1) = true := decide_eq_true c6
        clear c6
        by_cases c7 : a1 < 64
        · rw [if_pos c7] at H
          have c7b0 : decide (a1 < 64) = true := decide_eq_true c7
          clear c7
          by_cases c8 : a2 ≥ 0
          · rw [if_pos c8] at H
            have c8b0 : decide (0 ≤ a2) = true := decide_eq_true c8
            clear c8
            by_cases c9 : a2 < 64
            · rw [if_pos c9] at H
              have c9b0 : decide (a2 < 64) = true := decide_eq_true c9
              clear c9
              by_cases c10 : a0 = a1
              · rw [if_pos c10] at H
                have c10b0 : (a0 == a1) = true := beq_iff_eq.mpr c10
                have c10b1 : (a0 != a1) = false := bne_eq_false_iff_eq.mpr c10
                clear c10
                obtain rfl := Option.some.inj H
                go_enter Try.func42, Try.ntmps42
                go_wp2
                go_ret
                exact ⟨by first | rfl | (simp; done) | (simp [*]; done), by repeat (first | exact Drawn0.refl _ | apply Drawn0.step)⟩
              · rw [if_neg c10] at H
                have c10b0 : (a0 == a1) = false := beq_eq_false_iff_ne.mpr c10
                have c10b1 : (a0 != a1) = true := bne_iff_ne.mpr c10
                by_cases c11 : a1 = a2
                · rw [if_pos c11] at H
                  have c11b0 : (a1 == a2) = true := beq_iff_eq.mpr c11
                  have c11b1 : (a1 != a2) = false := bne_eq_false_iff_eq.mpr c11
                  clear c11
                  obtain rfl := Option.some.inj H
                  go_enter Try.func42, Try.ntmps42
                  go_wp2
                  go_ret
                  exact ⟨by first | rfl | (simp; done) | (simp [*]; done), by repeat (first | exact Drawn0.refl _ | apply Drawn0.step)⟩
                · rw [if_neg c11] at H
                  have c11b0 : (a1 == a2) = false := beq_eq_false_iff_ne.mpr c11
                  have c11b1 : (a1 != a2) = true := bne_iff_ne.mpr c11
                  obtain rfl := Option.some.inj H
                  go_enter Try.func42, Try.ntmps42
                  go_wp2
                  go_ret
                  exact ⟨by first | rfl | (simp; done) | (simp [*]; done), by repeat (first | exact Drawn0.refl _ | apply Drawn0.step)⟩
            · rw [if_neg c9] at H
              have c9b0 : decide (a2 < 64) = false := decide_eq_false c9
              clear c9
              obtain rfl := Option.some.inj H
              go_enter Try.func42, Try.ntmps42
              go_wp2
              go_ret
              exact ⟨by first | rfl | (simp; done) | (simp [*]; done), by repeat (first | exact Drawn0.refl _ | apply Drawn0.step)⟩
          · rw [if_neg c8] at H
            have c8b0 : decide (0 ≤ a2) = false := decide_eq_false c8
            clear c8
            obtain rfl := Option.some.inj H
            go_enter Try.func42, Try.ntmps42
            go_wp2
            go_ret
            exact ⟨by first | rfl | (simp; done) | (simp [*]; done), by repeat (first | exact Drawn0.refl _ | apply Drawn0.step)⟩
        · rw [if_neg c7] at H
          have c7b0 : decide (a1 < 64) = false := decide_eq_false c7
          clear c7
          obtain rfl := Option.some.inj H
          go_enter Try.func42, Try.ntmps42
          go_wp2
          go_ret
          exact ⟨by first | rfl | (simp; done) | (simp [*]; done), by repeat (first | exact Drawn0.refl _ | apply Drawn0.step)⟩
      · rw [if_neg c6] at H
        have c6b0 : decide (0 ≤ a1) = false := decide_eq_false c6
        clear c6
        obtain rfl := Option.some.inj H
        go_enter Try.func42, Try.ntmps42
        go_wp2
        go_ret
        exact ⟨by first | rfl | (simp; done) | (simp [*]; done), by repeat (first | exact Drawn0.refl _ | apply Drawn0.step)⟩
    · rw [if_neg c5] at H
      have c5b0 : decide (a0 < 64) = false := decide_eq_false c5
      clear c5
      obtain rfl := Option.some.inj H
      go_enter Try.func42, Try.ntmps42
      go_wp2
      go_ret
      exact ⟨by first | rfl | (simp; done) | (simp [*]; done), by repeat (first | exact Drawn0.refl _ | apply Drawn0.step)⟩
  · rw [if_neg c4] at H
    have c4b0 : decide (0 ≤ a0) = false := decide_eq_false c4
    clear c4
    obtain rfl := Option.some.inj H
    go_enter Try.func42, Try.ntmps42
    go_wp2
    go_ret
    exact ⟨by first | rfl | (simp; done) | (simp [*]; done), by repeat (first | exact Drawn0.refl _ | apply Drawn0.step)⟩

/-! ### pintleref20_Can: function 14 -/
def pintleref20_Can.f (a0 : Int) (a1 : Int) (a2 : Int) (a3 : Int) : Option (Bool) := if a2 < 63 then (if a3 ≥ 0 then (if a3 ≤ 31 then ((pintleref20_vars.f a0 a2 (wrap64 (a2 + 1))).bind fun t119 => (if t119 = true then ((pintleref20_vars.f a1 a2 (wrap64 (a2 + 1))).bind fun t120 => (some t120)) else (some false))) else (some false)) else (some false)) else (some false)
set_option maxHeartbeats 8000000 in
set_option maxRecDepth 100000 in
theorem pintleref20_Can.calls (a0 : Int) (a1 : Int) (a2 : Int) (a3 : Int) (r : Bool) (w : World) (h : pintleref20_Can.f a0 a1 a2 a3 = some r) :
    Calls Try.prog 14 #[.int .i64 a0, .int .i64 a1, .int .i64 a2, .int .i64 a3] w fun e w' => e = .returned (.bool r) ∧ Drawn0 w w' := by
  have H : (if a2 < 63 then (if a3 ≥ 0 then (if a3 ≤ 31 then ((pintleref20_vars.f a0 a2 (wrap64 (a2 + 1))).bind fun t119 => (if t119 = true then ((pintleref20_vars.f a1 a2 (wrap64 (a2 + 1))).bind fun t120 => (some t120)) else (some false))) else (some false)) else (some false)) else (some false)) = some r := h
  clear h
  by_cases c5 : a2 < 63
  · rw [if_pos c5] at H
    have c5b0 : decide (a2 < 63) = true := decide_eq_true c5
    clear c5
    by_cases c6 : a3 ≥ 0
    · rw [if_pos c6] at H
      have c6b0 : decide (0 ≤ a3) = true := decide_eq_true c6
      clear c6
      by_cases c7 : a3 ≤ 31
      · rw [if_pos c7] at H
        have c7b0 : decide (a3 ≤ 31) = true := decide_eq_true c7
        clear c7
        replace H := Option.bind_eq_some_iff.mp H
        obtain ⟨t119, A80, H⟩ := H
        replace H : (if t119 = true then ((pintleref20_vars.f a1 a2 (wrap64 (a2 + 1))).bind fun t120 => (some t120)) else (some false)) = some r := H
        have A8 := Aside0.mk A80
        clear A80
        by_cases c9 : t119 = true
        · subst c9
          have H1 : ((pintleref20_vars.f a1 a2 (wrap64 (a2 + 1))).bind fun t120 => (some t120)) = some r := by rw [if_pos rfl] at H; exact H
          clear H
          have H := H1
          clear H1
          replace H := Option.bind_eq_some_iff.mp H
          obtain ⟨t120, A100, H⟩ := H
          replace H : (some t120) = some r := H
          have A10 := Aside0.mk A100
          clear A100
          obtain rfl := Option.some.inj H
          go_enter Try.func14, Try.ntmps14
          go_wp2_with (first | (go_at_call 42; (with_reducible refine (pintleref20_vars.calls a0 a2 (wrap64 (a2 + 1)) true _ A8.out).mono ?_); rintro e w' ⟨rfl, ⟨nd, rfl⟩⟩) | (go_at_call 42; (with_reducible refine (pintleref20_vars.calls a1 a2 (wrap64 (a2 + 1)) t120 _ A10.out).mono ?_); rintro e w' ⟨rfl, ⟨nd, rfl⟩⟩))
          go_ret
          exact ⟨by first | rfl | (simp; done) | (simp [*]; done), by repeat (first | exact Drawn0.refl _ | apply Drawn0.step)⟩
        · replace c9 := Bool.eq_false_iff.mpr c9
          subst c9
          have H1 : (some false) = some r := by rw [if_neg (show ¬ (false = true) by decide)] at H; exact H
          clear H
          have H := H1
          clear H1
          obtain rfl := Option.some.inj H
          go_enter Try.func14, Try.ntmps14
          go_wp2_with (first | (go_at_call 42; (with_reducible refine (pintleref20_vars.calls a0 a2 (wrap64 (a2 + 1)) false _ A8.out).mono ?_); rintro e w' ⟨rfl, ⟨nd, rfl⟩⟩))
          go_ret
          exact ⟨by first | rfl | (simp; done) | (simp [*]; done), by repeat (first | exact Drawn0.refl _ | apply Drawn0.step)⟩
      · rw [if_neg c7] at H
        have c7b0 : decide (a3 ≤ 31) = false := decide_eq_false c7
        clear c7
        obtain rfl := Option.some.inj H
        go_enter Try.func14, Try.ntmps14
        go_wp2
        go_ret
        exact ⟨by first | rfl | (simp; done) | (simp [*]; done), by repeat (first | exact Drawn0.refl _ | apply Drawn0.step)⟩
    · rw [if_neg c6] at H
      have c6b0 : decide (0 ≤ a3) = false := decide_eq_false c6
      clear c6
      obtain rfl := Option.some.inj H
      go_enter Try.func14, Try.ntmps14
      go_wp2
      go_ret
      exact ⟨by first | rfl | (simp; done) | (simp [*]; done), by repeat (first | exact Drawn0.refl _ | apply Drawn0.step)⟩
  · rw [if_neg c5] at H
    have c5b0 : decide (a2 < 63) = false := decide_eq_false c5
    clear c5
    obtain rfl := Option.some.inj H
    go_enter Try.func14, Try.ntmps14
    go_wp2
    go_ret
    exact ⟨by first | rfl | (simp; done) | (simp [*]; done), by repeat (first | exact Drawn0.refl _ | apply Drawn0.step)⟩

/-! ### quant_scale: function 71 -/
def quant_scale.f (a0 : Int) (a1 : Int) (a2 : Int) : Option (Int) := (quant_good.f a2).bind fun t121 => (if t121 = true then (if a2 = 0 then (some (wrap32 ((wrap64 ((wrap64 ((wrap64 (a0)) * (wrap64 (a1)))) + 1073741824)) / 2147483648))) else (if 0 ≤ (wrap64 (a2 - 1)) then (if 0 ≤ a2 then (some (shr .i32 (wrap32 ((wrap32 ((wrap64 ((wrap64 ((wrap64 (a0)) * (wrap64 (a1)))) + 1073741824)) / 2147483648)) + (shl .i32 1 (wrap64 (a2 - 1))))) a2)) else (none)) else (none))) else (some 0))
set_option maxHeartbeats 8000000 in
set_option maxRecDepth 100000 in
theorem quant_scale.calls (a0 : Int) (a1 : Int) (a2 : Int) (r : Int) (w : World) (h : quant_scale.f a0 a1 a2 = some r) :
    Calls Try.prog 71 #[.int .i32 a0, .int .i32 a1, .int .i64 a2] w fun e w' => e = .returned (.int .i32 r) ∧ Drawn0 w w' := by
  have H : ((quant_good.f a2).bind fun t121 => (if t121 = true then (if a2 = 0 then (some (wrap32 ((wrap64 ((wrap64 ((wrap64 (a0)) * (wrap64 (a1)))) + 1073741824)) / 2147483648))) else (if 0 ≤ (wrap64 (a2 - 1)) then (if 0 ≤ a2 then (some (shr .i32 (wrap32 ((wrap32 ((wrap64 ((wrap64 ((wrap64 (a0)) * (wrap64 (a1)))) + 1073741824)) / 2147483648)) + (shl .i32 1 (wrap64 (a2 - 1))))) a2)) else (none)) else (none))) else (some 0))) = some r := h
  clear h
  replace H := Option.bind_eq_some_iff.mp H
  obtain ⟨t121, A40, H⟩ := H
  replace H : (if t121 = true then (if a2 = 0 then (some (wrap32 ((wrap64 ((wrap64 ((wrap64 (a0)) * (wrap64 (a1)))) + 1073741824)) / 2147483648))) else (if 0 ≤ (wrap64 (a2 - 1)) then (if 0 ≤ a2 then (some (shr .i32 (wrap32 ((wrap32 ((wrap64 ((wrap64 ((wrap64 (a0)) * (wrap64 (a1)))) + 1073741824)) / 2147483648)) + (shl .i32 1 (wrap64 (a2 - 1))))) a2)) else (none)) else (none))) else (some 0)) = some r := H
  have A4 := Aside0.mk A40
  clear A40
  by_cases c5 : t121 = true
  · subst c5
    have H1 : (if a2 = 0 then (some (wrap32 ((wrap64 ((wrap64 ((wrap64 (a0)) * (wrap64 (a1)))) + 1073741824)) / 2147483648))) else (if 0 ≤ (wrap64 (a2 - 1)) then (if 0 ≤ a2 then (some (shr .i32 (wrap32 ((wrap32 ((wrap64 ((wrap64 ((wrap64 (a0)) * (wrap64 (a1)))) + 1073741824)) / 2147483648)) + (shl .i32 1 (wrap64 (a2 - 1))))) a2)) else (none)) else (none))) = some r := by rw [if_pos rfl] at H; exact H
    clear H
    have H := H1
    clear H1
    by_cases c6 : a2 = 0
    · rw [if_pos c6] at H
      have c6b0 : (a2 == 0) = true := beq_iff_eq.mpr c6
      have c6b1 : (a2 != 0) = false := bne_eq_false_iff_eq.mpr c6
      clear c6
      obtain rfl := Option.some.inj H
      go_enter Try.func71, Try.ntmps71
      go_wp2_with (first | ((with_reducible refine gate_callee (f := 40) rfl ?_); refine goesL_ (some 9) rfl rfl Try.func40 (by kernel_rfl) rfl #[.int .i64 a2] rfl (by (try simp only [List.map_toArray, List.map_cons, List.map_nil]); first | done | rfl | (simp only [List.length_drop, List.length_take]; rfl)) ?_; (with_reducible refine (quant_good.calls a2 true _ A4.out).mono ?_); rintro e w' ⟨rfl, ⟨nd, rfl⟩⟩; refine ⟨_, rfl, ?_⟩))
      go_ret
      exact ⟨by first | rfl | (simp; done) | (simp [*]; done), by repeat (first | exact Drawn0.refl _ | apply Drawn0.step)⟩
    · rw [if_neg c6] at H
      have c6b0 : (a2 == 0) = false := beq_eq_false_iff_ne.mpr c6
      have c6b1 : (a2 != 0) = true := bne_iff_ne.mpr c6
      obtain ⟨ji7, hji7⟩ : ∃ j_ : Int, (wrap64 (a2 - 1)) = j_ := ⟨_, rfl⟩
      replace H : (if 0 ≤ (ji7) then (if 0 ≤ a2 then (some (shr .i32 (wrap32 ((wrap32 ((wrap64 ((wrap64 ((wrap64 (a0)) * (wrap64 (a1)))) + 1073741824)) / 2147483648)) + (shl .i32 1 (ji7)))) a2)) else (none)) else (none)) = some r := by first | (rw [hji7] at H; exact H) | (simp only [hji7] at H ⊢; exact H)
      (try rw [hji7] at A4)
      have hji7w : (IntKind.i64.wrap (a2 - 1)) = ji7 := (i64_w _).trans hji7
      by_cases c8 : 0 ≤ (ji7)
      · rw [if_pos c8] at H
        have c8b0 := eq_true c8
        have c8b1 : decide (0 ≤ (ji7)) = true := decide_eq_true c8
        clear c8
        obtain ⟨ji9, hji9⟩ : ∃ j_ : Int, (shl .i32 1 (ji7)) = j_ := ⟨_, rfl⟩
        replace H : (if 0 ≤ a2 then (some (shr .i32 (wrap32 ((wrap32 ((wrap64 ((wrap64 ((wrap64 (a0)) * (wrap64 (a1)))) + 1073741824)) / 2147483648)) + (ji9))) a2)) else (none)) = some r := by first | (rw [hji9] at H; exact H) | (simp only [hji9] at H ⊢; exact H)
        (try rw [hji9] at A4)
        have hji9_ : (IntKind.i32.wrap (1 * 2 ^ min (ji7).toNat 32)) = ji9 := hji9
        have hji9z : (ji7) ≤ 32 → (IntKind.i32.wrap (1 * 2 ^ (ji7).toNat)) = ji9 := shl_small hji9
        have hji9u : (IntKind.i32.wrap (2 ^ min (ji7).toNat 32)) = ji9 := by have h_ := hji9_; rw [Int.one_mul] at h_; exact h_
        have hji9v : (ji7) ≤ 32 → (IntKind.i32.wrap (2 ^ (ji7).toNat)) = ji9 := fun hle_ => by have h_ := hji9z hle_; rw [Int.one_mul] at h_; exact h_
        have hji9y : (wrap32 (1 * 2 ^ min (ji7).toNat 32)) = ji9 := (i32_w _).symm.trans hji9_
        have hji9x : (ji7) ≤ 32 → (wrap32 (1 * 2 ^ (ji7).toNat)) = ji9 := fun h_ => (i32_w _).symm.trans (hji9z h_)
        by_cases c10 : 0 ≤ a2
        · rw [if_pos c10] at H
          have c10b0 := eq_true c10
          have c10b1 : decide (0 ≤ a2) = true := decide_eq_true c10
          clear c10
          obtain ⟨ji11, hji11⟩ : ∃ j_ : Int, (shr .i32 (wrap32 ((wrap32 ((wrap64 ((wrap64 ((wrap64 (a0)) * (wrap64 (a1)))) + 1073741824)) / 2147483648)) + (ji9))) a2) = j_ := ⟨_, rfl⟩
          replace H : (some ji11) = some r := by first | (rw [hji11] at H; exact H) | (simp only [hji11] at H ⊢; exact H)
          (try rw [hji11] at A4)
          have hji11_ : ((wrap32 ((wrap32 ((wrap64 ((wrap64 ((wrap64 (a0)) * (wrap64 (a1)))) + 1073741824)) / 2147483648)) + (ji9))) / 2 ^ min a2.toNat 32) = ji11 := hji11
          have hji11z : a2 ≤ 32 → ((wrap32 ((wrap32 ((wrap64 ((wrap64 ((wrap64 (a0)) * (wrap64 (a1)))) + 1073741824)) / 2147483648)) + (ji9))) / 2 ^ a2.toNat) = ji11 := shr_small hji11
          obtain rfl := Option.some.inj H
          go_enter Try.func71, Try.ntmps71
          go_wp2_with (first | ((with_reducible refine gate_callee (f := 40) rfl ?_); refine goesL_ (some 9) rfl rfl Try.func40 (by kernel_rfl) rfl #[.int .i64 a2] rfl (by (try simp only [List.map_toArray, List.map_cons, List.map_nil]); first | done | rfl | (simp only [List.length_drop, List.length_take]; rfl)) ?_; (with_reducible refine (quant_good.calls a2 true _ A4.out).mono ?_); rintro e w' ⟨rfl, ⟨nd, rfl⟩⟩; refine ⟨_, rfl, ?_⟩))
          go_ret
          exact ⟨by first | rfl | (simp; done) | (simp only [← hji7, ← hji9, ← hji11] <;> (first | rfl | (simp; done) | (simp; omega) | omega)) | (simp [*]; done), by repeat (first | exact Drawn0.refl _ | apply Drawn0.step)⟩
        · rw [if_neg c10] at H
          exact absurd H (by simp)
      · rw [if_neg c8] at H
        exact absurd H (by simp)
  · replace c5 := Bool.eq_false_iff.mpr c5
    subst c5
    have H1 : (some 0) = some r := by rw [if_neg (show ¬ (false = true) by decide)] at H; exact H
    clear H
    have H := H1
    clear H1
    obtain rfl := Option.some.inj H
    go_enter Try.func71, Try.ntmps71
    go_wp2_with (first | ((with_reducible refine gate_callee (f := 40) rfl ?_); refine goesL_ (some 9) rfl rfl Try.func40 (by kernel_rfl) rfl #[.int .i64 a2] rfl (by (try simp only [List.map_toArray, List.map_cons, List.map_nil]); first | done | rfl | (simp only [List.length_drop, List.length_take]; rfl)) ?_; (with_reducible refine (quant_good.calls a2 false _ A4.out).mono ?_); rintro e w' ⟨rfl, ⟨nd, rfl⟩⟩; refine ⟨_, rfl, ?_⟩))
    go_ret
    exact ⟨by first | rfl | (simp; done) | (simp [*]; done), by repeat (first | exact Drawn0.refl _ | apply Drawn0.step)⟩

/-! ### quant_Scale: function 43 -/
def quant_Scale.f (a0 : Int) (a1 : Int) (a2 : Int) : Option (Int) := (quant_scale.f a0 a1 a2).bind fun t122 => (some t122)
set_option maxHeartbeats 8000000 in
set_option maxRecDepth 100000 in
theorem quant_Scale.calls (a0 : Int) (a1 : Int) (a2 : Int) (r : Int) (w : World) (h : quant_Scale.f a0 a1 a2 = some r) :
    Calls Try.prog 43 #[.int .i32 a0, .int .i32 a1, .int .i64 a2] w fun e w' => e = .returned (.int .i32 r) ∧ Drawn0 w w' := by
  have H : ((quant_scale.f a0 a1 a2).bind fun t122 => (some t122)) = some r := h
  clear h
  replace H := Option.bind_eq_some_iff.mp H
  obtain ⟨t122, A40, H⟩ := H
  replace H : (some t122) = some r := H
  have A4 := Aside0.mk A40
  clear A40
  obtain rfl := Option.some.inj H
  go_enter Try.func43, Try.ntmps43
  go_wp2_with (first | ((with_reducible refine gate_callee (f := 71) rfl ?_); refine goesL_ (some 10) rfl rfl Try.func71 (by kernel_rfl) rfl #[.int .i32 a0, .int .i32 a1, .int .i64 a2] rfl (by (try simp only [List.map_toArray, List.map_cons, List.map_nil]); first | done | rfl | (simp only [List.length_drop, List.length_take]; rfl)) ?_; (with_reducible refine (quant_scale.calls a0 a1 a2 t122 _ A4.out).mono ?_); rintro e w' ⟨rfl, ⟨nd, rfl⟩⟩; refine ⟨_, rfl, ?_⟩))
  go_ret
  exact ⟨by first | rfl | (simp; done) | (simp [*]; done), by repeat (first | exact Drawn0.refl _ | apply Drawn0.step)⟩

/-! ### quant_clamp: function 72 -/
def quant_clamp.f (a0 : Int) (a1 : Int) (a2 : Int) : Option (Int) := if a0 < a1 then (some a1) else (if a0 > a2 then (some a2) else (some a0))
set_option maxHeartbeats 8000000 in
set_option maxRecDepth 100000 in
theorem quant_clamp.calls (a0 : Int) (a1 : Int) (a2 : Int) (r : Int) (w : World) (h : quant_clamp.f a0 a1 a2 = some r) :
    Calls Try.prog 72 #[.int .i32 a0, .int .i32 a1, .int .i32 a2] w fun e w' => e = .returned (.int .i32 r) ∧ Drawn0 w w' := by
  have H : (if a0 < a1 then (some a1) else (if a0 > a2 then (some a2) else (some a0))) = some r := h
  clear h
  by_cases c4 : a0 < a1
  · rw [if_pos c4] at H
    have c4b0 : decide (a0 < a1) = true := decide_eq_true c4
    clear c4
    obtain rfl := Option.some.inj H
    go_enter Try.func72, Try.ntmps72
    go_wp2
    go_ret
    exact ⟨by first | rfl | (simp; done) | (simp [*]; done), by repeat (first | exact Drawn0.refl _ | apply Drawn0.step)⟩
  · rw [if_neg c4] at H
    have c4b0 : decide (a0 < a1) = false := decide_eq_false c4
    clear c4
    by_cases c5 : a0 > a2
    · rw [if_pos c5] at H
      have c5b0 : decide (a2 < a0) = true := decide_eq_true c5
      clear c5
      obtain rfl := Option.some.inj H
      go_enter Try.func72, Try.ntmps72
      go_wp2
      go_ret
      exact ⟨by first | rfl | (simp; done) | (simp [*]; done), by repeat (first | exact Drawn0.refl _ | apply Drawn0.step)⟩
    · rw [if_neg c5] at H
      have c5b0 : decide (a2 < a0) = false := decide_eq_false c5
      clear c5
      obtain rfl := Option.some.inj H
      go_enter Try.func72, Try.ntmps72
      go_wp2
      go_ret
      exact ⟨by first | rfl | (simp; done) | (simp [*]; done), by repeat (first | exact Drawn0.refl _ | apply Drawn0.step)⟩

/-! ### quant_Clamp: function 44 -/
def quant_Clamp.f (a0 : Int) (a1 : Int) (a2 : Int) : Option (Int) := (quant_clamp.f a0 a1 a2).bind fun t123 => (some t123)
set_option maxHeartbeats 8000000 in
set_option maxRecDepth 100000 in
theorem quant_Clamp.calls (a0 : Int) (a1 : Int) (a2 : Int) (r : Int) (w : World) (h : quant_Clamp.f a0 a1 a2 = some r) :
    Calls Try.prog 44 #[.int .i32 a0, .int .i32 a1, .int .i32 a2] w fun e w' => e = .returned (.int .i32 r) ∧ Drawn0 w w' := by
  have H : ((quant_clamp.f a0 a1 a2).bind fun t123 => (some t123)) = some r := h
  clear h
  replace H := Option.bind_eq_some_iff.mp H
  obtain ⟨t123, A40, H⟩ := H
  replace H : (some t123) = some r := H
  have A4 := Aside0.mk A40
  clear A40
  obtain rfl := Option.some.inj H
  go_enter Try.func44, Try.ntmps44
  go_wp2_with (first | ((with_reducible refine gate_callee (f := 72) rfl ?_); refine goesL_ (some 10) rfl rfl Try.func72 (by kernel_rfl) rfl #[.int .i32 a0, .int .i32 a1, .int .i32 a2] rfl (by (try simp only [List.map_toArray, List.map_cons, List.map_nil]); first | done | rfl | (simp only [List.length_drop, List.length_take]; rfl)) ?_; (with_reducible refine (quant_clamp.calls a0 a1 a2 t123 _ A4.out).mono ?_); rintro e w' ⟨rfl, ⟨nd, rfl⟩⟩; refine ⟨_, rfl, ?_⟩))
  go_ret
  exact ⟨by first | rfl | (simp; done) | (simp [*]; done), by repeat (first | exact Drawn0.refl _ | apply Drawn0.step)⟩

/-! ### pintlelaw20_lives: function 15 -/
def pintlelaw20_lives.f (k : Nat)  : Option (Bool) := (quant_Scale.f 101 1073741824 0).bind fun t124 => (if t124 = 51 then ((quant_Clamp.f 7 0 6).bind fun t125 => (if t125 = 6 then ((quant_Steps.f k 0 1 2 3 4).bind fun t126 => (some (decide ((t126.length : Int) > 0)))) else (some false))) else (some false))
theorem pintlelaw20_lives.mono : ∀ k, LeO (pintlelaw20_lives.f k ) (pintlelaw20_lives.f (k + 1) ) := by
  intro  k
  unfold pintlelaw20_lives.f
  repeat' first
      | (with_reducible exact quant_Steps.mono _ _ _ _ _ _)
      | (with_reducible exact LeO.refl _)
      | (with_reducible exact LeO.none _)
      | (with_reducible refine LeO.ite ?_ ?_)
      | (with_reducible refine LeO.bind ?_ (fun _ => ?_))
      | exact quant_Steps.mono _ _ _ _ _ _
      | exact LeO.none _
      | refine LeO.ite ?_ ?_
      | refine LeO.bind ?_ (fun _ => ?_)
set_option maxHeartbeats 8000000 in
set_option maxRecDepth 100000 in
theorem pintlelaw20_lives.calls (k : Nat)  (r : Bool) (w : World) (h : pintlelaw20_lives.f k  = some r) :
    Calls Try.prog 15 #[] w fun e w' => e = .returned (.bool r) ∧ Below w.heap.size w w' := by
  have HB := Aside0.mk (Below.refl w.heap.size w)
  have H : ((quant_Scale.f 101 1073741824 0).bind fun t124 => (if t124 = 51 then ((quant_Clamp.f 7 0 6).bind fun t125 => (if t125 = 6 then ((quant_Steps.f k 0 1 2 3 4).bind fun t126 => (some (decide ((t126.length : Int) > 0)))) else (some false))) else (some false))) = some r := h
  clear h
  replace H := Option.bind_eq_some_iff.mp H
  obtain ⟨t124, A10, H⟩ := H
  replace H : (if t124 = 51 then ((quant_Clamp.f 7 0 6).bind fun t125 => (if t125 = 6 then ((quant_Steps.f k 0 1 2 3 4).bind fun t126 => (some (decide ((t126.length : Int) > 0)))) else (some false))) else (some false)) = some r := H
  have A1 := Aside0.mk A10
  clear A10
  by_cases c2 : t124 = 51
  · rw [if_pos c2] at H
    have c2b0 : (t124 == 51) = true := beq_iff_eq.mpr c2
    have c2b1 : (t124 != 51) = false := bne_eq_false_iff_eq.mpr c2
    clear c2
    replace H := Option.bind_eq_some_iff.mp H
    obtain ⟨t125, A30, H⟩ := H
    replace H : (if t125 = 6 then ((quant_Steps.f k 0 1 2 3 4).bind fun t126 => (some (decide ((t126.length : Int) > 0)))) else (some false)) = some r := H
    have A3 := Aside0.mk A30
    clear A30
    by_cases c4 : t125 = 6
    · rw [if_pos c4] at H
      have c4b0 : (t125 == 6) = true := beq_iff_eq.mpr c4
      have c4b1 : (t125 != 6) = false := bne_eq_false_iff_eq.mpr c4
      clear c4
      replace H := Option.bind_eq_some_iff.mp H
      obtain ⟨t126, A50, H⟩ := H
      replace H : (some (decide ((t126.length : Int) > 0))) = some r := H
      have A5 := Aside0.mk A50
      clear A50
      obtain rfl := Option.some.inj H
      go_enter Try.func15, Try.ntmps15
      go_wp2_with (first | ((with_reducible refine gate_callee (f := 43) rfl ?_); refine goesL_ (some 1) rfl rfl Try.func43 (by kernel_rfl) rfl #[.int .i32 101, .int .i32 1073741824, .int .i64 0] rfl (by (try simp only [List.map_toArray, List.map_cons, List.map_nil]); first | done | rfl | (simp only [List.length_drop, List.length_take]; rfl)) ?_; (with_reducible refine (quant_Scale.calls 101 1073741824 0 t124 _ A1.out).mono ?_); rintro e w' ⟨rfl, ⟨nd, rfl⟩⟩; refine ⟨_, rfl, ?_⟩) | (go_at_call 44; (with_reducible refine (quant_Clamp.calls 7 0 6 t125 _ A3.out).mono ?_); rintro e w' ⟨rfl, ⟨nd, rfl⟩⟩) | (go_at_call 13; (with_reducible refine (quant_Steps.calls k 0 1 2 3 4 t126 _ A5.out).mono ?_); rintro e w6 ⟨v127, rfl, ho0, hb⟩; have n0_ := Aside0.mk (Kd.R_lower ho0 (below_size (by repeat (first | (with_reducible first | exact HB.out | apply below_alloc | apply pw_below_drewN | apply below_drew1) | exact HB.out)))); have n1_ := Aside0.mk (below_step (by repeat (first | (with_reducible first | exact HB.out | apply below_alloc | apply pw_below_drewN | apply below_drew1) | exact HB.out)) hb); clear HB; have HO128 := n0_; have HB := n1_; clear n0_ n1_; (try clear hb); (try clear hb2); (try clear hk); (try clear hi); (try clear ho0); obtain ⟨Ao7, co7, eo7⟩ := Kd.R_slice HO128.out; subst eo7))
      go_ret
      exact ⟨by first | rfl | (simp [errW_none, errW_some] <;> rfl) | (simp [*, errW_none, errW_some] <;> rfl), by repeat (first | (with_reducible first | exact HB.out | apply below_alloc | apply pw_below_drewN | apply below_drew1) | exact HB.out)⟩
    · rw [if_neg c4] at H
      have c4b0 : (t125 == 6) = false := beq_eq_false_iff_ne.mpr c4
      have c4b1 : (t125 != 6) = true := bne_iff_ne.mpr c4
      obtain rfl := Option.some.inj H
      go_enter Try.func15, Try.ntmps15
      go_wp2_with (first | ((with_reducible refine gate_callee (f := 43) rfl ?_); refine goesL_ (some 1) rfl rfl Try.func43 (by kernel_rfl) rfl #[.int .i32 101, .int .i32 1073741824, .int .i64 0] rfl (by (try simp only [List.map_toArray, List.map_cons, List.map_nil]); first | done | rfl | (simp only [List.length_drop, List.length_take]; rfl)) ?_; (with_reducible refine (quant_Scale.calls 101 1073741824 0 t124 _ A1.out).mono ?_); rintro e w' ⟨rfl, ⟨nd, rfl⟩⟩; refine ⟨_, rfl, ?_⟩) | (go_at_call 44; (with_reducible refine (quant_Clamp.calls 7 0 6 t125 _ A3.out).mono ?_); rintro e w' ⟨rfl, ⟨nd, rfl⟩⟩))
      go_ret
      exact ⟨by first | rfl | (simp [errW_none, errW_some] <;> rfl) | (simp [*, errW_none, errW_some] <;> rfl), by repeat (first | (with_reducible first | exact HB.out | apply below_alloc | apply pw_below_drewN | apply below_drew1) | exact HB.out)⟩
  · rw [if_neg c2] at H
    have c2b0 : (t124 == 51) = false := beq_eq_false_iff_ne.mpr c2
    have c2b1 : (t124 != 51) = true := bne_iff_ne.mpr c2
    obtain rfl := Option.some.inj H
    go_enter Try.func15, Try.ntmps15
    go_wp2_with (first | ((with_reducible refine gate_callee (f := 43) rfl ?_); refine goesL_ (some 1) rfl rfl Try.func43 (by kernel_rfl) rfl #[.int .i32 101, .int .i32 1073741824, .int .i64 0] rfl (by (try simp only [List.map_toArray, List.map_cons, List.map_nil]); first | done | rfl | (simp only [List.length_drop, List.length_take]; rfl)) ?_; (with_reducible refine (quant_Scale.calls 101 1073741824 0 t124 _ A1.out).mono ?_); rintro e w' ⟨rfl, ⟨nd, rfl⟩⟩; refine ⟨_, rfl, ?_⟩))
    go_ret
    exact ⟨by first | rfl | (simp [errW_none, errW_some] <;> rfl) | (simp [*, errW_none, errW_some] <;> rfl), by repeat (first | (with_reducible first | exact HB.out | apply below_alloc | apply pw_below_drewN | apply below_drew1) | exact HB.out)⟩

-- NOT PRINTED: function 65 (pintleref16_Run_ends)

-- NOT PRINTED: function 99 (mem_bank_part)

-- NOT PRINTED: function 87 (mem_Memory_part)

-- NOT PRINTED: function 91 (mem_sized)

-- NOT PRINTED: function 92 (mem_number)

-- NOT PRINTED: function 68 (mem_Memory_Load)

/-- A state of type 85 at block g of W; what its slices lead to came in by w0. -/
def IsS85 (w0 W : World) (g : Nat) (f0 : Int) (f1 : Int) (f2 : Int) (f3 : Int) (f4 : List (S138)) : Prop := ∃ A4 c4, W.heap[g]? = some (.cells #[.int .u32 f0, .int .u32 f1, .int .u32 f2, .int .u32 f3, .slice A4 f4.length c4] 85 (0, 0)) ∧ w0.heap.size ≤ g ∧ Kd.C k138 w0 A4 f4.length f4
theorem IsS85.grown {w0 W : World} {g : Nat} {f0 : Int} {f1 : Int} {f2 : Int} {f3 : Int} {f4 : List (S138)} {W1 : World} {row : Option Nat} (h : IsS85 w0 W g f0 f1 f2 f3 f4) (hw : W.grownBy W1 row) (hne : some g ≠ row) : IsS85 w0 W1 g f0 f1 f2 f3 f4 := by
  obtain ⟨A4, c4, hb, hg, hr4⟩ := h
  exact ⟨A4, c4, blk_grown hb hw hne, hg, hr4⟩
theorem IsS85.own_neN {w0 W : World} {g : Nat} {f0 : Int} {f1 : Int} {f2 : Int} {f3 : Int} {f4 : List (S138)} {α : Type} {d : Kd α} {e : Nat} {base : Nat} {ok : Nat → Prop} {v : Value} {xs : List α} (h : IsS85 w0 W g f0 f1 f2 f3 f4) (ho : Kd.N d e W base ok v xs) (ht : e ≠ 85) : some g ≠ v.ownBlock := by
  obtain ⟨A4, c4, hb, hg, hr4⟩ := h
  exact Kd.N_ne ho hb ht
theorem IsS85.fresh {w0 W : World} {g : Nat} {f0 : Int} {f1 : Int} {f2 : Int} {f3 : Int} {f4 : List (S138)} (h : IsS85 w0 W g f0 f1 f2 f3 f4) : ∀ k, W.heap.size ≤ k → k ≠ g := by
  obtain ⟨A4, c4, hb, hg, hr4⟩ := h
  exact Kd.freshB hb
theorem IsS85.kept {w0 W : World} {g : Nat} {f0 : Int} {f1 : Int} {f2 : Int} {f3 : Int} {f4 : List (S138)} {W1 : World} {S : Nat → Prop} (h : IsS85 w0 W g f0 f1 f2 f3 f4) (hk : Kept W W1 S) (hne : ¬ S g) : IsS85 w0 W1 g f0 f1 f2 f3 f4 := by
  obtain ⟨A4, c4, hb, hg, hr4⟩ := h
  exact ⟨A4, c4, blk_kept hb hk hne, hg, hr4⟩
theorem IsS85.below {w0 W : World} {g : Nat} {f0 : Int} {f1 : Int} {f2 : Int} {f3 : Int} {f4 : List (S138)} {W1 : World} (h : IsS85 w0 W g f0 f1 f2 f3 f4) (hw : Below W.heap.size W W1) : IsS85 w0 W1 g f0 f1 f2 f3 f4 := h.grown (grown_of_below hw none) (by simp)
theorem IsS85.alloc {w0 W : World} {g : Nat} {f0 : Int} {f1 : Int} {f2 : Int} {f3 : Int} {f4 : List (S138)} (h : IsS85 w0 W g f0 f1 f2 f3 f4) (o : Obj) : IsS85 w0 (W.alloc o) g f0 f1 f2 f3 f4 := h.below (below_alloc (Below.refl _ _) o)
theorem IsS85.drewN {w0 W : World} {g : Nat} {f0 : Int} {f1 : Int} {f2 : Int} {f3 : Int} {f4 : List (S138)} (h : IsS85 w0 W g f0 f1 f2 f3 f4) (m : Nat) : IsS85 w0 (W.drewN m) g f0 f1 f2 f3 f4 := h
theorem IsS85.drew {w0 W : World} {g : Nat} {f0 : Int} {f1 : Int} {f2 : Int} {f3 : Int} {f4 : List (S138)} (h : IsS85 w0 W g f0 f1 f2 f3 f4) : IsS85 w0 W.drew g f0 f1 f2 f3 f4 := h
theorem IsS85.at_ {w0 W : World} {g : Nat} {f0 : Int} {f1 : Int} {f2 : Int} {f3 : Int} {f4 : List (S138)} {w' : World} {m : Nat} (hq : W.drewN m = w') (h : IsS85 w0 W g f0 f1 f2 f3 f4) : IsS85 w0 w' g f0 f1 f2 f3 f4 := by subst hq; exact IsS85.drewN h m
theorem IsS85.apart {w0 W : World} {g : Nat} {f0 : Int} {f1 : Int} {f2 : Int} {f3 : Int} {f4 : List (S138)} {α : Type} {d : Kd α} {e : Nat} {base : Nat} {ok : Nat → Prop} {v : Value} {xs : List α} (h : IsS85 w0 W g f0 f1 f2 f3 f4) (ho : d.R e W base ok v xs) (ht : ∀ q, q ∈ e :: d.E → q ≠ 85) : d.R e W base (fun k => ok k ∧ k ≠ g) v xs := by
  obtain ⟨A4, c4, hb, hg, hr4⟩ := h
  exact Kd.R_types ho hb ht
theorem IsS85.own_ne {w0 W : World} {g : Nat} {f0 : Int} {f1 : Int} {f2 : Int} {f3 : Int} {f4 : List (S138)} {α : Type} {d : Kd α} {e : Nat} {base : Nat} {ok : Nat → Prop} {v : Value} {xs : List α} (h : IsS85 w0 W g f0 f1 f2 f3 f4) (ho : d.R e W base ok v xs) (ht : e ≠ 85) : some g ≠ v.ownBlock := by
  obtain ⟨A4, c4, hb, hg, hr4⟩ := h
  exact Kd.R_ne ho hb ht
theorem IsS85.apartQ {w0 W : World} {g : Nat} {f0 : Int} {f1 : Int} {f2 : Int} {f3 : Int} {f4 : List (S138)} {α : Type} {d : Kd α} {e : Nat} {base : Nat} {ok : Nat → Prop} {v : Value} {xs : List α} (h : IsS85 w0 W g f0 f1 f2 f3 f4) (ho : d.Q e W base ok v xs) (ht : ∀ q, q ∈ e :: d.E → q ≠ 85) : d.Q e W base (fun k => ok k ∧ k ≠ g) v xs := by
  obtain ⟨A4, c4, hb, hg, hr4⟩ := h
  exact Kd.Q_types ho hb ht
theorem IsS85.own_neQ {w0 W : World} {g : Nat} {f0 : Int} {f1 : Int} {f2 : Int} {f3 : Int} {f4 : List (S138)} {α : Type} {d : Kd α} {e : Nat} {base : Nat} {ok : Nat → Prop} {v : Value} {xs : List α} (h : IsS85 w0 W g f0 f1 f2 f3 f4) (ho : d.Q e W base ok v xs) (ht : e ≠ 85) : some g ≠ v.ownBlock := by
  obtain ⟨A4, c4, hb, hg, hr4⟩ := h
  exact Kd.Q_ne ho hb ht
theorem IsS85.apartS {w0 W : World} {g : Nat} {f0 : Int} {f1 : Int} {f2 : Int} {f3 : Int} {f4 : List (S138)} {α : Type} {d : Kd α} {e : Nat} {base : Nat} {ok : Nat → Prop} {v : Value} {xs : List α} (h : IsS85 w0 W g f0 f1 f2 f3 f4) (ho : d.S e W base ok v xs) (ht : ∀ q, q ∈ e :: d.E → q ≠ 85) : d.S e W base (fun k => ok k ∧ k ≠ g) v xs := by
  obtain ⟨A4, c4, hb, hg, hr4⟩ := h
  exact Kd.S_types ho hb ht
theorem IsS85.own_neS {w0 W : World} {g : Nat} {f0 : Int} {f1 : Int} {f2 : Int} {f3 : Int} {f4 : List (S138)} {α : Type} {d : Kd α} {e : Nat} {base : Nat} {ok : Nat → Prop} {v : Value} {xs : List α} (h : IsS85 w0 W g f0 f1 f2 f3 f4) (ho : d.S e W base ok v xs) (ht : e ≠ 85) : some g ≠ v.ownBlock := by
  obtain ⟨A4, c4, hb, hg, hr4⟩ := h
  exact Kd.S_ne ho hb ht
theorem IsS85.lt {w0 W : World} {g : Nat} {f0 : Int} {f1 : Int} {f2 : Int} {f3 : Int} {f4 : List (S138)} (h : IsS85 w0 W g f0 f1 f2 f3 f4) : g < W.heap.size := by
  obtain ⟨A4, c4, hb, hg, hr4⟩ := h
  exact blk_lt hb
theorem IsS85.ge {w0 W : World} {g : Nat} {f0 : Int} {f1 : Int} {f2 : Int} {f3 : Int} {f4 : List (S138)} (h : IsS85 w0 W g f0 f1 f2 f3 f4) : w0.heap.size ≤ g := by
  obtain ⟨A4, c4, hb, hg, hr4⟩ := h
  exact hg
theorem IsS85.ne_blk {w0 W : World} {g : Nat} {f0 : Int} {f1 : Int} {f2 : Int} {f3 : Int} {f4 : List (S138)} {a : Nat} {cs : Array Value} {t : TypeId} {fr : Nat × Nat} (h : IsS85 w0 W g f0 f1 f2 f3 f4) (hb2 : W.heap[a]? = some (.cells cs t fr)) (ht : t ≠ 85) : g ≠ a := by
  obtain ⟨A4, c4, hb, hg, hr4⟩ := h
  rintro rfl
  rw [hb] at hb2
  injection hb2 with hb2
  injection hb2 with _ ht2
  exact ht ht2.symm
theorem IsS85.far {w0 W : World} {g : Nat} {f0 : Int} {f1 : Int} {f2 : Int} {f3 : Int} {f4 : List (S138)} {p : Addr} (h : IsS85 w0 W g f0 f1 f2 f3 f4) (hne : g ≠ p.block) (u : Value) : IsS85 w0 (W.setCell p u) g f0 f1 f2 f3 f4 := by
  obtain ⟨A4, c4, hb, hg, hr4⟩ := h
  exact ⟨A4, c4, blk_far hb hne u, hg, hr4⟩
theorem cellS85_0 {W : World} {g : Nat} {A4 : Option Addr} {c4 : Nat} {f0 : Int} {f1 : Int} {f2 : Int} {f3 : Int} {f4 : List (S138)} (h : W.heap[g]? = some (.cells #[.int .u32 f0, .int .u32 f1, .int .u32 f2, .int .u32 f3, .slice A4 f4.length c4] 85 (0, 0))) : W.cell? ⟨g, 0, none⟩ = some (.int .u32 f0) := (blk_cell h 0).trans rfl
theorem IsS85.set_0 {w0 W : World} {g : Nat} {f0 : Int} {f1 : Int} {f2 : Int} {f3 : Int} {f4 : List (S138)} (h : IsS85 w0 W g f0 f1 f2 f3 f4) (x : Int) : IsS85 w0 (W.setCell ⟨g, 0, none⟩ (.int .u32 x)) g x f1 f2 f3 f4 := by
  obtain ⟨A4, c4, hb, hg, hr4⟩ := h
  exact ⟨A4, c4, by simpa using blk_set hb 0 (.int .u32 x), hg, hr4⟩
theorem cellS85_1 {W : World} {g : Nat} {A4 : Option Addr} {c4 : Nat} {f0 : Int} {f1 : Int} {f2 : Int} {f3 : Int} {f4 : List (S138)} (h : W.heap[g]? = some (.cells #[.int .u32 f0, .int .u32 f1, .int .u32 f2, .int .u32 f3, .slice A4 f4.length c4] 85 (0, 0))) : W.cell? ⟨g, 1, none⟩ = some (.int .u32 f1) := (blk_cell h 1).trans rfl
theorem IsS85.set_1 {w0 W : World} {g : Nat} {f0 : Int} {f1 : Int} {f2 : Int} {f3 : Int} {f4 : List (S138)} (h : IsS85 w0 W g f0 f1 f2 f3 f4) (x : Int) : IsS85 w0 (W.setCell ⟨g, 1, none⟩ (.int .u32 x)) g f0 x f2 f3 f4 := by
  obtain ⟨A4, c4, hb, hg, hr4⟩ := h
  exact ⟨A4, c4, by simpa using blk_set hb 1 (.int .u32 x), hg, hr4⟩
theorem cellS85_2 {W : World} {g : Nat} {A4 : Option Addr} {c4 : Nat} {f0 : Int} {f1 : Int} {f2 : Int} {f3 : Int} {f4 : List (S138)} (h : W.heap[g]? = some (.cells #[.int .u32 f0, .int .u32 f1, .int .u32 f2, .int .u32 f3, .slice A4 f4.length c4] 85 (0, 0))) : W.cell? ⟨g, 2, none⟩ = some (.int .u32 f2) := (blk_cell h 2).trans rfl
theorem IsS85.set_2 {w0 W : World} {g : Nat} {f0 : Int} {f1 : Int} {f2 : Int} {f3 : Int} {f4 : List (S138)} (h : IsS85 w0 W g f0 f1 f2 f3 f4) (x : Int) : IsS85 w0 (W.setCell ⟨g, 2, none⟩ (.int .u32 x)) g f0 f1 x f3 f4 := by
  obtain ⟨A4, c4, hb, hg, hr4⟩ := h
  exact ⟨A4, c4, by simpa using blk_set hb 2 (.int .u32 x), hg, hr4⟩
theorem cellS85_3 {W : World} {g : Nat} {A4 : Option Addr} {c4 : Nat} {f0 : Int} {f1 : Int} {f2 : Int} {f3 : Int} {f4 : List (S138)} (h : W.heap[g]? = some (.cells #[.int .u32 f0, .int .u32 f1, .int .u32 f2, .int .u32 f3, .slice A4 f4.length c4] 85 (0, 0))) : W.cell? ⟨g, 3, none⟩ = some (.int .u32 f3) := (blk_cell h 3).trans rfl
theorem IsS85.set_3 {w0 W : World} {g : Nat} {f0 : Int} {f1 : Int} {f2 : Int} {f3 : Int} {f4 : List (S138)} (h : IsS85 w0 W g f0 f1 f2 f3 f4) (x : Int) : IsS85 w0 (W.setCell ⟨g, 3, none⟩ (.int .u32 x)) g f0 f1 f2 x f4 := by
  obtain ⟨A4, c4, hb, hg, hr4⟩ := h
  exact ⟨A4, c4, by simpa using blk_set hb 3 (.int .u32 x), hg, hr4⟩
theorem cellS85_4 {W : World} {g : Nat} {A4 : Option Addr} {c4 : Nat} {f0 : Int} {f1 : Int} {f2 : Int} {f3 : Int} {f4 : List (S138)} (h : W.heap[g]? = some (.cells #[.int .u32 f0, .int .u32 f1, .int .u32 f2, .int .u32 f3, .slice A4 f4.length c4] 85 (0, 0))) : W.cell? ⟨g, 4, none⟩ = some (.slice A4 f4.length c4) := (blk_cell h 4).trans rfl
theorem IsS85.new (w0 W : World) (A4 : Option Addr) (c4 : Nat) (f0 : Int) (f1 : Int) (f2 : Int) (f3 : Int) (f4 : List (S138)) (hB : Below w0.heap.size w0 W) (hr4 : Kd.C k138 w0 A4 f4.length f4) : IsS85 w0 (W.alloc (.cells #[.int .u32 f0, .int .u32 f1, .int .u32 f2, .int .u32 f3, .slice A4 f4.length c4] 85)) W.heap.size f0 f1 f2 f3 f4 := ⟨A4, c4, by simpa using heap_alloc_new W _, hB.size, hr4⟩

/-! ### pintleref05_Memory_At: function 69 -/
def pintleref05_Memory_At.l0 : Nat → Int → Int → Int → Int → Int → Int → List (S138) → Option (Int × Int × Int × Int × Int)
  | 0, _, _, _, _, _, _, _ => none
  | k + 1, x1, x5, x1000, x1001, x1002, x1003, x1004 => if x5 ≥ 0 then (if 0 ≤ x5 then (if x5 < (x1004.length : Int) then (if ((rd_T138 x1004 x5).f0) = x1 then (some ((rd_T138 x1004 x5).f1, x1000, x1001, x1002, x1003)) else (pintleref05_Memory_At.l0 k x1 (wrap64 (x5 - 1)) x1000 x1001 x1002 x1003 x1004)) else (none)) else (none)) else (some (0, x1000, x1001, x1002, x1003))
def pintleref05_Memory_At.f (k : Nat) (s0_0 : Int) (s0_1 : Int) (s0_2 : Int) (s0_3 : Int) (s0_4 : List (S138)) (a1 : Int) : Option (Int × Int × Int × Int × Int) := pintleref05_Memory_At.l0 k a1 (wrap64 ((s0_4.length : Int) - 1)) s0_0 s0_1 s0_2 s0_3 s0_4
theorem pintleref05_Memory_At.mono_l : ∀ k, (∀ y0 y1 y2 y3 y4 y5 y6, LeO (pintleref05_Memory_At.l0 k y0 y1 y2 y3 y4 y5 y6) (pintleref05_Memory_At.l0 (k + 1) y0 y1 y2 y3 y4 y5 y6))
  | 0 => fun _ _ _ _ _ _ _ r h => by simp [pintleref05_Memory_At.l0] at h
  | k + 1 => by
    have ih0 := pintleref05_Memory_At.mono_l k
    · intro y0 y1 y2 y3 y4 y5 y6
      unfold pintleref05_Memory_At.l0
      repeat' first
      | (with_reducible exact ih0 _ _ _ _ _ _ _)
      | (with_reducible exact LeO.refl _)
      | (with_reducible exact LeO.none _)
      | (with_reducible refine LeO.ite ?_ ?_)
      | (with_reducible refine LeO.bind ?_ (fun _ => ?_))
      | exact ih0 _ _ _ _ _ _ _
      | exact LeO.none _
      | refine LeO.ite ?_ ?_
      | refine LeO.bind ?_ (fun _ => ?_)
theorem pintleref05_Memory_At.mono : ∀ a0 a1 a2 a3 a4 a5 k, LeO (pintleref05_Memory_At.f k a0 a1 a2 a3 a4 a5) (pintleref05_Memory_At.f (k + 1) a0 a1 a2 a3 a4 a5) := by
  intro a0 a1 a2 a3 a4 a5 k
  have ih0 := pintleref05_Memory_At.mono_l k
  unfold pintleref05_Memory_At.f
  repeat' first
      | (with_reducible exact ih0 _ _ _ _ _ _ _)
      | (with_reducible exact LeO.refl _)
      | (with_reducible exact LeO.none _)
      | (with_reducible refine LeO.ite ?_ ?_)
      | (with_reducible refine LeO.bind ?_ (fun _ => ?_))
      | exact ih0 _ _ _ _ _ _ _
      | exact LeO.none _
      | refine LeO.ite ?_ ?_
      | refine LeO.bind ?_ (fun _ => ?_)
set_option maxHeartbeats 8000000 in
set_option maxRecDepth 100000 in
theorem pintleref05_Memory_At.calls (k : Nat) (g : Nat) (s0_0 : Int) (s0_1 : Int) (s0_2 : Int) (s0_3 : Int) (s0_4 : List (S138)) (a1 : Int) (r1 : Int) (r2 : Int) (r3 : Int) (r4 : Int) (r5 : Int) (w0 w : World) (hI : IsS85 w0 w g s0_0 s0_1 s0_2 s0_3 s0_4) (hB : Below w0.heap.size w0 w) (h : pintleref05_Memory_At.f k s0_0 s0_1 s0_2 s0_3 s0_4 a1 = some (r1, r2, r3, r4, r5)) :
    Calls Try.prog 69 #[.pointer (some ⟨g, 0, none⟩), .int .u32 a1] w fun e w' => e = .returned (.int .u8 r1) ∧ IsS85 w0 w' g r2 r3 r4 r5 s0_4 ∧ Below w0.heap.size w0 w' ∧ KeepBut w w' g none := by
  have HI0 := Aside0.mk hI
  have HK := Aside0.mk (KeepBut.refl w g none)
  have HL := Aside0.mk hB.size
  clear hI
  have HW0 := Aside0.mk hB.size
  have HB := Aside0.mk hB
  clear hB
  have H : (pintleref05_Memory_At.l0 k a1 (wrap64 ((s0_4.length : Int) - 1)) s0_0 s0_1 s0_2 s0_3 s0_4) = some (r1, r2, r3, r4, r5) := h
  clear h
  have H' := Aside0.mk H
  clear H
  obtain ⟨ASz3_4, cSz3_4, HGz3, hgz3, HSz3_4⟩ := HI0.out
  have hcz3_0 := cellS85_0 HGz3
  have hcz3_1 := cellS85_1 HGz3
  have hcz3_2 := cellS85_2 HGz3
  have hcz3_3 := cellS85_3 HGz3
  have hcz3_4 := cellS85_4 HGz3
  have hfz3_0 := blk_frozen HGz3 0
  have hfz3_1 := blk_frozen HGz3 1
  have hfz3_2 := blk_frozen HGz3 2
  have hfz3_3 := blk_frozen HGz3 3
  clear HGz3 hgz3
  go_enter Try.func69, Try.ntmps69
  go_wp2
  go_loopg [5] k (fun kq v5 w' => ∃ (x5_1 : Int), v5 = .int .i64 x5_1 ∧ Aside0 (pintleref05_Memory_At.l0 kq a1 x5_1 s0_0 s0_1 s0_2 s0_3 s0_4 = some (r1, r2, r3, r4, r5)) ∧ Aside0 (kq ≤ k) ∧ Aside0 (IsS85 w0 w' g s0_0 s0_1 s0_2 s0_3 s0_4) ∧ Aside0 (KeepBut w w' g none) ∧ Aside0 (Below w0.heap.size w0 w'))
  case atStart => exact ⟨(wrap64 ((s0_4.length : Int) - 1)), (by first | rfl | (simp; done) | (simp [*]; done) | (simp [*]; omega)), H', ⟨Nat.le_refl _⟩, ⟨by repeat (first | (with_reducible first | exact HI0.out | apply IsS85.alloc | apply IsS85.drewN | apply IsS85.drew | apply IsS85.set_0 | apply IsS85.set_1 | apply IsS85.set_2 | apply IsS85.set_3) | exact HI0.out)⟩, ⟨by repeat (first | (with_reducible first | exact HK.out | apply KeepBut.set_ | apply keep_drewN | apply keep_drew | apply keep_alloc) | exact HK.out)⟩, ⟨by repeat (first | (with_reducible first | exact HB.out | apply below_alloc | apply pw_below_drewN | apply below_drew1 | refine below_set ?_ (IsS85.ge HI0.out)) | exact HB.out)⟩⟩
  case round =>
    clear H'
    try clear p2
    try clear hcz3_0
    try clear hcz3_1
    try clear hcz3_2
    try clear hcz3_3
    try clear hcz3_4
    try clear hfz3_0
    try clear hfz3_1
    try clear hfz3_2
    try clear hfz3_3
    obtain ⟨x5_1, rfl, HA, HK1, HI0, HK, HB⟩ := hrel
    cases gk with
    | zero => exact absurd HA.out (by simp [pintleref05_Memory_At.l0])
    | succ k1 =>
      have H := HA.out
      clear HA
      simp only [pintleref05_Memory_At.l0] at H
      by_cases c4 : x5_1 ≥ 0
      · rw [if_pos c4] at H
        have c4b0 : decide (0 ≤ x5_1) = true := decide_eq_true c4
        clear c4
        by_cases c5 : 0 ≤ x5_1
        · rw [if_pos c5] at H
          have c5b0 : decide (0 ≤ x5_1) = true := decide_eq_true c5
          clear c5
          by_cases c6 : x5_1 < (s0_4.length : Int)
          · rw [if_pos c6] at H
            have c6b0 : decide (x5_1 < (s0_4.length : Int)) = true := decide_eq_true c6
            clear c6
            by_cases c7 : ((rd_T138 s0_4 x5_1).f0) = a1
            · rw [if_pos c7] at H
              have c7b0 : (((rd_T138 s0_4 x5_1).f0) == a1) = true := beq_iff_eq.mpr c7
              have c7b1 : (((rd_T138 s0_4 x5_1).f0) != a1) = false := bne_eq_false_iff_eq.mpr c7
              clear c7
              simp only [Option.some.injEq, Prod.mk.injEq] at H
              obtain ⟨rfl, rfl, rfl, rfl, rfl⟩ := H
              obtain ⟨ASz8_4, cSz8_4, HGz8, hgz8, HSz8_4⟩ := HI0.out
              have hcz8_0 := cellS85_0 HGz8
              have hcz8_1 := cellS85_1 HGz8
              have hcz8_2 := cellS85_2 HGz8
              have hcz8_3 := cellS85_3 HGz8
              have hcz8_4 := cellS85_4 HGz8
              have hfz8_0 := blk_frozen HGz8 0
              have hfz8_1 := blk_frozen HGz8 1
              have hfz8_2 := blk_frozen HGz8 2
              have hfz8_3 := blk_frozen HGz8 3
              clear HGz8 hgz8
              have p129 : 0 ≤ (x5_1 : Int) := of_decide_eq_true (by first | (with_reducible assumption) | assumption)
              have q129 : x5_1 < (s0_4.length : Int) := of_decide_eq_true (by first | (with_reducible assumption) | assumption)
              obtain ⟨ad129, e129, hx129_0, hx129_1⟩ := at_T138 HSz8_4 x5_1 p129 q129
              cases e129
              replace hx129_0 := pw_cell_below HB.out hx129_0
              replace hx129_1 := pw_cell_below HB.out hx129_1
              replace p129 := eq_true p129
              replace q129 := eq_true q129
              have p130 : 0 ≤ (x5_1 : Int) := of_decide_eq_true (by first | (with_reducible assumption) | assumption)
              have q130 : x5_1 < (s0_4.length : Int) := of_decide_eq_true (by first | (with_reducible assumption) | assumption)
              obtain ⟨ad130, e130, hx130_0, hx130_1⟩ := at_T138 HSz8_4 x5_1 p130 q130
              obtain rfl : ad129 = ad130 := (by injection e130)
              replace hx130_0 := pw_cell_below HB.out hx130_0
              replace hx130_1 := pw_cell_below HB.out hx130_1
              replace p130 := eq_true p130
              replace q130 := eq_true q130
              go_wp2
              go_ret
              exact ⟨by first | rfl | (simp [errW_none, errW_some] <;> rfl) | (simp [*, errW_none, errW_some] <;> rfl), by repeat (first | (with_reducible first | exact HI0.out | apply IsS85.alloc | apply IsS85.drewN | apply IsS85.drew | apply IsS85.set_0 | apply IsS85.set_1 | apply IsS85.set_2 | apply IsS85.set_3) | exact HI0.out), by repeat (first | (with_reducible first | exact HB.out | apply below_alloc | apply pw_below_drewN | apply below_drew1 | refine below_set ?_ (IsS85.ge HI0.out)) | exact HB.out), by repeat (first | (with_reducible first | exact HK.out | apply KeepBut.set_ | apply keep_drewN | apply keep_drew | apply keep_alloc) | exact HK.out)⟩
            · rw [if_neg c7] at H
              have c7b0 : (((rd_T138 s0_4 x5_1).f0) == a1) = false := beq_eq_false_iff_ne.mpr c7
              have c7b1 : (((rd_T138 s0_4 x5_1).f0) != a1) = true := bne_iff_ne.mpr c7
              have H' := Aside0.mk H
              clear H
              obtain ⟨ASz9_4, cSz9_4, HGz9, hgz9, HSz9_4⟩ := HI0.out
              have hcz9_0 := cellS85_0 HGz9
              have hcz9_1 := cellS85_1 HGz9
              have hcz9_2 := cellS85_2 HGz9
              have hcz9_3 := cellS85_3 HGz9
              have hcz9_4 := cellS85_4 HGz9
              have hfz9_0 := blk_frozen HGz9 0
              have hfz9_1 := blk_frozen HGz9 1
              have hfz9_2 := blk_frozen HGz9 2
              have hfz9_3 := blk_frozen HGz9 3
              clear HGz9 hgz9
              have p129 : 0 ≤ (x5_1 : Int) := of_decide_eq_true (by first | (with_reducible assumption) | assumption)
              have q129 : x5_1 < (s0_4.length : Int) := of_decide_eq_true (by first | (with_reducible assumption) | assumption)
              obtain ⟨ad129, e129, hx129_0, hx129_1⟩ := at_T138 HSz9_4 x5_1 p129 q129
              cases e129
              replace hx129_0 := pw_cell_below HB.out hx129_0
              replace hx129_1 := pw_cell_below HB.out hx129_1
              replace p129 := eq_true p129
              replace q129 := eq_true q129
              go_wp2
              go_roundg k1
              case measure => have := HK1.out; omega
              case rel => exact ⟨(wrap64 (x5_1 - 1)), (by first | rfl | (simp; done) | (simp [*]; done) | (simp [*]; omega)), H', ⟨by have := HK1.out; omega⟩, ⟨by repeat (first | (with_reducible first | exact HI0.out | apply IsS85.alloc | apply IsS85.drewN | apply IsS85.drew | apply IsS85.set_0 | apply IsS85.set_1 | apply IsS85.set_2 | apply IsS85.set_3) | exact HI0.out)⟩, ⟨by repeat (first | (with_reducible first | exact HK.out | apply KeepBut.set_ | apply keep_drewN | apply keep_drew | apply keep_alloc) | exact HK.out)⟩, ⟨by repeat (first | (with_reducible first | exact HB.out | apply below_alloc | apply pw_below_drewN | apply below_drew1 | refine below_set ?_ (IsS85.ge HI0.out)) | exact HB.out)⟩⟩
          · rw [if_neg c6] at H
            exact absurd H (by simp)
        · rw [if_neg c5] at H
          exact absurd H (by simp)
      · rw [if_neg c4] at H
        have c4b0 : decide (0 ≤ x5_1) = false := decide_eq_false c4
        clear c4
        simp only [Option.some.injEq, Prod.mk.injEq] at H
        obtain ⟨rfl, rfl, rfl, rfl, rfl⟩ := H
        go_wp2
        go_ret
        exact ⟨by first | rfl | (simp [errW_none, errW_some] <;> rfl) | (simp [*, errW_none, errW_some] <;> rfl), by repeat (first | (with_reducible first | exact HI0.out | apply IsS85.alloc | apply IsS85.drewN | apply IsS85.drew | apply IsS85.set_0 | apply IsS85.set_1 | apply IsS85.set_2 | apply IsS85.set_3) | exact HI0.out), by repeat (first | (with_reducible first | exact HB.out | apply below_alloc | apply pw_below_drewN | apply below_drew1 | refine below_set ?_ (IsS85.ge HI0.out)) | exact HB.out), by repeat (first | (with_reducible first | exact HK.out | apply KeepBut.set_ | apply keep_drewN | apply keep_drew | apply keep_alloc) | exact HK.out)⟩

/-! ### pintleref05_in: function 118 -/
def pintleref05_in.f (a0 : Int) (a1 : Int) (a2 : Int) (a3 : Int) : Option (Bool) := if a3 ≥ 0 then (if (wrap64 (a2)) ≥ (wrap64 (a0)) then (some (decide (a3 ≤ (wrap64 ((wrap64 ((wrap64 (a0)) + (wrap64 (a1)))) - (wrap64 (a2))))))) else (some false)) else (some false)
set_option maxHeartbeats 8000000 in
set_option maxRecDepth 100000 in
theorem pintleref05_in.calls (a0 : Int) (a1 : Int) (a2 : Int) (a3 : Int) (r : Bool) (w : World) (h : pintleref05_in.f a0 a1 a2 a3 = some r) :
    Calls Try.prog 118 #[.int .u32 a0, .int .u32 a1, .int .u32 a2, .int .i64 a3] w fun e w' => e = .returned (.bool r) ∧ Drawn0 w w' := by
  have H : (if a3 ≥ 0 then (if (wrap64 (a2)) ≥ (wrap64 (a0)) then (some (decide (a3 ≤ (wrap64 ((wrap64 ((wrap64 (a0)) + (wrap64 (a1)))) - (wrap64 (a2))))))) else (some false)) else (some false)) = some r := h
  clear h
  by_cases c5 : a3 ≥ 0
  · rw [if_pos c5] at H
    have c5b0 : decide (0 ≤ a3) = true := decide_eq_true c5
    clear c5
    by_cases c6 : (wrap64 (a2)) ≥ (wrap64 (a0))
    · rw [if_pos c6] at H
      have c6b0 : decide ((wrap64 (a0)) ≤ (wrap64 (a2))) = true := decide_eq_true c6
      clear c6
      obtain rfl := Option.some.inj H
      go_enter Try.func118, Try.ntmps118
      go_wp2
      go_ret
      exact ⟨by first | rfl | (simp; done) | (simp [*]; done), by repeat (first | exact Drawn0.refl _ | apply Drawn0.step)⟩
    · rw [if_neg c6] at H
      have c6b0 : decide ((wrap64 (a0)) ≤ (wrap64 (a2))) = false := decide_eq_false c6
      clear c6
      obtain rfl := Option.some.inj H
      go_enter Try.func118, Try.ntmps118
      go_wp2
      go_ret
      exact ⟨by first | rfl | (simp; done) | (simp [*]; done), by repeat (first | exact Drawn0.refl _ | apply Drawn0.step)⟩
  · rw [if_neg c5] at H
    have c5b0 : decide (0 ≤ a3) = false := decide_eq_false c5
    clear c5
    obtain rfl := Option.some.inj H
    go_enter Try.func118, Try.ntmps118
    go_wp2
    go_ret
    exact ⟨by first | rfl | (simp; done) | (simp [*]; done), by repeat (first | exact Drawn0.refl _ | apply Drawn0.step)⟩

end Go.Proofs.Ytpeljnnbknnbmaa.PA
