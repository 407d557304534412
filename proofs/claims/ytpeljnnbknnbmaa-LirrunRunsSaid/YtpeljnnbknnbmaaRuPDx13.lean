import Derived.Test.YtpeljnnbknnbmaaRuPDx0
-- Written by pr.py, a driver around the kit's printer, for this seat. Not trusted: Lean checks it.
namespace Go.Proofs.Ytpeljnnbknnbmaa.PD
open Go.RowKit Go.Proofs.YtpeljnnbknnbmaaW.PrintWords Go.Proofs.YtpeljnnbknnbmaaW.PrintLast Go.Proofs.YtpeljnnbknnbmaaW.PrintMore
attribute [local go_sem] max2_int min2_int max_two min_two max_three min_three max_four min_four   -- for this text's walks alone
set_option linter.unusedVariables false
set_option linter.unusedSimpArgs false

/-! ### pintlelaw15_Few: function 23 -/
def pintlelaw15_Few.f (l0 : List (S49)) : Option ((List (S49))) := if (l0.length : Int) > 60 then (if 60 ≤ (l0.length : Int) then ((some (l0.take 60 : List (S49))).bind fun y184 => ((some (([] : List (S49)) : List (S49))).bind fun y188 => (if y188.length + y184.length < 3518437208883 then (some (y188 ++ y184)) else (none)))) else (none)) else ((some (([] : List (S49)) : List (S49))).bind fun y194 => (if y194.length + l0.length < 3518437208883 then (some (y194 ++ l0)) else (none)))
set_option maxHeartbeats 8000000 in
set_option maxRecDepth 100000 in
theorem pintlelaw15_Few.calls (A0 : Option Addr) (c0 : Nat) (l0 : List (S49)) (r : List (S49)) (w : World) (hr0 : Kd.C k49 w A0 l0.length l0) (hc0 : l0.length ≤ c0) (h : pintlelaw15_Few.f l0 = some r) :
    Calls Try.prog 23 #[.slice A0 l0.length c0] w fun e w' => ∃ v0_ : Value, e = .returned (v0_) ∧ Kd.R k49 49 w' w.heap.size (fun _ => True) v0_ r ∧ Below w.heap.size w w' := by
  have HR0 := Aside0.mk hr0
  have HC0 := Aside0.mk hc0
  clear hr0 hc0
  have HB := Aside0.mk (Below.refl w.heap.size w)
  have H : (if (l0.length : Int) > 60 then (if 60 ≤ (l0.length : Int) then ((some (l0.take 60 : List (S49))).bind fun y184 => ((some (([] : List (S49)) : List (S49))).bind fun y188 => (if y188.length + y184.length < 3518437208883 then (some (y188 ++ y184)) else (none)))) else (none)) else ((some (([] : List (S49)) : List (S49))).bind fun y194 => (if y194.length + l0.length < 3518437208883 then (some (y194 ++ l0)) else (none)))) = some r := h
  clear h
  by_cases c2 : (l0.length : Int) > 60
  · rw [if_pos c2] at H
    have c2b0 : decide (60 < (l0.length : Int)) = true := decide_eq_true c2
    have c2b1 : decide (60 < l0.length) = true := decide_eq_true (by omega)
    clear c2
    by_cases c3 : 60 ≤ (l0.length : Int)
    · rw [if_pos c3] at H
      have c3b0 := eq_true c3
      have c3b1 : decide (60 ≤ (l0.length : Int)) = true := decide_eq_true c3
      clear c3
      obtain ⟨y184, hy184⟩ : ∃ y_ : List (S49), y_ = (l0.take 60) := ⟨_, rfl⟩
      replace H : ((some (([] : List (S49)) : List (S49))).bind fun y188 => (if y188.length + y184.length < 3518437208883 then (some (y188 ++ y184)) else (none))) = some r := by first | (rw [hy184]; with_reducible exact H) | (have H2_ := (Option.bind_some _ _).symm.trans H; rw [hy184]; with_reducible exact H2_) | (have H2_ := (Option.bind_some _ _).symm.trans H; with_reducible exact H2_) | with_reducible exact H | (rw [hy184]; exact H) | exact H
      have Ny184 := Aside0.mk hy184
      clear hy184
      obtain ⟨y188, hy188⟩ : ∃ y_ : List (S49), y_ = (([] : List (S49))) := ⟨_, rfl⟩
      replace H : (if y188.length + y184.length < 3518437208883 then (some (y188 ++ y184)) else (none)) = some r := by first | (rw [hy188]; with_reducible exact H) | (have H2_ := (Option.bind_some _ _).symm.trans H; rw [hy188]; with_reducible exact H2_) | (have H2_ := (Option.bind_some _ _).symm.trans H; with_reducible exact H2_) | with_reducible exact H | (rw [hy188]; exact H) | exact H
      have Ny188 := Aside0.mk hy188
      clear hy188
      by_cases c4 : y188.length + y184.length < 3518437208883
      · rw [if_pos c4] at H
        have LMc4 := Aside0.mk c4
        clear c4
        obtain ⟨y191, hy191⟩ : ∃ y_ : List (S49), y_ = (y188 ++ y184) := ⟨_, rfl⟩
        replace H : (some y191) = some r := by first | (rw [hy191]; with_reducible exact H) | (have H2_ := (Option.bind_some _ _).symm.trans H; rw [hy191]; with_reducible exact H2_) | (have H2_ := (Option.bind_some _ _).symm.trans H; with_reducible exact H2_) | with_reducible exact H | (rw [hy191]; exact H) | exact H
        have Ny191 := Aside0.mk hy191
        clear hy191
        obtain rfl := Option.some.inj H
        have q5 : (60 : Int) ≤ ((l0.length : Int) : Int) := of_decide_eq_true (by first | (with_reducible assumption) | assumption)
        obtain ⟨i05, hi05, _, hsz5, _⟩ := info_parts info49
        have hroom5 : l0.length ≤ c0 := HC0.out
        have hC5 : Kd.C k49 _ A0 l0.length l0 := HR0.out
        have hcut5 := cut_to (P := Try.prog) 26 49 .i64 Try.underlying26 hi05 A0 l0.length c0 60 (by omega) q5 hroom5
        have hr5 := Kd.C_take (m := 60) hC5 (by omega)
        have hy5 : y184.length = (60 : Int).toNat := (by rw [Ny184.out, List.length_take]; omega)
        rw [← Ny184.out] at hr5
        rw [← hy5] at hcut5
        have HR187 := Aside0.mk hr5
        have HC187 := Aside0.mk (show y184.length ≤ c0 from by omega)
        clear hr5 hC5 hroom5 hi05 hsz5
        have KY5 := Aside0.mk hy5
        clear hy5
        replace q5 := eq_true q5
        go_enter Try.func23, Try.ntmps23
        go_wp2_with (first | ((with_reducible refine gate_dst (N := 8) rfl ?_); refine Kd.R_lit k49 _ 49 ?hg (N := 8) ?hd (xs := ([] : List (S49))) (inner := []) (ok := fun _ => True) (okp := fun _ => True) ?hr ?hp (fun _ hk => hk) trivial (Below.refl _ _) (Nat.le_refl _) (by simp) ?_; (case hd => rfl); (case hg => rfl); (case hr => first | (go_simp; done) | (go_simp; rfl)); (case hp => exact (Reps.none _ _)); intro v189 w6 ho7 hb hg_ hnew_; clear hg_ hnew_; (first | rw [← Ny188.out] at ho7 | (simp only [Int.reduceToNat] at ho7; rw [← Ny188.out] at ho7)); have n0_ := Aside0.mk (Kd.R_lower ho7 (below_size (by repeat (first | (with_reducible first | exact HB.out | apply below_alloc | apply pw_below_drewN | apply below_drew1) | exact HB.out)))); have n1_ := Aside0.mk (below_step (by repeat (first | (with_reducible first | exact HB.out | apply below_alloc | apply pw_below_drewN | apply below_drew1) | exact HB.out)) hb); clear HB; have HO190 := n0_; have HB := n1_; clear n0_ n1_; clear hb ho7) | ((with_reducible refine gate_builtin (b := .append) (xs := #[.tmp 8, .tmp 9]) rfl ?_); at_builtin; refine Kd.R_append_rows k49 (w0 := w) w.heap.size rfl (.tmp 8) (.tmp 9) 26 49 (.agg #[(.int .i64 0), (.int .i64 0), (.int .i64 0), (.int .i64 0), (.int .i32 0)]) 40 rfl Try.underlying26 info49 rfl (by decide) (by omega) v189 y188 y184 _ _ _ (fun _ => True) (fun _ => False) rfl rfl ?aO ?aR (fun _ _ h => h) (fun _ h => h.elim) ?aF ?aB ?aS ?aL ?_; (case aR => repeat (first | exact (Kd.C_below HR187.out HB.out) | (with_reducible refine Kd.C_alloc ?_ _) | (with_reducible refine Kd.C_drewN ?_ _) | (with_reducible refine Kd.C_drew ?_))); (case aB => exact (by repeat (first | (with_reducible first | exact HB.out | apply below_alloc | apply pw_below_drewN | apply below_drew1) | exact HB.out))); (case aF => exact (fun _ _ => trivial)); (case aO => exact (by (with_reducible repeat (first | apply Kd.R_alloc | apply Kd.R_drewN | apply Kd.R_drew)); exact HO190.out)); (case aS => exact (below_size (by repeat (first | (with_reducible first | exact HB.out | apply below_alloc | apply pw_below_drewN | apply below_drew1) | exact HB.out)))); (case aL => have := LMc4.out; omega); intro v192 w8 ho hb hg hat; rw [← Ny191.out] at ho; have n0_ := Aside0.mk (hb); have n1_ := Aside0.mk (ho); clear HB; clear HO190; have HB := n0_; have HO193 := n1_; clear n0_ n1_; clear ho hb hg hat))
        go_ret
        exact ⟨_, by first | rfl | (simp [errW_none, errW_some] <;> rfl) | (simp [*, errW_none, errW_some] <;> rfl), by (with_reducible repeat (first | apply Kd.R_alloc | apply Kd.R_drewN | apply Kd.R_drew)); exact HO193.out, by repeat (first | (with_reducible first | exact HB.out | apply below_alloc | apply pw_below_drewN | apply below_drew1) | exact HB.out)⟩
      · rw [if_neg c4] at H
        exact absurd H (by simp)
    · rw [if_neg c3] at H
      exact absurd H (by simp)
  · rw [if_neg c2] at H
    have c2b0 : decide (60 < (l0.length : Int)) = false := decide_eq_false c2
    have c2b1 : decide (60 < l0.length) = false := decide_eq_false (by omega)
    clear c2
    obtain ⟨y194, hy194⟩ : ∃ y_ : List (S49), y_ = (([] : List (S49))) := ⟨_, rfl⟩
    replace H : (if y194.length + l0.length < 3518437208883 then (some (y194 ++ l0)) else (none)) = some r := by first | (rw [hy194]; with_reducible exact H) | (have H2_ := (Option.bind_some _ _).symm.trans H; rw [hy194]; with_reducible exact H2_) | (have H2_ := (Option.bind_some _ _).symm.trans H; with_reducible exact H2_) | with_reducible exact H | (rw [hy194]; exact H) | exact H
    have Ny194 := Aside0.mk hy194
    clear hy194
    by_cases c9 : y194.length + l0.length < 3518437208883
    · rw [if_pos c9] at H
      have LMc9 := Aside0.mk c9
      clear c9
      obtain ⟨y197, hy197⟩ : ∃ y_ : List (S49), y_ = (y194 ++ l0) := ⟨_, rfl⟩
      replace H : (some y197) = some r := by first | (rw [hy197]; with_reducible exact H) | (have H2_ := (Option.bind_some _ _).symm.trans H; rw [hy197]; with_reducible exact H2_) | (have H2_ := (Option.bind_some _ _).symm.trans H; with_reducible exact H2_) | with_reducible exact H | (rw [hy197]; exact H) | exact H
      have Ny197 := Aside0.mk hy197
      clear hy197
      obtain rfl := Option.some.inj H
      go_enter Try.func23, Try.ntmps23
      go_wp2_with (first | ((with_reducible refine gate_dst (N := 8) rfl ?_); refine Kd.R_lit k49 _ 49 ?hg (N := 8) ?hd (xs := ([] : List (S49))) (inner := []) (ok := fun _ => True) (okp := fun _ => True) ?hr ?hp (fun _ hk => hk) trivial (Below.refl _ _) (Nat.le_refl _) (by simp) ?_; (case hd => rfl); (case hg => rfl); (case hr => first | (go_simp; done) | (go_simp; rfl)); (case hp => exact (Reps.none _ _)); intro v195 w10 ho11 hb hg_ hnew_; clear hg_ hnew_; (first | rw [← Ny194.out] at ho11 | (simp only [Int.reduceToNat] at ho11; rw [← Ny194.out] at ho11)); have n0_ := Aside0.mk (Kd.R_lower ho11 (below_size (by repeat (first | (with_reducible first | exact HB.out | apply below_alloc | apply pw_below_drewN | apply below_drew1) | exact HB.out)))); have n1_ := Aside0.mk (below_step (by repeat (first | (with_reducible first | exact HB.out | apply below_alloc | apply pw_below_drewN | apply below_drew1) | exact HB.out)) hb); clear HB; have HO196 := n0_; have HB := n1_; clear n0_ n1_; clear hb ho11) | ((with_reducible refine gate_builtin (b := .append) (xs := #[.tmp 8, .tmp 9]) rfl ?_); at_builtin; refine Kd.R_append_rows k49 (w0 := w) w.heap.size rfl (.tmp 8) (.tmp 9) 26 49 (.agg #[(.int .i64 0), (.int .i64 0), (.int .i64 0), (.int .i64 0), (.int .i32 0)]) 40 rfl Try.underlying26 info49 rfl (by decide) (by omega) v195 y194 l0 _ _ _ (fun _ => True) (fun _ => False) rfl rfl ?aO ?aR (fun _ _ h => h) (fun _ h => h.elim) ?aF ?aB ?aS ?aL ?_; (case aR => repeat (first | exact (Kd.C_below HR0.out HB.out) | (with_reducible refine Kd.C_alloc ?_ _) | (with_reducible refine Kd.C_drewN ?_ _) | (with_reducible refine Kd.C_drew ?_))); (case aB => exact (by repeat (first | (with_reducible first | exact HB.out | apply below_alloc | apply pw_below_drewN | apply below_drew1) | exact HB.out))); (case aF => exact (fun _ _ => trivial)); (case aO => exact (by (with_reducible repeat (first | apply Kd.R_alloc | apply Kd.R_drewN | apply Kd.R_drew)); exact HO196.out)); (case aS => exact (below_size (by repeat (first | (with_reducible first | exact HB.out | apply below_alloc | apply pw_below_drewN | apply below_drew1) | exact HB.out)))); (case aL => have := LMc9.out; omega); intro v198 w12 ho hb hg hat; rw [← Ny197.out] at ho; have n0_ := Aside0.mk (hb); have n1_ := Aside0.mk (ho); clear HB; clear HO196; have HB := n0_; have HO199 := n1_; clear n0_ n1_; clear ho hb hg hat))
      go_ret
      exact ⟨_, by first | rfl | (simp [errW_none, errW_some] <;> rfl) | (simp [*, errW_none, errW_some] <;> rfl), by (with_reducible repeat (first | apply Kd.R_alloc | apply Kd.R_drewN | apply Kd.R_drew)); exact HO199.out, by repeat (first | (with_reducible first | exact HB.out | apply below_alloc | apply pw_below_drewN | apply below_drew1) | exact HB.out)⟩
    · rw [if_neg c9] at H
      exact absurd H (by simp)

/-! ### pintleref15_Has: function 56 -/
def pintleref15_Has.f (a0 : Int) : Option (Bool × Bool × Bool) := if a0 ≥ 1 then (if a0 ≤ 20 then (if a0 ≥ 2 then (if a0 ≥ 3 then (if a0 ≤ 12 then (some (true, decide (a0 ≤ 22), true)) else (if a0 = 21 then (some (true, decide (a0 ≤ 22), true)) else (some (true, decide (a0 ≤ 22), (a0 == 22))))) else (if a0 = 21 then (some (true, decide (a0 ≤ 22), true)) else (some (true, decide (a0 ≤ 22), (a0 == 22))))) else (if a0 ≥ 3 then (if a0 ≤ 12 then (some (true, false, true)) else (if a0 = 21 then (some (true, false, true)) else (some (true, false, (a0 == 22))))) else (if a0 = 21 then (some (true, false, true)) else (some (true, false, (a0 == 22)))))) else (if a0 ≥ 2 then (if a0 ≥ 3 then (if a0 ≤ 12 then (some ((a0 == 23), decide (a0 ≤ 22), true)) else (if a0 = 21 then (some ((a0 == 23), decide (a0 ≤ 22), true)) else (some ((a0 == 23), decide (a0 ≤ 22), (a0 == 22))))) else (if a0 = 21 then (some ((a0 == 23), decide (a0 ≤ 22), true)) else (some ((a0 == 23), decide (a0 ≤ 22), (a0 == 22))))) else (if a0 ≥ 3 then (if a0 ≤ 12 then (some ((a0 == 23), false, true)) else (if a0 = 21 then (some ((a0 == 23), false, true)) else (some ((a0 == 23), false, (a0 == 22))))) else (if a0 = 21 then (some ((a0 == 23), false, true)) else (some ((a0 == 23), false, (a0 == 22))))))) else (if a0 ≥ 2 then (if a0 ≥ 3 then (if a0 ≤ 12 then (some ((a0 == 23), decide (a0 ≤ 22), true)) else (if a0 = 21 then (some ((a0 == 23), decide (a0 ≤ 22), true)) else (some ((a0 == 23), decide (a0 ≤ 22), (a0 == 22))))) else (if a0 = 21 then (some ((a0 == 23), decide (a0 ≤ 22), true)) else (some ((a0 == 23), decide (a0 ≤ 22), (a0 == 22))))) else (if a0 ≥ 3 then (if a0 ≤ 12 then (some ((a0 == 23), false, true)) else (if a0 = 21 then (some ((a0 == 23), false, true)) else (some ((a0 == 23), false, (a0 == 22))))) else (if a0 = 21 then (some ((a0 == 23), false, true)) else (some ((a0 == 23), false, (a0 == 22))))))
set_option maxHeartbeats 8000000 in
set_option maxRecDepth 100000 in
theorem pintleref15_Has.calls (a0 : Int) (r1 : Bool) (r2 : Bool) (r3 : Bool) (w : World) (h : pintleref15_Has.f a0 = some (r1, r2, r3)) :
    Calls Try.prog 56 #[.int .i64 a0] w fun e w' => e = .returned (.tuple #[.bool r1, .bool r2, .bool r3]) ∧ Drawn0 w w' := by
  have H : (if a0 ≥ 1 then (if a0 ≤ 20 then (if a0 ≥ 2 then (if a0 ≥ 3 then (if a0 ≤ 12 then (some (true, decide (a0 ≤ 22), true)) else (if a0 = 21 then (some (true, decide (a0 ≤ 22), true)) else (some (true, decide (a0 ≤ 22), (a0 == 22))))) else (if a0 = 21 then (some (true, decide (a0 ≤ 22), true)) else (some (true, decide (a0 ≤ 22), (a0 == 22))))) else (if a0 ≥ 3 then (if a0 ≤ 12 then (some (true, false, true)) else (if a0 = 21 then (some (true, false, true)) else (some (true, false, (a0 == 22))))) else (if a0 = 21 then (some (true, false, true)) else (some (true, false, (a0 == 22)))))) else (if a0 ≥ 2 then (if a0 ≥ 3 then (if a0 ≤ 12 then (some ((a0 == 23), decide (a0 ≤ 22), true)) else (if a0 = 21 then (some ((a0 == 23), decide (a0 ≤ 22), true)) else (some ((a0 == 23), decide (a0 ≤ 22), (a0 == 22))))) else (if a0 = 21 then (some ((a0 == 23), decide (a0 ≤ 22), true)) else (some ((a0 == 23), decide (a0 ≤ 22), (a0 == 22))))) else (if a0 ≥ 3 then (if a0 ≤ 12 then (some ((a0 == 23), false, true)) else (if a0 = 21 then (some ((a0 == 23), false, true)) else (some ((a0 == 23), false, (a0 == 22))))) else (if a0 = 21 then (some ((a0 == 23), false, true)) else (some ((a0 == 23), false, (a0 == 22))))))) else (if a0 ≥ 2 then (if a0 ≥ 3 then (if a0 ≤ 12 then (some ((a0 == 23), decide (a0 ≤ 22), true)) else (if a0 = 21 then (some ((a0 == 23), decide (a0 ≤ 22), true)) else (some ((a0 == 23), decide (a0 ≤ 22), (a0 == 22))))) else (if a0 = 21 then (some ((a0 == 23), decide (a0 ≤ 22), true)) else (some ((a0 == 23), decide (a0 ≤ 22), (a0 == 22))))) else (if a0 ≥ 3 then (if a0 ≤ 12 then (some ((a0 == 23), false, true)) else (if a0 = 21 then (some ((a0 == 23), false, true)) else (some ((a0 == 23), false, (a0 == 22))))) else (if a0 = 21 then (some ((a0 == 23), false, true)) else (some ((a0 == 23), false, (a0 == 22))))))) = some (r1, r2, r3) := h
  clear h
  by_cases c2 : a0 ≥ 1
  · rw [if_pos c2] at H
    have c2b0 : decide (1 ≤ a0) = true := decide_eq_true c2
    clear c2
    by_cases c3 : a0 ≤ 20
    · rw [if_pos c3] at H
      have c3b0 : decide (a0 ≤ 20) = true := decide_eq_true c3
      clear c3
      by_cases c4 : a0 ≥ 2
      · rw [if_pos c4] at H
        have c4b0 : decide (2 ≤ a0) = true := decide_eq_true c4
        clear c4
        by_cases c5 : a0 ≥ 3
        · rw [if_pos c5] at H
          have c5b0 : decide (3 ≤ a0) = true := decide_eq_true c5
          clear c5
          by_cases c6 : a0 ≤ 12
          · rw [if_pos c6] at H
            have c6b0 : decide (a0 ≤ 12) = true := decide_eq_true c6
            clear c6
            simp only [Option.some.injEq, Prod.mk.injEq] at H
            obtain ⟨rfl, rfl, rfl⟩ := H
            go_enter Try.func56, Try.ntmps56
            go_wp2
            go_ret3
            exact ⟨by first | rfl | (simp; done) | (simp [*]; done), by repeat (first | exact Drawn0.refl _ | apply Drawn0.step)⟩
          · rw [if_neg c6] at H
            have c6b0 : decide (a0 ≤ 12) = false := decide_eq_false c6
            clear c6
            by_cases c7 : a0 = 21
            · rw [if_pos c7] at H
              have c7b0 : (a0 == 21) = true := beq_iff_eq.mpr c7
              have c7b1 : (a0 != 21) = false := bne_eq_false_iff_eq.mpr c7
              clear c7
              simp only [Option.some.injEq, Prod.mk.injEq] at H
              obtain ⟨rfl, rfl, rfl⟩ := H
              go_enter Try.func56, Try.ntmps56
              go_wp2
              go_ret3
              exact ⟨by first | rfl | (simp; done) | (simp [*]; done), by repeat (first | exact Drawn0.refl _ | apply Drawn0.step)⟩
            · rw [if_neg c7] at H
              have c7b0 : (a0 == 21) = false := beq_eq_false_iff_ne.mpr c7
              have c7b1 : (a0 != 21) = true := bne_iff_ne.mpr c7
              simp only [Option.some.injEq, Prod.mk.injEq] at H
              obtain ⟨rfl, rfl, rfl⟩ := H
              go_enter Try.func56, Try.ntmps56
              go_wp2
              go_ret3
              exact ⟨by first | rfl | (simp; done) | (simp [*]; done), by repeat (first | exact Drawn0.refl _ | apply Drawn0.step)⟩
        · rw [if_neg c5] at H
          have c5b0 : decide (3 ≤ a0) = false := decide_eq_false c5
          clear c5
          by_cases c8 : a0 = 21
          · rw [if_pos c8] at H
            have c8b0 : (a0 == 21) = true := beq_iff_eq.mpr c8
            have c8b1 : (a0 != 21) = false := bne_eq_false_iff_eq.mpr c8
            clear c8
            simp only [Option.some.injEq, Prod.mk.injEq] at H
            obtain ⟨rfl, rfl, rfl⟩ := H
            go_enter Try.func56, Try.ntmps56
            go_wp2
            go_ret3
            exact ⟨by first | rfl | (simp; done) | (simp [*]; done), by repeat (first | exact Drawn0.refl _ | apply Drawn0.step)⟩
          · rw [if_neg c8] at H
            have c8b0 : (a0 == 21) = false := beq_eq_false_iff_ne.mpr c8
            have c8b1 : (a0 != 21) = true := bne_iff_ne.mpr c8
            simp only [Option.some.injEq, Prod.mk.injEq] at H
            obtain ⟨rfl, rfl, rfl⟩ := H
            go_enter Try.func56, Try.ntmps56
            go_wp2
            go_ret3
            exact ⟨by first | rfl | (simp; done) | (simp [*]; done), by repeat (first | exact Drawn0.refl _ | apply Drawn0.step)⟩
      · rw [if_neg c4] at H
        have c4b0 : decide (2 ≤ a0) = false := decide_eq_false c4
        clear c4
        by_cases c9 : a0 ≥ 3
        · rw [if_pos c9] at H
          have c9b0 : decide (3 ≤ a0) = true := decide_eq_true c9
          clear c9
          by_cases c10 : a0 ≤ 12
          · rw [if_pos c10] at H
            have c10b0 : decide (a0 ≤ 12) = true := decide_eq_true c10
            clear c10
            simp only [Option.some.injEq, Prod.mk.injEq] at H
            obtain ⟨rfl, rfl, rfl⟩ := H
            go_enter Try.func56, Try.ntmps56
            go_wp2
            go_ret3
            exact ⟨by first | rfl | (simp; done) | (simp [*]; done), by repeat (first | exact Drawn0.refl _ | apply Drawn0.step)⟩
          · rw [if_neg c10] at H
            have c10b0 : decide (a0 ≤ 12) = false := decide_eq_false c10
            clear c10
            by_cases c11 : a0 = 21
            · rw [if_pos c11] at H
              have c11b0 : (a0 == 21) = true := beq_iff_eq.mpr c11
              have c11b1 : (a0 != 21) = false := bne_eq_false_iff_eq.mpr c11
              clear c11
              simp only [Option.some.injEq, Prod.mk.injEq] at H
              obtain ⟨rfl, rfl, rfl⟩ := H
              go_enter Try.func56, Try.ntmps56
              go_wp2
              go_ret3
              exact ⟨by first | rfl | (simp; done) | (simp [*]; done), by repeat (first | exact Drawn0.refl _ | apply Drawn0.step)⟩
            · rw [if_neg c11] at H
              have c11b0 : (a0 == 21) = false := beq_eq_false_iff_ne.mpr c11
              have c11b1 : (a0 != 21) = true := bne_iff_ne.mpr c11
              simp only [Option.some.injEq, Prod.mk.injEq] at H
              obtain ⟨rfl, rfl, rfl⟩ := H
              go_enter Try.func56, Try.ntmps56
              go_wp2
              go_ret3
              exact ⟨by first | rfl | (simp; done) | (simp [*]; done), by repeat (first | exact Drawn0.refl _ | apply Drawn0.step)⟩
        · rw [if_neg c9] at H
          have c9b0 : decide (3 ≤ a0) = false := decide_eq_false c9
          clear c9
          by_cases c12 : a0 = 21
          · rw [if_pos c12] at H
            have c12b0 : (a0 == 21) = true := beq_iff_eq.mpr c12
            have c12b1 : (a0 != 21) = false := bne_eq_false_iff_eq.mpr c12
            clear c12
            simp only [Option.some.injEq, Prod.mk.injEq] at H
            obtain ⟨rfl, rfl, rfl⟩ := H
            go_enter Try.func56, Try.ntmps56
            go_wp2
            go_ret3
            exact ⟨by first | rfl | (simp; done) | (simp [*]; done), by repeat (first | exact Drawn0.refl _ | apply Drawn0.step)⟩
          · rw [if_neg c12] at H
            have c12b0 : (a0 == 21) = false := beq_eq_false_iff_ne.mpr c12
            have c12b1 : (a0 != 21) = true := bne_iff_ne.mpr c12
            simp only [Option.some.injEq, Prod.mk.injEq] at H
            obtain ⟨rfl, rfl, rfl⟩ := H
            go_enter Try.func56, Try.ntmps56
            go_wp2
            go_ret3
            exact ⟨by first | rfl | (simp; done) | (simp [*]; done), by repeat (first | exact Drawn0.refl _ | apply Drawn0.step)⟩
    · rw [if_neg c3] at H
      have c3b0 : decide (a0 ≤ 20) = false := decide_eq_false c3
      clear c3
      by_cases c13 : a0 ≥ 2
      · rw [if_pos c13] at H
        have c13b0 : decide (2 ≤ a0) = true := decide_eq_true c13
        clear c13
        by_cases c14 : a0 ≥ 3
        · rw [if_pos c14] at H
          have c14b0 : decide (3 ≤ a0) = true := decide_eq_true c14
          clear c14
          by_cases c15 : a0 ≤ 12
          · rw [if_pos c15] at H
            have c15b0 : decide (a0 ≤ 12) = true := decide_eq_true c15
            clear c15
            simp only [Option.some.injEq, Prod.mk.injEq] at H
            obtain ⟨rfl, rfl, rfl⟩ := H
            go_enter Try.func56, Try.ntmps56
            go_wp2
            go_ret3
            exact ⟨by first | rfl | (simp; done) | (simp [*]; done), by repeat (first | exact Drawn0.refl _ | apply Drawn0.step)⟩
          · rw [if_neg c15] at H
            have c15b0 : decide (a0 ≤ 12) = false := decide_eq_false c15
            clear c15
            by_cases c16 : a0 = 21
            · rw [if_pos c16] at H
              have c16b0 : (a0 == 21) = true := beq_iff_eq.mpr c16
              have c16b1 : (a0 != 21) = false := bne_eq_false_iff_eq.mpr c16
              clear c16
              simp only [Option.some.injEq, Prod.mk.injEq] at H
              obtain ⟨rfl, rfl, rfl⟩ := H
              go_enter Try.func56, Try.ntmps56
              go_wp2
              go_ret3
              exact ⟨by first | rfl | (simp; done) | (simp [*]; done), by repeat (first | exact Drawn0.refl _ | apply Drawn0.step)⟩
            · rw [if_neg c16] at H
              have c16b0 : (a0 == 21) = false := beq_eq_false_iff_ne.mpr c16
              have c16b1 : (a0 != 21) = true := bne_iff_ne.mpr c16
              simp only [Option.some.injEq, Prod.mk.injEq] at H
              obtain ⟨rfl, rfl, rfl⟩ := H
              go_enter Try.func56, Try.ntmps56
              go_wp2
              go_ret3
              exact ⟨by first | rfl | (simp; done) | (simp [*]; done), by repeat (first | exact Drawn0.refl _ | apply Drawn0.step)⟩
        · rw [if_neg c14] at H
          have c14b0 : decide (3 ≤ a0) = false := decide_eq_false c14
          clear c14
          by_cases c17 : a0 = 21
          · rw [if_pos c17] at H
            have c17b0 : (a0 == 21) = true := beq_iff_eq.mpr c17
            have c17b1 : (a0 != 21) = false := bne_eq_false_iff_eq.mpr c17
            clear c17
            simp only [Option.some.injEq, Prod.mk.injEq] at H
            obtain ⟨rfl, rfl, rfl⟩ := H
            go_enter Try.func56, Try.ntmps56
            go_wp2
            go_ret3
            exact ⟨by first | rfl | (simp; done) | (simp [*]; done), by repeat (first | exact Drawn0.refl _ | apply Drawn0.step)⟩
          · rw [if_neg c17] at H
            have c17b0 : (a0 == 21) = false := beq_eq_false_iff_ne.mpr c17
            have c17b1 : (a0 != 21) = true := bne_iff_ne.mpr c17
            simp only [Option.some.injEq, Prod.mk.injEq] at H
            obtain ⟨rfl, rfl, rfl⟩ := H
            go_enter Try.func56, Try.ntmps56
            go_wp2
            go_ret3
            exact ⟨by first | rfl | (simp; done) | (simp [*]; done), by repeat (first | exact Drawn0.refl _ | apply Drawn0.step)⟩
      · rw [if_neg c13] at H
        have c13b0 : decide (2 ≤ a0) = false := decide_eq_false c13
        clear c13
        by_cases c18 : a0 ≥ 3
        · rw [if_pos c18] at H
          have c18b0 : decide (3 ≤ a0) = true := decide_eq_true c18
          clear c18
          by_cases c19 : a0 ≤ 12
          · rw [if_pos c19] at H
            have c19b0 : decide (a0 ≤ 12) = true := decide_eq_true c19
            clear c19
            simp only [Option.some.injEq, Prod.mk.injEq] at H
            obtain ⟨rfl, rfl, rfl⟩ := H
            go_enter Try.func56, Try.ntmps56
            go_wp2
            go_ret3
            exact ⟨by first | rfl | (simp; done) | (simp [*]; done), by repeat (first | exact Drawn0.refl _ | apply Drawn0.step)⟩
          · rw [if_neg c19] at H
            have c19b0 : decide (a0 ≤ 12) = false := decide_eq_false c19
            clear c19
            by_cases c20 : a0 = 21
            · rw [if_pos c20] at H
              have c20b0 : (a0 == 21) = true := beq_iff_eq.mpr c20
              have c20b1 : (a0 != 21) = false := bne_eq_false_iff_eq.mpr c20
              clear c20
              simp only [Option.some.injEq, Prod.mk.injEq] at H
              obtain ⟨rfl, rfl, rfl⟩ := H
              go_enter Try.func56, Try.ntmps56
              go_wp2
              go_ret3
              exact ⟨by first | rfl | (simp; done) | (simp [*]; done), by repeat (first | exact Drawn0.refl _ | apply Drawn0.step)⟩
            · rw [if_neg c20] at H
              have c20b0 : (a0 == 21) = false := beq_eq_false_iff_ne.mpr c20
              have c20b1 : (a0 != 21) = true := bne_iff_ne.mpr c20
              simp only [Option.some.injEq, Prod.mk.injEq] at H
              obtain ⟨rfl, rfl, rfl⟩ := H
              go_enter Try.func56, Try.ntmps56
              go_wp2
              go_ret3
              exact ⟨by first | rfl | (simp; done) | (simp [*]; done), by repeat (first | exact Drawn0.refl _ | apply Drawn0.step)⟩
        · rw [if_neg c18] at H
          have c18b0 : decide (3 ≤ a0) = false := decide_eq_false c18
          clear c18
          by_cases c21 : a0 = 21
          · rw [if_pos c21] at H
            have c21b0 : (a0 == 21) = true := beq_iff_eq.mpr c21
            have c21b1 : (a0 != 21) = false := bne_eq_false_iff_eq.mpr c21
            clear c21
            simp only [Option.some.injEq, Prod.mk.injEq] at H
            obtain ⟨rfl, rfl, rfl⟩ := H
            go_enter Try.func56, Try.ntmps56
            go_wp2
            go_ret3
            exact ⟨by first | rfl | (simp; done) | (simp [*]; done), by repeat (first | exact Drawn0.refl _ | apply Drawn0.step)⟩
          · rw [if_neg c21] at H
            have c21b0 : (a0 == 21) = false := beq_eq_false_iff_ne.mpr c21
            have c21b1 : (a0 != 21) = true := bne_iff_ne.mpr c21
            simp only [Option.some.injEq, Prod.mk.injEq] at H
            obtain ⟨rfl, rfl, rfl⟩ := H
            go_enter Try.func56, Try.ntmps56
            go_wp2
            go_ret3
            exact ⟨by first | rfl | (simp; done) | (simp [*]; done), by repeat (first | exact Drawn0.refl _ | apply Drawn0.step)⟩
  · rw [if_neg c2] at H
    have c2b0 : decide (1 ≤ a0) = false := decide_eq_false c2
    clear c2
    by_cases c22 : a0 ≥ 2
    · rw [if_pos c22] at H
      have c22b0 : decide (2 ≤ a0) = true := decide_eq_true c22
      clear c22
      by_cases c23 : a0 ≥ 3
      · rw [if_pos c23] at H
        have c23b0 : decide (3 ≤ a0) = true := decide_eq_true c23
        clear c23
        by_cases c24 : a0 ≤ 12
        · rw [if_pos c24] at H
          have c24b0 : decide (a0 ≤ 12) = true := decide_eq_true c24
          clear c24
          simp only [Option.some.injEq, Prod.mk.injEq] at H
          obtain ⟨rfl, rfl, rfl⟩ := H
          go_enter Try.func56, Try.ntmps56
          go_wp2
          go_ret3
          exact ⟨by first | rfl | (simp; done) | (simp [*]; done), by repeat (first | exact Drawn0.refl _ | apply Drawn0.step)⟩
        · rw [if_neg c24] at H
          have c24b0 : decide (a0 ≤ 12) = false := decide_eq_false c24
          clear c24
          by_cases c25 : a0 = 21
          · rw [if_pos c25] at H
            have c25b0 : (a0 == 21) = true := beq_iff_eq.mpr c25
            have c25b1 : (a0 != 21) = false := bne_eq_false_iff_eq.mpr c25
            clear c25
            simp only [Option.some.injEq, Prod.mk.injEq] at H
            obtain ⟨rfl, rfl, rfl⟩ := H
            go_enter Try.func56, Try.ntmps56
            go_wp2
            go_ret3
            exact ⟨by first | rfl | (simp; done) | (simp [*]; done), by repeat (first | exact Drawn0.refl _ | apply Drawn0.step)⟩
          · rw [if_neg c25] at H
            have c25b0 : (a0 == 21) = false := beq_eq_false_iff_ne.mpr c25
            have c25b1 : (a0 != 21) = true := bne_iff_ne.mpr c25
            simp only [Option.some.injEq, Prod.mk.injEq] at H
            obtain ⟨rfl, rfl, rfl⟩ := H
            go_enter Try.func56, Try.ntmps56
            go_wp2
            go_ret3
            exact ⟨by first | rfl | (simp; done) | (simp [*]; done), by repeat (first | exact Drawn0.refl _ | apply Drawn0.step)⟩
      · rw [if_neg c23] at H
        have c23b0 : decide (3 ≤ a0) = false := decide_eq_false c23
        clear c23
        by_cases c26 : a0 = 21
        · rw [if_pos c26] at H
          have c26b0 : (a0 == 21) = true := beq_iff_eq.mpr c26
          have c26b1 : (a0 != 21) = false := bne_eq_false_iff_eq.mpr c26
          clear c26
          simp only [Option.some.injEq, Prod.mk.injEq] at H
          obtain ⟨rfl, rfl, rfl⟩ := H
          go_enter Try.func56, Try.ntmps56
          go_wp2
          go_ret3
          exact ⟨by first | rfl | (simp; done) | (simp [*]; done), by repeat (first | exact Drawn0.refl _ | apply Drawn0.step)⟩
        · rw [if_neg c26] at H
          have c26b0 : (a0 == 21) = false := beq_eq_false_iff_ne.mpr c26
          have c26b1 : (a0 != 21) = true := bne_iff_ne.mpr c26
          simp only [Option.some.injEq, Prod.mk.injEq] at H
          obtain ⟨rfl, rfl, rfl⟩ := H
          go_enter Try.func56, Try.ntmps56
          go_wp2
          go_ret3
          exact ⟨by first | rfl | (simp; done) | (simp [*]; done), by repeat (first | exact Drawn0.refl _ | apply Drawn0.step)⟩
    · rw [if_neg c22] at H
      have c22b0 : decide (2 ≤ a0) = false := decide_eq_false c22
      clear c22
      by_cases c27 : a0 ≥ 3
      · rw [if_pos c27] at H
        have c27b0 : decide (3 ≤ a0) = true := decide_eq_true c27
        clear c27
        by_cases c28 : a0 ≤ 12
        · rw [if_pos c28] at H
          have c28b0 : decide (a0 ≤ 12) = true := decide_eq_true c28
          clear c28
          simp only [Option.some.injEq, Prod.mk.injEq] at H
          obtain ⟨rfl, rfl, rfl⟩ := H
          go_enter Try.func56, Try.ntmps56
          go_wp2
          go_ret3
          exact ⟨by first | rfl | (simp; done) | (simp [*]; done), by repeat (first | exact Drawn0.refl _ | apply Drawn0.step)⟩
        · rw [if_neg c28] at H
          have c28b0 : decide (a0 ≤ 12) = false := decide_eq_false c28
          clear c28
          by_cases c29 : a0 = 21
          · rw [if_pos c29] at H
            have c29b0 : (a0 == 21) = true := beq_iff_eq.mpr c29
            have c29b1 : (a0 != 21) = false := bne_eq_false_iff_eq.mpr c29
            clear c29
            simp only [Option.some.injEq, Prod.mk.injEq] at H
            obtain ⟨rfl, rfl, rfl⟩ := H
            go_enter Try.func56, Try.ntmps56
            go_wp2
            go_ret3
            exact ⟨by first | rfl | (simp; done) | (simp [*]; done), by repeat (first | exact Drawn0.refl _ | apply Drawn0.step)⟩
          · rw [if_neg c29] at H
            have c29b0 : (a0 == 21) = false := beq_eq_false_iff_ne.mpr c29
            have c29b1 : (a0 != 21) = true := bne_iff_ne.mpr c29
            simp only [Option.some.injEq, Prod.mk.injEq] at H
            obtain ⟨rfl, rfl, rfl⟩ := H
            go_enter Try.func56, Try.ntmps56
            go_wp2
            go_ret3
            exact ⟨by first | rfl | (simp; done) | (simp [*]; done), by repeat (first | exact Drawn0.refl _ | apply Drawn0.step)⟩
      · rw [if_neg c27] at H
        have c27b0 : decide (3 ≤ a0) = false := decide_eq_false c27
        clear c27
        by_cases c30 : a0 = 21
        · rw [if_pos c30] at H
          have c30b0 : (a0 == 21) = true := beq_iff_eq.mpr c30
          have c30b1 : (a0 != 21) = false := bne_eq_false_iff_eq.mpr c30
          clear c30
          simp only [Option.some.injEq, Prod.mk.injEq] at H
          obtain ⟨rfl, rfl, rfl⟩ := H
          go_enter Try.func56, Try.ntmps56
          go_wp2
          go_ret3
          exact ⟨by first | rfl | (simp; done) | (simp [*]; done), by repeat (first | exact Drawn0.refl _ | apply Drawn0.step)⟩
        · rw [if_neg c30] at H
          have c30b0 : (a0 == 21) = false := beq_eq_false_iff_ne.mpr c30
          have c30b1 : (a0 != 21) = true := bne_iff_ne.mpr c30
          simp only [Option.some.injEq, Prod.mk.injEq] at H
          obtain ⟨rfl, rfl, rfl⟩ := H
          go_enter Try.func56, Try.ntmps56
          go_wp2
          go_ret3
          exact ⟨by first | rfl | (simp; done) | (simp [*]; done), by repeat (first | exact Drawn0.refl _ | apply Drawn0.step)⟩

/-! ### pintleref15_fits: function 73 -/
def pintleref15_fits.f (a0 : Int) (a1 : Bool) : Option (Bool) := if a0 ≥ 0 then (if a0 < 64 then (if a1 = true then (some true) else (some (a0 == 0))) else (some false)) else (some false)
set_option maxHeartbeats 8000000 in
set_option maxRecDepth 100000 in
theorem pintleref15_fits.calls (a0 : Int) (a1 : Bool) (r : Bool) (w : World) (h : pintleref15_fits.f a0 a1 = some r) :
    Calls Try.prog 73 #[.int .i64 a0, .bool a1] w fun e w' => e = .returned (.bool r) ∧ Drawn0 w w' := by
  have H : (if a0 ≥ 0 then (if a0 < 64 then (if a1 = true then (some true) else (some (a0 == 0))) else (some false)) else (some false)) = some r := h
  clear h
  by_cases c3 : a0 ≥ 0
  · rw [if_pos c3] at H
    have c3b0 : decide (0 ≤ a0) = true := decide_eq_true c3
    clear c3
    by_cases c4 : a0 < 64
    · rw [if_pos c4] at H
      have c4b0 : decide (a0 < 64) = true := decide_eq_true c4
      clear c4
      by_cases c5 : a1 = true
      · subst c5
        have H1 : (some true) = some r := by rw [if_pos rfl] at H; exact H
        clear H
        have H := H1
        clear H1
        obtain rfl := Option.some.inj H
        go_enter Try.func73, Try.ntmps73
        go_wp2
        go_ret
        exact ⟨by first | rfl | (simp; done) | (simp [*]; done), by repeat (first | exact Drawn0.refl _ | apply Drawn0.step)⟩
      · replace c5 := Bool.eq_false_iff.mpr c5
        subst c5
        have H1 : (some (a0 == 0)) = some r := by rw [if_neg (show ¬ (false = true) by decide)] at H; exact H
        clear H
        have H := H1
        clear H1
        obtain rfl := Option.some.inj H
        go_enter Try.func73, Try.ntmps73
        go_wp2
        go_ret
        exact ⟨by first | rfl | (simp; done) | (simp [*]; done), by repeat (first | exact Drawn0.refl _ | apply Drawn0.step)⟩
    · rw [if_neg c4] at H
      have c4b0 : decide (a0 < 64) = false := decide_eq_false c4
      clear c4
      obtain rfl := Option.some.inj H
      go_enter Try.func73, Try.ntmps73
      go_wp2
      go_ret
      exact ⟨by first | rfl | (simp; done) | (simp [*]; done), by repeat (first | exact Drawn0.refl _ | apply Drawn0.step)⟩
  · rw [if_neg c3] at H
    have c3b0 : decide (0 ≤ a0) = false := decide_eq_false c3
    clear c3
    obtain rfl := Option.some.inj H
    go_enter Try.func73, Try.ntmps73
    go_wp2
    go_ret
    exact ⟨by first | rfl | (simp; done) | (simp [*]; done), by repeat (first | exact Drawn0.refl _ | apply Drawn0.step)⟩

end Go.Proofs.Ytpeljnnbknnbmaa.PD
