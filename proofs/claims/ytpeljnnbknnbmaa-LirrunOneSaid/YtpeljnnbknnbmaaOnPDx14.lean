import Derived.Test.YtpeljnnbknnbmaaOnPDx0
import Derived.Test.YtpeljnnbknnbmaaOnPDx13
-- Written by pr.py, a driver around the kit's printer, for this seat. Not trusted: Lean checks it.
namespace Go.Proofs.Ytpeljnnbknnbmaa.PD
open Go.RowKit Go.Proofs.YtpeljnnbknnbmaaW.PrintWords Go.Proofs.YtpeljnnbknnbmaaW.PrintLast Go.Proofs.YtpeljnnbknnbmaaW.PrintMore
attribute [local go_sem] max2_int min2_int max_two min_two max_three min_three max_four min_four   -- for this text's walks alone
set_option linter.unusedVariables false
set_option linter.unusedSimpArgs false

/-! ### pintleref15_Can: function 45 -/
def pintleref15_Can.j0 : Nat → Bool → Int → Int → Int → Int → Int → Option (Bool)
  | 0, _, _, _, _, _, _ => none
  | k + 1, x41, x201000, x201001, x201002, x201003, x201004 => if x41 = true then (some false) else (if x201000 = 23 then (if x201004 ≥ 1 then (some (decide (x201004 ≤ 100000))) else (some false)) else (if x201000 ≥ 14 then (if x201000 ≤ 16 then (if x201004 ≥ 0 then (some (decide (x201004 ≤ 31))) else (some false)) else (if x201000 = 1 then (some true) else (if x201000 = 13 then (some true) else (if x201000 ≥ 17 then (if x201000 ≤ 22 then (some true) else (some (x201004 == 0))) else (some (x201004 == 0)))))) else (if x201000 = 1 then (some true) else (if x201000 = 13 then (some true) else (if x201000 ≥ 17 then (if x201000 ≤ 22 then (some true) else (some (x201004 == 0))) else (some (x201004 == 0)))))))
def pintleref15_Can.f (k : Nat) (a0_0 : Int) (a0_1 : Int) (a0_2 : Int) (a0_3 : Int) (a0_4 : Int) : Option (Bool) := (pintleref15_Has.f a0_0).bind fun bt201 => (if a0_0 < 1 then (pintleref15_Can.j0 k true a0_0 a0_1 a0_2 a0_3 a0_4) else (if a0_0 > 24 then (pintleref15_Can.j0 k true a0_0 a0_1 a0_2 a0_3 a0_4) else ((pintleref15_fits.f a0_1 bt201.1).bind fun t204 => (if t204 = true then ((pintleref15_fits.f a0_2 bt201.2.1).bind fun t205 => (if t205 = true then ((pintleref15_fits.f a0_3 bt201.2.2).bind fun t206 => (pintleref15_Can.j0 k (!t206) a0_0 a0_1 a0_2 a0_3 a0_4)) else (pintleref15_Can.j0 k true a0_0 a0_1 a0_2 a0_3 a0_4))) else (pintleref15_Can.j0 k true a0_0 a0_1 a0_2 a0_3 a0_4)))))
set_option maxHeartbeats 8000000 in
set_option maxRecDepth 100000 in
theorem pintleref15_Can.calls (k : Nat) (a0_0 : Int) (a0_1 : Int) (a0_2 : Int) (a0_3 : Int) (a0_4 : Int) (r : Bool) (w : World) (h : pintleref15_Can.f k a0_0 a0_1 a0_2 a0_3 a0_4 = some r) :
    Calls Try.prog 45 #[.agg #[.int .i64 a0_0, .int .i64 a0_1, .int .i64 a0_2, .int .i64 a0_3, .int .i32 a0_4]] w fun e w' => e = .returned (.bool r) ∧ Below w.heap.size w w' := by
  have hu49 := Try.underlying49
  have HB := Aside0.mk (Below.refl w.heap.size w)
  have H : ((pintleref15_Has.f a0_0).bind fun bt201 => (if a0_0 < 1 then (pintleref15_Can.j0 k true a0_0 a0_1 a0_2 a0_3 a0_4) else (if a0_0 > 24 then (pintleref15_Can.j0 k true a0_0 a0_1 a0_2 a0_3 a0_4) else ((pintleref15_fits.f a0_1 bt201.1).bind fun t204 => (if t204 = true then ((pintleref15_fits.f a0_2 bt201.2.1).bind fun t205 => (if t205 = true then ((pintleref15_fits.f a0_3 bt201.2.2).bind fun t206 => (pintleref15_Can.j0 k (!t206) a0_0 a0_1 a0_2 a0_3 a0_4)) else (pintleref15_Can.j0 k true a0_0 a0_1 a0_2 a0_3 a0_4))) else (pintleref15_Can.j0 k true a0_0 a0_1 a0_2 a0_3 a0_4)))))) = some r := h
  clear h
  replace H := Option.bind_eq_some_iff.mp H
  obtain ⟨⟨t201, t202, t203⟩, A20, H⟩ := H
  replace H : (if a0_0 < 1 then (pintleref15_Can.j0 k true a0_0 a0_1 a0_2 a0_3 a0_4) else (if a0_0 > 24 then (pintleref15_Can.j0 k true a0_0 a0_1 a0_2 a0_3 a0_4) else ((pintleref15_fits.f a0_1 t201).bind fun t204 => (if t204 = true then ((pintleref15_fits.f a0_2 t202).bind fun t205 => (if t205 = true then ((pintleref15_fits.f a0_3 t203).bind fun t206 => (pintleref15_Can.j0 k (!t206) a0_0 a0_1 a0_2 a0_3 a0_4)) else (pintleref15_Can.j0 k true a0_0 a0_1 a0_2 a0_3 a0_4))) else (pintleref15_Can.j0 k true a0_0 a0_1 a0_2 a0_3 a0_4))))) = some r := H
  have A2 := Aside0.mk A20
  clear A20
  have HC3 := Aside0.mk H
  clear H
  go_enter Try.func45, Try.ntmps45
  go_upto_region 2 with (first | ((with_reducible refine gate_dst (N := 1) rfl ?_); refine box_event ?hg (N := 1) ?hd (cs := #[.int .i64 a0_0, .int .i64 a0_1, .int .i64 a0_2, .int .i64 a0_3, .int .i32 a0_4]) (t := 49) ?hr ?_; (case hd => rfl); (case hg => rfl); (case hr => first | (go_simp; done) | (go_simp; rfl)); intro gb200 hg w4 hbox hb; have n0_ := Aside0.mk (below_step (by repeat (first | (with_reducible first | exact HB.out | apply below_alloc | apply pw_below_drewN | apply below_drew1) | exact HB.out)) hb); have n1_ := Aside0.mk (hbox); have n2_ := Aside0.mk ((by rw [hg]; exact (below_size (by repeat (first | (with_reducible first | exact HB.out | apply below_alloc | apply pw_below_drewN | apply below_drew1) | exact HB.out))) : w.heap.size ≤ gb200)); have n3_ := Aside0.mk ((by rw [hg]; exact (below_size (by repeat (first | (with_reducible first | exact HB.out | apply below_alloc | apply pw_below_drewN | apply below_drew1) | exact HB.out))) : w.heap.size ≤ gb200)); clear HB; have HB := n0_; have BK200 := n1_; have GW200 := n2_; have GE200 := n3_; clear n0_ n1_ n2_ n3_; clear hb hbox hg; have hcz5_0 : w4.cell? ⟨gb200, 0, none⟩ = some (.int .i64 a0_0) := (blk_cell BK200.out 0).trans rfl; have hcz5_1 : w4.cell? ⟨gb200, 1, none⟩ = some (.int .i64 a0_1) := (blk_cell BK200.out 1).trans rfl; have hcz5_2 : w4.cell? ⟨gb200, 2, none⟩ = some (.int .i64 a0_2) := (blk_cell BK200.out 2).trans rfl; have hcz5_3 : w4.cell? ⟨gb200, 3, none⟩ = some (.int .i64 a0_3) := (blk_cell BK200.out 3).trans rfl; have hcz5_4 : w4.cell? ⟨gb200, 4, none⟩ = some (.int .i32 a0_4) := (blk_cell BK200.out 4).trans rfl; have hfz5_0 := blk_frozen BK200.out 0; have hfz5_1 := blk_frozen BK200.out 1; have hfz5_2 := blk_frozen BK200.out 2; have hfz5_3 := blk_frozen BK200.out 3; have hfz5_4 := blk_frozen BK200.out 4) | ((with_reducible refine gate_callee (f := 56) rfl ?_); refine goesL_ (some 9) rfl rfl Try.func56 (by kernel_rfl) rfl #[.int .i64 a0_0] rfl (by (try simp only [List.map_toArray, List.map_cons, List.map_nil]); first | done | rfl | (simp only [List.length_drop, List.length_take]; rfl)) ?_; (with_reducible refine (pintleref15_Has.calls a0_0 t201 t202 t203 _ A2.out).mono ?_); rintro e w' ⟨rfl, ⟨nd, rfl⟩⟩; refine ⟨_, rfl, ?_⟩))
  (try simp only [Act.put, List.setIfInBounds_toArray, List.set_cons_zero, List.set_cons_succ])
  go_cut [41] (fun v41 wc => ∃ (kq : Nat) (x41_2 : Bool), v41 = .bool x41_2 ∧ Aside0 (pintleref15_Can.j0 kq x41_2 a0_0 a0_1 a0_2 a0_3 a0_4 = some r) ∧ Aside0 (kq ≤ k) ∧ Aside0 (wc.heap[gb200]? = some (.cells #[.int .i64 a0_0, .int .i64 a0_1, .int .i64 a0_2, .int .i64 a0_3, .int .i32 a0_4] 49 (0, 0))) ∧ Aside0 (Below w.heap.size w wc))
  case first =>
    have H := HC3.out
    clear HC3
    by_cases c6 : a0_0 < 1
    · rw [if_pos c6] at H
      have c6b0 : decide (a0_0 < 1) = true := decide_eq_true c6
      clear c6
      (first | rw [c6b0] | (simp only [i64_w, i32_w]; rw [c6b0]) | skip)
      have H' := Aside0.mk H
      clear H
      have hcz7_0 : w4.cell? ⟨gb200, 0, none⟩ = some (.int .i64 a0_0) := (blk_cell BK200.out 0).trans rfl
      have hcz7_1 : w4.cell? ⟨gb200, 1, none⟩ = some (.int .i64 a0_1) := (blk_cell BK200.out 1).trans rfl
      have hcz7_2 : w4.cell? ⟨gb200, 2, none⟩ = some (.int .i64 a0_2) := (blk_cell BK200.out 2).trans rfl
      have hcz7_3 : w4.cell? ⟨gb200, 3, none⟩ = some (.int .i64 a0_3) := (blk_cell BK200.out 3).trans rfl
      have hcz7_4 : w4.cell? ⟨gb200, 4, none⟩ = some (.int .i32 a0_4) := (blk_cell BK200.out 4).trans rfl
      have hfz7_0 := blk_frozen BK200.out 0
      have hfz7_1 := blk_frozen BK200.out 1
      have hfz7_2 := blk_frozen BK200.out 2
      have hfz7_3 := blk_frozen BK200.out 3
      have hfz7_4 := blk_frozen BK200.out 4
      go_wp2
      go_meet
      case rel => exact ⟨_, (true), (by first | rfl | (simp; done) | (simp [*]; done) | (simp [*]; omega)), H', ⟨by first | omega | exact Nat.le_refl _⟩, ⟨by (with_reducible repeat (first | refine blk_drewN ?_ _ | refine blk_drew ?_ | refine blk_alloc ?_ _)); exact BK200.out⟩, ⟨by repeat (first | (with_reducible first | exact HB.out | apply below_alloc | apply pw_below_drewN | apply below_drew1 | refine below_set ?_ GE200.out) | exact HB.out)⟩⟩
    · rw [if_neg c6] at H
      have c6b0 : decide (a0_0 < 1) = false := decide_eq_false c6
      clear c6
      (first | rw [c6b0] | (simp only [i64_w, i32_w]; rw [c6b0]) | skip)
      by_cases c8 : a0_0 > 24
      · rw [if_pos c8] at H
        have c8b0 : decide (24 < a0_0) = true := decide_eq_true c8
        clear c8
        have H' := Aside0.mk H
        clear H
        have hcz9_0 : w4.cell? ⟨gb200, 0, none⟩ = some (.int .i64 a0_0) := (blk_cell BK200.out 0).trans rfl
        have hcz9_1 : w4.cell? ⟨gb200, 1, none⟩ = some (.int .i64 a0_1) := (blk_cell BK200.out 1).trans rfl
        have hcz9_2 : w4.cell? ⟨gb200, 2, none⟩ = some (.int .i64 a0_2) := (blk_cell BK200.out 2).trans rfl
        have hcz9_3 : w4.cell? ⟨gb200, 3, none⟩ = some (.int .i64 a0_3) := (blk_cell BK200.out 3).trans rfl
        have hcz9_4 : w4.cell? ⟨gb200, 4, none⟩ = some (.int .i32 a0_4) := (blk_cell BK200.out 4).trans rfl
        have hfz9_0 := blk_frozen BK200.out 0
        have hfz9_1 := blk_frozen BK200.out 1
        have hfz9_2 := blk_frozen BK200.out 2
        have hfz9_3 := blk_frozen BK200.out 3
        have hfz9_4 := blk_frozen BK200.out 4
        go_wp2
        go_meet
        case rel => exact ⟨_, (true), (by first | rfl | (simp; done) | (simp [*]; done) | (simp [*]; omega)), H', ⟨by first | omega | exact Nat.le_refl _⟩, ⟨by (with_reducible repeat (first | refine blk_drewN ?_ _ | refine blk_drew ?_ | refine blk_alloc ?_ _)); exact BK200.out⟩, ⟨by repeat (first | (with_reducible first | exact HB.out | apply below_alloc | apply pw_below_drewN | apply below_drew1 | refine below_set ?_ GE200.out) | exact HB.out)⟩⟩
      · rw [if_neg c8] at H
        have c8b0 : decide (24 < a0_0) = false := decide_eq_false c8
        clear c8
        replace H := Option.bind_eq_some_iff.mp H
        obtain ⟨t204, A100, H⟩ := H
        replace H : (if t204 = true then ((pintleref15_fits.f a0_2 t202).bind fun t205 => (if t205 = true then ((pintleref15_fits.f a0_3 t203).bind fun t206 => (pintleref15_Can.j0 k (!t206) a0_0 a0_1 a0_2 a0_3 a0_4)) else (pintleref15_Can.j0 k true a0_0 a0_1 a0_2 a0_3 a0_4))) else (pintleref15_Can.j0 k true a0_0 a0_1 a0_2 a0_3 a0_4)) = some r := H
        have A10 := Aside0.mk A100
        clear A100
        by_cases c11 : t204 = true
        · subst c11
          have H1 : ((pintleref15_fits.f a0_2 t202).bind fun t205 => (if t205 = true then ((pintleref15_fits.f a0_3 t203).bind fun t206 => (pintleref15_Can.j0 k (!t206) a0_0 a0_1 a0_2 a0_3 a0_4)) else (pintleref15_Can.j0 k true a0_0 a0_1 a0_2 a0_3 a0_4))) = some r := by rw [if_pos rfl] at H; exact H
          clear H
          have H := H1
          clear H1
          replace H := Option.bind_eq_some_iff.mp H
          obtain ⟨t205, A120, H⟩ := H
          replace H : (if t205 = true then ((pintleref15_fits.f a0_3 t203).bind fun t206 => (pintleref15_Can.j0 k (!t206) a0_0 a0_1 a0_2 a0_3 a0_4)) else (pintleref15_Can.j0 k true a0_0 a0_1 a0_2 a0_3 a0_4)) = some r := H
          have A12 := Aside0.mk A120
          clear A120
          by_cases c13 : t205 = true
          · subst c13
            have H1 : ((pintleref15_fits.f a0_3 t203).bind fun t206 => (pintleref15_Can.j0 k (!t206) a0_0 a0_1 a0_2 a0_3 a0_4)) = some r := by rw [if_pos rfl] at H; exact H
            clear H
            have H := H1
            clear H1
            replace H := Option.bind_eq_some_iff.mp H
            obtain ⟨t206, A140, H⟩ := H
            replace H : (pintleref15_Can.j0 k (!t206) a0_0 a0_1 a0_2 a0_3 a0_4) = some r := H
            have A14 := Aside0.mk A140
            clear A140
            have H' := Aside0.mk H
            clear H
            have hcz15_0 : w4.cell? ⟨gb200, 0, none⟩ = some (.int .i64 a0_0) := (blk_cell BK200.out 0).trans rfl
            have hcz15_1 : w4.cell? ⟨gb200, 1, none⟩ = some (.int .i64 a0_1) := (blk_cell BK200.out 1).trans rfl
            have hcz15_2 : w4.cell? ⟨gb200, 2, none⟩ = some (.int .i64 a0_2) := (blk_cell BK200.out 2).trans rfl
            have hcz15_3 : w4.cell? ⟨gb200, 3, none⟩ = some (.int .i64 a0_3) := (blk_cell BK200.out 3).trans rfl
            have hcz15_4 : w4.cell? ⟨gb200, 4, none⟩ = some (.int .i32 a0_4) := (blk_cell BK200.out 4).trans rfl
            have hfz15_0 := blk_frozen BK200.out 0
            have hfz15_1 := blk_frozen BK200.out 1
            have hfz15_2 := blk_frozen BK200.out 2
            have hfz15_3 := blk_frozen BK200.out 3
            have hfz15_4 := blk_frozen BK200.out 4
            go_wp2_with (first | (go_at_call 73; (with_reducible refine (pintleref15_fits.calls a0_1 t201 true _ A10.out).mono ?_); rintro e w' ⟨rfl, ⟨nd, rfl⟩⟩) | (go_at_call 73; (with_reducible refine (pintleref15_fits.calls a0_2 t202 true _ A12.out).mono ?_); rintro e w' ⟨rfl, ⟨nd, rfl⟩⟩) | (go_at_call 73; (with_reducible refine (pintleref15_fits.calls a0_3 t203 t206 _ A14.out).mono ?_); rintro e w' ⟨rfl, ⟨nd, rfl⟩⟩))
            go_meet
            case rel => exact ⟨_, (!t206), (by first | rfl | (simp; done) | (simp [*]; done) | (simp [*]; omega)), H', ⟨by first | omega | exact Nat.le_refl _⟩, ⟨by (with_reducible repeat (first | refine blk_drewN ?_ _ | refine blk_drew ?_ | refine blk_alloc ?_ _)); exact BK200.out⟩, ⟨by repeat (first | (with_reducible first | exact HB.out | apply below_alloc | apply pw_below_drewN | apply below_drew1 | refine below_set ?_ GE200.out) | exact HB.out)⟩⟩
          · replace c13 := Bool.eq_false_iff.mpr c13
            subst c13
            have H1 : (pintleref15_Can.j0 k true a0_0 a0_1 a0_2 a0_3 a0_4) = some r := by rw [if_neg (show ¬ (false = true) by decide)] at H; exact H
            clear H
            have H := H1
            clear H1
            have H' := Aside0.mk H
            clear H
            have hcz16_0 : w4.cell? ⟨gb200, 0, none⟩ = some (.int .i64 a0_0) := (blk_cell BK200.out 0).trans rfl
            have hcz16_1 : w4.cell? ⟨gb200, 1, none⟩ = some (.int .i64 a0_1) := (blk_cell BK200.out 1).trans rfl
            have hcz16_2 : w4.cell? ⟨gb200, 2, none⟩ = some (.int .i64 a0_2) := (blk_cell BK200.out 2).trans rfl
            have hcz16_3 : w4.cell? ⟨gb200, 3, none⟩ = some (.int .i64 a0_3) := (blk_cell BK200.out 3).trans rfl
            have hcz16_4 : w4.cell? ⟨gb200, 4, none⟩ = some (.int .i32 a0_4) := (blk_cell BK200.out 4).trans rfl
            have hfz16_0 := blk_frozen BK200.out 0
            have hfz16_1 := blk_frozen BK200.out 1
            have hfz16_2 := blk_frozen BK200.out 2
            have hfz16_3 := blk_frozen BK200.out 3
            have hfz16_4 := blk_frozen BK200.out 4
            go_wp2_with (first | (go_at_call 73; (with_reducible refine (pintleref15_fits.calls a0_1 t201 true _ A10.out).mono ?_); rintro e w' ⟨rfl, ⟨nd, rfl⟩⟩) | (go_at_call 73; (with_reducible refine (pintleref15_fits.calls a0_2 t202 false _ A12.out).mono ?_); rintro e w' ⟨rfl, ⟨nd, rfl⟩⟩))
            go_meet
            case rel => exact ⟨_, (true), (by first | rfl | (simp; done) | (simp [*]; done) | (simp [*]; omega)), H', ⟨by first | omega | exact Nat.le_refl _⟩, ⟨by (with_reducible repeat (first | refine blk_drewN ?_ _ | refine blk_drew ?_ | refine blk_alloc ?_ _)); exact BK200.out⟩, ⟨by repeat (first | (with_reducible first | exact HB.out | apply below_alloc | apply pw_below_drewN | apply below_drew1 | refine below_set ?_ GE200.out) | exact HB.out)⟩⟩
        · replace c11 := Bool.eq_false_iff.mpr c11
          subst c11
          have H1 : (pintleref15_Can.j0 k true a0_0 a0_1 a0_2 a0_3 a0_4) = some r := by rw [if_neg (show ¬ (false = true) by decide)] at H; exact H
          clear H
          have H := H1
          clear H1
          have H' := Aside0.mk H
          clear H
          have hcz17_0 : w4.cell? ⟨gb200, 0, none⟩ = some (.int .i64 a0_0) := (blk_cell BK200.out 0).trans rfl
          have hcz17_1 : w4.cell? ⟨gb200, 1, none⟩ = some (.int .i64 a0_1) := (blk_cell BK200.out 1).trans rfl
          have hcz17_2 : w4.cell? ⟨gb200, 2, none⟩ = some (.int .i64 a0_2) := (blk_cell BK200.out 2).trans rfl
          have hcz17_3 : w4.cell? ⟨gb200, 3, none⟩ = some (.int .i64 a0_3) := (blk_cell BK200.out 3).trans rfl
          have hcz17_4 : w4.cell? ⟨gb200, 4, none⟩ = some (.int .i32 a0_4) := (blk_cell BK200.out 4).trans rfl
          have hfz17_0 := blk_frozen BK200.out 0
          have hfz17_1 := blk_frozen BK200.out 1
          have hfz17_2 := blk_frozen BK200.out 2
          have hfz17_3 := blk_frozen BK200.out 3
          have hfz17_4 := blk_frozen BK200.out 4
          go_wp2_with (first | (go_at_call 73; (with_reducible refine (pintleref15_fits.calls a0_1 t201 false _ A10.out).mono ?_); rintro e w' ⟨rfl, ⟨nd, rfl⟩⟩))
          go_meet
          case rel => exact ⟨_, (true), (by first | rfl | (simp; done) | (simp [*]; done) | (simp [*]; omega)), H', ⟨by first | omega | exact Nat.le_refl _⟩, ⟨by (with_reducible repeat (first | refine blk_drewN ?_ _ | refine blk_drew ?_ | refine blk_alloc ?_ _)); exact BK200.out⟩, ⟨by repeat (first | (with_reducible first | exact HB.out | apply below_alloc | apply pw_below_drewN | apply below_drew1 | refine below_set ?_ GE200.out) | exact HB.out)⟩⟩
  case rest =>
    clear HC3
    try clear c1
    try clear p2
    try clear c4
    try clear c5
    try clear c6
    try clear c6b0
    try clear c8
    try clear c8b0
    try clear c11
    try clear c13
    try clear hcz15_0
    try clear hcz15_1
    try clear hcz15_2
    try clear hcz15_3
    try clear hcz15_4
    try clear hcz16_0
    try clear hcz16_1
    try clear hcz16_2
    try clear hcz16_3
    try clear hcz16_4
    try clear hcz17_0
    try clear hcz17_1
    try clear hcz17_2
    try clear hcz17_3
    try clear hcz17_4
    try clear hcz5_0
    try clear hcz5_1
    try clear hcz5_2
    try clear hcz5_3
    try clear hcz5_4
    try clear hcz7_0
    try clear hcz7_1
    try clear hcz7_2
    try clear hcz7_3
    try clear hcz7_4
    try clear hcz9_0
    try clear hcz9_1
    try clear hcz9_2
    try clear hcz9_3
    try clear hcz9_4
    try clear hfz15_0
    try clear hfz15_1
    try clear hfz15_2
    try clear hfz15_3
    try clear hfz15_4
    try clear hfz16_0
    try clear hfz16_1
    try clear hfz16_2
    try clear hfz16_3
    try clear hfz16_4
    try clear hfz17_0
    try clear hfz17_1
    try clear hfz17_2
    try clear hfz17_3
    try clear hfz17_4
    try clear hfz5_0
    try clear hfz5_1
    try clear hfz5_2
    try clear hfz5_3
    try clear hfz5_4
    try clear hfz7_0
    try clear hfz7_1
    try clear hfz7_2
    try clear hfz7_3
    try clear hfz7_4
    try clear hfz9_0
    try clear hfz9_1
    try clear hfz9_2
    try clear hfz9_3
    try clear hfz9_4
    obtain ⟨kq, x41_2, rfl, HA, HJ2, BK200, HB⟩ := hcut
    cases kq with
    | zero => exact absurd HA.out (by simp [pintleref15_Can.j0])
    | succ kj2 =>
      have H := HA.out
      clear HA
      simp only [pintleref15_Can.j0] at H
      by_cases c18 : x41_2 = true
      · subst c18
        have H1 : (some false) = some r := by rw [if_pos rfl] at H; exact H
        clear H
        have H := H1
        clear H1
        obtain rfl := Option.some.inj H
        go_wp2
        go_ret
        exact ⟨by first | rfl | (simp [errW_none, errW_some] <;> rfl) | (simp [*, errW_none, errW_some] <;> rfl), by repeat (first | (with_reducible first | exact HB.out | apply below_alloc | apply pw_below_drewN | apply below_drew1 | refine below_set ?_ GE200.out) | exact HB.out)⟩
      · replace c18 := Bool.eq_false_iff.mpr c18
        subst c18
        have H1 : (if a0_0 = 23 then (if a0_4 ≥ 1 then (some (decide (a0_4 ≤ 100000))) else (some false)) else (if a0_0 ≥ 14 then (if a0_0 ≤ 16 then (if a0_4 ≥ 0 then (some (decide (a0_4 ≤ 31))) else (some false)) else (if a0_0 = 1 then (some true) else (if a0_0 = 13 then (some true) else (if a0_0 ≥ 17 then (if a0_0 ≤ 22 then (some true) else (some (a0_4 == 0))) else (some (a0_4 == 0)))))) else (if a0_0 = 1 then (some true) else (if a0_0 = 13 then (some true) else (if a0_0 ≥ 17 then (if a0_0 ≤ 22 then (some true) else (some (a0_4 == 0))) else (some (a0_4 == 0))))))) = some r := by rw [if_neg (show ¬ (false = true) by decide)] at H; exact H
        clear H
        have H := H1
        clear H1
        by_cases c19 : a0_0 = 23
        · rw [if_pos c19] at H
          have c19b0 : (a0_0 == 23) = true := beq_iff_eq.mpr c19
          have c19b1 : (a0_0 != 23) = false := bne_eq_false_iff_eq.mpr c19
          clear c19
          by_cases c20 : a0_4 ≥ 1
          · rw [if_pos c20] at H
            have c20b0 : decide (1 ≤ a0_4) = true := decide_eq_true c20
            clear c20
            obtain rfl := Option.some.inj H
            have hcz21_0 : wc.cell? ⟨gb200, 0, none⟩ = some (.int .i64 a0_0) := (blk_cell BK200.out 0).trans rfl
            have hcz21_1 : wc.cell? ⟨gb200, 1, none⟩ = some (.int .i64 a0_1) := (blk_cell BK200.out 1).trans rfl
            have hcz21_2 : wc.cell? ⟨gb200, 2, none⟩ = some (.int .i64 a0_2) := (blk_cell BK200.out 2).trans rfl
            have hcz21_3 : wc.cell? ⟨gb200, 3, none⟩ = some (.int .i64 a0_3) := (blk_cell BK200.out 3).trans rfl
            have hcz21_4 : wc.cell? ⟨gb200, 4, none⟩ = some (.int .i32 a0_4) := (blk_cell BK200.out 4).trans rfl
            have hfz21_0 := blk_frozen BK200.out 0
            have hfz21_1 := blk_frozen BK200.out 1
            have hfz21_2 := blk_frozen BK200.out 2
            have hfz21_3 := blk_frozen BK200.out 3
            have hfz21_4 := blk_frozen BK200.out 4
            go_wp2
            go_ret
            exact ⟨by first | rfl | (simp [errW_none, errW_some] <;> rfl) | (simp [*, errW_none, errW_some] <;> rfl), by repeat (first | (with_reducible first | exact HB.out | apply below_alloc | apply pw_below_drewN | apply below_drew1 | refine below_set ?_ GE200.out) | exact HB.out)⟩
          · rw [if_neg c20] at H
            have c20b0 : decide (1 ≤ a0_4) = false := decide_eq_false c20
            clear c20
            obtain rfl := Option.some.inj H
            have hcz22_0 : wc.cell? ⟨gb200, 0, none⟩ = some (.int .i64 a0_0) := (blk_cell BK200.out 0).trans rfl
            have hcz22_1 : wc.cell? ⟨gb200, 1, none⟩ = some (.int .i64 a0_1) := (blk_cell BK200.out 1).trans rfl
            have hcz22_2 : wc.cell? ⟨gb200, 2, none⟩ = some (.int .i64 a0_2) := (blk_cell BK200.out 2).trans rfl
            have hcz22_3 : wc.cell? ⟨gb200, 3, none⟩ = some (.int .i64 a0_3) := (blk_cell BK200.out 3).trans rfl
            have hcz22_4 : wc.cell? ⟨gb200, 4, none⟩ = some (.int .i32 a0_4) := (blk_cell BK200.out 4).trans rfl
            have hfz22_0 := blk_frozen BK200.out 0
            have hfz22_1 := blk_frozen BK200.out 1
            have hfz22_2 := blk_frozen BK200.out 2
            have hfz22_3 := blk_frozen BK200.out 3
            have hfz22_4 := blk_frozen BK200.out 4
            go_wp2
            go_ret
            exact ⟨by first | rfl | (simp [errW_none, errW_some] <;> rfl) | (simp [*, errW_none, errW_some] <;> rfl), by repeat (first | (with_reducible first | exact HB.out | apply below_alloc | apply pw_below_drewN | apply below_drew1 | refine below_set ?_ GE200.out) | exact HB.out)⟩
        · rw [if_neg c19] at H
          have c19b0 : (a0_0 == 23) = false := beq_eq_false_iff_ne.mpr c19
          have c19b1 : (a0_0 != 23) = true := bne_iff_ne.mpr c19
          by_cases c23 : a0_0 ≥ 14
          · rw [if_pos c23] at H
            have c23b0 : decide (14 ≤ a0_0) = true := decide_eq_true c23
            clear c23
            by_cases c24 : a0_0 ≤ 16
            · rw [if_pos c24] at H
              have c24b0 : decide (a0_0 ≤ 16) = true := decide_eq_true c24
              clear c24
              by_cases c25 : a0_4 ≥ 0
              · rw [if_pos c25] at H
                have c25b0 : decide (0 ≤ a0_4) = true := decide_eq_true c25
                clear c25
                obtain rfl := Option.some.inj H
                have hcz26_0 : wc.cell? ⟨gb200, 0, none⟩ = some (.int .i64 a0_0) := (blk_cell BK200.out 0).trans rfl
                have hcz26_1 : wc.cell? ⟨gb200, 1, none⟩ = some (.int .i64 a0_1) := (blk_cell BK200.out 1).trans rfl
                have hcz26_2 : wc.cell? ⟨gb200, 2, none⟩ = some (.int .i64 a0_2) := (blk_cell BK200.out 2).trans rfl
                have hcz26_3 : wc.cell? ⟨gb200, 3, none⟩ = some (.int .i64 a0_3) := (blk_cell BK200.out 3).trans rfl
                have hcz26_4 : wc.cell? ⟨gb200, 4, none⟩ = some (.int .i32 a0_4) := (blk_cell BK200.out 4).trans rfl
                have hfz26_0 := blk_frozen BK200.out 0
                have hfz26_1 := blk_frozen BK200.out 1
                have hfz26_2 := blk_frozen BK200.out 2
                have hfz26_3 := blk_frozen BK200.out 3
                have hfz26_4 := blk_frozen BK200.out 4
                go_wp2
                go_ret
                exact ⟨by first | rfl | (simp [errW_none, errW_some] <;> rfl) | (simp [*, errW_none, errW_some] <;> rfl), by repeat (first | (with_reducible first | exact HB.out | apply below_alloc | apply pw_below_drewN | apply below_drew1 | refine below_set ?_ GE200.out) | exact HB.out)⟩
              · rw [if_neg c25] at H
                have c25b0 : decide (0 ≤ a0_4) = false := decide_eq_false c25
                clear c25
                obtain rfl := Option.some.inj H
                have hcz27_0 : wc.cell? ⟨gb200, 0, none⟩ = some (.int .i64 a0_0) := (blk_cell BK200.out 0).trans rfl
                have hcz27_1 : wc.cell? ⟨gb200, 1, none⟩ = some (.int .i64 a0_1) := (blk_cell BK200.out 1).trans rfl
                have hcz27_2 : wc.cell? ⟨gb200, 2, none⟩ = some (.int .i64 a0_2) := (blk_cell BK200.out 2).trans rfl
                have hcz27_3 : wc.cell? ⟨gb200, 3, none⟩ = some (.int .i64 a0_3) := (blk_cell BK200.out 3).trans rfl
                have hcz27_4 : wc.cell? ⟨gb200, 4, none⟩ = some (.int .i32 a0_4) := (blk_cell BK200.out 4).trans rfl
                have hfz27_0 := blk_frozen BK200.out 0
                have hfz27_1 := blk_frozen BK200.out 1
                have hfz27_2 := blk_frozen BK200.out 2
                have hfz27_3 := blk_frozen BK200.out 3
                have hfz27_4 := blk_frozen BK200.out 4
                go_wp2
                go_ret
                exact ⟨by first | rfl | (simp [errW_none, errW_some] <;> rfl) | (simp [*, errW_none, errW_some] <;> rfl), by repeat (first | (with_reducible first | exact HB.out | apply below_alloc | apply pw_below_drewN | apply below_drew1 | refine below_set ?_ GE200.out) | exact HB.out)⟩
            · rw [if_neg c24] at H
              have c24b0 : decide (a0_0 ≤ 16) = false := decide_eq_false c24
              clear c24
              by_cases c28 : a0_0 = 1
              · rw [if_pos c28] at H
                have c28b0 : (a0_0 == 1) = true := beq_iff_eq.mpr c28
                have c28b1 : (a0_0 != 1) = false := bne_eq_false_iff_eq.mpr c28
                clear c28
                obtain rfl := Option.some.inj H
                have hcz29_0 : wc.cell? ⟨gb200, 0, none⟩ = some (.int .i64 a0_0) := (blk_cell BK200.out 0).trans rfl
                have hcz29_1 : wc.cell? ⟨gb200, 1, none⟩ = some (.int .i64 a0_1) := (blk_cell BK200.out 1).trans rfl
                have hcz29_2 : wc.cell? ⟨gb200, 2, none⟩ = some (.int .i64 a0_2) := (blk_cell BK200.out 2).trans rfl
                have hcz29_3 : wc.cell? ⟨gb200, 3, none⟩ = some (.int .i64 a0_3) := (blk_cell BK200.out 3).trans rfl
                have hcz29_4 : wc.cell? ⟨gb200, 4, none⟩ = some (.int .i32 a0_4) := (blk_cell BK200.out 4).trans rfl
                have hfz29_0 := blk_frozen BK200.out 0
                have hfz29_1 := blk_frozen BK200.out 1
                have hfz29_2 := blk_frozen BK200.out 2
                have hfz29_3 := blk_frozen BK200.out 3
                have hfz29_4 := blk_frozen BK200.out 4
                go_wp2
                go_ret
                exact ⟨by first | rfl | (simp [errW_none, errW_some] <;> rfl) | (simp [*, errW_none, errW_some] <;> rfl), by repeat (first | (with_reducible first | exact HB.out | apply below_alloc | apply pw_below_drewN | apply below_drew1 | refine below_set ?_ GE200.out) | exact HB.out)⟩
              · rw [if_neg c28] at H
                have c28b0 : (a0_0 == 1) = false := beq_eq_false_iff_ne.mpr c28
                have c28b1 : (a0_0 != 1) = true := bne_iff_ne.mpr c28
                by_cases c30 : a0_0 = 13
                · rw [if_pos c30] at H
                  have c30b0 : (a0_0 == 13) = true := beq_iff_eq.mpr c30
                  have c30b1 : (a0_0 != 13) = false := bne_eq_false_iff_eq.mpr c30
                  clear c30
                  obtain rfl := Option.some.inj H
                  have hcz31_0 : wc.cell? ⟨gb200, 0, none⟩ = some (.int .i64 a0_0) := (blk_cell BK200.out 0).trans rfl
                  have hcz31_1 : wc.cell? ⟨gb200, 1, none⟩ = some (.int .i64 a0_1) := (blk_cell BK200.out 1).trans rfl
                  have hcz31_2 : wc.cell? ⟨gb200, 2, none⟩ = some (.int .i64 a0_2) := (blk_cell BK200.out 2).trans rfl
                  have hcz31_3 : wc.cell? ⟨gb200, 3, none⟩ = some (.int .i64 a0_3) := (blk_cell BK200.out 3).trans rfl
                  have hcz31_4 : wc.cell? ⟨gb200, 4, none⟩ = some (.int .i32 a0_4) := (blk_cell BK200.out 4).trans rfl
                  have hfz31_0 := blk_frozen BK200.out 0
                  have hfz31_1 := blk_frozen BK200.out 1
                  have hfz31_2 := blk_frozen BK200.out 2
                  have hfz31_3 := blk_frozen BK200.out 3
                  have hfz31_4 := blk_frozen BK200.out 4
                  go_wp2
                  go_ret
                  exact ⟨by first | rfl | (simp [errW_none, errW_some] <;> rfl) | (simp [*, errW_none, errW_some] <;> rfl), by repeat (first | (with_reducible first | exact HB.out | apply below_alloc | apply pw_below_drewN | apply below_drew1 | refine below_set ?_ GE200.out) | exact HB.out)⟩
                · rw [if_neg c30] at H
                  have c30b0 : (a0_0 == 13) = false := beq_eq_false_iff_ne.mpr c30
                  have c30b1 : (a0_0 != 13) = true := bne_iff_ne.mpr c30
                  by_cases c32 : a0_0 ≥ 17
                  · rw [if_pos c32] at H
                    have c32b0 : decide (17 ≤ a0_0) = true := decide_eq_true c32
                    clear c32
                    by_cases c33 : a0_0 ≤ 22
                    · rw [if_pos c33] at H
                      have c33b0 : decide (a0_0 ≤ 22) = true := decide_eq_true c33
                      clear c33
                      obtain rfl := Option.some.inj H
                      have hcz34_0 : wc.cell? ⟨gb200, 0, none⟩ = some (.int .i64 a0_0) := (blk_cell BK200.out 0).trans rfl
                      have hcz34_1 : wc.cell? ⟨gb200, 1, none⟩ = some (.int .i64 a0_1) := (blk_cell BK200.out 1).trans rfl
                      have hcz34_2 : wc.cell? ⟨gb200, 2, none⟩ = some (.int .i64 a0_2) := (blk_cell BK200.out 2).trans rfl
                      have hcz34_3 : wc.cell? ⟨gb200, 3, none⟩ = some (.int .i64 a0_3) := (blk_cell BK200.out 3).trans rfl
                      have hcz34_4 : wc.cell? ⟨gb200, 4, none⟩ = some (.int .i32 a0_4) := (blk_cell BK200.out 4).trans rfl
                      have hfz34_0 := blk_frozen BK200.out 0
                      have hfz34_1 := blk_frozen BK200.out 1
                      have hfz34_2 := blk_frozen BK200.out 2
                      have hfz34_3 := blk_frozen BK200.out 3
                      have hfz34_4 := blk_frozen BK200.out 4
                      go_wp2
                      go_ret
                      exact ⟨by first | rfl | (simp [errW_none, errW_some] <;> rfl) | (simp [*, errW_none, errW_some] <;> rfl), by repeat (first | (with_reducible first | exact HB.out | apply below_alloc | apply pw_below_drewN | apply below_drew1 | refine below_set ?_ GE200.out) | exact HB.out)⟩
                    · rw [if_neg c33] at H
                      have c33b0 : decide (a0_0 ≤ 22) = false := decide_eq_false c33
                      clear c33
                      obtain rfl := Option.some.inj H
                      have hcz35_0 : wc.cell? ⟨gb200, 0, none⟩ = some (.int .i64 a0_0) := (blk_cell BK200.out 0).trans rfl
                      have hcz35_1 : wc.cell? ⟨gb200, 1, none⟩ = some (.int .i64 a0_1) := (blk_cell BK200.out 1).trans rfl
                      have hcz35_2 : wc.cell? ⟨gb200, 2, none⟩ = some (.int .i64 a0_2) := (blk_cell BK200.out 2).trans rfl
                      have hcz35_3 : wc.cell? ⟨gb200, 3, none⟩ = some (.int .i64 a0_3) := (blk_cell BK200.out 3).trans rfl
                      have hcz35_4 : wc.cell? ⟨gb200, 4, none⟩ = some (.int .i32 a0_4) := (blk_cell BK200.out 4).trans rfl
                      have hfz35_0 := blk_frozen BK200.out 0
                      have hfz35_1 := blk_frozen BK200.out 1
                      have hfz35_2 := blk_frozen BK200.out 2
                      have hfz35_3 := blk_frozen BK200.out 3
                      have hfz35_4 := blk_frozen BK200.out 4
                      go_wp2
                      go_ret
                      exact ⟨by first | rfl | (simp [errW_none, errW_some] <;> rfl) | (simp [*, errW_none, errW_some] <;> rfl), by repeat (first | (with_reducible first | exact HB.out | apply below_alloc | apply pw_below_drewN | apply below_drew1 | refine below_set ?_ GE200.out) | exact HB.out)⟩
                  · rw [if_neg c32] at H
                    have c32b0 : decide (17 ≤ a0_0) = false := decide_eq_false c32
                    clear c32
                    obtain rfl := Option.some.inj H
                    have hcz36_0 : wc.cell? ⟨gb200, 0, none⟩ = some (.int .i64 a0_0) := (blk_cell BK200.out 0).trans rfl
                    have hcz36_1 : wc.cell? ⟨gb200, 1, none⟩ = some (.int .i64 a0_1) := (blk_cell BK200.out 1).trans rfl
                    have hcz36_2 : wc.cell? ⟨gb200, 2, none⟩ = some (.int .i64 a0_2) := (blk_cell BK200.out 2).trans rfl
                    have hcz36_3 : wc.cell? ⟨gb200, 3, none⟩ = some (.int .i64 a0_3) := (blk_cell BK200.out 3).trans rfl
                    have hcz36_4 : wc.cell? ⟨gb200, 4, none⟩ = some (.int .i32 a0_4) := (blk_cell BK200.out 4).trans rfl
                    have hfz36_0 := blk_frozen BK200.out 0
                    have hfz36_1 := blk_frozen BK200.out 1
                    have hfz36_2 := blk_frozen BK200.out 2
                    have hfz36_3 := blk_frozen BK200.out 3
                    have hfz36_4 := blk_frozen BK200.out 4
                    go_wp2
                    go_ret
                    exact ⟨by first | rfl | (simp [errW_none, errW_some] <;> rfl) | (simp [*, errW_none, errW_some] <;> rfl), by repeat (first | (with_reducible first | exact HB.out | apply below_alloc | apply pw_below_drewN | apply below_drew1 | refine below_set ?_ GE200.out) | exact HB.out)⟩
          · rw [if_neg c23] at H
            have c23b0 : decide (14 ≤ a0_0) = false := decide_eq_false c23
            clear c23
            by_cases c37 : a0_0 = 1
            · rw [if_pos c37] at H
              have c37b0 : (a0_0 == 1) = true := beq_iff_eq.mpr c37
              have c37b1 : (a0_0 != 1) = false := bne_eq_false_iff_eq.mpr c37
              clear c37
              obtain rfl := Option.some.inj H
              have hcz38_0 : wc.cell? ⟨gb200, 0, none⟩ = some (.int .i64 a0_0) := (blk_cell BK200.out 0).trans rfl
              have hcz38_1 : wc.cell? ⟨gb200, 1, none⟩ = some (.int .i64 a0_1) := (blk_cell BK200.out 1).trans rfl
              have hcz38_2 : wc.cell? ⟨gb200, 2, none⟩ = some (.int .i64 a0_2) := (blk_cell BK200.out 2).trans rfl
              have hcz38_3 : wc.cell? ⟨gb200, 3, none⟩ = some (.int .i64 a0_3) := (blk_cell BK200.out 3).trans rfl
              have hcz38_4 : wc.cell? ⟨gb200, 4, none⟩ = some (.int .i32 a0_4) := (blk_cell BK200.out 4).trans rfl
              have hfz38_0 := blk_frozen BK200.out 0
              have hfz38_1 := blk_frozen BK200.out 1
              have hfz38_2 := blk_frozen BK200.out 2
              have hfz38_3 := blk_frozen BK200.out 3
              have hfz38_4 := blk_frozen BK200.out 4
              go_wp2
              go_ret
              exact ⟨by first | rfl | (simp [errW_none, errW_some] <;> rfl) | (simp [*, errW_none, errW_some] <;> rfl), by repeat (first | (with_reducible first | exact HB.out | apply below_alloc | apply pw_below_drewN | apply below_drew1 | refine below_set ?_ GE200.out) | exact HB.out)⟩
            · rw [if_neg c37] at H
              have c37b0 : (a0_0 == 1) = false := beq_eq_false_iff_ne.mpr c37
              have c37b1 : (a0_0 != 1) = true := bne_iff_ne.mpr c37
              by_cases c39 : a0_0 = 13
              · rw [if_pos c39] at H
                have c39b0 : (a0_0 == 13) = true := beq_iff_eq.mpr c39
                have c39b1 : (a0_0 != 13) = false := bne_eq_false_iff_eq.mpr c39
                clear c39
                obtain rfl := Option.some.inj H
                have hcz40_0 : wc.cell? ⟨gb200, 0, none⟩ = some (.int .i64 a0_0) := (blk_cell BK200.out 0).trans rfl
                have hcz40_1 : wc.cell? ⟨gb200, 1, none⟩ = some (.int .i64 a0_1) := (blk_cell BK200.out 1).trans rfl
                have hcz40_2 : wc.cell? ⟨gb200, 2, none⟩ = some (.int .i64 a0_2) := (blk_cell BK200.out 2).trans rfl
                have hcz40_3 : wc.cell? ⟨gb200, 3, none⟩ = some (.int .i64 a0_3) := (blk_cell BK200.out 3).trans rfl
                have hcz40_4 : wc.cell? ⟨gb200, 4, none⟩ = some (.int .i32 a0_4) := (blk_cell BK200.out 4).trans rfl
                have hfz40_0 := blk_frozen BK200.out 0
                have hfz40_1 := blk_frozen BK200.out 1
                have hfz40_2 := blk_frozen BK200.out 2
                have hfz40_3 := blk_frozen BK200.out 3
                have hfz40_4 := blk_frozen BK200.out 4
                go_wp2
                go_ret
                exact ⟨by first | rfl | (simp [errW_none, errW_some] <;> rfl) | (simp [*, errW_none, errW_some] <;> rfl), by repeat (first | (with_reducible first | exact HB.out | apply below_alloc | apply pw_below_drewN | apply below_drew1 | refine below_set ?_ GE200.out) | exact HB.out)⟩
              · rw [if_neg c39] at H
                have c39b0 : (a0_0 == 13) = false := beq_eq_false_iff_ne.mpr c39
                have c39b1 : (a0_0 != 13) = true := bne_iff_ne.mpr c39
                by_cases c41 : a0_0 ≥ 17
                · rw [if_pos c41] at H
                  have c41b0 : decide (17 ≤ a0_0) = true := decide_eq_true c41
                  clear c41
                  by_cases c42 : a0_0 ≤ 22
                  · rw [if_pos c42] at H
                    have c42b0 : decide (a0_0 ≤ 22) = true := decide_eq_true c42
                    clear c42
                    obtain rfl := Option.some.inj H
                    have hcz43_0 : wc.cell? ⟨gb200, 0, none⟩ = some (.int .i64 a0_0) := (blk_cell BK200.out 0).trans rfl
                    have hcz43_1 : wc.cell? ⟨gb200, 1, none⟩ = some (.int .i64 a0_1) := (blk_cell BK200.out 1).trans rfl
                    have hcz43_2 : wc.cell? ⟨gb200, 2, none⟩ = some (.int .i64 a0_2) := (blk_cell BK200.out 2).trans rfl
                    have hcz43_3 : wc.cell? ⟨gb200, 3, none⟩ = some (.int .i64 a0_3) := (blk_cell BK200.out 3).trans rfl
                    have hcz43_4 : wc.cell? ⟨gb200, 4, none⟩ = some (.int .i32 a0_4) := (blk_cell BK200.out 4).trans rfl
                    have hfz43_0 := blk_frozen BK200.out 0
                    have hfz43_1 := blk_frozen BK200.out 1
                    have hfz43_2 := blk_frozen BK200.out 2
                    have hfz43_3 := blk_frozen BK200.out 3
                    have hfz43_4 := blk_frozen BK200.out 4
                    go_wp2
                    go_ret
                    exact ⟨by first | rfl | (simp [errW_none, errW_some] <;> rfl) | (simp [*, errW_none, errW_some] <;> rfl), by repeat (first | (with_reducible first | exact HB.out | apply below_alloc | apply pw_below_drewN | apply below_drew1 | refine below_set ?_ GE200.out) | exact HB.out)⟩
                  · rw [if_neg c42] at H
                    have c42b0 : decide (a0_0 ≤ 22) = false := decide_eq_false c42
                    clear c42
                    obtain rfl := Option.some.inj H
                    have hcz44_0 : wc.cell? ⟨gb200, 0, none⟩ = some (.int .i64 a0_0) := (blk_cell BK200.out 0).trans rfl
                    have hcz44_1 : wc.cell? ⟨gb200, 1, none⟩ = some (.int .i64 a0_1) := (blk_cell BK200.out 1).trans rfl
                    have hcz44_2 : wc.cell? ⟨gb200, 2, none⟩ = some (.int .i64 a0_2) := (blk_cell BK200.out 2).trans rfl
                    have hcz44_3 : wc.cell? ⟨gb200, 3, none⟩ = some (.int .i64 a0_3) := (blk_cell BK200.out 3).trans rfl
                    have hcz44_4 : wc.cell? ⟨gb200, 4, none⟩ = some (.int .i32 a0_4) := (blk_cell BK200.out 4).trans rfl
                    have hfz44_0 := blk_frozen BK200.out 0
                    have hfz44_1 := blk_frozen BK200.out 1
                    have hfz44_2 := blk_frozen BK200.out 2
                    have hfz44_3 := blk_frozen BK200.out 3
                    have hfz44_4 := blk_frozen BK200.out 4
                    go_wp2
                    go_ret
                    exact ⟨by first | rfl | (simp [errW_none, errW_some] <;> rfl) | (simp [*, errW_none, errW_some] <;> rfl), by repeat (first | (with_reducible first | exact HB.out | apply below_alloc | apply pw_below_drewN | apply below_drew1 | refine below_set ?_ GE200.out) | exact HB.out)⟩
                · rw [if_neg c41] at H
                  have c41b0 : decide (17 ≤ a0_0) = false := decide_eq_false c41
                  clear c41
                  obtain rfl := Option.some.inj H
                  have hcz45_0 : wc.cell? ⟨gb200, 0, none⟩ = some (.int .i64 a0_0) := (blk_cell BK200.out 0).trans rfl
                  have hcz45_1 : wc.cell? ⟨gb200, 1, none⟩ = some (.int .i64 a0_1) := (blk_cell BK200.out 1).trans rfl
                  have hcz45_2 : wc.cell? ⟨gb200, 2, none⟩ = some (.int .i64 a0_2) := (blk_cell BK200.out 2).trans rfl
                  have hcz45_3 : wc.cell? ⟨gb200, 3, none⟩ = some (.int .i64 a0_3) := (blk_cell BK200.out 3).trans rfl
                  have hcz45_4 : wc.cell? ⟨gb200, 4, none⟩ = some (.int .i32 a0_4) := (blk_cell BK200.out 4).trans rfl
                  have hfz45_0 := blk_frozen BK200.out 0
                  have hfz45_1 := blk_frozen BK200.out 1
                  have hfz45_2 := blk_frozen BK200.out 2
                  have hfz45_3 := blk_frozen BK200.out 3
                  have hfz45_4 := blk_frozen BK200.out 4
                  go_wp2
                  go_ret
                  exact ⟨by first | rfl | (simp [errW_none, errW_some] <;> rfl) | (simp [*, errW_none, errW_some] <;> rfl), by repeat (first | (with_reducible first | exact HB.out | apply below_alloc | apply pw_below_drewN | apply below_drew1 | refine below_set ?_ GE200.out) | exact HB.out)⟩

/-! ### pintleref15_End: function 67 -/
mutual
def pintleref15_End.l0 : Nat → List (S49) → Int → Int → Option (Int)
  | 0, _, _, _ => none
  | k + 1, x0, x5, x6 => if x6 < (x0.length : Int) then (if 0 ≤ x6 then (if ((rd_T49 x0 x6).f0) = 24 then (pintleref15_End.j1 k x0 x5 x6 (x5 == 0)) else (pintleref15_End.j1 k x0 x5 x6 false)) else (none)) else (some (-1))
def pintleref15_End.j1 : Nat → List (S49) → Int → Int → Bool → Option (Int)
  | 0, _, _, _, _ => none
  | k + 1, x0, x5, x6, x23 => if x23 = true then (some x6) else (if 0 ≤ x6 then (if x6 < (x0.length : Int) then (if ((rd_T49 x0 x6).f0) = 24 then (if ((rd_T49 x0 x6).f0) = 23 then (pintleref15_End.l0 k x0 (wrap64 ((wrap64 (x5 - 1)) + 1)) (wrap64 (x6 + 1))) else (pintleref15_End.l0 k x0 (wrap64 (x5 - 1)) (wrap64 (x6 + 1)))) else (if ((rd_T49 x0 x6).f0) = 23 then (pintleref15_End.l0 k x0 (wrap64 (x5 + 1)) (wrap64 (x6 + 1))) else (pintleref15_End.l0 k x0 x5 (wrap64 (x6 + 1))))) else (none)) else (none))
end
def pintleref15_End.f (k : Nat) (l0 : List (S49)) (a1 : Int) : Option (Int) := pintleref15_End.l0 k l0 0 a1
set_option maxHeartbeats 8000000 in
set_option maxRecDepth 100000 in
theorem pintleref15_End.calls (k : Nat) (A0 : Option Addr) (c0 : Nat) (l0 : List (S49)) (a1 : Int) (r : Int) (w : World) (hr0 : Kd.C k49 w A0 l0.length l0) (hc0 : l0.length ≤ c0) (h : pintleref15_End.f k l0 a1 = some r) :
    Calls Try.prog 67 #[.slice A0 l0.length c0, .int .i64 a1] w fun e w' => e = .returned (.int .i64 r) ∧ Drawn0 w w' := by
  have HR0 := Aside0.mk hr0
  have HC0 := Aside0.mk hc0
  clear hr0 hc0
  have H : (pintleref15_End.l0 k l0 0 a1) = some r := h
  clear h
  have H' := Aside0.mk H
  clear H
  go_enter Try.func67, Try.ntmps67
  go_wp2
  go_loopg [5, 6] k (fun kq v5 v6 w' => ∃ (x5_1 : Int) (x6_1 : Int), v5 = .int .i64 x5_1 ∧ v6 = .int .i64 x6_1 ∧ Aside0 (pintleref15_End.l0 kq l0 x5_1 x6_1 = some r) ∧ Aside0 (kq ≤ k) ∧ Drawn0 w w')
  case atStart => exact ⟨(0), (a1), (by first | rfl | (simp; done) | (simp [*]; done) | (simp [*]; omega)), (by first | rfl | (simp; done) | (simp [*]; done) | (simp [*]; omega)), H', ⟨Nat.le_refl _⟩, by repeat (first | exact Drawn0.refl _ | apply Drawn0.step)⟩
  case round =>
    clear H'
    try clear p2
    obtain ⟨x5_1, x6_1, rfl, rfl, HA, HK1, ⟨m1, rfl⟩⟩ := hrel
    cases gk with
    | zero => exact absurd HA.out (by simp [pintleref15_End.l0])
    | succ k1 =>
      have H := HA.out
      clear HA
      simp only [pintleref15_End.l0] at H
      by_cases c3 : x6_1 < (l0.length : Int)
      · rw [if_pos c3] at H
        have c3b0 : decide (x6_1 < (l0.length : Int)) = true := decide_eq_true c3
        clear c3
        have HC4 := Aside0.mk H
        clear H
        go_upto_region 5 with (fail)
        go_cut [23] (fun v23 wc => ∃ (kq : Nat) (x23_3 : Bool), v23 = .bool x23_3 ∧ Aside0 (pintleref15_End.j1 kq l0 x5_1 x6_1 x23_3 = some r) ∧ Aside0 (kq ≤ k1) ∧ Drawn0 w wc)
        case first =>
          have H := HC4.out
          clear HC4
          by_cases c5 : 0 ≤ x6_1
          · rw [if_pos c5] at H
            have c5b0 : decide (0 ≤ x6_1) = true := decide_eq_true c5
            clear c5
            (first | rw [c5b0] | (simp only [i64_w, i32_w]; rw [c5b0]) | skip)
            by_cases c6 : ((rd_T49 l0 x6_1).f0) = 24
            · rw [if_pos c6] at H
              have c6b0 : (((rd_T49 l0 x6_1).f0) == 24) = true := beq_iff_eq.mpr c6
              have c6b1 : (((rd_T49 l0 x6_1).f0) != 24) = false := bne_eq_false_iff_eq.mpr c6
              clear c6
              have H' := Aside0.mk H
              clear H
              have p207 : 0 ≤ (x6_1 : Int) := of_decide_eq_true (by first | (with_reducible assumption) | assumption)
              have q207 : x6_1 < (l0.length : Int) := of_decide_eq_true (by first | (with_reducible assumption) | assumption)
              obtain ⟨ad207, e207, hx207_0, hx207_1, hx207_2, hx207_3, hx207_4⟩ := at_T49 HR0.out x6_1 p207 q207
              cases e207
              replace p207 := eq_true p207
              replace q207 := eq_true q207
              go_wp2
              go_meet
              case rel => exact ⟨_, ((x5_1 == 0)), (by first | rfl | (simp; done) | (simp [*]; done) | (simp [*]; omega)), H', ⟨by have := HK1.out; first | omega | exact Nat.le_refl _⟩, by repeat (first | exact Drawn0.refl _ | apply Drawn0.step)⟩
            · rw [if_neg c6] at H
              have c6b0 : (((rd_T49 l0 x6_1).f0) == 24) = false := beq_eq_false_iff_ne.mpr c6
              have c6b1 : (((rd_T49 l0 x6_1).f0) != 24) = true := bne_iff_ne.mpr c6
              have H' := Aside0.mk H
              clear H
              have p207 : 0 ≤ (x6_1 : Int) := of_decide_eq_true (by first | (with_reducible assumption) | assumption)
              have q207 : x6_1 < (l0.length : Int) := of_decide_eq_true (by first | (with_reducible assumption) | assumption)
              obtain ⟨ad207, e207, hx207_0, hx207_1, hx207_2, hx207_3, hx207_4⟩ := at_T49 HR0.out x6_1 p207 q207
              cases e207
              replace p207 := eq_true p207
              replace q207 := eq_true q207
              go_wp2
              go_meet
              case rel => exact ⟨_, (false), (by first | rfl | (simp; done) | (simp [*]; done) | (simp [*]; omega)), H', ⟨by have := HK1.out; first | omega | exact Nat.le_refl _⟩, by repeat (first | exact Drawn0.refl _ | apply Drawn0.step)⟩
          · rw [if_neg c5] at H
            exact absurd H (by simp)
        case rest =>
          clear HC4
          try clear p2
          try clear q2
          try clear hx2
          try clear c3
          try clear c3b0
          try clear c5
          try clear c5b0
          try clear c6
          try clear c6b0
          try clear c6b1
          try clear hx207_0
          try clear hx207_1
          try clear hx207_2
          try clear hx207_3
          try clear hx207_4
          try clear p2
          try clear p207
          try clear q207
          obtain ⟨kq, x23_3, rfl, HA, HJ3, ⟨mc3, rfl⟩⟩ := hcut
          cases kq with
          | zero => exact absurd HA.out (by simp [pintleref15_End.j1])
          | succ kj3 =>
            have H := HA.out
            clear HA
            simp only [pintleref15_End.j1] at H
            by_cases c7 : x23_3 = true
            · subst c7
              have H1 : (some x6_1) = some r := by rw [if_pos rfl] at H; exact H
              clear H
              have H := H1
              clear H1
              obtain rfl := Option.some.inj H
              go_wp2
              go_ret
              exact ⟨by first | rfl | (simp; done) | (simp [*]; done), by repeat (first | exact Drawn0.refl _ | apply Drawn0.step)⟩
            · replace c7 := Bool.eq_false_iff.mpr c7
              subst c7
              have H1 : (if 0 ≤ x6_1 then (if x6_1 < (l0.length : Int) then (if ((rd_T49 l0 x6_1).f0) = 24 then (if ((rd_T49 l0 x6_1).f0) = 23 then (pintleref15_End.l0 kj3 l0 (wrap64 ((wrap64 (x5_1 - 1)) + 1)) (wrap64 (x6_1 + 1))) else (pintleref15_End.l0 kj3 l0 (wrap64 (x5_1 - 1)) (wrap64 (x6_1 + 1)))) else (if ((rd_T49 l0 x6_1).f0) = 23 then (pintleref15_End.l0 kj3 l0 (wrap64 (x5_1 + 1)) (wrap64 (x6_1 + 1))) else (pintleref15_End.l0 kj3 l0 x5_1 (wrap64 (x6_1 + 1))))) else (none)) else (none)) = some r := by rw [if_neg (show ¬ (false = true) by decide)] at H; exact H
              clear H
              have H := H1
              clear H1
              by_cases c8 : 0 ≤ x6_1
              · rw [if_pos c8] at H
                have c8b0 : decide (0 ≤ x6_1) = true := decide_eq_true c8
                clear c8
                by_cases c9 : x6_1 < (l0.length : Int)
                · rw [if_pos c9] at H
                  have c9b0 : decide (x6_1 < (l0.length : Int)) = true := decide_eq_true c9
                  clear c9
                  by_cases c10 : ((rd_T49 l0 x6_1).f0) = 24
                  · rw [if_pos c10] at H
                    have c10b0 : (((rd_T49 l0 x6_1).f0) == 24) = true := beq_iff_eq.mpr c10
                    have c10b1 : (((rd_T49 l0 x6_1).f0) != 24) = false := bne_eq_false_iff_eq.mpr c10
                    clear c10
                    by_cases c11 : ((rd_T49 l0 x6_1).f0) = 23
                    · rw [if_pos c11] at H
                      have c11b0 : (((rd_T49 l0 x6_1).f0) == 23) = true := beq_iff_eq.mpr c11
                      have c11b1 : (((rd_T49 l0 x6_1).f0) != 23) = false := bne_eq_false_iff_eq.mpr c11
                      clear c11
                      have H' := Aside0.mk H
                      clear H
                      have p208 : 0 ≤ (x6_1 : Int) := of_decide_eq_true (by first | (with_reducible assumption) | assumption)
                      have q208 : x6_1 < (l0.length : Int) := of_decide_eq_true (by first | (with_reducible assumption) | assumption)
                      obtain ⟨ad208, e208, hx208_0, hx208_1, hx208_2, hx208_3, hx208_4⟩ := at_T49 HR0.out x6_1 p208 q208
                      cases e208
                      replace p208 := eq_true p208
                      replace q208 := eq_true q208
                      have p209 : 0 ≤ (x6_1 : Int) := of_decide_eq_true (by first | (with_reducible assumption) | assumption)
                      have q209 : x6_1 < (l0.length : Int) := of_decide_eq_true (by first | (with_reducible assumption) | assumption)
                      obtain ⟨ad209, e209, hx209_0, hx209_1, hx209_2, hx209_3, hx209_4⟩ := at_T49 HR0.out x6_1 p209 q209
                      obtain rfl : ad208 = ad209 := (by injection e209)
                      replace p209 := eq_true p209
                      replace q209 := eq_true q209
                      go_wp2
                      go_roundg kj3
                      case measure => have := HK1.out; have := HJ3.out; omega
                      case rel => exact ⟨(wrap64 ((wrap64 (x5_1 - 1)) + 1)), (wrap64 (x6_1 + 1)), (by first | rfl | (simp; done) | (simp [*]; done) | (simp [*]; omega)), (by first | rfl | (simp; done) | (simp [*]; done) | (simp [*]; omega)), H', ⟨by have := HK1.out; have := HJ3.out; omega⟩, by repeat (first | exact Drawn0.refl _ | apply Drawn0.step)⟩
                    · rw [if_neg c11] at H
                      have c11b0 : (((rd_T49 l0 x6_1).f0) == 23) = false := beq_eq_false_iff_ne.mpr c11
                      have c11b1 : (((rd_T49 l0 x6_1).f0) != 23) = true := bne_iff_ne.mpr c11
                      have H' := Aside0.mk H
                      clear H
                      have p208 : 0 ≤ (x6_1 : Int) := of_decide_eq_true (by first | (with_reducible assumption) | assumption)
                      have q208 : x6_1 < (l0.length : Int) := of_decide_eq_true (by first | (with_reducible assumption) | assumption)
                      obtain ⟨ad208, e208, hx208_0, hx208_1, hx208_2, hx208_3, hx208_4⟩ := at_T49 HR0.out x6_1 p208 q208
                      cases e208
                      replace p208 := eq_true p208
                      replace q208 := eq_true q208
                      have p209 : 0 ≤ (x6_1 : Int) := of_decide_eq_true (by first | (with_reducible assumption) | assumption)
                      have q209 : x6_1 < (l0.length : Int) := of_decide_eq_true (by first | (with_reducible assumption) | assumption)
                      obtain ⟨ad209, e209, hx209_0, hx209_1, hx209_2, hx209_3, hx209_4⟩ := at_T49 HR0.out x6_1 p209 q209
                      obtain rfl : ad208 = ad209 := (by injection e209)
                      replace p209 := eq_true p209
                      replace q209 := eq_true q209
                      go_wp2
                      go_roundg kj3
                      case measure => have := HK1.out; have := HJ3.out; omega
                      case rel => exact ⟨(wrap64 (x5_1 - 1)), (wrap64 (x6_1 + 1)), (by first | rfl | (simp; done) | (simp [*]; done) | (simp [*]; omega)), (by first | rfl | (simp; done) | (simp [*]; done) | (simp [*]; omega)), H', ⟨by have := HK1.out; have := HJ3.out; omega⟩, by repeat (first | exact Drawn0.refl _ | apply Drawn0.step)⟩
                  · rw [if_neg c10] at H
                    have c10b0 : (((rd_T49 l0 x6_1).f0) == 24) = false := beq_eq_false_iff_ne.mpr c10
                    have c10b1 : (((rd_T49 l0 x6_1).f0) != 24) = true := bne_iff_ne.mpr c10
                    by_cases c12 : ((rd_T49 l0 x6_1).f0) = 23
                    · rw [if_pos c12] at H
                      have c12b0 : (((rd_T49 l0 x6_1).f0) == 23) = true := beq_iff_eq.mpr c12
                      have c12b1 : (((rd_T49 l0 x6_1).f0) != 23) = false := bne_eq_false_iff_eq.mpr c12
                      clear c12
                      have H' := Aside0.mk H
                      clear H
                      have p208 : 0 ≤ (x6_1 : Int) := of_decide_eq_true (by first | (with_reducible assumption) | assumption)
                      have q208 : x6_1 < (l0.length : Int) := of_decide_eq_true (by first | (with_reducible assumption) | assumption)
                      obtain ⟨ad208, e208, hx208_0, hx208_1, hx208_2, hx208_3, hx208_4⟩ := at_T49 HR0.out x6_1 p208 q208
                      cases e208
                      replace p208 := eq_true p208
                      replace q208 := eq_true q208
                      have p210 : 0 ≤ (x6_1 : Int) := of_decide_eq_true (by first | (with_reducible assumption) | assumption)
                      have q210 : x6_1 < (l0.length : Int) := of_decide_eq_true (by first | (with_reducible assumption) | assumption)
                      obtain ⟨ad210, e210, hx210_0, hx210_1, hx210_2, hx210_3, hx210_4⟩ := at_T49 HR0.out x6_1 p210 q210
                      obtain rfl : ad208 = ad210 := (by injection e210)
                      replace p210 := eq_true p210
                      replace q210 := eq_true q210
                      go_wp2
                      go_roundg kj3
                      case measure => have := HK1.out; have := HJ3.out; omega
                      case rel => exact ⟨(wrap64 (x5_1 + 1)), (wrap64 (x6_1 + 1)), (by first | rfl | (simp; done) | (simp [*]; done) | (simp [*]; omega)), (by first | rfl | (simp; done) | (simp [*]; done) | (simp [*]; omega)), H', ⟨by have := HK1.out; have := HJ3.out; omega⟩, by repeat (first | exact Drawn0.refl _ | apply Drawn0.step)⟩
                    · rw [if_neg c12] at H
                      have c12b0 : (((rd_T49 l0 x6_1).f0) == 23) = false := beq_eq_false_iff_ne.mpr c12
                      have c12b1 : (((rd_T49 l0 x6_1).f0) != 23) = true := bne_iff_ne.mpr c12
                      have H' := Aside0.mk H
                      clear H
                      have p208 : 0 ≤ (x6_1 : Int) := of_decide_eq_true (by first | (with_reducible assumption) | assumption)
                      have q208 : x6_1 < (l0.length : Int) := of_decide_eq_true (by first | (with_reducible assumption) | assumption)
                      obtain ⟨ad208, e208, hx208_0, hx208_1, hx208_2, hx208_3, hx208_4⟩ := at_T49 HR0.out x6_1 p208 q208
                      cases e208
                      replace p208 := eq_true p208
                      replace q208 := eq_true q208
                      have p210 : 0 ≤ (x6_1 : Int) := of_decide_eq_true (by first | (with_reducible assumption) | assumption)
                      have q210 : x6_1 < (l0.length : Int) := of_decide_eq_true (by first | (with_reducible assumption) | assumption)
                      obtain ⟨ad210, e210, hx210_0, hx210_1, hx210_2, hx210_3, hx210_4⟩ := at_T49 HR0.out x6_1 p210 q210
                      obtain rfl : ad208 = ad210 := (by injection e210)
                      replace p210 := eq_true p210
                      replace q210 := eq_true q210
                      go_wp2
                      go_roundg kj3
                      case measure => have := HK1.out; have := HJ3.out; omega
                      case rel => exact ⟨(x5_1), (wrap64 (x6_1 + 1)), (by first | rfl | (simp; done) | (simp [*]; done) | (simp [*]; omega)), (by first | rfl | (simp; done) | (simp [*]; done) | (simp [*]; omega)), H', ⟨by have := HK1.out; have := HJ3.out; omega⟩, by repeat (first | exact Drawn0.refl _ | apply Drawn0.step)⟩
                · rw [if_neg c9] at H
                  exact absurd H (by simp)
              · rw [if_neg c8] at H
                exact absurd H (by simp)
      · rw [if_neg c3] at H
        have c3b0 : decide (x6_1 < (l0.length : Int)) = false := decide_eq_false c3
        clear c3
        obtain rfl := Option.some.inj H
        go_wp2
        go_ret
        exact ⟨by first | rfl | (simp; done) | (simp [*]; done), by repeat (first | exact Drawn0.refl _ | apply Drawn0.step)⟩

end Go.Proofs.Ytpeljnnbknnbmaa.PD
