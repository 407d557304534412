import Derived.Test.YtpeljnnbknnbmaaOnPDx0
-- Written by pr.py, a driver around the kit's printer, for this seat. Not trusted: Lean checks it.
namespace Go.Proofs.Ytpeljnnbknnbmaa.PD
open Go.RowKit Go.Proofs.YtpeljnnbknnbmaaW.PrintWords Go.Proofs.YtpeljnnbknnbmaaW.PrintLast Go.Proofs.YtpeljnnbknnbmaaW.PrintMore
attribute [local go_sem] max2_int min2_int max_two min_two max_three min_three max_four min_four   -- for this text's walks alone
set_option linter.unusedVariables false
set_option linter.unusedSimpArgs false

/-! ### pintleref15_Has: function 56 -/
def pintleref15_Has.f (a0 : Int) : Option (Bool × Bool × Bool) := if a0 ≥ 1 then (if a0 ≤ 20 then (if a0 ≥ 2 then (if a0 ≥ 3 then (if a0 ≤ 12 then (some (true, decide (a0 ≤ 22), true)) else (if a0 = 21 then (some (true, decide (a0 ≤ 22), true)) else (some (true, decide (a0 ≤ 22), (a0 == 22))))) else (if a0 = 21 then (some (true, decide (a0 ≤ 22), true)) else (some (true, decide (a0 ≤ 22), (a0 == 22))))) else (if a0 ≥ 3 then (if a0 ≤ 12 then (some (true, false, true)) else (if a0 = 21 then (some (true, false, true)) else (some (true, false, (a0 == 22))))) else (if a0 = 21 then (some (true, false, true)) else (some (true, false, (a0 == 22)))))) else (if a0 ≥ 2 then (if a0 ≥ 3 then (if a0 ≤ 12 then (some ((a0 == 23), decide (a0 ≤ 22), true)) else (if a0 = 21 then (some ((a0 == 23), decide (a0 ≤ 22), true)) else (some ((a0 == 23), decide (a0 ≤ 22), (a0 == 22))))) else (if a0 = 21 then (some ((a0 == 23), decide (a0 ≤ 22), true)) else (some ((a0 == 23), decide (a0 ≤ 22), (a0 == 22))))) else (if a0 ≥ 3 then (if a0 ≤ 12 then (some ((a0 == 23), false, true)) else (if a0 = 21 then (some ((a0 == 23), false, true)) else (some ((a0 == 23), false, (a0 == 22))))) else (if a0 = 21 then (some ((a0 == 23), false, true)) else (some ((a0 == 23), false, (a0 == 22))))))) else (if a0 ≥ 2 then (if a0 ≥ 3 then (if a0 ≤ 12 then (some ((a0 == 23), decide (a0 ≤ 22), true)) else (if a0 = 21 then (some ((a0 == 23), decide (a0 ≤ 22), true)) else (some ((a0 == 23), decide (a0 ≤ 22), (a0 == 22))))) else (if a0 = 21 then (some ((a0 == 23), decide (a0 ≤ 22), true)) else (some ((a0 == 23), decide (a0 ≤ 22), (a0 == 22))))) else (if a0 ≥ 3 then (if a0 ≤ 12 then (some ((a0 == 23), false, true)) else (if a0 = 21 then (some ((a0 == 23), false, true)) else (some ((a0 == 23), false, (a0 == 22))))) else (if a0 = 21 then (some ((a0 == 23), false, true)) else (some ((a0 == 23), false, (a0 == 22))))))
set_option maxHeartbeats 8000000 in
set_option maxRecDepth 100000 in
theorem pintleref15_Has.calls (a0 : Int) (r1 : Bool) (r2 : Bool) (r3 : Bool) (w : World) (h : pintleref15_Has.f a0 = some (r1, r2, r3)) :
    Calls Try.prog 56 #[.int .i64 a0] w fun e w' => e = .returned (.tuple #[.bool r1, .bool r2, .bool r3]) ∧ Drawn0 w w' := by
  have H : (if a0 ≥ 1 then (if a0 ≤ 20 then (if a0 ≥ 2 then (if a0 ≥ 3 then (if a0 ≤ 12 then (some (true, decide (a0 ≤ 22), true)) else (if a0 = 21 then (some (true, decide (a0 ≤ 22), true)) else (some (true, decide (a0 ≤ 22), (a0 == 22))))) else (if a0 = 21 then (some (true, decide (a0 ≤ 22), true)) else (some (true, decide (a0 ≤ 22), (a0 == 22))))) else (if a0 ≥ 3 then (if a0 ≤ 12 then (some (true, false, true)) else (if a0 = 21 then (some (true, false, true)) else (some (true, false, (a0 == 22))))) else (if a0 = 21 then (some (true, false, true)) else (some (true, false, (a0 == 22)))))) else (if a0 ≥ 2 then (if a0 ≥ 3 then (if a0 ≤ 12 then (some ((a0 == 23), decide (a0 ≤ 22), true)) else (if a0 = 21 then (some ((a0 == 23), decide (a0 ≤ 22), true)) else (some ((a0 == 23), decide (a0 ≤ 22), (a0 == 22))))) else (if a0 = 21 then (some ((a0 == 23), decide (a0 ≤ 22), true)) else (some ((a0 == 23), decide (a0 ≤ 22), (a0 == 22))))) else (if a0 ≥ 3 then (if a0 ≤ 12 then (some ((a0 == 23), false, true)) else (if a0 = 21 then (some ((a0 == 23), false, true)) else (some ((a0 == 23), false, (a0 == 22))))) else (if a0 = 21 then (some ((a0 == 23), false, true)) else (some ((a0 == 23), false, (a0 == 22))))))) else (if a0 ≥ 2 then (if a0 ≥ 3 then (if a0 ≤ 12 then (some ((a0 == 23), decide (a0 ≤ 22), true)) else (if a0 = 21 then (some ((a0 == 23), decide (a0 ≤ 22), true)) else (some ((a0 == 23), decide (a0 ≤ 22), (a0 == 22))))) else (if a0 = 21 then (some ((a0 == 23), decide (a0 ≤ 22), true)) else (some ((a0 == 23), decide (a0 ≤ 22), (a0 == 22))))) else (if a0 ≥ 3 then (if a0 ≤ 12 then (some ((a0 == 23), false, true)) else (if a0 = 21 then (some ((a0 == 23), false, true)) else (some ((a0 == 23), false, (a0 == 22))))) else (if a0 = 21 then (some ((a0 == 23), false, true)) else (some ((a0 == 23), false, (a0 == 22))))))) = some (r1, r2, r3) := h
  clear h
  by_cases c2 : a0 ≥ 1
  · rw [if_pos c2] at H
    have c2b0 : decide (1 ≤ a0) = true := decide_eq_true c2
    clear c2
    by_cases c3 : a0 ≤ 20
    · rw [if_pos c3] at H
      have c3b0 : decide (a0 ≤ 20) = true := decide_eq_true c3
      clear c3
      by_cases c4 : a0 ≥ 2
      · rw [if_pos c4] at H
        have c4b0 : decide (2 ≤ a0) = true := decide_eq_true c4
        clear c4
        by_cases c5 : a0 ≥ 3
        · rw [if_pos c5] at H
          have c5b0 : decide (3 ≤ a0) = true := decide_eq_true c5
          clear c5
          by_cases c6 : a0 ≤ 12
          · rw [if_pos c6] at H
            have c6b0 : decide (a0 ≤ 12) = true := decide_eq_true c6
            clear c6
            simp only [Option.some.injEq, Prod.mk.injEq] at H
            obtain ⟨rfl, rfl, rfl⟩ := H
            go_enter Try.func56, Try.ntmps56
            go_wp2
            go_ret3
            exact ⟨by first | rfl | (simp; done) | (simp [*]; done), by repeat (first | exact Drawn0.refl _ | apply Drawn0.step)⟩
          · rw [if_neg c6] at H
            have c6b0 : decide (a0 ≤ 12) = false := decide_eq_false c6
            clear c6
            by_cases c7 : a0 = 21
            · rw [if_pos c7] at H
              have c7b0 : (a0 == 21) = true := beq_iff_eq.mpr c7
              have c7b1 : (a0 != 21) = false := bne_eq_false_iff_eq.mpr c7
              clear c7
              simp only [Option.some.injEq, Prod.mk.injEq] at H
              obtain ⟨rfl, rfl, rfl⟩ := H
              go_enter Try.func56, Try.ntmps56
              go_wp2
              go_ret3
              exact ⟨by first | rfl | (simp; done) | (simp [*]; done), by repeat (first | exact Drawn0.refl _ | apply Drawn0.step)⟩
            · rw [if_neg c7] at H
              have c7b0 : (a0 == 21) = false := beq_eq_false_iff_ne.mpr c7
              have c7b1 : (a0 != 21) = true := bne_iff_ne.mpr c7
              simp only [Option.some.injEq, Prod.mk.injEq] at H
              obtain ⟨rfl, rfl, rfl⟩ := H
              go_enter Try.func56, Try.ntmps56
              go_wp2
              go_ret3
              exact ⟨by first | rfl | (simp; done) | (simp [*]; done), by repeat (first | exact Drawn0.refl _ | apply Drawn0.step)⟩
        · rw [if_neg c5] at H
          have c5b0 : decide (3 ≤ a0) = false := decide_eq_false c5
          clear c5
          by_cases c8 : a0 = 21
          · rw [if_pos c8] at H
            have c8b0 : (a0 == 21) = true := beq_iff_eq.mpr c8
            have c8b1 : (a0 != 21) = false := bne_eq_false_iff_eq.mpr c8
            clear c8
            simp only [Option.some.injEq, Prod.mk.injEq] at H
            obtain ⟨rfl, rfl, rfl⟩ := H
            go_enter Try.func56, Try.ntmps56
            go_wp2
            go_ret3
            exact ⟨by first | rfl | (simp; done) | (simp [*]; done), by repeat (first | exact Drawn0.refl _ | apply Drawn0.step)⟩
          · rw [if_neg c8] at H
            have c8b0 : (a0 == 21) = false := beq_eq_false_iff_ne.mpr c8
            have c8b1 : (a0 != 21) = true := bne_iff_ne.mpr c8
            simp only [Option.some.injEq, Prod.mk.injEq] at H
            obtain ⟨rfl, rfl, rfl⟩ := H
            go_enter Try.func56, Try.ntmps56
            go_wp2
            go_ret3
            exact ⟨by first | rfl | (simp; done) | (simp [*]; done), by repeat (first | exact Drawn0.refl _ | apply Drawn0.step)⟩
      · rw [if_neg c4] at H
        have c4b0 : decide (2 ≤ a0) = false := decide_eq_false c4
        clear c4
        by_cases c9 : a0 ≥ 3
        · rw [if_pos c9] at H
          have c9b0 : decide (3 ≤ a0) = true := decide_eq_true c9
          clear c9
          by_cases c10 : a0 ≤ 12
          · rw [if_pos c10] at H
            have c10b0 : decide (a0 ≤ 12) = true := decide_eq_true c10
            clear c10
            simp only [Option.some.injEq, Prod.mk.injEq] at H
            obtain ⟨rfl, rfl, rfl⟩ := H
            go_enter Try.func56, Try.ntmps56
            go_wp2
            go_ret3
            exact ⟨by first | rfl | (simp; done) | (simp [*]; done), by repeat (first | exact Drawn0.refl _ | apply Drawn0.step)⟩
          · rw [if_neg c10] at H
            have c10b0 : decide (a0 ≤ 12) = false := decide_eq_false c10
            clear c10
            by_cases c11 : a0 = 21
            · rw [if_pos c11] at H
              have c11b0 : (a0 == 21) = true := beq_iff_eq.mpr c11
              have c11b1 : (a0 != 21) = false := bne_eq_false_iff_eq.mpr c11
              clear c11
              simp only [Option.some.injEq, Prod.mk.injEq] at H
              obtain ⟨rfl, rfl, rfl⟩ := H
              go_enter Try.func56, Try.ntmps56
              go_wp2
              go_ret3
              exact ⟨by first | rfl | (simp; done) | (simp [*]; done), by repeat (first | exact Drawn0.refl _ | apply Drawn0.step)⟩
            · rw [if_neg c11] at H
              have c11b0 : (a0 == 21) = false := beq_eq_false_iff_ne.mpr c11
              have c11b1 : (a0 != 21) = true := bne_iff_ne.mpr c11
              simp only [Option.some.injEq, Prod.mk.injEq] at H
              obtain ⟨rfl, rfl, rfl⟩ := H
              go_enter Try.func56, Try.ntmps56
              go_wp2
              go_ret3
              exact ⟨by first | rfl | (simp; done) | (simp [*]; done), by repeat (first | exact Drawn0.refl _ | apply Drawn0.step)⟩
        · rw [if_neg c9] at H
          have c9b0 : decide (3 ≤ a0) = false := decide_eq_false c9
          clear c9
          by_cases c12 : a0 = 21
          · rw [if_pos c12] at H
            have c12b0 : (a0 == 21) = true := beq_iff_eq.mpr c12
            have c12b1 : (a0 != 21) = false := bne_eq_false_iff_eq.mpr c12
            clear c12
            simp only [Option.some.injEq, Prod.mk.injEq] at H
            obtain ⟨rfl, rfl, rfl⟩ := H
            go_enter Try.func56, Try.ntmps56
            go_wp2
            go_ret3
            exact ⟨by first | rfl | (simp; done) | (simp [*]; done), by repeat (first | exact Drawn0.refl _ | apply Drawn0.step)⟩
          · rw [if_neg c12] at H
            have c12b0 : (a0 == 21) = false := beq_eq_false_iff_ne.mpr c12
            have c12b1 : (a0 != 21) = true := bne_iff_ne.mpr c12
            simp only [Option.some.injEq, Prod.mk.injEq] at H
            obtain ⟨rfl, rfl, rfl⟩ := H
            go_enter Try.func56, Try.ntmps56
            go_wp2
            go_ret3
            exact ⟨by first | rfl | (simp; done) | (simp [*]; done), by repeat (first | exact Drawn0.refl _ | apply Drawn0.step)⟩
    · rw [if_neg c3] at H
      have c3b0 : decide (a0 ≤ 20) = false := decide_eq_false c3
      clear c3
      by_cases c13 : a0 ≥ 2
      · rw [if_pos c13] at H
        have c13b0 : decide (2 ≤ a0) = true := decide_eq_true c13
        clear c13
        by_cases c14 : a0 ≥ 3
        · rw [if_pos c14] at H
          have c14b0 : decide (3 ≤ a0) = true := decide_eq_true c14
          clear c14
          by_cases c15 : a0 ≤ 12
          · rw [if_pos c15] at H
            have c15b0 : decide (a0 ≤ 12) = true := decide_eq_true c15
            clear c15
            simp only [Option.some.injEq, Prod.mk.injEq] at H
            obtain ⟨rfl, rfl, rfl⟩ := H
            go_enter Try.func56, Try.ntmps56
            go_wp2
            go_ret3
            exact ⟨by first | rfl | (simp; done) | (simp [*]; done), by repeat (first | exact Drawn0.refl _ | apply Drawn0.step)⟩
          · rw [if_neg c15] at H
            have c15b0 : decide (a0 ≤ 12) = false := decide_eq_false c15
            clear c15
            by_cases c16 : a0 = 21
            · rw [if_pos c16] at H
              have c16b0 : (a0 == 21) = true := beq_iff_eq.mpr c16
              have c16b1 : (a0 != 21) = false := bne_eq_false_iff_eq.mpr c16
              clear c16
              simp only [Option.some.injEq, Prod.mk.injEq] at H
              obtain ⟨rfl, rfl, rfl⟩ := H
              go_enter Try.func56, Try.ntmps56
              go_wp2
              go_ret3
              exact ⟨by first | rfl | (simp; done) | (simp [*]; done), by repeat (first | exact Drawn0.refl _ | apply Drawn0.step)⟩
            · rw [if_neg c16] at H
              have c16b0 : (a0 == 21) = false := beq_eq_false_iff_ne.mpr c16
              have c16b1 : (a0 != 21) = true := bne_iff_ne.mpr c16
              simp only [Option.some.injEq, Prod.mk.injEq] at H
              obtain ⟨rfl, rfl, rfl⟩ := H
              go_enter Try.func56, Try.ntmps56
              go_wp2
              go_ret3
              exact ⟨by first | rfl | (simp; done) | (simp [*]; done), by repeat (first | exact Drawn0.refl _ | apply Drawn0.step)⟩
        · rw [if_neg c14] at H
          have c14b0 : decide (3 ≤ a0) = false := decide_eq_false c14
          clear c14
          by_cases c17 : a0 = 21
          · rw [if_pos c17] at H
            have c17b0 : (a0 == 21) = true := beq_iff_eq.mpr c17
            have c17b1 : (a0 != 21) = false := bne_eq_false_iff_eq.mpr c17
            clear c17
            simp only [Option.some.injEq, Prod.mk.injEq] at H
            obtain ⟨rfl, rfl, rfl⟩ := H
            go_enter Try.func56, Try.ntmps56
            go_wp2
            go_ret3
            exact ⟨by first | rfl | (simp; done) | (simp [*]; done), by repeat (first | exact Drawn0.refl _ | apply Drawn0.step)⟩
          · rw [if_neg c17] at H
            have c17b0 : (a0 == 21) = false := beq_eq_false_iff_ne.mpr c17
            have c17b1 : (a0 != 21) = true := bne_iff_ne.mpr c17
            simp only [Option.some.injEq, Prod.mk.injEq] at H
            obtain ⟨rfl, rfl, rfl⟩ := H
            go_enter Try.func56, Try.ntmps56
            go_wp2
            go_ret3
            exact ⟨by first | rfl | (simp; done) | (simp [*]; done), by repeat (first | exact Drawn0.refl _ | apply Drawn0.step)⟩
      · rw [if_neg c13] at H
        have c13b0 : decide (2 ≤ a0) = false := decide_eq_false c13
        clear c13
        by_cases c18 : a0 ≥ 3
        · rw [if_pos c18] at H
          have c18b0 : decide (3 ≤ a0) = true := decide_eq_true c18
          clear c18
          by_cases c19 : a0 ≤ 12
          · rw [if_pos c19] at H
            have c19b0 : decide (a0 ≤ 12) = true := decide_eq_true c19
            clear c19
            simp only [Option.some.injEq, Prod.mk.injEq] at H
            obtain ⟨rfl, rfl, rfl⟩ := H
            go_enter Try.func56, Try.ntmps56
            go_wp2
            go_ret3
            exact ⟨by first | rfl | (simp; done) | (simp [*]; done), by repeat (first | exact Drawn0.refl _ | apply Drawn0.step)⟩
          · rw [if_neg c19] at H
            have c19b0 : decide (a0 ≤ 12) = false := decide_eq_false c19
            clear c19
            by_cases c20 : a0 = 21
            · rw [if_pos c20] at H
              have c20b0 : (a0 == 21) = true := beq_iff_eq.mpr c20
              have c20b1 : (a0 != 21) = false := bne_eq_false_iff_eq.mpr c20
              clear c20
              simp only [Option.some.injEq, Prod.mk.injEq] at H
              obtain ⟨rfl, rfl, rfl⟩ := H
              go_enter Try.func56, Try.ntmps56
              go_wp2
              go_ret3
              exact ⟨by first | rfl | (simp; done) | (simp [*]; done), by repeat (first | exact Drawn0.refl _ | apply Drawn0.step)⟩
            · rw [if_neg c20] at H
              have c20b0 : (a0 == 21) = false := beq_eq_false_iff_ne.mpr c20
              have c20b1 : (a0 != 21) = true := bne_iff_ne.mpr c20
              simp only [Option.some.injEq, Prod.mk.injEq] at H
              obtain ⟨rfl, rfl, rfl⟩ := H
              go_enter Try.func56, Try.ntmps56
              go_wp2
              go_ret3
              exact ⟨by first | rfl | (simp; done) | (simp [*]; done), by repeat (first | exact Drawn0.refl _ | apply Drawn0.step)⟩
        · rw [if_neg c18] at H
          have c18b0 : decide (3 ≤ a0) = false := decide_eq_false c18
          clear c18
          by_cases c21 : a0 = 21
          · rw [if_pos c21] at H
            have c21b0 : (a0 == 21) = true := beq_iff_eq.mpr c21
            have c21b1 : (a0 != 21) = false := bne_eq_false_iff_eq.mpr c21
            clear c21
            simp only [Option.some.injEq, Prod.mk.injEq] at H
            obtain ⟨rfl, rfl, rfl⟩ := H
            go_enter Try.func56, Try.ntmps56
            go_wp2
            go_ret3
            exact ⟨by first | rfl | (simp; done) | (simp [*]; done), by repeat (first | exact Drawn0.refl _ | apply Drawn0.step)⟩
          · rw [if_neg c21] at H
            have c21b0 : (a0 == 21) = false := beq_eq_false_iff_ne.mpr c21
            have c21b1 : (a0 != 21) = true := bne_iff_ne.mpr c21
            simp only [Option.some.injEq, Prod.mk.injEq] at H
            obtain ⟨rfl, rfl, rfl⟩ := H
            go_enter Try.func56, Try.ntmps56
            go_wp2
            go_ret3
            exact ⟨by first | rfl | (simp; done) | (simp [*]; done), by repeat (first | exact Drawn0.refl _ | apply Drawn0.step)⟩
  · rw [if_neg c2] at H
    have c2b0 : decide (1 ≤ a0) = false := decide_eq_false c2
    clear c2
    by_cases c22 : a0 ≥ 2
    · rw [if_pos c22] at H
      have c22b0 : decide (2 ≤ a0) = true := decide_eq_true c22
      clear c22
      by_cases c23 : a0 ≥ 3
      · rw [if_pos c23] at H
        have c23b0 : decide (3 ≤ a0) = true := decide_eq_true c23
        clear c23
        by_cases c24 : a0 ≤ 12
        · rw [if_pos c24] at H
          have c24b0 : decide (a0 ≤ 12) = true := decide_eq_true c24
          clear c24
          simp only [Option.some.injEq, Prod.mk.injEq] at H
          obtain ⟨rfl, rfl, rfl⟩ := H
          go_enter Try.func56, Try.ntmps56
          go_wp2
          go_ret3
          exact ⟨by first | rfl | (simp; done) | (simp [*]; done), by repeat (first | exact Drawn0.refl _ | apply Drawn0.step)⟩
        · rw [if_neg c24] at H
          have c24b0 : decide (a0 ≤ 12) = false := decide_eq_false c24
          clear c24
          by_cases c25 : a0 = 21
          · rw [if_pos c25] at H
            have c25b0 : (a0 == 21) = true := beq_iff_eq.mpr c25
            have c25b1 : (a0 != 21) = false := bne_eq_false_iff_eq.mpr c25
            clear c25
            simp only [Option.some.injEq, Prod.mk.injEq] at H
            obtain ⟨rfl, rfl, rfl⟩ := H
            go_enter Try.func56, Try.ntmps56
            go_wp2
            go_ret3
            exact ⟨by first | rfl | (simp; done) | (simp [*]; done), by repeat (first | exact Drawn0.refl _ | apply Drawn0.step)⟩
          · rw [if_neg c25] at H
            have c25b0 : (a0 == 21) = false := beq_eq_false_iff_ne.mpr c25
            have c25b1 : (a0 != 21) = true := bne_iff_ne.mpr c25
            simp only [Option.some.injEq, Prod.mk.injEq] at H
            obtain ⟨rfl, rfl, rfl⟩ := H
            go_enter Try.func56, Try.ntmps56
            go_wp2
            go_ret3
            exact ⟨by first | rfl | (simp; done) | (simp [*]; done), by repeat (first | exact Drawn0.refl _ | apply Drawn0.step)⟩
      · rw [if_neg c23] at H
        have c23b0 : decide (3 ≤ a0) = false := decide_eq_false c23
        clear c23
        by_cases c26 : a0 = 21
        · rw [if_pos c26] at H
          have c26b0 : (a0 == 21) = true := beq_iff_eq.mpr c26
          have c26b1 : (a0 != 21) = false := bne_eq_false_iff_eq.mpr c26
          clear c26
          simp only [Option.some.injEq, Prod.mk.injEq] at H
          obtain ⟨rfl, rfl, rfl⟩ := H
          go_enter Try.func56, Try.ntmps56
          go_wp2
          go_ret3
          exact ⟨by first | rfl | (simp; done) | (simp [*]; done), by repeat (first | exact Drawn0.refl _ | apply Drawn0.step)⟩
        · rw [if_neg c26] at H
          have c26b0 : (a0 == 21) = false := beq_eq_false_iff_ne.mpr c26
          have c26b1 : (a0 != 21) = true := bne_iff_ne.mpr c26
          simp only [Option.some.injEq, Prod.mk.injEq] at H
          obtain ⟨rfl, rfl, rfl⟩ := H
          go_enter Try.func56, Try.ntmps56
          go_wp2
          go_ret3
          exact ⟨by first | rfl | (simp; done) | (simp [*]; done), by repeat (first | exact Drawn0.refl _ | apply Drawn0.step)⟩
    · rw [if_neg c22] at H
      have c22b0 : decide (2 ≤ a0) = false := decide_eq_false c22
      clear c22
      by_cases c27 : a0 ≥ 3
      · rw [if_pos c27] at H
        have c27b0 : decide (3 ≤ a0) = true := decide_eq_true c27
        clear c27
        by_cases c28 : a0 ≤ 12
        · rw [if_pos c28] at H
          have c28b0 : decide (a0 ≤ 12) = true := decide_eq_true c28
          clear c28
          simp only [Option.some.injEq, Prod.mk.injEq] at H
          obtain ⟨rfl, rfl, rfl⟩ := H
          go_enter Try.func56, Try.ntmps56
          go_wp2
          go_ret3
          exact ⟨by first | rfl | (simp; done) | (simp [*]; done), by repeat (first | exact Drawn0.refl _ | apply Drawn0.step)⟩
        · rw [if_neg c28] at H
          have c28b0 : decide (a0 ≤ 12) = false := decide_eq_false c28
          clear c28
          by_cases c29 : a0 = 21
          · rw [if_pos c29] at H
            have c29b0 : (a0 == 21) = true := beq_iff_eq.mpr c29
            have c29b1 : (a0 != 21) = false := bne_eq_false_iff_eq.mpr c29
            clear c29
            simp only [Option.some.injEq, Prod.mk.injEq] at H
            obtain ⟨rfl, rfl, rfl⟩ := H
            go_enter Try.func56, Try.ntmps56
            go_wp2
            go_ret3
            exact ⟨by first | rfl | (simp; done) | (simp [*]; done), by repeat (first | exact Drawn0.refl _ | apply Drawn0.step)⟩
          · rw [if_neg c29] at H
            have c29b0 : (a0 == 21) = false := beq_eq_false_iff_ne.mpr c29
            have c29b1 : (a0 != 21) = true := bne_iff_ne.mpr c29
            simp only [Option.some.injEq, Prod.mk.injEq] at H
            obtain ⟨rfl, rfl, rfl⟩ := H
            go_enter Try.func56, Try.ntmps56
            go_wp2
            go_ret3
            exact ⟨by first | rfl | (simp; done) | (simp [*]; done), by repeat (first | exact Drawn0.refl _ | apply Drawn0.step)⟩
      · rw [if_neg c27] at H
        have c27b0 : decide (3 ≤ a0) = false := decide_eq_false c27
        clear c27
        by_cases c30 : a0 = 21
        · rw [if_pos c30] at H
          have c30b0 : (a0 == 21) = true := beq_iff_eq.mpr c30
          have c30b1 : (a0 != 21) = false := bne_eq_false_iff_eq.mpr c30
          clear c30
          simp only [Option.some.injEq, Prod.mk.injEq] at H
          obtain ⟨rfl, rfl, rfl⟩ := H
          go_enter Try.func56, Try.ntmps56
          go_wp2
          go_ret3
          exact ⟨by first | rfl | (simp; done) | (simp [*]; done), by repeat (first | exact Drawn0.refl _ | apply Drawn0.step)⟩
        · rw [if_neg c30] at H
          have c30b0 : (a0 == 21) = false := beq_eq_false_iff_ne.mpr c30
          have c30b1 : (a0 != 21) = true := bne_iff_ne.mpr c30
          simp only [Option.some.injEq, Prod.mk.injEq] at H
          obtain ⟨rfl, rfl, rfl⟩ := H
          go_enter Try.func56, Try.ntmps56
          go_wp2
          go_ret3
          exact ⟨by first | rfl | (simp; done) | (simp [*]; done), by repeat (first | exact Drawn0.refl _ | apply Drawn0.step)⟩

/-! ### pintleref15_fits: function 73 -/
def pintleref15_fits.f (a0 : Int) (a1 : Bool) : Option (Bool) := if a0 ≥ 0 then (if a0 < 64 then (if a1 = true then (some true) else (some (a0 == 0))) else (some false)) else (some false)
set_option maxHeartbeats 8000000 in
set_option maxRecDepth 100000 in
theorem pintleref15_fits.calls (a0 : Int) (a1 : Bool) (r : Bool) (w : World) (h : pintleref15_fits.f a0 a1 = some r) :
    Calls Try.prog 73 #[.int .i64 a0, .bool a1] w fun e w' => e = .returned (.bool r) ∧ Drawn0 w w' := by
  have H : (if a0 ≥ 0 then (if a0 < 64 then (if a1 = true then (some true) else (some (a0 == 0))) else (some false)) else (some false)) = some r := h
  clear h
  by_cases c3 : a0 ≥ 0
  · rw [if_pos c3] at H
    have c3b0 : decide (0 ≤ a0) = true := decide_eq_true c3
    clear c3
    by_cases c4 : a0 < 64
    · rw [if_pos c4] at H
      have c4b0 : decide (a0 < 64) = true := decide_eq_true c4
      clear c4
      by_cases c5 : a1 = true
      · subst c5
        have H1 : (some true) = some r := by rw [if_pos rfl] at H; exact H
        clear H
        have H := H1
        clear H1
        obtain rfl := Option.some.inj H
        go_enter Try.func73, Try.ntmps73
        go_wp2
        go_ret
        exact ⟨by first | rfl | (simp; done) | (simp [*]; done), by repeat (first | exact Drawn0.refl _ | apply Drawn0.step)⟩
      · replace c5 := Bool.eq_false_iff.mpr c5
        subst c5
        have H1 : (some (a0 == 0)) = some r := by rw [if_neg (show ¬ (false = true) by decide)] at H; exact H
        clear H
        have H := H1
        clear H1
        obtain rfl := Option.some.inj H
        go_enter Try.func73, Try.ntmps73
        go_wp2
        go_ret
        exact ⟨by first | rfl | (simp; done) | (simp [*]; done), by repeat (first | exact Drawn0.refl _ | apply Drawn0.step)⟩
    · rw [if_neg c4] at H
      have c4b0 : decide (a0 < 64) = false := decide_eq_false c4
      clear c4
      obtain rfl := Option.some.inj H
      go_enter Try.func73, Try.ntmps73
      go_wp2
      go_ret
      exact ⟨by first | rfl | (simp; done) | (simp [*]; done), by repeat (first | exact Drawn0.refl _ | apply Drawn0.step)⟩
  · rw [if_neg c3] at H
    have c3b0 : decide (0 ≤ a0) = false := decide_eq_false c3
    clear c3
    obtain rfl := Option.some.inj H
    go_enter Try.func73, Try.ntmps73
    go_wp2
    go_ret
    exact ⟨by first | rfl | (simp; done) | (simp [*]; done), by repeat (first | exact Drawn0.refl _ | apply Drawn0.step)⟩

end Go.Proofs.Ytpeljnnbknnbmaa.PD
