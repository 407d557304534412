-- Written by pr.py, a driver around the kit's printer, for this seat. Not trusted: Lean checks it.
import Derived.Test.YtpeljnnbknnbmaaPAx0
import Derived.Test.YtpeljnnbknnbmaaPAx6
namespace Go.Proofs.Ytpeljnnbknnbmaa.PA
open Go.RowKit Go.Proofs.YtpeljnnbknnbmaaW.PrintWords Go.Proofs.YtpeljnnbknnbmaaW.PrintLast Go.Proofs.YtpeljnnbknnbmaaW.PrintMore
attribute [local go_sem] max2_int min2_int max_two min_two max_three min_three max_four min_four   -- for this text's walks alone
set_option linter.unusedVariables false
set_option linter.unusedSimpArgs false

/-! ### pintleref01_more: function 114 -/
def pintleref01_more.f (a0 : Int) (a1 : Int) (a2 : Int) (a3 : Int) (a4 : Int) : Option (Int × Bool) := (pintleref01_div.f a1 a2).bind fun bt160 => ((pintleref01_div.f a3 a4).bind fun bt162 => (if a0 = 11 then ((pintleref01_Word.f (wrap64 (a1 * a2))).bind fun t164 => (some (t164, true))) else (if a0 = 12 then ((pintleref01_floor.f (wrap64 (a1 * a2)) 32).bind fun t165 => ((pintleref01_Word.f t165).bind fun t166 => (some (t166, true)))) else (if a0 = 13 then ((pintleref01_floor.f (wrap64 (a1 * a4)) 32).bind fun t167 => ((pintleref01_Word.f t167).bind fun t168 => (some (t168, true)))) else (if a0 = 14 then (some ((IntKind.u64.wrap (Int.tdiv (IntKind.u64.wrap ((IntKind.u64.wrap (a3)) * (IntKind.u64.wrap (a4)))) 4294967296)) % 4294967296, true)) else (if a0 = 15 then ((pintleref01_Word.f bt160.1).bind fun t169 => (some (t169, true))) else (if a0 = 16 then ((pintleref01_Word.f bt162.1).bind fun t170 => (some (t170, true))) else (if a0 = 17 then ((pintleref01_Word.f bt160.2).bind fun t171 => (some (t171, true))) else (if a0 = 18 then ((pintleref01_Word.f bt162.2).bind fun t172 => (some (t172, true))) else (some (0, false)))))))))))
set_option maxHeartbeats 8000000 in
set_option maxRecDepth 100000 in
theorem pintleref01_more.calls (a0 : Int) (a1 : Int) (a2 : Int) (a3 : Int) (a4 : Int) (r1 : Int) (r2 : Bool) (w : World) (h : pintleref01_more.f a0 a1 a2 a3 a4 = some (r1, r2)) :
    Calls Try.prog 114 #[.int .i64 a0, .int .i64 a1, .int .i64 a2, .int .i64 a3, .int .i64 a4] w fun e w' => e = .returned (.tuple #[.int .u32 r1, .bool r2]) ∧ Drawn0 w w' := by
  have H : ((pintleref01_div.f a1 a2).bind fun bt160 => ((pintleref01_div.f a3 a4).bind fun bt162 => (if a0 = 11 then ((pintleref01_Word.f (wrap64 (a1 * a2))).bind fun t164 => (some (t164, true))) else (if a0 = 12 then ((pintleref01_floor.f (wrap64 (a1 * a2)) 32).bind fun t165 => ((pintleref01_Word.f t165).bind fun t166 => (some (t166, true)))) else (if a0 = 13 then ((pintleref01_floor.f (wrap64 (a1 * a4)) 32).bind fun t167 => ((pintleref01_Word.f t167).bind fun t168 => (some (t168, true)))) else (if a0 = 14 then (some ((IntKind.u64.wrap (Int.tdiv (IntKind.u64.wrap ((IntKind.u64.wrap (a3)) * (IntKind.u64.wrap (a4)))) 4294967296)) % 4294967296, true)) else (if a0 = 15 then ((pintleref01_Word.f bt160.1).bind fun t169 => (some (t169, true))) else (if a0 = 16 then ((pintleref01_Word.f bt162.1).bind fun t170 => (some (t170, true))) else (if a0 = 17 then ((pintleref01_Word.f bt160.2).bind fun t171 => (some (t171, true))) else (if a0 = 18 then ((pintleref01_Word.f bt162.2).bind fun t172 => (some (t172, true))) else (some (0, false)))))))))))) = some (r1, r2) := h
  clear h
  replace H := Option.bind_eq_some_iff.mp H
  obtain ⟨⟨t160, t161⟩, A60, H⟩ := H
  replace H : ((pintleref01_div.f a3 a4).bind fun bt162 => (if a0 = 11 then ((pintleref01_Word.f (wrap64 (a1 * a2))).bind fun t164 => (some (t164, true))) else (if a0 = 12 then ((pintleref01_floor.f (wrap64 (a1 * a2)) 32).bind fun t165 => ((pintleref01_Word.f t165).bind fun t166 => (some (t166, true)))) else (if a0 = 13 then ((pintleref01_floor.f (wrap64 (a1 * a4)) 32).bind fun t167 => ((pintleref01_Word.f t167).bind fun t168 => (some (t168, true)))) else (if a0 = 14 then (some ((IntKind.u64.wrap (Int.tdiv (IntKind.u64.wrap ((IntKind.u64.wrap (a3)) * (IntKind.u64.wrap (a4)))) 4294967296)) % 4294967296, true)) else (if a0 = 15 then ((pintleref01_Word.f t160).bind fun t169 => (some (t169, true))) else (if a0 = 16 then ((pintleref01_Word.f bt162.1).bind fun t170 => (some (t170, true))) else (if a0 = 17 then ((pintleref01_Word.f t161).bind fun t171 => (some (t171, true))) else (if a0 = 18 then ((pintleref01_Word.f bt162.2).bind fun t172 => (some (t172, true))) else (some (0, false))))))))))) = some (r1, r2) := H
  have A6 := Aside0.mk A60
  clear A60
  replace H := Option.bind_eq_some_iff.mp H
  obtain ⟨⟨t162, t163⟩, A70, H⟩ := H
  replace H : (if a0 = 11 then ((pintleref01_Word.f (wrap64 (a1 * a2))).bind fun t164 => (some (t164, true))) else (if a0 = 12 then ((pintleref01_floor.f (wrap64 (a1 * a2)) 32).bind fun t165 => ((pintleref01_Word.f t165).bind fun t166 => (some (t166, true)))) else (if a0 = 13 then ((pintleref01_floor.f (wrap64 (a1 * a4)) 32).bind fun t167 => ((pintleref01_Word.f t167).bind fun t168 => (some (t168, true)))) else (if a0 = 14 then (some ((IntKind.u64.wrap (Int.tdiv (IntKind.u64.wrap ((IntKind.u64.wrap (a3)) * (IntKind.u64.wrap (a4)))) 4294967296)) % 4294967296, true)) else (if a0 = 15 then ((pintleref01_Word.f t160).bind fun t169 => (some (t169, true))) else (if a0 = 16 then ((pintleref01_Word.f t162).bind fun t170 => (some (t170, true))) else (if a0 = 17 then ((pintleref01_Word.f t161).bind fun t171 => (some (t171, true))) else (if a0 = 18 then ((pintleref01_Word.f t163).bind fun t172 => (some (t172, true))) else (some (0, false)))))))))) = some (r1, r2) := H
  have A7 := Aside0.mk A70
  clear A70
  by_cases c8 : a0 = 11
  · rw [if_pos c8] at H
    have c8b0 : (a0 == 11) = true := beq_iff_eq.mpr c8
    have c8b1 : (a0 != 11) = false := bne_eq_false_iff_eq.mpr c8
    clear c8
    replace H := Option.bind_eq_some_iff.mp H
    obtain ⟨t164, A90, H⟩ := H
    replace H : (some (t164, true)) = some (r1, r2) := H
    have A9 := Aside0.mk A90
    clear A90
    simp only [Option.some.injEq, Prod.mk.injEq] at H
    obtain ⟨rfl, rfl⟩ := H
    go_enter Try.func114, Try.ntmps114
    go_wp2_with (first | ((with_reducible refine gate_callee (f := 120) rfl ?_); refine goesL_ (some 19) rfl rfl Try.func120 (by kernel_rfl) rfl #[.int .i64 a1, .int .i64 a2] rfl (by (try simp only [List.map_toArray, List.map_cons, List.map_nil]); first | done | rfl | (simp only [List.length_drop, List.length_take]; rfl)) ?_; (with_reducible refine (pintleref01_div.calls a1 a2 t160 t161 _ A6.out).mono ?_); rintro e w' ⟨rfl, ⟨nd, rfl⟩⟩; refine ⟨_, rfl, ?_⟩) | ((with_reducible refine gate_callee (f := 120) rfl ?_); refine goesL_ (some 25) rfl rfl Try.func120 (by kernel_rfl) rfl #[.int .i64 a3, .int .i64 a4] rfl (by (try simp only [List.map_toArray, List.map_cons, List.map_nil]); first | done | rfl | (simp only [List.length_drop, List.length_take]; rfl)) ?_; (with_reducible refine (pintleref01_div.calls a3 a4 t162 t163 _ A7.out).mono ?_); rintro e w' ⟨rfl, ⟨nd, rfl⟩⟩; refine ⟨_, rfl, ?_⟩) | ((with_reducible refine gate_callee (f := 75) rfl ?_); refine goesL_ (some 34) rfl rfl Try.func75 (by kernel_rfl) rfl #[.int .i64 (wrap64 (a1 * a2))] rfl (by (try simp only [List.map_toArray, List.map_cons, List.map_nil]); first | done | rfl | (simp only [List.length_drop, List.length_take]; rfl)) ?_; (with_reducible refine (pintleref01_Word.calls (wrap64 (a1 * a2)) t164 _ A9.out).mono ?_); rintro e w' ⟨rfl, ⟨nd, rfl⟩⟩; refine ⟨_, rfl, ?_⟩))
    go_ret2
    exact ⟨by first | rfl | (simp; done) | (simp [*]; done), by repeat (first | exact Drawn0.refl _ | apply Drawn0.step)⟩
  · rw [if_neg c8] at H
    have c8b0 : (a0 == 11) = false := beq_eq_false_iff_ne.mpr c8
    have c8b1 : (a0 != 11) = true := bne_iff_ne.mpr c8
    by_cases c10 : a0 = 12
    · rw [if_pos c10] at H
      have c10b0 : (a0 == 12) = true := beq_iff_eq.mpr c10
      have c10b1 : (a0 != 12) = false := bne_eq_false_iff_eq.mpr c10
      clear c10
      replace H := Option.bind_eq_some_iff.mp H
      obtain ⟨t165, A110, H⟩ := H
      replace H : ((pintleref01_Word.f t165).bind fun t166 => (some (t166, true))) = some (r1, r2) := H
      have A11 := Aside0.mk A110
      clear A110
      replace H := Option.bind_eq_some_iff.mp H
      obtain ⟨t166, A120, H⟩ := H
      replace H : (some (t166, true)) = some (r1, r2) := H
      have A12 := Aside0.mk A120
      clear A120
      simp only [Option.some.injEq, Prod.mk.injEq] at H
      obtain ⟨rfl, rfl⟩ := H
      go_enter Try.func114, Try.ntmps114
      go_wp2_with (first | ((with_reducible refine gate_callee (f := 120) rfl ?_); refine goesL_ (some 19) rfl rfl Try.func120 (by kernel_rfl) rfl #[.int .i64 a1, .int .i64 a2] rfl (by (try simp only [List.map_toArray, List.map_cons, List.map_nil]); first | done | rfl | (simp only [List.length_drop, List.length_take]; rfl)) ?_; (with_reducible refine (pintleref01_div.calls a1 a2 t160 t161 _ A6.out).mono ?_); rintro e w' ⟨rfl, ⟨nd, rfl⟩⟩; refine ⟨_, rfl, ?_⟩) | ((with_reducible refine gate_callee (f := 120) rfl ?_); refine goesL_ (some 25) rfl rfl Try.func120 (by kernel_rfl) rfl #[.int .i64 a3, .int .i64 a4] rfl (by (try simp only [List.map_toArray, List.map_cons, List.map_nil]); first | done | rfl | (simp only [List.length_drop, List.length_take]; rfl)) ?_; (with_reducible refine (pintleref01_div.calls a3 a4 t162 t163 _ A7.out).mono ?_); rintro e w' ⟨rfl, ⟨nd, rfl⟩⟩; refine ⟨_, rfl, ?_⟩) | ((with_reducible refine gate_callee (f := 113) rfl ?_); refine goesL_ (some 40) rfl rfl Try.func113 (by kernel_rfl) rfl #[.int .i64 (wrap64 (a1 * a2)), .int .i64 32] rfl (by (try simp only [List.map_toArray, List.map_cons, List.map_nil]); first | done | rfl | (simp only [List.length_drop, List.length_take]; rfl)) ?_; (with_reducible refine (pintleref01_floor.calls (wrap64 (a1 * a2)) 32 t165 _ A11.out).mono ?_); rintro e w' ⟨rfl, ⟨nd, rfl⟩⟩; refine ⟨_, rfl, ?_⟩) | ((with_reducible refine gate_callee (f := 75) rfl ?_); refine goesL_ (some 41) rfl rfl Try.func75 (by kernel_rfl) rfl #[.int .i64 t165] rfl (by (try simp only [List.map_toArray, List.map_cons, List.map_nil]); first | done | rfl | (simp only [List.length_drop, List.length_take]; rfl)) ?_; (with_reducible refine (pintleref01_Word.calls t165 t166 _ A12.out).mono ?_); rintro e w' ⟨rfl, ⟨nd, rfl⟩⟩; refine ⟨_, rfl, ?_⟩))
      go_ret2
      exact ⟨by first | rfl | (simp; done) | (simp [*]; done), by repeat (first | exact Drawn0.refl _ | apply Drawn0.step)⟩
    · rw [if_neg c10] at H
      have c10b0 : (a0 == 12) = false := beq_eq_false_iff_ne.mpr c10
      have c10b1 : (a0 != 12) = true := bne_iff_ne.mpr c10
      by_cases c13 : a0 = 13
      · rw [if_pos c13] at H
        have c13b0 : (a0 == 13) = true := beq_iff_eq.mpr c13
        have c13b1 : (a0 != 13) = false := bne_eq_false_iff_eq.mpr c13
        clear c13
        replace H := Option.bind_eq_some_iff.mp H
        obtain ⟨t167, A140, H⟩ := H
        replace H : ((pintleref01_Word.f t167).bind fun t168 => (some (t168, true))) = some (r1, r2) := H
        have A14 := Aside0.mk A140
        clear A140
        replace H := Option.bind_eq_some_iff.mp H
        obtain ⟨t168, A150, H⟩ := H
        replace H : (some (t168, true)) = some (r1, r2) := H
        have A15 := Aside0.mk A150
        clear A150
        simp only [Option.some.injEq, Prod.mk.injEq] at H
        obtain ⟨rfl, rfl⟩ := H
        go_enter Try.func114, Try.ntmps114
        go_wp2_with (first | ((with_reducible refine gate_callee (f := 120) rfl ?_); refine goesL_ (some 19) rfl rfl Try.func120 (by kernel_rfl) rfl #[.int .i64 a1, .int .i64 a2] rfl (by (try simp only [List.map_toArray, List.map_cons, List.map_nil]); first | done | rfl | (simp only [List.length_drop, List.length_take]; rfl)) ?_; (with_reducible refine (pintleref01_div.calls a1 a2 t160 t161 _ A6.out).mono ?_); rintro e w' ⟨rfl, ⟨nd, rfl⟩⟩; refine ⟨_, rfl, ?_⟩) | ((with_reducible refine gate_callee (f := 120) rfl ?_); refine goesL_ (some 25) rfl rfl Try.func120 (by kernel_rfl) rfl #[.int .i64 a3, .int .i64 a4] rfl (by (try simp only [List.map_toArray, List.map_cons, List.map_nil]); first | done | rfl | (simp only [List.length_drop, List.length_take]; rfl)) ?_; (with_reducible refine (pintleref01_div.calls a3 a4 t162 t163 _ A7.out).mono ?_); rintro e w' ⟨rfl, ⟨nd, rfl⟩⟩; refine ⟨_, rfl, ?_⟩) | ((with_reducible refine gate_callee (f := 113) rfl ?_); refine goesL_ (some 47) rfl rfl Try.func113 (by kernel_rfl) rfl #[.int .i64 (wrap64 (a1 * a4)), .int .i64 32] rfl (by (try simp only [List.map_toArray, List.map_cons, List.map_nil]); first | done | rfl | (simp only [List.length_drop, List.length_take]; rfl)) ?_; (with_reducible refine (pintleref01_floor.calls (wrap64 (a1 * a4)) 32 t167 _ A14.out).mono ?_); rintro e w' ⟨rfl, ⟨nd, rfl⟩⟩; refine ⟨_, rfl, ?_⟩) | ((with_reducible refine gate_callee (f := 75) rfl ?_); refine goesL_ (some 48) rfl rfl Try.func75 (by kernel_rfl) rfl #[.int .i64 t167] rfl (by (try simp only [List.map_toArray, List.map_cons, List.map_nil]); first | done | rfl | (simp only [List.length_drop, List.length_take]; rfl)) ?_; (with_reducible refine (pintleref01_Word.calls t167 t168 _ A15.out).mono ?_); rintro e w' ⟨rfl, ⟨nd, rfl⟩⟩; refine ⟨_, rfl, ?_⟩))
        go_ret2
        exact ⟨by first | rfl | (simp; done) | (simp [*]; done), by repeat (first | exact Drawn0.refl _ | apply Drawn0.step)⟩
      · rw [if_neg c13] at H
        have c13b0 : (a0 == 13) = false := beq_eq_false_iff_ne.mpr c13
        have c13b1 : (a0 != 13) = true := bne_iff_ne.mpr c13
        by_cases c16 : a0 = 14
        · rw [if_pos c16] at H
          have c16b0 : (a0 == 14) = true := beq_iff_eq.mpr c16
          have c16b1 : (a0 != 14) = false := bne_eq_false_iff_eq.mpr c16
          clear c16
          simp only [Option.some.injEq, Prod.mk.injEq] at H
          obtain ⟨rfl, rfl⟩ := H
          go_enter Try.func114, Try.ntmps114
          go_wp2_with (first | ((with_reducible refine gate_callee (f := 120) rfl ?_); refine goesL_ (some 19) rfl rfl Try.func120 (by kernel_rfl) rfl #[.int .i64 a1, .int .i64 a2] rfl (by (try simp only [List.map_toArray, List.map_cons, List.map_nil]); first | done | rfl | (simp only [List.length_drop, List.length_take]; rfl)) ?_; (with_reducible refine (pintleref01_div.calls a1 a2 t160 t161 _ A6.out).mono ?_); rintro e w' ⟨rfl, ⟨nd, rfl⟩⟩; refine ⟨_, rfl, ?_⟩) | ((with_reducible refine gate_callee (f := 120) rfl ?_); refine goesL_ (some 25) rfl rfl Try.func120 (by kernel_rfl) rfl #[.int .i64 a3, .int .i64 a4] rfl (by (try simp only [List.map_toArray, List.map_cons, List.map_nil]); first | done | rfl | (simp only [List.length_drop, List.length_take]; rfl)) ?_; (with_reducible refine (pintleref01_div.calls a3 a4 t162 t163 _ A7.out).mono ?_); rintro e w' ⟨rfl, ⟨nd, rfl⟩⟩; refine ⟨_, rfl, ?_⟩))
          go_ret2
          exact ⟨by first | rfl | (simp; done) | (simp [*]; done), by repeat (first | exact Drawn0.refl _ | apply Drawn0.step)⟩
        · rw [if_neg c16] at H
          have c16b0 : (a0 == 14) = false := beq_eq_false_iff_ne.mpr c16
          have c16b1 : (a0 != 14) = true := bne_iff_ne.mpr c16
          by_cases c17 : a0 = 15
          · rw [if_pos c17] at H
            have c17b0 : (a0 == 15) = true := beq_iff_eq.mpr c17
            have c17b1 : (a0 != 15) = false := bne_eq_false_iff_eq.mpr c17
            clear c17
            replace H := Option.bind_eq_some_iff.mp H
            obtain ⟨t169, A180, H⟩ := H
            replace H : (some (t169, true)) = some (r1, r2) := H
            have A18 := Aside0.mk A180
            clear A180
            simp only [Option.some.injEq, Prod.mk.injEq] at H
            obtain ⟨rfl, rfl⟩ := H
            go_enter Try.func114, Try.ntmps114
            go_wp2_with (first | ((with_reducible refine gate_callee (f := 120) rfl ?_); refine goesL_ (some 19) rfl rfl Try.func120 (by kernel_rfl) rfl #[.int .i64 a1, .int .i64 a2] rfl (by (try simp only [List.map_toArray, List.map_cons, List.map_nil]); first | done | rfl | (simp only [List.length_drop, List.length_take]; rfl)) ?_; (with_reducible refine (pintleref01_div.calls a1 a2 t160 t161 _ A6.out).mono ?_); rintro e w' ⟨rfl, ⟨nd, rfl⟩⟩; refine ⟨_, rfl, ?_⟩) | ((with_reducible refine gate_callee (f := 120) rfl ?_); refine goesL_ (some 25) rfl rfl Try.func120 (by kernel_rfl) rfl #[.int .i64 a3, .int .i64 a4] rfl (by (try simp only [List.map_toArray, List.map_cons, List.map_nil]); first | done | rfl | (simp only [List.length_drop, List.length_take]; rfl)) ?_; (with_reducible refine (pintleref01_div.calls a3 a4 t162 t163 _ A7.out).mono ?_); rintro e w' ⟨rfl, ⟨nd, rfl⟩⟩; refine ⟨_, rfl, ?_⟩) | ((with_reducible refine gate_callee (f := 75) rfl ?_); refine goesL_ (some 61) rfl rfl Try.func75 (by kernel_rfl) rfl #[.int .i64 t160] rfl (by (try simp only [List.map_toArray, List.map_cons, List.map_nil]); first | done | rfl | (simp only [List.length_drop, List.length_take]; rfl)) ?_; (with_reducible refine (pintleref01_Word.calls t160 t169 _ A18.out).mono ?_); rintro e w' ⟨rfl, ⟨nd, rfl⟩⟩; refine ⟨_, rfl, ?_⟩))
            go_ret2
            exact ⟨by first | rfl | (simp; done) | (simp [*]; done), by repeat (first | exact Drawn0.refl _ | apply Drawn0.step)⟩
          · rw [if_neg c17] at H
            have c17b0 : (a0 == 15) = false := beq_eq_false_iff_ne.mpr c17
            have c17b1 : (a0 != 15) = true := bne_iff_ne.mpr c17
            by_cases c19 : a0 = 16
            · rw [if_pos c19] at H
              have c19b0 : (a0 == 16) = true := beq_iff_eq.mpr c19
              have c19b1 : (a0 != 16) = false := bne_eq_false_iff_eq.mpr c19
              clear c19
              replace H := Option.bind_eq_some_iff.mp H
              obtain ⟨t170, A200, H⟩ := H
              replace H : (some (t170, true)) = some (r1, r2) := H
              have A20 := Aside0.mk A200
              clear A200
              simp only [Option.some.injEq, Prod.mk.injEq] at H
              obtain ⟨rfl, rfl⟩ := H
              go_enter Try.func114, Try.ntmps114
              go_wp2_with (first | ((with_reducible refine gate_callee (f := 120) rfl ?_); refine goesL_ (some 19) rfl rfl Try.func120 (by kernel_rfl) rfl #[.int .i64 a1, .int .i64 a2] rfl (by (try simp only [List.map_toArray, List.map_cons, List.map_nil]); first | done | rfl | (simp only [List.length_drop, List.length_take]; rfl)) ?_; (with_reducible refine (pintleref01_div.calls a1 a2 t160 t161 _ A6.out).mono ?_); rintro e w' ⟨rfl, ⟨nd, rfl⟩⟩; refine ⟨_, rfl, ?_⟩) | ((with_reducible refine gate_callee (f := 120) rfl ?_); refine goesL_ (some 25) rfl rfl Try.func120 (by kernel_rfl) rfl #[.int .i64 a3, .int .i64 a4] rfl (by (try simp only [List.map_toArray, List.map_cons, List.map_nil]); first | done | rfl | (simp only [List.length_drop, List.length_take]; rfl)) ?_; (with_reducible refine (pintleref01_div.calls a3 a4 t162 t163 _ A7.out).mono ?_); rintro e w' ⟨rfl, ⟨nd, rfl⟩⟩; refine ⟨_, rfl, ?_⟩) | ((with_reducible refine gate_callee (f := 75) rfl ?_); refine goesL_ (some 65) rfl rfl Try.func75 (by kernel_rfl) rfl #[.int .i64 t162] rfl (by (try simp only [List.map_toArray, List.map_cons, List.map_nil]); first | done | rfl | (simp only [List.length_drop, List.length_take]; rfl)) ?_; (with_reducible refine (pintleref01_Word.calls t162 t170 _ A20.out).mono ?_); rintro e w' ⟨rfl, ⟨nd, rfl⟩⟩; refine ⟨_, rfl, ?_⟩))
              go_ret2
              exact ⟨by first | rfl | (simp; done) | (simp [*]; done), by repeat (first | exact Drawn0.refl _ | apply Drawn0.step)⟩
            · rw [if_neg c19] at H
              have c19b0 : (a0 == 16) = false := beq_eq_false_iff_ne.mpr c19
              have c19b1 : (a0 != 16) = true := bne_iff_ne.mpr c19
              by_cases c21 : a0 = 17
              · rw [if_pos c21] at H
                have c21b0 : (a0 == 17) = true := beq_iff_eq.mpr c21
                have c21b1 : (a0 != 17) = false := bne_eq_false_iff_eq.mpr c21
                clear c21
                replace H := Option.bind_eq_some_iff.mp H
                obtain ⟨t171, A220, H⟩ := H
                replace H : (some (t171, true)) = some (r1, r2) := H
                have A22 := Aside0.mk A220
                clear A220
                simp only [Option.some.injEq, Prod.mk.injEq] at H
                obtain ⟨rfl, rfl⟩ := H
                go_enter Try.func114, Try.ntmps114
                go_wp2_with (first | ((with_reducible refine gate_callee (f := 120) rfl ?_); refine goesL_ (some 19) rfl rfl Try.func120 (by kernel_rfl) rfl #[.int .i64 a1, .int .i64 a2] rfl (by (try simp only [List.map_toArray, List.map_cons, List.map_nil]); first | done | rfl | (simp only [List.length_drop, List.length_take]; rfl)) ?_; (with_reducible refine (pintleref01_div.calls a1 a2 t160 t161 _ A6.out).mono ?_); rintro e w' ⟨rfl, ⟨nd, rfl⟩⟩; refine ⟨_, rfl, ?_⟩) | ((with_reducible refine gate_callee (f := 120) rfl ?_); refine goesL_ (some 25) rfl rfl Try.func120 (by kernel_rfl) rfl #[.int .i64 a3, .int .i64 a4] rfl (by (try simp only [List.map_toArray, List.map_cons, List.map_nil]); first | done | rfl | (simp only [List.length_drop, List.length_take]; rfl)) ?_; (with_reducible refine (pintleref01_div.calls a3 a4 t162 t163 _ A7.out).mono ?_); rintro e w' ⟨rfl, ⟨nd, rfl⟩⟩; refine ⟨_, rfl, ?_⟩) | ((with_reducible refine gate_callee (f := 75) rfl ?_); refine goesL_ (some 69) rfl rfl Try.func75 (by kernel_rfl) rfl #[.int .i64 t161] rfl (by (try simp only [List.map_toArray, List.map_cons, List.map_nil]); first | done | rfl | (simp only [List.length_drop, List.length_take]; rfl)) ?_; (with_reducible refine (pintleref01_Word.calls t161 t171 _ A22.out).mono ?_); rintro e w' ⟨rfl, ⟨nd, rfl⟩⟩; refine ⟨_, rfl, ?_⟩))
                go_ret2
                exact ⟨by first | rfl | (simp; done) | (simp [*]; done), by repeat (first | exact Drawn0.refl _ | apply Drawn0.step)⟩
              · rw [if_neg c21] at H
                have c21b0 : (a0 == 17) = false := beq_eq_false_iff_ne.mpr c21
                have c21b1 : (a0 != 17) = true := bne_iff_ne.mpr c21
                by_cases c23 : a0 = 18
                · rw [if_pos c23] at H
                  have c23b0 : (a0 == 18) = true := beq_iff_eq.mpr c23
                  have c23b1 : (a0 != 18) = false := bne_eq_false_iff_eq.mpr c23
                  clear c23
                  replace H := Option.bind_eq_some_iff.mp H
                  obtain ⟨t172, A240, H⟩ := H
                  replace H : (some (t172, true)) = some (r1, r2) := H
                  have A24 := Aside0.mk A240
                  clear A240
                  simp only [Option.some.injEq, Prod.mk.injEq] at H
                  obtain ⟨rfl, rfl⟩ := H
                  go_enter Try.func114, Try.ntmps114
                  go_wp2_with (first | ((with_reducible refine gate_callee (f := 120) rfl ?_); refine goesL_ (some 19) rfl rfl Try.func120 (by kernel_rfl) rfl #[.int .i64 a1, .int .i64 a2] rfl (by (try simp only [List.map_toArray, List.map_cons, List.map_nil]); first | done | rfl | (simp only [List.length_drop, List.length_take]; rfl)) ?_; (with_reducible refine (pintleref01_div.calls a1 a2 t160 t161 _ A6.out).mono ?_); rintro e w' ⟨rfl, ⟨nd, rfl⟩⟩; refine ⟨_, rfl, ?_⟩) | ((with_reducible refine gate_callee (f := 120) rfl ?_); refine goesL_ (some 25) rfl rfl Try.func120 (by kernel_rfl) rfl #[.int .i64 a3, .int .i64 a4] rfl (by (try simp only [List.map_toArray, List.map_cons, List.map_nil]); first | done | rfl | (simp only [List.length_drop, List.length_take]; rfl)) ?_; (with_reducible refine (pintleref01_div.calls a3 a4 t162 t163 _ A7.out).mono ?_); rintro e w' ⟨rfl, ⟨nd, rfl⟩⟩; refine ⟨_, rfl, ?_⟩) | ((with_reducible refine gate_callee (f := 75) rfl ?_); refine goesL_ (some 73) rfl rfl Try.func75 (by kernel_rfl) rfl #[.int .i64 t163] rfl (by (try simp only [List.map_toArray, List.map_cons, List.map_nil]); first | done | rfl | (simp only [List.length_drop, List.length_take]; rfl)) ?_; (with_reducible refine (pintleref01_Word.calls t163 t172 _ A24.out).mono ?_); rintro e w' ⟨rfl, ⟨nd, rfl⟩⟩; refine ⟨_, rfl, ?_⟩))
                  go_ret2
                  exact ⟨by first | rfl | (simp; done) | (simp [*]; done), by repeat (first | exact Drawn0.refl _ | apply Drawn0.step)⟩
                · rw [if_neg c23] at H
                  have c23b0 : (a0 == 18) = false := beq_eq_false_iff_ne.mpr c23
                  have c23b1 : (a0 != 18) = true := bne_iff_ne.mpr c23
                  simp only [Option.some.injEq, Prod.mk.injEq] at H
                  obtain ⟨rfl, rfl⟩ := H
                  go_enter Try.func114, Try.ntmps114
                  go_wp2_with (first | ((with_reducible refine gate_callee (f := 120) rfl ?_); refine goesL_ (some 19) rfl rfl Try.func120 (by kernel_rfl) rfl #[.int .i64 a1, .int .i64 a2] rfl (by (try simp only [List.map_toArray, List.map_cons, List.map_nil]); first | done | rfl | (simp only [List.length_drop, List.length_take]; rfl)) ?_; (with_reducible refine (pintleref01_div.calls a1 a2 t160 t161 _ A6.out).mono ?_); rintro e w' ⟨rfl, ⟨nd, rfl⟩⟩; refine ⟨_, rfl, ?_⟩) | ((with_reducible refine gate_callee (f := 120) rfl ?_); refine goesL_ (some 25) rfl rfl Try.func120 (by kernel_rfl) rfl #[.int .i64 a3, .int .i64 a4] rfl (by (try simp only [List.map_toArray, List.map_cons, List.map_nil]); first | done | rfl | (simp only [List.length_drop, List.length_take]; rfl)) ?_; (with_reducible refine (pintleref01_div.calls a3 a4 t162 t163 _ A7.out).mono ?_); rintro e w' ⟨rfl, ⟨nd, rfl⟩⟩; refine ⟨_, rfl, ?_⟩))
                  go_ret2
                  exact ⟨by first | rfl | (simp; done) | (simp [*]; done), by repeat (first | exact Drawn0.refl _ | apply Drawn0.step)⟩

/-! ### pintleref01_Alu: function 90 -/
def pintleref01_Alu.f (k : Nat) (a0 : Int) (a1 : Int) (a2 : Int) : Option (Int × Bool) := (pintleref01_Signed.f a1).bind fun t173 => ((pintleref01_Signed.f a2).bind fun t174 => (if a0 = 1 then ((pintleref01_Word.f (wrap64 ((wrap64 (a1)) + (wrap64 (a2))))).bind fun t175 => (some (t175, true))) else (if a0 = 2 then ((pintleref01_Word.f (wrap64 ((wrap64 (a1)) - (wrap64 (a2))))).bind fun t176 => (some (t176, true))) else (if a0 = 3 then (if 0 ≤ (IntKind.u64.wrap (wrap64 (Int.tmod a2 32))) then ((pintleref01_Word.f (wrap64 ((wrap64 (a1)) * (shl .i64 1 (IntKind.u64.wrap (wrap64 (Int.tmod a2 32))))))).bind fun t177 => (some (t177, true))) else (none)) else (if a0 = 4 then ((pintleref01_one.f (decide (t173 < t174))).bind fun t178 => ((pintleref01_Word.f t178).bind fun t179 => (some (t179, true)))) else (if a0 = 5 then ((pintleref01_one.f (decide ((wrap64 (a1)) < (wrap64 (a2))))).bind fun t180 => ((pintleref01_Word.f t180).bind fun t181 => (some (t181, true)))) else (if a0 = 6 then ((pintleref01_bits.f k a1 a2 0 1 0).bind fun t182 => (some (t182, true))) else (if a0 = 7 then (if 0 ≤ (IntKind.u64.wrap (wrap64 (Int.tmod a2 32))) then (if (shl .i64 1 (IntKind.u64.wrap (wrap64 (Int.tmod a2 32)))) = 0 then (none) else ((pintleref01_Word.f (wrap64 (Int.tdiv (wrap64 (a1)) (shl .i64 1 (IntKind.u64.wrap (wrap64 (Int.tmod a2 32))))))).bind fun t183 => (some (t183, true)))) else (none)) else (if a0 = 8 then ((pintleref01_floor.f t173 (wrap64 (Int.tmod a2 32))).bind fun t184 => ((pintleref01_Word.f t184).bind fun t185 => (some (t185, true)))) else (if a0 = 9 then ((pintleref01_bits.f k a1 a2 0 1 1).bind fun t186 => (some (t186, true))) else (if a0 = 10 then ((pintleref01_bits.f k a1 a2 0 0 1).bind fun t187 => (some (t187, true))) else ((pintleref01_more.f a0 t173 t174 (wrap64 (a1)) (wrap64 (a2))).bind fun bt188 => (some (bt188.1, bt188.2))))))))))))))
theorem pintleref01_Alu.mono : ∀ a0 a1 a2 k, LeO (pintleref01_Alu.f k a0 a1 a2) (pintleref01_Alu.f (k + 1) a0 a1 a2) := by
  intro a0 a1 a2 k
  unfold pintleref01_Alu.f
  repeat' first
      | (with_reducible exact pintleref01_bits.mono _ _ _ _ _ _)
      | (with_reducible exact LeO.refl _)
      | (with_reducible exact LeO.none _)
      | (with_reducible refine LeO.ite ?_ ?_)
      | (with_reducible refine LeO.bind ?_ (fun _ => ?_))
      | exact pintleref01_bits.mono _ _ _ _ _ _
      | exact LeO.none _
      | refine LeO.ite ?_ ?_
      | refine LeO.bind ?_ (fun _ => ?_)
set_option maxHeartbeats 8000000 in
set_option maxRecDepth 100000 in
theorem pintleref01_Alu.calls (k : Nat) (a0 : Int) (a1 : Int) (a2 : Int) (r1 : Int) (r2 : Bool) (w : World) (h : pintleref01_Alu.f k a0 a1 a2 = some (r1, r2)) :
    Calls Try.prog 90 #[.int .i64 a0, .int .u32 a1, .int .u32 a2] w fun e w' => e = .returned (.tuple #[.int .u32 r1, .bool r2]) ∧ Drawn0 w w' := by
  have H : ((pintleref01_Signed.f a1).bind fun t173 => ((pintleref01_Signed.f a2).bind fun t174 => (if a0 = 1 then ((pintleref01_Word.f (wrap64 ((wrap64 (a1)) + (wrap64 (a2))))).bind fun t175 => (some (t175, true))) else (if a0 = 2 then ((pintleref01_Word.f (wrap64 ((wrap64 (a1)) - (wrap64 (a2))))).bind fun t176 => (some (t176, true))) else (if a0 = 3 then (if 0 ≤ (IntKind.u64.wrap (wrap64 (Int.tmod a2 32))) then ((pintleref01_Word.f (wrap64 ((wrap64 (a1)) * (shl .i64 1 (IntKind.u64.wrap (wrap64 (Int.tmod a2 32))))))).bind fun t177 => (some (t177, true))) else (none)) else (if a0 = 4 then ((pintleref01_one.f (decide (t173 < t174))).bind fun t178 => ((pintleref01_Word.f t178).bind fun t179 => (some (t179, true)))) else (if a0 = 5 then ((pintleref01_one.f (decide ((wrap64 (a1)) < (wrap64 (a2))))).bind fun t180 => ((pintleref01_Word.f t180).bind fun t181 => (some (t181, true)))) else (if a0 = 6 then ((pintleref01_bits.f k a1 a2 0 1 0).bind fun t182 => (some (t182, true))) else (if a0 = 7 then (if 0 ≤ (IntKind.u64.wrap (wrap64 (Int.tmod a2 32))) then (if (shl .i64 1 (IntKind.u64.wrap (wrap64 (Int.tmod a2 32)))) = 0 then (none) else ((pintleref01_Word.f (wrap64 (Int.tdiv (wrap64 (a1)) (shl .i64 1 (IntKind.u64.wrap (wrap64 (Int.tmod a2 32))))))).bind fun t183 => (some (t183, true)))) else (none)) else (if a0 = 8 then ((pintleref01_floor.f t173 (wrap64 (Int.tmod a2 32))).bind fun t184 => ((pintleref01_Word.f t184).bind fun t185 => (some (t185, true)))) else (if a0 = 9 then ((pintleref01_bits.f k a1 a2 0 1 1).bind fun t186 => (some (t186, true))) else (if a0 = 10 then ((pintleref01_bits.f k a1 a2 0 0 1).bind fun t187 => (some (t187, true))) else ((pintleref01_more.f a0 t173 t174 (wrap64 (a1)) (wrap64 (a2))).bind fun bt188 => (some (bt188.1, bt188.2))))))))))))))) = some (r1, r2) := h
  clear h
  replace H := Option.bind_eq_some_iff.mp H
  obtain ⟨t173, A40, H⟩ := H
  replace H : ((pintleref01_Signed.f a2).bind fun t174 => (if a0 = 1 then ((pintleref01_Word.f (wrap64 ((wrap64 (a1)) + (wrap64 (a2))))).bind fun t175 => (some (t175, true))) else (if a0 = 2 then ((pintleref01_Word.f (wrap64 ((wrap64 (a1)) - (wrap64 (a2))))).bind fun t176 => (some (t176, true))) else (if a0 = 3 then (if 0 ≤ (IntKind.u64.wrap (wrap64 (Int.tmod a2 32))) then ((pintleref01_Word.f (wrap64 ((wrap64 (a1)) * (shl .i64 1 (IntKind.u64.wrap (wrap64 (Int.tmod a2 32))))))).bind fun t177 => (some (t177, true))) else (none)) else (if a0 = 4 then ((pintleref01_one.f (decide (t173 < t174))).bind fun t178 => ((pintleref01_Word.f t178).bind fun t179 => (some (t179, true)))) else (if a0 = 5 then ((pintleref01_one.f (decide ((wrap64 (a1)) < (wrap64 (a2))))).bind fun t180 => ((pintleref01_Word.f t180).bind fun t181 => (some (t181, true)))) else (if a0 = 6 then ((pintleref01_bits.f k a1 a2 0 1 0).bind fun t182 => (some (t182, true))) else (if a0 = 7 then (if 0 ≤ (IntKind.u64.wrap (wrap64 (Int.tmod a2 32))) then (if (shl .i64 1 (IntKind.u64.wrap (wrap64 (Int.tmod a2 32)))) = 0 then (none) else ((pintleref01_Word.f (wrap64 (Int.tdiv (wrap64 (a1)) (shl .i64 1 (IntKind.u64.wrap (wrap64 (Int.tmod a2 32))))))).bind fun t183 => (some (t183, true)))) else (none)) else (if a0 = 8 then ((pintleref01_floor.f t173 (wrap64 (Int.tmod a2 32))).bind fun t184 => ((pintleref01_Word.f t184).bind fun t185 => (some (t185, true)))) else (if a0 = 9 then ((pintleref01_bits.f k a1 a2 0 1 1).bind fun t186 => (some (t186, true))) else (if a0 = 10 then ((pintleref01_bits.f k a1 a2 0 0 1).bind fun t187 => (some (t187, true))) else ((pintleref01_more.f a0 t173 t174 (wrap64 (a1)) (wrap64 (a2))).bind fun bt188 => (some (bt188.1, bt188.2)))))))))))))) = some (r1, r2) := H
  have A4 := Aside0.mk A40
  clear A40
  replace H := Option.bind_eq_some_iff.mp H
  obtain ⟨t174, A50, H⟩ := H
  replace H : (if a0 = 1 then ((pintleref01_Word.f (wrap64 ((wrap64 (a1)) + (wrap64 (a2))))).bind fun t175 => (some (t175, true))) else (if a0 = 2 then ((pintleref01_Word.f (wrap64 ((wrap64 (a1)) - (wrap64 (a2))))).bind fun t176 => (some (t176, true))) else (if a0 = 3 then (if 0 ≤ (IntKind.u64.wrap (wrap64 (Int.tmod a2 32))) then ((pintleref01_Word.f (wrap64 ((wrap64 (a1)) * (shl .i64 1 (IntKind.u64.wrap (wrap64 (Int.tmod a2 32))))))).bind fun t177 => (some (t177, true))) else (none)) else (if a0 = 4 then ((pintleref01_one.f (decide (t173 < t174))).bind fun t178 => ((pintleref01_Word.f t178).bind fun t179 => (some (t179, true)))) else (if a0 = 5 then ((pintleref01_one.f (decide ((wrap64 (a1)) < (wrap64 (a2))))).bind fun t180 => ((pintleref01_Word.f t180).bind fun t181 => (some (t181, true)))) else (if a0 = 6 then ((pintleref01_bits.f k a1 a2 0 1 0).bind fun t182 => (some (t182, true))) else (if a0 = 7 then (if 0 ≤ (IntKind.u64.wrap (wrap64 (Int.tmod a2 32))) then (if (shl .i64 1 (IntKind.u64.wrap (wrap64 (Int.tmod a2 32)))) = 0 then (none) else ((pintleref01_Word.f (wrap64 (Int.tdiv (wrap64 (a1)) (shl .i64 1 (IntKind.u64.wrap (wrap64 (Int.tmod a2 32))))))).bind fun t183 => (some (t183, true)))) else (none)) else (if a0 = 8 then ((pintleref01_floor.f t173 (wrap64 (Int.tmod a2 32))).bind fun t184 => ((pintleref01_Word.f t184).bind fun t185 => (some (t185, true)))) else (if a0 = 9 then ((pintleref01_bits.f k a1 a2 0 1 1).bind fun t186 => (some (t186, true))) else (if a0 = 10 then ((pintleref01_bits.f k a1 a2 0 0 1).bind fun t187 => (some (t187, true))) else ((pintleref01_more.f a0 t173 t174 (wrap64 (a1)) (wrap64 (a2))).bind fun bt188 => (some (bt188.1, bt188.2))))))))))))) = some (r1, r2) := H
  have A5 := Aside0.mk A50
  clear A50
  by_cases c6 : a0 = 1
  · rw [if_pos c6] at H
    have c6b0 : (a0 == 1) = true := beq_iff_eq.mpr c6
    have c6b1 : (a0 != 1) = false := bne_eq_false_iff_eq.mpr c6
    clear c6
    replace H := Option.bind_eq_some_iff.mp H
    obtain ⟨t175, A70, H⟩ := H
    replace H : (some (t175, true)) = some (r1, r2) := H
    have A7 := Aside0.mk A70
    clear A70
    simp only [Option.some.injEq, Prod.mk.injEq] at H
    obtain ⟨rfl, rfl⟩ := H
    go_enter Try.func90, Try.ntmps90
    go_wp2_with (first | ((with_reducible refine gate_callee (f := 74) rfl ?_); refine goesL_ (some 14) rfl rfl Try.func74 (by kernel_rfl) rfl #[.int .u32 a1] rfl (by (try simp only [List.map_toArray, List.map_cons, List.map_nil]); first | done | rfl | (simp only [List.length_drop, List.length_take]; rfl)) ?_; (with_reducible refine (pintleref01_Signed.calls a1 t173 _ A4.out).mono ?_); rintro e w' ⟨rfl, ⟨nd, rfl⟩⟩; refine ⟨_, rfl, ?_⟩) | ((with_reducible refine gate_callee (f := 74) rfl ?_); refine goesL_ (some 16) rfl rfl Try.func74 (by kernel_rfl) rfl #[.int .u32 a2] rfl (by (try simp only [List.map_toArray, List.map_cons, List.map_nil]); first | done | rfl | (simp only [List.length_drop, List.length_take]; rfl)) ?_; (with_reducible refine (pintleref01_Signed.calls a2 t174 _ A5.out).mono ?_); rintro e w' ⟨rfl, ⟨nd, rfl⟩⟩; refine ⟨_, rfl, ?_⟩) | ((with_reducible refine gate_callee (f := 75) rfl ?_); refine goesL_ (some 30) rfl rfl Try.func75 (by kernel_rfl) rfl #[.int .i64 (wrap64 ((wrap64 (a1)) + (wrap64 (a2))))] rfl (by (try simp only [List.map_toArray, List.map_cons, List.map_nil]); first | done | rfl | (simp only [List.length_drop, List.length_take]; rfl)) ?_; (with_reducible refine (pintleref01_Word.calls (wrap64 ((wrap64 (a1)) + (wrap64 (a2)))) t175 _ A7.out).mono ?_); rintro e w' ⟨rfl, ⟨nd, rfl⟩⟩; refine ⟨_, rfl, ?_⟩))
    go_ret2
    exact ⟨by first | rfl | (simp; done) | (simp [*]; done), by repeat (first | exact Drawn0.refl _ | apply Drawn0.step)⟩
  · rw [if_neg c6] at H
    have c6b0 : (a0 == 1) = false := beq_eq_false_iff_ne.mpr c6
    have c6b1 : (a0 != 1) = true := bne_iff_ne.mpr c6
    by_cases c8 : a0 = 2
    · rw [if_pos c8] at H
      have c8b0 : (a0 == 2) = true := beq_iff_eq.mpr c8
      have c8b1 : (a0 != 2) = false := bne_eq_false_iff_eq.mpr c8
      clear c8
      replace H := Option.bind_eq_some_iff.mp H
      obtain ⟨t176, A90, H⟩ := H
      replace H : (some (t176, true)) = some (r1, r2) := H
      have A9 := Aside0.mk A90
      clear A90
      simp only [Option.some.injEq, Prod.mk.injEq] at H
      obtain ⟨rfl, rfl⟩ := H
      go_enter Try.func90, Try.ntmps90
      go_wp2_with (first | ((with_reducible refine gate_callee (f := 74) rfl ?_); refine goesL_ (some 14) rfl rfl Try.func74 (by kernel_rfl) rfl #[.int .u32 a1] rfl (by (try simp only [List.map_toArray, List.map_cons, List.map_nil]); first | done | rfl | (simp only [List.length_drop, List.length_take]; rfl)) ?_; (with_reducible refine (pintleref01_Signed.calls a1 t173 _ A4.out).mono ?_); rintro e w' ⟨rfl, ⟨nd, rfl⟩⟩; refine ⟨_, rfl, ?_⟩) | ((with_reducible refine gate_callee (f := 74) rfl ?_); refine goesL_ (some 16) rfl rfl Try.func74 (by kernel_rfl) rfl #[.int .u32 a2] rfl (by (try simp only [List.map_toArray, List.map_cons, List.map_nil]); first | done | rfl | (simp only [List.length_drop, List.length_take]; rfl)) ?_; (with_reducible refine (pintleref01_Signed.calls a2 t174 _ A5.out).mono ?_); rintro e w' ⟨rfl, ⟨nd, rfl⟩⟩; refine ⟨_, rfl, ?_⟩) | ((with_reducible refine gate_callee (f := 75) rfl ?_); refine goesL_ (some 36) rfl rfl Try.func75 (by kernel_rfl) rfl #[.int .i64 (wrap64 ((wrap64 (a1)) - (wrap64 (a2))))] rfl (by (try simp only [List.map_toArray, List.map_cons, List.map_nil]); first | done | rfl | (simp only [List.length_drop, List.length_take]; rfl)) ?_; (with_reducible refine (pintleref01_Word.calls (wrap64 ((wrap64 (a1)) - (wrap64 (a2)))) t176 _ A9.out).mono ?_); rintro e w' ⟨rfl, ⟨nd, rfl⟩⟩; refine ⟨_, rfl, ?_⟩))
      go_ret2
      exact ⟨by first | rfl | (simp; done) | (simp [*]; done), by repeat (first | exact Drawn0.refl _ | apply Drawn0.step)⟩
    · rw [if_neg c8] at H
      have c8b0 : (a0 == 2) = false := beq_eq_false_iff_ne.mpr c8
      have c8b1 : (a0 != 2) = true := bne_iff_ne.mpr c8
      by_cases c10 : a0 = 3
      · rw [if_pos c10] at H
        have c10b0 : (a0 == 3) = true := beq_iff_eq.mpr c10
        have c10b1 : (a0 != 3) = false := bne_eq_false_iff_eq.mpr c10
        clear c10
        obtain ⟨ji11, hji11⟩ : ∃ j_ : Int, (IntKind.u64.wrap (wrap64 (Int.tmod a2 32))) = j_ := ⟨_, rfl⟩
        replace H : (if 0 ≤ (ji11) then ((pintleref01_Word.f (wrap64 ((wrap64 (a1)) * (shl .i64 1 (ji11))))).bind fun t177 => (some (t177, true))) else (none)) = some (r1, r2) := by first | (rw [hji11] at H; exact H) | (simp only [hji11] at H ⊢; exact H)
        (try rw [hji11] at A4)
        (try rw [hji11] at A5)
        by_cases c12 : 0 ≤ (ji11)
        · rw [if_pos c12] at H
          have c12b0 := eq_true c12
          have c12b1 : decide (0 ≤ (ji11)) = true := decide_eq_true c12
          clear c12
          obtain ⟨ji13, hji13⟩ : ∃ j_ : Int, (shl .i64 1 (ji11)) = j_ := ⟨_, rfl⟩
          replace H : ((pintleref01_Word.f (wrap64 ((wrap64 (a1)) * (ji13)))).bind fun t177 => (some (t177, true))) = some (r1, r2) := by first | (rw [hji13] at H; exact H) | (simp only [hji13] at H ⊢; exact H)
          (try rw [hji13] at A4)
          (try rw [hji13] at A5)
          have hji13_ : (IntKind.i64.wrap (1 * 2 ^ min (ji11).toNat 64)) = ji13 := hji13
          have hji13z : (ji11) ≤ 64 → (IntKind.i64.wrap (1 * 2 ^ (ji11).toNat)) = ji13 := shl_small hji13
          have hji13u : (IntKind.i64.wrap (2 ^ min (ji11).toNat 64)) = ji13 := by have h_ := hji13_; rw [Int.one_mul] at h_; exact h_
          have hji13v : (ji11) ≤ 64 → (IntKind.i64.wrap (2 ^ (ji11).toNat)) = ji13 := fun hle_ => by have h_ := hji13z hle_; rw [Int.one_mul] at h_; exact h_
          have hji13y : (wrap64 (1 * 2 ^ min (ji11).toNat 64)) = ji13 := (i64_w _).symm.trans hji13_
          have hji13x : (ji11) ≤ 64 → (wrap64 (1 * 2 ^ (ji11).toNat)) = ji13 := fun h_ => (i64_w _).symm.trans (hji13z h_)
          replace H := Option.bind_eq_some_iff.mp H
          obtain ⟨t177, A140, H⟩ := H
          replace H : (some (t177, true)) = some (r1, r2) := H
          have A14 := Aside0.mk A140
          clear A140
          simp only [Option.some.injEq, Prod.mk.injEq] at H
          obtain ⟨rfl, rfl⟩ := H
          go_enter Try.func90, Try.ntmps90
          go_wp2_with (first | ((with_reducible refine gate_callee (f := 74) rfl ?_); refine goesL_ (some 14) rfl rfl Try.func74 (by kernel_rfl) rfl #[.int .u32 a1] rfl (by (try simp only [List.map_toArray, List.map_cons, List.map_nil]); first | done | rfl | (simp only [List.length_drop, List.length_take]; rfl)) ?_; (with_reducible refine (pintleref01_Signed.calls a1 t173 _ A4.out).mono ?_); rintro e w' ⟨rfl, ⟨nd, rfl⟩⟩; refine ⟨_, rfl, ?_⟩) | ((with_reducible refine gate_callee (f := 74) rfl ?_); refine goesL_ (some 16) rfl rfl Try.func74 (by kernel_rfl) rfl #[.int .u32 a2] rfl (by (try simp only [List.map_toArray, List.map_cons, List.map_nil]); first | done | rfl | (simp only [List.length_drop, List.length_take]; rfl)) ?_; (with_reducible refine (pintleref01_Signed.calls a2 t174 _ A5.out).mono ?_); rintro e w' ⟨rfl, ⟨nd, rfl⟩⟩; refine ⟨_, rfl, ?_⟩) | ((with_reducible refine gate_callee (f := 75) rfl ?_); refine goesL_ (some 44) rfl rfl Try.func75 (by kernel_rfl) rfl #[.int .i64 (wrap64 ((wrap64 (a1)) * (ji13)))] rfl (by (try simp only [List.map_toArray, List.map_cons, List.map_nil]); first | done | (simp only [hji13]; rfl) | rfl | (simp only [List.length_drop, List.length_take]; rfl)) ?_; (with_reducible refine (pintleref01_Word.calls (wrap64 ((wrap64 (a1)) * (ji13))) t177 _ A14.out).mono ?_); rintro e w' ⟨rfl, ⟨nd, rfl⟩⟩; refine ⟨_, rfl, ?_⟩))
          go_ret2
          exact ⟨by first | rfl | (simp; done) | (simp only [← hji11, ← hji13] <;> (first | rfl | (simp; done) | (simp; omega) | omega)) | (simp [*]; done), by repeat (first | exact Drawn0.refl _ | apply Drawn0.step)⟩
        · rw [if_neg c12] at H
          exact absurd H (by simp)
      · rw [if_neg c10] at H
        have c10b0 : (a0 == 3) = false := beq_eq_false_iff_ne.mpr c10
        have c10b1 : (a0 != 3) = true := bne_iff_ne.mpr c10
        by_cases c15 : a0 = 4
        · rw [if_pos c15] at H
          have c15b0 : (a0 == 4) = true := beq_iff_eq.mpr c15
          have c15b1 : (a0 != 4) = false := bne_eq_false_iff_eq.mpr c15
          clear c15
          replace H := Option.bind_eq_some_iff.mp H
          obtain ⟨t178, A160, H⟩ := H
          replace H : ((pintleref01_Word.f t178).bind fun t179 => (some (t179, true))) = some (r1, r2) := H
          have A16 := Aside0.mk A160
          clear A160
          replace H := Option.bind_eq_some_iff.mp H
          obtain ⟨t179, A170, H⟩ := H
          replace H : (some (t179, true)) = some (r1, r2) := H
          have A17 := Aside0.mk A170
          clear A170
          simp only [Option.some.injEq, Prod.mk.injEq] at H
          obtain ⟨rfl, rfl⟩ := H
          go_enter Try.func90, Try.ntmps90
          go_wp2_with (first | ((with_reducible refine gate_callee (f := 74) rfl ?_); refine goesL_ (some 14) rfl rfl Try.func74 (by kernel_rfl) rfl #[.int .u32 a1] rfl (by (try simp only [List.map_toArray, List.map_cons, List.map_nil]); first | done | rfl | (simp only [List.length_drop, List.length_take]; rfl)) ?_; (with_reducible refine (pintleref01_Signed.calls a1 t173 _ A4.out).mono ?_); rintro e w' ⟨rfl, ⟨nd, rfl⟩⟩; refine ⟨_, rfl, ?_⟩) | ((with_reducible refine gate_callee (f := 74) rfl ?_); refine goesL_ (some 16) rfl rfl Try.func74 (by kernel_rfl) rfl #[.int .u32 a2] rfl (by (try simp only [List.map_toArray, List.map_cons, List.map_nil]); first | done | rfl | (simp only [List.length_drop, List.length_take]; rfl)) ?_; (with_reducible refine (pintleref01_Signed.calls a2 t174 _ A5.out).mono ?_); rintro e w' ⟨rfl, ⟨nd, rfl⟩⟩; refine ⟨_, rfl, ?_⟩) | ((with_reducible refine gate_callee (f := 111) rfl ?_); refine goesL_ (some 50) rfl rfl Try.func111 (by kernel_rfl) rfl #[.bool (decide (t173 < t174))] rfl (by (try simp only [List.map_toArray, List.map_cons, List.map_nil]); first | done | rfl | (simp only [List.length_drop, List.length_take]; rfl)) ?_; (with_reducible refine (pintleref01_one.calls (decide (t173 < t174)) t178 _ A16.out).mono ?_); rintro e w' ⟨rfl, ⟨nd, rfl⟩⟩; refine ⟨_, rfl, ?_⟩) | ((with_reducible refine gate_callee (f := 75) rfl ?_); refine goesL_ (some 51) rfl rfl Try.func75 (by kernel_rfl) rfl #[.int .i64 t178] rfl (by (try simp only [List.map_toArray, List.map_cons, List.map_nil]); first | done | rfl | (simp only [List.length_drop, List.length_take]; rfl)) ?_; (with_reducible refine (pintleref01_Word.calls t178 t179 _ A17.out).mono ?_); rintro e w' ⟨rfl, ⟨nd, rfl⟩⟩; refine ⟨_, rfl, ?_⟩))
          go_ret2
          exact ⟨by first | rfl | (simp; done) | (simp [*]; done), by repeat (first | exact Drawn0.refl _ | apply Drawn0.step)⟩
        · rw [if_neg c15] at H
          have c15b0 : (a0 == 4) = false := beq_eq_false_iff_ne.mpr c15
          have c15b1 : (a0 != 4) = true := bne_iff_ne.mpr c15
          by_cases c18 : a0 = 5
          · rw [if_pos c18] at H
            have c18b0 : (a0 == 5) = true := beq_iff_eq.mpr c18
            have c18b1 : (a0 != 5) = false := bne_eq_false_iff_eq.mpr c18
            clear c18
            replace H := Option.bind_eq_some_iff.mp H
            obtain ⟨t180, A190, H⟩ := H
            replace H : ((pintleref01_Word.f t180).bind fun t181 => (some (t181, true))) = some (r1, r2) := H
            have A19 := Aside0.mk A190
            clear A190
            replace H := Option.bind_eq_some_iff.mp H
            obtain ⟨t181, A200, H⟩ := H
            replace H : (some (t181, true)) = some (r1, r2) := H
            have A20 := Aside0.mk A200
            clear A200
            simp only [Option.some.injEq, Prod.mk.injEq] at H
            obtain ⟨rfl, rfl⟩ := H
            go_enter Try.func90, Try.ntmps90
            go_wp2_with (first | ((with_reducible refine gate_callee (f := 74) rfl ?_); refine goesL_ (some 14) rfl rfl Try.func74 (by kernel_rfl) rfl #[.int .u32 a1] rfl (by (try simp only [List.map_toArray, List.map_cons, List.map_nil]); first | done | rfl | (simp only [List.length_drop, List.length_take]; rfl)) ?_; (with_reducible refine (pintleref01_Signed.calls a1 t173 _ A4.out).mono ?_); rintro e w' ⟨rfl, ⟨nd, rfl⟩⟩; refine ⟨_, rfl, ?_⟩) | ((with_reducible refine gate_callee (f := 74) rfl ?_); refine goesL_ (some 16) rfl rfl Try.func74 (by kernel_rfl) rfl #[.int .u32 a2] rfl (by (try simp only [List.map_toArray, List.map_cons, List.map_nil]); first | done | rfl | (simp only [List.length_drop, List.length_take]; rfl)) ?_; (with_reducible refine (pintleref01_Signed.calls a2 t174 _ A5.out).mono ?_); rintro e w' ⟨rfl, ⟨nd, rfl⟩⟩; refine ⟨_, rfl, ?_⟩) | ((with_reducible refine gate_callee (f := 111) rfl ?_); refine goesL_ (some 57) rfl rfl Try.func111 (by kernel_rfl) rfl #[.bool (decide ((wrap64 (a1)) < (wrap64 (a2))))] rfl (by (try simp only [List.map_toArray, List.map_cons, List.map_nil]); first | done | rfl | (simp only [List.length_drop, List.length_take]; rfl)) ?_; (with_reducible refine (pintleref01_one.calls (decide ((wrap64 (a1)) < (wrap64 (a2)))) t180 _ A19.out).mono ?_); rintro e w' ⟨rfl, ⟨nd, rfl⟩⟩; refine ⟨_, rfl, ?_⟩) | ((with_reducible refine gate_callee (f := 75) rfl ?_); refine goesL_ (some 58) rfl rfl Try.func75 (by kernel_rfl) rfl #[.int .i64 t180] rfl (by (try simp only [List.map_toArray, List.map_cons, List.map_nil]); first | done | rfl | (simp only [List.length_drop, List.length_take]; rfl)) ?_; (with_reducible refine (pintleref01_Word.calls t180 t181 _ A20.out).mono ?_); rintro e w' ⟨rfl, ⟨nd, rfl⟩⟩; refine ⟨_, rfl, ?_⟩))
            go_ret2
            exact ⟨by first | rfl | (simp; done) | (simp [*]; done), by repeat (first | exact Drawn0.refl _ | apply Drawn0.step)⟩
          · rw [if_neg c18] at H
            have c18b0 : (a0 == 5) = false := beq_eq_false_iff_ne.mpr c18
            have c18b1 : (a0 != 5) = true := bne_iff_ne.mpr c18
            by_cases c21 : a0 = 6
            · rw [if_pos c21] at H
              have c21b0 : (a0 == 6) = true := beq_iff_eq.mpr c21
              have c21b1 : (a0 != 6) = false := bne_eq_false_iff_eq.mpr c21
              clear c21
              replace H := Option.bind_eq_some_iff.mp H
              obtain ⟨t182, A220, H⟩ := H
              replace H : (some (t182, true)) = some (r1, r2) := H
              have A22 := Aside0.mk A220
              clear A220
              simp only [Option.some.injEq, Prod.mk.injEq] at H
              obtain ⟨rfl, rfl⟩ := H
              go_enter Try.func90, Try.ntmps90
              go_wp2_with (first | ((with_reducible refine gate_callee (f := 74) rfl ?_); refine goesL_ (some 14) rfl rfl Try.func74 (by kernel_rfl) rfl #[.int .u32 a1] rfl (by (try simp only [List.map_toArray, List.map_cons, List.map_nil]); first | done | rfl | (simp only [List.length_drop, List.length_take]; rfl)) ?_; (with_reducible refine (pintleref01_Signed.calls a1 t173 _ A4.out).mono ?_); rintro e w' ⟨rfl, ⟨nd, rfl⟩⟩; refine ⟨_, rfl, ?_⟩) | ((with_reducible refine gate_callee (f := 74) rfl ?_); refine goesL_ (some 16) rfl rfl Try.func74 (by kernel_rfl) rfl #[.int .u32 a2] rfl (by (try simp only [List.map_toArray, List.map_cons, List.map_nil]); first | done | rfl | (simp only [List.length_drop, List.length_take]; rfl)) ?_; (with_reducible refine (pintleref01_Signed.calls a2 t174 _ A5.out).mono ?_); rintro e w' ⟨rfl, ⟨nd, rfl⟩⟩; refine ⟨_, rfl, ?_⟩) | ((with_reducible refine gate_callee (f := 112) rfl ?_); refine goesL_ (some 63) rfl rfl Try.func112 (by kernel_rfl) rfl #[.int .u32 a1, .int .u32 a2, .int .u32 0, .int .u32 1, .int .u32 0] rfl (by (try simp only [List.map_toArray, List.map_cons, List.map_nil]); first | done | rfl | (simp only [List.length_drop, List.length_take]; rfl)) ?_; (with_reducible refine (pintleref01_bits.calls k a1 a2 0 1 0 t182 _ A22.out).mono ?_); rintro e w' ⟨rfl, ⟨nd, rfl⟩⟩; refine ⟨_, rfl, ?_⟩))
              go_ret2
              exact ⟨by first | rfl | (simp; done) | (simp [*]; done), by repeat (first | exact Drawn0.refl _ | apply Drawn0.step)⟩
            · rw [if_neg c21] at H
              have c21b0 : (a0 == 6) = false := beq_eq_false_iff_ne.mpr c21
              have c21b1 : (a0 != 6) = true := bne_iff_ne.mpr c21
              by_cases c23 : a0 = 7
              · rw [if_pos c23] at H
                have c23b0 : (a0 == 7) = true := beq_iff_eq.mpr c23
                have c23b1 : (a0 != 7) = false := bne_eq_false_iff_eq.mpr c23
                clear c23
                obtain ⟨ji24, hji24⟩ : ∃ j_ : Int, (IntKind.u64.wrap (wrap64 (Int.tmod a2 32))) = j_ := ⟨_, rfl⟩
                replace H : (if 0 ≤ (ji24) then (if (shl .i64 1 (ji24)) = 0 then (none) else ((pintleref01_Word.f (wrap64 (Int.tdiv (wrap64 (a1)) (shl .i64 1 (ji24))))).bind fun t183 => (some (t183, true)))) else (none)) = some (r1, r2) := by first | (rw [hji24] at H; exact H) | (simp only [hji24] at H ⊢; exact H)
                (try rw [hji24] at A4)
                (try rw [hji24] at A5)
                by_cases c25 : 0 ≤ (ji24)
                · rw [if_pos c25] at H
                  have c25b0 := eq_true c25
                  have c25b1 : decide (0 ≤ (ji24)) = true := decide_eq_true c25
                  clear c25
                  obtain ⟨ji26, hji26⟩ : ∃ j_ : Int, (shl .i64 1 (ji24)) = j_ := ⟨_, rfl⟩
                  replace H : (if (ji26) = 0 then (none) else ((pintleref01_Word.f (wrap64 (Int.tdiv (wrap64 (a1)) (ji26)))).bind fun t183 => (some (t183, true)))) = some (r1, r2) := by first | (rw [hji26] at H; exact H) | (simp only [hji26] at H ⊢; exact H)
                  (try rw [hji26] at A4)
                  (try rw [hji26] at A5)
                  have hji26_ : (IntKind.i64.wrap (1 * 2 ^ min (ji24).toNat 64)) = ji26 := hji26
                  have hji26z : (ji24) ≤ 64 → (IntKind.i64.wrap (1 * 2 ^ (ji24).toNat)) = ji26 := shl_small hji26
                  have hji26u : (IntKind.i64.wrap (2 ^ min (ji24).toNat 64)) = ji26 := by have h_ := hji26_; rw [Int.one_mul] at h_; exact h_
                  have hji26v : (ji24) ≤ 64 → (IntKind.i64.wrap (2 ^ (ji24).toNat)) = ji26 := fun hle_ => by have h_ := hji26z hle_; rw [Int.one_mul] at h_; exact h_
                  have hji26y : (wrap64 (1 * 2 ^ min (ji24).toNat 64)) = ji26 := (i64_w _).symm.trans hji26_
                  have hji26x : (ji24) ≤ 64 → (wrap64 (1 * 2 ^ (ji24).toNat)) = ji26 := fun h_ => (i64_w _).symm.trans (hji26z h_)
                  by_cases c27 : (ji26) = 0
                  · rw [if_pos c27] at H
                    exact absurd H (by simp)
                  · rw [if_neg c27] at H
                    have c27b0 : ((ji26) == 0) = false := beq_eq_false_iff_ne.mpr c27
                    have c27b1 : ((ji26) != 0) = true := bne_iff_ne.mpr c27
                    replace H := Option.bind_eq_some_iff.mp H
                    obtain ⟨t183, A280, H⟩ := H
                    replace H : (some (t183, true)) = some (r1, r2) := H
                    have A28 := Aside0.mk A280
                    clear A280
                    simp only [Option.some.injEq, Prod.mk.injEq] at H
                    obtain ⟨rfl, rfl⟩ := H
                    go_enter Try.func90, Try.ntmps90
                    go_wp2_with (first | ((with_reducible refine gate_callee (f := 74) rfl ?_); refine goesL_ (some 14) rfl rfl Try.func74 (by kernel_rfl) rfl #[.int .u32 a1] rfl (by (try simp only [List.map_toArray, List.map_cons, List.map_nil]); first | done | rfl | (simp only [List.length_drop, List.length_take]; rfl)) ?_; (with_reducible refine (pintleref01_Signed.calls a1 t173 _ A4.out).mono ?_); rintro e w' ⟨rfl, ⟨nd, rfl⟩⟩; refine ⟨_, rfl, ?_⟩) | ((with_reducible refine gate_callee (f := 74) rfl ?_); refine goesL_ (some 16) rfl rfl Try.func74 (by kernel_rfl) rfl #[.int .u32 a2] rfl (by (try simp only [List.map_toArray, List.map_cons, List.map_nil]); first | done | rfl | (simp only [List.length_drop, List.length_take]; rfl)) ?_; (with_reducible refine (pintleref01_Signed.calls a2 t174 _ A5.out).mono ?_); rintro e w' ⟨rfl, ⟨nd, rfl⟩⟩; refine ⟨_, rfl, ?_⟩) | ((with_reducible refine gate_callee (f := 75) rfl ?_); refine goesL_ (some 71) rfl rfl Try.func75 (by kernel_rfl) rfl #[.int .i64 (wrap64 (Int.tdiv (wrap64 (a1)) (ji26)))] rfl (by (try simp only [List.map_toArray, List.map_cons, List.map_nil]); first | done | (simp only [hji26]; rfl) | rfl | (simp only [List.length_drop, List.length_take]; rfl)) ?_; (with_reducible refine (pintleref01_Word.calls (wrap64 (Int.tdiv (wrap64 (a1)) (ji26))) t183 _ A28.out).mono ?_); rintro e w' ⟨rfl, ⟨nd, rfl⟩⟩; refine ⟨_, rfl, ?_⟩))
                    go_ret2
                    exact ⟨by first | rfl | (simp; done) | (simp only [← hji24, ← hji26] <;> (first | rfl | (simp; done) | (simp; omega) | omega)) | (simp [*]; done), by repeat (first | exact Drawn0.refl _ | apply Drawn0.step)⟩
                · rw [if_neg c25] at H
                  exact absurd H (by simp)
              · rw [if_neg c23] at H
                have c23b0 : (a0 == 7) = false := beq_eq_false_iff_ne.mpr c23
                have c23b1 : (a0 != 7) = true := bne_iff_ne.mpr c23
                by_cases c29 : a0 = 8
                · rw [if_pos c29] at H
                  have c29b0 : (a0 == 8) = true := beq_iff_eq.mpr c29
                  have c29b1 : (a0 != 8) = false := bne_eq_false_iff_eq.mpr c29
                  clear c29
                  replace H := Option.bind_eq_some_iff.mp H
                  obtain ⟨t184, A300, H⟩ := H
                  replace H : ((pintleref01_Word.f t184).bind fun t185 => (some (t185, true))) = some (r1, r2) := H
                  have A30 := Aside0.mk A300
                  clear A300
                  replace H := Option.bind_eq_some_iff.mp H
                  obtain ⟨t185, A310, H⟩ := H
                  replace H : (some (t185, true)) = some (r1, r2) := H
                  have A31 := Aside0.mk A310
                  clear A310
                  simp only [Option.some.injEq, Prod.mk.injEq] at H
                  obtain ⟨rfl, rfl⟩ := H
                  go_enter Try.func90, Try.ntmps90
                  go_wp2_with (first | ((with_reducible refine gate_callee (f := 74) rfl ?_); refine goesL_ (some 14) rfl rfl Try.func74 (by kernel_rfl) rfl #[.int .u32 a1] rfl (by (try simp only [List.map_toArray, List.map_cons, List.map_nil]); first | done | rfl | (simp only [List.length_drop, List.length_take]; rfl)) ?_; (with_reducible refine (pintleref01_Signed.calls a1 t173 _ A4.out).mono ?_); rintro e w' ⟨rfl, ⟨nd, rfl⟩⟩; refine ⟨_, rfl, ?_⟩) | ((with_reducible refine gate_callee (f := 74) rfl ?_); refine goesL_ (some 16) rfl rfl Try.func74 (by kernel_rfl) rfl #[.int .u32 a2] rfl (by (try simp only [List.map_toArray, List.map_cons, List.map_nil]); first | done | rfl | (simp only [List.length_drop, List.length_take]; rfl)) ?_; (with_reducible refine (pintleref01_Signed.calls a2 t174 _ A5.out).mono ?_); rintro e w' ⟨rfl, ⟨nd, rfl⟩⟩; refine ⟨_, rfl, ?_⟩) | ((with_reducible refine gate_callee (f := 113) rfl ?_); refine goesL_ (some 76) rfl rfl Try.func113 (by kernel_rfl) rfl #[.int .i64 t173, .int .i64 (wrap64 (Int.tmod a2 32))] rfl (by (try simp only [List.map_toArray, List.map_cons, List.map_nil]); first | done | rfl | (simp only [List.length_drop, List.length_take]; rfl)) ?_; (with_reducible refine (pintleref01_floor.calls t173 (wrap64 (Int.tmod a2 32)) t184 _ A30.out).mono ?_); rintro e w' ⟨rfl, ⟨nd, rfl⟩⟩; refine ⟨_, rfl, ?_⟩) | ((with_reducible refine gate_callee (f := 75) rfl ?_); refine goesL_ (some 77) rfl rfl Try.func75 (by kernel_rfl) rfl #[.int .i64 t184] rfl (by (try simp only [List.map_toArray, List.map_cons, List.map_nil]); first | done | rfl | (simp only [List.length_drop, List.length_take]; rfl)) ?_; (with_reducible refine (pintleref01_Word.calls t184 t185 _ A31.out).mono ?_); rintro e w' ⟨rfl, ⟨nd, rfl⟩⟩; refine ⟨_, rfl, ?_⟩))
                  go_ret2
                  exact ⟨by first | rfl | (simp; done) | (simp [*]; done), by repeat (first | exact Drawn0.refl _ | apply Drawn0.step)⟩
                · rw [if_neg c29] at H
                  have c29b0 : (a0 == 8) = false := beq_eq_false_iff_ne.mpr c29
                  have c29b1 : (a0 != 8) = true := bne_iff_ne.mpr c29
                  by_cases c32 : a0 = 9
                  · rw [if_pos c32] at H
                    have c32b0 : (a0 == 9) = true := beq_iff_eq.mpr c32
                    have c32b1 : (a0 != 9) = false := bne_eq_false_iff_eq.mpr c32
                    clear c32
                    replace H := Option.bind_eq_some_iff.mp H
                    obtain ⟨t186, A330, H⟩ := H
                    replace H : (some (t186, true)) = some (r1, r2) := H
                    have A33 := Aside0.mk A330
                    clear A330
                    simp only [Option.some.injEq, Prod.mk.injEq] at H
                    obtain ⟨rfl, rfl⟩ := H
                    go_enter Try.func90, Try.ntmps90
                    go_wp2_with (first | ((with_reducible refine gate_callee (f := 74) rfl ?_); refine goesL_ (some 14) rfl rfl Try.func74 (by kernel_rfl) rfl #[.int .u32 a1] rfl (by (try simp only [List.map_toArray, List.map_cons, List.map_nil]); first | done | rfl | (simp only [List.length_drop, List.length_take]; rfl)) ?_; (with_reducible refine (pintleref01_Signed.calls a1 t173 _ A4.out).mono ?_); rintro e w' ⟨rfl, ⟨nd, rfl⟩⟩; refine ⟨_, rfl, ?_⟩) | ((with_reducible refine gate_callee (f := 74) rfl ?_); refine goesL_ (some 16) rfl rfl Try.func74 (by kernel_rfl) rfl #[.int .u32 a2] rfl (by (try simp only [List.map_toArray, List.map_cons, List.map_nil]); first | done | rfl | (simp only [List.length_drop, List.length_take]; rfl)) ?_; (with_reducible refine (pintleref01_Signed.calls a2 t174 _ A5.out).mono ?_); rintro e w' ⟨rfl, ⟨nd, rfl⟩⟩; refine ⟨_, rfl, ?_⟩) | ((with_reducible refine gate_callee (f := 112) rfl ?_); refine goesL_ (some 82) rfl rfl Try.func112 (by kernel_rfl) rfl #[.int .u32 a1, .int .u32 a2, .int .u32 0, .int .u32 1, .int .u32 1] rfl (by (try simp only [List.map_toArray, List.map_cons, List.map_nil]); first | done | rfl | (simp only [List.length_drop, List.length_take]; rfl)) ?_; (with_reducible refine (pintleref01_bits.calls k a1 a2 0 1 1 t186 _ A33.out).mono ?_); rintro e w' ⟨rfl, ⟨nd, rfl⟩⟩; refine ⟨_, rfl, ?_⟩))
                    go_ret2
                    exact ⟨by first | rfl | (simp; done) | (simp [*]; done), by repeat (first | exact Drawn0.refl _ | apply Drawn0.step)⟩
                  · rw [if_neg c32] at H
                    have c32b0 : (a0 == 9) = false := beq_eq_false_iff_ne.mpr c32
                    have c32b1 : (a0 != 9) = true := bne_iff_ne.mpr c32
                    by_cases c34 : a0 = 10
                    · rw [if_pos c34] at H
                      have c34b0 : (a0 == 10) = true := beq_iff_eq.mpr c34
                      have c34b1 : (a0 != 10) = false := bne_eq_false_iff_eq.mpr c34
                      clear c34
                      replace H := Option.bind_eq_some_iff.mp H
                      obtain ⟨t187, A350, H⟩ := H
                      replace H : (some (t187, true)) = some (r1, r2) := H
                      have A35 := Aside0.mk A350
                      clear A350
                      simp only [Option.some.injEq, Prod.mk.injEq] at H
                      obtain ⟨rfl, rfl⟩ := H
                      go_enter Try.func90, Try.ntmps90
                      go_wp2_with (first | ((with_reducible refine gate_callee (f := 74) rfl ?_); refine goesL_ (some 14) rfl rfl Try.func74 (by kernel_rfl) rfl #[.int .u32 a1] rfl (by (try simp only [List.map_toArray, List.map_cons, List.map_nil]); first | done | rfl | (simp only [List.length_drop, List.length_take]; rfl)) ?_; (with_reducible refine (pintleref01_Signed.calls a1 t173 _ A4.out).mono ?_); rintro e w' ⟨rfl, ⟨nd, rfl⟩⟩; refine ⟨_, rfl, ?_⟩) | ((with_reducible refine gate_callee (f := 74) rfl ?_); refine goesL_ (some 16) rfl rfl Try.func74 (by kernel_rfl) rfl #[.int .u32 a2] rfl (by (try simp only [List.map_toArray, List.map_cons, List.map_nil]); first | done | rfl | (simp only [List.length_drop, List.length_take]; rfl)) ?_; (with_reducible refine (pintleref01_Signed.calls a2 t174 _ A5.out).mono ?_); rintro e w' ⟨rfl, ⟨nd, rfl⟩⟩; refine ⟨_, rfl, ?_⟩) | ((with_reducible refine gate_callee (f := 112) rfl ?_); refine goesL_ (some 87) rfl rfl Try.func112 (by kernel_rfl) rfl #[.int .u32 a1, .int .u32 a2, .int .u32 0, .int .u32 0, .int .u32 1] rfl (by (try simp only [List.map_toArray, List.map_cons, List.map_nil]); first | done | rfl | (simp only [List.length_drop, List.length_take]; rfl)) ?_; (with_reducible refine (pintleref01_bits.calls k a1 a2 0 0 1 t187 _ A35.out).mono ?_); rintro e w' ⟨rfl, ⟨nd, rfl⟩⟩; refine ⟨_, rfl, ?_⟩))
                      go_ret2
                      exact ⟨by first | rfl | (simp; done) | (simp [*]; done), by repeat (first | exact Drawn0.refl _ | apply Drawn0.step)⟩
                    · rw [if_neg c34] at H
                      have c34b0 : (a0 == 10) = false := beq_eq_false_iff_ne.mpr c34
                      have c34b1 : (a0 != 10) = true := bne_iff_ne.mpr c34
                      replace H := Option.bind_eq_some_iff.mp H
                      obtain ⟨⟨t188, t189⟩, A360, H⟩ := H
                      replace H : (some (t188, t189)) = some (r1, r2) := H
                      have A36 := Aside0.mk A360
                      clear A360
                      simp only [Option.some.injEq, Prod.mk.injEq] at H
                      obtain ⟨rfl, rfl⟩ := H
                      go_enter Try.func90, Try.ntmps90
                      go_wp2_with (first | ((with_reducible refine gate_callee (f := 74) rfl ?_); refine goesL_ (some 14) rfl rfl Try.func74 (by kernel_rfl) rfl #[.int .u32 a1] rfl (by (try simp only [List.map_toArray, List.map_cons, List.map_nil]); first | done | rfl | (simp only [List.length_drop, List.length_take]; rfl)) ?_; (with_reducible refine (pintleref01_Signed.calls a1 t173 _ A4.out).mono ?_); rintro e w' ⟨rfl, ⟨nd, rfl⟩⟩; refine ⟨_, rfl, ?_⟩) | ((with_reducible refine gate_callee (f := 74) rfl ?_); refine goesL_ (some 16) rfl rfl Try.func74 (by kernel_rfl) rfl #[.int .u32 a2] rfl (by (try simp only [List.map_toArray, List.map_cons, List.map_nil]); first | done | rfl | (simp only [List.length_drop, List.length_take]; rfl)) ?_; (with_reducible refine (pintleref01_Signed.calls a2 t174 _ A5.out).mono ?_); rintro e w' ⟨rfl, ⟨nd, rfl⟩⟩; refine ⟨_, rfl, ?_⟩) | ((with_reducible refine gate_callee (f := 114) rfl ?_); refine goesL_ (some 93) rfl rfl Try.func114 (by kernel_rfl) rfl #[.int .i64 a0, .int .i64 t173, .int .i64 t174, .int .i64 (wrap64 (a1)), .int .i64 (wrap64 (a2))] rfl (by (try simp only [List.map_toArray, List.map_cons, List.map_nil]); first | done | rfl | (simp only [List.length_drop, List.length_take]; rfl)) ?_; (with_reducible refine (pintleref01_more.calls a0 t173 t174 (wrap64 (a1)) (wrap64 (a2)) t188 t189 _ A36.out).mono ?_); rintro e w' ⟨rfl, ⟨nd, rfl⟩⟩; refine ⟨_, rfl, ?_⟩))
                      go_ret2
                      exact ⟨by first | rfl | (simp; done) | (simp [*]; done), by repeat (first | exact Drawn0.refl _ | apply Drawn0.step)⟩

-- NOT PRINTED: function 66 (pintleref16_Run_one)

/-! ### pintleref15_End: function 67 -/
mutual
def pintleref15_End.l0 : Nat → List (S49) → Int → Int → Option (Int)
  | 0, _, _, _ => none
  | k + 1, x0, x5, x6 => if x6 < (x0.length : Int) then (if 0 ≤ x6 then (if ((rd_T49 x0 x6).f0) = 24 then (pintleref15_End.j1 k x0 x5 x6 (x5 == 0)) else (pintleref15_End.j1 k x0 x5 x6 false)) else (none)) else (some (-1))
def pintleref15_End.j1 : Nat → List (S49) → Int → Int → Bool → Option (Int)
  | 0, _, _, _, _ => none
  | k + 1, x0, x5, x6, x23 => if x23 = true then (some x6) else (if 0 ≤ x6 then (if x6 < (x0.length : Int) then (if ((rd_T49 x0 x6).f0) = 24 then (if ((rd_T49 x0 x6).f0) = 23 then (pintleref15_End.l0 k x0 (wrap64 ((wrap64 (x5 - 1)) + 1)) (wrap64 (x6 + 1))) else (pintleref15_End.l0 k x0 (wrap64 (x5 - 1)) (wrap64 (x6 + 1)))) else (if ((rd_T49 x0 x6).f0) = 23 then (pintleref15_End.l0 k x0 (wrap64 (x5 + 1)) (wrap64 (x6 + 1))) else (pintleref15_End.l0 k x0 x5 (wrap64 (x6 + 1))))) else (none)) else (none))
end
def pintleref15_End.f (k : Nat) (l0 : List (S49)) (a1 : Int) : Option (Int) := pintleref15_End.l0 k l0 0 a1
theorem pintleref15_End.mono_l : ∀ k, (∀ y0 y1 y2, LeO (pintleref15_End.l0 k y0 y1 y2) (pintleref15_End.l0 (k + 1) y0 y1 y2)) ∧ (∀ y0 y1 y2 y3, LeO (pintleref15_End.j1 k y0 y1 y2 y3) (pintleref15_End.j1 (k + 1) y0 y1 y2 y3))
  | 0 => ⟨fun _ _ _ r h => by simp [pintleref15_End.l0] at h, fun _ _ _ _ r h => by simp [pintleref15_End.j1] at h⟩
  | k + 1 => by
    obtain ⟨ih0, ih1⟩ := pintleref15_End.mono_l k
    refine ⟨?_, ?_⟩
    · intro y0 y1 y2
      unfold pintleref15_End.l0
      repeat' first
      | (with_reducible exact ih0 _ _ _)
      | (with_reducible exact ih1 _ _ _ _)
      | (with_reducible exact LeO.refl _)
      | (with_reducible exact LeO.none _)
      | (with_reducible refine LeO.ite ?_ ?_)
      | (with_reducible refine LeO.bind ?_ (fun _ => ?_))
      | exact ih0 _ _ _
      | exact ih1 _ _ _ _
      | exact LeO.none _
      | refine LeO.ite ?_ ?_
      | refine LeO.bind ?_ (fun _ => ?_)
    · intro y0 y1 y2 y3
      unfold pintleref15_End.j1
      repeat' first
      | (with_reducible exact ih0 _ _ _)
      | (with_reducible exact ih1 _ _ _ _)
      | (with_reducible exact LeO.refl _)
      | (with_reducible exact LeO.none _)
      | (with_reducible refine LeO.ite ?_ ?_)
      | (with_reducible refine LeO.bind ?_ (fun _ => ?_))
      | exact ih0 _ _ _
      | exact ih1 _ _ _ _
      | exact LeO.none _
      | refine LeO.ite ?_ ?_
      | refine LeO.bind ?_ (fun _ => ?_)
theorem pintleref15_End.mono : ∀ a0 a1 k, LeO (pintleref15_End.f k a0 a1) (pintleref15_End.f (k + 1) a0 a1) := by
  intro a0 a1 k
  obtain ⟨ih0, ih1⟩ := pintleref15_End.mono_l k
  unfold pintleref15_End.f
  repeat' first
      | (with_reducible exact ih0 _ _ _)
      | (with_reducible exact ih1 _ _ _ _)
      | (with_reducible exact LeO.refl _)
      | (with_reducible exact LeO.none _)
      | (with_reducible refine LeO.ite ?_ ?_)
      | (with_reducible refine LeO.bind ?_ (fun _ => ?_))
      | exact ih0 _ _ _
      | exact ih1 _ _ _ _
      | exact LeO.none _
      | refine LeO.ite ?_ ?_
      | refine LeO.bind ?_ (fun _ => ?_)
set_option maxHeartbeats 8000000 in
set_option maxRecDepth 100000 in
theorem pintleref15_End.calls (k : Nat) (A0 : Option Addr) (c0 : Nat) (l0 : List (S49)) (a1 : Int) (r : Int) (w : World) (hr0 : Kd.C k49 w A0 l0.length l0) (hc0 : l0.length ≤ c0) (h : pintleref15_End.f k l0 a1 = some r) :
    Calls Try.prog 67 #[.slice A0 l0.length c0, .int .i64 a1] w fun e w' => e = .returned (.int .i64 r) ∧ Drawn0 w w' := by
  have HR0 := Aside0.mk hr0
  have HC0 := Aside0.mk hc0
  clear hr0 hc0
  have H : (pintleref15_End.l0 k l0 0 a1) = some r := h
  clear h
  have H' := Aside0.mk H
  clear H
  go_enter Try.func67, Try.ntmps67
  go_wp2
  go_loopg [5, 6] k (fun kq v5 v6 w' => ∃ (x5_1 : Int) (x6_1 : Int), v5 = .int .i64 x5_1 ∧ v6 = .int .i64 x6_1 ∧ Aside0 (pintleref15_End.l0 kq l0 x5_1 x6_1 = some r) ∧ Aside0 (kq ≤ k) ∧ Drawn0 w w')
  case atStart => exact ⟨(0), (a1), (by first | rfl | (simp; done) | (simp [*]; done) | (simp [*]; omega)), (by first | rfl | (simp; done) | (simp [*]; done) | (simp [*]; omega)), H', ⟨Nat.le_refl _⟩, by repeat (first | exact Drawn0.refl _ | apply Drawn0.step)⟩
  case round =>
    clear H'
    try clear p2
    obtain ⟨x5_1, x6_1, rfl, rfl, HA, HK1, ⟨m1, rfl⟩⟩ := hrel
    cases gk with
    | zero => exact absurd HA.out (by simp [pintleref15_End.l0])
    | succ k1 =>
      have H := HA.out
      clear HA
      simp only [pintleref15_End.l0] at H
      by_cases c3 : x6_1 < (l0.length : Int)
      · rw [if_pos c3] at H
        have c3b0 : decide (x6_1 < (l0.length : Int)) = true := decide_eq_true c3
        clear c3
        have HC4 := Aside0.mk H
        clear H
        go_upto_region 5 with (fail)
        go_cut [23] (fun v23 wc => ∃ (kq : Nat) (x23_3 : Bool), v23 = .bool x23_3 ∧ Aside0 (pintleref15_End.j1 kq l0 x5_1 x6_1 x23_3 = some r) ∧ Aside0 (kq ≤ k1) ∧ Drawn0 w wc)
        case first =>
          have H := HC4.out
          clear HC4
          by_cases c5 : 0 ≤ x6_1
          · rw [if_pos c5] at H
            have c5b0 : decide (0 ≤ x6_1) = true := decide_eq_true c5
            clear c5
            (first | rw [c5b0] | (simp only [i64_w, i32_w]; rw [c5b0]) | skip)
            by_cases c6 : ((rd_T49 l0 x6_1).f0) = 24
            · rw [if_pos c6] at H
              have c6b0 : (((rd_T49 l0 x6_1).f0) == 24) = true := beq_iff_eq.mpr c6
              have c6b1 : (((rd_T49 l0 x6_1).f0) != 24) = false := bne_eq_false_iff_eq.mpr c6
              clear c6
              have H' := Aside0.mk H
              clear H
              have p190 : 0 ≤ (x6_1 : Int) := of_decide_eq_true (by first | (with_reducible assumption) | assumption)
              have q190 : x6_1 < (l0.length : Int) := of_decide_eq_true (by first | (with_reducible assumption) | assumption)
              obtain ⟨ad190, e190, hx190_0, hx190_1, hx190_2, hx190_3, hx190_4⟩ := at_T49 HR0.out x6_1 p190 q190
              cases e190
              replace p190 := eq_true p190
              replace q190 := eq_true q190
              go_wp2
              go_meet
              case rel => exact ⟨_, ((x5_1 == 0)), (by first | rfl | (simp; done) | (simp [*]; done) | (simp [*]; omega)), H', ⟨by have := HK1.out; first | omega | exact Nat.le_refl _⟩, by repeat (first | exact Drawn0.refl _ | apply Drawn0.step)⟩
            · rw [if_neg c6] at H
              have c6b0 : (((rd_T49 l0 x6_1).f0) == 24) = false := beq_eq_false_iff_ne.mpr c6
              have c6b1 : (((rd_T49 l0 x6_1).f0) != 24) = true := bne_iff_ne.mpr c6
              have H' := Aside0.mk H
              clear H
              have p190 : 0 ≤ (x6_1 : Int) := of_decide_eq_true (by first | (with_reducible assumption) | assumption)
              have q190 : x6_1 < (l0.length : Int) := of_decide_eq_true (by first | (with_reducible assumption) | assumption)
              obtain ⟨ad190, e190, hx190_0, hx190_1, hx190_2, hx190_3, hx190_4⟩ := at_T49 HR0.out x6_1 p190 q190
              cases e190
              replace p190 := eq_true p190
              replace q190 := eq_true q190
              go_wp2
              go_meet
              case rel => exact ⟨_, (false), (by first | rfl | (simp; done) | (simp [*]; done) | (simp [*]; omega)), H', ⟨by have := HK1.out; first | omega | exact Nat.le_refl _⟩, by repeat (first | exact Drawn0.refl _ | apply Drawn0.step)⟩
          · rw [if_neg c5] at H
            exact absurd H (by simp)
        case rest =>
          clear HC4
          try clear p1
          try clear q1
          try clear hx1
          try clear p2
          try clear c3
          try clear c3b0
          try clear c5
          try clear c5b0
          try clear c6
          try clear c6b0
          try clear c6b1
          try clear hx190_0
          try clear hx190_1
          try clear hx190_2
          try clear hx190_3
          try clear hx190_4
          try clear p190
          try clear p2
          try clear q190
          obtain ⟨kq, x23_3, rfl, HA, HJ3, ⟨mc3, rfl⟩⟩ := hcut
          cases kq with
          | zero => exact absurd HA.out (by simp [pintleref15_End.j1])
          | succ kj3 =>
            have H := HA.out
            clear HA
            simp only [pintleref15_End.j1] at H
            by_cases c7 : x23_3 = true
            · subst c7
              have H1 : (some x6_1) = some r := by rw [if_pos rfl] at H; exact H
              clear H
              have H := H1
              clear H1
              obtain rfl := Option.some.inj H
              go_wp2
              go_ret
              exact ⟨by first | rfl | (simp; done) | (simp [*]; done), by repeat (first | exact Drawn0.refl _ | apply Drawn0.step)⟩
            · replace c7 := Bool.eq_false_iff.mpr c7
              subst c7
              have H1 : (if 0 ≤ x6_1 then (if x6_1 < (l0.length : Int) then (if ((rd_T49 l0 x6_1).f0) = 24 then (if ((rd_T49 l0 x6_1).f0) = 23 then (pintleref15_End.l0 kj3 l0 (wrap64 ((wrap64 (x5_1 - 1)) + 1)) (wrap64 (x6_1 + 1))) else (pintleref15_End.l0 kj3 l0 (wrap64 (x5_1 - 1)) (wrap64 (x6_1 + 1)))) else (if ((rd_T49 l0 x6_1).f0) = 23 then (pintleref15_End.l0 kj3 l0 (wrap64 (x5_1 + 1)) (wrap64 (x6_1 + 1))) else (pintleref15_End.l0 kj3 l0 x5_1 (wrap64 (x6_1 + 1))))) else (none)) else (none)) = some r := by rw [if_neg (show ¬ (false = true) by decide)] at H; exact H
              clear H
              have H := H1
              clear H1
              by_cases c8 : 0 ≤ x6_1
              · rw [if_pos c8] at H
                have c8b0 : decide (0 ≤ x6_1) = true := decide_eq_true c8
                clear c8
                by_cases c9 : x6_1 < (l0.length : Int)
                · rw [if_pos c9] at H
                  have c9b0 : decide (x6_1 < (l0.length : Int)) = true := decide_eq_true c9
                  clear c9
                  by_cases c10 : ((rd_T49 l0 x6_1).f0) = 24
                  · rw [if_pos c10] at H
                    have c10b0 : (((rd_T49 l0 x6_1).f0) == 24) = true := beq_iff_eq.mpr c10
                    have c10b1 : (((rd_T49 l0 x6_1).f0) != 24) = false := bne_eq_false_iff_eq.mpr c10
                    clear c10
                    by_cases c11 : ((rd_T49 l0 x6_1).f0) = 23
                    · rw [if_pos c11] at H
                      have c11b0 : (((rd_T49 l0 x6_1).f0) == 23) = true := beq_iff_eq.mpr c11
                      have c11b1 : (((rd_T49 l0 x6_1).f0) != 23) = false := bne_eq_false_iff_eq.mpr c11
                      clear c11
                      have H' := Aside0.mk H
                      clear H
                      have p191 : 0 ≤ (x6_1 : Int) := of_decide_eq_true (by first | (with_reducible assumption) | assumption)
                      have q191 : x6_1 < (l0.length : Int) := of_decide_eq_true (by first | (with_reducible assumption) | assumption)
                      obtain ⟨ad191, e191, hx191_0, hx191_1, hx191_2, hx191_3, hx191_4⟩ := at_T49 HR0.out x6_1 p191 q191
                      cases e191
                      replace p191 := eq_true p191
                      replace q191 := eq_true q191
                      have p192 : 0 ≤ (x6_1 : Int) := of_decide_eq_true (by first | (with_reducible assumption) | assumption)
                      have q192 : x6_1 < (l0.length : Int) := of_decide_eq_true (by first | (with_reducible assumption) | assumption)
                      obtain ⟨ad192, e192, hx192_0, hx192_1, hx192_2, hx192_3, hx192_4⟩ := at_T49 HR0.out x6_1 p192 q192
                      obtain rfl : ad191 = ad192 := (by injection e192)
                      replace p192 := eq_true p192
                      replace q192 := eq_true q192
                      go_wp2
                      go_roundg kj3
                      case measure => have := HK1.out; have := HJ3.out; omega
                      case rel => exact ⟨(wrap64 ((wrap64 (x5_1 - 1)) + 1)), (wrap64 (x6_1 + 1)), (by first | rfl | (simp; done) | (simp [*]; done) | (simp [*]; omega)), (by first | rfl | (simp; done) | (simp [*]; done) | (simp [*]; omega)), H', ⟨by have := HK1.out; have := HJ3.out; omega⟩, by repeat (first | exact Drawn0.refl _ | apply Drawn0.step)⟩
                    · rw [if_neg c11] at H
                      have c11b0 : (((rd_T49 l0 x6_1).f0) == 23) = false := beq_eq_false_iff_ne.mpr c11
                      have c11b1 : (((rd_T49 l0 x6_1).f0) != 23) = true := bne_iff_ne.mpr c11
                      have H' := Aside0.mk H
                      clear H
                      have p191 : 0 ≤ (x6_1 : Int) := of_decide_eq_true (by first | (with_reducible assumption) | assumption)
                      have q191 : x6_1 < (l0.length : Int) := of_decide_eq_true (by first | (with_reducible assumption) | assumption)
                      obtain ⟨ad191, e191, hx191_0, hx191_1, hx191_2, hx191_3, hx191_4⟩ := at_T49 HR0.out x6_1 p191 q191
                      cases e191
                      replace p191 := eq_true p191
                      replace q191 := eq_true q191
                      have p192 : 0 ≤ (x6_1 : Int) := of_decide_eq_true (by first | (with_reducible assumption) | assumption)
                      have q192 : x6_1 < (l0.length : Int) := of_decide_eq_true (by first | (with_reducible assumption) | assumption)
                      obtain ⟨ad192, e192, hx192_0, hx192_1, hx192_2, hx192_3, hx192_4⟩ := at_T49 HR0.out x6_1 p192 q192
                      obtain rfl : ad191 = ad192 := (by injection e192)
                      replace p192 := eq_true p192
                      replace q192 := eq_true q192
                      go_wp2
                      go_roundg kj3
                      case measure => have := HK1.out; have := HJ3.out; omega
                      case rel => exact ⟨(wrap64 (x5_1 - 1)), (wrap64 (x6_1 + 1)), (by first | rfl | (simp; done) | (simp [*]; done) | (simp [*]; omega)), (by first | rfl | (simp; done) | (simp [*]; done) | (simp [*]; omega)), H', ⟨by have := HK1.out; have := HJ3.out; omega⟩, by repeat (first | exact Drawn0.refl _ | apply Drawn0.step)⟩
                  · rw [if_neg c10] at H
                    have c10b0 : (((rd_T49 l0 x6_1).f0) == 24) = false := beq_eq_false_iff_ne.mpr c10
                    have c10b1 : (((rd_T49 l0 x6_1).f0) != 24) = true := bne_iff_ne.mpr c10
                    by_cases c12 : ((rd_T49 l0 x6_1).f0) = 23
                    · rw [if_pos c12] at H
                      have c12b0 : (((rd_T49 l0 x6_1).f0) == 23) = true := beq_iff_eq.mpr c12
                      have c12b1 : (((rd_T49 l0 x6_1).f0) != 23) = false := bne_eq_false_iff_eq.mpr c12
                      clear c12
                      have H' := Aside0.mk H
                      clear H
                      have p191 : 0 ≤ (x6_1 : Int) := of_decide_eq_true (by first | (with_reducible assumption) | assumption)
                      have q191 : x6_1 < (l0.length : Int) := of_decide_eq_true (by first | (with_reducible assumption) | assumption)
                      obtain ⟨ad191, e191, hx191_0, hx191_1, hx191_2, hx191_3, hx191_4⟩ := at_T49 HR0.out x6_1 p191 q191
                      cases e191
                      replace p191 := eq_true p191
                      replace q191 := eq_true q191
                      have p193 : 0 ≤ (x6_1 : Int) := of_decide_eq_true (by first | (with_reducible assumption) | assumption)
                      have q193 : x6_1 < (l0.length : Int) := of_decide_eq_true (by first | (with_reducible assumption) | assumption)
                      obtain ⟨ad193, e193, hx193_0, hx193_1, hx193_2, hx193_3, hx193_4⟩ := at_T49 HR0.out x6_1 p193 q193
                      obtain rfl : ad191 = ad193 := (by injection e193)
                      replace p193 := eq_true p193
                      replace q193 := eq_true q193
                      go_wp2
                      go_roundg kj3
                      case measure => have := HK1.out; have := HJ3.out; omega
                      case rel => exact ⟨(wrap64 (x5_1 + 1)), (wrap64 (x6_1 + 1)), (by first | rfl | (simp; done) | (simp [*]; done) | (simp [*]; omega)), (by first | rfl | (simp; done) | (simp [*]; done) | (simp [*]; omega)), H', ⟨by have := HK1.out; have := HJ3.out; omega⟩, by repeat (first | exact Drawn0.refl _ | apply Drawn0.step)⟩
                    · rw [if_neg c12] at H
                      have c12b0 : (((rd_T49 l0 x6_1).f0) == 23) = false := beq_eq_false_iff_ne.mpr c12
                      have c12b1 : (((rd_T49 l0 x6_1).f0) != 23) = true := bne_iff_ne.mpr c12
                      have H' := Aside0.mk H
                      clear H
                      have p191 : 0 ≤ (x6_1 : Int) := of_decide_eq_true (by first | (with_reducible assumption) | assumption)
                      have q191 : x6_1 < (l0.length : Int) := of_decide_eq_true (by first | (with_reducible assumption) | assumption)
                      obtain ⟨ad191, e191, hx191_0, hx191_1, hx191_2, hx191_3, hx191_4⟩ := at_T49 HR0.out x6_1 p191 q191
                      cases e191
                      replace p191 := eq_true p191
                      replace q191 := eq_true q191
                      have p193 : 0 ≤ (x6_1 : Int) := of_decide_eq_true (by first | (with_reducible assumption) | assumption)
                      have q193 : x6_1 < (l0.length : Int) := of_decide_eq_true (by first | (with_reducible assumption) | assumption)
                      obtain ⟨ad193, e193, hx193_0, hx193_1, hx193_2, hx193_3, hx193_4⟩ := at_T49 HR0.out x6_1 p193 q193
                      obtain rfl : ad191 = ad193 := (by injection e193)
                      replace p193 := eq_true p193
                      replace q193 := eq_true q193
                      go_wp2
                      go_roundg kj3
                      case measure => have := HK1.out; have := HJ3.out; omega
                      case rel => exact ⟨(x5_1), (wrap64 (x6_1 + 1)), (by first | rfl | (simp; done) | (simp [*]; done) | (simp [*]; omega)), (by first | rfl | (simp; done) | (simp [*]; done) | (simp [*]; omega)), H', ⟨by have := HK1.out; have := HJ3.out; omega⟩, by repeat (first | exact Drawn0.refl _ | apply Drawn0.step)⟩
                · rw [if_neg c9] at H
                  exact absurd H (by simp)
              · rw [if_neg c8] at H
                exact absurd H (by simp)
      · rw [if_neg c3] at H
        have c3b0 : decide (x6_1 < (l0.length : Int)) = false := decide_eq_false c3
        clear c3
        obtain rfl := Option.some.inj H
        go_wp2
        go_ret
        exact ⟨by first | rfl | (simp; done) | (simp [*]; done), by repeat (first | exact Drawn0.refl _ | apply Drawn0.step)⟩

-- NOT PRINTED: function 33 (pintleref16_Run_Does)

-- NOT PRINTED: function 16 (pintlelaw20_does)

end Go.Proofs.Ytpeljnnbknnbmaa.PA
