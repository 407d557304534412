import Derived.Test.YtpeljnnbknnbmaaM7
namespace Go.Proofs.Ytpeljnnbknnbmaa.PB
open Go.RowKit Go.Proofs.YtpeljnnbknnbmaaW.PrintWords Go.Proofs.YtpeljnnbknnbmaaW.PrintLast Go.Proofs.YtpeljnnbknnbmaaW.PrintMore
set_option linter.unusedVariables false
set_option linter.unusedSimpArgs false
theorem has_eq (op : Int) : pintleref15_Has.f op = some (decide ((1 ≤ op ∧ op ≤ 20) ∨ op = 23), decide (2 ≤ op ∧ op ≤ 22), decide ((3 ≤ op ∧ op ≤ 12) ∨ op = 21 ∨ op = 22)) := by
  unfold pintleref15_Has.f
  repeat' split
  all_goals
    congr 1
    refine Prod.ext ?_ (Prod.ext ?_ ?_)
    all_goals
      simp only
      first
        | (symm; apply decide_eq_true; omega)
        | (symm; apply decide_eq_false; omega)
        | (rw [Bool.eq_iff_iff]; simp only [decide_eq_true_eq, beq_iff_eq]; omega)
theorem reffits_eq (v : Int) (has : Bool) : pintleref15_fits.f v has = some (decide (0 ≤ v ∧ v < 64 ∧ (has = true ∨ v = 0))) := by
  unfold pintleref15_fits.f
  by_cases h1 : v ≥ 0
  · rw [if_pos h1]
    by_cases h2 : v < 64
    · rw [if_pos h2]
      cases has
      · simp only [Bool.false_eq_true, if_false]
        congr 1; rw [Bool.eq_iff_iff]; simp; omega
      · simp only [if_true]
        congr 1; symm; apply decide_eq_true; exact ⟨h1, h2, .inl trivial⟩
    · rw [if_neg h2]; congr 1; symm; apply decide_eq_false; omega
  · rw [if_neg h1]; congr 1; symm; apply decide_eq_false; omega
theorem fits_same (v : Int) (has : Bool) : fitsV v has = decide (0 ≤ v ∧ v < 64 ∧ (has = true ∨ v = 0)) := by
  unfold fitsV
  rw [Bool.eq_iff_iff]
  simp only [decide_eq_true_eq]
  cases has <;> simp <;> omega
theorem ofV_has (op : Int) (h : 1 ≤ op ∧ op ≤ 24) : (ofV op).1 = decide ((1 ≤ op ∧ op ≤ 20) ∨ op = 23) ∧ (ofV op).2.1 = decide (2 ≤ op ∧ op ≤ 22) ∧ (ofV op).2.2.1 = decide ((3 ≤ op ∧ op ≤ 12) ∨ op = 21 ∨ op = 22) ∧ (ofV op).2.2.2.2.2 = true := by
  unfold ofV
  repeat' split
  all_goals
    refine ⟨?_, ?_, ?_, ?_⟩
    all_goals
      (try simp only)
      try first
        | rfl
        | (symm; apply decide_eq_true; omega)
        | (symm; apply decide_eq_false; omega)
        | omega
/-- how the number of a step may be -/
def immOk (o i : Int) : Prop := if o = 23 then 1 ≤ i ∧ i ≤ 100000 else if 14 ≤ o ∧ o ≤ 16 then 0 ≤ i ∧ i ≤ 31 else o = 1 ∨ o = 13 ∨ (17 ≤ o ∧ o ≤ 22) ∨ i = 0
instance (o i : Int) : Decidable (immOk o i) := by unfold immOk; infer_instance
theorem imm_same (o i : Int) (h : 1 ≤ o ∧ o ≤ 24) (hi : -2147483648 ≤ i ∧ i ≤ 2147483647) : (decide (i ≥ (ofV o).2.2.2.1) && decide (i ≤ (ofV o).2.2.2.2.1)) = decide (immOk o i) := by
  rw [Bool.eq_iff_iff]
  simp only [Bool.and_eq_true, decide_eq_true_eq]
  unfold ofV immOk
  repeat' split
  all_goals ((try simp only); try omega)
theorem refcan_eq (k : Nat) (o d a b i : Int) (hi : -2147483648 ≤ i ∧ i ≤ 2147483647) : pintleref15_Can.f (k + 1) o d a b i = some (canV o d a b i) := by
  unfold pintleref15_Can.f
  simp only [has_eq, reffits_eq, Option.bind_some]
  by_cases h1 : o < 1
  · rw [if_pos h1]
    have : (ofV o).2.2.2.2.2 = false := by unfold ofV; rw [if_pos (Or.inl h1)]
    simp [pintleref15_Can.j0, canV, this]
  · rw [if_neg h1]
    by_cases h2 : o > 24
    · rw [if_pos h2]
      have : (ofV o).2.2.2.2.2 = false := by unfold ofV; rw [if_pos (Or.inr h2)]
      simp [pintleref15_Can.j0, canV, this]
    · rw [if_neg h2]
      obtain ⟨o1, o2, o3, o4⟩ := ofV_has o (by omega)
      have jt : pintleref15_Can.j0 (k + 1) true o d a b i = some false := by simp [pintleref15_Can.j0]
      have jf : pintleref15_Can.j0 (k + 1) false o d a b i = some (decide (immOk o i)) := by
        simp only [pintleref15_Can.j0, Bool.false_eq_true, if_false]
        unfold immOk
        repeat' split
        all_goals first
          | omega
          | (congr 1; rw [Bool.eq_iff_iff]; simp only [decide_eq_true_eq, beq_iff_eq]; omega)
          | (congr 1; symm; apply decide_eq_true; omega)
          | (congr 1; symm; apply decide_eq_false; omega)
      unfold canV
      rw [o4, o1, o2, o3, fits_same, fits_same, fits_same, imm_same o i (by omega) hi, Bool.true_and]
      cases decide (0 ≤ d ∧ d < 64 ∧ (decide ((1 ≤ o ∧ o ≤ 20) ∨ o = 23) = true ∨ d = 0))
      · simp [jt]
      · cases decide (0 ≤ a ∧ a < 64 ∧ (decide (2 ≤ o ∧ o ≤ 22) = true ∨ a = 0))
        · simp [jt]
        · cases decide (0 ≤ b ∧ b < 64 ∧ (decide ((3 ≤ o ∧ o ≤ 12) ∨ o = 21 ∨ o = 22) = true ∨ b = 0))
          · simp [jt]
          · simp [jf]
theorem refidle_eq (k : Nat) (o d a b i : Int) (hi : -2147483648 ≤ i ∧ i ≤ 2147483647) : pintleref39_Idle.f (k + 1) o d a b i = some (idleV o d a b i) := by
  unfold pintleref39_Idle.f idleV writesV
  simp only [refcan_eq k o d a b i hi, Option.bind_some]
  cases hc : canV o d a b i
  · rw [if_neg (by decide)]
    congr 1; symm; apply decide_eq_false
    simp
  · rw [if_pos rfl]
    have hd : 0 ≤ d := by
      unfold canV at hc
      simp only [Bool.and_eq_true] at hc
      have := hc.2.1
      unfold fitsV at this
      simp only [decide_eq_true_eq] at this
      omega
    by_cases h1 : d = a
    · rw [if_pos h1]
      by_cases h2 : i = 0
      · rw [if_pos h2]
        by_cases h3 : o = 2
        · rw [if_pos h3]
          have : (ofV o).1 = true := by rw [h3]; decide
          congr 1; symm; apply decide_eq_true
          exact ⟨h1, h2, by rw [if_pos ⟨rfl, this⟩]; omega, .inl h3⟩
        · rw [if_neg h3]
          by_cases h4 : o ≥ 13
          · rw [if_pos h4]
            congr 1
            rw [Bool.eq_iff_iff]
            simp only [decide_eq_true_eq]
            constructor
            · intro h5
              have : (ofV o).1 = true := by
                rw [(ofV_has o (by omega)).1]; apply decide_eq_true; omega
              exact ⟨h1, h2, by rw [if_pos ⟨trivial, this⟩]; omega, .inr ⟨h4, h5⟩⟩
            · rintro ⟨_, _, _, h5⟩
              omega
          · rw [if_neg h4]
            congr 1; symm; apply decide_eq_false
            rintro ⟨_, _, _, h5⟩
            omega
      · rw [if_neg h2]; congr 1; symm; apply decide_eq_false; rintro ⟨_, h, _⟩; exact h2 h
    · rw [if_neg h1]; congr 1; symm; apply decide_eq_false; rintro ⟨h, _⟩; exact h1 h
theorem Idle_eq (k : Nat) (o d a b i : Int) : peep_Idle.f (k + 2) o d a b i = some (idleV o d a b i) := by
  unfold peep_Idle.f
  rw [idle_eq]; rfl
end Go.Proofs.Ytpeljnnbknnbmaa.PB
