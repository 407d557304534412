import Derived.Test.YtpeljnnbknnbmaaPBx7
import Derived.Test.YtpeljnnbknnbmaaPBx12
namespace Go.Proofs.Ytpeljnnbknnbmaa.PB
open Go.RowKit Go.Proofs.YtpeljnnbknnbmaaW.PrintWords Go.Proofs.YtpeljnnbknnbmaaW.PrintLast Go.Proofs.YtpeljnnbknnbmaaW.PrintMore
set_option linter.unusedVariables false
set_option linter.unusedSimpArgs false
/-- an operation's shape -/
def ofV (op : Int) : Bool × Bool × Bool × Int × Int × Bool :=
  if op < 1 ∨ 24 < op then (false, false, false, 0, 0, false)
  else if op = 1 then (true, false, false, -2147483648, 2147483647, true)
  else if op = 2 then (true, true, false, 0, 0, true)
  else if op ≤ 12 then (true, true, true, 0, 0, true)
  else if op = 13 ∨ (17 ≤ op ∧ op ≤ 20) then (true, true, false, -2147483648, 2147483647, true)
  else if op ≤ 16 then (true, true, false, 0, 31, true)
  else if op ≤ 22 then (false, true, true, -2147483648, 2147483647, true)
  else if op = 23 then (true, false, false, 1, 100000, true)
  else (false, false, false, 0, 0, true)
theorem of_eq (k : Nat) (op : Int) : lir_of.f (k + 2) op = some (ofV op) := by
  have j1 : ∀ b, lir_of.j1 (k + 1) op b = if b = true then some (true, true, false, -2147483648, 2147483647, true) else if op ≤ 16 then some (true, true, false, 0, 31, true) else if op ≤ 22 then some (false, true, true, -2147483648, 2147483647, true) else if op = 23 then some (true, false, false, 1, 100000, true) else some (false, false, false, 0, 0, true) := fun b => by
    simp only [lir_of.j1]
  unfold lir_of.f ofV
  by_cases h1 : op < 1
  · rw [if_pos h1, if_pos (Or.inl h1)]; simp [lir_of.j0]
  · rw [if_neg h1]
    simp only [lir_of.j0, j1]
    by_cases h2 : op > 24
    · rw [if_pos (by simpa using h2), if_pos (Or.inr h2)]
    · rw [if_neg (by simpa using h2), if_neg (show ¬ (op < 1 ∨ 24 < op) by omega)]
      by_cases e1 : op = 1
      · rw [if_pos e1, if_pos e1]
      · rw [if_neg e1, if_neg e1]
        by_cases e2 : op = 2
        · rw [if_pos e2, if_pos e2]
        · rw [if_neg e2, if_neg e2]
          by_cases e3 : op ≤ 12
          · rw [if_pos e3, if_pos e3]
          · rw [if_neg e3, if_neg e3]
            by_cases e4 : op = 13
            · subst e4; simp
            · rw [if_neg e4]
              by_cases e5 : op ≥ 17
              · rw [if_pos e5]
                by_cases e6 : op ≤ 20
                · rw [if_pos (by simpa using e6), if_pos (show op = 13 ∨ (17 ≤ op ∧ op ≤ 20) by omega)]
                · rw [if_neg (by simpa using e6), if_neg (show ¬ (op = 13 ∨ (17 ≤ op ∧ op ≤ 20)) by omega)]
                  split
                  · rfl
                  · split
                    · rfl
                    · split <;> rfl
              · rw [if_neg e5, if_neg (by decide), if_neg (show ¬ (op = 13 ∨ (17 ≤ op ∧ op ≤ 20)) by omega)]
                split
                · rfl
                · split
                  · rfl
                  · split <;> rfl
def fitsV (v : Int) (has : Bool) : Bool := decide (v = 0 ∨ (has = true ∧ 0 < v ∧ v < 64))
theorem fits_eq (v : Int) (has : Bool) : lir_fits.f v has = some (fitsV v has) := by
  unfold lir_fits.f fitsV
  by_cases h1 : v = 0
  · rw [if_pos h1]; simp [h1]
  · rw [if_neg h1]
    cases has
    · simp [h1]
    · rw [if_pos rfl]
      by_cases h2 : v > 0
      · rw [if_pos h2]; congr 1; rw [Bool.eq_iff_iff]; simp; omega
      · rw [if_neg h2]; congr 1; symm; apply decide_eq_false; simp; omega
/-- a step that may be -/
def canV (o d a b i : Int) : Bool := (ofV o).2.2.2.2.2 && (fitsV d (ofV o).1 && (fitsV a (ofV o).2.1 && (fitsV b (ofV o).2.2.1 && (decide (i ≥ (ofV o).2.2.2.1) && decide (i ≤ (ofV o).2.2.2.2.1)))))
theorem can_eq (k : Nat) (o d a b i : Int) : lir_can.f (k + 2) o d a b i = some ((ofV o).1, (ofV o).2.1, (ofV o).2.2.1, (ofV o).2.2.2.1, (ofV o).2.2.2.2.1, canV o d a b i) := by
  unfold lir_can.f canV
  simp only [of_eq, fits_eq, Option.bind_some]
  cases h1 : (ofV o).2.2.2.2.2
  · simp
  · cases h2 : fitsV d (ofV o).1
    · simp
    · cases h3 : fitsV a (ofV o).2.1
      · simp
      · cases h4 : fitsV b (ofV o).2.2.1
        · simp
        · by_cases h5 : i ≥ (ofV o).2.2.2.1
          · simp [h5]
          · simp [h5]
def writesV (o d a b i : Int) : Int := if canV o d a b i = true ∧ (ofV o).1 = true then d else -1
theorem writes_eq (k : Nat) (o d a b i : Int) : lir_Writes.f (k + 2) o d a b i = some (writesV o d a b i) := by
  unfold lir_Writes.f lir_writes.f writesV
  simp only [can_eq, Option.bind_some]
  cases h1 : canV o d a b i
  · simp
  · cases h2 : (ofV o).1
    · simp
    · simp
/-- a step that does nothing -/
def idleV (o d a b i : Int) : Bool := decide (d = a ∧ i = 0 ∧ ¬ writesV o d a b i < 0 ∧ (o = 2 ∨ (13 ≤ o ∧ o ≤ 16)))
theorem idle_eq (k : Nat) (o d a b i : Int) : peep_idle.f (k + 2) o d a b i = some (idleV o d a b i) := by
  unfold peep_idle.f idleV
  simp only [writes_eq, Option.bind_some, peep_idle.j0]
  by_cases h1 : d = a
  · rw [if_pos h1]
    by_cases h2 : i = 0
    · rw [if_pos h2]
      by_cases h3 : writesV o d a b i < 0
      · simp [h3]
      · simp only [h3, decide_false, Bool.false_eq_true, if_false]
        by_cases e2 : o = 2
        · simp [e2, h1, h2]
        · by_cases e3 : o = 13
          · simp [e3, h1, h2]
          · by_cases e4 : o = 14
            · simp [e4, h1, h2]
            · by_cases e5 : o = 15
              · simp [e5, h1, h2]
              · by_cases e6 : o = 16
                · simp [e6, h1, h2]
                · simp only [e2, e3, e4, e5, e6, if_false]
                  congr 1; symm; apply decide_eq_false; intro h; simp at h; omega
    · rw [if_neg h2]; simp [h2]
  · rw [if_neg h1]; simp [h1]
def selfV (x : S49) : Bool := decide (x.f0 = 13 ∧ x.f1 = x.f2)
theorem self_eq (x : S49) : peep_self.f x.f0 x.f1 x.f2 x.f3 x.f4 = some (selfV x) := by
  unfold peep_self.f selfV
  by_cases h : x.f0 = 13
  · rw [if_pos h]; congr 1; rw [Bool.eq_iff_iff]; simp [h]
  · rw [if_neg h]; simp [h]
/-- what two steps become -/
def pairV (x y : S49) : Option S49 :=
  if x.f0 = 1 ∧ y.f0 = 1 ∧ x.f1 = y.f1 then some y
  else if (selfV x = true ∨ x.f0 = 1) ∧ selfV y = true ∧ x.f1 = y.f1 then some ⟨x.f0, x.f1, x.f2, x.f3, wrap32 (x.f4 + y.f4)⟩
  else none
def pairR (x y : S49) : Int × Int × Int × Int × Int × Bool := match pairV x y with
  | some z => (z.f0, z.f1, z.f2, z.f3, z.f4, true)
  | none => (0, 0, 0, 0, 0, false)
theorem pair_eq (k : Nat) (x y : S49) : peep_pair.f (k + 2) x.f0 x.f1 x.f2 x.f3 x.f4 y.f0 y.f1 y.f2 y.f3 y.f4 = some (pairR x y) := by
  have hs1 := self_eq x
  have hs2 := self_eq y
  have j1 : ∀ b, peep_pair.j1 (k + 1) b x.f0 x.f1 x.f2 x.f3 x.f4 y.f0 y.f1 y.f2 y.f3 y.f4 = if b = true then some (x.f0, x.f1, x.f2, x.f3, wrap32 (x.f4 + y.f4), true) else if x.f0 = 1 then (if selfV y = true then (if x.f1 = y.f1 then some (x.f0, x.f1, x.f2, x.f3, wrap32 (x.f4 + y.f4), true) else some (0, 0, 0, 0, 0, false)) else some (0, 0, 0, 0, 0, false)) else some (0, 0, 0, 0, 0, false) := fun b => by
    simp only [peep_pair.j1, hs2, Option.bind_some]
  unfold peep_pair.f
  simp only [peep_pair.j0, hs1, hs2, Option.bind_some, j1]
  unfold pairR pairV
  by_cases a1 : x.f0 = 1
  · have ns : selfV x = false := by unfold selfV; apply decide_eq_false; omega
    by_cases a2 : y.f0 = 1
    · have ns2 : selfV y = false := by unfold selfV; apply decide_eq_false; omega
      by_cases a3 : x.f1 = y.f1
      · simp [a1, a2, a3]
      · simp [a1, a2, a3, ns, ns2]
    · cases hy : selfV y
      · simp [a1, a2, ns, hy]
      · by_cases a3 : x.f1 = y.f1
        · simp [a1, a2, a3, ns, hy]
        · simp [a1, a2, a3, ns, hy]
  · cases hx : selfV x
    · simp [a1, hx]
    · cases hy : selfV y
      · simp [a1, hx, hy]
      · by_cases a3 : x.f1 = y.f1
        · simp [a1, a3, hx, hy]
        · simp [a1, a3, hx, hy]
end Go.Proofs.Ytpeljnnbknnbmaa.PB
