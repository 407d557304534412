import Derived.Test.YtpeljnnbknnbmaaOnPDx0
import Derived.Test.YtpeljnnbknnbmaaOnN20
import Derived.Test.YtpeljnnbknnbmaaOnPDx16
import Derived.Outline
import Derived.Test.YtpeljnnbknnbmaaOnN18
import Derived.Test.YtpeljnnbknnbmaaOnPDx14
section
section
section
namespace Go.Proofs.Ytpeljnnbknnbmaa.PD
open Go.RowKit Go.Proofs.YtpeljnnbknnbmaaW.PrintWords Go.Proofs.YtpeljnnbknnbmaaW.PrintLast Go.Proofs.YtpeljnnbknnbmaaW.PrintMore
set_option linter.unusedVariables false
set_option linter.unusedSimpArgs false
/-- an open loop stays open up to its end -/
theorem stk_mem {l : List S49} {f : Nat} : ∀ {j : Nat} {st : List Nat}, stk l j = some st → f ∈ st → ∀ m, f < m → m ≤ j → ∃ st', stk l m = some st' ∧ f ∈ st' := by
  intro j
  induction j with
  | zero => intro st h hf; cases h; cases hf
  | succ j ih =>
    intro st h hf m h1 h2
    by_cases e : m = j + 1
    · subst e; exact ⟨st, h, hf⟩
    · obtain ⟨st', h', hc⟩ := stk_some h
      rcases hc with ⟨hx, rfl⟩ | ⟨hx, g, rfl⟩ | ⟨_, _, rfl⟩
      · rcases List.mem_cons.1 hf with rfl | hf
        · omega
        · exact ih h' hf m h1 (by omega)
      · exact ih h' (List.mem_cons_of_mem _ hf) m h1 (by omega)
      · exact ih h' hf m h1 (by omega)
/-- a stack's loops go down -/
theorem stk_sorted {l : List S49} : ∀ {j : Nat} {st : List Nat}, stk l j = some st → st.Pairwise (· > ·) := by
  intro j
  induction j with
  | zero => intro st h; cases h; exact List.Pairwise.nil
  | succ j ih =>
    intro st h
    obtain ⟨st', h', hc⟩ := stk_some h
    rcases hc with ⟨hx, rfl⟩ | ⟨hx, g, rfl⟩ | ⟨_, _, rfl⟩
    · exact List.Pairwise.cons (fun a ha => (stk_lt h' a ha).1) (ih h')
    · exact (List.pairwise_cons.1 (ih h')).2
    · exact ih h'
/-- the reference's End: where the loop f, open at i with others in it, ends -/
theorem refend_from (l : List S49) (hl : l.length ≤ 20000) (f : Nat) (r : List Nat) : ∀ (d i k : Nat) (p : List Nat), i + d = l.length → 2 * d < k → stk l i = some (p ++ f :: r) →
    (∃ e, i ≤ e ∧ e < l.length ∧ (rd_T49 l (e : Int)).f0 = 24 ∧ stk l e = some (f :: r) ∧ pintleref15_End.l0 k l (p.length : Int) (i : Int) = some (e : Int)) ∨
    (pintleref15_End.l0 k l (p.length : Int) (i : Int) = some (-1) ∧ ∃ q, stk l l.length = some (q ++ f :: r)) := by
  intro d
  induction d with
  | zero =>
    intro i k p hid hk hst
    obtain ⟨k, rfl⟩ : ∃ m, k = m + 1 := ⟨k - 1, by omega⟩
    obtain rfl : i = l.length := by omega
    refine Or.inr ⟨?_, p, hst⟩
    simp only [pintleref15_End.l0]
    rw [if_neg (by omega)]
  | succ d ih =>
    intro i k p hid hk hst
    obtain ⟨k, rfl⟩ : ∃ m, k = m + 2 := ⟨k - 2, by omega⟩
    have hpl : p.length ≤ 20000 := by have := stk_len hst; simp at this; omega
    have hw : wrap64 ((i : Int) + 1) = ((i + 1 : Nat) : Int) := by rw [wrap_small _ (by omega) (by omega)]; omega
    have e0 : pintleref15_End.l0 (k + 2) l (p.length : Int) (i : Int) = if (rd_T49 l (i : Int)).f0 = 24 then pintleref15_End.j1 (k + 1) l (p.length : Int) (i : Int) ((p.length : Int) == 0) else pintleref15_End.j1 (k + 1) l (p.length : Int) (i : Int) false := by
      conv => lhs; rw [show k + 2 = (k + 1) + 1 from rfl]; simp only [pintleref15_End.l0]
      rw [if_pos (by omega), if_pos (by omega)]
    have step : ∀ p' : List Nat, stk l (i + 1) = some (p' ++ f :: r) → pintleref15_End.l0 (k + 2) l (p.length : Int) (i : Int) = pintleref15_End.l0 k l (p'.length : Int) ((i + 1 : Nat) : Int) →
        (∃ e, i ≤ e ∧ e < l.length ∧ (rd_T49 l (e : Int)).f0 = 24 ∧ stk l e = some (f :: r) ∧ pintleref15_End.l0 (k + 2) l (p.length : Int) (i : Int) = some (e : Int)) ∨ (pintleref15_End.l0 (k + 2) l (p.length : Int) (i : Int) = some (-1) ∧ ∃ q, stk l l.length = some (q ++ f :: r)) := by
      intro p' hs he
      rw [he]
      rcases ih (i + 1) k p' (by omega) (by omega) hs with ⟨e, h1, h2, h3⟩ | h
      · exact Or.inl ⟨e, by omega, h2, h3⟩
      · exact Or.inr h
    by_cases h24 : (rd_T49 l (i : Int)).f0 = 24
    · cases p with
      | nil =>
        refine Or.inl ⟨i, Nat.le_refl _, by omega, h24, hst, ?_⟩
        rw [e0, if_pos h24]
        simp [pintleref15_End.j1]
      | cons g p =>
        refine step p (stk_end hst h24) ?_
        rw [e0, if_pos h24, show (((g :: p).length : Int) == 0) = false by simp; omega]
        simp only [pintleref15_End.j1, Bool.false_eq_true, if_false]
        rw [if_pos (by omega), if_pos (by omega), if_pos h24, if_neg (by omega), hw, wrap_small _ (by simp only [List.length_cons]; omega) (by simp only [List.length_cons] at hpl ⊢; omega)]
        congr 1
        simp
    · by_cases h23 : (rd_T49 l (i : Int)).f0 = 23
      · refine step (i :: p) (stk_loop hst h23) ?_
        rw [e0, if_neg h24]
        simp only [pintleref15_End.j1, Bool.false_eq_true, if_false]
        rw [if_pos (by omega), if_pos (by omega), if_neg h24, if_pos h23, hw, wrap_small _ (by omega) (by omega)]
        congr 1
      · refine step p (stk_else hst h23 h24) ?_
        rw [e0, if_neg h24]
        simp only [pintleref15_End.j1, Bool.false_eq_true, if_false]
        rw [if_pos (by omega), if_pos (by omega), if_neg h24, if_neg h23, hw]

end Go.Proofs.Ytpeljnnbknnbmaa.PD
end
section
namespace Go.Proofs.Ytpeljnnbknnbmaa.PD
open Go.RowKit Go.Proofs.YtpeljnnbknnbmaaW.PrintWords Go.Proofs.YtpeljnnbknnbmaaW.PrintLast Go.Proofs.YtpeljnnbknnbmaaW.PrintMore
set_option linter.unusedVariables false
set_option linter.unusedSimpArgs false
theorem refend_range (l : List S49) (hl : l.length ≤ 20000) : ∀ (d i k : Nat) (o : Nat), i + d = l.length → 2 * d < k → o ≤ i → ∃ v, pintleref15_End.l0 k l (o : Int) (i : Int) = some v ∧ (v = -1 ∨ ((i : Int) ≤ v ∧ v < l.length)) := by
  intro d
  induction d with
  | zero =>
    intro i k o hid hk ho
    obtain ⟨k, rfl⟩ : ∃ m, k = m + 1 := ⟨k - 1, by omega⟩
    refine ⟨-1, ?_, Or.inl rfl⟩
    simp only [pintleref15_End.l0]
    rw [if_neg (by omega)]
  | succ d ih =>
    intro i k o hid hk ho
    obtain ⟨k, rfl⟩ : ∃ m, k = m + 2 := ⟨k - 2, by omega⟩
    have hw : wrap64 ((i : Int) + 1) = ((i + 1 : Nat) : Int) := by rw [wrap_small _ (by omega) (by omega)]; omega
    have e0 : pintleref15_End.l0 (k + 2) l (o : Int) (i : Int) = if (rd_T49 l (i : Int)).f0 = 24 then pintleref15_End.j1 (k + 1) l (o : Int) (i : Int) ((o : Int) == 0) else pintleref15_End.j1 (k + 1) l (o : Int) (i : Int) false := by
      conv => lhs; rw [show k + 2 = (k + 1) + 1 from rfl]; simp only [pintleref15_End.l0]
      rw [if_pos (by omega), if_pos (by omega)]
    have step : ∀ o' : Nat, o' ≤ i + 1 → pintleref15_End.l0 (k + 2) l (o : Int) (i : Int) = pintleref15_End.l0 k l (o' : Int) ((i + 1 : Nat) : Int) → ∃ v, pintleref15_End.l0 (k + 2) l (o : Int) (i : Int) = some v ∧ (v = -1 ∨ ((i : Int) ≤ v ∧ v < l.length)) := by
      intro o' h1 he
      obtain ⟨v, hv, h⟩ := ih (i + 1) k o' (by omega) (by omega) h1
      exact ⟨v, he.trans hv, by omega⟩
    by_cases h24 : (rd_T49 l (i : Int)).f0 = 24
    · cases o with
      | zero =>
        refine ⟨i, ?_, Or.inr ⟨Int.le_refl _, by omega⟩⟩
        rw [e0, if_pos h24]
        simp [pintleref15_End.j1]
      | succ o =>
        refine step o (by omega) ?_
        rw [e0, if_pos h24, show (((o + 1 : Nat) : Int) == 0) = false by simp; omega]
        simp only [pintleref15_End.j1, Bool.false_eq_true, if_false]
        rw [if_pos (by omega), if_pos (by omega), if_pos h24, if_neg (by omega), hw, wrap_small _ (by omega) (by omega)]
        congr 1
        omega
    · by_cases h23 : (rd_T49 l (i : Int)).f0 = 23
      · refine step (o + 1) (by omega) ?_
        rw [e0, if_neg h24]
        simp only [pintleref15_End.j1, Bool.false_eq_true, if_false]
        rw [if_pos (by omega), if_pos (by omega), if_neg h24, if_pos h23, hw, wrap_small _ (by omega) (by omega)]
        congr 1
      · refine step o (by omega) ?_
        rw [e0, if_neg h24]
        simp only [pintleref15_End.j1, Bool.false_eq_true, if_false]
        rw [if_pos (by omega), if_pos (by omega), if_neg h24, if_neg h23, hw]
/-- a loop and its end -/
def Pair (l : List S49) (f e : Nat) : Prop := f < e ∧ e < l.length ∧ (rd_T49 l (f : Int)).f0 = 23 ∧ (rd_T49 l (e : Int)).f0 = 24 ∧ ∃ r, stk l f = some r ∧ stk l e = some (f :: r)
theorem refend_at (l : List S49) (hl : l.length ≤ 20000) (f k : Nat) (r : List Nat) (hf : f < l.length) (h23 : (rd_T49 l (f : Int)).f0 = 23) (hr : stk l f = some r) (hk : 2 * l.length < k) :
    (∃ e, Pair l f e ∧ pintleref15_End.f k l ((f + 1 : Nat) : Int) = some (e : Int)) ∨ (pintleref15_End.f k l ((f + 1 : Nat) : Int) = some (-1) ∧ ∃ q, stk l l.length = some (q ++ f :: r)) := by
  unfold pintleref15_End.f
  rcases refend_from l hl f r (l.length - (f + 1)) (f + 1) k [] (by omega) (by omega) (stk_loop hr h23) with ⟨e, h1, h2, h3, h4, h5⟩ | h
  · exact Or.inl ⟨e, ⟨by omega, h2, h23, h3, r, hr, h4⟩, h5⟩
  · exact Or.inr h
theorem pair_gone {l : List S49} {f e : Nat} (h : Pair l f e) : ∃ r, stk l (e + 1) = some r ∧ f ∉ r := by
  obtain ⟨h1, h2, h3, h4, r, h5, h6⟩ := h
  exact ⟨r, stk_end h6 h4, fun hm => by have := (stk_lt h5 f hm).1; omega⟩
/-- a loop has one end -/
theorem pair_one {l : List S49} {f e j : Nat} {r : List Nat} (h : Pair l f e) (hj : stk l j = some (f :: r)) (h24 : (rd_T49 l (j : Int)).f0 = 24) : j = e := by
  obtain ⟨s, hs, hn⟩ := pair_gone h
  have hjf := (stk_lt hj f List.mem_cons_self).1
  rcases Nat.lt_trichotomy j e with h1 | h1 | h1
  · exfalso
    obtain ⟨_, _, _, _, r2, h5, h6⟩ := h
    obtain ⟨st, h7, h8⟩ := stk_mem h6 List.mem_cons_self (j + 1) (by omega) (by omega)
    rw [stk_end hj h24] at h7
    cases h7
    have := (List.pairwise_cons.1 (stk_sorted hj)).1 f h8
    omega
  · exact h1
  · exfalso
    obtain ⟨st, h7, h8⟩ := stk_mem hj List.mem_cons_self (e + 1) (by have := h.1; omega) (by omega)
    rw [hs] at h7
    cases h7
    exact hn h8
theorem rd_setI {X : List Int} (a b : Nat) (x : Int) (ha : a < X.length) : rd (X.set a x) (b : Int) = if a = b then x else rd X (b : Int) := rd_set X a x b ha
theorem refends_fill (l : List S49) (hl : l.length ≤ 20000) : ∀ (d i k : Nat) (X : List Int), i + d = l.length → d < k → X.length = l.length → (∀ j, j < i → rd X (j : Int) = -1) →
    ∃ X', X'.length = l.length ∧ (∀ j, j < l.length → rd X' (j : Int) = -1) ∧ pintleref15_Ends.l0 k l X (i : Int) = pintleref15_Ends.l1 (k - d - 1) l X' ((0 : Nat) : Int) := by
  intro d
  induction d with
  | zero =>
    intro i k X hid hk hX h
    obtain ⟨k, rfl⟩ : ∃ m, k = m + 1 := ⟨k - 1, by omega⟩
    refine ⟨X, hX, fun j hj => h j (by omega), ?_⟩
    simp only [pintleref15_Ends.l0]
    rw [if_neg (by omega)]
    rfl
  | succ d ih =>
    intro i k X hid hk hX h
    obtain ⟨k, rfl⟩ : ∃ m, k = m + 1 := ⟨k - 1, by omega⟩
    have hw : wrap64 ((i : Int) + 1) = ((i + 1 : Nat) : Int) := by rw [wrap_small _ (by omega) (by omega)]; omega
    obtain ⟨X', h1, h2, h3⟩ := ih (i + 1) k (X.set i (-1)) (by omega) (by omega) (by simpa using hX) (fun j hj => by rw [rd_setI i j _ (by omega)]; split; rfl; exact h j (by omega))
    refine ⟨X', h1, h2, ?_⟩
    simp only [pintleref15_Ends.l0]
    rw [if_pos (by omega), if_pos (by omega), if_pos (by omega), hw, Int.toNat_natCast, h3, show k + 1 - (d + 1) - 1 = k - d - 1 by omega]
/-- one step of the second pass -/
theorem refends_step (l : List S49) (hl : l.length ≤ 20000) (i k : Nat) (X : List Int) (hi : i < l.length) (hX : X.length = l.length) (hk : 2 * l.length < k) :
    ((rd_T49 l (i : Int)).f0 = 23 ∧ pintleref15_End.f k l ((i + 1 : Nat) : Int) = some (-1) ∧ pintleref15_Ends.l1 (k + 1) l X (i : Int) = some ([], false)) ∨
    ((rd_T49 l (i : Int)).f0 = 23 ∧ ∃ e : Nat, i < e ∧ e < l.length ∧ pintleref15_End.f k l ((i + 1 : Nat) : Int) = some (e : Int) ∧ pintleref15_Ends.l1 (k + 1) l X (i : Int) = pintleref15_Ends.l1 k l ((X.set i (e : Int)).set e (i : Int)) ((i + 1 : Nat) : Int)) ∨
    ((rd_T49 l (i : Int)).f0 ≠ 23 ∧ pintleref15_Ends.l1 (k + 1) l X (i : Int) = pintleref15_Ends.l1 k l X ((i + 1 : Nat) : Int)) := by
  have hw : wrap64 ((i : Int) + 1) = ((i + 1 : Nat) : Int) := by rw [wrap_small _ (by omega) (by omega)]; omega
  simp only [pintleref15_Ends.l1]
  rw [if_pos (by omega), if_pos (by omega), hw]
  by_cases h23 : (rd_T49 l (i : Int)).f0 = 23
  · rw [if_pos h23]
    obtain ⟨v, hv, h⟩ := refend_range l hl (l.length - (i + 1)) (i + 1) k 0 (by omega) (by omega) (by omega)
    have hv' : pintleref15_End.f k l ((i + 1 : Nat) : Int) = some v := hv
    rw [hv']
    simp only [Option.bind_some]
    rcases h with rfl | ⟨h1, h2⟩
    · exact Or.inl ⟨h23, rfl, rfl⟩
    · obtain ⟨e, rfl⟩ : ∃ e : Nat, v = e := ⟨v.toNat, by omega⟩
      refine Or.inr (Or.inl ⟨h23, e, by omega, by omega, rfl, ?_⟩)
      rw [if_neg (by omega), if_pos (by omega), if_pos (by omega), if_pos (by omega), Int.toNat_natCast, Int.toNat_natCast]
  · rw [if_neg h23]
    exact Or.inr (Or.inr ⟨h23, rfl⟩)

end Go.Proofs.Ytpeljnnbknnbmaa.PD
end
end
section
section
namespace Go.Proofs.Ytpeljnnbknnbmaa.PD
open Go.RowKit Go.Proofs.YtpeljnnbknnbmaaW.PrintWords Go.Proofs.YtpeljnnbknnbmaaW.PrintLast Go.Proofs.YtpeljnnbknnbmaaW.PrintMore
set_option linter.unusedVariables false
set_option linter.unusedSimpArgs false
theorem refends_l2 (l : List S49) (hl : l.length ≤ 20000) (X : List Int) (hX : X.length = l.length) : ∀ (d i k : Nat), i + d = l.length → d < k →
    (pintleref15_Ends.l2 k l X (i : Int) = some (X, true) ∧ ∀ j, i ≤ j → j < l.length → (rd_T49 l (j : Int)).f0 = 24 → 0 ≤ rd X (j : Int)) ∨ (pintleref15_Ends.l2 k l X (i : Int) = some ([], false) ∧ ∃ j, i ≤ j ∧ j < l.length ∧ (rd_T49 l (j : Int)).f0 = 24 ∧ rd X (j : Int) < 0) := by
  intro d
  induction d with
  | zero =>
    intro i k hid hk
    obtain ⟨k, rfl⟩ : ∃ m, k = m + 1 := ⟨k - 1, by omega⟩
    refine Or.inl ⟨?_, fun j h1 h2 => absurd h2 (by omega)⟩
    simp only [pintleref15_Ends.l2]
    rw [if_neg (by omega)]
  | succ d ih =>
    intro i k hid hk
    obtain ⟨k, rfl⟩ : ∃ m, k = m + 1 := ⟨k - 1, by omega⟩
    have hw : wrap64 ((i : Int) + 1) = ((i + 1 : Nat) : Int) := by rw [wrap_small _ (by omega) (by omega)]; omega
    simp only [pintleref15_Ends.l2]
    rw [if_pos (by omega), if_pos (by omega), hw]
    by_cases h24 : (rd_T49 l (i : Int)).f0 = 24
    · rw [if_pos h24, if_pos (by omega)]
      by_cases h0 : rd X (i : Int) < 0
      · rw [if_pos h0]
        exact Or.inr ⟨rfl, i, Nat.le_refl _, by omega, h24, h0⟩
      · rw [if_neg h0]
        rcases ih (i + 1) k (by omega) (by omega) with ⟨h1, h2⟩ | ⟨h1, j, h2, h3⟩
        · refine Or.inl ⟨h1, fun j hj hjl hj24 => ?_⟩
          by_cases e : j = i
          · subst e; omega
          · exact h2 j (by omega) hjl hj24
        · exact Or.inr ⟨h1, j, by omega, h3⟩
    · rw [if_neg h24]
      rcases ih (i + 1) k (by omega) (by omega) with ⟨h1, h2⟩ | ⟨h1, j, h2, h3⟩
      · refine Or.inl ⟨h1, fun j hj hjl hj24 => ?_⟩
        by_cases e : j = i
        · subst e; exact absurd hj24 h24
        · exact h2 j (by omega) hjl hj24
      · exact Or.inr ⟨h1, j, by omega, h3⟩
theorem refends_l1_end (l : List S49) (k : Nat) (X : List Int) : pintleref15_Ends.l1 (k + 1) l X (l.length : Int) = pintleref15_Ends.l2 k l X ((0 : Nat) : Int) := by
  simp only [pintleref15_Ends.l1]
  rw [if_neg (by omega)]
  rfl
/-- a program with an end too many -/
theorem refends_none (l : List S49) (hl : l.length ≤ 20000) (j0 : Nat) (hj0 : j0 < l.length) (hs : stk l j0 = some []) (h24 : (rd_T49 l (j0 : Int)).f0 = 24) : ∀ (d i k : Nat) (X : List Int), i + d = l.length → d + 2 * l.length + 5 < k → X.length = l.length → rd X (j0 : Int) < 0 →
    pintleref15_Ends.l1 k l X (i : Int) = some ([], false) := by
  intro d
  induction d with
  | zero =>
    intro i k X hid hk hX h0
    obtain ⟨k, rfl⟩ : ∃ m, k = m + 1 := ⟨k - 1, by omega⟩
    obtain rfl : i = l.length := by omega
    rw [refends_l1_end]
    rcases refends_l2 l hl X hX l.length 0 k (by omega) (by omega) with ⟨_, h⟩ | ⟨h, _⟩
    · have := h j0 (by omega) hj0 h24
      omega
    · exact h
  | succ d ih =>
    intro i k X hid hk hX h0
    obtain ⟨k, rfl⟩ : ∃ m, k = m + 1 := ⟨k - 1, by omega⟩
    rcases refends_step l hl i k X (by omega) hX (by omega) with ⟨_, _, h⟩ | ⟨h23, e, h1, h2, h3, h4⟩ | ⟨_, h⟩
    · exact h
    · rw [h4]
      have hij : i ≠ j0 := fun e => by subst e; omega
      have hej : e ≠ j0 := fun e' => by
        subst e'
        obtain ⟨r, hr⟩ := stk_before hs (Nat.le_of_lt h1)
        rcases refend_at l hl i k r (by omega) h23 hr (by omega) with ⟨e2, hp, he⟩ | ⟨he, _⟩
        · rw [h3] at he
          have : e = e2 := by injection he with he; omega
          subst this
          obtain ⟨_, _, _, _, r2, _, h6⟩ := hp
          rw [hs] at h6
          cases h6
        · rw [h3] at he
          injection he with he
          omega
      exact ih (i + 1) k _ (by omega) (by omega) (by simpa using hX) (by rw [rd_setI e j0 _ (by simp; omega), if_neg hej, rd_setI i j0 _ (by omega), if_neg hij]; exact h0)
    · rw [h]
      exact ih (i + 1) k X (by omega) (by omega) hX h0
/-- a program with a loop that does not end -/
theorem refends_open (l : List S49) (hl : l.length ≤ 20000) (f : Nat) (r q : List Nat) (hs : stk l l.length = some q) (hf : f ∈ q) : ∀ (d i k : Nat) (X : List Int), i + d = f → d + 2 * l.length + 5 < k → X.length = l.length →
    pintleref15_Ends.l1 k l X (i : Int) = some ([], false) := by
  have hlt := stk_lt hs f hf
  intro d
  induction d with
  | zero =>
    intro i k X hid hk hX
    obtain ⟨k, rfl⟩ : ∃ m, k = m + 1 := ⟨k - 1, by omega⟩
    obtain rfl : i = f := by omega
    rcases refends_step l hl i k X (by omega) hX (by omega) with ⟨_, _, h⟩ | ⟨h23, e, h1, h2, h3, h4⟩ | ⟨h, _⟩
    · exact h
    · exfalso
      obtain ⟨r, hr⟩ := stk_before hs (Nat.le_of_lt hlt.1)
      rcases refend_at l hl i k r (by omega) h23 hr (by omega) with ⟨e2, hp, he⟩ | ⟨he, _⟩
      · obtain ⟨s, h7, h8⟩ := pair_gone hp
        obtain ⟨s2, h9, h10⟩ := stk_mem hs hf (e2 + 1) (by have := hp.1; omega) (by have := hp.2.1; omega)
        rw [h7] at h9
        cases h9
        exact h8 h10
      · rw [h3] at he
        injection he with he
        omega
    · exact absurd hlt.2 h
  | succ d ih =>
    intro i k X hid hk hX
    obtain ⟨k, rfl⟩ : ∃ m, k = m + 1 := ⟨k - 1, by omega⟩
    rcases refends_step l hl i k X (by omega) hX (by omega) with ⟨_, _, h⟩ | ⟨h23, e, h1, h2, h3, h4⟩ | ⟨_, h⟩
    · exact h
    · rw [h4]
      exact ih (i + 1) k _ (by omega) (by omega) (by simpa using hX)
    · rw [h]
      exact ih (i + 1) k X (by omega) (by omega) hX
/-- what the reference's ends of a program that is in order are -/
def EndsOk (l : List S49) (X : List Int) : Prop := X.length = l.length ∧ ∀ f, f < l.length → (rd_T49 l (f : Int)).f0 = 23 → ∃ e, Pair l f e ∧ rd X (f : Int) = e
theorem refends_good (l : List S49) (hl : l.length ≤ 20000) (hs : stk l l.length = some []) : ∀ (d i k : Nat) (X : List Int), i + d = l.length → d + 2 * l.length + 5 < k → X.length = l.length →
    (∀ f, f < i → (rd_T49 l (f : Int)).f0 = 23 → ∃ e, Pair l f e ∧ rd X (f : Int) = e ∧ rd X (e : Int) = f) →
    ∃ X', pintleref15_Ends.l1 k l X (i : Int) = some (X', true) ∧ EndsOk l X' := by
  intro d
  induction d with
  | zero =>
    intro i k X hid hk hX h
    obtain ⟨k, rfl⟩ : ∃ m, k = m + 1 := ⟨k - 1, by omega⟩
    obtain rfl : i = l.length := by omega
    rw [refends_l1_end]
    rcases refends_l2 l hl X hX l.length 0 k (by omega) (by omega) with ⟨h1, h2⟩ | ⟨_, j, _, hj, h24, h0⟩
    · exact ⟨X, h1, hX, fun f hf h23 => by obtain ⟨e, hp, he, _⟩ := h f hf h23; exact ⟨e, hp, he⟩⟩
    · exfalso
      obtain ⟨st, hst⟩ := stk_before hs (Nat.le_of_lt hj)
      cases st with
      | nil =>
        have := stk_none (stk_bad hst h24) (l.length - (j + 1))
        rw [show j + 1 + (l.length - (j + 1)) = l.length by omega, hs] at this
        cases this
      | cons f r =>
        have hf := stk_lt hst f List.mem_cons_self
        obtain ⟨e, hp, _, he⟩ := h f (by omega) hf.2
        have := pair_one hp hst h24
        subst this
        omega
  | succ d ih =>
    intro i k X hid hk hX h
    obtain ⟨k, rfl⟩ : ∃ m, k = m + 1 := ⟨k - 1, by omega⟩
    rcases refends_step l hl i k X (by omega) hX (by omega) with ⟨h23, h0, _⟩ | ⟨h23, e, h1, h2, h3, h4⟩ | ⟨h23, h4⟩
    · exfalso
      obtain ⟨r, hr⟩ := stk_before hs (show i ≤ l.length by omega)
      rcases refend_at l hl i k r (by omega) h23 hr (by omega) with ⟨e2, hp, he⟩ | ⟨_, q, hq⟩
      · rw [h0] at he
        injection he with he
        omega
      · rw [hs] at hq
        injection hq with hq
        simp at hq
    · rw [h4]
      obtain ⟨r, hr⟩ := stk_before hs (show i ≤ l.length by omega)
      have hp : Pair l i e := by
        rcases refend_at l hl i k r (by omega) h23 hr (by omega) with ⟨e2, hp, he⟩ | ⟨he, _⟩
        · rw [h3] at he
          have : e = e2 := by injection he with he; omega
          subst this
          exact hp
        · rw [h3] at he
          injection he with he
          omega
      refine ih (i + 1) k _ (by omega) (by omega) (by simpa using hX) (fun f hf hf23 => ?_)
      have he24 := hp.2.2.2.1
      by_cases e1 : f = i
      · subst e1
        exact ⟨e, hp, by rw [rd_setI e f _ (by simp; omega), if_neg (by omega), rd_setI f f _ (by omega), if_pos rfl], by rw [rd_setI e e _ (by simp; omega), if_pos rfl]⟩
      · obtain ⟨e2, hp2, h5, h6⟩ := h f (by omega) hf23
        have ne1 : e ≠ f := fun h => by subst h; omega
        have ne2 : e ≠ e2 := fun h => by
          subst h
          obtain ⟨_, _, _, _, r1, _, g1⟩ := hp
          obtain ⟨_, _, _, _, r2, _, g2⟩ := hp2
          rw [g1] at g2
          injection g2 with g2
          injection g2 with g2
          omega
        have ne3 : i ≠ e2 := fun h => by subst h; have := hp2.2.2.2.1; omega
        exact ⟨e2, hp2, by rw [rd_setI e f _ (by simp; omega), if_neg ne1, rd_setI i f _ (by omega), if_neg (by omega)]; exact h5, by rw [rd_setI e e2 _ (by simp; omega), if_neg ne2, rd_setI i e2 _ (by omega), if_neg ne3]; exact h6⟩
    · rw [h4]
      exact ih (i + 1) k X (by omega) (by omega) hX (fun f hf hf23 => h f (by by_cases e : f = i; subst e; exact absurd hf23 h23; omega) hf23)
/-- the reference's Ends told plainly -/
theorem refends_all (l : List S49) (hl : l.length ≤ 20000) (k : Nat) (hk : 5 * l.length + 50 < k) :
    (∃ X, pintleref15_Ends.f k l = some (X, true) ∧ EndsOk l X ∧ stk l l.length = some []) ∨ (pintleref15_Ends.f k l = some ([], false) ∧ stk l l.length ≠ some []) := by
  have e0 : pintleref15_Ends.f k l = pintleref15_Ends.l0 k l (List.replicate l.length 0) ((0 : Nat) : Int) := by
    unfold pintleref15_Ends.f
    rw [if_pos (by omega), if_pos (by omega), Int.toNat_natCast]
    rfl
  obtain ⟨X, hX, hneg, h1⟩ := refends_fill l hl l.length 0 k (List.replicate l.length 0) (by omega) (by omega) (by simp) (fun j hj => absurd hj (by omega))
  rw [e0, h1]
  cases hs : stk l l.length with
  | none =>
    right
    have hbad : ∃ j, j < l.length ∧ stk l j = some [] ∧ (rd_T49 l (j : Int)).f0 = 24 := by
      have : ∀ n, stk l n = none → ∃ j, j < n ∧ stk l j = some [] ∧ (rd_T49 l (j : Int)).f0 = 24 := by
        intro n
        induction n with
        | zero => intro h; cases h
        | succ n ih =>
          intro h
          cases hn : stk l n with
          | none =>
            obtain ⟨j, h2, h3⟩ := ih hn
            exact ⟨j, by omega, h3⟩
          | some st =>
            by_cases h23 : (rd_T49 l (n : Int)).f0 = 23
            · rw [stk_loop hn h23] at h; cases h
            · by_cases h24 : (rd_T49 l (n : Int)).f0 = 24
              · cases st with
                | nil => exact ⟨n, by omega, hn, h24⟩
                | cons f r => rw [stk_end hn h24] at h; cases h
              · rw [stk_else hn h23 h24] at h; cases h
      exact this _ hs
    obtain ⟨j, h2, h3, h4⟩ := hbad
    exact ⟨refends_none l hl j h2 h3 h4 l.length 0 _ X (by omega) (by omega) hX (by rw [hneg j h2]; decide), by simp⟩
  | some st =>
    cases st with
    | nil =>
      obtain ⟨X', h2, h3⟩ := refends_good l hl hs l.length 0 (k - l.length - 1) X (by omega) (by omega) hX (fun f hf => absurd hf (by omega))
      exact Or.inl ⟨X', h2, h3, rfl⟩
    | cons f r =>
      have hf := (stk_lt hs f List.mem_cons_self).1
      exact Or.inr ⟨refends_open l hl f r (f :: r) hs List.mem_cons_self f 0 _ X (by omega) (by omega) hX, by simp⟩

end Go.Proofs.Ytpeljnnbknnbmaa.PD
end
section
section
namespace Go.Proofs.Ytpeljnnbknnbmaa.PD
open Go.RowKit Go.Proofs.YtpeljnnbknnbmaaW.PrintWords Go.Proofs.YtpeljnnbknnbmaaW.PrintLast Go.Proofs.YtpeljnnbknnbmaaW.PrintMore
set_option linter.unusedVariables false
set_option linter.unusedSimpArgs false
theorem has_eq (op : Int) : pintleref15_Has.f op = some (decide ((1 ≤ op ∧ op ≤ 20) ∨ op = 23), decide (2 ≤ op ∧ op ≤ 22), decide ((3 ≤ op ∧ op ≤ 12) ∨ op = 21 ∨ op = 22)) := by
  unfold pintleref15_Has.f
  repeat' split
  all_goals
    congr 1
    refine Prod.ext ?_ (Prod.ext ?_ ?_)
    all_goals
      simp only
      first
        | (symm; apply decide_eq_true; omega)
        | (symm; apply decide_eq_false; omega)
        | (rw [Bool.eq_iff_iff]; simp only [decide_eq_true_eq, beq_iff_eq]; omega)
theorem reffits_eq (v : Int) (has : Bool) : pintleref15_fits.f v has = some (decide (0 ≤ v ∧ v < 64 ∧ (has = true ∨ v = 0))) := by
  unfold pintleref15_fits.f
  by_cases h1 : v ≥ 0
  · rw [if_pos h1]
    by_cases h2 : v < 64
    · rw [if_pos h2]
      cases has
      · simp only [Bool.false_eq_true, if_false]
        congr 1; rw [Bool.eq_iff_iff]; simp; omega
      · simp only [if_true]
        congr 1; symm; apply decide_eq_true; exact ⟨h1, h2, .inl trivial⟩
    · rw [if_neg h2]; congr 1; symm; apply decide_eq_false; omega
  · rw [if_neg h1]; congr 1; symm; apply decide_eq_false; omega
theorem fits_same (v : Int) (has : Bool) : fitsV v has = decide (0 ≤ v ∧ v < 64 ∧ (has = true ∨ v = 0)) := by
  unfold fitsV
  rw [Bool.eq_iff_iff]
  simp only [decide_eq_true_eq]
  cases has <;> simp <;> omega
theorem ofV_has (op : Int) (h : 1 ≤ op ∧ op ≤ 24) : (ofV op).1 = decide ((1 ≤ op ∧ op ≤ 20) ∨ op = 23) ∧ (ofV op).2.1 = decide (2 ≤ op ∧ op ≤ 22) ∧ (ofV op).2.2.1 = decide ((3 ≤ op ∧ op ≤ 12) ∨ op = 21 ∨ op = 22) ∧ (ofV op).2.2.2.2.2 = true := by
  unfold ofV
  repeat' split
  all_goals
    refine ⟨?_, ?_, ?_, ?_⟩
    all_goals
      (try simp only)
      try first
        | rfl
        | (symm; apply decide_eq_true; omega)
        | (symm; apply decide_eq_false; omega)
        | omega
/-- how the number of a step may be -/
def immOk (o i : Int) : Prop := if o = 23 then 1 ≤ i ∧ i ≤ 100000 else if 14 ≤ o ∧ o ≤ 16 then 0 ≤ i ∧ i ≤ 31 else o = 1 ∨ o = 13 ∨ (17 ≤ o ∧ o ≤ 22) ∨ i = 0
instance (o i : Int) : Decidable (immOk o i) := by unfold immOk; infer_instance
theorem imm_same (o i : Int) (h : 1 ≤ o ∧ o ≤ 24) (hi : -2147483648 ≤ i ∧ i ≤ 2147483647) : (decide (i ≥ (ofV o).2.2.2.1) && decide (i ≤ (ofV o).2.2.2.2.1)) = decide (immOk o i) := by
  rw [Bool.eq_iff_iff]
  simp only [Bool.and_eq_true, decide_eq_true_eq]
  unfold ofV immOk
  repeat' split
  all_goals ((try simp only); try omega)
theorem refcan_eq (k : Nat) (o d a b i : Int) (hi : -2147483648 ≤ i ∧ i ≤ 2147483647) : pintleref15_Can.f (k + 1) o d a b i = some (canV o d a b i) := by
  unfold pintleref15_Can.f
  simp only [has_eq, reffits_eq, Option.bind_some]
  by_cases h1 : o < 1
  · rw [if_pos h1]
    have : (ofV o).2.2.2.2.2 = false := by unfold ofV; rw [if_pos (Or.inl h1)]
    simp [pintleref15_Can.j0, canV, this]
  · rw [if_neg h1]
    by_cases h2 : o > 24
    · rw [if_pos h2]
      have : (ofV o).2.2.2.2.2 = false := by unfold ofV; rw [if_pos (Or.inr h2)]
      simp [pintleref15_Can.j0, canV, this]
    · rw [if_neg h2]
      obtain ⟨o1, o2, o3, o4⟩ := ofV_has o (by omega)
      have jt : pintleref15_Can.j0 (k + 1) true o d a b i = some false := by simp [pintleref15_Can.j0]
      have jf : pintleref15_Can.j0 (k + 1) false o d a b i = some (decide (immOk o i)) := by
        simp only [pintleref15_Can.j0, Bool.false_eq_true, if_false]
        unfold immOk
        repeat' split
        all_goals first
          | omega
          | (congr 1; rw [Bool.eq_iff_iff]; simp only [decide_eq_true_eq, beq_iff_eq]; omega)
          | (congr 1; symm; apply decide_eq_true; omega)
          | (congr 1; symm; apply decide_eq_false; omega)
      unfold canV
      rw [o4, o1, o2, o3, fits_same, fits_same, fits_same, imm_same o i (by omega) hi, Bool.true_and]
      cases decide (0 ≤ d ∧ d < 64 ∧ (decide ((1 ≤ o ∧ o ≤ 20) ∨ o = 23) = true ∨ d = 0))
      · simp [jt]
      · cases decide (0 ≤ a ∧ a < 64 ∧ (decide (2 ≤ o ∧ o ≤ 22) = true ∨ a = 0))
        · simp [jt]
        · cases decide (0 ≤ b ∧ b < 64 ∧ (decide ((3 ≤ o ∧ o ≤ 12) ∨ o = 21 ∨ o = 22) = true ∨ b = 0))
          · simp [jt]
          · simp [jf]

end Go.Proofs.Ytpeljnnbknnbmaa.PD
end
section
namespace Go.Proofs.Ytpeljnnbknnbmaa.PD
open Go.RowKit Go.Proofs.YtpeljnnbknnbmaaW.PrintWords Go.Proofs.YtpeljnnbknnbmaaW.PrintLast Go.Proofs.YtpeljnnbknnbmaaW.PrintMore
set_option linter.unusedVariables false
set_option linter.unusedSimpArgs false
theorem cnt_step (m : Nat) : ∀ st : List Nat, st.Pairwise (· > ·) → (st.filter (fun j => decide (m ≤ j))).length = (st.filter (fun j => decide (m + 1 ≤ j))).length + (if m ∈ st then 1 else 0)
  | [], _ => by simp
  | a :: t, h => by
    obtain ⟨h1, h2⟩ := List.pairwise_cons.1 h
    have ih := cnt_step m t h2
    by_cases e1 : m + 1 ≤ a
    · have : m ≠ a := by omega
      simp only [List.filter_cons, decide_eq_true e1, decide_eq_true (show m ≤ a by omega), if_true, List.length_cons, List.mem_cons, this, false_or]
      omega
    · by_cases e2 : m = a
      · subst e2
        have hn : m ∉ t := fun hm => by have := h1 m hm; omega
        simp only [List.filter_cons, decide_eq_false e1, decide_eq_true (Nat.le_refl m), if_true, Bool.false_eq_true, if_false, List.length_cons, List.mem_cons, true_or]
        rw [if_neg hn] at ih
        omega
      · simp only [List.filter_cons, decide_eq_false e1, decide_eq_false (show ¬ m ≤ a by omega), Bool.false_eq_true, if_false, List.mem_cons, e2, false_or]
        exact ih
theorem open_iff {l : List S49} {f e i : Nat} {st : List Nat} (hp : Pair l f e) (hst : stk l i = some st) (hi : i ≤ l.length) (hf : f < i) : f ∈ st ↔ i ≤ e := by
  constructor
  · intro hm
    apply Classical.byContradiction
    intro hn
    obtain ⟨r, h1, h2⟩ := pair_gone hp
    obtain ⟨s, h3, h4⟩ := stk_mem hst hm (e + 1) (by have := hp.1; omega) (by omega)
    rw [h1] at h3
    cases h3
    exact h2 h4
  · intro hle
    obtain ⟨_, _, _, _, r, _, h6⟩ := hp
    obtain ⟨s, h3, h4⟩ := stk_mem h6 List.mem_cons_self i hf hle
    rw [hst] at h3
    cases h3
    exact h4
def deepC (l : List S49) (st : List Nat) (i m : Nat) : Nat := (st.filter (fun j => decide (m ≤ j))).length + (if m ≤ i ∧ (rd_T49 l (i : Int)).f0 = 23 then 1 else 0)
theorem refnest_l2 (l : List S49) (hl : l.length ≤ 60) (X : List Int) (hX : EndsOk l X) (i : Nat) (hi : i < l.length) (st : List Nat) (hst : stk l i = some st) (hop : 1 ≤ (rd_T49 l (i : Int)).f0 ∧ (rd_T49 l (i : Int)).f0 ≤ 24) : ∀ n m K deep : Nat, m + n = i + 1 → 2 * n < K → deep ≤ m →
    (pintleref15_Check.l2 K l X (i : Int) (deep : Int) (m : Int) = some 4 ∧ (ofV (rd_T49 l (i : Int)).f0).1 = true ∧ ∃ j ∈ st, (rd_T49 l (i : Int)).f1 = (rd_T49 l (j : Int)).f1) ∨
    (pintleref15_Check.l2 K l X (i : Int) (deep : Int) (m : Int) = pintleref15_Check.l2 (K - 2 * n) l X (i : Int) ((deep + deepC l st i m : Nat) : Int) ((i + 1 : Nat) : Int) ∧ ((ofV (rd_T49 l (i : Int)).f0).1 = true → ∀ j ∈ st, m ≤ j → (rd_T49 l (i : Int)).f1 ≠ (rd_T49 l (j : Int)).f1)) := by
  have hlt := stk_lt hst
  have hsr := stk_sorted hst
  intro n
  induction n with
  | zero =>
    intro m K deep hm hK hd
    obtain rfl : m = i + 1 := by omega
    refine Or.inr ⟨?_, fun _ j hj h => absurd (hlt j hj).1 (by omega)⟩
    have : deepC l st i (i + 1) = 0 := by
      unfold deepC
      rw [if_neg (by omega), List.filter_eq_nil_iff.2 (fun j hj => by have := (hlt j hj).1; simp; omega)]
      rfl
    rw [this]
    rfl
  | succ n ih =>
    intro m K deep hm hK hd
    obtain ⟨K, rfl⟩ : ∃ q, K = q + 2 := ⟨K - 2, by omega⟩
    have hw : wrap64 ((m : Int) + 1) = ((m + 1 : Nat) : Int) := by rw [wrap_small _ (by omega) (by omega)]; omega
    have hwd : wrap64 ((deep : Int) + 1) = ((deep + 1 : Nat) : Int) := by rw [wrap_small _ (by omega) (by omega)]; omega
    have hcs := cnt_step m st hsr
    -- the step is skipped, or counted
    have skip : pintleref15_Check.l2 (K + 2) l X (i : Int) (deep : Int) (m : Int) = pintleref15_Check.l2 K l X (i : Int) (deep : Int) ((m + 1 : Nat) : Int) → m ∉ st → ¬ (m = i ∧ (rd_T49 l (i : Int)).f0 = 23) → (pintleref15_Check.l2 (K + 2) l X (i : Int) (deep : Int) (m : Int) = some 4 ∧ (ofV (rd_T49 l (i : Int)).f0).1 = true ∧ ∃ j ∈ st, (rd_T49 l (i : Int)).f1 = (rd_T49 l (j : Int)).f1) ∨
    (pintleref15_Check.l2 (K + 2) l X (i : Int) (deep : Int) (m : Int) = pintleref15_Check.l2 (K + 2 - 2 * (n + 1)) l X (i : Int) ((deep + deepC l st i m : Nat) : Int) ((i + 1 : Nat) : Int) ∧ ((ofV (rd_T49 l (i : Int)).f0).1 = true → ∀ j ∈ st, m ≤ j → (rd_T49 l (i : Int)).f1 ≠ (rd_T49 l (j : Int)).f1)) := by
      intro he hns hni
      have hcc : deepC l st i m = deepC l st i (m + 1) := by
        unfold deepC
        rw [hcs, if_neg hns, Nat.add_zero]
        congr 1
        by_cases e : (rd_T49 l (i : Int)).f0 = 23
        · rw [if_pos ⟨by omega, e⟩, if_pos ⟨by have := fun h : m = i => hni ⟨h, e⟩; omega, e⟩]
        · rw [if_neg (fun h => e h.2), if_neg (fun h => e h.2)]
      rcases ih (m + 1) K deep (by omega) (by omega) (by omega) with ⟨h1, h2⟩ | ⟨h1, h2⟩
      · exact Or.inl ⟨he.trans h1, h2⟩
      · refine Or.inr ⟨?_, fun ho j hj hmj => h2 ho j hj (by by_cases e : m = j; subst e; exact absurd hj hns; omega)⟩
        rw [he, h1, hcc, show K + 2 - 2 * (n + 1) = K - 2 * n by omega]
    have count : pintleref15_Check.l2 (K + 2) l X (i : Int) (deep : Int) (m : Int) = pintleref15_Check.l2 K l X (i : Int) ((deep + 1 : Nat) : Int) ((m + 1 : Nat) : Int) → (m ∈ st ∨ (m = i ∧ (rd_T49 l (i : Int)).f0 = 23)) → (m ∈ st → (ofV (rd_T49 l (i : Int)).f0).1 = true → (rd_T49 l (i : Int)).f1 ≠ (rd_T49 l (m : Int)).f1) → (pintleref15_Check.l2 (K + 2) l X (i : Int) (deep : Int) (m : Int) = some 4 ∧ (ofV (rd_T49 l (i : Int)).f0).1 = true ∧ ∃ j ∈ st, (rd_T49 l (i : Int)).f1 = (rd_T49 l (j : Int)).f1) ∨
    (pintleref15_Check.l2 (K + 2) l X (i : Int) (deep : Int) (m : Int) = pintleref15_Check.l2 (K + 2 - 2 * (n + 1)) l X (i : Int) ((deep + deepC l st i m : Nat) : Int) ((i + 1 : Nat) : Int) ∧ ((ofV (rd_T49 l (i : Int)).f0).1 = true → ∀ j ∈ st, m ≤ j → (rd_T49 l (i : Int)).f1 ≠ (rd_T49 l (j : Int)).f1)) := by
      intro he hin hne
      have hcc : deepC l st i m = deepC l st i (m + 1) + 1 := by
        unfold deepC
        rw [hcs]
        by_cases e : m ∈ st
        · have := (hlt m e).1
          rw [if_pos e]
          by_cases e2 : (rd_T49 l (i : Int)).f0 = 23
          · rw [if_pos ⟨by omega, e2⟩, if_pos ⟨by omega, e2⟩]
          · rw [if_neg (fun h => e2 h.2), if_neg (fun h => e2 h.2)]
        · obtain ⟨rfl, e2⟩ := hin.resolve_left e
          rw [if_neg e, if_pos ⟨Nat.le_refl _, e2⟩, if_neg (by omega)]
      rcases ih (m + 1) K (deep + 1) (by omega) (by omega) (by omega) with ⟨h1, h2⟩ | ⟨h1, h2⟩
      · exact Or.inl ⟨he.trans h1, h2⟩
      · refine Or.inr ⟨?_, fun ho j hj hmj => by by_cases e : m = j; subst e; exact hne hj ho; exact h2 ho j hj (by omega)⟩
        rw [he, h1, hcc, show K + 2 - 2 * (n + 1) = K - 2 * n by omega, show deep + 1 + deepC l st i (m + 1) = deep + (deepC l st i (m + 1) + 1) by omega]
    have e2 : ∀ b, pintleref15_Check.j3 (K + 1) l X (i : Int) (deep : Int) (m : Int) b = if b = true then pintleref15_Check.l2 K l X (i : Int) (deep : Int) ((m + 1 : Nat) : Int) else if m < i ∧ (ofV (rd_T49 l (i : Int)).f0).1 = true ∧ (rd_T49 l (i : Int)).f1 = (rd_T49 l (m : Int)).f1 then some 4 else pintleref15_Check.l2 K l X (i : Int) ((deep + 1 : Nat) : Int) ((m + 1 : Nat) : Int) := fun b => by
      simp only [pintleref15_Check.j3]
      rw [hw, hwd]
      cases b
      · simp only [Bool.false_eq_true, if_false]
        rw [if_pos (by omega), if_pos (by omega), has_eq]
        simp only [Option.bind_some]
        rw [← (ofV_has _ hop).1]
        by_cases h1 : m < i
        · rw [if_pos (show (m : Int) < i by omega)]
          by_cases h2 : (ofV (rd_T49 l (i : Int)).f0).1 = true
          · rw [if_pos h2, if_pos (by omega), if_pos (by omega)]
            by_cases h3 : (rd_T49 l (i : Int)).f1 = (rd_T49 l (m : Int)).f1
            · rw [if_pos h3, if_pos ⟨h1, h2, h3⟩]
            · rw [if_neg h3, if_neg (fun h => h3 h.2.2)]
          · rw [if_neg h2, if_neg (fun h => h2 h.2.1)]
        · rw [if_neg (show ¬ (m : Int) < i by omega), if_neg (fun h => h1 h.1)]
      · simp only [if_true]
    have e0 : pintleref15_Check.l2 (K + 2) l X (i : Int) (deep : Int) (m : Int) = if (rd_T49 l (m : Int)).f0 = 23 then pintleref15_Check.j3 (K + 1) l X (i : Int) (deep : Int) (m : Int) (decide (rd X (m : Int) < (i : Int))) else pintleref15_Check.j3 (K + 1) l X (i : Int) (deep : Int) (m : Int) true := by
      conv => lhs; rw [show K + 2 = (K + 1) + 1 from rfl]; simp only [pintleref15_Check.l2]
      rw [if_pos (by omega), if_pos (by omega), if_pos (by omega)]
      by_cases h23 : (rd_T49 l (m : Int)).f0 = 23
      · rw [if_pos h23, if_pos h23, if_pos (by have := hX.1; omega)]
      · rw [if_neg h23, if_neg h23]
    by_cases h23 : (rd_T49 l (m : Int)).f0 = 23
    · obtain ⟨e, hp, hxe⟩ := hX.2 m (by omega) h23
      rw [if_pos h23, hxe, e2] at e0
      by_cases he : (e : Int) < i
      · rw [if_pos (decide_eq_true he)] at e0
        have hmi : m < i := by have := hp.1; omega
        exact skip e0 (fun h => by have := (open_iff hp hst (by omega) hmi).1 h; omega) (by omega)
      · rw [if_neg (by rw [decide_eq_false he]; decide)] at e0
        by_cases hbad : m < i ∧ (ofV (rd_T49 l (i : Int)).f0).1 = true ∧ (rd_T49 l (i : Int)).f1 = (rd_T49 l (m : Int)).f1
        · rw [if_pos hbad] at e0
          exact Or.inl ⟨e0, hbad.2.1, m, (open_iff hp hst (by omega) hbad.1).2 (by omega), hbad.2.2⟩
        · rw [if_neg hbad] at e0
          refine count e0 ?_ (fun hm ho h => hbad ⟨(hlt m hm).1, ho, h⟩)
          by_cases hmi : m < i
          · exact Or.inl ((open_iff hp hst (by omega) hmi).2 (by omega))
          · obtain rfl : m = i := by omega
            exact Or.inr ⟨rfl, h23⟩
    · rw [if_neg h23, e2, if_pos rfl] at e0
      exact skip e0 (fun h => h23 (hlt m h).2) (fun h => h23 (h.1 ▸ h.2))

end Go.Proofs.Ytpeljnnbknnbmaa.PD
end
end
end
end
section
namespace Go.Proofs.Ytpeljnnbknnbmaa.PD
open Go.RowKit Go.Proofs.YtpeljnnbknnbmaaW.PrintWords Go.Proofs.YtpeljnnbknnbmaaW.PrintLast Go.Proofs.YtpeljnnbknnbmaaW.PrintMore
set_option linter.unusedVariables false
set_option linter.unusedSimpArgs false
theorem deep_all (l : List S49) (st : List Nat) (i : Nat) : deepC l st i 0 = st.length + (if (rd_T49 l (i : Int)).f0 = 23 then 1 else 0) := by
  unfold deepC
  rw [List.filter_eq_self.2 (fun j _ => by simp)]
  congr 1
  by_cases e : (rd_T49 l (i : Int)).f0 = 23
  · rw [if_pos ⟨by omega, e⟩, if_pos e]
  · rw [if_neg (fun h => e h.2), if_neg e]
theorem canS_op {x : S49} (h : canS x = true) : 1 ≤ x.f0 ∧ x.f0 ≤ 24 := (can_range h).1
theorem refnest_l1 (l : List S49) (hl : l.length ≤ 60) (X : List Int) (hX : EndsOk l X) (hs : stk l l.length = some []) (hcan : ∀ j, j < l.length → canS (rd_T49 l (j : Int)) = true) : ∀ (d i K : Nat) (st : List Nat), i + d = l.length → 200 * d + 200 < K → stk l i = some st → st.length ≤ 10 →
    (pintleref15_Check.l1 K l X (i : Int) = some 0 ∧ ∀ j, i ≤ j → j < l.length → KOk l j) ∨ (pintleref15_Check.l1 K l X (i : Int) = some 4 ∧ ∃ j, i ≤ j ∧ j < l.length ∧ ¬ KOk l j) := by
  intro d
  induction d with
  | zero =>
    intro i K st hid hK hst h10
    obtain ⟨K, rfl⟩ : ∃ q, K = q + 1 := ⟨K - 1, by omega⟩
    refine Or.inl ⟨?_, fun j h1 h2 => absurd h2 (by omega)⟩
    simp only [pintleref15_Check.l1]
    rw [if_neg (by omega)]
  | succ d ih =>
    intro i K st hid hK hst h10
    obtain ⟨K, rfl⟩ : ∃ q, K = q + 1 := ⟨K - 1, by omega⟩
    have hw : wrap64 ((i : Int) + 1) = ((i + 1 : Nat) : Int) := by rw [wrap_small _ (by omega) (by omega)]; omega
    have hop := canS_op (hcan i (by omega))
    have e0 : pintleref15_Check.l1 (K + 1) l X (i : Int) = pintleref15_Check.l2 K l X (i : Int) ((0 : Nat) : Int) ((0 : Nat) : Int) := by
      simp only [pintleref15_Check.l1]
      rw [if_pos (by omega)]
      rfl
    rw [e0]
    rcases refnest_l2 l hl X hX i (by omega) st hst hop (i + 1) 0 K 0 (by omega) (by omega) (by omega) with ⟨h1, h2, j, hj, hf⟩ | ⟨h1, h2⟩
    · exact Or.inr ⟨h1, i, Nat.le_refl _, by omega, fun hk => (hk st hst).1 h2 j hj hf⟩
    · rw [h1, deep_all, Nat.zero_add]
      obtain ⟨q, hq⟩ : ∃ q, K - 2 * (i + 1) = q + 1 := ⟨K - 2 * (i + 1) - 1, by omega⟩
      rw [hq]
      simp only [pintleref15_Check.l2]
      rw [if_neg (by omega), if_pos (by omega), if_pos (by omega), hw]
      have h2' : (ofV (rd_T49 l (i : Int)).f0).1 = true → ∀ j ∈ st, (rd_T49 l (i : Int)).f1 ≠ (rd_T49 l (j : Int)).f1 := fun ho j hj => h2 ho j hj (by omega)
      have next : ∀ st', stk l (i + 1) = some st' → st'.length ≤ 10 → (pintleref15_Check.l1 q l X ((i + 1 : Nat) : Int) = some 0 ∧ ∀ j, i ≤ j → j < l.length → KOk l j) ∨ (pintleref15_Check.l1 q l X ((i + 1 : Nat) : Int) = some 4 ∧ ∃ j, i ≤ j ∧ j < l.length ∧ ¬ KOk l j) := by
        intro st' hs' hl'
        rcases ih (i + 1) q st' (by omega) (by omega) hs' hl' with ⟨g1, g2⟩ | ⟨g1, j, g2, g3⟩
        · refine Or.inl ⟨g1, fun j hj hjl => ?_⟩
          by_cases e : j = i
          · subst e
            intro s0 hs0
            rw [hst] at hs0; cases hs0
            exact ⟨h2', fun s1 hs1 => by rw [hs'] at hs1; cases hs1; exact hl'⟩
          · exact g2 j (by omega) hjl
        · exact Or.inr ⟨g1, j, by omega, g3⟩
      by_cases h23 : (rd_T49 l (i : Int)).f0 = 23
      · rw [if_pos h23, if_pos h23]
        have hn := stk_loop hst h23
        by_cases hd : ((st.length + 1 : Nat) : Int) > 10
        · rw [if_pos hd]
          refine Or.inr ⟨rfl, i, Nat.le_refl _, by omega, fun hk => ?_⟩
          have := (hk st hst).2 _ hn
          simp only [List.length_cons] at this
          omega
        · rw [if_neg hd]
          exact next _ hn (by simp only [List.length_cons]; omega)
      · rw [if_neg h23]
        obtain ⟨st', hs'⟩ := stk_before hs (show i + 1 ≤ l.length by omega)
        refine next st' hs' ?_
        obtain ⟨s0, hs0, hc⟩ := stk_some hs'
        rw [hst] at hs0; cases hs0
        rcases hc with ⟨h, _⟩ | ⟨_, f, rfl⟩ | ⟨_, _, rfl⟩
        · exact absurd h h23
        · simp only [List.length_cons] at h10; omega
        · exact h10
theorem refcheck_from (l : List S49) (hl : l.length ≤ 60) (hI : ∀ j, j < l.length → -2147483648 ≤ (rd_T49 l (j : Int)).f4 ∧ (rd_T49 l (j : Int)).f4 ≤ 2147483647) : ∀ (d i k : Nat), i + d = l.length → d + 10 < k →
    (pintleref15_Check.l0 k l (i : Int) = pintleref15_Check.l0 (k - d) l (l.length : Int) ∧ ∀ j, i ≤ j → j < l.length → canS (rd_T49 l (j : Int)) = true) ∨ (pintleref15_Check.l0 k l (i : Int) = some 1 ∧ ∃ j, i ≤ j ∧ j < l.length ∧ canS (rd_T49 l (j : Int)) = false) := by
  intro d
  induction d with
  | zero =>
    intro i k hid hk
    obtain rfl : i = l.length := by omega
    exact Or.inl ⟨rfl, fun j h1 h2 => absurd h2 (by omega)⟩
  | succ d ih =>
    intro i k hid hk
    obtain ⟨k, rfl⟩ : ∃ m, k = m + 1 := ⟨k - 1, by omega⟩
    have hw : wrap64 ((i : Int) + 1) = ((i + 1 : Nat) : Int) := by rw [wrap_small _ (by omega) (by omega)]; omega
    have e : pintleref15_Check.l0 (k + 1) l (i : Int) = if canS (rd_T49 l (i : Int)) = true then pintleref15_Check.l0 k l ((i + 1 : Nat) : Int) else some 1 := by
      simp only [pintleref15_Check.l0]
      rw [if_pos (by omega), if_pos (by omega), hw]
      obtain ⟨k2, rfl⟩ : ∃ m, k = m + 1 := ⟨k - 1, by omega⟩
      rw [refcan_eq _ _ _ _ _ _ (hI i (by omega))]
      rfl
    by_cases hc : canS (rd_T49 l (i : Int)) = true
    · rw [e, if_pos hc]
      rcases ih (i + 1) k (by omega) (by omega) with ⟨h2, h3⟩ | ⟨h1, j, hj1, hj2, hj3⟩
      · refine Or.inl ⟨by rw [h2, show k + 1 - (d + 1) = k - d by omega], fun j hj hjl => ?_⟩
        by_cases ej : j = i
        · subst ej; exact hc
        · exact h3 j (by omega) hjl
      · exact Or.inr ⟨h1, j, by omega, hj2, hj3⟩
    · rw [e, if_neg hc]
      exact Or.inr ⟨rfl, i, Nat.le_refl _, by omega, by simpa using hc⟩
/-- the reference's Check answers as the program's -/
theorem checks_same (l : List S49) (hl : l.length ≤ 60) (hI : ∀ j, j < l.length → -2147483648 ≤ (rd_T49 l (j : Int)).f4 ∧ (rd_T49 l (j : Int)).f4 ≤ 2147483647) :
    ∃ e, lir_Check.f (3 * l.length + 100) l = some e ∧ pintleref15_Check.f 20000 l = some e ∧ ((e ≠ 0) ∨ (e = 0 ∧ ∃ E, lir_Ends.f (3 * l.length + 100) l = some (E, true) ∧ Good l E)) := by
  have hl2 : l.length ≤ 20000 := by omega
  unfold lir_Check.f pintleref15_Check.f
  rw [if_neg (by omega), if_neg (by omega), show (0 : Int) = ((0 : Nat) : Int) from rfl]
  rcases check_from l hl2 l.length 0 (3 * l.length + 100) (by omega) (by omega) with ⟨h2, h3⟩ | ⟨h1, j, _, hj, hc⟩
  · rcases refcheck_from l hl hI l.length 0 20000 (by omega) (by omega) with ⟨g2, g3⟩ | ⟨_, j, _, hj, hc⟩
    · rw [h2, g2]
      obtain ⟨k, hk⟩ : ∃ k, 3 * l.length + 100 - l.length = k + 1 := ⟨2 * l.length + 99, by omega⟩
      obtain ⟨q, hq⟩ : ∃ q, 20000 - l.length = q + 1 := ⟨20000 - l.length - 1, by omega⟩
      rw [hk, hq]
      simp only [lir_Check.l0, pintleref15_Check.l0]
      rw [if_neg (by omega), if_neg (by omega)]
      rcases ends_all l hl2 k (by omega) with ⟨E, he, ho, hf⟩ | ⟨he, hf⟩
      · rcases refends_all l hl2 q (by omega) with ⟨X, hx, hX, _⟩ | ⟨_, hn⟩
        · rw [he, hx]
          simp only [Option.bind_some, if_true]
          rw [show (0 : Int) = ((0 : Nat) : Int) from rfl]
          rcases kept_all l hl2 ⟨[], hf⟩ k (by omega) with ⟨hk1, hk2⟩ | ⟨hk1, j, hj, hk2⟩
          · rw [hk1]
            rcases refnest_l1 l hl X hX hf (fun j hj => h3 j (by omega) hj) l.length 0 q [] (by omega) (by omega) rfl (by simp) with ⟨n1, _⟩ | ⟨_, j, _, hj, n2⟩
            · rw [n1]
              refine ⟨0, rfl, rfl, Or.inr ⟨rfl, ?_⟩⟩
              rcases ends_all l hl2 (3 * l.length + 100) (by omega) with ⟨E', he', ho', hf'⟩ | ⟨he', hf'⟩
              · refine ⟨E', ?_, hl2, fun j hj => h3 j (by omega) hj, hf, hk2, ho'⟩
                unfold lir_Ends.f
                rw [he']; rfl
              · exact absurd hf hf'
            · exact absurd (hk2 j hj) n2
          · rw [hk1]
            rcases refnest_l1 l hl X hX hf (fun j hj => h3 j (by omega) hj) l.length 0 q [] (by omega) (by omega) rfl (by simp) with ⟨_, n2⟩ | ⟨n1, _⟩
            · exact absurd (n2 j (by omega) hj) hk2
            · rw [n1]
              exact ⟨4, rfl, rfl, Or.inl (by decide)⟩
        · exact absurd hf hn
      · rcases refends_all l hl2 q (by omega) with ⟨X, hx, hX, hs⟩ | ⟨hx, hn⟩
        · exact absurd hs hf
        · rw [he, hx]
          exact ⟨4, rfl, rfl, Or.inl (by decide)⟩
    · rw [h3 j (by omega) hj] at hc
      cases hc
  · rcases refcheck_from l hl hI l.length 0 20000 (by omega) (by omega) with ⟨_, g3⟩ | ⟨g1, _⟩
    · rw [g3 j (by omega) hj] at hc
      cases hc
    · rw [h1, g1]
      exact ⟨1, rfl, rfl, Or.inl (by decide)⟩

end Go.Proofs.Ytpeljnnbknnbmaa.PD
end
