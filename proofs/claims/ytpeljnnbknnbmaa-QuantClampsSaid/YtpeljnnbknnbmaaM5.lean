import Derived.Test.YtpeljnnbknnbmaaM4
namespace Go.Proofs.Ytpeljnnbknnbmaa.PA
open Go.RowKit Go.Proofs.YtpeljnnbknnbmaaW.PrintWords Go.Proofs.YtpeljnnbknnbmaaW.PrintLast Go.Proofs.YtpeljnnbknnbmaaW.PrintMore
set_option linter.unusedVariables false
set_option linter.unusedSimpArgs false
/-- a step that the document's Can lets be, and that needs no memory and is no loop -/
def CanB (x : S49) : Prop := (∀ k, pintleref15_Can.f (k + 1) x.f0 x.f1 x.f2 x.f3 x.f4 = some true) ∧ x.f0 ≤ 16
theorem plain_from (l : List S49) (h : ∀ x ∈ l, CanB x) (hm : l.length < 1000000) : ∀ (j i k : Nat), i + j = l.length → j < k → pintlelaw20_plain.l0 (k + 1) l (i : Int) = some true := by
  intro j
  induction j with
  | zero =>
    intro i k hi hk
    simp only [pintlelaw20_plain.l0]
    rw [if_neg (by omega)]
  | succ j ih =>
    intro i k hi hk
    obtain ⟨k, rfl⟩ : ∃ m, k = m + 1 := ⟨k - 1, by omega⟩
    have hl : i < l.length := by omega
    have hx : rd_T49 l (i : Int) = l[i] := by
      unfold rd_T49
      rw [Int.toNat_natCast, List.getD_eq_getElem?_getD, List.getElem?_eq_getElem hl]; rfl
    have hc := h _ (List.getElem_mem hl)
    rw [← hx] at hc
    obtain ⟨c1, c2⟩ := hc
    have hw : wrap64 ((i : Int) + 1) = ((i + 1 : Nat) : Int) := by unfold wrap64; omega
    rw [show k + 1 + 1 = (k + 1) + 1 from rfl]
    simp only [pintlelaw20_plain.l0]
    have := ih (i + 1) k (by omega) (by omega)
    simp only [pintlelaw20_plain.l0] at this
    rw [if_pos (by omega), if_pos (by omega), c1 k]
    simp only [Option.bind_some]
    rw [if_pos trivial, if_neg (by omega), hw]
    exact this
theorem plain_true (l : List S49) (h : ∀ x ∈ l, CanB x) (hm : l.length < 1000000) : pintlelaw20_plain.f (l.length + 2) l = some true := plain_from l h hm l.length 0 (l.length + 1) (by omega) (by omega)
theorem stepsL_can (d a t : Nat) (hd : d < 64) (ha : a < 64) (ht : t < 63) (m : Int) : ∀ x ∈ stepsL d a t m, CanB x := by
  intro x hx
  have d1 : (d : Int) < 64 := by omega
  have a1 : (a : Int) < 64 := by omega
  have t1 : (t : Int) < 64 := by omega
  have t2 : (t : Int) + 1 < 64 := by omega
  have t3 : (0 : Int) ≤ (t : Int) + 1 := by omega
  unfold stepsL at hx
  simp only [List.mem_cons, List.not_mem_nil, or_false] at hx
  rcases hx with rfl | rfl | rfl | rfl | rfl | rfl | rfl | rfl | rfl | rfl <;>
    exact ⟨fun k => by simp [pintleref15_Can.f, pintleref15_Has.f, pintleref15_fits.f, pintleref15_Can.j0, d1, a1, t1, t2, t3], by simp only; omega⟩
theorem stepsM_can (d t : Nat) (hd : d < 64) (ht : t < 63) (s : Int) (h0 : 0 ≤ s) (h31 : s ≤ 31) : ∀ x ∈ stepsM d t s, CanB x := by
  intro x hx
  have d1 : (d : Int) < 64 := by omega
  have t1 : (t : Int) < 64 := by omega
  unfold stepsM at hx
  simp only [List.mem_cons, List.not_mem_nil, or_false] at hx
  rcases hx with rfl | rfl | rfl <;>
    exact ⟨fun k => by simp [pintleref15_Can.f, pintleref15_Has.f, pintleref15_fits.f, pintleref15_Can.j0, d1, t1, h0, h31], by simp only; omega⟩
end Go.Proofs.Ytpeljnnbknnbmaa.PA
