/- Plain arithmetic of the sum of bytes (CRC-32): one bit's step is linear over 'exclusive or' and one to one; a table of four bits' steps does what eight steps of one bit do; texts that differ within four bytes have unlike sums. No conditions but the bounds that are named. -/
import Derived.Test.YtkcompeflpnfhaaPAx6
namespace Go.Proofs.Ytkcompeflpnfhaa.Crc
open Go.RowKit Go.Proofs.Ytkcompeflpnfhaa.PA Go.Proofs.YtkcompeflpnfhaaW.PrintWords

/-! ### one bit's step, on natural numbers -/
def t1 (n : Nat) : Nat := if n % 2 = 1 then n / 2 ^^^ 3988292384 else n / 2
theorem xor_half (a b : Nat) : (a ^^^ b) / 2 = a / 2 ^^^ b / 2 := by
  have := Nat.shiftRight_xor_distrib (a := a) (b := b) (i := 1)
  simpa [Nat.shiftRight_succ] using this
theorem xor_swap4 (a b p : Nat) : (a ^^^ p) ^^^ (b ^^^ p) = a ^^^ b := by
  rw [Nat.xor_assoc, ← Nat.xor_assoc p b p, Nat.xor_comm p b, Nat.xor_assoc b p p, Nat.xor_self, Nat.xor_zero]
theorem xor_mod2 (a b : Nat) : (a ^^^ b) % 2 = (a + b) % 2 := by
  have h := Nat.xor_mod_two_pow (a := a) (b := b) (n := 1)
  rw [Nat.pow_one] at h
  rw [h]
  rcases Nat.mod_two_eq_zero_or_one a with ha | ha <;> rcases Nat.mod_two_eq_zero_or_one b with hb | hb <;> rw [ha, hb] <;> simp <;> omega
theorem t1_xor (a b : Nat) : t1 (a ^^^ b) = t1 a ^^^ t1 b := by
  unfold t1
  rw [xor_half, xor_mod2]
  rcases Nat.mod_two_eq_zero_or_one a with ha | ha <;> rcases Nat.mod_two_eq_zero_or_one b with hb | hb
  · rw [if_neg (by omega), if_neg (by omega), if_neg (by omega)]
  · rw [if_pos (by omega), if_neg (by omega), if_pos hb, Nat.xor_assoc]
  · rw [if_pos (by omega), if_pos ha, if_neg (by omega), Nat.xor_assoc, Nat.xor_assoc, Nat.xor_comm (b / 2)]
  · rw [if_neg (by omega), if_pos ha, if_pos hb, xor_swap4]
theorem t1_even (m : Nat) : t1 (2 * m) = m := by unfold t1; rw [if_neg (by omega)]; omega
theorem t1_lt {n : Nat} (h : n < 2 ^ 32) : t1 n < 2 ^ 32 := by
  unfold t1
  split
  · exact Nat.xor_lt_two_pow (by omega) (by decide)
  · omega
theorem t1_zero : t1 0 = 0 := rfl
theorem t1_ne {n : Nat} (h : n < 2 ^ 32) (h0 : n ≠ 0) : t1 n ≠ 0 := by
  unfold t1
  split
  · intro e
    have : n / 2 = 3988292384 := by
      have := congrArg (· ^^^ 3988292384) e
      simpa [Nat.xor_assoc, Nat.xor_self] using this
    omega
  · omega
def tN : Nat → Nat → Nat
  | 0, n => n
  | k + 1, n => tN k (t1 n)
theorem tN_xor (k : Nat) : ∀ a b, tN k (a ^^^ b) = tN k a ^^^ tN k b := by
  induction k with
  | zero => intros; rfl
  | succ k ih => intro a b; simp only [tN, t1_xor, ih]
theorem tN_add (k j : Nat) : ∀ n, tN (k + j) n = tN j (tN k n) := by
  induction k with
  | zero => intro n; rw [Nat.zero_add]; rfl
  | succ k ih => intro n; rw [Nat.succ_add]; exact ih (t1 n)
theorem tN_shift (k : Nat) : ∀ m, tN k (2 ^ k * m) = m := by
  induction k with
  | zero => intro m; simp [tN]
  | succ k ih =>
    intro m
    show tN k (t1 (2 ^ (k + 1) * m)) = m
    rw [Nat.pow_succ, Nat.mul_comm (2 ^ k) 2, Nat.mul_assoc, t1_even, ih]
theorem tN_lt (k : Nat) : ∀ {n}, n < 2 ^ 32 → tN k n < 2 ^ 32 := by
  induction k with
  | zero => intro n h; exact h
  | succ k ih => intro n h; exact ih (t1_lt h)
theorem tN_ne (k : Nat) : ∀ {n}, n < 2 ^ 32 → n ≠ 0 → tN k n ≠ 0 := by
  induction k with
  | zero => intro n _ h; exact h
  | succ k ih => intro n h h0; exact ih (t1_lt h) (t1_ne h h0)
theorem tN_zero (k : Nat) : tN k 0 = 0 := by
  induction k with
  | zero => rfl
  | succ k ih => exact ih
theorem split16 (n : Nat) : n = 2 ^ 4 * (n / 16) ^^^ n % 16 := by
  have h : 2 ^ 4 * (n / 16) ^^^ n % 16 = 2 ^ 4 * (n / 16) + n % 16 := by
    rw [Nat.two_pow_add_eq_or_of_lt (i := 4) (b := n % 16) (by omega)]
    apply Nat.eq_of_testBit_eq
    intro i
    rw [Nat.testBit_xor, Nat.testBit_or, Nat.testBit_two_pow_mul]
    by_cases hi : 4 ≤ i
    · have : (n % 16).testBit i = false := Nat.testBit_lt_two_pow (Nat.lt_of_lt_of_le (show n % 16 < 2 ^ 4 by omega) (Nat.pow_le_pow_right (by decide) hi))
      simp [this]
    · simp [show ¬ i ≥ 4 from hi]
  omega
theorem tN4 (n : Nat) : n / 16 ^^^ tN 4 (n % 16) = tN 4 n := by
  conv => rhs; rw [split16 n, tN_xor, tN_shift]
/-- one byte -/
def F (s c : Nat) : Nat := tN 8 (s ^^^ c)
theorem F_by_halves (s c : Nat) : (fun n1 => (fun n2 => n2 / 16 ^^^ tN 4 (n2 % 16)) (n1 / 16 ^^^ tN 4 (n1 % 16))) (s ^^^ c) = F s c := by
  simp only [tN4]
  exact (tN_add 4 4 _).symm
/-! ### lists of bytes -/
def W : List Nat → Nat
  | [] => 0
  | d :: l => d ^^^ 2 ^ 8 * W l
theorem fold_W (l : List Nat) : ∀ D, l.foldl F D = tN (8 * l.length) (D ^^^ W l) := by
  induction l with
  | nil => intro D; simp [W, tN]
  | cons d l ih =>
    intro D
    rw [List.foldl_cons, ih]
    show tN (8 * l.length) (tN 8 (D ^^^ d) ^^^ W l) = tN (8 * (l.length + 1)) (D ^^^ (d ^^^ 2 ^ 8 * W l))
    rw [show 8 * (l.length + 1) = 8 + 8 * l.length by omega, tN_add, ← Nat.xor_assoc, tN_xor 8 (D ^^^ d), tN_shift]
theorem W_lt (l : List Nat) (h : ∀ x ∈ l, x < 256) : W l < 2 ^ (8 * l.length) := by
  induction l with
  | nil => simp [W]
  | cons d l ih =>
    have h1 := ih (fun x hx => h x (List.mem_cons_of_mem _ hx))
    have hd := h d List.mem_cons_self
    show d ^^^ 2 ^ 8 * W l < 2 ^ (8 * (l.length + 1))
    rw [show 8 * (l.length + 1) = 8 + 8 * l.length by omega]
    refine Nat.xor_lt_two_pow ?_ ?_
    · exact Nat.lt_of_lt_of_le (show d < 2 ^ 8 by omega) (Nat.pow_le_pow_right (by decide) (by omega))
    · rw [Nat.pow_add]; exact Nat.mul_lt_mul_of_pos_left h1 (by decide)
theorem W_ne (l : List Nat) (h : ∀ x ∈ l, x < 256) (hx : ∃ x ∈ l, x ≠ 0) : W l ≠ 0 := by
  induction l with
  | nil => obtain ⟨x, hx, _⟩ := hx; simp at hx
  | cons d l ih =>
    intro e
    have hd := h d List.mem_cons_self
    have e1 : d = 2 ^ 8 * W l := by
      have := congrArg (· ^^^ 2 ^ 8 * W l) (show d ^^^ 2 ^ 8 * W l = 0 from e)
      simpa [Nat.xor_assoc, Nat.xor_self] using this
    have e2 : W l = 0 := by omega
    obtain ⟨x, hm, hx0⟩ := hx
    rcases List.mem_cons.1 hm with rfl | hm
    · omega
    · exact ih (fun x hx => h x (List.mem_cons_of_mem _ hx)) ⟨x, hm, hx0⟩ e2
theorem fold_zip : ∀ (b c : List Nat) (s t : Nat), b.length = c.length → b.foldl F s ^^^ c.foldl F t = (List.zipWith (· ^^^ ·) b c).foldl F (s ^^^ t)
  | [], [], _, _, _ => rfl
  | x :: b, y :: c, s, t, h => by
    rw [List.foldl_cons, List.foldl_cons, List.zipWith_cons_cons, List.foldl_cons, fold_zip b c _ _ (by simpa using h)]
    congr 1
    unfold F
    rw [← tN_xor]
    congr 1
    rw [Nat.xor_assoc, Nat.xor_assoc, ← Nat.xor_assoc x t y, Nat.xor_comm x t, Nat.xor_assoc t x y]
theorem fold_zeros (l : List Nat) (h : ∀ x ∈ l, x = 0) : l.foldl F 0 = 0 := by
  induction l with
  | nil => rfl
  | cons d l ih =>
    have hd := h d List.mem_cons_self
    subst hd
    rw [List.foldl_cons, show F 0 0 = 0 from rfl]
    exact ih (fun x hx => h x (List.mem_cons_of_mem _ hx))
theorem fold_ne (l : List Nat) (h : ∀ x ∈ l, x = 0) : ∀ {D}, D < 2 ^ 32 → D ≠ 0 → l.foldl F D ≠ 0 := by
  induction l with
  | nil => intro D _ h0; exact h0
  | cons d l ih =>
    intro D hD h0
    have hd := h d List.mem_cons_self
    subst hd
    rw [List.foldl_cons]
    refine ih (fun x hx => h x (List.mem_cons_of_mem _ hx)) ?_ ?_
    · unfold F; rw [Nat.xor_zero]; exact tN_lt 8 hD
    · unfold F; rw [Nat.xor_zero]; exact tN_ne 8 hD h0
theorem fold_lt (l : List Nat) (h : ∀ x ∈ l, x < 256) : ∀ {D}, D < 2 ^ 32 → l.foldl F D < 2 ^ 32 := by
  induction l with
  | nil => intro D hD; exact hD
  | cons d l ih =>
    intro D hD
    rw [List.foldl_cons]
    refine ih (fun x hx => h x (List.mem_cons_of_mem _ hx)) (tN_lt 8 (Nat.xor_lt_two_pow hD ?_))
    have := h d List.mem_cons_self
    omega
/-- TEXTS THAT DIFFER IN UP TO FOUR BYTES IN A ROW: their states part. -/
theorem fold_four (b c : List Nat) (s at_ : Nat) (hl : b.length = c.length) (hb : ∀ x ∈ b, x < 256) (hc : ∀ x ∈ c, x < 256)
    (hout : ∀ j, (j < at_ ∨ at_ + 4 ≤ j) → b[j]? = c[j]?) (hne : b ≠ c) : b.foldl F s ≠ c.foldl F s := by
  intro e
  have hz := fold_zip b c s s hl
  rw [e, Nat.xor_self, Nat.xor_self] at hz
  have hdat : ∀ j (h : j < (List.zipWith (· ^^^ ·) b c).length), (List.zipWith (· ^^^ ·) b c)[j] = b[j]'(by simp at h; omega) ^^^ c[j]'(by simp at h; omega) := fun j h => by simp
  have hzero : ∀ j (h : j < (List.zipWith (· ^^^ ·) b c).length), (j < at_ ∨ at_ + 4 ≤ j) → (List.zipWith (· ^^^ ·) b c)[j] = 0 := fun j h hj => by
    rw [hdat j h]
    have hb' : j < b.length := by simp at h; omega
    have hc' : j < c.length := by simp at h; omega
    have := hout j hj
    rw [List.getElem?_eq_getElem hb', List.getElem?_eq_getElem hc', Option.some.injEq] at this
    rw [this, Nat.xor_self]
  obtain ⟨d, hd⟩ : ∃ d, d = List.zipWith (· ^^^ ·) b c := ⟨_, rfl⟩
  have hdl : d.length = b.length := by rw [hd]; simp [hl]
  replace hdat : ∀ j (h : j < d.length), d[j] = b[j]'(by omega) ^^^ c[j]'(by omega) := by subst hd; exact hdat
  replace hzero : ∀ j (h : j < d.length), (j < at_ ∨ at_ + 4 ≤ j) → d[j] = 0 := by subst hd; exact hzero
  replace hz : 0 = d.foldl F 0 := by rw [hd]; exact hz
  clear hd
  have hlt : ∀ x ∈ d, x < 256 := by
    intro x hx
    obtain ⟨j, hj, rfl⟩ := List.getElem_of_mem hx
    rw [hdat j hj]
    exact Nat.xor_lt_two_pow (n := 8) (hb _ (List.getElem_mem _)) (hc _ (List.getElem_mem _))
  have hsp : d = d.take at_ ++ ((d.drop at_).take 4 ++ (d.drop at_).drop 4) := by rw [List.take_append_drop, List.take_append_drop]
  have h1 : (d.take at_).foldl F 0 = 0 := fold_zeros _ fun x hx => by
    obtain ⟨j, hj, rfl⟩ := List.getElem_of_mem hx
    rw [List.getElem_take]
    exact hzero j _ (Or.inl (by simp at hj; omega))
  rw [hsp, List.foldl_append, List.foldl_append, h1] at hz
  have hmid : ∃ x ∈ (d.drop at_).take 4, x ≠ 0 := by
    apply Classical.byContradiction
    intro hno
    apply hne
    apply List.ext_getElem hl
    intro j hjb hjc
    have hj : j < d.length := by omega
    have hx : d[j] = 0 := by
      by_cases hw : j < at_ ∨ at_ + 4 ≤ j
      · exact hzero j hj hw
      · apply Classical.byContradiction
        intro hx
        apply hno
        refine ⟨d[j], ?_, hx⟩
        have hk : ((d.drop at_).take 4)[j - at_]? = some d[j] := by
          rw [List.getElem?_take, if_pos (by omega), List.getElem?_drop, show at_ + (j - at_) = j by omega, List.getElem?_eq_getElem hj]
        exact List.mem_of_getElem? hk
    rw [hdat j hj] at hx
    have := congrArg (· ^^^ c[j]) hx
    simpa [Nat.xor_assoc, Nat.xor_self] using this
  have hmlt : ∀ x ∈ (d.drop at_).take 4, x < 256 := fun x hx => hlt x (List.mem_of_mem_drop (List.mem_of_mem_take hx))
  have hml : ((d.drop at_).take 4).length ≤ 4 := by simp; omega
  have hWl : W ((d.drop at_).take 4) < 2 ^ 32 := Nat.lt_of_lt_of_le (W_lt _ hmlt) (Nat.pow_le_pow_right (by decide) (by omega))
  have hWn := W_ne _ hmlt hmid
  rw [fold_W ((d.drop at_).take 4), Nat.zero_xor] at hz
  refine fold_ne _ (fun x hx => ?_) (tN_lt _ hWl) (tN_ne _ hWl hWn) hz.symm
  obtain ⟨j, hj, rfl⟩ := List.getElem_of_mem hx
  rw [List.getElem_drop, List.getElem_drop]
  exact hzero _ _ (Or.inr (by omega))
end Go.Proofs.Ytkcompeflpnfhaa.Crc
