/- Texts that differ in up to four bytes in a row: what the law's loop makes of a text is another one just where a byte is turned; then the sums are unlike. No conditions. -/
import Derived.Test.YtkcompeflpnfhaaCrcPure
import Derived.Test.YtkcompeflpnfhaaGoodCrcFour
namespace Go.Proofs.Ytkcompeflpnfhaa.Crc
open Go.RowKit Go.Proofs.Ytkcompeflpnfhaa.PA Go.Proofs.YtkcompeflpnfhaaW Go.Proofs.YtkcompeflpnfhaaW.PrintWords Go.Proofs.YtkcompeflpnfhaaW.PrintMore
section
variable {b0 b1 b2 b3 : Int} {p : Nat} {l : List Int}
theorem byAt_in (h0 : 0 ≤ b0 ∧ b0 < 256) (h1 : 0 ≤ b1 ∧ b1 < 256) (h2 : 0 ≤ b2 ∧ b2 < 256) (h3 : 0 ≤ b3 ∧ b3 < 256) (k : Nat) : 0 ≤ byAt b0 b1 b2 b3 k ∧ byAt b0 b1 b2 b3 k < 256 := by
  unfold byAt
  split
  · exact h0
  · split
    · exact h1
    · split
      · exact h2
      · exact h3
theorem fourC_out (k j : Nat) (h : j < p ∨ p + k ≤ j) : (fourC b0 b1 b2 b3 p l k)[j]? = l[j]? := by
  induction k with
  | zero => rfl
  | succ k ih =>
    unfold fourC
    rw [List.getElem?_set_ne (by omega)]
    exact ih (by omega)
theorem fourC_in (k j : Nat) (hj : j < k) (hl : p + k ≤ l.length) : (fourC b0 b1 b2 b3 p l k)[p + j]? = some ((rd l ((p + j : Nat) : Int) + byAt b0 b1 b2 b3 j) % 256) := by
  induction k with
  | zero => omega
  | succ k ih =>
    unfold fourC
    by_cases e : j = k
    · subst e
      rw [List.getElem?_set_self (by rw [fourC_length]; omega)]
      congr 3
      unfold rd
      rw [Int.toNat_natCast, List.getD_eq_getElem?_getD, List.getD_eq_getElem?_getD, fourC_out j (p + j) (by omega)]
    · rw [List.getElem?_set_ne (by omega)]
      exact ih (by omega) (by omega)
theorem fourO_iff (k : Nat) : fourO b0 b1 b2 b3 k = true ↔ ∃ j, j < k ∧ byAt b0 b1 b2 b3 j ≠ 0 := by
  induction k with
  | zero => simp [fourO]
  | succ k ih =>
    unfold fourO
    rw [Bool.or_eq_true, ih]
    constructor
    · rintro (⟨j, hj, h⟩ | h)
      · exact ⟨j, by omega, h⟩
      · exact ⟨k, by omega, by simpa using h⟩
    · rintro ⟨j, hj, h⟩
      by_cases e : j = k
      · subst e; exact .inr (by simpa using h)
      · exact .inl ⟨j, by omega, h⟩
theorem rd_eq (l : List Int) (j : Nat) (h : j < l.length) : rd l (j : Int) = l[j] := by
  unfold rd
  rw [Int.toNat_natCast, List.getD_eq_getElem?_getD, List.getElem?_eq_getElem h]
  rfl
theorem fourC_ne (h0 : 0 ≤ b0 ∧ b0 < 256) (h1 : 0 ≤ b1 ∧ b1 < 256) (h2 : 0 ≤ b2 ∧ b2 < 256) (h3 : 0 ≤ b3 ∧ b3 < 256) (hb : Bytes l) (k : Nat) (hl : p + k ≤ l.length) : fourO b0 b1 b2 b3 k = true ↔ fourC b0 b1 b2 b3 p l k ≠ l := by
  rw [fourO_iff]
  constructor
  · rintro ⟨j, hj, h⟩ e
    have := fourC_in (b0 := b0) (b1 := b1) (b2 := b2) (b3 := b3) (p := p) (l := l) k j hj hl
    rw [e, List.getElem?_eq_getElem (by omega), rd_eq l (p + j) (by omega), Option.some.injEq] at this
    have hx := hb _ (List.getElem_mem (show p + j < l.length by omega))
    have hy := byAt_in h0 h1 h2 h3 j
    omega
  · intro hne
    apply Classical.byContradiction
    intro hno
    apply hne
    apply List.ext_getElem?
    intro i
    by_cases hi : p ≤ i ∧ i < p + k
    · obtain ⟨j, rfl⟩ : ∃ j, i = p + j := ⟨i - p, by omega⟩
      have hj : byAt b0 b1 b2 b3 j = 0 := Classical.byContradiction fun h => hno ⟨j, by omega, h⟩
      have hx := hb _ (List.getElem_mem (show p + j < l.length by omega))
      rw [fourC_in k j (by omega) hl, rd_eq l (p + j) (by omega), hj, List.getElem?_eq_getElem (by omega), Option.some.injEq]
      omega
    · exact fourC_out k i (by omega)
theorem fourC_bytes (hb : Bytes l) (k : Nat) : Bytes (fourC b0 b1 b2 b3 p l k) := by
  induction k with
  | zero => exact hb
  | succ k ih =>
    unfold fourC
    intro x hx
    rcases List.mem_or_eq_of_mem_set hx with hx | rfl
    · exact ih x hx
    · omega
end
theorem nat_inj {a b : List Int} (ha : Bytes a) (hb : Bytes b) (h : nat a = nat b) : a = b := by
  have hl : a.length = b.length := by have := congrArg List.length h; simpa [nat] using this
  apply List.ext_getElem hl
  intro i h1 h2
  have e : (nat a)[i]'(by simpa [nat] using h1) = (nat b)[i]'(by simpa [nat] using h2) := by simp [h]
  simp only [nat, List.getElem_map] at e
  have := ha _ (List.getElem_mem h1)
  have := hb _ (List.getElem_mem h2)
  omega
theorem sum_ne {a b : List Int} (ha : Bytes a) (hb : Bytes b) (hl : a.length = b.length) (p : Nat) (hout : ∀ j, (j < p ∨ p + 4 ≤ j) → a[j]? = b[j]?) (hne : a ≠ b) : moreV 0 a ≠ moreV 0 b := by
  intro e
  have e1 := moreV_nat 0 (by decide) a ha
  have e2 := moreV_nat 0 (by decide) b hb
  rw [show ((0 : Nat) : Int) = 0 from rfl] at e1 e2
  rw [e1, e2] at e
  have e3 : sumN 0 (nat a) = sumN 0 (nat b) := by omega
  unfold sumN at e3
  have e4 : (nat a).foldl F ((2 ^ 32 - 1) ^^^ 0) = (nat b).foldl F ((2 ^ 32 - 1) ^^^ 0) := by
    have := congrArg ((2 ^ 32 - 1) ^^^ ·) e3
    simpa [← Nat.xor_assoc, Nat.xor_self, Nat.zero_xor] using this
  refine fold_four (nat a) (nat b) _ p (by simpa [nat] using hl) (nat_lt ha) (nat_lt hb) (fun j hj => ?_) (fun h => hne (nat_inj ha hb h)) e4
  simp only [nat, List.getElem?_map, hout j hj]
theorem CrcFour : pintlelaw08_CrcFour.Pure := by
  intro l a by_ hl _ hby hby'
  match by_, hby with
  | [b0, b1, b2, b3], _ =>
    have hb := bytes_take (bytes_of_wf hl.2.2) 300
    have hB := bytes_of_wf hby'
    have h0 := hB b0 (by simp)
    have h1 := hB b1 (by simp)
    have h2 := hB b2 (by simp)
    have h3 := hB b3 (by simp)
    show some (fourB l a b0 b1 b2 b3) = some true
    congr 1
    unfold fourB
    generalize l.take 300 = c at *
    split
    · rfl
    · rename_i hc
      split
      · rfl
      · have hpos : 0 < c.length := List.length_pos_iff.2 hc
        have hin := fourAt_in a c.length hpos
        obtain ⟨p, hp⟩ : ∃ p : Nat, (fourAt a c.length).toNat = p := ⟨_, rfl⟩
        rw [hp]
        have hpl : p < c.length := by omega
        obtain ⟨k, hk⟩ : ∃ k, fourN p c.length = k := ⟨_, rfl⟩
        rw [hk]
        have hk4 : k ≤ 4 ∧ p + k ≤ c.length := by unfold fourN at hk; split at hk <;> omega
        have hiff := fourC_ne (p := p) (l := c) h0 h1 h2 h3 hb k hk4.2
        by_cases ho : fourO b0 b1 b2 b3 k = true
        · have hne := hiff.1 ho
          have hs := sum_ne hb (fourC_bytes (b0 := b0) (b1 := b1) (b2 := b2) (b3 := b3) (p := p) hb k) (fourC_length _ _ _ _ _ _ _).symm p (fun j hj => (fourC_out k j (by omega)).symm) (fun h => hne h.symm)
          rw [ho]
          simpa using hs
        · have he : fourC b0 b1 b2 b3 p c k = c := Classical.byContradiction fun h => ho (hiff.2 h)
          rw [he]
          simpa using ho
end Go.Proofs.Ytkcompeflpnfhaa.Crc
