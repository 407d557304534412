import Derived.Test.YtpeljnnbknnbmaaM1
namespace Go.Proofs.Ytpeljnnbknnbmaa.PA
open Go.RowKit Go.Proofs.YtpeljnnbknnbmaaW.PrintWords Go.Proofs.YtpeljnnbknnbmaaW.PrintLast Go.Proofs.YtpeljnnbknnbmaaW.PrintMore
set_option linter.unusedVariables false
set_option linter.unusedSimpArgs false
/-- what an operation of two words tells (those that loop programs have) -/
def docAlu (op : Int) (a b : Int) : Int :=
  if op = 1 then (a + b) % 4294967296 else
  if op = 2 then (a - b) % 4294967296 else
  if op = 3 then a * 2 ^ (b % 32).toNat % 4294967296 else
  if op = 4 then (if sgn a < sgn b then 1 else 0) else
  if op = 5 then (if a < b then 1 else 0) else
  if op = 6 then ((a.toNat ^^^ b.toNat : Nat) : Int) else
  if op = 7 then a / 2 ^ (b % 32).toNat else
  if op = 8 then sgn a / 2 ^ (b % 32).toNat % 4294967296 else
  if op = 9 then ((a.toNat ||| b.toNat : Nat) : Int) else
  if op = 10 then ((a.toNat &&& b.toNat : Nat) : Int) else
  if op = 11 then sgn a * sgn b % 4294967296 else
  if op = 12 then sgn a * sgn b / 4294967296 % 4294967296 else
  if op = 16 then (if b = 0 then 4294967295 else a / b) else 0
theorem u32_mod (n : Int) : U32 (n % 4294967296) := ⟨by omega, by omega⟩
theorem pow31 {s : Int} (h0 : 0 ≤ s) (h : s ≤ 31) : 1 ≤ (2 : Int) ^ s.toNat ∧ (2 : Int) ^ s.toNat ≤ 2147483648 := by
  have h1 := two_pow_le (show s.toNat ≤ 31 by omega)
  have h2 := two_pow_pos s.toNat
  rw [show (2 : Int) ^ 31 = 2147483648 from rfl] at h1
  exact ⟨by omega, h1⟩
theorem div_u32 {a p : Int} (ha : U32 a) (hp : 1 ≤ p) : U32 (a / p) := by
  obtain ⟨h1, h2⟩ := ha
  refine ⟨Int.ediv_nonneg h1 (by omega), ?_⟩
  have := Int.ediv_le_self p h1
  omega
theorem div_le_abs {x p : Int} (hp : 1 ≤ p) (B : Int) (h : -B ≤ x ∧ x ≤ B) (hB : 0 ≤ B) : -B ≤ x / p ∧ x / p ≤ B := by
  constructor
  · rw [Int.le_ediv_iff_mul_le (by omega)]
    have : B * 1 ≤ B * p := Int.mul_le_mul_of_nonneg_left hp hB
    have e : -B * p = -(B * p) := Int.neg_mul _ _
    rw [e]; omega
  · have : x < (B + 1) * p := by
      have : (B + 1) * 1 ≤ (B + 1) * p := Int.mul_le_mul_of_nonneg_left hp (by omega)
      omega
    have := Int.ediv_lt_of_lt_mul (by omega) this
    omega
theorem floor_eq {n s : Int} (h0 : 0 ≤ s) (h : s ≤ 62) (hn : -9223372036854775807 ≤ n ∧ n ≤ 9223372036854775807) : pintleref01_floor.f n s = some (n / 2 ^ s.toNat) := by
  unfold pintleref01_floor.f
  have hp := two_pow_pos s.toNat
  rw [u64_id h0 (by omega), if_pos h0, shl64 h0 h, if_neg (show ¬ ((2 : Int) ^ s.toNat = 0) by omega)]
  have hf := floor_div (n := n) hp
  have hq : (Int.tdiv n (2 ^ s.toNat)).natAbs ≤ n.natAbs := by
    rw [Int.natAbs_tdiv]; exact Nat.div_le_self _ _
  have h1 := Int.mul_tdiv_add_tmod n (2 ^ s.toNat)
  rw [wrap64_id (n := Int.tdiv n (2 ^ s.toNat)) (by omega)]
  by_cases hneg : n < 0
  · rw [if_pos hneg]
    have hm : Int.tmod n (2 ^ s.toNat) ≤ 0 := by
      have : Int.tmod n (2 ^ s.toNat) = -(Int.tmod (-n) (2 ^ s.toNat)) := by rw [Int.neg_tmod]; omega
      rw [this]
      have := Int.tmod_nonneg (2 ^ s.toNat) (show 0 ≤ -n by omega)
      omega
    by_cases hz : Int.tmod n (2 ^ s.toNat) = 0
    · rw [if_pos hz, ← hf, if_neg (by omega)]
    · rw [if_neg hz, ← hf, if_pos (by omega), wrap64_id (n := Int.tdiv n (2 ^ s.toNat) - 1) (by omega)]
  · rw [if_neg hneg]
    have hm := Int.tmod_nonneg (2 ^ s.toNat) (show 0 ≤ n by omega)
    rw [if_neg (show ¬ ((2 : Int) ^ s.toNat = 0) by omega), ← hf, if_neg (by omega)]
theorem mod32 {b : Int} (hb : U32 b) : wrap64 (Int.tmod b 32) = b % 32 ∧ IntKind.u64.wrap (b % 32) = b % 32 := by
  obtain ⟨h1, h2⟩ := hb
  rw [Int.tmod_eq_emod_of_nonneg h1]
  exact ⟨by unfold wrap64; omega, u64_id (by omega) (by omega)⟩
theorem sgn_mul {a b : Int} (ha : U32 a) (hb : U32 b) : -4611686018427387904 ≤ sgn a * sgn b ∧ sgn a * sgn b ≤ 4611686018427387904 := mul_bound (sgn_in ha) (sgn_in hb)
theorem div_some (a b : Int) : ∃ q r, pintleref01_div.f a b = some (q, r) := by
  unfold pintleref01_div.f
  split
  · exact ⟨_, _, rfl⟩
  · exact ⟨_, _, rfl⟩
theorem bt_u32 (F : Nat → Nat → Nat) {n s t : Nat} (hF : BitFn F n s t) {a b : Int} (ha : U32 a) (hb : U32 b) : U32 ((F a.toNat b.toNat : Nat) : Int) := by
  have := hF.lt 32 a.toNat b.toNat (by have := ha.2; omega) (by have := hb.2; omega)
  exact ⟨by omega, by omega⟩
theorem alu_eq {op a b : Int} (ho : (1 ≤ op ∧ op ≤ 12) ∨ op = 16) (ha : U32 a) (hb : U32 b) : pintleref01_Alu.f 33 op a b = some (docAlu op a b, true) ∧ U32 (docAlu op a b) := by
  have ha' := ha
  have hb' := hb
  obtain ⟨a0, a1⟩ := ha'
  obtain ⟨b0, b1⟩ := hb'
  have wa : wrap64 a = a := wrap64_id (by omega)
  have wb : wrap64 b = b := wrap64_id (by omega)
  have sa := sgn_in ha
  have sb := sgn_in hb
  obtain ⟨m1, m2⟩ := mod32 hb
  obtain ⟨p1, p2⟩ := pow31 (s := b % 32) (by omega) (by omega)
  unfold pintleref01_Alu.f docAlu
  simp only [signed_eq ha, signed_eq hb, Option.bind_some, wa, wb, m1, m2]
  by_cases e1 : op = 1
  · simp only [if_pos e1, word_eq1, Option.bind_some]
    rw [wrap64_id (by omega)]
    exact ⟨rfl, u32_mod _⟩
  simp only [if_neg e1]
  by_cases e2 : op = 2
  · simp only [if_pos e2, word_eq1, Option.bind_some]
    rw [wrap64_id (by omega)]
    exact ⟨rfl, u32_mod _⟩
  simp only [if_neg e2]
  by_cases e3 : op = 3
  · simp only [if_pos e3, word_eq1, Option.bind_some]
    rw [if_pos (by omega), shl64 (by omega) (by omega)]
    have hm : a * 2 ^ (b % 32).toNat ≤ 4294967295 * 2147483648 := Int.mul_le_mul (by omega) p2 (by omega) (by omega)
    have hm0 : 0 ≤ a * 2 ^ (b % 32).toNat := Int.mul_nonneg a0 (by omega)
    rw [wrap64_id (by omega)]
    exact ⟨rfl, u32_mod _⟩
  simp only [if_neg e3]
  by_cases e4 : op = 4
  · simp only [if_pos e4]
    by_cases hc : sgn a < sgn b
    · simp [hc, pintleref01_one.f, word_eq1, U32]
    · simp [hc, pintleref01_one.f, word_eq1, U32]
  simp only [if_neg e4]
  by_cases e5 : op = 5
  · simp only [if_pos e5]
    by_cases hc : a < b
    · simp [hc, pintleref01_one.f, word_eq1, U32]
    · simp [hc, pintleref01_one.f, word_eq1, U32]
  simp only [if_neg e5]
  by_cases e6 : op = 6
  · have hbt := bits_eq bitF_xor ha hb
    rw [if_pos e6, if_pos e6, show pintleref01_bits.f 33 a b 0 1 0 = _ from hbt]
    exact ⟨rfl, bt_u32 _ bitF_xor ha hb⟩
  simp only [if_neg e6]
  by_cases e7 : op = 7
  · simp only [if_pos e7, word_eq1]
    rw [if_pos (by omega), shl64 (by omega) (by omega), if_neg (by omega), Int.tdiv_eq_ediv_of_nonneg a0]
    obtain ⟨d1, d2⟩ := div_u32 ha p1
    rw [wrap64_id (by omega)]
    refine ⟨?_, d1, d2⟩
    simp only [Option.bind_some]
    rw [Int.emod_eq_of_lt d1 d2]
  simp only [if_neg e7]
  by_cases e8 : op = 8
  · simp only [if_pos e8]
    rw [floor_eq (by omega) (by omega) (by omega)]
    simp only [Option.bind_some, word_eq1]
    exact ⟨trivial, u32_mod _⟩
  simp only [if_neg e8]
  by_cases e9 : op = 9
  · have hbt := bits_eq bitF_or ha hb
    rw [if_pos e9, if_pos e9, show pintleref01_bits.f 33 a b 0 1 1 = _ from hbt]
    exact ⟨rfl, bt_u32 _ bitF_or ha hb⟩
  simp only [if_neg e9]
  by_cases e10 : op = 10
  · have hbt := bits_eq bitF_and ha hb
    rw [if_pos e10, if_pos e10, show pintleref01_bits.f 33 a b 0 0 1 = _ from hbt]
    exact ⟨rfl, bt_u32 _ bitF_and ha hb⟩
  simp only [if_neg e10]
  have hmul := sgn_mul ha hb
  unfold pintleref01_more.f
  obtain ⟨q1, r1, hq1⟩ := div_some (sgn a) (sgn b)
  by_cases e16 : op = 16
  · simp only [hq1, Option.bind_some, if_neg (show ¬ (op = 11) by omega), if_neg (show ¬ (op = 12) by omega), if_neg (show ¬ (op = 13) by omega), if_neg (show ¬ (op = 14) by omega), if_neg (show ¬ (op = 15) by omega), if_pos e16, word_eq1]
    unfold pintleref01_div.f
    by_cases hz : b = 0
    · simp [hz, U32]
    · rw [if_neg hz, if_neg hz, Int.tdiv_eq_ediv_of_nonneg a0]
      obtain ⟨d1, d2⟩ := div_u32 ha (show 1 ≤ b by omega)
      rw [wrap64_id (by omega)]
      refine ⟨?_, d1, d2⟩
      simp only [Option.bind_some]
      rw [Int.emod_eq_of_lt d1 d2]
  · obtain ⟨q2, r2, hq2⟩ := div_some a b
    simp only [hq1, hq2, Option.bind_some]
    by_cases e11 : op = 11
    · simp only [if_pos e11, word_eq1, Option.bind_some]
      rw [wrap64_id (by omega)]
      exact ⟨rfl, u32_mod _⟩
    · have e12 : op = 12 := by omega
      simp only [if_neg e11, if_pos e12]
      rw [wrap64_id (by omega), floor_eq (by omega) (by omega) (by omega)]
      simp only [Option.bind_some, word_eq1]
      exact ⟨rfl, u32_mod _⟩
end Go.Proofs.Ytpeljnnbknnbmaa.PA
