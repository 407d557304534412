import Derived.Test.YtpeljnnbknnbmaaOnPDx10
import Derived.Test.YtpeljnnbknnbmaaOnPDx11
namespace Go.Proofs.Ytpeljnnbknnbmaa.PD
open Go.RowKit Go.Proofs.YtpeljnnbknnbmaaW.PrintWords Go.Proofs.YtpeljnnbknnbmaaW.PrintLast Go.Proofs.YtpeljnnbknnbmaaW.PrintMore
set_option linter.unusedVariables false
set_option linter.unusedSimpArgs false
def U32 (x : Int) : Prop := 0 ≤ x ∧ x < 4294967296
/-- a word as a number with a sign -/
def sgn (a : Int) : Int := if 2147483648 ≤ a then a - 4294967296 else a
theorem sgn_in {a : Int} (h : U32 a) : -2147483648 ≤ sgn a ∧ sgn a ≤ 2147483647 := by
  obtain ⟨h1, h2⟩ := h
  unfold sgn; split <;> omega
theorem mul_bound {n m : Int} (h1 : -2147483648 ≤ n ∧ n ≤ 2147483647) (h2 : -2147483648 ≤ m ∧ m ≤ 2147483647) : -4611686018427387904 ≤ n * m ∧ n * m ≤ 4611686018427387904 := by
  have e : (n * m).natAbs ≤ 4611686018427387904 := by
    rw [Int.natAbs_mul]
    exact Nat.mul_le_mul (show n.natAbs ≤ 2147483648 by omega) (show m.natAbs ≤ 2147483648 by omega)
  omega
theorem two_pow_le {a b : Nat} (h : a ≤ b) : (2 : Int) ^ a ≤ 2 ^ b := by
  have := Nat.pow_le_pow_right (show 0 < 2 by decide) h
  have e : ∀ n : Nat, (2 : Int) ^ n = ((2 ^ n : Nat) : Int) := fun n => by simp
  rw [e, e]
  exact Int.ofNat_le.2 this
theorem two_pow_pos (a : Nat) : (0 : Int) < 2 ^ a := by
  have e : (2 : Int) ^ a = ((2 ^ a : Nat) : Int) := by simp
  rw [e]
  exact Int.ofNat_lt.2 (Nat.pow_pos (by decide))
theorem floor_div {n p : Int} (hp : 0 < p) : (if Int.tmod n p < 0 then Int.tdiv n p - 1 else Int.tdiv n p) = n / p := by
  have h1 := Int.mul_tdiv_add_tmod n p
  have h2 : Int.tmod n p < p := Int.tmod_lt_of_pos n hp
  have h3 : -p < Int.tmod n p := Int.lt_tmod_of_pos n hp
  split
  · rename_i h
    have := (Int.ediv_emod_unique (a := n) (b := p) (q := Int.tdiv n p - 1) (r := Int.tmod n p + p) hp).2 ⟨by rw [Int.mul_sub]; omega, by omega, by omega⟩
    exact this.1.symm
  · rename_i h
    have := (Int.ediv_emod_unique (a := n) (b := p) (q := Int.tdiv n p) (r := Int.tmod n p) hp).2 ⟨by omega, by omega, by omega⟩
    exact this.1.symm
theorem wrap64_id {n : Int} (h : -9223372036854775808 ≤ n ∧ n ≤ 9223372036854775807) : wrap64 n = n := by unfold wrap64; omega
theorem u64_id {n : Int} (h0 : 0 ≤ n) (h : n < 18446744073709551616) : IntKind.u64.wrap n = n := by
  have e : IntKind.u64.wrap n = n % 18446744073709551616 := by simp [IntKind.wrap, IntKind.bits, IntKind.signed]
  rw [e]; omega
/-- a number, scaled -/
theorem shl64 {s : Int} (h0 : 0 ≤ s) (h : s ≤ 62) : shl .i64 1 s = 2 ^ s.toNat := by
  unfold shl
  rw [Nat.min_eq_left (show s.toNat ≤ IntKind.i64.bits by show s.toNat ≤ 64; omega), Int.one_mul, IntKind.wrap_i64]
  have h1 := two_pow_le (show s.toNat ≤ 62 by omega)
  have h2 := two_pow_pos s.toNat
  rw [show (2 : Int) ^ 62 = 4611686018427387904 from rfl] at h1
  omega

/-- what an operation of two words tells (those that loop programs have) -/
def docAlu (op : Int) (a b : Int) : Int :=
  if op = 1 then (a + b) % 4294967296 else
  if op = 2 then (a - b) % 4294967296 else
  if op = 3 then a * 2 ^ (b % 32).toNat % 4294967296 else
  if op = 4 then (if sgn a < sgn b then 1 else 0) else
  if op = 5 then (if a < b then 1 else 0) else
  if op = 6 then ((a.toNat ^^^ b.toNat : Nat) : Int) else
  if op = 7 then a / 2 ^ (b % 32).toNat else
  if op = 8 then sgn a / 2 ^ (b % 32).toNat % 4294967296 else
  if op = 9 then ((a.toNat ||| b.toNat : Nat) : Int) else
  if op = 10 then ((a.toNat &&& b.toNat : Nat) : Int) else
  if op = 11 then sgn a * sgn b % 4294967296 else
  if op = 12 then sgn a * sgn b / 4294967296 % 4294967296 else
  if op = 16 then (if b = 0 then 4294967295 else a / b) else 0
theorem u32_mod (n : Int) : U32 (n % 4294967296) := ⟨by omega, by omega⟩
theorem pow31 {s : Int} (h0 : 0 ≤ s) (h : s ≤ 31) : 1 ≤ (2 : Int) ^ s.toNat ∧ (2 : Int) ^ s.toNat ≤ 2147483648 := by
  have h1 := two_pow_le (show s.toNat ≤ 31 by omega)
  have h2 := two_pow_pos s.toNat
  rw [show (2 : Int) ^ 31 = 2147483648 from rfl] at h1
  exact ⟨by omega, h1⟩
theorem div_u32 {a p : Int} (ha : U32 a) (hp : 1 ≤ p) : U32 (a / p) := by
  obtain ⟨h1, h2⟩ := ha
  refine ⟨Int.ediv_nonneg h1 (by omega), ?_⟩
  have := Int.ediv_le_self p h1
  omega
theorem sgn_mul {a b : Int} (ha : U32 a) (hb : U32 b) : -4611686018427387904 ≤ sgn a * sgn b ∧ sgn a * sgn b ≤ 4611686018427387904 := mul_bound (sgn_in ha) (sgn_in hb)

theorem wrap32_sgn {a : Int} (h : U32 a) : wrap32 a = sgn a := by
  obtain ⟨h1, h2⟩ := h
  unfold wrap32 sgn; split <;> omega
theorem bits32 (op : BinOp) (F : Nat → Nat → Nat) (hop : (op = .and ∧ F = fun x y => x &&& y) ∨ (op = .or ∧ F = fun x y => x ||| y) ∨ (op = .xor ∧ F = fun x y => x ^^^ y)) {a b : Int} (ha : U32 a) (hb : U32 b) :
    Go.bits op .u32 a b = ((F a.toNat b.toNat : Nat) : Int) ∧ U32 ((F a.toNat b.toNat : Nat) : Int) := by
  obtain ⟨a, rfl⟩ : ∃ x : Nat, a = x := ⟨a.toNat, by have := ha.1; omega⟩
  obtain ⟨b, rfl⟩ : ∃ x : Nat, b = x := ⟨b.toNat, by have := hb.1; omega⟩
  have ha' : a < 2 ^ 32 := by have := ha.2; omega
  have hb' : b < 2 ^ 32 := by have := hb.2; omega
  have e2 : ((a : Int) % ((2 ^ 32 : Nat) : Int)).toNat = a := by omega
  have e3 : ((b : Int) % ((2 ^ 32 : Nat) : Int)).toNat = b := by omega
  simp only [Int.toNat_natCast]
  rcases hop with ⟨rfl, rfl⟩ | ⟨rfl, rfl⟩ | ⟨rfl, rfl⟩
  · have e1 : Go.bits .and .u32 (a : Int) (b : Int) = IntKind.u32.wrap ((BitVec.ofInt 32 (a : Int) &&& BitVec.ofInt 32 (b : Int)).toNat : Int) := rfl
    have hlt : a &&& b < 2 ^ 32 := Nat.and_lt_two_pow a hb'
    rw [e1, BitVec.toNat_and, BitVec.toNat_ofInt, BitVec.toNat_ofInt, e2, e3, IntKind.wrap_u32]
    show (_ : Int) = ((a &&& b : Nat) : Int) ∧ U32 ((a &&& b : Nat) : Int)
    exact ⟨by omega, by omega, by omega⟩
  · have e1 : Go.bits .or .u32 (a : Int) (b : Int) = IntKind.u32.wrap ((BitVec.ofInt 32 (a : Int) ||| BitVec.ofInt 32 (b : Int)).toNat : Int) := rfl
    have hlt : a ||| b < 2 ^ 32 := Nat.or_lt_two_pow ha' hb'
    rw [e1, BitVec.toNat_or, BitVec.toNat_ofInt, BitVec.toNat_ofInt, e2, e3, IntKind.wrap_u32]
    show (_ : Int) = ((a ||| b : Nat) : Int) ∧ U32 ((a ||| b : Nat) : Int)
    exact ⟨by omega, by omega, by omega⟩
  · have e1 : Go.bits .xor .u32 (a : Int) (b : Int) = IntKind.u32.wrap ((BitVec.ofInt 32 (a : Int) ^^^ BitVec.ofInt 32 (b : Int)).toNat : Int) := rfl
    have hlt : a ^^^ b < 2 ^ 32 := Nat.xor_lt_two_pow ha' hb'
    rw [e1, BitVec.toNat_xor, BitVec.toNat_ofInt, BitVec.toNat_ofInt, e2, e3, IntKind.wrap_u32]
    show (_ : Int) = ((a ^^^ b : Nat) : Int) ∧ U32 ((a ^^^ b : Nat) : Int)
    exact ⟨by omega, by omega, by omega⟩
theorem and31 {b : Int} (hb : U32 b) : Go.bits .and .u32 b 31 = b % 32 := by
  rw [(bits32 .and _ (Or.inl ⟨rfl, rfl⟩) hb ⟨by decide, by decide⟩).1]
  have h := Nat.and_two_pow_sub_one_eq_mod b.toNat 5
  have h0 := hb.1
  simp only [show (31 : Int).toNat = 2 ^ 5 - 1 from rfl, h]
  omega
theorem shl_id {k : IntKind} {x s : Int} (h0 : 0 ≤ s) (h : s ≤ k.bits) : shl k x s = k.wrap (x * 2 ^ s.toNat) := by
  unfold shl
  rw [Nat.min_eq_left (by omega)]
theorem shr_id {k : IntKind} {x s : Int} (h0 : 0 ≤ s) (h : s ≤ k.bits) : shr k x s = x / 2 ^ s.toNat := by
  unfold shr
  rw [Nat.min_eq_left (by omega)]
/-- a product of numbers with signs, of words' products -/
theorem sgn_prod {a b : Int} (ha : U32 a) (hb : U32 b) : sgn a * sgn b = a * b - 4294967296 * ((if 2147483648 ≤ a then b else 0) + (if 2147483648 ≤ b then a else 0)) + (if 2147483648 ≤ a ∧ 2147483648 ≤ b then 18446744073709551616 else 0) := by
  unfold sgn
  by_cases h1 : 2147483648 ≤ a
  · by_cases h2 : 2147483648 ≤ b
    · rw [if_pos h1, if_pos h2, if_pos h1, if_pos h2, if_pos ⟨h1, h2⟩, Int.sub_mul, Int.mul_sub, Int.mul_sub]; omega
    · rw [if_pos h1, if_neg h2, if_pos h1, if_neg h2, if_neg (fun h => h2 h.2), Int.sub_mul]; omega
  · by_cases h2 : 2147483648 ≤ b
    · rw [if_neg h1, if_pos h2, if_neg h1, if_pos h2, if_neg (fun h => h1 h.1), Int.mul_sub]; omega
    · rw [if_neg h1, if_neg h2, if_neg h1, if_neg h2, if_neg (fun h => h1 h.1)]; omega
theorem high_eq {a b : Int} (ha : U32 a) (hb : U32 b) (k : Nat) : num_high.f (k + 1) 12 a b = some (sgn a * sgn b / 4294967296 % 4294967296) := by
  have hp := sgn_prod ha hb
  obtain ⟨a0, a1⟩ := id ha
  obtain ⟨b0, b1⟩ := id hb
  have hm0 : 0 ≤ a * b := Int.mul_nonneg a0 b0
  have hm1 : a * b ≤ 4294967295 * 4294967295 := Int.mul_le_mul (by omega) (by omega) b0 (by omega)
  unfold num_high.f bits_Mul32.f
  simp only [Option.bind_some, num_high.j0, u64_id a0 (by omega), u64_id b0 (by omega), u64_id hm0 (by omega), wrap32_sgn ha, wrap32_sgn hb]
  rw [hp]
  generalize a * b = p at *
  have sa : sgn a < 0 ↔ 2147483648 ≤ a := by unfold sgn; split <;> omega
  have sb : sgn b < 0 ↔ 2147483648 ≤ b := by unfold sgn; split <;> omega
  by_cases h1 : 2147483648 ≤ a
  · by_cases h2 : 2147483648 ≤ b
    · simp only [sa, sb, h1, h2, decide_true, if_true, and_self, if_neg (show ¬ ((12 : Int) = 14) by decide)]
      congr 1; omega
    · simp only [sa, sb, h1, h2, decide_true, if_true, if_false, and_false, if_neg (show ¬ ((12 : Int) = 14) by decide)]
      congr 1; omega
  · by_cases h2 : 2147483648 ≤ b
    · simp only [sa, sb, h1, h2, decide_false, if_true, if_false, false_and, Bool.false_eq_true, if_neg (show ¬ ((12 : Int) = 14) by decide)]
      congr 1; omega
    · simp only [sa, sb, h1, h2, decide_false, if_true, if_false, false_and, Bool.false_eq_true, if_neg (show ¬ ((12 : Int) = 14) by decide)]
      congr 1; omega
theorem numAlu_eq {op a b : Int} (ho : (1 ≤ op ∧ op ≤ 12) ∨ op = 16) (ha : U32 a) (hb : U32 b) (k : Nat) : num_Alu.f (k + 2) op a b = some (docAlu op a b, true) ∧ U32 (docAlu op a b) := by
  obtain ⟨a0, a1⟩ := id ha
  obtain ⟨b0, b1⟩ := id hb
  have sa := sgn_in ha
  have sb := sgn_in hb
  obtain ⟨p1, p2⟩ := pow31 (s := b % 32) (by omega) (by omega)
  have hal : num_Alu.f (k + 2) op a b = num_Alu.j0 (k + 2) op a b false := by
    unfold num_Alu.f
    rw [if_neg (by omega), show decide (op > 18) = false from decide_eq_false (by omega)]
  rw [hal]
  unfold docAlu
  simp only [num_Alu.j0, Bool.false_eq_true, if_false]
  by_cases hp : op < 11
  · rw [if_pos hp]
    unfold num_plain.f
    simp only [and31 hb]
    by_cases e1 : op = 1
    · simp only [if_pos e1, Option.bind_some]; exact ⟨trivial, u32_mod _⟩
    simp only [if_neg e1]
    by_cases e2 : op = 2
    · simp only [if_pos e2, Option.bind_some]; exact ⟨trivial, u32_mod _⟩
    simp only [if_neg e2]
    by_cases e3 : op = 3
    · simp only [if_pos e3]
      rw [if_pos (by omega), shl_id (by omega) (by show b % 32 ≤ 32; omega), IntKind.wrap_u32]
      simp only [Option.bind_some]; exact ⟨trivial, u32_mod _⟩
    simp only [if_neg e3]
    by_cases e4 : op = 4
    · simp only [if_pos e4, wrap32_sgn ha, wrap32_sgn hb]
      by_cases hc : sgn a < sgn b
      · simp [hc, num_bit.f, U32]
      · simp [hc, num_bit.f, U32]
    simp only [if_neg e4]
    by_cases e5 : op = 5
    · simp only [if_pos e5]
      by_cases hc : a < b
      · simp [hc, num_bit.f, U32]
      · simp [hc, num_bit.f, U32]
    simp only [if_neg e5]
    by_cases e6 : op = 6
    · simp only [if_pos e6, (bits32 .xor _ (.inr (.inr ⟨rfl, rfl⟩)) ha hb).1, Option.bind_some]
      exact ⟨trivial, (bits32 .xor _ (.inr (.inr ⟨rfl, rfl⟩)) ha hb).2⟩
    simp only [if_neg e6]
    by_cases e7 : op = 7
    · simp only [if_pos e7]
      rw [if_pos (by omega), shr_id (by omega) (by show b % 32 ≤ 32; omega)]
      simp only [Option.bind_some]; exact ⟨trivial, div_u32 ha p1⟩
    simp only [if_neg e7]
    by_cases e8 : op = 8
    · simp only [if_pos e8, wrap32_sgn ha]
      rw [if_pos (by omega), shr_id (by omega) (by show b % 32 ≤ 32; omega)]
      simp only [Option.bind_some]; exact ⟨trivial, u32_mod _⟩
    simp only [if_neg e8]
    by_cases e9 : op = 9
    · simp only [if_pos e9, (bits32 .or _ (.inr (.inl ⟨rfl, rfl⟩)) ha hb).1, Option.bind_some]
      exact ⟨trivial, (bits32 .or _ (.inr (.inl ⟨rfl, rfl⟩)) ha hb).2⟩
    simp only [if_neg e9]
    have e10 : op = 10 := by omega
    simp only [if_pos e10, (bits32 .and _ (.inl ⟨rfl, rfl⟩) ha hb).1, Option.bind_some]
    exact ⟨trivial, (bits32 .and _ (.inl ⟨rfl, rfl⟩) ha hb).2⟩
  · rw [if_neg hp]
    simp only [if_neg (show ¬ op = 1 by omega), if_neg (show ¬ op = 2 by omega), if_neg (show ¬ op = 3 by omega), if_neg (show ¬ op = 4 by omega), if_neg (show ¬ op = 5 by omega), if_neg (show ¬ op = 6 by omega), if_neg (show ¬ op = 7 by omega), if_neg (show ¬ op = 8 by omega), if_neg (show ¬ op = 9 by omega), if_neg (show ¬ op = 10 by omega)]
    have hdiv : ∃ q r, num_divide.f (wrap32 a) (wrap32 b) = some (q, r) := by
      unfold num_divide.f
      repeat' split
      all_goals exact ⟨_, _, rfl⟩
    obtain ⟨q, r, hq⟩ := hdiv
    have hdivu : num_divideu.f a b = some (if b = 0 then 4294967295 else a / b, if b = 0 then a else Int.tmod a b) := by
      unfold num_divideu.f
      by_cases hz : b = 0
      · rw [if_pos hz, if_pos hz, if_pos hz]
      · rw [if_neg hz, if_neg hz, if_neg hz, Int.tdiv_eq_ediv_of_nonneg a0]
        obtain ⟨d1, d2⟩ := div_u32 ha (show 1 ≤ b by omega)
        rw [Int.emod_eq_of_lt d1 d2]
    simp only [hq, hdivu, Option.bind_some]
    by_cases e11 : op = 11
    · simp only [if_pos e11]
      refine ⟨?_, u32_mod _⟩
      rw [sgn_prod ha hb]
      congr 2
      generalize a * b = p
      split <;> split <;> split <;> omega
    · simp only [if_neg e11, if_neg (show ¬ op = 15 by omega)]
      by_cases e16 : op = 16
      · simp only [if_pos e16, if_neg (show ¬ op = 12 by omega)]
        refine ⟨trivial, ?_⟩
        by_cases hz : b = 0
        · simp [hz, U32]
        · rw [if_neg hz]; exact div_u32 ha (by omega)
      · have e12 : op = 12 := by omega
        simp only [if_neg e16, if_neg (show ¬ op = 17 by omega), if_neg (show ¬ op = 18 by omega), if_pos e12]
        subst e12
        rw [high_eq ha hb k]
        simp only [Option.bind_some]
        exact ⟨trivial, u32_mod _⟩
/-- the operation of a step -/
def opsT : List Int := [0, 0, 0, 1, 2, 11, 12, 10, 9, 6, 4, 5, 16, 1, 3, 7, 8]
theorem alu_op (k : Nat) (op : Nat) (h3 : 3 ≤ op) (h16 : op ≤ 16) : lirrun_alu.f (k + 1) op = some (rd opsT op) := by
  have : ∀ n : Fin 17, 3 ≤ n.val → lirrun_alu.f (k + 1) (n.val : Int) = some (rd opsT (n.val : Int)) := by
    intro n hn
    rcases n with ⟨n, hlt⟩
    match n, hlt with
    | 0, _ => exact absurd (show 3 ≤ 0 from hn) (by decide)
    | 1, _ => exact absurd (show 3 ≤ 1 from hn) (by decide)
    | 2, _ => exact absurd (show 3 ≤ 2 from hn) (by decide)
    | 3, _ => rfl
    | 4, _ => rfl
    | 5, _ => rfl
    | 6, _ => rfl
    | 7, _ => rfl
    | 8, _ => rfl
    | 9, _ => rfl
    | 10, _ => rfl
    | 11, _ => rfl
    | 12, _ => rfl
    | 13, _ => rfl
    | 14, _ => rfl
    | 15, _ => rfl
    | 16, _ => rfl
    | n + 17, h => exact absurd h (by omega)
  exact this ⟨op, by omega⟩ h3
theorem ops_in (op : Nat) (h3 : 3 ≤ op) (h16 : op ≤ 16) : (1 ≤ rd opsT op ∧ rd opsT op ≤ 12) ∨ rd opsT op = 16 := by
  have : ∀ k : Fin 17, 3 ≤ k.val → (1 ≤ rd opsT (k.val : Int) ∧ rd opsT (k.val : Int) ≤ 12) ∨ rd opsT (k.val : Int) = 16 := by decide
  exact this ⟨op, by omega⟩ h3
end Go.Proofs.Ytpeljnnbknnbmaa.PD
