import Derived.Test.YtpeljnnbknnbmaaPAx7
namespace Go.Proofs.Ytpeljnnbknnbmaa.PA
open Go.RowKit Go.Proofs.YtpeljnnbknnbmaaW.PrintWords Go.Proofs.YtpeljnnbknnbmaaW.PrintLast Go.Proofs.YtpeljnnbknnbmaaW.PrintMore
set_option linter.unusedVariables false
set_option linter.unusedSimpArgs false
def U32 (x : Int) : Prop := 0 ≤ x ∧ x < 4294967296
/-- a word as a number with a sign -/
def sgn (a : Int) : Int := if 2147483648 ≤ a then a - 4294967296 else a
theorem sgn_in {a : Int} (h : U32 a) : -2147483648 ≤ sgn a ∧ sgn a ≤ 2147483647 := by
  obtain ⟨h1, h2⟩ := h
  unfold sgn; split <;> omega
theorem mul_bound {n m : Int} (h1 : -2147483648 ≤ n ∧ n ≤ 2147483647) (h2 : -2147483648 ≤ m ∧ m ≤ 2147483647) : -4611686018427387904 ≤ n * m ∧ n * m ≤ 4611686018427387904 := by
  have e : (n * m).natAbs ≤ 4611686018427387904 := by
    rw [Int.natAbs_mul]
    exact Nat.mul_le_mul (show n.natAbs ≤ 2147483648 by omega) (show m.natAbs ≤ 2147483648 by omega)
  omega
theorem two_pow_le {a b : Nat} (h : a ≤ b) : (2 : Int) ^ a ≤ 2 ^ b := by
  have := Nat.pow_le_pow_right (show 0 < 2 by decide) h
  have e : ∀ n : Nat, (2 : Int) ^ n = ((2 ^ n : Nat) : Int) := fun n => by simp
  rw [e, e]
  exact Int.ofNat_le.2 this
theorem two_pow_pos (a : Nat) : (0 : Int) < 2 ^ a := by
  have e : (2 : Int) ^ a = ((2 ^ a : Nat) : Int) := by simp
  rw [e]
  exact Int.ofNat_lt.2 (Nat.pow_pos (by decide))
theorem floor_div {n p : Int} (hp : 0 < p) : (if Int.tmod n p < 0 then Int.tdiv n p - 1 else Int.tdiv n p) = n / p := by
  have h1 := Int.mul_tdiv_add_tmod n p
  have h2 : Int.tmod n p < p := Int.tmod_lt_of_pos n hp
  have h3 : -p < Int.tmod n p := Int.lt_tmod_of_pos n hp
  split
  · rename_i h
    have := (Int.ediv_emod_unique (a := n) (b := p) (q := Int.tdiv n p - 1) (r := Int.tmod n p + p) hp).2 ⟨by rw [Int.mul_sub]; omega, by omega, by omega⟩
    exact this.1.symm
  · rename_i h
    have := (Int.ediv_emod_unique (a := n) (b := p) (q := Int.tdiv n p) (r := Int.tmod n p) hp).2 ⟨by omega, by omega, by omega⟩
    exact this.1.symm
theorem wrap32_in (n : Int) : -2147483648 ≤ wrap32 n ∧ wrap32 n ≤ 2147483647 := by unfold wrap32; omega
theorem wrap32_id {n : Int} (h : -2147483648 ≤ n ∧ n ≤ 2147483647) : wrap32 n = n := by unfold wrap32; omega
theorem wrap64_id {n : Int} (h : -9223372036854775808 ≤ n ∧ n ≤ 9223372036854775807) : wrap64 n = n := by unfold wrap64; omega
theorem u64_id {n : Int} (h0 : 0 ≤ n) (h : n < 18446744073709551616) : IntKind.u64.wrap n = n := by
  have e : IntKind.u64.wrap n = n % 18446744073709551616 := by simp [IntKind.wrap, IntKind.bits, IntKind.signed]
  rw [e]; omega
/-- a number, scaled -/
theorem shl64 {s : Int} (h0 : 0 ≤ s) (h : s ≤ 62) : shl .i64 1 s = 2 ^ s.toNat := by
  unfold shl
  rw [Nat.min_eq_left (show s.toNat ≤ IntKind.i64.bits by show s.toNat ≤ 64; omega), Int.one_mul, IntKind.wrap_i64]
  have h1 := two_pow_le (show s.toNat ≤ 62 by omega)
  have h2 := two_pow_pos s.toNat
  rw [show (2 : Int) ^ 62 = 4611686018427387904 from rfl] at h1
  omega

theorem word_eq1 (n : Int) : pintleref01_Word.f n = some (n % 4294967296) := by
  unfold pintleref01_Word.f
  have : IntKind.u64.wrap n = n % 18446744073709551616 := by simp [IntKind.wrap, IntKind.bits, IntKind.signed]
  rw [this, Int.tmod_eq_emod_of_nonneg (by omega)]
  congr 1
  omega
theorem signed_eq {a : Int} (h : U32 a) : pintleref01_Signed.f a = some (sgn a) := by
  obtain ⟨h1, h2⟩ := h
  unfold pintleref01_Signed.f sgn wrap64
  split
  · congr 1; omega
  · congr 1; omega
/-- both numbers' bits, put together bit by bit -/
structure BitFn (F : Nat → Nat → Nat) (n s t : Nat) : Prop where
  step : ∀ x y p q : Nat, p < 2 → q < 2 → F (2 * x + p) (2 * y + q) = 2 * F x y + (if p + q = 1 then s else if p + q = 2 then t else n)
  zero : F 0 0 = 0
  lt : ∀ (m x y : Nat), x < 2 ^ m → y < 2 ^ m → F x y < 2 ^ m
  small : n < 2 ∧ s < 2 ∧ t < 2
theorem bits_from {F : Nat → Nat → Nat} {n s t : Nat} (hF : BitFn F n s t) (a b : Nat) (ha : a < 4294967296) (hb : b < 4294967296) :
    ∀ (i k : Nat), i ≤ 32 → i < k → pintleref01_bits.l0 k (a : Int) (b : Int) (n : Int) (s : Int) (t : Int) ((F (a / 2 ^ i) (b / 2 ^ i) : Nat) : Int) ((i : Int) - 1) = some ((F a b : Nat) : Int) := by
  intro i
  induction i with
  | zero =>
    intro k _ hk
    obtain ⟨k, rfl⟩ : ∃ m, k = m + 1 := ⟨k - 1, by omega⟩
    simp only [pintleref01_bits.l0]
    rw [if_neg (by omega)]
    simp
  | succ i ih =>
    intro k hi hk
    obtain ⟨k, rfl⟩ : ∃ m, k = m + 1 := ⟨k - 1, by omega⟩
    simp only [pintleref01_bits.l0]
    have hx : ((i + 1 : Nat) : Int) - 1 = (i : Int) := by omega
    rw [hx, if_pos (by omega), u64_id (by omega) (by omega), if_pos (by omega)]
    have hsa : Int.tmod (shr .u32 (a : Int) (i : Int)) 2 = ((a / 2 ^ i % 2 : Nat) : Int) := by
      unfold shr
      rw [Int.toNat_natCast, Nat.min_eq_left (show i ≤ IntKind.u32.bits by show i ≤ 32; omega)]
      have : (a : Int) / 2 ^ i = ((a / 2 ^ i : Nat) : Int) := by simp
      rw [this, Int.tmod_eq_emod_of_nonneg (Int.natCast_nonneg _)]; rfl
    have hsb : Int.tmod (shr .u32 (b : Int) (i : Int)) 2 = ((b / 2 ^ i % 2 : Nat) : Int) := by
      unfold shr
      rw [Int.toNat_natCast, Nat.min_eq_left (show i ≤ IntKind.u32.bits by show i ≤ 32; omega)]
      have : (b : Int) / 2 ^ i = ((b / 2 ^ i : Nat) : Int) := by simp
      rw [this, Int.tmod_eq_emod_of_nonneg (Int.natCast_nonneg _)]; rfl
    rw [hsa, hsb, wrap64_id (n := (i : Int) - 1) (by omega)]
    have ea : a / 2 ^ i = 2 * (a / 2 ^ (i + 1)) + a / 2 ^ i % 2 := by
      rw [Nat.pow_succ, ← Nat.div_div_eq_div_mul]; omega
    have eb : b / 2 ^ i = 2 * (b / 2 ^ (i + 1)) + b / 2 ^ i % 2 := by
      rw [Nat.pow_succ, ← Nat.div_div_eq_div_mul]; omega
    have hs := hF.step (a / 2 ^ (i + 1)) (b / 2 ^ (i + 1)) (a / 2 ^ i % 2) (b / 2 ^ i % 2) (Nat.mod_lt _ (by decide)) (Nat.mod_lt _ (by decide))
    rw [← ea, ← eb] at hs
    have hlt : F (a / 2 ^ (i + 1)) (b / 2 ^ (i + 1)) < 2 ^ 31 := by
      have h1 : ∀ c : Nat, c < 4294967296 → c / 2 ^ (i + 1) < 2 ^ 31 := fun c hc => by
        have : c / 2 ^ (i + 1) ≤ c / 2 ^ 1 := Nat.div_le_div_left (Nat.pow_le_pow_right (by decide) (by omega)) (by decide)
        omega
      exact hF.lt 31 _ _ (h1 a ha) (h1 b hb)
    have hsm := hF.small
    have hp := Nat.mod_lt (a / 2 ^ i) (show 0 < 2 by decide)
    have hq := Nat.mod_lt (b / 2 ^ i) (show 0 < 2 by decide)
    have IH := ih k (by omega) (by omega)
    rw [hs] at IH
    generalize F (a / 2 ^ (i + 1)) (b / 2 ^ (i + 1)) = X at *
    generalize a / 2 ^ i % 2 = p at *
    generalize b / 2 ^ i % 2 = q at *
    by_cases e1 : p + q = 1
    · rw [if_pos e1] at IH
      rw [if_pos (by omega), if_neg (by omega)]
      have e : (((X : Int) * 2 % 4294967296 + (s : Int)) % 4294967296) = ((2 * X + s : Nat) : Int) := by omega
      rw [e]; exact IH
    · rw [if_neg e1] at IH
      rw [if_neg (by omega)]
      by_cases e2 : p + q = 2
      · rw [if_pos e2] at IH
        rw [if_pos (by omega)]
        have e : (((X : Int) * 2 % 4294967296 + (t : Int)) % 4294967296) = ((2 * X + t : Nat) : Int) := by omega
        rw [e]; exact IH
      · rw [if_neg e2] at IH
        rw [if_neg (by omega)]
        have e : (((X : Int) * 2 % 4294967296 + (n : Int)) % 4294967296) = ((2 * X + n : Nat) : Int) := by omega
        rw [e]; exact IH
theorem bits_eq {F : Nat → Nat → Nat} {n s t : Nat} (hF : BitFn F n s t) {a b : Int} (ha : U32 a) (hb : U32 b) : pintleref01_bits.f 33 a b n s t = some ((F a.toNat b.toNat : Nat) : Int) := by
  obtain ⟨a, rfl⟩ : ∃ x : Nat, a = x := ⟨a.toNat, by have := ha.1; omega⟩
  obtain ⟨b, rfl⟩ : ∃ x : Nat, b = x := ⟨b.toNat, by have := hb.1; omega⟩
  have ha' : a < 4294967296 := by have := ha.2; omega
  have hb' : b < 4294967296 := by have := hb.2; omega
  have := bits_from hF a b ha' hb' 32 33 (by omega) (by omega)
  unfold pintleref01_bits.f
  rw [Nat.div_eq_of_lt (by omega), Nat.div_eq_of_lt (by omega), hF.zero] at this
  exact this
theorem bitF_or : BitFn (fun x y => x ||| y) 0 1 1 where
  step := fun x y p q hp hq => by
    have h1 : p = 0 ∨ p = 1 := by omega
    have h2 : q = 0 ∨ q = 1 := by omega
    have key : ∀ (x y : Nat) (p q : Bool), (2 * x + p.toNat) ||| (2 * y + q.toNat) = 2 * (x ||| y) + (p || q).toNat := fun x y p q => by
      apply Nat.eq_of_testBit_eq
      intro i
      cases i with
      | zero => cases p <;> cases q <;> simp [Nat.testBit_zero, Nat.add_mod]
      | succ i =>
        rw [Nat.testBit_or, Nat.testBit_succ, Nat.testBit_succ, Nat.testBit_succ]
        have e : ∀ (z : Nat) (r : Bool), (2 * z + r.toNat) / 2 = z := fun z r => by cases r <;> simp <;> omega
        rw [e, e, e, Nat.testBit_or]
    rcases h1 with rfl | rfl <;> rcases h2 with rfl | rfl
    · exact key x y false false
    · exact key x y false true
    · exact key x y true false
    · exact key x y true true
  zero := rfl
  lt := fun m x y hx hy => Nat.or_lt_two_pow hx hy
  small := by decide
theorem bitF_and : BitFn (fun x y => x &&& y) 0 0 1 where
  step := fun x y p q hp hq => by
    have h1 : p = 0 ∨ p = 1 := by omega
    have h2 : q = 0 ∨ q = 1 := by omega
    have key : ∀ (x y : Nat) (p q : Bool), (2 * x + p.toNat) &&& (2 * y + q.toNat) = 2 * (x &&& y) + (p && q).toNat := fun x y p q => by
      apply Nat.eq_of_testBit_eq
      intro i
      cases i with
      | zero => cases p <;> cases q <;> simp [Nat.testBit_zero, Nat.add_mod]
      | succ i =>
        rw [Nat.testBit_and, Nat.testBit_succ, Nat.testBit_succ, Nat.testBit_succ]
        have e : ∀ (z : Nat) (r : Bool), (2 * z + r.toNat) / 2 = z := fun z r => by cases r <;> simp <;> omega
        rw [e, e, e, Nat.testBit_and]
    rcases h1 with rfl | rfl <;> rcases h2 with rfl | rfl
    · exact key x y false false
    · exact key x y false true
    · exact key x y true false
    · exact key x y true true
  zero := rfl
  lt := fun m x y hx hy => Nat.and_lt_two_pow x hy
  small := by decide
theorem bitF_xor : BitFn (fun x y => x ^^^ y) 0 1 0 where
  step := fun x y p q hp hq => by
    have h1 : p = 0 ∨ p = 1 := by omega
    have h2 : q = 0 ∨ q = 1 := by omega
    have key : ∀ (x y : Nat) (p q : Bool), (2 * x + p.toNat) ^^^ (2 * y + q.toNat) = 2 * (x ^^^ y) + (p ^^ q).toNat := fun x y p q => by
      apply Nat.eq_of_testBit_eq
      intro i
      cases i with
      | zero => cases p <;> cases q <;> simp [Nat.testBit_zero, Nat.add_mod]
      | succ i =>
        rw [Nat.testBit_xor, Nat.testBit_succ, Nat.testBit_succ, Nat.testBit_succ]
        have e : ∀ (z : Nat) (r : Bool), (2 * z + r.toNat) / 2 = z := fun z r => by cases r <;> simp <;> omega
        rw [e, e, e, Nat.testBit_xor]
    rcases h1 with rfl | rfl <;> rcases h2 with rfl | rfl
    · exact key x y false false
    · exact key x y false true
    · exact key x y true false
    · exact key x y true true
  zero := rfl
  lt := fun m x y hx hy => Nat.xor_lt_two_pow hx hy
  small := by decide
end Go.Proofs.Ytpeljnnbknnbmaa.PA
