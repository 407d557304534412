import Derived.Test.YtpeljnnbknnbmaaOnPDx0
import Derived.Test.YtpeljnnbknnbmaaOnN28
import Derived.Test.YtpeljnnbknnbmaaOnPDx24
import Derived.Outline
import Derived.Test.YtpeljnnbknnbmaaOnN17
section
namespace Go.Proofs.Ytpeljnnbknnbmaa.PD
open Go.RowKit Go.Proofs.YtpeljnnbknnbmaaW.PrintWords Go.Proofs.YtpeljnnbknnbmaaW.PrintLast Go.Proofs.YtpeljnnbknnbmaaW.PrintMore
set_option linter.unusedVariables false
set_option linter.unusedSimpArgs false
theorem word_eq1 (n : Int) : pintleref01_Word.f n = some (n % 4294967296) := by
  unfold pintleref01_Word.f
  have : IntKind.u64.wrap n = n % 18446744073709551616 := by simp [IntKind.wrap, IntKind.bits, IntKind.signed]
  rw [this, Int.tmod_eq_emod_of_nonneg (by omega)]
  congr 1
  omega
theorem signed_eq {a : Int} (h : U32 a) : pintleref01_Signed.f a = some (sgn a) := by
  obtain ⟨h1, h2⟩ := h
  unfold pintleref01_Signed.f sgn wrap64
  split
  · congr 1; omega
  · congr 1; omega
/-- both numbers' bits, put together bit by bit -/
structure BitFn (F : Nat → Nat → Nat) (n s t : Nat) : Prop where
  step : ∀ x y p q : Nat, p < 2 → q < 2 → F (2 * x + p) (2 * y + q) = 2 * F x y + (if p + q = 1 then s else if p + q = 2 then t else n)
  zero : F 0 0 = 0
  lt : ∀ (m x y : Nat), x < 2 ^ m → y < 2 ^ m → F x y < 2 ^ m
  small : n < 2 ∧ s < 2 ∧ t < 2
theorem bits_from {F : Nat → Nat → Nat} {n s t : Nat} (hF : BitFn F n s t) (a b : Nat) (ha : a < 4294967296) (hb : b < 4294967296) :
    ∀ (i k : Nat), i ≤ 32 → i < k → pintleref01_bits.l0 k (a : Int) (b : Int) (n : Int) (s : Int) (t : Int) ((F (a / 2 ^ i) (b / 2 ^ i) : Nat) : Int) ((i : Int) - 1) = some ((F a b : Nat) : Int) := by
  intro i
  induction i with
  | zero =>
    intro k _ hk
    obtain ⟨k, rfl⟩ : ∃ m, k = m + 1 := ⟨k - 1, by omega⟩
    simp only [pintleref01_bits.l0]
    rw [if_neg (by omega)]
    simp
  | succ i ih =>
    intro k hi hk
    obtain ⟨k, rfl⟩ : ∃ m, k = m + 1 := ⟨k - 1, by omega⟩
    simp only [pintleref01_bits.l0]
    have hx : ((i + 1 : Nat) : Int) - 1 = (i : Int) := by omega
    rw [hx, if_pos (by omega), u64_id (by omega) (by omega), if_pos (by omega)]
    have hsa : Int.tmod (shr .u32 (a : Int) (i : Int)) 2 = ((a / 2 ^ i % 2 : Nat) : Int) := by
      unfold shr
      rw [Int.toNat_natCast, Nat.min_eq_left (show i ≤ IntKind.u32.bits by show i ≤ 32; omega)]
      have : (a : Int) / 2 ^ i = ((a / 2 ^ i : Nat) : Int) := by simp
      rw [this, Int.tmod_eq_emod_of_nonneg (Int.natCast_nonneg _)]; rfl
    have hsb : Int.tmod (shr .u32 (b : Int) (i : Int)) 2 = ((b / 2 ^ i % 2 : Nat) : Int) := by
      unfold shr
      rw [Int.toNat_natCast, Nat.min_eq_left (show i ≤ IntKind.u32.bits by show i ≤ 32; omega)]
      have : (b : Int) / 2 ^ i = ((b / 2 ^ i : Nat) : Int) := by simp
      rw [this, Int.tmod_eq_emod_of_nonneg (Int.natCast_nonneg _)]; rfl
    rw [hsa, hsb, wrap64_id (n := (i : Int) - 1) (by omega)]
    have ea : a / 2 ^ i = 2 * (a / 2 ^ (i + 1)) + a / 2 ^ i % 2 := by
      rw [Nat.pow_succ, ← Nat.div_div_eq_div_mul]; omega
    have eb : b / 2 ^ i = 2 * (b / 2 ^ (i + 1)) + b / 2 ^ i % 2 := by
      rw [Nat.pow_succ, ← Nat.div_div_eq_div_mul]; omega
    have hs := hF.step (a / 2 ^ (i + 1)) (b / 2 ^ (i + 1)) (a / 2 ^ i % 2) (b / 2 ^ i % 2) (Nat.mod_lt _ (by decide)) (Nat.mod_lt _ (by decide))
    rw [← ea, ← eb] at hs
    have hlt : F (a / 2 ^ (i + 1)) (b / 2 ^ (i + 1)) < 2 ^ 31 := by
      have h1 : ∀ c : Nat, c < 4294967296 → c / 2 ^ (i + 1) < 2 ^ 31 := fun c hc => by
        have : c / 2 ^ (i + 1) ≤ c / 2 ^ 1 := Nat.div_le_div_left (Nat.pow_le_pow_right (by decide) (by omega)) (by decide)
        omega
      exact hF.lt 31 _ _ (h1 a ha) (h1 b hb)
    have hsm := hF.small
    have hp := Nat.mod_lt (a / 2 ^ i) (show 0 < 2 by decide)
    have hq := Nat.mod_lt (b / 2 ^ i) (show 0 < 2 by decide)
    have IH := ih k (by omega) (by omega)
    rw [hs] at IH
    generalize F (a / 2 ^ (i + 1)) (b / 2 ^ (i + 1)) = X at *
    generalize a / 2 ^ i % 2 = p at *
    generalize b / 2 ^ i % 2 = q at *
    by_cases e1 : p + q = 1
    · rw [if_pos e1] at IH
      rw [if_pos (by omega), if_neg (by omega)]
      have e : (((X : Int) * 2 % 4294967296 + (s : Int)) % 4294967296) = ((2 * X + s : Nat) : Int) := by omega
      rw [e]; exact IH
    · rw [if_neg e1] at IH
      rw [if_neg (by omega)]
      by_cases e2 : p + q = 2
      · rw [if_pos e2] at IH
        rw [if_pos (by omega)]
        have e : (((X : Int) * 2 % 4294967296 + (t : Int)) % 4294967296) = ((2 * X + t : Nat) : Int) := by omega
        rw [e]; exact IH
      · rw [if_neg e2] at IH
        rw [if_neg (by omega)]
        have e : (((X : Int) * 2 % 4294967296 + (n : Int)) % 4294967296) = ((2 * X + n : Nat) : Int) := by omega
        rw [e]; exact IH
theorem bits_eq {F : Nat → Nat → Nat} {n s t : Nat} (hF : BitFn F n s t) {a b : Int} (ha : U32 a) (hb : U32 b) : pintleref01_bits.f 33 a b n s t = some ((F a.toNat b.toNat : Nat) : Int) := by
  obtain ⟨a, rfl⟩ : ∃ x : Nat, a = x := ⟨a.toNat, by have := ha.1; omega⟩
  obtain ⟨b, rfl⟩ : ∃ x : Nat, b = x := ⟨b.toNat, by have := hb.1; omega⟩
  have ha' : a < 4294967296 := by have := ha.2; omega
  have hb' : b < 4294967296 := by have := hb.2; omega
  have := bits_from hF a b ha' hb' 32 33 (by omega) (by omega)
  unfold pintleref01_bits.f
  rw [Nat.div_eq_of_lt (by omega), Nat.div_eq_of_lt (by omega), hF.zero] at this
  exact this
theorem bitF_or : BitFn (fun x y => x ||| y) 0 1 1 where
  step := fun x y p q hp hq => by
    have h1 : p = 0 ∨ p = 1 := by omega
    have h2 : q = 0 ∨ q = 1 := by omega
    have key : ∀ (x y : Nat) (p q : Bool), (2 * x + p.toNat) ||| (2 * y + q.toNat) = 2 * (x ||| y) + (p || q).toNat := fun x y p q => by
      apply Nat.eq_of_testBit_eq
      intro i
      cases i with
      | zero => cases p <;> cases q <;> simp [Nat.testBit_zero, Nat.add_mod]
      | succ i =>
        rw [Nat.testBit_or, Nat.testBit_succ, Nat.testBit_succ, Nat.testBit_succ]
        have e : ∀ (z : Nat) (r : Bool), (2 * z + r.toNat) / 2 = z := fun z r => by cases r <;> simp <;> omega
        rw [e, e, e, Nat.testBit_or]
    rcases h1 with rfl | rfl <;> rcases h2 with rfl | rfl
    · exact key x y false false
    · exact key x y false true
    · exact key x y true false
    · exact key x y true true
  zero := rfl
  lt := fun m x y hx hy => Nat.or_lt_two_pow hx hy
  small := by decide
theorem bitF_and : BitFn (fun x y => x &&& y) 0 0 1 where
  step := fun x y p q hp hq => by
    have h1 : p = 0 ∨ p = 1 := by omega
    have h2 : q = 0 ∨ q = 1 := by omega
    have key : ∀ (x y : Nat) (p q : Bool), (2 * x + p.toNat) &&& (2 * y + q.toNat) = 2 * (x &&& y) + (p && q).toNat := fun x y p q => by
      apply Nat.eq_of_testBit_eq
      intro i
      cases i with
      | zero => cases p <;> cases q <;> simp [Nat.testBit_zero, Nat.add_mod]
      | succ i =>
        rw [Nat.testBit_and, Nat.testBit_succ, Nat.testBit_succ, Nat.testBit_succ]
        have e : ∀ (z : Nat) (r : Bool), (2 * z + r.toNat) / 2 = z := fun z r => by cases r <;> simp <;> omega
        rw [e, e, e, Nat.testBit_and]
    rcases h1 with rfl | rfl <;> rcases h2 with rfl | rfl
    · exact key x y false false
    · exact key x y false true
    · exact key x y true false
    · exact key x y true true
  zero := rfl
  lt := fun m x y hx hy => Nat.and_lt_two_pow x hy
  small := by decide
theorem bitF_xor : BitFn (fun x y => x ^^^ y) 0 1 0 where
  step := fun x y p q hp hq => by
    have h1 : p = 0 ∨ p = 1 := by omega
    have h2 : q = 0 ∨ q = 1 := by omega
    have key : ∀ (x y : Nat) (p q : Bool), (2 * x + p.toNat) ^^^ (2 * y + q.toNat) = 2 * (x ^^^ y) + (p ^^ q).toNat := fun x y p q => by
      apply Nat.eq_of_testBit_eq
      intro i
      cases i with
      | zero => cases p <;> cases q <;> simp [Nat.testBit_zero, Nat.add_mod]
      | succ i =>
        rw [Nat.testBit_xor, Nat.testBit_succ, Nat.testBit_succ, Nat.testBit_succ]
        have e : ∀ (z : Nat) (r : Bool), (2 * z + r.toNat) / 2 = z := fun z r => by cases r <;> simp <;> omega
        rw [e, e, e, Nat.testBit_xor]
    rcases h1 with rfl | rfl <;> rcases h2 with rfl | rfl
    · exact key x y false false
    · exact key x y false true
    · exact key x y true false
    · exact key x y true true
  zero := rfl
  lt := fun m x y hx hy => Nat.xor_lt_two_pow hx hy
  small := by decide

theorem floor_eq {n s : Int} (h0 : 0 ≤ s) (h : s ≤ 62) (hn : -9223372036854775807 ≤ n ∧ n ≤ 9223372036854775807) : pintleref01_floor.f n s = some (n / 2 ^ s.toNat) := by
  unfold pintleref01_floor.f
  have hp := two_pow_pos s.toNat
  rw [u64_id h0 (by omega), if_pos h0, shl64 h0 h, if_neg (show ¬ ((2 : Int) ^ s.toNat = 0) by omega)]
  have hf := floor_div (n := n) hp
  have hq : (Int.tdiv n (2 ^ s.toNat)).natAbs ≤ n.natAbs := by
    rw [Int.natAbs_tdiv]; exact Nat.div_le_self _ _
  have h1 := Int.mul_tdiv_add_tmod n (2 ^ s.toNat)
  rw [wrap64_id (n := Int.tdiv n (2 ^ s.toNat)) (by omega)]
  by_cases hneg : n < 0
  · rw [if_pos hneg]
    have hm : Int.tmod n (2 ^ s.toNat) ≤ 0 := by
      have : Int.tmod n (2 ^ s.toNat) = -(Int.tmod (-n) (2 ^ s.toNat)) := by rw [Int.neg_tmod]; omega
      rw [this]
      have := Int.tmod_nonneg (2 ^ s.toNat) (show 0 ≤ -n by omega)
      omega
    by_cases hz : Int.tmod n (2 ^ s.toNat) = 0
    · rw [if_pos hz, ← hf, if_neg (by omega)]
    · rw [if_neg hz, ← hf, if_pos (by omega), wrap64_id (n := Int.tdiv n (2 ^ s.toNat) - 1) (by omega)]
  · rw [if_neg hneg]
    have hm := Int.tmod_nonneg (2 ^ s.toNat) (show 0 ≤ n by omega)
    rw [if_neg (show ¬ ((2 : Int) ^ s.toNat = 0) by omega), ← hf, if_neg (by omega)]
theorem mod32 {b : Int} (hb : U32 b) : wrap64 (Int.tmod b 32) = b % 32 ∧ IntKind.u64.wrap (b % 32) = b % 32 := by
  obtain ⟨h1, h2⟩ := hb
  rw [Int.tmod_eq_emod_of_nonneg h1]
  exact ⟨by unfold wrap64; omega, u64_id (by omega) (by omega)⟩
theorem div_some (a b : Int) : ∃ q r, pintleref01_div.f a b = some (q, r) := by
  unfold pintleref01_div.f
  split
  · exact ⟨_, _, rfl⟩
  · exact ⟨_, _, rfl⟩
theorem bt_u32 (F : Nat → Nat → Nat) {n s t : Nat} (hF : BitFn F n s t) {a b : Int} (ha : U32 a) (hb : U32 b) : U32 ((F a.toNat b.toNat : Nat) : Int) := by
  have := hF.lt 32 a.toNat b.toNat (by have := ha.2; omega) (by have := hb.2; omega)
  exact ⟨by omega, by omega⟩
theorem alu_eq {op a b : Int} (ho : (1 ≤ op ∧ op ≤ 12) ∨ op = 16) (ha : U32 a) (hb : U32 b) : pintleref01_Alu.f 33 op a b = some (docAlu op a b, true) ∧ U32 (docAlu op a b) := by
  have ha' := ha
  have hb' := hb
  obtain ⟨a0, a1⟩ := ha'
  obtain ⟨b0, b1⟩ := hb'
  have wa : wrap64 a = a := wrap64_id (by omega)
  have wb : wrap64 b = b := wrap64_id (by omega)
  have sa := sgn_in ha
  have sb := sgn_in hb
  obtain ⟨m1, m2⟩ := mod32 hb
  obtain ⟨p1, p2⟩ := pow31 (s := b % 32) (by omega) (by omega)
  unfold pintleref01_Alu.f docAlu
  simp only [signed_eq ha, signed_eq hb, Option.bind_some, wa, wb, m1, m2]
  by_cases e1 : op = 1
  · simp only [if_pos e1, word_eq1, Option.bind_some]
    rw [wrap64_id (by omega)]
    exact ⟨rfl, u32_mod _⟩
  simp only [if_neg e1]
  by_cases e2 : op = 2
  · simp only [if_pos e2, word_eq1, Option.bind_some]
    rw [wrap64_id (by omega)]
    exact ⟨rfl, u32_mod _⟩
  simp only [if_neg e2]
  by_cases e3 : op = 3
  · simp only [if_pos e3, word_eq1, Option.bind_some]
    rw [if_pos (by omega), shl64 (by omega) (by omega)]
    have hm : a * 2 ^ (b % 32).toNat ≤ 4294967295 * 2147483648 := Int.mul_le_mul (by omega) p2 (by omega) (by omega)
    have hm0 : 0 ≤ a * 2 ^ (b % 32).toNat := Int.mul_nonneg a0 (by omega)
    rw [wrap64_id (by omega)]
    exact ⟨rfl, u32_mod _⟩
  simp only [if_neg e3]
  by_cases e4 : op = 4
  · simp only [if_pos e4]
    by_cases hc : sgn a < sgn b
    · simp [hc, pintleref01_one.f, word_eq1, U32]
    · simp [hc, pintleref01_one.f, word_eq1, U32]
  simp only [if_neg e4]
  by_cases e5 : op = 5
  · simp only [if_pos e5]
    by_cases hc : a < b
    · simp [hc, pintleref01_one.f, word_eq1, U32]
    · simp [hc, pintleref01_one.f, word_eq1, U32]
  simp only [if_neg e5]
  by_cases e6 : op = 6
  · have hbt := bits_eq bitF_xor ha hb
    rw [if_pos e6, if_pos e6, show pintleref01_bits.f 33 a b 0 1 0 = _ from hbt]
    exact ⟨rfl, bt_u32 _ bitF_xor ha hb⟩
  simp only [if_neg e6]
  by_cases e7 : op = 7
  · simp only [if_pos e7, word_eq1]
    rw [if_pos (by omega), shl64 (by omega) (by omega), if_neg (by omega), Int.tdiv_eq_ediv_of_nonneg a0]
    obtain ⟨d1, d2⟩ := div_u32 ha p1
    rw [wrap64_id (by omega)]
    refine ⟨?_, d1, d2⟩
    simp only [Option.bind_some]
    rw [Int.emod_eq_of_lt d1 d2]
  simp only [if_neg e7]
  by_cases e8 : op = 8
  · simp only [if_pos e8]
    rw [floor_eq (by omega) (by omega) (by omega)]
    simp only [Option.bind_some, word_eq1]
    exact ⟨trivial, u32_mod _⟩
  simp only [if_neg e8]
  by_cases e9 : op = 9
  · have hbt := bits_eq bitF_or ha hb
    rw [if_pos e9, if_pos e9, show pintleref01_bits.f 33 a b 0 1 1 = _ from hbt]
    exact ⟨rfl, bt_u32 _ bitF_or ha hb⟩
  simp only [if_neg e9]
  by_cases e10 : op = 10
  · have hbt := bits_eq bitF_and ha hb
    rw [if_pos e10, if_pos e10, show pintleref01_bits.f 33 a b 0 0 1 = _ from hbt]
    exact ⟨rfl, bt_u32 _ bitF_and ha hb⟩
  simp only [if_neg e10]
  have hmul := sgn_mul ha hb
  unfold pintleref01_more.f
  obtain ⟨q1, r1, hq1⟩ := div_some (sgn a) (sgn b)
  by_cases e16 : op = 16
  · simp only [hq1, Option.bind_some, if_neg (show ¬ (op = 11) by omega), if_neg (show ¬ (op = 12) by omega), if_neg (show ¬ (op = 13) by omega), if_neg (show ¬ (op = 14) by omega), if_neg (show ¬ (op = 15) by omega), if_pos e16, word_eq1]
    unfold pintleref01_div.f
    by_cases hz : b = 0
    · simp [hz, U32]
    · rw [if_neg hz, if_neg hz, Int.tdiv_eq_ediv_of_nonneg a0]
      obtain ⟨d1, d2⟩ := div_u32 ha (show 1 ≤ b by omega)
      rw [wrap64_id (by omega)]
      refine ⟨?_, d1, d2⟩
      simp only [Option.bind_some]
      rw [Int.emod_eq_of_lt d1 d2]
  · obtain ⟨q2, r2, hq2⟩ := div_some a b
    simp only [hq1, hq2, Option.bind_some]
    by_cases e11 : op = 11
    · simp only [if_pos e11, word_eq1, Option.bind_some]
      rw [wrap64_id (by omega)]
      exact ⟨rfl, u32_mod _⟩
    · have e12 : op = 12 := by omega
      simp only [if_neg e11, if_pos e12]
      rw [wrap64_id (by omega), floor_eq (by omega) (by omega) (by omega)]
      simp only [Option.bind_some, word_eq1]
      exact ⟨rfl, u32_mod _⟩

/-- the cells of the document's runner: its memory, 64 variables, steps, fuel, trap -/
structure RunC (C : Array Value) (mv : Value) (V : List Int) (st fu tr : Int) : Prop where
  sz : C.size = 68
  len : V.length = 64
  m : C[0]? = some mv
  v : ∀ j : Nat, j < 64 → C[1 + j]? = some (.int .u32 (rd V (j : Int)))
  st : C[65]? = some (.int .i64 st)
  fu : C[66]? = some (.int .i64 fu)
  tr : C[67]? = some (.int .i64 tr)
section
variable {C : Array Value} {mv : Value} {V : List Int} {st fu tr : Int}
theorem RunC.setV (h : RunC C mv V st fu tr) (d : Nat) (hd : d < 64) (x : Int) : RunC (C.setIfInBounds (1 + d) (.int .u32 x)) mv (V.set d x) st fu tr := by
  obtain ⟨h1, h2, h3, h4, h5, h6, h7⟩ := h
  have hs : 1 + d < C.size := by omega
  refine ⟨by simpa using h1, by simpa using h2, ?_, fun j hj => ?_, ?_, ?_, ?_⟩
  · rw [Array.getElem?_setIfInBounds_ne (by omega)]; exact h3
  · rw [rd_set V d x j (by omega)]
    by_cases e : d = j
    · subst e; rw [if_pos rfl, Array.getElem?_setIfInBounds_self_of_lt hs]
    · rw [if_neg e, Array.getElem?_setIfInBounds_ne (by omega)]; exact h4 j hj
  · rw [Array.getElem?_setIfInBounds_ne (by omega)]; exact h5
  · rw [Array.getElem?_setIfInBounds_ne (by omega)]; exact h6
  · rw [Array.getElem?_setIfInBounds_ne (by omega)]; exact h7
theorem RunC.setSt (h : RunC C mv V st fu tr) (x : Int) : RunC (C.setIfInBounds 65 (.int .i64 x)) mv V x fu tr := by
  obtain ⟨h1, h2, h3, h4, h5, h6, h7⟩ := h
  refine ⟨by simpa using h1, h2, ?_, fun j hj => ?_, ?_, ?_, ?_⟩
  · rw [Array.getElem?_setIfInBounds_ne (by omega)]; exact h3
  · rw [Array.getElem?_setIfInBounds_ne (by omega)]; exact h4 j hj
  · rw [Array.getElem?_setIfInBounds_self_of_lt (by omega)]
  · rw [Array.getElem?_setIfInBounds_ne (by omega)]; exact h6
  · rw [Array.getElem?_setIfInBounds_ne (by omega)]; exact h7
theorem RunC.setTr (h : RunC C mv V st fu tr) (x : Int) : RunC (C.setIfInBounds 67 (.int .i64 x)) mv V st fu x := by
  obtain ⟨h1, h2, h3, h4, h5, h6, h7⟩ := h
  refine ⟨by simpa using h1, h2, ?_, fun j hj => ?_, ?_, ?_, ?_⟩
  · rw [Array.getElem?_setIfInBounds_ne (by omega)]; exact h3
  · rw [Array.getElem?_setIfInBounds_ne (by omega)]; exact h4 j hj
  · rw [Array.getElem?_setIfInBounds_ne (by omega)]; exact h5
  · rw [Array.getElem?_setIfInBounds_ne (by omega)]; exact h6
  · rw [Array.getElem?_setIfInBounds_self_of_lt (by omega)]
end
/-- a runner lies in block g -/
def RunAt (w : World) (g : Nat) (mv : Value) (V : List Int) (st fu tr : Int) : Prop := ∃ C, w.heap[g]? = some (.cells C 63 (0, 0)) ∧ RunC C mv V st fu tr
section
variable {w w1 : World} {g : Nat} {mv : Value} {V : List Int} {st fu tr : Int}
theorem RunAt.lt (h : RunAt w g mv V st fu tr) : g < w.heap.size := by
  obtain ⟨C, hC, _⟩ := h
  exact (Array.getElem?_eq_some_iff.1 hC).1
theorem RunAt.frozen (h : RunAt w g mv V st fu tr) (j : Nat) : w.frozen? ⟨g, j, none⟩ = false := by
  obtain ⟨C, hC, _⟩ := h
  exact frozen_of_row w g j C 63 hC
theorem RunAt.m (h : RunAt w g mv V st fu tr) : w.cell? ⟨g, 0, none⟩ = some mv := by
  obtain ⟨C, hC, r⟩ := h
  rw [cell_of_row w g 0 C 63 _ hC]; exact r.m
theorem RunAt.v (h : RunAt w g mv V st fu tr) (j : Nat) (hj : j < 64) : w.cell? ⟨g, 1 + j, none⟩ = some (.int .u32 (rd V (j : Int))) := by
  obtain ⟨C, hC, r⟩ := h
  rw [cell_of_row w g (1 + j) C 63 _ hC]; exact r.v j hj
theorem RunAt.gst (h : RunAt w g mv V st fu tr) : w.cell? ⟨g, 65, none⟩ = some (.int .i64 st) := by
  obtain ⟨C, hC, r⟩ := h
  rw [cell_of_row w g 65 C 63 _ hC]; exact r.st
theorem RunAt.gfu (h : RunAt w g mv V st fu tr) : w.cell? ⟨g, 66, none⟩ = some (.int .i64 fu) := by
  obtain ⟨C, hC, r⟩ := h
  rw [cell_of_row w g 66 C 63 _ hC]; exact r.fu
theorem RunAt.gtr (h : RunAt w g mv V st fu tr) : w.cell? ⟨g, 67, none⟩ = some (.int .i64 tr) := by
  obtain ⟨C, hC, r⟩ := h
  rw [cell_of_row w g 67 C 63 _ hC]; exact r.tr
theorem RunAt.move (h : RunAt w g mv V st fu tr) (hm : w1.heap[g]? = w.heap[g]?) : RunAt w1 g mv V st fu tr := by
  obtain ⟨C, hC, r⟩ := h
  exact ⟨C, hm.trans hC, r⟩
theorem RunAt.drewN (h : RunAt w g mv V st fu tr) (n : Nat) : RunAt (w.drewN n) g mv V st fu tr := h
theorem RunAt.below (h : RunAt w g mv V st fu tr) (hb : Below w.heap.size w w1) : RunAt w1 g mv V st fu tr := h.move (hb.block g h.lt)
theorem RunAt.setV (h : RunAt w g mv V st fu tr) (d : Nat) (hd : d < 64) (x : Int) : RunAt (w.setCell ⟨g, 1 + d, none⟩ (.int .u32 x)) g mv (V.set d x) st fu tr := by
  obtain ⟨C, hC, r⟩ := h
  exact ⟨_, heap_setCell_same w g (1 + d) C 63 _ hC, r.setV d hd x⟩
theorem RunAt.setSt (h : RunAt w g mv V st fu tr) (x : Int) : RunAt (w.setCell ⟨g, 65, none⟩ (.int .i64 x)) g mv V x fu tr := by
  obtain ⟨C, hC, r⟩ := h
  exact ⟨_, heap_setCell_same w g 65 C 63 _ hC, r.setSt x⟩
theorem RunAt.setTr (h : RunAt w g mv V st fu tr) (x : Int) : RunAt (w.setCell ⟨g, 67, none⟩ (.int .i64 x)) g mv V st fu x := by
  obtain ⟨C, hC, r⟩ := h
  exact ⟨_, heap_setCell_same w g 67 C 63 _ hC, r.setTr x⟩
end
theorem ends_calls (w : World) (g : Nat) (mv : Value) (V : List Int) (st fu tr : Int) (h : RunAt w g mv V st fu tr) :
    Calls Try.prog 65 #[.pointer (some ⟨g, 0, none⟩)] w fun e w' => e = .returned (.bool (decide (tr ≠ 0 ∨ fu ≤ st))) ∧ Drawn0 w w' := by
  have h1 := h.gst
  have h2 := h.gfu
  have h3 := h.gtr
  clear h
  by_cases ht : tr = 0
  · have hd : decide (tr = 0) = true := decide_eq_true ht
    have hd1 : (tr != 0) = false := by simp [ht]
    have he : (decide (tr ≠ 0 ∨ fu ≤ st)) = decide (fu ≤ st) := by simp [ht]
    rw [he]
    clear he ht
    go_enter Try.func65, Try.ntmps65
    go_wp2
    go_quiet (fail)
    go_wp2
    go_ret
    exact ⟨rfl, ⟨_, rfl⟩⟩
  · have hd : decide (tr = 0) = false := decide_eq_false ht
    have hd1 : (tr != 0) = true := by simp [ht]
    have he : (decide (tr ≠ 0 ∨ fu ≤ st)) = true := by simp [ht]
    rw [he]
    clear he ht
    go_enter Try.func65, Try.ntmps65
    go_wp2
    go_quiet (fail)
    go_wp2
    go_ret
    exact ⟨rfl, ⟨_, rfl⟩⟩

theorem RunAt.alloc {w : World} {g : Nat} {mv : Value} {V : List Int} {st fu tr : Int} (h : RunAt w g mv V st fu tr) (o : Obj) : RunAt (w.alloc o) g mv V st fu tr := h.below ((Below.refl _ _).alloc (Nat.le_refl _) o)
theorem RunAt.drew {w : World} {g : Nat} {mv : Value} {V : List Int} {st fu tr : Int} (h : RunAt w g mv V st fu tr) : RunAt w.drew g mv V st fu tr := h
/-- what a step leaves: the runner, all else -/
def OneTold (w : World) (g : Nat) (mv : Value) (V : List Int) (st fu tr : Int) (e : Ending) (w' : World) : Prop := e = .returned (.tuple #[]) ∧ RunAt w' g mv V st fu tr ∧ Keep (· = g) w w'
set_option maxHeartbeats 4000000 in
theorem one_set (w : World) (g : Nat) (mv : Value) (V : List Int) (st fu : Int) (h : RunAt w g mv V st fu 0) (hst : 0 ≤ st) (hst2 : st < 9223372036854775807) (d : Nat) (hd : d < 64) (A B imm : Int) :
    Calls Try.prog 66 #[.pointer (some ⟨g, 0, none⟩), .agg #[.int .i64 1, .int .i64 d, .int .i64 A, .int .i64 B, .int .i32 imm]] w (OneTold w g mv (V.set d (imm % 4294967296)) (st + 1) fu 0) := by
  have h1 := h.gst
  have h2 := h.gtr
  have h3 := h.v d hd
  have hfz := h.frozen (1 + d)
  have hfz2 := h.frozen 65
  have hlt := h.lt
  have hdi : (d : Int) < 64 := by omega
  have n1 : ¬ (1 + d = 65) := by omega
  have n2 : ¬ (1 + d = 67) := by omega
  have n3 : ¬ (65 = 1 + d) := by omega
  have n4 : ¬ (67 = 1 + d) := by omega
  have HR := Aside0.mk h
  clear h
  go_enter Try.func66, Try.ntmps66
  go_wp2
  go_region
  go_wp2
  go_end0
  exact ⟨rfl, by repeat (first | exact HR.out | exact RunAt.setSt (RunAt.setV HR.out d hd _) _ | apply RunAt.drew | apply RunAt.drewN | apply RunAt.alloc), by repeat (first | exact Keep.refl _ _ | apply Keep.drew | apply Keep.drewN | apply Keep.alloc | apply Keep.setG)⟩
set_option maxHeartbeats 4000000 in
theorem one_move (w : World) (g : Nat) (mv : Value) (V : List Int) (st fu : Int) (h : RunAt w g mv V st fu 0) (hst : 0 ≤ st) (hst2 : st < 9223372036854775807) (d a : Nat) (hd : d < 64) (ha : a < 64) (B imm : Int) :
    Calls Try.prog 66 #[.pointer (some ⟨g, 0, none⟩), .agg #[.int .i64 2, .int .i64 d, .int .i64 a, .int .i64 B, .int .i32 imm]] w (OneTold w g mv (V.set d (rd V a)) (st + 1) fu 0) := by
  have h1 := h.gst
  have h2 := h.gtr
  have h3 := h.v d hd
  have h4 := h.v a ha
  have hfz := h.frozen (1 + d)
  have hfz2 := h.frozen 65
  have hlt := h.lt
  have hdi : (d : Int) < 64 := by omega
  have hai : (a : Int) < 64 := by omega
  have n1 : ¬ (1 + d = 65) := by omega
  have n2 : ¬ (1 + d = 67) := by omega
  have n3 : ¬ (65 = 1 + d) := by omega
  have n4 : ¬ (67 = 1 + d) := by omega
  have HR := Aside0.mk h
  clear h
  go_enter Try.func66, Try.ntmps66
  go_wp2
  go_region
  go_wp2
  go_end0
  exact ⟨rfl, by repeat (first | exact HR.out | exact RunAt.setSt (RunAt.setV HR.out d hd _) _ | apply RunAt.drew | apply RunAt.drewN | apply RunAt.alloc), by repeat (first | exact Keep.refl _ _ | apply Keep.drew | apply Keep.drewN | apply Keep.alloc | apply Keep.setG)⟩

def aluR (op a b : Int) : Int := ((pintleref01_Alu.f 33 op a b).getD (0, false)).1
/-- what a step of two variables, or of a variable and a number, reckons -/
def aluS (V : List Int) (op a b imm : Int) : Int := aluR (rd opsT op) (rd V a) (if 13 ≤ op then imm % 4294967296 else rd V b)
theorem ops_at (op : Nat) (h : op < 17) : (#[Value.int IntKind.i64 0, Value.int IntKind.i64 0, Value.int IntKind.i64 0, Value.int IntKind.i64 1,
      Value.int IntKind.i64 2, Value.int IntKind.i64 11, Value.int IntKind.i64 12, Value.int IntKind.i64 10,
      Value.int IntKind.i64 9, Value.int IntKind.i64 6, Value.int IntKind.i64 4, Value.int IntKind.i64 5,
      Value.int IntKind.i64 16, Value.int IntKind.i64 1, Value.int IntKind.i64 3, Value.int IntKind.i64 7,
      Value.int IntKind.i64 8] : Array Value)[op]? = some (.int .i64 (rd opsT op)) := by
  have : ∀ k : Fin 17, (#[Value.int IntKind.i64 0, Value.int IntKind.i64 0, Value.int IntKind.i64 0, Value.int IntKind.i64 1,
      Value.int IntKind.i64 2, Value.int IntKind.i64 11, Value.int IntKind.i64 12, Value.int IntKind.i64 10,
      Value.int IntKind.i64 9, Value.int IntKind.i64 6, Value.int IntKind.i64 4, Value.int IntKind.i64 5,
      Value.int IntKind.i64 16, Value.int IntKind.i64 1, Value.int IntKind.i64 3, Value.int IntKind.i64 7,
      Value.int IntKind.i64 8] : Array Value)[k.val]? = some (.int .i64 (rd opsT (k.val : Int))) := by
    intro k
    rcases k with ⟨k, hk⟩
    match k, hk with
    | 0, _ => rfl
    | 1, _ => rfl
    | 2, _ => rfl
    | 3, _ => rfl
    | 4, _ => rfl
    | 5, _ => rfl
    | 6, _ => rfl
    | 7, _ => rfl
    | 8, _ => rfl
    | 9, _ => rfl
    | 10, _ => rfl
    | 11, _ => rfl
    | 12, _ => rfl
    | 13, _ => rfl
    | 14, _ => rfl
    | 15, _ => rfl
    | 16, _ => rfl
    | k + 17, h => exact absurd h (by omega)
  exact this ⟨op, h⟩
set_option maxHeartbeats 4000000 in
theorem one_alu (w : World) (g : Nat) (mv : Value) (V : List Int) (st fu : Int) (h : RunAt w g mv V st fu 0) (hst : 0 ≤ st) (hst2 : st < 9223372036854775807) (op d a b : Nat) (h3 : 3 ≤ op) (h16 : op ≤ 16) (hd : d < 64) (ha : a < 64) (hb : b < 64) (imm : Int)
    (hs : (pintleref01_Alu.f 33 (rd opsT op) (rd V a) (if 13 ≤ (op : Int) then imm % 4294967296 else rd V b)).isSome = true) :
    Calls Try.prog 66 #[.pointer (some ⟨g, 0, none⟩), .agg #[.int .i64 op, .int .i64 d, .int .i64 a, .int .i64 b, .int .i32 imm]] w (OneTold w g mv (V.set d (aluS V op a b imm)) (st + 1) fu 0) := by
  obtain ⟨x, bo, hx⟩ : ∃ x bo, pintleref01_Alu.f 33 (rd opsT op) (rd V a) (if 13 ≤ (op : Int) then imm % 4294967296 else rd V b) = some (x, bo) := by
    cases hc : pintleref01_Alu.f 33 (rd opsT op) (rd V a) (if 13 ≤ (op : Int) then imm % 4294967296 else rd V b) with
    | none => rw [hc] at hs; exact nomatch hs
    | some r => exact ⟨r.1, r.2, rfl⟩
  have hxx : aluS V op a b imm = x := by unfold aluS aluR; rw [hx]; rfl
  rw [hxx]
  clear hxx hs
  have h1 := h.gst
  have h2 := h.gtr
  have h3' := h.v d hd
  have h4 := h.v a ha
  have h5 := h.v b hb
  have hfz := h.frozen (1 + d)
  have hfz2 := h.frozen 65
  have hlt := h.lt
  have hdi : (d : Int) < 64 := by omega
  have hai : (a : Int) < 64 := by omega
  have hbi : (b : Int) < 64 := by omega
  have n1 : ¬ (1 + d = 65) := by omega
  have n2 : ¬ (1 + d = 67) := by omega
  have n3 : ¬ (65 = 1 + d) := by omega
  have n4 : ¬ (67 = 1 + d) := by omega
  have o1 : ¬ ((op : Int) = 1) := by omega
  have o2 : ¬ ((op : Int) = 2) := by omega
  have o17 : ¬ (17 ≤ (op : Int)) := by omega
  have HR := Aside0.mk h
  clear h
  by_cases h13 : 13 ≤ (op : Int)
  · rw [if_pos h13] at hx
    have HX := Aside0.mk hx
    clear hx
    have hops := ops_at op (by omega)
    go_enter Try.func66, Try.ntmps66
    go_wp2
    go_quiet (fail)
    go_wp2
    go_quiet (first | (go_at_call 90; (with_reducible refine (pintleref01_Alu.calls 33 _ _ _ x bo _ HX.out).mono ?_); rintro e w' ⟨rfl, ⟨nd, rfl⟩⟩; (try first | exact ⟨rfl, _, World.drewN_drewN _ _ _⟩ | exact ⟨rfl, _, Eq.trans (World.drewN_drewN _ _ _) (congrArg (World.drewN _) (Nat.add_assoc _ _ _))⟩)))
    go_wp2
    go_region
    go_wp2
    go_end0
    exact ⟨rfl, RunAt.setSt (RunAt.setV (RunAt.drewN (RunAt.alloc (RunAt.alloc HR.out _) _) _) d hd _) _, by repeat (first | exact Keep.refl _ _ | apply Keep.drew | apply Keep.drewN | apply Keep.alloc | apply Keep.setG)⟩
  · rw [if_neg h13] at hx
    have HX := Aside0.mk hx
    clear hx
    have hops := ops_at op (by omega)
    go_enter Try.func66, Try.ntmps66
    go_wp2
    go_quiet (fail)
    go_wp2
    go_quiet (first | (go_at_call 90; (with_reducible refine (pintleref01_Alu.calls 33 _ _ _ x bo _ HX.out).mono ?_); rintro e w' ⟨rfl, ⟨nd, rfl⟩⟩; (try first | exact ⟨rfl, _, World.drewN_drewN _ _ _⟩ | exact ⟨rfl, _, Eq.trans (World.drewN_drewN _ _ _) (congrArg (World.drewN _) (Nat.add_assoc _ _ _))⟩)))
    go_wp2
    go_region
    go_wp2
    go_end0
    exact ⟨rfl, RunAt.setSt (RunAt.setV (RunAt.drewN (RunAt.alloc (RunAt.alloc HR.out _) _) _) d hd _) _, by repeat (first | exact Keep.refl _ _ | apply Keep.drew | apply Keep.drewN | apply Keep.alloc | apply Keep.setG)⟩
/-- what a plain step does to the variables -/
def stepV (x : S49) (V : List Int) : List Int :=
  if x.f0 = 1 then V.set x.f1.toNat (x.f4 % 4294967296) else if x.f0 = 2 then V.set x.f1.toNat (rd V x.f2) else V.set x.f1.toNat (aluS V x.f0 x.f2 x.f3 x.f4)
structure PlainOk (x : S49) : Prop where
  o1 : 1 ≤ x.f0
  o2 : x.f0 ≤ 16
  d : 0 ≤ x.f1 ∧ x.f1 < 64
  a : 0 ≤ x.f2 ∧ x.f2 < 64
  b : 0 ≤ x.f3 ∧ x.f3 < 64
/-- all operations tell something -/
def AluAll : Prop := ∀ op : Nat, 3 ≤ op → op ≤ 16 → ∀ a b : Int, U32 a → U32 b → ∃ x, pintleref01_Alu.f 33 (rd opsT op) a b = some (x, true) ∧ U32 x
theorem aluAll : AluAll := fun op h3 h16 a b ha hb => ⟨docAlu (rd opsT op) a b, (alu_eq (ops_in op h3 h16) ha hb).1, (alu_eq (ops_in op h3 h16) ha hb).2⟩
theorem aluR_eq {op a b : Int} (ho : (1 ≤ op ∧ op ≤ 12) ∨ op = 16) (ha : U32 a) (hb : U32 b) : aluR op a b = docAlu op a b := by
  unfold aluR; rw [(alu_eq ho ha hb).1]; rfl
theorem one_plain (hA : AluAll) (w : World) (g : Nat) (mv : Value) (V : List Int) (st fu : Int) (h : RunAt w g mv V st fu 0) (hV : ∀ x ∈ V, U32 x) (hl : V.length = 64) (hst : 0 ≤ st) (hst2 : st < 9223372036854775807) (x : S49) (hx : PlainOk x) :
    Calls Try.prog 66 #[.pointer (some ⟨g, 0, none⟩), .agg #[.int .i64 x.f0, .int .i64 x.f1, .int .i64 x.f2, .int .i64 x.f3, .int .i32 x.f4]] w (OneTold w g mv (stepV x V) (st + 1) fu 0) := by
  obtain ⟨o1, o2, hd, ha, hb⟩ := hx
  obtain ⟨o, d, a, b, i⟩ := x
  simp only at o1 o2 hd ha hb ⊢
  obtain ⟨o, rfl⟩ : ∃ n : Nat, o = n := ⟨o.toNat, by omega⟩
  obtain ⟨d, rfl⟩ : ∃ n : Nat, d = n := ⟨d.toNat, by omega⟩
  obtain ⟨a, rfl⟩ : ∃ n : Nat, a = n := ⟨a.toNat, by omega⟩
  obtain ⟨b, rfl⟩ : ∃ n : Nat, b = n := ⟨b.toNat, by omega⟩
  have hrd : ∀ k : Nat, k < 64 → U32 (rd V k) := fun k hk => by
    have : rd V (k : Int) = V[k]'(by omega) := by
      unfold rd
      rw [Int.toNat_natCast, List.getD_eq_getElem?_getD, List.getElem?_eq_getElem (by omega)]; rfl
    rw [this]; exact hV _ (List.getElem_mem _)
  unfold stepV
  simp only [Int.toNat_natCast]
  by_cases e1 : o = 1
  · subst e1
    rw [if_pos (show ((1 : Nat) : Int) = 1 from rfl)]
    exact one_set w g mv V st fu h hst hst2 d (by omega) _ _ _
  · by_cases e2 : o = 2
    · subst e2
      rw [if_neg (by omega), if_pos (show ((2 : Nat) : Int) = 2 from rfl)]
      exact one_move w g mv V st fu h hst hst2 d a (by omega) (by omega) _ _
    · rw [if_neg (by omega), if_neg (by omega)]
      refine one_alu w g mv V st fu h hst hst2 o d a b (by omega) (by omega) (by omega) (by omega) (by omega) i ?_
      have hb2 : U32 (if 13 ≤ (o : Int) then i % 4294967296 else rd V b) := by
        split
        · exact ⟨by omega, by omega⟩
        · exact hrd b (by omega)
      obtain ⟨y, hy, _⟩ := hA o (by omega) (by omega) (rd V a) _ (hrd a (by omega)) hb2
      rw [hy]; rfl


end Go.Proofs.Ytpeljnnbknnbmaa.PD
end
section
section
namespace Go.Proofs.Ytpeljnnbknnbmaa.PD
open Go.RowKit Go.Proofs.YtpeljnnbknnbmaaW.PrintWords Go.Proofs.YtpeljnnbknnbmaaW.PrintLast Go.Proofs.YtpeljnnbknnbmaaW.PrintMore
set_option linter.unusedVariables false
set_option linter.unusedSimpArgs false
theorem inR_bank {base : Int} {n : Nat} {at_ cnt : Int} : inR base n at_ cnt = decide (inBank base n at_ cnt) := by
  unfold inR inBank
  by_cases h1 : 0 ≤ cnt
  · by_cases h2 : base ≤ at_
    · simp [h1, h2]; omega
    · simp [h1, h2]
  · simp [h1]
theorem store_trap (R : Int) (nr : Nat) (at_ size : Int) : storeT R nr at_ size = refStoreT R nr at_ size := by
  unfold storeT refStoreT
  rw [inR_bank]
  simp
theorem rep_bytes (n : Nat) : Bytes (List.replicate n 0) := fun x hx => by rw [List.eq_of_mem_replicate hx]; exact ⟨by decide, by decide⟩
theorem storeL_bytes {rl : List Int} (h : Bytes rl) (R addr size x : Int) : Bytes (storeL R rl addr size x) := storeL_ok h addr size x
/-! the newest byte at an address -/
def atL (L : List S138) (b : Int) : Int := atFrom L b L.length
theorem atFrom_app (L M : List S138) (b : Int) : ∀ k, k ≤ L.length → atFrom (L ++ M) b k = atFrom L b k
  | 0, _ => rfl
  | k + 1, h => by
    unfold atFrom
    have e : rd_T138 (L ++ M) (k : Int) = rd_T138 L (k : Int) := by
      unfold rd_T138
      rw [Int.toNat_natCast, List.getD_eq_getElem?_getD, List.getD_eq_getElem?_getD, List.getElem?_append_left (by omega)]
    rw [e, atFrom_app L M b k (by omega)]
theorem atL_snoc (L : List S138) (y : S138) (b : Int) : atL (L ++ [y]) b = if y.f0 = b then y.f1 else atL L b := by
  unfold atL
  rw [List.length_append, List.length_singleton]
  have e : rd_T138 (L ++ [y]) (L.length : Int) = y := by
    unfold rd_T138
    rw [Int.toNat_natCast, List.getD_eq_getElem?_getD, List.getElem?_append_right (Nat.le_refl _), Nat.sub_self]
    rfl
  rw [show atFrom (L ++ [y]) b (L.length + 1) = if (rd_T138 (L ++ [y]) (L.length : Int)).f0 = b then (rd_T138 (L ++ [y]) (L.length : Int)).f1 else atFrom (L ++ [y]) b L.length from rfl, e, atFrom_app L [y] b _ (Nat.le_refl _)]
theorem atL_writes (L : List S138) (a x : Int) (b : Int) : ∀ n : Nat, atL (L ++ refWrites a x n) b = if a ≤ b ∧ b < a + n then x / 256 ^ (b - a).toNat % 256 else atL L b
  | 0 => by rw [show refWrites a x 0 = [] from rfl, List.append_nil, if_neg (by omega)]
  | n + 1 => by
    unfold refWrites
    rw [← List.append_assoc, atL_snoc, atL_writes L a x b n]
    by_cases h : a + (n : Int) = b
    · rw [if_pos h, if_pos (by omega)]
      show x / 256 ^ n % 256 = _
      rw [show (b - a).toNat = n by omega]
    · rw [if_neg h]
      by_cases h2 : a ≤ b ∧ b < a + n
      · rw [if_pos h2, if_pos (by omega)]
      · rw [if_neg h2, if_neg (by omega)]
theorem atL_puts (L : List S138) (a : Int) (l : List Int) (b : Int) : ∀ n : Nat, atL (L ++ putWrites a l n) b = if a ≤ b ∧ b < a + n then rd l (b - a) else atL L b
  | 0 => by rw [show putWrites a l 0 = [] from rfl, List.append_nil, if_neg (by omega)]
  | n + 1 => by
    unfold putWrites
    rw [← List.append_assoc, atL_snoc, atL_puts L a l b n]
    by_cases h : a + (n : Int) = b
    · rw [if_pos h, if_pos (by omega)]
      show rd l (n : Int) = _
      rw [show b - a = (n : Int) by omega]
    · rw [if_neg h]
      by_cases h2 : a ≤ b ∧ b < a + n
      · rw [if_pos h2, if_pos (by omega)]
      · rw [if_neg h2, if_neg (by omega)]
theorem rd_setBytes (l : List Int) (p : Nat) (x : Int) (j : Nat) : ∀ n : Nat, p + n ≤ l.length → rd (setBytes l p x n) (j : Int) = if p ≤ j ∧ j < p + n then byteOf x (j - p) else rd l (j : Int)
  | 0, _ => by rw [show setBytes l p x 0 = l from rfl, if_neg (by omega)]
  | n + 1, h => by
    unfold setBytes
    rw [rd_set _ _ _ _ (by rw [setBytes_length]; omega), rd_setBytes l p x j n (by omega)]
    by_cases h1 : p + n = j
    · rw [if_pos h1, if_pos (by omega)]
      congr 1
      omega
    · rw [if_neg h1]
      by_cases h2 : p ≤ j ∧ j < p + n
      · rw [if_pos h2, if_pos (by omega)]
      · rw [if_neg h2, if_neg (by omega)]
theorem rd_splice (L l : List Int) (p j : Nat) (h : p + l.length ≤ L.length) : rd (splice L p l) (j : Int) = if p ≤ j ∧ j < p + l.length then rd l ((j : Int) - p) else rd L (j : Int) := by
  unfold rd splice
  rw [Int.toNat_natCast]
  by_cases h1 : j < p
  · rw [if_neg (by omega), List.getD_eq_getElem?_getD, List.getD_eq_getElem?_getD, List.getElem?_append_left (by rw [List.length_take]; omega), List.getElem?_take, if_pos h1]
  · by_cases h2 : j < p + l.length
    · rw [if_pos (by omega), List.getD_eq_getElem?_getD, List.getD_eq_getElem?_getD, List.getElem?_append_right (by rw [List.length_take]; omega), List.length_take, Nat.min_eq_left (by omega), List.getElem?_append_left (by omega), show ((j : Int) - p).toNat = j - p by omega]
    · rw [if_neg (by omega), List.getD_eq_getElem?_getD, List.getD_eq_getElem?_getD, List.getElem?_append_right (by rw [List.length_take]; omega), List.length_take, Nat.min_eq_left (by omega), List.getElem?_append_right (by omega), List.getElem?_drop]
      congr 2
      omega
/-- both hold the same bytes -/
def Same (B : Int) (bank : List Int) (L : List S138) : Prop := ∀ j : Nat, j < bank.length → rd bank (j : Int) = atL L (B + j)
theorem Same.store {B : Int} {bank : List Int} {L : List S138} (h : Same B bank L) (a x : Int) (n : Nat) (h0 : B ≤ a) (h1 : a + n ≤ B + bank.length) : Same B (setBytes bank (a - B).toNat x n) (L ++ refWrites a x n) := by
  intro j hj
  rw [setBytes_length] at hj
  rw [rd_setBytes _ _ _ _ _ (by omega), atL_writes]
  by_cases h2 : a ≤ B + j ∧ B + j < a + n
  · rw [if_pos h2, if_pos (by omega)]
    unfold byteOf
    rw [show (B + (j : Int) - a).toNat = j - (a - B).toNat by omega, show (256 : Int) = 2 ^ 8 from rfl, ← Int.pow_mul]
  · rw [if_neg h2, if_neg (by omega)]
    exact h j hj
theorem Same.apart {B : Int} {bank : List Int} {L : List S138} (h : Same B bank L) (a x : Int) (n : Nat) (h0 : a + n ≤ B ∨ B + bank.length ≤ a) : Same B bank (L ++ refWrites a x n) := by
  intro j hj
  rw [atL_writes, if_neg (by omega)]
  exact h j hj
theorem Same.put {B : Int} {bank : List Int} {L : List S138} (h : Same B bank L) (a : Int) (l : List Int) (h0 : B ≤ a) (h1 : a + l.length ≤ B + bank.length) : Same B (putL B bank a l) (L ++ putWrites a l l.length) := by
  intro j hj
  unfold putL at hj ⊢
  rw [splice_len (by omega)] at hj
  rw [rd_splice _ _ _ _ (by omega), atL_puts]
  by_cases h2 : a ≤ B + j ∧ B + j < a + l.length
  · rw [if_pos h2, if_pos (by omega)]
    congr 1
    omega
  · rw [if_neg h2, if_neg (by omega)]
    exact h j hj
theorem Same.apartP {B : Int} {bank : List Int} {L : List S138} (h : Same B bank L) (a : Int) (l : List Int) (h0 : a + l.length ≤ B ∨ B + bank.length ≤ a) : Same B bank (L ++ putWrites a l l.length) := by
  intro j hj
  rw [atL_puts, if_neg (by omega)]
  exact h j hj
theorem bytesAt_eq {B : Int} {bank : List Int} {L : List S138} (h : Same B bank L) (a : Int) (n : Nat) (h0 : B ≤ a) (h1 : a + n ≤ B + bank.length) : bytesAt B bank a n = (List.range n).map (fun i => atL L (a + (i : Nat))) := by
  apply List.ext_getElem
  · rw [bytesAt_length h0 h1]; simp
  · intro i g1 g2
    have hi : i < n := by simpa using g2
    rw [List.getElem_map, List.getElem_range]
    have hj : (a - B).toNat + i < bank.length := by omega
    have := h ((a - B).toNat + i) hj
    rw [show B + (((a - B).toNat + i : Nat) : Int) = a + (i : Nat) by omega] at this
    rw [← this]
    simp only [bytesAt, List.getElem_take, List.getElem_drop]
    unfold rd
    rw [Int.toNat_natCast, List.getD_eq_getElem?_getD, List.getElem?_eq_getElem hj]
    rfl
theorem word_eq {B : Int} {bank : List Int} {L : List S138} (h : Same B bank L) (hb : Bytes bank) (a : Int) (n : Nat) (hn : n = 1 ∨ n = 2 ∨ n = 4) (ha : 0 ≤ B) (h2 : B + bank.length ≤ 4294967296) (h0 : B ≤ a) (h1 : a + n ≤ B + bank.length) : numL (bytesAt B bank a n) = wordR L a n 0 := by
  have hbb := bytes_drop hb B a n
  rw [bytesAt_eq h a n h0 h1] at hbb ⊢
  have hy : ∀ i : Nat, i < n → 0 ≤ atL L (a + (i : Nat)) ∧ atL L (a + (i : Nat)) < 256 := fun i hi => by
    have := hbb (atL L (a + (i : Nat))) (List.mem_map.2 ⟨i, List.mem_range.2 hi, rfl⟩)
    exact this
  have hm : ∀ i : Nat, i < n → (a + (i : Int)) % 4294967296 = a + (i : Int) := fun i hi => by omega
  rcases hn with rfl | rfl | rfl
  · have y0 := hy 0 (by omega)
    have m0 := hm 0 (by omega)
    simp only [wordR, List.range_succ, List.range_zero, List.map_append, List.map_nil, List.map_cons, List.nil_append, numL, m0]
    show _ = (0 * 256 + atL L (a + ((0 : Nat) : Int))) % 4294967296
    omega
  · have y0 := hy 0 (by omega)
    have y1 := hy 1 (by omega)
    have m0 := hm 0 (by omega)
    have m1 := hm 1 (by omega)
    simp only [wordR, List.range_succ, List.range_zero, List.map_append, List.map_nil, List.map_cons, List.nil_append, List.cons_append, numL, m0, m1]
    show _ = ((0 * 256 + atL L (a + ((1 : Nat) : Int))) % 4294967296 * 256 + atL L (a + ((0 : Nat) : Int))) % 4294967296
    omega
  · have y0 := hy 0 (by omega)
    have y1 := hy 1 (by omega)
    have y2 := hy 2 (by omega)
    have y3 := hy 3 (by omega)
    have m0 := hm 0 (by omega)
    have m1 := hm 1 (by omega)
    have m2 := hm 2 (by omega)
    have m3 := hm 3 (by omega)
    simp only [wordR, List.range_succ, List.range_zero, List.map_append, List.map_nil, List.map_cons, List.nil_append, List.cons_append, numL, m0, m1, m2, m3]
    show _ = ((((0 * 256 + atL L (a + ((3 : Nat) : Int))) % 4294967296 * 256 + atL L (a + ((2 : Nat) : Int))) % 4294967296 * 256 + atL L (a + ((1 : Nat) : Int))) % 4294967296 * 256 + atL L (a + ((0 : Nat) : Int))) % 4294967296
    omega
structure Data (fl rl : List Int) (L : List S138) : Prop where
  lf : fl.length = 256
  lr : rl.length = 128
  bf : Bytes fl
  br : Bytes rl
  sf : Same 4096 fl L
  sr : Same 2147483648 rl L
theorem Data.fit {fl rl : List Int} {L : List S138} (h : Data fl rl L) : MemFit 4096 2147483648 fl.length rl.length := by rw [h.lf, h.lr]; exact fit_map
theorem map32 (a : Int) (h : 0 ≤ a ∧ a < 4294967296) : Fits32 4096 256 2147483648 128 a := ⟨by decide, by decide, by decide, by decide, h⟩
theorem Data.bankF {fl rl : List Int} {L : List S138} (h : Data fl rl L) (a n : Int) : inR 4096 256 a n = decide (inBank 4096 fl.length a n) := by
  rw [h.lf]; exact inR_bank (n := 256)
theorem Data.bankR {fl rl : List Int} {L : List S138} (h : Data fl rl L) (a n : Int) : inR 2147483648 128 a n = decide (inBank 2147483648 rl.length a n) := by
  rw [h.lr]; exact inR_bank (n := 128)
theorem Data.load {fl rl : List Int} {L : List S138} (h : Data fl rl L) (a s : Int) : loadV 4096 2147483648 fl rl a s = refLoadV 4096 256 2147483648 128 L a s := by
  unfold loadV refLoadV hasR
  rw [h.bankF, h.bankR]
  by_cases h1 : sizedP s
  · have hn : s.toNat = 1 ∨ s.toNat = 2 ∨ s.toNat = 4 := by unfold sizedP at h1; omega
    have hs : (s.toNat : Int) = s := by unfold sizedP at h1; omega
    have f1 := h.lf
    have r1 := h.lr
    by_cases h2 : a % s = 0
    · by_cases h3 : inBank 4096 fl.length a s
      · have e := word_eq h.sf h.bf a s.toNat hn (by decide) (by omega) h3.1 (by have := h3.2.2; omega)
        simp [h1, h2, h3, e]
      · by_cases h4 : inBank 2147483648 rl.length a s
        · have e := word_eq h.sr h.br a s.toNat hn (by decide) (by omega) h4.1 (by have := h4.2.2; omega)
          simp [h1, h2, h3, h4, e]
        · simp [h1, h2, h3, h4]
    · simp [h1, h2]
  · simp [h1]
theorem Data.store {fl rl : List Int} {L : List S138} (h : Data fl rl L) (a s x : Int) : Data fl (storeL 2147483648 rl a s x) (if refStoreT 2147483648 128 a s = 0 then L ++ refWrites a x s.toNat else L) := by
  have e : storeT 2147483648 rl.length a s = refStoreT 2147483648 128 a s := by rw [h.lr]; exact store_trap _ 128 _ _
  have f1 := h.lf
  have r1 := h.lr
  refine ⟨h.lf, by rw [storeL_length]; exact h.lr, h.bf, storeL_bytes h.br _ _ _ _, ?_, ?_⟩
  · split
    · rename_i h0
      rw [← e] at h0
      unfold storeT at h0
      split at h0
      · exact absurd h0 (by decide)
      · split at h0
        · exact absurd h0 (by decide)
        · split at h0
          · rename_i hb
            exact h.sf.apart a x _ (by have := hb.1; omega)
          · exact absurd h0 (by decide)
    · exact h.sf
  · unfold storeL
    rw [e]
    split
    · rename_i h0
      rw [← e] at h0
      unfold storeT at h0
      split at h0
      · exact absurd h0 (by decide)
      · rename_i hs
        have hs' : sizedP s := by simpa using hs
        split at h0
        · exact absurd h0 (by decide)
        · split at h0
          · rename_i hb
            exact h.sr.store a x _ hb.1 (by have := hb.2.2; unfold sizedP at hs'; omega)
          · exact absurd h0 (by decide)
    · exact h.sr
def putF (fl : List Int) (a : Int) (l : List Int) : List Int := if inBank 4096 fl.length a l.length then putL 4096 fl a l else fl
def putR (fl rl : List Int) (a : Int) (l : List Int) : List Int := if inBank 4096 fl.length a l.length then rl else if inBank 2147483648 rl.length a l.length then putL 2147483648 rl a l else rl
def putB (a n : Int) : Bool := n == 0 || hasR 4096 256 2147483648 128 a n
theorem bytes_splice {L l : List Int} (p : Nat) (h : Bytes L) (hl : Bytes l) : Bytes (splice L p l) := fun x hx => by
  unfold splice at hx
  rcases List.mem_append.1 hx with h1 | h1
  · exact h x (List.mem_of_mem_take h1)
  · rcases List.mem_append.1 h1 with h2 | h2
    · exact hl x h2
    · exact h x (List.mem_of_mem_drop h2)
theorem Data.put {fl rl : List Int} {L : List S138} (h : Data fl rl L) (a : Int) (l : List Int) (hl : Bytes l) : Data (putF fl a l) (putR fl rl a l) (if putB a l.length then L ++ putWrites a l l.length else L) := by
  have f1 := h.lf
  have r1 := h.lr
  unfold putF putR putB hasR
  rw [h.bankF, h.bankR]
  by_cases h1 : inBank 4096 fl.length a l.length
  · obtain ⟨a1, a2, a3⟩ := id h1
    rw [if_pos h1, if_pos h1, if_pos (by simp [h1])]
    exact ⟨by unfold putL; rw [splice_len (by omega)]; exact f1, r1, bytes_splice _ h.bf hl, h.br, h.sf.put a l a1 a3, h.sr.apartP a l (by omega)⟩
  · rw [if_neg h1, if_neg h1]
    by_cases h2 : inBank 2147483648 rl.length a l.length
    · obtain ⟨a1, a2, a3⟩ := id h2
      rw [if_pos h2, if_pos (by simp [h2])]
      exact ⟨f1, by unfold putL; rw [splice_len (by omega)]; exact r1, h.bf, bytes_splice _ h.br hl, h.sf.apartP a l (by omega), h.sr.put a l a1 a3⟩
    · rw [if_neg h2]
      by_cases h0 : l.length = 0
      · obtain rfl : l = [] := List.eq_nil_of_length_eq_zero h0
        have : (if (((([] : List Int).length : Int) == 0) || (decide (inBank 4096 fl.length a ([] : List Int).length) || decide (inBank 2147483648 rl.length a ([] : List Int).length))) = true then L ++ putWrites a [] ([] : List Int).length else L) = L := by
          split
          · show L ++ [] = L
            rw [List.append_nil]
          · rfl
        rw [this]
        exact h
      · have hz : ((l.length : Int) == 0) = false := beq_eq_false_iff_ne.mpr (by omega)
        rw [if_neg (by rw [hz]; simp [h1, h2])]
        exact h

theorem data0 : Data (List.replicate 256 0) (List.replicate 128 0) [] := by
  have hz : ∀ (n j : Nat), rd (List.replicate n (0 : Int)) (j : Int) = 0 := fun n j => by
    unfold rd
    rw [Int.toNat_natCast, List.getD_eq_getElem?_getD, List.getElem?_replicate]
    split <;> rfl
  exact ⟨List.length_replicate, List.length_replicate, rep_bytes _, rep_bytes _, fun j _ => hz _ _, fun j _ => hz _ _⟩
/-- both memories as 'memories' makes them -/
theorem data_mem {b : List Int} (h : Bytes b) : Data (List.replicate 256 0) (memRL b) (putWrites 2147483648 (memB b) (memB b).length) := by
  have hl := memB_le b
  have hm : Bytes (memB b) := fun x hx => h x (by unfold memB at hx; split at hx; exact List.mem_of_mem_take hx; exact hx)
  obtain ⟨c1, c2, c3, c4, c5, c6⟩ := data0
  have e : memRL b = putL 2147483648 (List.replicate 128 0) 2147483648 (memB b) := rfl
  have hlen : (memRL b).length = 128 := by
    rw [e]; unfold putL
    rw [length_splice _ _ _ (by rw [show (2147483648 - 2147483648 : Int).toNat = 0 by rfl, List.length_replicate]; omega), List.length_replicate]
  have q1 := Same.apartP (B := 4096) c5 2147483648 (memB b) (Or.inr (by rw [List.length_replicate]; decide))
  have q2 := Same.put (B := 2147483648) c6 2147483648 (memB b) (Int.le_refl _) (by rw [List.length_replicate]; omega)
  rw [List.nil_append] at q1 q2
  exact ⟨c1, hlen, c3, bytes_splice _ c4 hm, q1, q2⟩

end Go.Proofs.Ytpeljnnbknnbmaa.PD
end
section
namespace Go.Proofs.Ytpeljnnbknnbmaa.PD
open Go.RowKit Go.Proofs.YtpeljnnbknnbmaaW.PrintWords Go.Proofs.YtpeljnnbknnbmaaW.PrintLast Go.Proofs.YtpeljnnbknnbmaaW.PrintMore
set_option linter.unusedVariables false
set_option linter.unusedSimpArgs false
def KeepQ (w w' : World) : Prop := ∀ (k : Nat) (cs : Array Value) (t : TypeId) (fr : Nat × Nat), w.heap[k]? = some (.cells cs t fr) → t ≠ 63 → t ≠ 85 → t ≠ 138 → w'.heap[k]? = some (.cells cs t fr)
theorem KeepQ.refl (w : World) : KeepQ w w := fun _ _ _ _ h _ _ _ => h
theorem KeepQ.trans {w w1 w2 : World} (h1 : KeepQ w w1) (h2 : KeepQ w1 w2) : KeepQ w w2 := fun k cs t fr h a b c => h2 k cs t fr (h1 k cs t fr h a b c) a b c
theorem KeepQ.below {w w' : World} (h : Below w.heap.size w w') : KeepQ w w' := fun k cs t fr hk _ _ _ => (h.block _ (blk_lt hk)).trans hk
theorem KeepQ.t {w w' : World} (h : KeepT w w') : KeepQ w w' := fun k cs t fr hk _ h85 h138 => h k cs t fr hk h85 h138
theorem set_other {w : World} {g : Nat} {C : Array Value} {fr0 : Nat × Nat} (hg : w.heap[g]? = some (.cells C 63 fr0)) (j : Nat) (u : Value) : ∀ (k : Nat) (cs : Array Value) (t : TypeId) (fr : Nat × Nat), w.heap[k]? = some (.cells cs t fr) → t ≠ 63 → (w.setCell ⟨g, j, none⟩ u).heap[k]? = some (.cells cs t fr) := fun k cs t fr hk ht =>
  (Below.heap_setCell w ⟨g, j, none⟩ u k (by rintro rfl; rw [hg] at hk; injection hk with hk; injection hk with _ e _; exact ht e.symm)).trans hk
theorem KeepQ.set {w : World} {g : Nat} {C : Array Value} {fr0 : Nat × Nat} (hg : w.heap[g]? = some (.cells C 63 fr0)) (j : Nat) (u : Value) : KeepQ w (w.setCell ⟨g, j, none⟩ u) := fun k cs t fr hk ht _ _ => set_other hg j u k cs t fr hk ht
theorem RefAt.keepR {w w' : World} {base g : Nat} {F FS R RS : Int} {L : List S138} (h : RefAt w base g F FS R RS L) (hk : ∀ (k : Nat) (cs : Array Value) (t : TypeId) (fr : Nat × Nat), w.heap[k]? = some (.cells cs t fr) → t ≠ 63 → w'.heap[k]? = some (.cells cs t fr)) : RefAt w' base g F FS R RS L := by
  obtain ⟨A, c, h1, h2, h3⟩ := h
  refine ⟨A, c, hk _ _ _ _ h1 (by decide), h2, Kd.R_mono (Kd.R_move (Kd.R_bound h3) (fun k hk2 => ?_)) (fun _ hk => hk.1)⟩
  obtain ⟨_, _, _, q, hq, cells, hc⟩ := hk2
  rw [hc]
  refine hk _ _ _ _ hc ?_
  have : q = 138 := by simpa [k138, Kd.iso, Kd.pair, Kd.int, Kd.scalar] using hq
  rw [this]
  decide
theorem RunAt.keepT {w w' : World} {g : Nat} {mv : Value} {V : List Int} {st fu tr : Int} (h : RunAt w g mv V st fu tr) (hk : KeepT w w') : RunAt w' g mv V st fu tr := by
  obtain ⟨C, hC, r⟩ := h
  exact ⟨C, hk _ _ _ _ hC (by decide) (by decide), r⟩
theorem below_set (base : Nat) (w : World) (g : Nat) (hg : base ≤ g) (j : Nat) (u : Value) : Below base w (w.setCell ⟨g, j, none⟩ u) :=
  ⟨rfl, rfl, rfl, by simp [World.setCell], fun i hi => Below.heap_setCell w ⟨g, j, none⟩ u i (by intro e; simp only at e; omega)⟩
/-- the document's runner with its memory -/
structure RQ (w : World) (base g gx : Nat) (V : List Int) (st fu tr : Int) (L : List S138) : Prop where
  rn : RunAt w g (.pointer (some ⟨gx, 0, none⟩)) V st fu tr
  mm : RefAt w base gx 4096 256 2147483648 128 L
  bg : base ≤ g
def QTold (w : World) (base g gx : Nat) (V : List Int) (st fu tr : Int) (L : List S138) (e : Ending) (w' : World) : Prop :=
  e = .returned (.tuple #[]) ∧ RQ w' base g gx V st fu tr L ∧ KeepQ w w' ∧ Below base w w'
theorem RQ.below {w w' : World} {base g gx : Nat} {V : List Int} {st fu tr : Int} {L : List S138} (h : RQ w base g gx V st fu tr L) (hb : Below w.heap.size w w') : RQ w' base g gx V st fu tr L := ⟨h.rn.below hb, h.mm.below hb, h.bg⟩
theorem RQ.setV {w : World} {base g gx : Nat} {V : List Int} {st fu tr : Int} {L : List S138} (h : RQ w base g gx V st fu tr L) (d : Nat) (hd : d < 64) (x : Int) : RQ (w.setCell ⟨g, 1 + d, none⟩ (.int .u32 x)) base g gx (V.set d x) st fu tr L := by
  have hr := h.rn
  obtain ⟨C, hC, _⟩ := h.rn
  exact ⟨hr.setV d hd x, h.mm.keepR (set_other hC _ _), h.bg⟩
theorem RQ.setSt {w : World} {base g gx : Nat} {V : List Int} {st fu tr : Int} {L : List S138} (h : RQ w base g gx V st fu tr L) (x : Int) : RQ (w.setCell ⟨g, 65, none⟩ (.int .i64 x)) base g gx V x fu tr L := by
  have hr := h.rn
  obtain ⟨C, hC, _⟩ := h.rn
  exact ⟨hr.setSt x, h.mm.keepR (set_other hC _ _), h.bg⟩
theorem RQ.setTr {w : World} {base g gx : Nat} {V : List Int} {st fu tr : Int} {L : List S138} (h : RQ w base g gx V st fu tr L) (x : Int) : RQ (w.setCell ⟨g, 67, none⟩ (.int .i64 x)) base g gx V st fu x L := by
  have hr := h.rn
  obtain ⟨C, hC, _⟩ := h.rn
  exact ⟨hr.setTr x, h.mm.keepR (set_other hC _ _), h.bg⟩
theorem RQ.kset {w : World} {base g gx : Nat} {V : List Int} {st fu tr : Int} {L : List S138} (h : RQ w base g gx V st fu tr L) (j : Nat) (u : Value) : KeepQ w (w.setCell ⟨g, j, none⟩ u) := by
  obtain ⟨C, hC, _⟩ := h.rn
  exact KeepQ.set hC j u
set_option maxRecDepth 100000 in
set_option maxHeartbeats 8000000 in
theorem refmem_store8 (w : World) (base g gx : Nat) (V : List Int) (st fu tr : Int) (L : List S138) (h : RQ w base g gx V st fu tr L) (hu : ∀ x ∈ V, U32 x) (hl : V.length = 64) (hL : L.length < 4294967296) (a b : Nat) (ha : a < 64) (hb : b < 64) (D imm : Int) (T : Int) (hT : refStoreT 2147483648 128 ((rd V a + imm) % 4294967296) 1 = T) :
    Calls Try.prog 89 #[.pointer (some ⟨g, 0, none⟩), .agg #[.int .i64 21, .int .i64 D, .int .i64 a, .int .i64 b, .int .i32 imm]] w (QTold w base g gx V st fu T (if T = 0 then L ++ refWrites ((rd V a + imm) % 4294967296) (rd V b) 1 else L)) := by
  have h3 := h.rn.v a ha
  have h4 := h.rn.v b hb
  have h5 := h.rn.m
  have hlt := h.rn.lt
  have hai : (a : Int) < 64 := by omega
  have hbi : (b : Int) < 64 := by omega
  obtain ⟨ad, had⟩ : ∃ ad, ad = (rd V a + imm) % 4294967296 := ⟨_, rfl⟩
  have had' : (rd V a + imm) % 4294967296 = ad := had.symm
  have hub := rd_u32 hl hu b hb
  obtain ⟨vb, hvb⟩ : ∃ vb, vb = rd V (b : Int) := ⟨_, rfl⟩
  obtain ⟨va, hva⟩ : ∃ va, va = rd V (a : Int) := ⟨_, rfl⟩
  rw [← hvb] at h4 hub
  rw [← hva] at h3 had'
  rw [← had] at hT
  rw [← had, ← hvb]
  have had0 : 0 ≤ ad ∧ ad < 4294967296 := by rw [had]; omega
  obtain ⟨L2, hL2⟩ : ∃ L2, L2 = (if T = 0 then L ++ refWrites ad vb 1 else L) := ⟨_, rfl⟩
  rw [← hL2]
  have HS := Aside0.mk (fun (W : World) (hm : RefAt W base gx 4096 256 2147483648 128 L) (hbs : base ≤ W.heap.size) => (show Calls Try.prog 108 #[.pointer (some ⟨gx, 0, none⟩), .int .u32 ad, .int .i64 1, .int .u32 vb] W (RefTold W base gx 4096 256 2147483648 128 L2 (.int .i64 T)) from by
    have := refstore_calls base gx 4096 256 2147483648 128 ad 1 vb L W hm hbs (map32 ad had0) hub hL
    rw [hT] at this
    rw [hL2]
    exact this))
  have HR := Aside0.mk h
  have HVB := Aside0.mk hvb
  have hb' := hb
  clear had hvb hva hu hl had0 hub hT hL2 h
  go_enter Try.func89, Try.ntmps89
  go_wp2
  go_quiet (fail)
  go_wp2
  have hbw0 : Below w.heap.size w ((w.alloc (.cells #[.int .i64 21, .int .i64 D, .int .i64 a, .int .i64 b, .int .i32 imm] 49)).drewN (nq + 1)) := pw_below_drewN (below_alloc (Below.refl _ _) _) _
  have HBW := Aside0.mk hbw0
  have HMM := Aside0.mk (show RefAt ((w.alloc (.cells #[.int .i64 21, .int .i64 D, .int .i64 a, .int .i64 b, .int .i32 imm] 49)).drewN (nq + 1)) base gx 4096 256 2147483648 128 L from HR.out.mm.below hbw0)
  have HBS := Aside0.mk (show base ≤ ((w.alloc (.cells #[.int .i64 21, .int .i64 D, .int .i64 a, .int .i64 b, .int .i32 imm] 49)).drewN (nq + 1)).heap.size from by have := HR.out.bg; have := hbw0.size; omega)
  have HRN := Aside0.mk (show RunAt ((w.alloc (.cells #[.int .i64 21, .int .i64 D, .int .i64 a, .int .i64 b, .int .i32 imm] 49)).drewN (nq + 1)) g (.pointer (some ⟨gx, 0, none⟩)) V st fu tr from HR.out.rn.below hbw0)
  have HBX := Aside0.mk (show ((w.alloc (.cells #[.int .i64 21, .int .i64 D, .int .i64 a, .int .i64 b, .int .i32 imm] 49)).drewN (nq + 1)).heap[w.heap.size]? = _ from heap_alloc_new w _)
  clear hbw0
  refine wp_region_held_drew (S := fun W' => W'.cell? ⟨w.heap.size, 3, none⟩ = some (.int .i64 b) ∧ W'.cell? ⟨g, 0, none⟩ = some (.pointer (some ⟨gx, 0, none⟩)) ∧ W'.cell? ⟨g, 1 + b, none⟩ = some (.int .u32 vb)) (by kernel_rfl) ⟨blk_cell HBX.out 3, HRN.out.m, by have := HRN.out.v b hb'; rw [← HVB.out] at this; exact this⟩ (fun hHeld => ?_)
  refine wpAnyH_take (i := 0) (v := ?_) rfl (by kernel_rfl) (by kernel_rfl) (by kernel_rfl) (fun _ _ _ h => h) (Or.inl ⟨by rfl, ?_⟩) (by assumption) ?_
  rotate_left
  · (intro w hSw; go_simp; (try with_reducible rfl))
  try simp only [Act.put, List.getElem_toArray, List.getElem_cons_succ, List.getElem_cons_zero, List.setIfInBounds_toArray, List.set_cons_zero, List.set_cons_succ]
  refine wpAnyH_take (i := 1) (v := ?_) rfl (by kernel_rfl) (by kernel_rfl) (by kernel_rfl) (fun _ _ _ h => h) (Or.inl ⟨by rfl, ?_⟩) (by assumption) ?_
  rotate_left
  · (intro w hSw; go_simp; (try with_reducible rfl))
  try simp only [Act.put, List.getElem_toArray, List.getElem_cons_succ, List.getElem_cons_zero, List.setIfInBounds_toArray, List.set_cons_zero, List.set_cons_succ]
  refine wpAnyH_take (i := 2) (v := ?_) rfl (by kernel_rfl) (by kernel_rfl) (by kernel_rfl) (fun _ _ _ h => h) (Or.inl ⟨by rfl, ?_⟩) (by assumption) ?_
  rotate_left
  · (intro w hSw; go_simp; (try with_reducible rfl))
  try simp only [Act.put, List.getElem_toArray, List.getElem_cons_succ, List.getElem_cons_zero, List.setIfInBounds_toArray, List.set_cons_zero, List.set_cons_succ]
  refine wpAnyH_take (i := 3) (v := ?_) rfl (by kernel_rfl) (by kernel_rfl) (by kernel_rfl) (fun _ _ _ h => h) (Or.inl ⟨by rfl, ?_⟩) (by assumption) ?_
  rotate_left
  · (intro w hSw; go_simp; (try with_reducible rfl))
  try simp only [Act.put, List.getElem_toArray, List.getElem_cons_succ, List.getElem_cons_zero, List.setIfInBounds_toArray, List.set_cons_zero, List.set_cons_succ]
  refine wpAnyH_take (i := 4) (v := ?_) rfl (by kernel_rfl) (by kernel_rfl) (by kernel_rfl) (fun _ _ _ h => h) (Or.inl ⟨by rfl, ?_⟩) (by assumption) ?_
  rotate_left
  · (intro w hSw; go_simp; (try with_reducible rfl))
  try simp only [Act.put, List.getElem_toArray, List.getElem_cons_succ, List.getElem_cons_zero, List.setIfInBounds_toArray, List.set_cons_zero, List.set_cons_succ]
  refine wpAnyH_take (i := 5) (v := ?_) rfl (by kernel_rfl) (by kernel_rfl) (by kernel_rfl) (fun _ _ _ h => h) (Or.inl ⟨by rfl, ?_⟩) (by assumption) ?_
  rotate_left
  · (intro w hSw; go_simp; (try with_reducible rfl))
  try simp only [Act.put, List.getElem_toArray, List.getElem_cons_succ, List.getElem_cons_zero, List.setIfInBounds_toArray, List.set_cons_zero, List.set_cons_succ]
  refine wpAnyH_take (i := 6) (v := ?_) rfl (by kernel_rfl) (by kernel_rfl) (by kernel_rfl) (fun _ _ _ h => h) (Or.inl ⟨by rfl, ?_⟩) (by assumption) ?_
  rotate_left
  · (intro w hSw; go_simp; (try with_reducible rfl))
  try simp only [Act.put, List.getElem_toArray, List.getElem_cons_succ, List.getElem_cons_zero, List.setIfInBounds_toArray, List.set_cons_zero, List.set_cons_succ]
  refine wpAnyH_take (i := 7) (v := ?_) rfl (by kernel_rfl) (by kernel_rfl) (by kernel_rfl) (fun _ _ _ h => h) (Or.inl ⟨by rfl, ?_⟩) (by assumption) ?_
  rotate_left
  · (intro w hSw; go_simp; (try with_reducible rfl))
  try simp only [Act.put, List.getElem_toArray, List.getElem_cons_succ, List.getElem_cons_zero, List.setIfInBounds_toArray, List.set_cons_zero, List.set_cons_succ]
  refine wpAnyH_take (i := 8) (v := ?_) rfl (by kernel_rfl) (by kernel_rfl) (by kernel_rfl) (fun _ _ _ h => h) (Or.inl ⟨by rfl, ?_⟩) (by assumption) ?_
  rotate_left
  · (intro w hSw; go_simp; (try with_reducible rfl))
  try simp only [Act.put, List.getElem_toArray, List.getElem_cons_succ, List.getElem_cons_zero, List.setIfInBounds_toArray, List.set_cons_zero, List.set_cons_succ]
  refine wpAnyH_take (i := 9) (v := ?_) rfl (by kernel_rfl) (by kernel_rfl) (by kernel_rfl) (fun _ _ _ h => h) (Or.inl ⟨by rfl, ?_⟩) (by assumption) ?_
  rotate_left
  · (intro w hSw; go_simp; (try with_reducible rfl))
  try simp only [Act.put, List.getElem_toArray, List.getElem_cons_succ, List.getElem_cons_zero, List.setIfInBounds_toArray, List.set_cons_zero, List.set_cons_succ]
  refine wpAnyH_take (i := 10) (v := ?_) rfl (by kernel_rfl) (by kernel_rfl) (by kernel_rfl) (fun _ _ _ h => h) (Or.inl ⟨by rfl, ?_⟩) (by assumption) ?_
  rotate_left
  · (intro w hSw; go_simp; (try with_reducible rfl))
  try simp only [Act.put, List.getElem_toArray, List.getElem_cons_succ, List.getElem_cons_zero, List.setIfInBounds_toArray, List.set_cons_zero, List.set_cons_succ]
  refine wpAnyH_take (i := 11) (v := ?_) rfl (by kernel_rfl) (by kernel_rfl) (by kernel_rfl) (fun _ _ _ h => h) (Or.inl ⟨by rfl, ?_⟩) (by assumption) ?_
  rotate_left
  · (intro w hSw; go_simp; (try with_reducible rfl))
  try simp only [Act.put, List.getElem_toArray, List.getElem_cons_succ, List.getElem_cons_zero, List.setIfInBounds_toArray, List.set_cons_zero, List.set_cons_succ]
  refine wpAnyH_take (i := 12) (v := ?_) rfl (by kernel_rfl) (by kernel_rfl) (by kernel_rfl) (fun _ _ _ h => h) (Or.inl ⟨by rfl, ?_⟩) (by assumption) ?_
  rotate_left
  · (intro w hSw; go_simp; (try with_reducible rfl))
  try simp only [Act.put, List.getElem_toArray, List.getElem_cons_succ, List.getElem_cons_zero, List.setIfInBounds_toArray, List.set_cons_zero, List.set_cons_succ]
  refine wpAnyH_take (i := 13) (v := ?_) rfl (by kernel_rfl) (by kernel_rfl) (by kernel_rfl) (fun _ _ _ h => h) (Or.inl ⟨by rfl, ?_⟩) (by assumption) ?_
  rotate_left
  · (intro w hSw; go_simp; (try with_reducible rfl))
  try simp only [Act.put, List.getElem_toArray, List.getElem_cons_succ, List.getElem_cons_zero, List.setIfInBounds_toArray, List.set_cons_zero, List.set_cons_succ]
  refine wpAnyH_ready (rs := [14]) (by kernel_rfl) (by simp) ?_
  refine AllReadyH.cons rfl (fun K hK => ?_) (AllReadyH.nil)
  go_simp
  (go_at_call 108; refine (HS.out _ HMM.out HBS.out).mono ?_; rintro e w5 ⟨rfl, hm5, hk5, hb5⟩)
  clear hHeld
  have hr5 := RunAt.keepT HRN.out hk5
  have hbx5 := hk5 _ _ _ _ HBX.out (by decide) (by decide)
  have hf5 := hr5.frozen 67
  have gt5 := hr5.gtr
  refine hK.out _ _ ⟨blk_cell hbx5 3, hr5.m, by have := hr5.v b hb'; rw [← HVB.out] at this; exact this⟩ (fun hHeld => ?_)
  clear hK K
  try simp only [Act.put, List.getElem_toArray, List.getElem_cons_succ, List.getElem_cons_zero, List.setIfInBounds_toArray, List.set_cons_zero, List.set_cons_succ]
  refine wpAnyH_take (i := 15) (v := ?_) rfl (by kernel_rfl) (by kernel_rfl) (by kernel_rfl) (fun _ _ _ h => h) (Or.inl ⟨by rfl, ?_⟩) (by assumption) ?_
  rotate_left
  · (intro w hSw; go_simp; (try with_reducible rfl))
  try simp only [Act.put, List.getElem_toArray, List.getElem_cons_succ, List.getElem_cons_zero, List.setIfInBounds_toArray, List.set_cons_zero, List.set_cons_succ]
  refine wpAnyH_take (i := 16) (v := ?_) rfl (by kernel_rfl) (by kernel_rfl) (by kernel_rfl) (fun _ _ _ h => h) (Or.inl ⟨by rfl, ?_⟩) (by assumption) ?_
  rotate_left
  · (intro w hSw; go_simp; (try with_reducible rfl))
  try simp only [Act.put, List.getElem_toArray, List.getElem_cons_succ, List.getElem_cons_zero, List.setIfInBounds_toArray, List.set_cons_zero, List.set_cons_succ]
  refine wpAnyH_ready (rs := [17]) (by kernel_rfl) (by simp) ?_
  refine AllReadyH.cons rfl (fun K hK => ?_) (AllReadyH.nil)
  go_simp
  obtain ⟨C5, hC5, _⟩ := id hr5
  refine hK.out _ _ ⟨blk_cell (set_other hC5 67 _ _ _ _ _ hbx5 (by decide)) 3, (hr5.setTr _).m, by have := (hr5.setTr T).v b hb'; rw [← HVB.out] at this; exact this⟩ (fun hHeld => ?_)
  clear hK K
  try simp only [Act.put, List.getElem_toArray, List.getElem_cons_succ, List.getElem_cons_zero, List.setIfInBounds_toArray, List.set_cons_zero, List.set_cons_succ]
  refine wpAnyH_done (by kernel_rfl) ?_ _
  go_wp2
  go_end0
  have hq5 : RQ w5 base g gx V st fu tr L2 := ⟨hr5, hm5, HR.out.bg⟩
  exact ⟨rfl, RQ.setTr hq5 _, ((KeepQ.below HBW.out).trans (KeepQ.t hk5)).trans (RQ.kset hq5 _ _), ((HBW.out.mono (by have := HR.out.bg; omega)).trans hb5).trans (below_set base _ g HR.out.bg _ _)⟩
set_option maxRecDepth 100000 in
set_option maxHeartbeats 8000000 in
theorem refmem_store32 (w : World) (base g gx : Nat) (V : List Int) (st fu tr : Int) (L : List S138) (h : RQ w base g gx V st fu tr L) (hu : ∀ x ∈ V, U32 x) (hl : V.length = 64) (hL : L.length < 4294967296) (a b : Nat) (ha : a < 64) (hb : b < 64) (D imm : Int) (T : Int) (hT : refStoreT 2147483648 128 ((rd V a + imm) % 4294967296) 4 = T) :
    Calls Try.prog 89 #[.pointer (some ⟨g, 0, none⟩), .agg #[.int .i64 22, .int .i64 D, .int .i64 a, .int .i64 b, .int .i32 imm]] w (QTold w base g gx V st fu T (if T = 0 then L ++ refWrites ((rd V a + imm) % 4294967296) (rd V b) 4 else L)) := by
  have h3 := h.rn.v a ha
  have h4 := h.rn.v b hb
  have h5 := h.rn.m
  have hlt := h.rn.lt
  have hai : (a : Int) < 64 := by omega
  have hbi : (b : Int) < 64 := by omega
  obtain ⟨ad, had⟩ : ∃ ad, ad = (rd V a + imm) % 4294967296 := ⟨_, rfl⟩
  have had' : (rd V a + imm) % 4294967296 = ad := had.symm
  have hub := rd_u32 hl hu b hb
  obtain ⟨vb, hvb⟩ : ∃ vb, vb = rd V (b : Int) := ⟨_, rfl⟩
  obtain ⟨va, hva⟩ : ∃ va, va = rd V (a : Int) := ⟨_, rfl⟩
  rw [← hvb] at h4 hub
  rw [← hva] at h3 had'
  rw [← had] at hT
  rw [← had, ← hvb]
  have had0 : 0 ≤ ad ∧ ad < 4294967296 := by rw [had]; omega
  obtain ⟨L2, hL2⟩ : ∃ L2, L2 = (if T = 0 then L ++ refWrites ad vb 4 else L) := ⟨_, rfl⟩
  rw [← hL2]
  have HS := Aside0.mk (fun (W : World) (hm : RefAt W base gx 4096 256 2147483648 128 L) (hbs : base ≤ W.heap.size) => (show Calls Try.prog 108 #[.pointer (some ⟨gx, 0, none⟩), .int .u32 ad, .int .i64 4, .int .u32 vb] W (RefTold W base gx 4096 256 2147483648 128 L2 (.int .i64 T)) from by
    have := refstore_calls base gx 4096 256 2147483648 128 ad 4 vb L W hm hbs (map32 ad had0) hub hL
    rw [hT] at this
    rw [hL2]
    exact this))
  have HR := Aside0.mk h
  have HVB := Aside0.mk hvb
  have hb' := hb
  clear had hvb hva hu hl had0 hub hT hL2 h
  go_enter Try.func89, Try.ntmps89
  go_wp2
  go_quiet (fail)
  go_wp2
  have hbw0 : Below w.heap.size w ((w.alloc (.cells #[.int .i64 22, .int .i64 D, .int .i64 a, .int .i64 b, .int .i32 imm] 49)).drewN (nq + 1)) := pw_below_drewN (below_alloc (Below.refl _ _) _) _
  have HBW := Aside0.mk hbw0
  have HMM := Aside0.mk (show RefAt ((w.alloc (.cells #[.int .i64 22, .int .i64 D, .int .i64 a, .int .i64 b, .int .i32 imm] 49)).drewN (nq + 1)) base gx 4096 256 2147483648 128 L from HR.out.mm.below hbw0)
  have HBS := Aside0.mk (show base ≤ ((w.alloc (.cells #[.int .i64 22, .int .i64 D, .int .i64 a, .int .i64 b, .int .i32 imm] 49)).drewN (nq + 1)).heap.size from by have := HR.out.bg; have := hbw0.size; omega)
  have HRN := Aside0.mk (show RunAt ((w.alloc (.cells #[.int .i64 22, .int .i64 D, .int .i64 a, .int .i64 b, .int .i32 imm] 49)).drewN (nq + 1)) g (.pointer (some ⟨gx, 0, none⟩)) V st fu tr from HR.out.rn.below hbw0)
  have HBX := Aside0.mk (show ((w.alloc (.cells #[.int .i64 22, .int .i64 D, .int .i64 a, .int .i64 b, .int .i32 imm] 49)).drewN (nq + 1)).heap[w.heap.size]? = _ from heap_alloc_new w _)
  clear hbw0
  refine wp_region_held_drew (S := fun W' => W'.cell? ⟨w.heap.size, 3, none⟩ = some (.int .i64 b) ∧ W'.cell? ⟨g, 0, none⟩ = some (.pointer (some ⟨gx, 0, none⟩)) ∧ W'.cell? ⟨g, 1 + b, none⟩ = some (.int .u32 vb)) (by kernel_rfl) ⟨blk_cell HBX.out 3, HRN.out.m, by have := HRN.out.v b hb'; rw [← HVB.out] at this; exact this⟩ (fun hHeld => ?_)
  refine wpAnyH_take (i := 0) (v := ?_) rfl (by kernel_rfl) (by kernel_rfl) (by kernel_rfl) (fun _ _ _ h => h) (Or.inl ⟨by rfl, ?_⟩) (by assumption) ?_
  rotate_left
  · (intro w hSw; go_simp; (try with_reducible rfl))
  try simp only [Act.put, List.getElem_toArray, List.getElem_cons_succ, List.getElem_cons_zero, List.setIfInBounds_toArray, List.set_cons_zero, List.set_cons_succ]
  refine wpAnyH_take (i := 1) (v := ?_) rfl (by kernel_rfl) (by kernel_rfl) (by kernel_rfl) (fun _ _ _ h => h) (Or.inl ⟨by rfl, ?_⟩) (by assumption) ?_
  rotate_left
  · (intro w hSw; go_simp; (try with_reducible rfl))
  try simp only [Act.put, List.getElem_toArray, List.getElem_cons_succ, List.getElem_cons_zero, List.setIfInBounds_toArray, List.set_cons_zero, List.set_cons_succ]
  refine wpAnyH_take (i := 2) (v := ?_) rfl (by kernel_rfl) (by kernel_rfl) (by kernel_rfl) (fun _ _ _ h => h) (Or.inl ⟨by rfl, ?_⟩) (by assumption) ?_
  rotate_left
  · (intro w hSw; go_simp; (try with_reducible rfl))
  try simp only [Act.put, List.getElem_toArray, List.getElem_cons_succ, List.getElem_cons_zero, List.setIfInBounds_toArray, List.set_cons_zero, List.set_cons_succ]
  refine wpAnyH_take (i := 3) (v := ?_) rfl (by kernel_rfl) (by kernel_rfl) (by kernel_rfl) (fun _ _ _ h => h) (Or.inl ⟨by rfl, ?_⟩) (by assumption) ?_
  rotate_left
  · (intro w hSw; go_simp; (try with_reducible rfl))
  try simp only [Act.put, List.getElem_toArray, List.getElem_cons_succ, List.getElem_cons_zero, List.setIfInBounds_toArray, List.set_cons_zero, List.set_cons_succ]
  refine wpAnyH_take (i := 4) (v := ?_) rfl (by kernel_rfl) (by kernel_rfl) (by kernel_rfl) (fun _ _ _ h => h) (Or.inl ⟨by rfl, ?_⟩) (by assumption) ?_
  rotate_left
  · (intro w hSw; go_simp; (try with_reducible rfl))
  try simp only [Act.put, List.getElem_toArray, List.getElem_cons_succ, List.getElem_cons_zero, List.setIfInBounds_toArray, List.set_cons_zero, List.set_cons_succ]
  refine wpAnyH_take (i := 5) (v := ?_) rfl (by kernel_rfl) (by kernel_rfl) (by kernel_rfl) (fun _ _ _ h => h) (Or.inl ⟨by rfl, ?_⟩) (by assumption) ?_
  rotate_left
  · (intro w hSw; go_simp; (try with_reducible rfl))
  try simp only [Act.put, List.getElem_toArray, List.getElem_cons_succ, List.getElem_cons_zero, List.setIfInBounds_toArray, List.set_cons_zero, List.set_cons_succ]
  refine wpAnyH_take (i := 6) (v := ?_) rfl (by kernel_rfl) (by kernel_rfl) (by kernel_rfl) (fun _ _ _ h => h) (Or.inl ⟨by rfl, ?_⟩) (by assumption) ?_
  rotate_left
  · (intro w hSw; go_simp; (try with_reducible rfl))
  try simp only [Act.put, List.getElem_toArray, List.getElem_cons_succ, List.getElem_cons_zero, List.setIfInBounds_toArray, List.set_cons_zero, List.set_cons_succ]
  refine wpAnyH_take (i := 7) (v := ?_) rfl (by kernel_rfl) (by kernel_rfl) (by kernel_rfl) (fun _ _ _ h => h) (Or.inl ⟨by rfl, ?_⟩) (by assumption) ?_
  rotate_left
  · (intro w hSw; go_simp; (try with_reducible rfl))
  try simp only [Act.put, List.getElem_toArray, List.getElem_cons_succ, List.getElem_cons_zero, List.setIfInBounds_toArray, List.set_cons_zero, List.set_cons_succ]
  refine wpAnyH_take (i := 8) (v := ?_) rfl (by kernel_rfl) (by kernel_rfl) (by kernel_rfl) (fun _ _ _ h => h) (Or.inl ⟨by rfl, ?_⟩) (by assumption) ?_
  rotate_left
  · (intro w hSw; go_simp; (try with_reducible rfl))
  try simp only [Act.put, List.getElem_toArray, List.getElem_cons_succ, List.getElem_cons_zero, List.setIfInBounds_toArray, List.set_cons_zero, List.set_cons_succ]
  refine wpAnyH_take (i := 9) (v := ?_) rfl (by kernel_rfl) (by kernel_rfl) (by kernel_rfl) (fun _ _ _ h => h) (Or.inl ⟨by rfl, ?_⟩) (by assumption) ?_
  rotate_left
  · (intro w hSw; go_simp; (try with_reducible rfl))
  try simp only [Act.put, List.getElem_toArray, List.getElem_cons_succ, List.getElem_cons_zero, List.setIfInBounds_toArray, List.set_cons_zero, List.set_cons_succ]
  refine wpAnyH_take (i := 10) (v := ?_) rfl (by kernel_rfl) (by kernel_rfl) (by kernel_rfl) (fun _ _ _ h => h) (Or.inl ⟨by rfl, ?_⟩) (by assumption) ?_
  rotate_left
  · (intro w hSw; go_simp; (try with_reducible rfl))
  try simp only [Act.put, List.getElem_toArray, List.getElem_cons_succ, List.getElem_cons_zero, List.setIfInBounds_toArray, List.set_cons_zero, List.set_cons_succ]
  refine wpAnyH_take (i := 11) (v := ?_) rfl (by kernel_rfl) (by kernel_rfl) (by kernel_rfl) (fun _ _ _ h => h) (Or.inl ⟨by rfl, ?_⟩) (by assumption) ?_
  rotate_left
  · (intro w hSw; go_simp; (try with_reducible rfl))
  try simp only [Act.put, List.getElem_toArray, List.getElem_cons_succ, List.getElem_cons_zero, List.setIfInBounds_toArray, List.set_cons_zero, List.set_cons_succ]
  refine wpAnyH_take (i := 12) (v := ?_) rfl (by kernel_rfl) (by kernel_rfl) (by kernel_rfl) (fun _ _ _ h => h) (Or.inl ⟨by rfl, ?_⟩) (by assumption) ?_
  rotate_left
  · (intro w hSw; go_simp; (try with_reducible rfl))
  try simp only [Act.put, List.getElem_toArray, List.getElem_cons_succ, List.getElem_cons_zero, List.setIfInBounds_toArray, List.set_cons_zero, List.set_cons_succ]
  refine wpAnyH_take (i := 13) (v := ?_) rfl (by kernel_rfl) (by kernel_rfl) (by kernel_rfl) (fun _ _ _ h => h) (Or.inl ⟨by rfl, ?_⟩) (by assumption) ?_
  rotate_left
  · (intro w hSw; go_simp; (try with_reducible rfl))
  try simp only [Act.put, List.getElem_toArray, List.getElem_cons_succ, List.getElem_cons_zero, List.setIfInBounds_toArray, List.set_cons_zero, List.set_cons_succ]
  refine wpAnyH_ready (rs := [14]) (by kernel_rfl) (by simp) ?_
  refine AllReadyH.cons rfl (fun K hK => ?_) (AllReadyH.nil)
  go_simp
  (go_at_call 108; refine (HS.out _ HMM.out HBS.out).mono ?_; rintro e w5 ⟨rfl, hm5, hk5, hb5⟩)
  clear hHeld
  have hr5 := RunAt.keepT HRN.out hk5
  have hbx5 := hk5 _ _ _ _ HBX.out (by decide) (by decide)
  have hf5 := hr5.frozen 67
  have gt5 := hr5.gtr
  refine hK.out _ _ ⟨blk_cell hbx5 3, hr5.m, by have := hr5.v b hb'; rw [← HVB.out] at this; exact this⟩ (fun hHeld => ?_)
  clear hK K
  try simp only [Act.put, List.getElem_toArray, List.getElem_cons_succ, List.getElem_cons_zero, List.setIfInBounds_toArray, List.set_cons_zero, List.set_cons_succ]
  refine wpAnyH_take (i := 15) (v := ?_) rfl (by kernel_rfl) (by kernel_rfl) (by kernel_rfl) (fun _ _ _ h => h) (Or.inl ⟨by rfl, ?_⟩) (by assumption) ?_
  rotate_left
  · (intro w hSw; go_simp; (try with_reducible rfl))
  try simp only [Act.put, List.getElem_toArray, List.getElem_cons_succ, List.getElem_cons_zero, List.setIfInBounds_toArray, List.set_cons_zero, List.set_cons_succ]
  refine wpAnyH_take (i := 16) (v := ?_) rfl (by kernel_rfl) (by kernel_rfl) (by kernel_rfl) (fun _ _ _ h => h) (Or.inl ⟨by rfl, ?_⟩) (by assumption) ?_
  rotate_left
  · (intro w hSw; go_simp; (try with_reducible rfl))
  try simp only [Act.put, List.getElem_toArray, List.getElem_cons_succ, List.getElem_cons_zero, List.setIfInBounds_toArray, List.set_cons_zero, List.set_cons_succ]
  refine wpAnyH_ready (rs := [17]) (by kernel_rfl) (by simp) ?_
  refine AllReadyH.cons rfl (fun K hK => ?_) (AllReadyH.nil)
  go_simp
  obtain ⟨C5, hC5, _⟩ := id hr5
  refine hK.out _ _ ⟨blk_cell (set_other hC5 67 _ _ _ _ _ hbx5 (by decide)) 3, (hr5.setTr _).m, by have := (hr5.setTr T).v b hb'; rw [← HVB.out] at this; exact this⟩ (fun hHeld => ?_)
  clear hK K
  try simp only [Act.put, List.getElem_toArray, List.getElem_cons_succ, List.getElem_cons_zero, List.setIfInBounds_toArray, List.set_cons_zero, List.set_cons_succ]
  refine wpAnyH_done (by kernel_rfl) ?_ _
  go_wp2
  go_end0
  have hq5 : RQ w5 base g gx V st fu tr L2 := ⟨hr5, hm5, HR.out.bg⟩
  exact ⟨rfl, RQ.setTr hq5 _, ((KeepQ.below HBW.out).trans (KeepQ.t hk5)).trans (RQ.kset hq5 _ _), ((HBW.out.mono (by have := HR.out.bg; omega)).trans hb5).trans (below_set base _ g HR.out.bg _ _)⟩

end Go.Proofs.Ytpeljnnbknnbmaa.PD
end
end
