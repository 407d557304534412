/- Plain arithmetic of scaled numbers: the program's Scale, Clamp and Byte and the document's reckon the same; of two numbers the lesser one is not scaled to more. Conditions: the bounds that are named. -/
import Derived.Test.YtahegimfdbapeaaGoodQuantOrder
import Derived.Test.YtahegimfdbapeaaGoodQuantScales
namespace Go.Proofs.Ytahegimfdbapeaa.Quant
open Go.RowKit Go.Proofs.Ytahegimfdbapeaa.PA Go.Proofs.YtahegimfdbapeaaW Go.Proofs.YtahegimfdbapeaaW.PrintWords Go.Proofs.YtahegimfdbapeaaW.PrintMore
theorem i32_of {n : Int} (h : (Lit.int .i32 n).wf = true) : -2147483648 ≤ n ∧ n ≤ 2147483647 := by
  simp [Lit.wf, IntKind.min, IntKind.max, IntKind.signed, IntKind.bits] at h
  omega
theorem i64_of {n : Int} (h : (Lit.int .i64 n).wf = true) : -9223372036854775808 ≤ n ∧ n ≤ 9223372036854775807 := by
  simp [Lit.wf, IntKind.min, IntKind.max, IntKind.signed, IntKind.bits] at h
  omega
theorem mul_bound {n m : Int} (h1 : -2147483648 ≤ n ∧ n ≤ 2147483647) (h2 : -2147483648 ≤ m ∧ m ≤ 2147483647) : -4611686018427387904 ≤ n * m ∧ n * m ≤ 4611686018427387904 := by
  have e : (n * m).natAbs ≤ 4611686018427387904 := by
    rw [Int.natAbs_mul]
    exact Nat.mul_le_mul (show n.natAbs ≤ 2147483648 by omega) (show m.natAbs ≤ 2147483648 by omega)
  omega
theorem two_pow_le {a b : Nat} (h : a ≤ b) : (2 : Int) ^ a ≤ 2 ^ b := by
  have := Nat.pow_le_pow_right (show 0 < 2 by decide) h
  have e : ∀ n : Nat, (2 : Int) ^ n = ((2 ^ n : Nat) : Int) := fun n => by simp
  rw [e, e]
  exact Int.ofNat_le.2 this
theorem two_pow_pos (a : Nat) : (0 : Int) < 2 ^ a := by
  have e : (2 : Int) ^ a = ((2 ^ a : Nat) : Int) := by simp
  rw [e]
  exact Int.ofNat_lt.2 (Nat.pow_pos (by decide))
theorem floor_div {n p : Int} (hp : 0 < p) : (if Int.tmod n p < 0 then Int.tdiv n p - 1 else Int.tdiv n p) = n / p := by
  have h1 := Int.mul_tdiv_add_tmod n p
  have h2 : Int.tmod n p < p := Int.tmod_lt_of_pos n hp
  have h3 : -p < Int.tmod n p := Int.lt_tmod_of_pos n hp
  split
  · rename_i h
    have := (Int.ediv_emod_unique (a := n) (b := p) (q := Int.tdiv n p - 1) (r := Int.tmod n p + p) hp).2 ⟨by rw [Int.mul_sub]; omega, by omega, by omega⟩
    exact this.1.symm
  · rename_i h
    have := (Int.ediv_emod_unique (a := n) (b := p) (q := Int.tdiv n p) (r := Int.tmod n p) hp).2 ⟨by omega, by omega, by omega⟩
    exact this.1.symm
theorem div_bounds {x p : Int} (hp : 1 ≤ p) (h : -2147483648 ≤ x ∧ x ≤ 2147483647) : -2147483648 ≤ x / p ∧ x / p ≤ 2147483647 := by
  constructor
  · refine Int.le_ediv_of_mul_le (by omega) ?_
    omega
  · have : x / p < 2147483648 := Int.ediv_lt_of_lt_mul (by omega) (by omega)
    omega
theorem wrap32_in (n : Int) : -2147483648 ≤ wrap32 n ∧ wrap32 n ≤ 2147483647 := by unfold wrap32; omega
theorem wrap32_id {n : Int} (h : -2147483648 ≤ n ∧ n ≤ 2147483647) : wrap32 n = n := by unfold wrap32; omega
theorem wrap64_id {n : Int} (h : -9223372036854775808 ≤ n ∧ n ≤ 9223372036854775807) : wrap64 n = n := by unfold wrap64; omega
theorem u64_id {n : Int} (h0 : 0 ≤ n) (h : n < 18446744073709551616) : IntKind.u64.wrap n = n := by
  have e : IntKind.u64.wrap n = n % 18446744073709551616 := by simp [IntKind.wrap, IntKind.bits, IntKind.signed]
  rw [e]; omega
/-- a number, scaled -/
def hiV (n m : Int) : Int := wrap32 ((n * m + 1073741824) / 2147483648)
def scaleV (n m s : Int) : Int := if s < 0 ∨ 31 < s then 0 else if s = 0 then hiV n m else wrap32 (hiV n m + 2 ^ (s - 1).toNat) / 2 ^ s.toNat
theorem scaleV_in (n m s : Int) : -2147483648 ≤ scaleV n m s ∧ scaleV n m s ≤ 2147483647 := by
  unfold scaleV
  split
  · omega
  · split
    · exact wrap32_in _
    · exact div_bounds (by have := two_pow_pos s.toNat; omega) (wrap32_in _)
theorem shl32 {s : Int} (h0 : 0 ≤ s) (h : s ≤ 30) : shl .i32 1 s = 2 ^ s.toNat := by
  unfold shl
  rw [Nat.min_eq_left (show s.toNat ≤ IntKind.i32.bits by show s.toNat ≤ 32; omega), Int.one_mul, IntKind.wrap_i32]
  have h1 := two_pow_le (show s.toNat ≤ 30 by omega)
  have h2 := two_pow_pos s.toNat
  rw [show (2 : Int) ^ 30 = 1073741824 from rfl] at h1
  omega
theorem shl64 {s : Int} (h0 : 0 ≤ s) (h : s ≤ 62) : shl .i64 1 s = 2 ^ s.toNat := by
  unfold shl
  rw [Nat.min_eq_left (show s.toNat ≤ IntKind.i64.bits by show s.toNat ≤ 64; omega), Int.one_mul, IntKind.wrap_i64]
  have h1 := two_pow_le (show s.toNat ≤ 62 by omega)
  have h2 := two_pow_pos s.toNat
  rw [show (2 : Int) ^ 62 = 4611686018427387904 from rfl] at h1
  omega
theorem pow_bound {s : Int} (h : s ≤ 31) : (2 : Int) ^ s.toNat ≤ 2147483648 := by
  have h1 := two_pow_le (show s.toNat ≤ 31 by omega)
  rwa [show (2 : Int) ^ 31 = 2147483648 from rfl] at h1
theorem prog_scale {n m s : Int} (hn : -2147483648 ≤ n ∧ n ≤ 2147483647) (hm : -2147483648 ≤ m ∧ m ≤ 2147483647) : quant_scale.f n m s = some (scaleV n m s) := by
  have hb := mul_bound hn hm
  unfold quant_scale.f quant_good.f scaleV hiV
  rw [wrap64_id (n := n) (by omega), wrap64_id (n := m) (by omega), wrap64_id (n := n * m) (by omega), wrap64_id (n := n * m + 1073741824) (by omega)]
  by_cases h0 : s ≥ 0
  · rw [if_pos h0]
    simp only [Option.bind_some, decide_eq_true_eq]
    by_cases h31 : s ≤ 31
    · rw [if_pos h31, if_neg (show ¬ (s < 0 ∨ 31 < s) by omega)]
      by_cases hz : s = 0
      · rw [if_pos hz, if_pos hz]
      · rw [if_neg hz, if_neg hz, wrap64_id (n := s - 1) (by omega), if_pos (by omega), if_pos (by omega), shl32 (by omega) (by omega)]
        unfold shr
        rw [Nat.min_eq_left (show s.toNat ≤ IntKind.i32.bits by show s.toNat ≤ 32; omega)]
    · rw [if_neg h31, if_pos (show s < 0 ∨ 31 < s by omega)]
  · rw [if_neg h0, if_pos (show s < 0 ∨ 31 < s by omega)]
    simp
theorem ref_wrap (n : Int) : pintleref20_wrap.f n = some (wrap32 n) := by
  unfold pintleref20_wrap.f pintleref01_Word.f pintleref01_Signed.f
  simp only [Option.bind_some]
  have e : IntKind.u64.wrap n = n % 18446744073709551616 := by simp [IntKind.wrap, IntKind.bits, IntKind.signed]
  rw [e, Int.tmod_eq_emod_of_nonneg (by omega)]
  have e2 : n % 18446744073709551616 % 4294967296 % 4294967296 = n % 4294967296 := by omega
  rw [e2]
  split
  · simp only [Option.bind_some, Option.some.injEq]; unfold wrap64 wrap32; omega
  · simp only [Option.bind_some, Option.some.injEq]; unfold wrap64 wrap32; omega
theorem ref_floor {n s : Int} (h0 : 0 ≤ s) (h : s ≤ 62) (hn : -9223372036854775807 ≤ n ∧ n ≤ 9223372036854775807) : pintleref20_floor.f n s = some (n / 2 ^ s.toNat) := by
  unfold pintleref20_floor.f
  have hp := two_pow_pos s.toNat
  rw [u64_id h0 (by omega), if_pos h0, shl64 h0 h, if_neg (by omega)]
  have hf := floor_div (n := n) hp
  have h1 := Int.mul_tdiv_add_tmod n (2 ^ s.toNat)
  have hq : (Int.tdiv n (2 ^ s.toNat)).natAbs ≤ n.natAbs := by
    rw [Int.natAbs_tdiv]; exact Nat.div_le_self _ _
  rw [wrap64_id (n := Int.tdiv n (2 ^ s.toNat)) (by omega), wrap64_id (n := Int.tdiv n (2 ^ s.toNat) - 1) (by omega)]
  rw [← hf]
  split <;> rfl
theorem ref_scale {n m s : Int} (hn : -2147483648 ≤ n ∧ n ≤ 2147483647) (hm : -2147483648 ≤ m ∧ m ≤ 2147483647) (k : Nat) : pintleref20_Scale.f (k + 1) n m s = some (scaleV n m s) := by
  have hb := mul_bound hn hm
  unfold pintleref20_Scale.f scaleV
  by_cases h0 : s < 0
  · rw [if_pos h0, if_pos (Or.inl h0)]; simp only [pintleref20_Scale.j0]; simp
  · rw [if_neg h0]
    simp only [pintleref20_Scale.j0]
    by_cases h31 : s > 31
    · rw [if_pos (by simpa using h31), if_pos (show s < 0 ∨ 31 < s by omega)]
    · rw [if_neg (by simpa using h31), if_neg (show ¬ (s < 0 ∨ 31 < s) by omega)]
      rw [wrap64_id (n := n) (by omega), wrap64_id (n := m) (by omega), wrap64_id (n := n * m) (by omega), wrap64_id (n := n * m + 1073741824) (by omega)]
      rw [ref_floor (by omega) (by omega) (by omega)]
      simp only [Option.bind_some, ref_wrap]
      have hh : wrap32 ((n * m + 1073741824) / 2 ^ (31 : Int).toNat) = hiV n m := rfl
      rw [hh]
      have hi := wrap32_in ((n * m + 1073741824) / 2147483648)
      have hi' : -2147483648 ≤ hiV n m ∧ hiV n m ≤ 2147483647 := hi
      by_cases hz : s = 0
      · rw [if_neg (by omega), if_pos hz, wrap32_id hi']
      · rw [if_pos (by omega), if_neg hz, wrap64_id (n := s - 1) (by omega), u64_id (by omega) (by omega), if_pos (by omega), shl64 (by omega) (by omega)]
        have hp := two_pow_pos (s - 1).toNat
        have hq := pow_bound (s := s - 1) (by omega)
        rw [wrap64_id (n := hiV n m + 2 ^ (s - 1).toNat) (by omega)]
        have hw := wrap32_in (hiV n m + 2 ^ (s - 1).toNat)
        rw [ref_floor (by omega) (by omega) (by omega)]
        simp only [Option.bind_some]
        rw [wrap32_id (div_bounds (by have := two_pow_pos s.toNat; omega) hw)]
theorem lives_true : pintlelaw20_lives.f 2 = some true := by decide +kernel
theorem lives_any (k : Nat) : pintlelaw20_lives.f (k + 2) = some true := at_rounds (g := pintlelaw20_lives.f) pintlelaw20_lives.mono (by omega) lives_true
theorem QuantScales : pintlelaw20_QuantScales.Pure := by
  intro n m x hn hm hx
  obtain ⟨hs, hz, hl, hh⟩ := hx
  have hn := i32_of hn
  have hm := i32_of hm
  have hz := i32_of hz
  generalize x.f0 = s at *
  generalize x.f1 = z at *
  generalize x.f2 = lo at *
  generalize x.f3 = hi at *
  refine ⟨5, ?_⟩
  unfold pintlelaw20_QuantScales.f quant_Scale.f quant_Clamp.f quant_Byte.f pintleref20_Byte.f
  rw [prog_scale hn hm, ref_scale hn hm 4]
  simp only [Option.bind_some]
  rw [if_pos True.intro]
  have hc : ∀ a, quant_clamp.f a lo hi = pintleref20_Clamp.f a lo hi := fun a => rfl
  have hcs : ∀ a, ∃ r, pintleref20_Clamp.f a lo hi = some r := fun a => by unfold pintleref20_Clamp.f; split; exact ⟨_, rfl⟩; split <;> exact ⟨_, rfl⟩
  rw [hc]
  obtain ⟨r, hr⟩ := hcs n
  rw [hr]
  simp only [Option.bind_some]
  rw [if_pos True.intro]
  have ha : num_Alu.f 5 1 (scaleV n m s % 4294967296) (z % 4294967296) = some ((scaleV n m s + z) % 4294967296, true) := by
    unfold num_Alu.f
    rw [if_neg (by omega)]
    simp only [num_Alu.j0, num_plain.f]
    rw [if_neg (by simp), if_pos (by omega), if_pos True.intro]
    simp only [Option.bind_some, Option.some.injEq, Prod.mk.injEq, and_true]
    omega
  rw [ha]
  unfold num_Signed.f
  simp only [Option.bind_some, ref_wrap]
  have hsc := scaleV_in n m s
  have e : wrap32 ((scaleV n m s + z) % 4294967296) = wrap32 (wrap32 (wrap64 (wrap64 (scaleV n m s) + wrap64 z))) := by
    rw [wrap64_id (n := scaleV n m s) (by omega), wrap64_id (n := z) (by omega), wrap64_id (n := scaleV n m s + z) (by omega)]
    unfold wrap32
    omega
  rw [e, hc]
  obtain ⟨r2, hr2⟩ := hcs (wrap32 (wrap32 (wrap64 (wrap64 (scaleV n m s) + wrap64 z))))
  rw [hr2]
  simp only [Option.bind_some]
  rw [if_pos True.intro, lives_any 3]
  rfl
theorem scaleV_mono {a b m s : Int} (h0 : 0 ≤ m) (hm : m ≤ 2147483647) (ha : -1073741824 ≤ a ∧ a ≤ 1073741824) (hb : -1073741824 ≤ b ∧ b ≤ 1073741824) (hs : 0 ≤ s ∧ s ≤ 15) (h : a ≤ b) : scaleV a m s ≤ scaleV b m s := by
  have hpa := mul_bound (n := a) (m := m) (by omega) (by omega)
  have hmul : a * m ≤ b * m := Int.mul_le_mul_of_nonneg_right h h0
  have hlo : -1073741824 * m ≤ a * m := Int.mul_le_mul_of_nonneg_right ha.1 h0
  have hhi : b * m ≤ 1073741824 * m := Int.mul_le_mul_of_nonneg_right hb.2 h0
  have e : ∀ c : Int, -1073741824 * m ≤ c * m → c * m ≤ 1073741824 * m → hiV c m = (c * m + 1073741824) / 2147483648 ∧ -1073741825 ≤ hiV c m ∧ hiV c m ≤ 1073741825 := by
    intro c h1 h2
    have : -1073741825 ≤ (c * m + 1073741824) / 2147483648 ∧ (c * m + 1073741824) / 2147483648 ≤ 1073741825 := by omega
    have e2 : hiV c m = (c * m + 1073741824) / 2147483648 := by unfold hiV; exact wrap32_id (by omega)
    rw [e2]; exact ⟨rfl, this⟩
  obtain ⟨ea, a1, a2⟩ := e a hlo (by omega)
  obtain ⟨eb, b1, b2⟩ := e b (by omega) hhi
  have hle : hiV a m ≤ hiV b m := by rw [ea, eb]; omega
  unfold scaleV
  have hc : ¬ (s < 0 ∨ 31 < s) := by omega
  rw [if_neg hc, if_neg hc]
  by_cases hz : s = 0
  · rw [if_pos hz, if_pos hz]; exact hle
  · rw [if_neg hz, if_neg hz]
    have hp := two_pow_pos (s - 1).toNat
    have hq : (2 : Int) ^ (s - 1).toNat ≤ 16384 := by
      have := two_pow_le (show (s - 1).toNat ≤ 14 by omega)
      rwa [show (2 : Int) ^ 14 = 16384 from rfl] at this
    rw [wrap32_id (n := hiV a m + 2 ^ (s - 1).toNat) (by omega), wrap32_id (n := hiV b m + 2 ^ (s - 1).toNat) (by omega)]
    exact Int.ediv_le_ediv (two_pow_pos _) (by omega)
theorem and15_64 (x : Int) : 0 ≤ bits .and .i64 x 15 ∧ bits .and .i64 x 15 ≤ 15 := by
  have h : (BitVec.ofInt 64 x &&& 15#64).toNat ≤ 15 := by
    rw [BitVec.toNat_and]
    exact Nat.and_le_right
  have e : bits .and .i64 x 15 = IntKind.i64.wrap ((BitVec.ofInt 64 x &&& 15#64).toNat : Int) := rfl
  rw [e, IntKind.wrap_i64]
  omega
theorem QuantOrder : pintlelaw20_QuantOrder.Pure := by
  intro a b x ha hb hx
  obtain ⟨hm, hs⟩ := hx
  have ha := i32_of ha
  have hb := i32_of hb
  have hm := i32_of hm
  generalize x.f0 = m at *
  generalize x.f1 = s0 at *
  refine ⟨5, ?_⟩
  have hs' := and15_64 s0
  unfold pintlelaw20_QuantOrder.f
  generalize bits .and .i64 s0 15 = s at *
  have hj : ∀ b', b' = true → pintlelaw20_QuantOrder.j0 5 a b m s b' = some true := fun b' hb' => by
    simp only [pintlelaw20_QuantOrder.j0]; rw [if_pos hb', lives_any 2]; rfl
  by_cases h1 : m < 0
  · rw [if_pos h1]; exact hj _ rfl
  rw [if_neg h1]
  by_cases h2 : a > 1073741824
  · rw [if_pos h2]; exact hj _ rfl
  rw [if_neg h2]
  by_cases h3 : b > 1073741824
  · rw [if_pos h3]; exact hj _ rfl
  rw [if_neg h3]
  by_cases h4 : a < -1073741824
  · rw [if_pos h4]; exact hj _ rfl
  rw [if_neg h4]
  by_cases h5 : b < -1073741824
  · exact hj _ (by simpa using h5)
  simp only [pintlelaw20_QuantOrder.j0]
  rw [if_neg (by simpa using h5)]
  unfold quant_Scale.f
  rw [prog_scale ha hm, prog_scale hb hm]
  simp only [Option.bind_some]
  have hle : a ≤ b → scaleV a m s ≤ scaleV b m s := scaleV_mono (by omega) (by omega) (by omega) (by omega) hs'
  have hge : b ≤ a → scaleV b m s ≤ scaleV a m s := scaleV_mono (by omega) (by omega) (by omega) (by omega) hs'
  rw [lives_any 2]
  by_cases h6 : a > b
  · rw [if_pos h6, if_neg (by omega), if_pos (hge (by omega))]; rfl
  · rw [if_neg h6, if_pos (hle (by omega))]
    by_cases h7 : b > a
    · rw [if_pos h7]; rfl
    · rw [if_neg h7, if_pos (hge (by omega))]; rfl
end Go.Proofs.Ytahegimfdbapeaa.Quant
