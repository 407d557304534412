/- What the program's sum of bytes and the document's sum of bytes reckon, as plain folds over bytes. Conditions: the bounds that are named. -/
import Derived.Test.YtkcompeflpnfhaaCrcMath
namespace Go.Proofs.Ytkcompeflpnfhaa.Crc
open Go.RowKit Go.Proofs.Ytkcompeflpnfhaa.PA Go.Proofs.YtkcompeflpnfhaaW Go.Proofs.YtkcompeflpnfhaaW.PrintWords Go.Proofs.YtkcompeflpnfhaaW.PrintMore

theorem ofInt_nat (a : Nat) (h : a < 2 ^ 32) : (BitVec.ofInt 32 (a : Int)).toNat = a := by
  rw [BitVec.toNat_ofInt]; omega
theorem bx (a b : Nat) (ha : a < 2 ^ 32) (hb : b < 2 ^ 32) : bits .xor .u32 (a : Int) (b : Int) = ((a ^^^ b : Nat) : Int) := by
  rw [bits_u32_xor, BitVec.toNat_xor, ofInt_nat a ha, ofInt_nat b hb]
theorem ba15 (a : Nat) (ha : a < 2 ^ 32) : bits .and .u32 (a : Int) 15 = ((a % 16 : Nat) : Int) := by
  rw [bits_u32_and, BitVec.toNat_and, ofInt_nat a ha]
  rw [show (BitVec.ofInt 32 15).toNat = 2 ^ 4 - 1 from rfl, Nat.and_two_pow_sub_one_eq_mod]
theorem halfV_nat (j : Nat) (h : j < 16) : halfV j = (tN 4 j : Nat) := by
  have : ∀ k : Fin 16, halfV (k.val : Int) = ((tN 4 k.val : Nat) : Int) := by decide +kernel
  exact this ⟨j, h⟩
theorem tN4_small (n : Nat) (h : n < 2 ^ 32) : n / 16 ^^^ tN 4 (n % 16) < 2 ^ 32 := by rw [tN4]; exact tN_lt 4 h
theorem half_step (n : Nat) (h : n < 2 ^ 32) : bits .xor .u32 ((n : Int) / 16) (halfV (bits .and .u32 (n : Int) 15)) = ((n / 16 ^^^ tN 4 (n % 16) : Nat) : Int) := by
  rw [ba15 n h, halfV_nat _ (by omega)]
  exact bx (n / 16) (tN 4 (n % 16)) (by omega) (tN_lt 4 (by omega))
theorem stepV_F (s c : Nat) (hs : s < 2 ^ 32) (hc : c < 256) : stepV (s : Int) (c : Int) = (F s c : Nat) := by
  unfold stepV
  rw [show ((c : Int) % 4294967296) = (c : Int) by omega, bx s c hs (by omega)]
  have h1 : s ^^^ c < 2 ^ 32 := Nat.xor_lt_two_pow hs (by omega)
  show bits .xor .u32 (bits .xor .u32 (((s ^^^ c : Nat) : Int) / 16) (halfV (bits .and .u32 ((s ^^^ c : Nat) : Int) 15)) / 16) (halfV (bits .and .u32 (bits .xor .u32 (((s ^^^ c : Nat) : Int) / 16) (halfV (bits .and .u32 ((s ^^^ c : Nat) : Int) 15))) 15)) = _
  rw [half_step _ h1, half_step _ (tN4_small _ h1)]
  rw [← F_by_halves]
theorem F_lt (s c : Nat) (hs : s < 2 ^ 32) (hc : c < 256) : F s c < 2 ^ 32 := tN_lt 8 (Nat.xor_lt_two_pow hs (by omega))
/-- bytes as natural numbers -/
def nat (l : List Int) : List Nat := l.map Int.toNat
def Bytes (l : List Int) : Prop := ∀ x ∈ l, 0 ≤ x ∧ x < 256
theorem bytes_of_wf {l : List Int} (h : ∀ x ∈ l, (Lit.int .u8 x).wf = true) : Bytes l := fun x hx => by
  have := h x hx
  simp [Lit.wf, IntKind.min, IntKind.max, IntKind.signed, IntKind.bits] at this
  omega
theorem nat_lt {l : List Int} (h : Bytes l) : ∀ x ∈ nat l, x < 256 := by
  intro x hx
  obtain ⟨y, hy, rfl⟩ := List.mem_map.1 hx
  have := h y hy
  omega
theorem foldV (l : List Int) (h : Bytes l) : ∀ s : Nat, s < 2 ^ 32 → l.foldl stepV (s : Int) = (((nat l).foldl F s : Nat) : Int) := by
  induction l with
  | nil => intro s _; rfl
  | cons c l ih =>
    intro s hs
    obtain ⟨h0, h1⟩ := h c List.mem_cons_self
    obtain ⟨m, rfl⟩ : ∃ m : Nat, c = (m : Int) := ⟨c.toNat, by omega⟩
    rw [List.foldl_cons, stepV_F s m hs (by omega), ih (fun x hx => h x (List.mem_cons_of_mem _ hx)) _ (F_lt s _ hs (by omega))]
    rfl
theorem max_nat : IntKind.u32.max = ((2 ^ 32 - 1 : Nat) : Int) := rfl
/-- the sum, on natural numbers -/
def sumN (s : Nat) (l : List Nat) : Nat := (2 ^ 32 - 1) ^^^ l.foldl F ((2 ^ 32 - 1) ^^^ s)
theorem moreV_nat (s : Nat) (hs : s < 2 ^ 32) (l : List Int) (h : Bytes l) : moreV (s : Int) l = (sumN s (nat l) : Nat) := by
  unfold moreV sumN
  have h1 : (2 ^ 32 - 1) ^^^ s < 2 ^ 32 := Nat.xor_lt_two_pow (by decide) hs
  rw [max_nat, bx _ _ (by decide) hs, foldV l h _ h1, bx _ _ (by decide) (fold_lt _ (nat_lt h) h1)]
theorem sumN_lt (s : Nat) (hs : s < 2 ^ 32) (l : List Int) (h : Bytes l) : sumN s (nat l) < 2 ^ 32 :=
  Nat.xor_lt_two_pow (by decide) (fold_lt _ (nat_lt h) (Nat.xor_lt_two_pow (by decide) hs))
theorem sumN_parts (a b : List Nat) (s : Nat) : sumN (sumN s a) b = sumN s (a ++ b) := by
  unfold sumN
  rw [← Nat.xor_assoc, Nat.xor_self, Nat.zero_xor, List.foldl_append]
/-! ### the document's -/
theorem shr_nat (a i : Nat) (hi : i ≤ 32) : shr .u32 (a : Int) (i : Int) = ((a / 2 ^ i : Nat) : Int) := by
  unfold shr
  rw [Int.toNat_natCast, Nat.min_eq_left (show i ≤ IntKind.u32.bits from hi)]
  simp
theorem xor_div (a b i : Nat) : (a ^^^ b) / 2 ^ i = a / 2 ^ i ^^^ b / 2 ^ i := by
  rw [← Nat.shiftRight_eq_div_pow, ← Nat.shiftRight_eq_div_pow, ← Nat.shiftRight_eq_div_pow, Nat.shiftRight_xor_distrib]
theorem wrapu (n : Nat) (h : n < 2 ^ 63) : IntKind.u64.wrap (n : Int) = (n : Int) := by
  simp only [IntKind.wrap, IntKind.bits, IntKind.signed]
  simp
  omega
theorem xor_l0 (a b : Nat) (ha : a < 2 ^ 32) (hb : b < 2 ^ 32) : ∀ (d k : Nat), d ≤ 32 → d < k → pintleref08_xor.l0 k (a : Int) (b : Int) (((a ^^^ b) / 2 ^ d : Nat) : Int) ((d : Int) - 1) = some ((a ^^^ b : Nat) : Int) := by
  intro d
  induction d with
  | zero =>
    intro k _ hk
    obtain ⟨k, rfl⟩ : ∃ m, k = m + 1 := ⟨k - 1, by omega⟩
    simp only [pintleref08_xor.l0]
    rw [if_neg (by omega)]
    simp
  | succ d ih =>
    intro k hd hk
    obtain ⟨k, rfl⟩ : ∃ m, k = m + 1 := ⟨k - 1, by omega⟩
    simp only [pintleref08_xor.l0]
    have e1 : ((d + 1 : Nat) : Int) - 1 = (d : Int) := by omega
    rw [e1, if_pos (by omega), wrapu d (by omega), if_pos (by omega), shr_nat a d (by omega), shr_nat b d (by omega)]
    have e2 : wrap64 ((d : Int) - 1) = (d : Int) - 1 := by unfold wrap64; omega
    rw [e2]
    have hx : (a ^^^ b) < 2 ^ 32 := Nat.xor_lt_two_pow ha hb
    have hq : (a ^^^ b) / 2 ^ d < 2 ^ 32 := Nat.lt_of_le_of_lt (Nat.div_le_self _ _) hx
    have hp : (a ^^^ b) / 2 ^ (d + 1) = (a ^^^ b) / 2 ^ d / 2 := by rw [Nat.pow_succ, Nat.div_div_eq_div_mul]
    have hm : ((a ^^^ b) / 2 ^ d) % 2 = (a / 2 ^ d + b / 2 ^ d) % 2 := by rw [xor_div, xor_mod2]
    have e3 : (((2 * (((a ^^^ b) / 2 ^ (d + 1) : Nat) : Int)) % 4294967296) + ((((((a / 2 ^ d : Nat) : Int) + ((b / 2 ^ d : Nat) : Int)) % 4294967296) % 2))) % 4294967296 = (((a ^^^ b) / 2 ^ d : Nat) : Int) := by
      rw [hp]
      generalize (a ^^^ b) / 2 ^ d = X at *
      generalize a / 2 ^ d = A at *
      generalize b / 2 ^ d = B at *
      omega
    rw [e3]
    exact ih k (by omega) (by omega)
theorem xor_f (a b k : Nat) (ha : a < 2 ^ 32) (hb : b < 2 ^ 32) (hk : 32 < k) : pintleref08_xor.f k (a : Int) (b : Int) = some ((a ^^^ b : Nat) : Int) := by
  unfold pintleref08_xor.f
  have := xor_l0 a b ha hb 32 k (by omega) hk
  rw [Nat.div_eq_of_lt (Nat.xor_lt_two_pow ha hb)] at this
  exact this
theorem rd_nat (l : List Int) (h : Bytes l) (i : Nat) (hi : i < l.length) : rd l (i : Int) = (((nat l)[i]'(by simpa [nat] using hi) : Nat) : Int) := by
  unfold rd
  rw [Int.toNat_natCast, List.getD_eq_getElem?_getD, List.getElem?_eq_getElem hi]
  have := h _ (List.getElem_mem hi)
  simp [nat]
  omega
theorem wrap_small (i : Int) (h0 : -4 ≤ i) (h : i ≤ 140737488355328) : wrap64 i = i := by unfold wrap64; omega
/-- eight steps of one bit; then the next byte -/
theorem more_l1 (l : List Int) (i : Nat) (k : Nat) (hk : 40 < k) : ∀ (d s : Nat), s < 2 ^ 32 → d ≤ 8 → pintleref08_More.l1 (k + d + 1) l (s : Int) (i : Int) (8 - (d : Int)) = pintleref08_More.l0 k l ((tN d s : Nat) : Int) (wrap64 ((i : Int) + 1)) := by
  intro d
  induction d with
  | zero =>
    intro s hs _
    simp only [pintleref08_More.l1]
    rw [if_neg (by omega)]
    rfl
  | succ d ih =>
    intro s hs hd
    simp only [pintleref08_More.l1]
    rw [if_pos (by omega)]
    have e1 : wrap64 (8 - ((d + 1 : Nat) : Int) + 1) = 8 - (d : Int) := by unfold wrap64; omega
    have e2 : Int.tmod (s : Int) 2 = ((s % 2 : Nat) : Int) := rfl
    have e3 : Int.tdiv (s : Int) 2 % 4294967296 = ((s / 2 : Nat) : Int) := by
      have : Int.tdiv (s : Int) 2 = ((s / 2 : Nat) : Int) := rfl
      rw [this]; omega
    rw [e1, e2, e3]
    by_cases h : s % 2 = 1
    · rw [if_pos (by omega), show (3988292384 : Int) = ((3988292384 : Nat) : Int) from rfl, xor_f (s / 2) 3988292384 _ (by omega) (by decide) (by omega)]
      have e4 : tN (d + 1) s = tN d (s / 2 ^^^ 3988292384) := by show tN d (t1 s) = _; unfold t1; rw [if_pos h]
      rw [e4]
      exact ih _ (Nat.xor_lt_two_pow (by omega) (by decide)) (by omega)
    · rw [if_neg (by omega)]
      have e4 : tN (d + 1) s = tN d (s / 2) := by show tN d (t1 s) = _; unfold t1; rw [if_neg h]
      rw [e4]
      exact ih _ (by omega) (by omega)
theorem more_l0 (l : List Int) (h : Bytes l) (hm : l.length ≤ 140737488355328) : ∀ (n i s k : Nat), i + n = l.length → s < 2 ^ 32 → 50 + 10 * n ≤ k → pintleref08_More.l0 k l (s : Int) (i : Int) = some (((2 ^ 32 - 1) ^^^ ((nat l).drop i).foldl F s : Nat) : Int) := by
  intro n
  induction n with
  | zero =>
    intro i s k hi hs hk
    obtain ⟨k, rfl⟩ : ∃ m, k = m + 1 := ⟨k - 1, by omega⟩
    simp only [pintleref08_More.l0]
    rw [if_neg (by omega)]
    unfold pintleref08_turned.f
    have hd : (nat l).drop i = [] := List.drop_eq_nil_of_le (by simp [nat]; omega)
    rw [hd]
    simp only [Option.bind_some, List.foldl_nil, Option.some.injEq]
    have hx : (2 ^ 32 - 1) ^^^ s = 2 ^ 32 - 1 - s := by
      have := BitVec.toNat_not (x := BitVec.ofNat 32 s)
      rw [BitVec.toNat_ofNat, Nat.mod_eq_of_lt hs] at this
      rw [← this]
      have e : ~~~ BitVec.ofNat 32 s = BitVec.allOnes 32 ^^^ BitVec.ofNat 32 s := by rw [BitVec.allOnes_xor]
      rw [e, BitVec.toNat_xor, BitVec.toNat_allOnes, BitVec.toNat_ofNat, Nat.mod_eq_of_lt hs]
    rw [hx]
    omega
  | succ n ih =>
    intro i s k hi hs hk
    obtain ⟨k, rfl⟩ : ∃ m, k = m + 8 + 1 + 1 := ⟨k - 10, by omega⟩
    have hil : i < l.length := by omega
    simp only [pintleref08_More.l0]
    rw [if_pos (by omega), if_pos (by omega), rd_nat l h i hil]
    have hb := nat_lt h _ (List.getElem_mem (show i < (nat l).length by simpa [nat] using hil))
    generalize hc : (nat l)[i]'(by simpa [nat] using hil) = c at *
    rw [show ((c : Int) % 4294967296) = (c : Int) by omega, xor_f s c _ hs (by omega) (by omega)]
    have h1 : s ^^^ c < 2 ^ 32 := Nat.xor_lt_two_pow hs (by omega)
    have := more_l1 l i k (by omega) 8 (s ^^^ c) h1 (by omega)
    simp only [Option.bind_some]
    rw [show (0 : Int) = 8 - ((8 : Nat) : Int) from rfl, this, wrap_small _ (by omega) (by omega)]
    have e := ih (i + 1) (F s c) k (by omega) (F_lt s c hs hb) (by omega)
    rw [show ((i + 1 : Nat) : Int) = (i : Int) + 1 by omega] at e
    rw [show tN 8 (s ^^^ c) = F s c from rfl, e]
    have hd : (nat l).drop i = c :: (nat l).drop (i + 1) := by
      rw [List.drop_eq_getElem_cons (by simpa [nat] using hil), hc]
    rw [hd, List.foldl_cons]
theorem ref_More (s : Nat) (hs : s < 2 ^ 32) (l : List Int) (h : Bytes l) (hm : l.length ≤ 140737488355328) (k : Nat) (hk : 50 + 10 * l.length ≤ k) : pintleref08_More.f k (s : Int) l = some ((sumN s (nat l) : Nat) : Int) := by
  unfold pintleref08_More.f pintleref08_turned.f sumN
  simp only [Option.bind_some]
  have hx : (2 ^ 32 - 1) ^^^ s = 2 ^ 32 - 1 - s := by
    have := BitVec.toNat_not (x := BitVec.ofNat 32 s)
    rw [BitVec.toNat_ofNat, Nat.mod_eq_of_lt hs] at this
    rw [← this]
    have e : ~~~ BitVec.ofNat 32 s = BitVec.allOnes 32 ^^^ BitVec.ofNat 32 s := by rw [BitVec.allOnes_xor]
    rw [e, BitVec.toNat_xor, BitVec.toNat_allOnes, BitVec.toNat_ofNat, Nat.mod_eq_of_lt hs]
  rw [show (4294967295 - (s : Int)) % 4294967296 = ((2 ^ 32 - 1 - s : Nat) : Int) by omega, ← hx]
  exact more_l0 l h hm l.length 0 _ k (by omega) (Nat.xor_lt_two_pow (by decide) hs) hk
theorem few_take (l : List Int) : pintlelaw08_few.f l = some (l.take 300) := by
  unfold pintlelaw08_few.f
  by_cases h : (l.length : Int) > 300
  · rw [if_pos h, if_pos (by omega)]
    simp only [Option.bind_some, List.nil_append, List.length_nil]
    rw [if_pos (by simp; omega)]
  · rw [if_neg h]
    simp only [Option.bind_some, List.nil_append, List.length_nil]
    rw [if_pos (by omega), List.take_of_length_le (by omega)]
theorem bytes_take {l : List Int} (h : Bytes l) (n : Nat) : Bytes (l.take n) := fun x hx => h x (List.mem_of_mem_take hx)
theorem more_some (s : Nat) (hs : s < 2 ^ 32) (l : List Int) (h : Bytes l) : crc_more.f (s : Int) l = some ((sumN s (nat l) : Nat) : Int) := by
  unfold crc_more.f; rw [moreV_nat s hs l h]
theorem CrcSums : pintlelaw08_CrcSums.Pure := by
  intro l _ _ hw
  have hb := bytes_take (bytes_of_wf hw) 300
  refine ⟨3100, ?_⟩
  unfold pintlelaw08_CrcSums.f crc_Sum.f pintlelaw08_lives.f
  rw [few_take]
  simp only [Option.bind_some]
  have e1 := more_some 0 (by decide) _ hb
  have e2 := ref_More 0 (by decide) _ hb (by simp; omega) 3100 (by simp; omega)
  rw [show ((0 : Nat) : Int) = 0 from rfl] at e1 e2
  rw [e1, e2]
  simp
theorem CrcMore : pintlelaw08_CrcMore.Pure := by
  intro s l hs _ _ hw
  have hb := bytes_take (bytes_of_wf hw) 300
  refine ⟨3100, ?_⟩
  unfold pintlelaw08_CrcMore.f crc_More.f pintlelaw08_lives.f
  rw [few_take]
  simp only [Option.bind_some]
  simp [Lit.wf, IntKind.min, IntKind.max, IntKind.signed, IntKind.bits] at hs
  obtain ⟨n, rfl⟩ : ∃ n : Nat, s = (n : Int) := ⟨s.toNat, by omega⟩
  rw [more_some n (by omega) _ hb, ref_More n (by omega) _ hb (by simp; omega) 3100 (by simp; omega)]
  simp
theorem CrcParts : pintlelaw08_CrcParts.Pure := by
  intro a b _ _ ha _ _ hb
  have ha := bytes_take (bytes_of_wf ha) 300
  have hb := bytes_take (bytes_of_wf hb) 300
  unfold pintlelaw08_CrcParts.f crc_Sum.f crc_More.f pintlelaw08_lives.f
  rw [few_take, few_take]
  simp only [Option.bind_some, List.nil_append, List.length_nil]
  have e1 := more_some 0 (by decide) _ ha
  have e2 := more_some 0 (by decide) (a.take 300 ++ b.take 300) (fun x hx => (List.mem_append.1 hx).elim (ha x) (hb x))
  rw [show ((0 : Nat) : Int) = 0 from rfl] at e1 e2
  rw [e1]
  simp only [Option.bind_some]
  rw [more_some _ (sumN_lt 0 (by decide) _ ha) _ hb]
  simp only [Option.bind_some]
  rw [if_pos (by simp; omega), if_pos (by simp; omega), e2]
  simp only [Option.bind_some]
  rw [if_pos (by rw [sumN_parts]; simp [nat])]
end Go.Proofs.Ytkcompeflpnfhaa.Crc
