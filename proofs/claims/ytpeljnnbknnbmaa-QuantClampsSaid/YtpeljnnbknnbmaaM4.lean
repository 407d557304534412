import Derived.Test.YtpeljnnbknnbmaaM3
namespace Go.Proofs.Ytpeljnnbknnbmaa.PA
open Go.RowKit Go.Proofs.YtpeljnnbknnbmaaW.PrintWords Go.Proofs.YtpeljnnbknnbmaaW.PrintLast Go.Proofs.YtpeljnnbknnbmaaW.PrintMore
set_option linter.unusedVariables false
set_option linter.unusedSimpArgs false
theorem div_bounds {x p : Int} (hp : 1 ≤ p) (h : -2147483648 ≤ x ∧ x ≤ 2147483647) : -2147483648 ≤ x / p ∧ x / p ≤ 2147483647 := by
  constructor
  · refine Int.le_ediv_of_mul_le (by omega) ?_
    omega
  · have : x / p < 2147483648 := Int.ediv_lt_of_lt_mul (by omega) (by omega)
    omega
def hiV (n m : Int) : Int := wrap32 ((n * m + 1073741824) / 2147483648)
def scaleV (n m s : Int) : Int := if s < 0 ∨ 31 < s then 0 else if s = 0 then hiV n m else wrap32 (hiV n m + 2 ^ (s - 1).toNat) / 2 ^ s.toNat
theorem scaleV_in (n m s : Int) : -2147483648 ≤ scaleV n m s ∧ scaleV n m s ≤ 2147483647 := by
  unfold scaleV
  split
  · omega
  · split
    · exact wrap32_in _
    · exact div_bounds (by have := two_pow_pos s.toNat; omega) (wrap32_in _)
theorem shl32 {s : Int} (h0 : 0 ≤ s) (h : s ≤ 30) : shl .i32 1 s = 2 ^ s.toNat := by
  unfold shl
  rw [Nat.min_eq_left (show s.toNat ≤ IntKind.i32.bits by show s.toNat ≤ 32; omega), Int.one_mul, IntKind.wrap_i32]
  have h1 := two_pow_le (show s.toNat ≤ 30 by omega)
  have h2 := two_pow_pos s.toNat
  rw [show (2 : Int) ^ 30 = 1073741824 from rfl] at h1
  omega
theorem pow_bound {s : Int} (h : s ≤ 31) : (2 : Int) ^ s.toNat ≤ 2147483648 := by
  have h1 := two_pow_le (show s.toNat ≤ 31 by omega)
  rwa [show (2 : Int) ^ 31 = 2147483648 from rfl] at h1
theorem ref_wrap (n : Int) : pintleref20_wrap.f n = some (wrap32 n) := by
  unfold pintleref20_wrap.f pintleref01_Word.f pintleref01_Signed.f
  simp only [Option.bind_some]
  have e : IntKind.u64.wrap n = n % 18446744073709551616 := by simp [IntKind.wrap, IntKind.bits, IntKind.signed]
  rw [e, Int.tmod_eq_emod_of_nonneg (by omega)]
  have e2 : n % 18446744073709551616 % 4294967296 % 4294967296 = n % 4294967296 := by omega
  rw [e2]
  split
  · simp only [Option.bind_some, Option.some.injEq]; unfold wrap64 wrap32; omega
  · simp only [Option.bind_some, Option.some.injEq]; unfold wrap64 wrap32; omega
theorem ref_floor {n s : Int} (h0 : 0 ≤ s) (h : s ≤ 62) (hn : -9223372036854775807 ≤ n ∧ n ≤ 9223372036854775807) : pintleref20_floor.f n s = some (n / 2 ^ s.toNat) := by
  unfold pintleref20_floor.f
  have hp := two_pow_pos s.toNat
  rw [u64_id h0 (by omega), if_pos h0, shl64 h0 h, if_neg (by omega)]
  have hf := floor_div (n := n) hp
  have h1 := Int.mul_tdiv_add_tmod n (2 ^ s.toNat)
  have hq : (Int.tdiv n (2 ^ s.toNat)).natAbs ≤ n.natAbs := by
    rw [Int.natAbs_tdiv]; exact Nat.div_le_self _ _
  rw [wrap64_id (n := Int.tdiv n (2 ^ s.toNat)) (by omega), wrap64_id (n := Int.tdiv n (2 ^ s.toNat) - 1) (by omega)]
  rw [← hf]
  split <;> rfl
theorem ref_scale {n m s : Int} (hn : -2147483648 ≤ n ∧ n ≤ 2147483647) (hm : -2147483648 ≤ m ∧ m ≤ 2147483647) (k : Nat) : pintleref20_Scale.f (k + 1) n m s = some (scaleV n m s) := by
  have hb := mul_bound hn hm
  unfold pintleref20_Scale.f scaleV
  by_cases h0 : s < 0
  · rw [if_pos h0, if_pos (Or.inl h0)]; simp only [pintleref20_Scale.j0]; simp
  · rw [if_neg h0]
    simp only [pintleref20_Scale.j0]
    by_cases h31 : s > 31
    · rw [if_pos (by simpa using h31), if_pos (show s < 0 ∨ 31 < s by omega)]
    · rw [if_neg (by simpa using h31), if_neg (show ¬ (s < 0 ∨ 31 < s) by omega)]
      rw [wrap64_id (n := n) (by omega), wrap64_id (n := m) (by omega), wrap64_id (n := n * m) (by omega), wrap64_id (n := n * m + 1073741824) (by omega)]
      rw [ref_floor (by omega) (by omega) (by omega)]
      simp only [Option.bind_some, ref_wrap]
      have hh : wrap32 ((n * m + 1073741824) / 2 ^ (31 : Int).toNat) = hiV n m := rfl
      rw [hh]
      have hi := wrap32_in ((n * m + 1073741824) / 2147483648)
      have hi' : -2147483648 ≤ hiV n m ∧ hiV n m ≤ 2147483647 := hi
      by_cases hz : s = 0
      · rw [if_neg (by omega), if_pos hz, wrap32_id hi']
      · rw [if_pos (by omega), if_neg hz, wrap64_id (n := s - 1) (by omega), u64_id (by omega) (by omega), if_pos (by omega), shl64 (by omega) (by omega)]
        have hp := two_pow_pos (s - 1).toNat
        have hq := pow_bound (s := s - 1) (by omega)
        rw [wrap64_id (n := hiV n m + 2 ^ (s - 1).toNat) (by omega)]
        have hw := wrap32_in (hiV n m + 2 ^ (s - 1).toNat)
        rw [ref_floor (by omega) (by omega) (by omega)]
        simp only [Option.bind_some]
        rw [wrap32_id (div_bounds (by have := two_pow_pos s.toNat; omega) hw)]
theorem lives_true : pintlelaw20_lives.f 2 = some true := by decide +kernel
theorem lives_any (k : Nat) : pintlelaw20_lives.f (k + 2) = some true := at_rounds (g := pintlelaw20_lives.f) pintlelaw20_lives.mono (by omega) lives_true

theorem hiW_eq (n m : Int) : hiW (n * m) = hiV n m % 4294967296 := by unfold hiW hiV wrap32; omega
def stepsL (d a t : Nat) (m : Int) : List S49 := [⟨1, t, 0, 0, m⟩, ⟨6, (t + 1 : Nat), a, t, 0⟩, ⟨5, d, a, t, 0⟩, ⟨1, t, 0, 0, 1073741824⟩, ⟨3, d, d, t, 0⟩, ⟨11, t, d, t, 0⟩, ⟨3, (t + 1 : Nat), (t + 1 : Nat), t, 0⟩, ⟨14, (t + 1 : Nat), (t + 1 : Nat), 0, 1⟩, ⟨15, d, d, 0, 31⟩, ⟨8, d, d, (t + 1 : Nat), 0⟩]
def stepsM (d t : Nat) (s : Int) : List S49 := [⟨1, t, 0, 0, 2 ^ (s - 1).toNat⟩, ⟨3, d, d, t, 0⟩, ⟨16, d, d, 0, s⟩]
theorem stepsV_append (l r : List S49) (V : List Int) : stepsV (l ++ r) V = stepsV r (stepsV l V) := by unfold stepsV; rw [List.foldl_append]
theorem sgn_add (x y : Int) : sgn ((x % 4294967296 + y) % 4294967296) = wrap32 (x + y) := by unfold sgn wrap32; split <;> omega
theorem more_steps (d t : Nat) (n m s : Int) (hs0 : 1 ≤ s) (hs : s ≤ 31) (V : List Int) (f : Nat → Int) (vt vu : Int) (h : HT V f d t (hiW (n * m)) vt vu) :
    ∃ vt' vu', HT (stepsV (stepsM d t s) V) f d t (scaleV n m s % 4294967296) vt' vu' := by
  have hd := h.dl
  have ht := h.tl
  unfold stepsM
  simp only [stepsV_cons, stepsV_nil]
  have t1 := h.set 0 0 (2 ^ (s - 1).toNat)
  have hp := pow_bound (s := s - 1) (by omega)
  have hp0 := two_pow_pos (s - 1).toNat
  have hp1 : (2 : Int) ^ (s - 1).toNat ≤ 2 ^ 30 := two_pow_le (by omega)
  rw [show (2 : Int) ^ 30 = 1073741824 from rfl] at hp1
  rw [Int.emod_eq_of_lt (a := (2 : Int) ^ (s - 1).toNat) (by omega) (by omega)] at t1
  have t2 := (t1.reg 3 (by omega) (by omega) d d t hd .d .t 0 ((hiW (n * m) + 2 ^ (s - 1).toNat) % 4294967296) (by simp [docAlu, show rd opsT (3 : Int) = 1 from rfl])).1 rfl
  have t3 := (t2.imm 16 (by omega) (by omega) d d hd .d s (scaleV n m s % 4294967296) (by
    rw [show rd opsT ((16 : Nat) : Int) = 8 from rfl]
    simp only [docAlu]
    simp only [if_neg (show ¬ ((8 : Int) = 1) by decide), if_neg (show ¬ ((8 : Int) = 2) by decide), if_neg (show ¬ ((8 : Int) = 3) by decide), if_neg (show ¬ ((8 : Int) = 4) by decide), if_neg (show ¬ ((8 : Int) = 5) by decide), if_neg (show ¬ ((8 : Int) = 6) by decide), if_neg (show ¬ ((8 : Int) = 7) by decide), if_true]
    rw [hiW_eq, sgn_add, show s % 4294967296 % 32 = s by omega]
    unfold scaleV
    rw [if_neg (by omega), if_neg (by omega)])).1 rfl
  exact ⟨_, _, t3⟩
theorem stepsL_ok (d a t : Nat) (hd : d < 64) (ha : a < 64) (ht : t < 63) (m : Int) : ∀ x ∈ stepsL d a t m, PlainOk x := by
  intro x hx
  unfold stepsL at hx
  simp only [List.mem_cons, List.not_mem_nil, or_false] at hx
  rcases hx with rfl | rfl | rfl | rfl | rfl | rfl | rfl | rfl | rfl | rfl <;> exact ⟨by simp only; omega, by simp only; omega, by simp only; omega, by simp only; omega, by simp only; omega⟩
theorem stepsM_ok (d t : Nat) (hd : d < 64) (ht : t < 63) (s : Int) : ∀ x ∈ stepsM d t s, PlainOk x := by
  intro x hx
  unfold stepsM at hx
  simp only [List.mem_cons, List.not_mem_nil, or_false] at hx
  rcases hx with rfl | rfl | rfl <;> exact ⟨by simp only; omega, by simp only; omega, by simp only; omega, by simp only; omega, by simp only; omega⟩
theorem vars3 (a b c : Int) : quant_vars.f [a, b, c] = some (decide (0 ≤ a ∧ a < 64 ∧ 0 ≤ b ∧ b < 64 ∧ 0 ≤ c ∧ c < 64 ∧ a ≠ b ∧ b ≠ c ∧ c ≠ a)) := by
  unfold quant_vars.f
  rw [if_pos (by simp [maxLen])]
  congr 1
  simp only [varsFrom, List.mem_cons, List.not_mem_nil, or_false]
  by_cases h1 : a < 0 ∨ 64 ≤ a
  · rw [if_pos h1]; symm; apply decide_eq_false; omega
  · rw [if_neg h1]
    by_cases h2 : b < 0 ∨ 64 ≤ b ∨ b = a
    · rw [if_pos h2]; symm; apply decide_eq_false; omega
    · rw [if_neg h2]
      by_cases h3 : c < 0 ∨ 64 ≤ c ∨ c = b ∨ c = a
      · rw [if_pos h3]; symm; apply decide_eq_false; omega
      · rw [if_neg h3]; symm; apply decide_eq_true; omega
theorem refvars3 (a b c : Int) : pintleref20_vars.f a b c = some (decide (0 ≤ a ∧ a < 64 ∧ 0 ≤ b ∧ b < 64 ∧ 0 ≤ c ∧ c < 64 ∧ a ≠ b ∧ b ≠ c ∧ c ≠ a)) := by
  unfold pintleref20_vars.f
  repeat' split
  all_goals first
    | (congr 1; symm; apply decide_eq_false; omega)
    | (congr 1; rw [Bool.eq_iff_iff]; simp only [bne_iff_ne, decide_eq_true_eq]; omega)
/-- what steps there are -/
def CanP (d a t s : Int) : Prop := 0 ≤ s ∧ s ≤ 31 ∧ 0 ≤ d ∧ d < 64 ∧ 0 ≤ a ∧ a < 64 ∧ 0 ≤ t ∧ t < 63 ∧ d ≠ t ∧ d ≠ t + 1 ∧ a ≠ t ∧ a ≠ t + 1
theorem can_eq (d a t s : Int) (ht : -9223372036854775808 ≤ t ∧ t ≤ 9223372036854775807) : ∃ b, pintleref20_Can.f d a t s = some b ∧ (b = true ↔ CanP d a t s) := by
  unfold pintleref20_Can.f CanP
  simp only [refvars3, Option.bind_some]
  by_cases h1 : t < 63
  · rw [if_pos h1]
    by_cases h2 : s ≥ 0
    · rw [if_pos h2]
      by_cases h3 : s ≤ 31
      · rw [if_pos h3, wrap64_id (n := t + 1) (by omega)]
        by_cases h4 : 0 ≤ d ∧ d < 64 ∧ 0 ≤ t ∧ t < 64 ∧ 0 ≤ t + 1 ∧ t + 1 < 64 ∧ d ≠ t ∧ t ≠ t + 1 ∧ t + 1 ≠ d
        · rw [if_pos (decide_eq_true h4)]
          exact ⟨_, rfl, by rw [decide_eq_true_eq]; omega⟩
        · rw [if_neg (by simpa using h4)]
          exact ⟨_, rfl, by simp only [Bool.false_eq_true, false_iff]; omega⟩
      · rw [if_neg h3]; exact ⟨_, rfl, by simp only [Bool.false_eq_true, false_iff]; omega⟩
    · rw [if_neg h2]; exact ⟨_, rfl, by simp only [Bool.false_eq_true, false_iff]; omega⟩
  · rw [if_neg h1]; exact ⟨_, rfl, by simp only [Bool.false_eq_true, false_iff]; omega⟩
theorem steps_none (d a t m s : Int) (ht : -9223372036854775808 ≤ t ∧ t ≤ 9223372036854775807) (h : ¬ CanP d a t s) : quant_Steps.f 1 d a t m s = some [] := by
  unfold quant_Steps.f quant_good.f
  simp only [vars3, Option.bind_some]
  have hw : wrap64 (t + 1) = t + 1 ∨ (t = 9223372036854775807 ∧ wrap64 (t + 1) = -9223372036854775808) := by unfold wrap64; omega
  unfold CanP at h
  have jt : ∀ x, quant_Steps.j0 1 d a t m s x = if x = true then some [] else quant_Steps.j0 1 d a t m s x := fun x => by
    cases x
    · simp
    · simp [quant_Steps.j0]
  have jtt : quant_Steps.j0 1 d a t m s true = some [] := by simp [quant_Steps.j0]
  by_cases h1 : s ≥ 0
  · rw [if_pos h1]
    simp only [Option.bind_some]
    by_cases h2 : s ≤ 31
    · rw [if_pos (by simpa using h2)]
      by_cases h3 : 0 ≤ a ∧ a < 64 ∧ 0 ≤ t ∧ t < 64 ∧ 0 ≤ wrap64 (t + 1) ∧ wrap64 (t + 1) < 64 ∧ a ≠ t ∧ t ≠ wrap64 (t + 1) ∧ wrap64 (t + 1) ≠ a
      · rw [if_pos (decide_eq_true h3)]
        have : decide (0 ≤ d ∧ d < 64 ∧ 0 ≤ t ∧ t < 64 ∧ 0 ≤ wrap64 (t + 1) ∧ wrap64 (t + 1) < 64 ∧ d ≠ t ∧ t ≠ wrap64 (t + 1) ∧ wrap64 (t + 1) ≠ d) = false := decide_eq_false (by omega)
        rw [this]; exact jtt
      · rw [if_neg (by simpa using h3)]; exact jtt
    · rw [if_neg (by simpa using h2)]; exact jtt
  · rw [if_neg h1]
    simp only [Option.bind_some]
    exact jtt
theorem steps_some (d a t : Nat) (m s : Int) (h : CanP d a t s) : quant_Steps.f 1 d a t m s = some (if s = 0 then stepsL d a t m else stepsL d a t m ++ stepsM d t s) := by
  unfold CanP at h
  unfold quant_Steps.f quant_good.f
  have hw : wrap64 ((t : Int) + 1) = (t : Int) + 1 := wrap64_id (by omega)
  simp only [vars3, Option.bind_some, hw]
  rw [if_pos (by omega)]
  simp only [Option.bind_some]
  rw [if_pos (by simp; omega), if_pos (decide_eq_true (by omega))]
  have : decide (0 ≤ (d : Int) ∧ (d : Int) < 64 ∧ 0 ≤ (t : Int) ∧ (t : Int) < 64 ∧ 0 ≤ (t : Int) + 1 ∧ (t : Int) + 1 < 64 ∧ (d : Int) ≠ t ∧ (t : Int) ≠ (t : Int) + 1 ∧ (t : Int) + 1 ≠ d) = true := decide_eq_true (by omega)
  rw [this]
  simp only [quant_Steps.j0, hw]
  rw [if_neg (by decide)]
  have hL : ([(⟨1, t, 0, 0, m⟩ : S49), ⟨6, (t : Int) + 1, a, t, 0⟩, ⟨5, d, a, t, 0⟩, ⟨1, t, 0, 0, 1073741824⟩, ⟨3, d, d, t, 0⟩, ⟨11, t, d, t, 0⟩, ⟨3, (t : Int) + 1, (t : Int) + 1, t, 0⟩, ⟨14, (t : Int) + 1, (t : Int) + 1, 0, 1⟩, ⟨15, d, d, 0, 31⟩, ⟨8, d, d, (t : Int) + 1, 0⟩] : List S49) = stepsL d a t m := rfl
  rw [hL]
  simp only [Option.bind_some]
  by_cases hz : s = 0
  · rw [if_pos hz, if_pos hz]
  · rw [if_neg hz, if_neg hz, wrap64_id (n := s - 1) (by omega), if_pos (by omega), shl32 (by omega) (by omega), wrap32_id (by omega)]
    rw [if_pos (by simp [stepsL])]
    rfl
theorem steps_law (d a t : Nat) (m s n : Int) (h : CanP d a t s) (hn : -2147483648 ≤ n ∧ n ≤ 2147483647) (hm : -2147483648 ≤ m ∧ m ≤ 2147483647) (V : List Int) (f : Nat → Int) (hV : Holds V f) (hfa : f a = n % 4294967296) :
    ∃ l vt vu, quant_Steps.f 1 d a t m s = some l ∧ (∀ x ∈ l, PlainOk x) ∧ l.length ≤ 13 ∧ HT (stepsV l V) f d t (scaleV n m s % 4294967296) vt vu := by
  have h' := h
  unfold CanP at h'
  have e := steps_some d a t m s h
  obtain ⟨vt, vu, t10⟩ := ten_steps d a t (by omega) (by omega) (by omega) (by omega) (by omega) (by omega) (by omega) n m hn hm V f hV hfa
  have o1 := stepsL_ok d a t (by omega) (by omega) (by omega) m
  have o2 := stepsM_ok d t (by omega) (by omega) s
  by_cases hz : s = 0
  · rw [if_pos hz] at e
    refine ⟨_, vt, vu, e, o1, by simp [stepsL], ?_⟩
    have : scaleV n m s = hiV n m := by unfold scaleV; rw [if_neg (by omega), if_pos hz]
    rw [this, ← hiW_eq]; exact t10
  · rw [if_neg hz] at e
    obtain ⟨vt', vu', t13⟩ := more_steps d t n m s (by omega) (by omega) _ f vt vu t10
    refine ⟨_, vt', vu', e, fun x hx => ?_, by simp [stepsL, stepsM], ?_⟩
    · rcases List.mem_append.1 hx with hx | hx
      · exact o1 x hx
      · exact o2 x hx
    · rw [stepsV_append]; exact t13
end Go.Proofs.Ytpeljnnbknnbmaa.PA
