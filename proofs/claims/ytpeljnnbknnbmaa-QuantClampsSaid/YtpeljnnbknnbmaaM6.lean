import Derived.Test.YtpeljnnbknnbmaaM5
namespace Go.Proofs.Ytpeljnnbknnbmaa.PA
open Go.RowKit Go.Proofs.YtpeljnnbknnbmaaW.PrintWords Go.Proofs.YtpeljnnbknnbmaaW.PrintLast Go.Proofs.YtpeljnnbknnbmaaW.PrintMore
set_option linter.unusedVariables false
set_option linter.unusedSimpArgs false
def lowL (d t : Nat) (lo : Int) : List S49 := [⟨13, t, d, 0, -lo⟩, ⟨16, (t + 1 : Nat), t, 0, 31⟩, ⟨7, t, t, (t + 1 : Nat), 0⟩, ⟨4, d, d, t, 0⟩]
def highL (d t : Nat) (hi : Int) : List S49 := [⟨13, t, d, 0, -hi⟩, ⟨16, (t + 1 : Nat), t, 0, 31⟩, ⟨7, (t + 1 : Nat), (t + 1 : Nat), t, 0⟩, ⟨4, t, t, (t + 1 : Nat), 0⟩, ⟨4, d, d, t, 0⟩]
theorem and_ones (a : Nat) (h : a < 4294967296) : a &&& 4294967295 = a := by
  have := Nat.and_two_pow_sub_one_eq_mod a 32
  rw [show 2 ^ 32 - 1 = 4294967295 from rfl] at this
  rw [this]; exact Nat.mod_eq_of_lt h
/-- bits of a word where the other one is all ones or none -/
theorem and_mask (a m : Int) (ha : U32 a) (hm : m = 0 ∨ m = 4294967295) : ((a.toNat &&& m.toNat : Nat) : Int) = if m = 0 then 0 else a := by
  obtain ⟨h1, h2⟩ := ha
  rcases hm with rfl | rfl
  · simp
  · rw [if_neg (by decide), show (4294967295 : Int).toNat = 4294967295 from rfl, and_ones _ (by omega)]
    omega
theorem docAdd (a b : Int) : docAlu (rd opsT ((13 : Nat) : Int)) a b = (a + b) % 4294967296 := by
  rw [show rd opsT ((13 : Nat) : Int) = 1 from rfl]; simp [docAlu]
theorem docSub (a b : Int) : docAlu (rd opsT ((4 : Nat) : Int)) a b = (a - b) % 4294967296 := by
  rw [show rd opsT ((4 : Nat) : Int) = 2 from rfl]; simp [docAlu]
theorem docAnd (a b : Int) : docAlu (rd opsT ((7 : Nat) : Int)) a b = ((a.toNat &&& b.toNat : Nat) : Int) := by
  rw [show rd opsT ((7 : Nat) : Int) = 10 from rfl]
  simp only [docAlu]
  simp only [if_neg (show ¬ ((10 : Int) = 1) by decide), if_neg (show ¬ ((10 : Int) = 2) by decide), if_neg (show ¬ ((10 : Int) = 3) by decide), if_neg (show ¬ ((10 : Int) = 4) by decide), if_neg (show ¬ ((10 : Int) = 5) by decide), if_neg (show ¬ ((10 : Int) = 6) by decide), if_neg (show ¬ ((10 : Int) = 7) by decide), if_neg (show ¬ ((10 : Int) = 8) by decide), if_neg (show ¬ ((10 : Int) = 9) by decide), if_true]
theorem docSar (a : Int) : docAlu (rd opsT ((16 : Nat) : Int)) a (31 % 4294967296) = sgn a / 2147483648 % 4294967296 := by
  rw [show rd opsT ((16 : Nat) : Int) = 8 from rfl]
  simp only [docAlu]
  simp only [if_neg (show ¬ ((8 : Int) = 1) by decide), if_neg (show ¬ ((8 : Int) = 2) by decide), if_neg (show ¬ ((8 : Int) = 3) by decide), if_neg (show ¬ ((8 : Int) = 4) by decide), if_neg (show ¬ ((8 : Int) = 5) by decide), if_neg (show ¬ ((8 : Int) = 6) by decide), if_neg (show ¬ ((8 : Int) = 7) by decide), if_true]
  rfl
theorem low_steps (d t : Nat) (n lo : Int) (hn : -536870912 ≤ n ∧ n ≤ 536870912) (hlo : -536870912 ≤ lo ∧ lo ≤ 536870912) (V : List Int) (f : Nat → Int) (vt vu : Int) (h : HT V f d t (n % 4294967296) vt vu) :
    ∃ vt' vu', HT (stepsV (lowL d t lo) V) f d t ((if n < lo then lo else n) % 4294967296) vt' vu' := by
  have hd := h.dl
  have ht := h.tl
  unfold lowL
  simp only [stepsV_cons, stepsV_nil]
  have t1 := (h.imm 13 (by omega) (by omega) t d (by omega) .d (-lo) ((n - lo) % 4294967296) (by rw [docAdd]; omega)).2.1 rfl
  obtain ⟨mk, hmk⟩ : ∃ mk : Int, mk = if n < lo then 4294967295 else 0 := ⟨_, rfl⟩
  have t2 := (t1.imm 16 (by omega) (by omega) (t + 1) t (by omega) .t 31 mk (by
    rw [docSar, hmk]; unfold sgn; split <;> split <;> omega)).2.2 rfl
  have t3 := (t2.reg 7 (by omega) (by omega) t t (t + 1) (by omega) .t .u 0 (if mk = 0 then 0 else (n - lo) % 4294967296) (by
    rw [docAnd, and_mask _ _ (u32_mod _) (by rw [hmk]; split <;> simp)])).2.1 rfl
  have t4 := (t3.reg 4 (by omega) (by omega) d d t hd .d .t 0 ((if n < lo then lo else n) % 4294967296) (by
    rw [docSub, hmk]; by_cases c : n < lo
    · simp only [if_pos c]; rw [if_neg (by decide)]; omega
    · simp only [if_neg c]; simp)).1 rfl
  exact ⟨_, _, t4⟩
theorem high_steps (d t : Nat) (n hi : Int) (hn : -536870912 ≤ n ∧ n ≤ 536870912) (hhi : -536870912 ≤ hi ∧ hi ≤ 536870912) (V : List Int) (f : Nat → Int) (vt vu : Int) (h : HT V f d t (n % 4294967296) vt vu) :
    ∃ vt' vu', HT (stepsV (highL d t hi) V) f d t ((if n < hi then n else hi) % 4294967296) vt' vu' := by
  have hd := h.dl
  have ht := h.tl
  unfold highL
  simp only [stepsV_cons, stepsV_nil]
  have t1 := (h.imm 13 (by omega) (by omega) t d (by omega) .d (-hi) ((n - hi) % 4294967296) (by rw [docAdd]; omega)).2.1 rfl
  obtain ⟨mk, hmk⟩ : ∃ mk : Int, mk = if n < hi then 4294967295 else 0 := ⟨_, rfl⟩
  have hm0 : mk = 0 ∨ mk = 4294967295 := by rw [hmk]; split <;> simp
  have t2 := (t1.imm 16 (by omega) (by omega) (t + 1) t (by omega) .t 31 mk (by
    rw [docSar, hmk]; unfold sgn; split <;> split <;> omega)).2.2 rfl
  have t3 := (t2.reg 7 (by omega) (by omega) (t + 1) (t + 1) t (by omega) .u .t 0 (if mk = 0 then 0 else (n - hi) % 4294967296) (by
    rw [docAnd, Nat.and_comm, and_mask _ _ (u32_mod _) hm0])).2.2 rfl
  have t4 := (t3.reg 4 (by omega) (by omega) t t (t + 1) (by omega) .t .u 0 (if mk = 0 then (n - hi) % 4294967296 else 0) (by
    rw [docSub]; split <;> simp)).2.1 rfl
  have t5 := (t4.reg 4 (by omega) (by omega) d d t hd .d .t 0 ((if n < hi then n else hi) % 4294967296) (by
    rw [docSub, hmk]; by_cases c : n < hi
    · simp only [if_pos c]; rw [if_neg (by decide)]; omega
    · simp only [if_neg c]; simp only [if_true]; omega)).1 rfl
  exact ⟨_, _, t5⟩
def BoundsP (d t lo hi : Int) : Prop := 0 ≤ d ∧ d < 64 ∧ 0 ≤ t ∧ t < 63 ∧ d ≠ t ∧ d ≠ t + 1 ∧ lo ≤ hi ∧ -536870912 ≤ lo ∧ hi ≤ 536870912
theorem bounds_eq (d t lo hi : Int) (ht : -9223372036854775808 ≤ t ∧ t ≤ 9223372036854775807) : ∃ b, pintleref20_Bounds.f d t lo hi = some b ∧ (b = true ↔ BoundsP d t lo hi) := by
  unfold pintleref20_Bounds.f BoundsP
  simp only [refvars3, Option.bind_some]
  by_cases h1 : t < 63
  · rw [if_pos h1, wrap64_id (n := t + 1) (by omega)]
    by_cases h4 : 0 ≤ d ∧ d < 64 ∧ 0 ≤ t ∧ t < 64 ∧ 0 ≤ t + 1 ∧ t + 1 < 64 ∧ d ≠ t ∧ t ≠ t + 1 ∧ t + 1 ≠ d
    · rw [if_pos (decide_eq_true h4)]
      by_cases h2 : lo ≤ hi
      · rw [if_pos h2]
        by_cases h3 : lo ≥ -536870912
        · rw [if_pos h3]; exact ⟨_, rfl, by rw [decide_eq_true_eq]; omega⟩
        · rw [if_neg h3]; exact ⟨_, rfl, by simp only [Bool.false_eq_true, false_iff]; omega⟩
      · rw [if_neg h2]; exact ⟨_, rfl, by simp only [Bool.false_eq_true, false_iff]; omega⟩
    · rw [if_neg (by simpa using h4)]; exact ⟨_, rfl, by simp only [Bool.false_eq_true, false_iff]; omega⟩
  · rw [if_neg h1]; exact ⟨_, rfl, by simp only [Bool.false_eq_true, false_iff]; omega⟩
theorem clamps_none (d t lo hi : Int) (ht : -9223372036854775808 ≤ t ∧ t ≤ 9223372036854775807) (h : ¬ BoundsP d t lo hi) : quant_Clamps.f 1 d t lo hi = some [] := by
  unfold quant_Clamps.f quant_small.f
  simp only [vars3, Option.bind_some]
  have hw : wrap64 (t + 1) = t + 1 ∨ (t = 9223372036854775807 ∧ wrap64 (t + 1) = -9223372036854775808) := by unfold wrap64; omega
  unfold BoundsP at h
  have jtt : quant_Clamps.j0 1 d t lo hi true = some [] := by simp [quant_Clamps.j0]
  by_cases h3 : 0 ≤ d ∧ d < 64 ∧ 0 ≤ t ∧ t < 64 ∧ 0 ≤ wrap64 (t + 1) ∧ wrap64 (t + 1) < 64 ∧ d ≠ t ∧ t ≠ wrap64 (t + 1) ∧ wrap64 (t + 1) ≠ d
  · rw [if_pos (decide_eq_true h3)]
    by_cases h4 : lo > hi
    · rw [if_pos h4]; exact jtt
    · rw [if_neg h4]
      by_cases h5 : lo ≥ -536870912
      · rw [if_pos h5]
        simp only [Option.bind_some]
        by_cases h6 : lo ≤ 536870912
        · rw [if_pos (decide_eq_true h6)]
          by_cases h7 : hi ≥ -536870912
          · rw [if_pos h7]
            simp only [Option.bind_some]
            rw [show decide (hi ≤ 536870912) = false from decide_eq_false (by omega)]
            exact jtt
          · omega
        · rw [if_neg (by simpa using h6)]; exact jtt
      · rw [if_neg h5]
        simp only [Option.bind_some]
        exact jtt
  · rw [if_neg (by simpa using h3)]; exact jtt
theorem clamps_some (d t : Nat) (lo hi : Int) (h : BoundsP d t lo hi) : quant_Clamps.f 1 d t lo hi = some (lowL d t lo ++ highL d t hi) := by
  unfold BoundsP at h
  unfold quant_Clamps.f quant_small.f
  have hw : wrap64 ((t : Int) + 1) = (t : Int) + 1 := wrap64_id (by omega)
  simp only [vars3, Option.bind_some, hw]
  rw [if_pos (decide_eq_true (by omega)), if_neg (by omega), if_pos (by omega)]
  simp only [Option.bind_some]
  rw [if_pos (decide_eq_true (by omega)), if_pos (by omega)]
  simp only [Option.bind_some]
  rw [show decide (hi ≤ 536870912) = true from decide_eq_true (by omega)]
  have b1 : quant_bound.f d t lo false = some (lowL d t lo) := by
    unfold quant_bound.f
    simp only [Option.bind_some, hw, wrap32_id (n := -lo) (by omega)]
    simp [lowL]
  have b2 : quant_bound.f d t hi true = some (highL d t hi) := by
    unfold quant_bound.f
    simp only [Option.bind_some, hw, wrap32_id (n := -hi) (by omega)]
    simp [highL]
  simp only [quant_Clamps.j0, b1, b2, Option.bind_some]
  rw [if_neg (by decide), if_pos (by simp [lowL, highL])]
theorem clampL_ok (d t : Nat) (hd : d < 64) (ht : t < 63) (lo hi : Int) : (∀ x ∈ lowL d t lo ++ highL d t hi, PlainOk x) ∧ (∀ x ∈ lowL d t lo ++ highL d t hi, CanB x) := by
  have d1 : (d : Int) < 64 := by omega
  have t1 : (t : Int) < 64 := by omega
  have t2 : (t : Int) + 1 < 64 := by omega
  have t3 : (0 : Int) ≤ (t : Int) + 1 := by omega
  constructor
  · intro x hx
    unfold lowL highL at hx
    simp only [List.cons_append, List.nil_append, List.mem_cons, List.not_mem_nil, or_false] at hx
    rcases hx with rfl | rfl | rfl | rfl | rfl | rfl | rfl | rfl | rfl <;> exact ⟨by simp only; omega, by simp only; omega, by simp only; omega, by simp only; omega, by simp only; omega⟩
  · intro x hx
    unfold lowL highL at hx
    simp only [List.cons_append, List.nil_append, List.mem_cons, List.not_mem_nil, or_false] at hx
    rcases hx with rfl | rfl | rfl | rfl | rfl | rfl | rfl | rfl | rfl <;>
      exact ⟨fun k => by simp [pintleref15_Can.f, pintleref15_Has.f, pintleref15_fits.f, pintleref15_Can.j0, d1, t1, t2, t3], by simp only; omega⟩
def clampV (n lo hi : Int) : Int := if n < lo then lo else if n > hi then hi else n
theorem clamps_law (d t : Nat) (lo hi n : Int) (h : BoundsP d t lo hi) (hn : -536870912 ≤ n ∧ n ≤ 536870912) (V : List Int) (f : Nat → Int) (hV : Holds V f) (hfd : f d = n % 4294967296) :
    ∃ vt vu, HT (stepsV (lowL d t lo ++ highL d t hi) V) f d t (clampV n lo hi % 4294967296) vt vu := by
  have h' := h
  unfold BoundsP at h'
  have h0 : HT V f d t (n % 4294967296) (f t) (f (t + 1)) := ⟨⟨f, hV, hfd, rfl, rfl, fun i _ _ _ => rfl⟩, by omega, by omega, by omega, by omega⟩
  obtain ⟨a, b, h1⟩ := low_steps d t n lo hn (by omega) V f _ _ h0
  obtain ⟨a', b', h2⟩ := high_steps d t (if n < lo then lo else n) hi (by split <;> omega) (by omega) _ f _ _ h1
  rw [stepsV_append]
  refine ⟨a', b', ?_⟩
  have e : clampV n lo hi = (if (if n < lo then lo else n) < hi then (if n < lo then lo else n) else hi) := by
    unfold clampV; split <;> split <;> (try split) <;> omega
  rw [e]; exact h2
theorem ref_clamp (n lo hi : Int) : pintleref20_Clamp.f n lo hi = some (clampV n lo hi) := by
  unfold pintleref20_Clamp.f clampV
  split
  · rfl
  · split <;> rfl
end Go.Proofs.Ytpeljnnbknnbmaa.PA
