import Derived.Test.YtpeljnnbknnbmaaR3
import Derived.Test.YtpeljnnbknnbmaaPAx10
namespace Go.Proofs.Ytpeljnnbknnbmaa.PA
open Go.RowKit Go.Proofs.YtpeljnnbknnbmaaW.PrintWords Go.Proofs.YtpeljnnbknnbmaaW.PrintLast Go.Proofs.YtpeljnnbknnbmaaW.PrintMore
set_option linter.unusedVariables false
set_option linter.unusedSimpArgs false
/-- 64 variables that hold words -/
structure Holds (V : List Int) (f : Nat → Int) : Prop where
  len : V.length = 64
  u : ∀ x ∈ V, U32 x
  at_ : ∀ i : Nat, i < 64 → rd V i = f i
def upd (f : Nat → Int) (d : Nat) (x : Int) : Nat → Int := fun i => if i = d then x else f i
theorem upd_same (f : Nat → Int) (d : Nat) (x : Int) : upd f d x d = x := if_pos rfl
theorem upd_other (f : Nat → Int) {d i : Nat} (x : Int) (h : i ≠ d) : upd f d x i = f i := if_neg h
theorem rd_u32 {V : List Int} (hl : V.length = 64) (hu : ∀ x ∈ V, U32 x) (k : Nat) (hk : k < 64) : U32 (rd V k) := by
  have : rd V (k : Int) = V[k]'(by omega) := by
    unfold rd
    rw [Int.toNat_natCast, List.getD_eq_getElem?_getD, List.getElem?_eq_getElem (by omega)]; rfl
  rw [this]; exact hu _ (List.getElem_mem _)
theorem Holds.set {V : List Int} {f : Nat → Int} (h : Holds V f) (d : Nat) (hd : d < 64) {x : Int} (hx : U32 x) : Holds (V.set d x) (upd f d x) :=
  ⟨by simpa using h.len, mem_set h.u d hx, fun i hi => by
    rw [rd_set V d x i (by rw [h.len]; exact hd)]
    unfold upd
    by_cases e : d = i
    · rw [if_pos e, if_pos e.symm]
    · rw [if_neg e, if_neg (fun e' => e e'.symm), h.at_ i hi]⟩
theorem Holds.step1 {V : List Int} {f : Nat → Int} (h : Holds V f) (d : Nat) (hd : d < 64) (a b imm : Int) : Holds (stepV ⟨1, d, a, b, imm⟩ V) (upd f d (imm % 4294967296)) := by
  have e : stepV ⟨1, d, a, b, imm⟩ V = V.set d (imm % 4294967296) := by simp [stepV]
  rw [e]
  exact h.set d hd (u32_mod _)
theorem Holds.stepA {V : List Int} {f : Nat → Int} (h : Holds V f) (op : Nat) (h3 : 3 ≤ op) (h16 : op ≤ 16) (d a b : Nat) (hd : d < 64) (ha : a < 64) (hb : b < 64) (imm : Int) :
    Holds (stepV ⟨op, d, a, b, imm⟩ V) (upd f d (docAlu (rd opsT op) (f a) (if 13 ≤ (op : Int) then imm % 4294967296 else f b))) := by
  have e : stepV ⟨op, d, a, b, imm⟩ V = V.set d (aluS V op a b imm) := by
    unfold stepV
    rw [if_neg (by simp only; omega), if_neg (by simp only; omega)]
    simp
  have hu : U32 (if 13 ≤ (op : Int) then imm % 4294967296 else f b) := by
    split
    · exact u32_mod _
    · rw [← h.at_ b hb]; exact rd_u32 h.len h.u b hb
  have hua : U32 (f a) := by rw [← h.at_ a ha]; exact rd_u32 h.len h.u a ha
  have e2 : aluS V op a b imm = docAlu (rd opsT op) (f a) (if 13 ≤ (op : Int) then imm % 4294967296 else f b) := by
    unfold aluS
    rw [h.at_ a ha, h.at_ b hb]
    exact aluR_eq (ops_in op h3 h16) hua hu
  rw [e, e2]
  exact h.set d hd (alu_eq (ops_in op h3 h16) hua hu).2
theorem hi_or (x y : Nat) (hy : y < 2) : 2 * x ||| y = 2 * x + y := by
  have := bitF_or.step x 0 0 y (by omega) hy
  simp only [Nat.add_zero, Nat.mul_zero, Nat.zero_add, Nat.or_zero] at this
  rw [this]
  have h : y = 0 ∨ y = 1 := by omega
  rcases h with rfl | rfl <;> simp
def hiW (p : Int) : Int := (p + 1073741824) / 2147483648 % 4294967296
/-- the upper word of a product, and half of the lower one -/
theorem high_word (p L H c L' H' : Int) (hL : L = p % 4294967296) (hH : H = p / 4294967296 % 4294967296) (hL' : L' = (L + 1073741824) % 4294967296) (hc : c = if L' < 1073741824 then 1 else 0) (hH' : H' = (H + c) % 4294967296) :
    (H' * 2 % 4294967296) + L' / 2147483648 = hiW p ∧ L' / 2147483648 < 2 ∧ 0 ≤ L' / 2147483648 := by
  unfold hiW
  split at hc <;> omega
theorem or_word (A B : Int) (hA : 0 ≤ A) (hB0 : 0 ≤ B) (hB : B < 2) : (((B.toNat ||| (A * 2 % 4294967296).toNat : Nat)) : Int) = A * 2 % 4294967296 + B := by
  obtain ⟨x, hx⟩ : ∃ x : Nat, A * 2 % 4294967296 = ((2 * x : Nat) : Int) := ⟨(A % 2147483648).toNat, by omega⟩
  rw [hx, Int.toNat_natCast, Nat.or_comm, hi_or x B.toNat (by omega)]
  omega
theorem stepsV_cons (x : S49) (l : List S49) (V : List Int) : stepsV (x :: l) V = stepsV l (stepV x V) := rfl
theorem stepsV_nil (V : List Int) : stepsV [] V = V := rfl
theorem sgn_mod {n : Int} (h : -2147483648 ≤ n ∧ n ≤ 2147483647) : sgn (n % 4294967296) = n := by unfold sgn; split <;> omega
/-- three variables' numbers, all others as they were -/
structure HT (V : List Int) (f0 : Nat → Int) (d t : Nat) (vd vt vu : Int) : Prop where
  ex : ∃ f, Holds V f ∧ f d = vd ∧ f t = vt ∧ f (t + 1) = vu ∧ ∀ i : Nat, i ≠ d → i ≠ t → i ≠ t + 1 → f i = f0 i
  dl : d < 64
  tl : t < 63
  dt : d ≠ t
  du : d ≠ t + 1
/-- a variable that is one of the three, and its number -/
inductive Src (d t : Nat) (vd vt vu : Int) : Nat → Int → Prop
  | d : Src d t vd vt vu d vd
  | t : Src d t vd vt vu t vt
  | u : Src d t vd vt vu (t + 1) vu
section
variable {V : List Int} {f0 : Nat → Int} {d t : Nat} {vd vt vu : Int}
theorem HT.set (h : HT V f0 d t vd vt vu) (A B imm : Int) : HT (stepV ⟨1, t, A, B, imm⟩ V) f0 d t vd (imm % 4294967296) vu := by
  obtain ⟨⟨f, h1, h2, h3, h4, h5⟩, dl, tl, dt, du⟩ := h
  exact ⟨⟨_, h1.step1 t (by omega) A B imm, by rw [upd_other _ _ dt, h2], upd_same _ _ _, by rw [upd_other _ _ (by omega), h4], fun i a b c => by rw [upd_other _ _ b, h5 i a b c]⟩, dl, tl, dt, du⟩
theorem HT.src (h : HT V f0 d t vd vt vu) {f : Nat → Int} (h2 : f d = vd) (h3 : f t = vt) (h4 : f (t + 1) = vu) {a : Nat} {va : Int} (ha : Src d t vd vt vu a va) : f a = va ∧ a < 64 := by
  have := h.dl
  have := h.tl
  cases ha
  · exact ⟨h2, by omega⟩
  · exact ⟨h3, by omega⟩
  · exact ⟨h4, by omega⟩
/-- a step that sets one of the three out of f's own numbers -/
theorem HT.put (h : HT V f0 d t vd vt vu) {W : List Int} {k : Nat} {x : Int} (hW : ∀ f, Holds V f → f d = vd → f t = vt → f (t + 1) = vu → Holds W (upd f k x)) :
    (k = d → HT W f0 d t x vt vu) ∧ (k = t → HT W f0 d t vd x vu) ∧ (k = t + 1 → HT W f0 d t vd vt x) := by
  obtain ⟨⟨f, h1, h2, h3, h4, h5⟩, dl, tl, dt, du⟩ := h
  have h6 := hW f h1 h2 h3 h4
  refine ⟨fun e => ?_, fun e => ?_, fun e => ?_⟩ <;> subst e
  · exact ⟨⟨_, h6, upd_same _ _ _, by rw [upd_other _ _ (Ne.symm dt), h3], by rw [upd_other _ _ (Ne.symm du), h4], fun i a b c => by rw [upd_other _ _ a, h5 i a b c]⟩, dl, tl, dt, du⟩
  · exact ⟨⟨_, h6, by rw [upd_other _ _ dt, h2], upd_same _ _ _, by rw [upd_other _ _ (by omega), h4], fun i a b c => by rw [upd_other _ _ b, h5 i a b c]⟩, dl, tl, dt, du⟩
  · exact ⟨⟨_, h6, by rw [upd_other _ _ du, h2], by rw [upd_other _ _ (by omega), h3], upd_same _ _ _, fun i a b c => by rw [upd_other _ _ c, h5 i a b c]⟩, dl, tl, dt, du⟩
theorem HT.reg (h : HT V f0 d t vd vt vu) (op : Nat) (h3 : 3 ≤ op) (h12 : op ≤ 12) (k a b : Nat) {va vb : Int} (hk : k < 64) (ha : Src d t vd vt vu a va) (hb : Src d t vd vt vu b vb) (imm : Int) (x : Int) (hx : docAlu (rd opsT op) va vb = x) :
    (k = d → HT (stepV ⟨op, k, a, b, imm⟩ V) f0 d t x vt vu) ∧ (k = t → HT (stepV ⟨op, k, a, b, imm⟩ V) f0 d t vd x vu) ∧ (k = t + 1 → HT (stepV ⟨op, k, a, b, imm⟩ V) f0 d t vd vt x) :=
  h.put fun f h1 e2 e3 e4 => by
    obtain ⟨ea, la⟩ := h.src e2 e3 e4 ha
    obtain ⟨eb, lb⟩ := h.src e2 e3 e4 hb
    have := h1.stepA op h3 (by omega) k a b hk la lb imm
    rw [if_neg (by omega), ea, eb, hx] at this
    exact this
theorem HT.imm (h : HT V f0 d t vd vt vu) (op : Nat) (h13 : 13 ≤ op) (h16 : op ≤ 16) (k a : Nat) {va : Int} (hk : k < 64) (ha : Src d t vd vt vu a va) (imm : Int) (x : Int) (hx : docAlu (rd opsT op) va (imm % 4294967296) = x) :
    (k = d → HT (stepV ⟨op, k, a, 0, imm⟩ V) f0 d t x vt vu) ∧ (k = t → HT (stepV ⟨op, k, a, 0, imm⟩ V) f0 d t vd x vu) ∧ (k = t + 1 → HT (stepV ⟨op, k, a, 0, imm⟩ V) f0 d t vd vt x) :=
  h.put fun f h1 e2 e3 e4 => by
    obtain ⟨ea, la⟩ := h.src e2 e3 e4 ha
    have := h1.stepA op (by omega) h16 k a 0 hk la (by omega) imm
    rw [if_pos (by omega), ea, hx] at this
    exact this
theorem HT.u32 (h : HT V f0 d t vd vt vu) : U32 vd ∧ U32 vt ∧ U32 vu := by
  obtain ⟨⟨f, h1, h2, h3, h4, h5⟩, dl, tl, dt, du⟩ := h
  refine ⟨?_, ?_, ?_⟩
  · rw [← h2, ← h1.at_ d dl]; exact rd_u32 h1.len h1.u d dl
  · rw [← h3, ← h1.at_ t (by omega)]; exact rd_u32 h1.len h1.u t (by omega)
  · rw [← h4, ← h1.at_ (t + 1) (by omega)]; exact rd_u32 h1.len h1.u (t + 1) (by omega)
end
/-- the ten steps that come to the upper word -/
theorem ten_steps (d a t : Nat) (hd : d < 64) (ha : a < 64) (ht : t < 63) (dt : d ≠ t) (du : d ≠ t + 1) (at_ : a ≠ t) (au : a ≠ t + 1) (n m : Int) (hn : -2147483648 ≤ n ∧ n ≤ 2147483647) (hm : -2147483648 ≤ m ∧ m ≤ 2147483647)
    (V : List Int) (f : Nat → Int) (h : Holds V f) (hfa : f a = n % 4294967296) :
    ∃ vt vu, HT (stepsV [⟨1, t, 0, 0, m⟩, ⟨6, (t + 1 : Nat), a, t, 0⟩, ⟨5, d, a, t, 0⟩, ⟨1, t, 0, 0, 1073741824⟩, ⟨3, d, d, t, 0⟩, ⟨11, t, d, t, 0⟩, ⟨3, (t + 1 : Nat), (t + 1 : Nat), t, 0⟩, ⟨14, (t + 1 : Nat), (t + 1 : Nat), 0, 1⟩, ⟨15, d, d, 0, 31⟩, ⟨8, d, d, (t + 1 : Nat), 0⟩] V) f d t (hiW (n * m)) vt vu := by
  simp only [stepsV_cons, stepsV_nil]
  have s1 := h.step1 t (by omega) 0 0 m
  have s2 := s1.stepA 6 (by omega) (by omega) (t + 1) a t (by omega) ha (by omega) 0
  have s3 := s2.stepA 5 (by omega) (by omega) d a t hd ha (by omega) 0
  have o6 : rd opsT ((6 : Nat) : Int) = 12 := rfl
  have o5 : rd opsT ((5 : Nat) : Int) = 11 := rfl
  rw [if_neg (by omega), if_neg (by omega), o6, o5, upd_other _ _ (show t ≠ t + 1 by omega), upd_same, upd_other _ _ at_, upd_other _ _ au, upd_other _ _ at_, hfa] at s3
  have eH : docAlu 12 (n % 4294967296) (m % 4294967296) = n * m / 4294967296 % 4294967296 := by
    simp only [docAlu]; simp [sgn_mod hn, sgn_mod hm]
  have eL : docAlu 11 (n % 4294967296) (m % 4294967296) = n * m % 4294967296 := by
    simp only [docAlu]; simp [sgn_mod hn, sgn_mod hm]
  rw [eH, eL] at s3
  obtain ⟨p, hp⟩ : ∃ p, p = n * m := ⟨_, rfl⟩
  rw [← hp] at s3 ⊢
  have t3 : HT _ f d t (p % 4294967296) (m % 4294967296) (p / 4294967296 % 4294967296) :=
    ⟨⟨_, s3, upd_same _ _ _, by rw [upd_other _ _ (Ne.symm dt), upd_other _ _ (by omega), upd_same], by rw [upd_other _ _ (Ne.symm du), upd_same], fun i a b c => by rw [upd_other _ _ a, upd_other _ _ c, upd_other _ _ b]⟩, hd, ht, dt, du⟩
  obtain ⟨L, hL⟩ : ∃ L, L = p % 4294967296 := ⟨_, rfl⟩
  obtain ⟨H, hH⟩ : ∃ H, H = p / 4294967296 % 4294967296 := ⟨_, rfl⟩
  rw [← hL, ← hH] at t3
  have t4 := t3.set 0 0 1073741824
  have t5 := (t4.reg 3 (by omega) (by omega) d d t hd .d .t 0 ((L + 1073741824) % 4294967296) (by simp [docAlu, show rd opsT (3 : Int) = 1 from rfl])).1 rfl
  obtain ⟨L', hL'⟩ : ∃ L', L' = (L + 1073741824) % 4294967296 := ⟨_, rfl⟩
  rw [← hL'] at t5
  have t6 := (t5.reg 11 (by omega) (by omega) t d t (by omega) .d .t 0 (if L' < 1073741824 then 1 else 0) (by simp [docAlu, show rd opsT (11 : Int) = 5 from rfl])).2.1 rfl
  obtain ⟨c, hc⟩ : ∃ c : Int, c = if L' < 1073741824 then 1 else 0 := ⟨_, rfl⟩
  rw [← hc] at t6
  have t7 := (t6.reg 3 (by omega) (by omega) (t + 1) (t + 1) t (by omega) .u .t 0 ((H + c) % 4294967296) (by simp [docAlu, show rd opsT (3 : Int) = 1 from rfl])).2.2 rfl
  obtain ⟨H', hH'⟩ : ∃ H', H' = (H + c) % 4294967296 := ⟨_, rfl⟩
  rw [← hH'] at t7
  have t8 := (t7.imm 14 (by omega) (by omega) (t + 1) (t + 1) (by omega) .u 1 (H' * 2 % 4294967296) (by simp [docAlu, show rd opsT (14 : Int) = 3 from rfl])).2.2 rfl
  have t9 := (t8.imm 15 (by omega) (by omega) d d hd .d 31 (L' / 2147483648) (by simp [docAlu, show rd opsT (15 : Int) = 7 from rfl])).1 rfl
  have hw := high_word p L H c L' H' hL hH hL' hc hH'
  have t10 := (t9.reg 8 (by omega) (by omega) d d (t + 1) hd .d .u 0 (hiW p) (by
    rw [show rd opsT ((8 : Nat) : Int) = 9 from rfl]
    simp only [docAlu]
    simp only [if_neg (show ¬ ((9 : Int) = 1) by decide), if_neg (show ¬ ((9 : Int) = 2) by decide), if_neg (show ¬ ((9 : Int) = 3) by decide), if_neg (show ¬ ((9 : Int) = 4) by decide), if_neg (show ¬ ((9 : Int) = 5) by decide), if_neg (show ¬ ((9 : Int) = 6) by decide), if_neg (show ¬ ((9 : Int) = 7) by decide), if_neg (show ¬ ((9 : Int) = 8) by decide), if_true]
    rw [or_word H' (L' / 2147483648) (by omega) hw.2.2 hw.2.1, hw.1])).1 rfl
  exact ⟨_, _, t10⟩
end Go.Proofs.Ytpeljnnbknnbmaa.PA
