import Derived.Test.YtpeljnnbknnbmaaN3
import Derived.Test.YtpeljnnbknnbmaaN4
namespace Go.Proofs.Ytpeljnnbknnbmaa.PD
open Go.RowKit Go.Proofs.YtpeljnnbknnbmaaW.PrintWords Go.Proofs.YtpeljnnbknnbmaaW.PrintLast Go.Proofs.YtpeljnnbknnbmaaW.PrintMore
set_option linter.unusedVariables false
set_option linter.unusedSimpArgs false
/-- what a step without memory, that is no end of a loop, does to the variables -/
def pV (x : S49) (V : List Int) : List Int :=
  if x.f0 = 1 ∨ x.f0 = 23 then V.set x.f1.toNat (x.f4 % 4294967296)
  else if x.f0 = 2 then V.set x.f1.toNat (rd V x.f2)
  else V.set x.f1.toNat (docAlu (rd opsT x.f0) (rd V x.f2) (if 13 ≤ x.f0 then x.f4 % 4294967296 else rd V x.f3))
structure POk (x : S49) : Prop where
  o : (1 ≤ x.f0 ∧ x.f0 ≤ 16) ∨ x.f0 = 23
  d : 0 ≤ x.f1 ∧ x.f1 < 64
  a : 0 ≤ x.f2 ∧ x.f2 < 64
  b : 0 ≤ x.f3 ∧ x.f3 < 64
theorem plain_some (w : World) (g : Nat) (lv ev mv : Value) (at_ : Int) (V : List Int) (h : RnAt w g lv ev mv at_ V) (hu : ∀ x ∈ V, U32 x) (hl : V.length = 64) (x : S49) (hx : POk x) :
    Calls Try.prog 60 #[.pointer (some ⟨g, 0, none⟩), .agg #[.int .i64 x.f0, .int .i64 x.f1, .int .i64 x.f2, .int .i64 x.f3, .int .i32 x.f4]] w (PlainTold w g lv ev mv at_ (pV x V)) := by
  obtain ⟨ho, hd, ha, hb⟩ := hx
  obtain ⟨o, d, a, b, i⟩ := x
  simp only at ho hd ha hb ⊢
  obtain ⟨o, rfl⟩ : ∃ n : Nat, o = n := ⟨o.toNat, by omega⟩
  obtain ⟨d, rfl⟩ : ∃ n : Nat, d = n := ⟨d.toNat, by omega⟩
  obtain ⟨a, rfl⟩ : ∃ n : Nat, a = n := ⟨a.toNat, by omega⟩
  obtain ⟨b, rfl⟩ : ∃ n : Nat, b = n := ⟨b.toNat, by omega⟩
  unfold pV
  simp only [Int.toNat_natCast]
  by_cases e1 : (o : Int) = 1 ∨ (o : Int) = 23
  · rw [if_pos e1]
    exact plain_set w g lv ev mv at_ V h o e1 d (by omega) _ _ _
  · rw [if_neg e1]
    by_cases e2 : o = 2
    · subst e2
      rw [if_pos (show ((2 : Nat) : Int) = 2 from rfl)]
      exact plain_move w g lv ev mv at_ V h d a (by omega) (by omega) _ _
    · rw [if_neg (by omega)]
      by_cases e3 : 13 ≤ (o : Int)
      · rw [if_pos e3]
        exact plain_imm w g lv ev mv at_ V h hu hl o o rfl (by omega) (by omega) d a (by omega) (by omega) _ _
      · rw [if_neg e3]
        exact plain_reg w g lv ev mv at_ V h hu hl o (by omega) (by omega) d a b (by omega) (by omega) (by omega) _
theorem int_at {w : World} {ad : Addr} {n : Nat} {xs : List Int} (h : Kd.C (Kd.int .i64) w (some ad) n xs) (i : Nat) (hi : i < n) : w.cell? (ad.add i) = some (.int .i64 (rd xs i)) := by
  obtain ⟨ad', c, e, _, hK, hc0⟩ := Kd.C_get h (0 : Int) (i : Int) (by omega) (by omega)
  injection e with e
  subst e
  have hk : c = [.int .i64 (xs.getD i 0)] := hK
  subst hk
  have := hc0 0 _ rfl
  rw [Int.toNat_natCast] at this
  have e2 : i * (Kd.int IntKind.i64).sz + 0 = i := by show i * 1 + 0 = i; omega
  rw [e2] at this
  exact this
theorem add_blk (a : Addr) (n : Nat) : (a.add n).block = a.block := by
  unfold Addr.add
  first | rfl | (split <;> rfl)
theorem plain_end_l (w : World) (g : Nat) (la ea : Addr) (lc ec : Nat) (mv : Value) (k : Nat) (V E : List Int) (l : List S49) (hC : Kd.C k49 w (some la) l.length l) (hE : Kd.C (Kd.int .i64) w (some ea) E.length E)
    (h : RnAt w g (.slice (some la) l.length lc) (.slice (some ea) E.length ec) mv k V) (hk : k < E.length) (hf0 : 0 ≤ rd E k) (hf1 : rd E k < l.length) (hd0 : 0 ≤ (rd_T49 l (rd E k)).f1) (hd1 : (rd_T49 l (rd E k)).f1 < 64) (hg : la.block ≠ g) (x : S49) (hx : x.f0 = 24) :
    Calls Try.prog 60 #[.pointer (some ⟨g, 0, none⟩), .agg #[.int .i64 x.f0, .int .i64 x.f1, .int .i64 x.f2, .int .i64 x.f3, .int .i32 x.f4]] w
      (PlainTold w g (.slice (some la) l.length lc) (.slice (some ea) E.length ec) mv (if (rd V (rd_T49 l (rd E k)).f1 - 1) % 4294967296 = 0 then (k : Int) else rd E k) (V.set (rd_T49 l (rd E k)).f1.toNat ((rd V (rd_T49 l (rd E k)).f1 - 1) % 4294967296))) := by
  have he := int_at hE k hk
  obtain ⟨ad, e, _, e1, _, _, _⟩ := at_T49 hC (rd E k) hf0 hf1
  injection e with e
  subst e
  have hl1 := Kd.C_lt hC (by omega) (by show 0 < 5; omega)
  have hl2 := Kd.C_lt hE (by omega) (by show 0 < 1; omega)
  obtain ⟨f, hf⟩ : ∃ f : Nat, rd E k = f := ⟨(rd E k).toNat, by omega⟩
  rw [hf] at he e1 hf1 hd0 hd1 ⊢
  obtain ⟨d, hd⟩ : ∃ d : Nat, (rd_T49 l (f : Int)).f1 = d := ⟨((rd_T49 l (f : Int)).f1).toNat, by omega⟩
  rw [hd] at e1 hd1 ⊢
  rw [Int.toNat_natCast] at e1 ⊢
  rw [hx]
  exact plain_end w g la ea l.length lc E.length ec mv k f d V h hk (by omega) (by omega) he e1 (by rw [add_blk]; exact hg) (by rw [add_blk]; exact hl1) (by rw [add_blk]; exact hl2) _ _ _ _
end Go.Proofs.Ytpeljnnbknnbmaa.PD
