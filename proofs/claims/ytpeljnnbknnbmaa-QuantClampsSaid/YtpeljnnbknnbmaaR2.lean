import Derived.Test.YtpeljnnbknnbmaaR1
import Derived.Outline
import Derived.Deep.RegionHeld3
import Derived.Deep.OwnRows
import Derived.Laws.CopyOwn
import Derived.Lib.SliceRun
import Derived.RegionTactic
import Derived.BigRegion
namespace Go.Proofs.Ytpeljnnbknnbmaa.PA
open Go.RowKit Go.Proofs.YtpeljnnbknnbmaaW.PrintWords Go.Proofs.YtpeljnnbknnbmaaW.PrintLast Go.Proofs.YtpeljnnbknnbmaaW.PrintMore
set_option linter.unusedVariables false
set_option linter.unusedSimpArgs false
/-- which of the document's operations a step is -/
def opsT : List Int := [0, 0, 0, 1, 2, 11, 12, 10, 9, 6, 4, 5, 16, 1, 3, 7, 8]
def aluR (op a b : Int) : Int := ((pintleref01_Alu.f 33 op a b).getD (0, false)).1
/-- what a step of two variables, or of a variable and a number, reckons -/
def aluS (V : List Int) (op a b imm : Int) : Int := aluR (rd opsT op) (rd V a) (if 13 ≤ op then imm % 4294967296 else rd V b)
theorem ops_at (op : Nat) (h : op < 17) : (#[Value.int IntKind.i64 0, Value.int IntKind.i64 0, Value.int IntKind.i64 0, Value.int IntKind.i64 1,
      Value.int IntKind.i64 2, Value.int IntKind.i64 11, Value.int IntKind.i64 12, Value.int IntKind.i64 10,
      Value.int IntKind.i64 9, Value.int IntKind.i64 6, Value.int IntKind.i64 4, Value.int IntKind.i64 5,
      Value.int IntKind.i64 16, Value.int IntKind.i64 1, Value.int IntKind.i64 3, Value.int IntKind.i64 7,
      Value.int IntKind.i64 8] : Array Value)[op]? = some (.int .i64 (rd opsT op)) := by
  have : ∀ k : Fin 17, (#[Value.int IntKind.i64 0, Value.int IntKind.i64 0, Value.int IntKind.i64 0, Value.int IntKind.i64 1,
      Value.int IntKind.i64 2, Value.int IntKind.i64 11, Value.int IntKind.i64 12, Value.int IntKind.i64 10,
      Value.int IntKind.i64 9, Value.int IntKind.i64 6, Value.int IntKind.i64 4, Value.int IntKind.i64 5,
      Value.int IntKind.i64 16, Value.int IntKind.i64 1, Value.int IntKind.i64 3, Value.int IntKind.i64 7,
      Value.int IntKind.i64 8] : Array Value)[k.val]? = some (.int .i64 (rd opsT (k.val : Int))) := by
    intro k
    rcases k with ⟨k, hk⟩
    match k, hk with
    | 0, _ => rfl
    | 1, _ => rfl
    | 2, _ => rfl
    | 3, _ => rfl
    | 4, _ => rfl
    | 5, _ => rfl
    | 6, _ => rfl
    | 7, _ => rfl
    | 8, _ => rfl
    | 9, _ => rfl
    | 10, _ => rfl
    | 11, _ => rfl
    | 12, _ => rfl
    | 13, _ => rfl
    | 14, _ => rfl
    | 15, _ => rfl
    | 16, _ => rfl
    | k + 17, h => exact absurd h (by omega)
  exact this ⟨op, h⟩
set_option maxHeartbeats 4000000 in
theorem one_alu (w : World) (g : Nat) (mv : Value) (V : List Int) (st fu : Int) (h : RunAt w g mv V st fu 0) (hst : 0 ≤ st) (hst2 : st < 9223372036854775807) (op d a b : Nat) (h3 : 3 ≤ op) (h16 : op ≤ 16) (hd : d < 64) (ha : a < 64) (hb : b < 64) (imm : Int)
    (hs : (pintleref01_Alu.f 33 (rd opsT op) (rd V a) (if 13 ≤ (op : Int) then imm % 4294967296 else rd V b)).isSome = true) :
    Calls Try.prog 66 #[.pointer (some ⟨g, 0, none⟩), .agg #[.int .i64 op, .int .i64 d, .int .i64 a, .int .i64 b, .int .i32 imm]] w (OneTold w g mv (V.set d (aluS V op a b imm)) (st + 1) fu 0) := by
  obtain ⟨x, bo, hx⟩ : ∃ x bo, pintleref01_Alu.f 33 (rd opsT op) (rd V a) (if 13 ≤ (op : Int) then imm % 4294967296 else rd V b) = some (x, bo) := by
    cases hc : pintleref01_Alu.f 33 (rd opsT op) (rd V a) (if 13 ≤ (op : Int) then imm % 4294967296 else rd V b) with
    | none => rw [hc] at hs; exact nomatch hs
    | some r => exact ⟨r.1, r.2, rfl⟩
  have hxx : aluS V op a b imm = x := by unfold aluS aluR; rw [hx]; rfl
  rw [hxx]
  clear hxx hs
  have h1 := h.gst
  have h2 := h.gtr
  have h3' := h.v d hd
  have h4 := h.v a ha
  have h5 := h.v b hb
  have hfz := h.frozen (1 + d)
  have hfz2 := h.frozen 65
  have hlt := h.lt
  have hdi : (d : Int) < 64 := by omega
  have hai : (a : Int) < 64 := by omega
  have hbi : (b : Int) < 64 := by omega
  have n1 : ¬ (1 + d = 65) := by omega
  have n2 : ¬ (1 + d = 67) := by omega
  have n3 : ¬ (65 = 1 + d) := by omega
  have n4 : ¬ (67 = 1 + d) := by omega
  have o1 : ¬ ((op : Int) = 1) := by omega
  have o2 : ¬ ((op : Int) = 2) := by omega
  have o17 : ¬ (17 ≤ (op : Int)) := by omega
  have HR := Aside0.mk h
  clear h
  by_cases h13 : 13 ≤ (op : Int)
  · rw [if_pos h13] at hx
    have HX := Aside0.mk hx
    clear hx
    have hops := ops_at op (by omega)
    go_enter Try.func66, Try.ntmps66
    go_wp2
    go_quiet (fail)
    go_wp2
    go_quiet (first | (go_at_call 90; (with_reducible refine (pintleref01_Alu.calls 33 _ _ _ x bo _ HX.out).mono ?_); rintro e w' ⟨rfl, ⟨nd, rfl⟩⟩; (try first | exact ⟨rfl, _, World.drewN_drewN _ _ _⟩ | exact ⟨rfl, _, Eq.trans (World.drewN_drewN _ _ _) (congrArg (World.drewN _) (Nat.add_assoc _ _ _))⟩)))
    go_wp2
    go_region
    go_wp2
    go_end0
    exact ⟨rfl, RunAt.setSt (RunAt.setV (RunAt.drewN (RunAt.alloc (RunAt.alloc HR.out _) _) _) d hd _) _, by repeat (first | exact Keep.refl _ _ | apply Keep.drew | apply Keep.drewN | apply Keep.alloc | apply Keep.setG)⟩
  · rw [if_neg h13] at hx
    have HX := Aside0.mk hx
    clear hx
    have hops := ops_at op (by omega)
    go_enter Try.func66, Try.ntmps66
    go_wp2
    go_quiet (fail)
    go_wp2
    go_quiet (first | (go_at_call 90; (with_reducible refine (pintleref01_Alu.calls 33 _ _ _ x bo _ HX.out).mono ?_); rintro e w' ⟨rfl, ⟨nd, rfl⟩⟩; (try first | exact ⟨rfl, _, World.drewN_drewN _ _ _⟩ | exact ⟨rfl, _, Eq.trans (World.drewN_drewN _ _ _) (congrArg (World.drewN _) (Nat.add_assoc _ _ _))⟩)))
    go_wp2
    go_region
    go_wp2
    go_end0
    exact ⟨rfl, RunAt.setSt (RunAt.setV (RunAt.drewN (RunAt.alloc (RunAt.alloc HR.out _) _) _) d hd _) _, by repeat (first | exact Keep.refl _ _ | apply Keep.drew | apply Keep.drewN | apply Keep.alloc | apply Keep.setG)⟩
/-- what a plain step does to the variables -/
def stepV (x : S49) (V : List Int) : List Int :=
  if x.f0 = 1 then V.set x.f1.toNat (x.f4 % 4294967296) else if x.f0 = 2 then V.set x.f1.toNat (rd V x.f2) else V.set x.f1.toNat (aluS V x.f0 x.f2 x.f3 x.f4)
structure PlainOk (x : S49) : Prop where
  o1 : 1 ≤ x.f0
  o2 : x.f0 ≤ 16
  d : 0 ≤ x.f1 ∧ x.f1 < 64
  a : 0 ≤ x.f2 ∧ x.f2 < 64
  b : 0 ≤ x.f3 ∧ x.f3 < 64
/-- all operations tell something -/
def AluAll : Prop := ∀ op : Nat, 3 ≤ op → op ≤ 16 → ∀ a b : Int, U32 a → U32 b → ∃ x, pintleref01_Alu.f 33 (rd opsT op) a b = some (x, true) ∧ U32 x
theorem ops_in (op : Nat) (h3 : 3 ≤ op) (h16 : op ≤ 16) : (1 ≤ rd opsT op ∧ rd opsT op ≤ 12) ∨ rd opsT op = 16 := by
  have : ∀ k : Fin 17, 3 ≤ k.val → (1 ≤ rd opsT (k.val : Int) ∧ rd opsT (k.val : Int) ≤ 12) ∨ rd opsT (k.val : Int) = 16 := by decide
  exact this ⟨op, by omega⟩ h3
theorem aluAll : AluAll := fun op h3 h16 a b ha hb => ⟨docAlu (rd opsT op) a b, (alu_eq (ops_in op h3 h16) ha hb).1, (alu_eq (ops_in op h3 h16) ha hb).2⟩
theorem aluR_eq {op a b : Int} (ho : (1 ≤ op ∧ op ≤ 12) ∨ op = 16) (ha : U32 a) (hb : U32 b) : aluR op a b = docAlu op a b := by
  unfold aluR; rw [(alu_eq ho ha hb).1]; rfl
theorem one_plain (hA : AluAll) (w : World) (g : Nat) (mv : Value) (V : List Int) (st fu : Int) (h : RunAt w g mv V st fu 0) (hV : ∀ x ∈ V, U32 x) (hl : V.length = 64) (hst : 0 ≤ st) (hst2 : st < 9223372036854775807) (x : S49) (hx : PlainOk x) :
    Calls Try.prog 66 #[.pointer (some ⟨g, 0, none⟩), .agg #[.int .i64 x.f0, .int .i64 x.f1, .int .i64 x.f2, .int .i64 x.f3, .int .i32 x.f4]] w (OneTold w g mv (stepV x V) (st + 1) fu 0) := by
  obtain ⟨o1, o2, hd, ha, hb⟩ := hx
  obtain ⟨o, d, a, b, i⟩ := x
  simp only at o1 o2 hd ha hb ⊢
  obtain ⟨o, rfl⟩ : ∃ n : Nat, o = n := ⟨o.toNat, by omega⟩
  obtain ⟨d, rfl⟩ : ∃ n : Nat, d = n := ⟨d.toNat, by omega⟩
  obtain ⟨a, rfl⟩ : ∃ n : Nat, a = n := ⟨a.toNat, by omega⟩
  obtain ⟨b, rfl⟩ : ∃ n : Nat, b = n := ⟨b.toNat, by omega⟩
  have hrd : ∀ k : Nat, k < 64 → U32 (rd V k) := fun k hk => by
    have : rd V (k : Int) = V[k]'(by omega) := by
      unfold rd
      rw [Int.toNat_natCast, List.getD_eq_getElem?_getD, List.getElem?_eq_getElem (by omega)]; rfl
    rw [this]; exact hV _ (List.getElem_mem _)
  unfold stepV
  simp only [Int.toNat_natCast]
  by_cases e1 : o = 1
  · subst e1
    rw [if_pos (show ((1 : Nat) : Int) = 1 from rfl)]
    exact one_set w g mv V st fu h hst hst2 d (by omega) _ _ _
  · by_cases e2 : o = 2
    · subst e2
      rw [if_neg (by omega), if_pos (show ((2 : Nat) : Int) = 2 from rfl)]
      exact one_move w g mv V st fu h hst hst2 d a (by omega) (by omega) _ _
    · rw [if_neg (by omega), if_neg (by omega)]
      refine one_alu w g mv V st fu h hst hst2 o d a b (by omega) (by omega) (by omega) (by omega) (by omega) i ?_
      have hb2 : U32 (if 13 ≤ (o : Int) then i % 4294967296 else rd V b) := by
        split
        · exact ⟨by omega, by omega⟩
        · exact hrd b (by omega)
      obtain ⟨y, hy, _⟩ := hA o (by omega) (by omega) (rd V a) _ (hrd a (by omega)) hb2
      rw [hy]; rfl
end Go.Proofs.Ytpeljnnbknnbmaa.PA
