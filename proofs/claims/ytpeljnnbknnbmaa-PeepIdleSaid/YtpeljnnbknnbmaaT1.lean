import Derived.Test.YtpeljnnbknnbmaaPBx0
import Derived.Outline
import Derived.Deep.RegionHeld3
import Derived.Deep.RegionLaw
import Derived.Deep.OwnRows
import Derived.Laws.CopyOwn
import Derived.Lib.SliceRun
namespace Go.Proofs.Ytpeljnnbknnbmaa.PB
open Go.RowKit Go.Proofs.YtpeljnnbknnbmaaW.PrintWords Go.Proofs.YtpeljnnbknnbmaaW.PrintLast Go.Proofs.YtpeljnnbknnbmaaW.PrintMore
set_option linter.unusedVariables false
set_option linter.unusedSimpArgs false
/-- a tidier: what it keeps, where loops begin, their counters -/
structure TidV (w : World) (base g : Nat) (out : List S49) (op vs : List Int) (A : Option Addr) (c : Nat) (A1 : Option Addr) (c1 : Nat) (A2 : Option Addr) (c2 : Nat) : Prop where
  blk : w.heap[g]? = some (.cells #[.slice A out.length c, .slice A1 op.length c1, .slice A2 vs.length c2] 94 (0, 0))
  base_le : base ≤ g
  rout : Kd.R k49 49 w base (fun _ => True) (.slice A out.length c) out
  rop : Kd.R (Kd.int .i64) 3 w base (fun _ => True) (.slice A1 op.length c1) op
  rvs : Kd.R (Kd.int .i64) 3 w base (fun _ => True) (.slice A2 vs.length c2) vs
  ne : (Value.slice A1 op.length c1).ownBlock = none ∨ (Value.slice A1 op.length c1).ownBlock ≠ (Value.slice A2 vs.length c2).ownBlock
def TidAt (w : World) (base g : Nat) (out : List S49) (op vs : List Int) : Prop := ∃ A c A1 c1 A2 c2, TidV w base g out op vs A c A1 c1 A2 c2
section
variable {w w1 : World} {base g : Nat} {out out' : List S49} {op vs op' vs' : List Int} {A : Option Addr} {c : Nat} {A1 : Option Addr} {c1 : Nat} {A2 : Option Addr} {c2 : Nat}
theorem TidV.below (h : TidV w base g out op vs A c A1 c1 A2 c2) (hb : Below w.heap.size w w1) : TidV w1 base g out op vs A c A1 c1 A2 c2 :=
  ⟨(hb.block _ (blk_lt h.blk)).trans h.blk, h.base_le, Kd.R_below h.rout hb, Kd.R_below h.rop hb, Kd.R_below h.rvs hb, h.ne⟩
theorem TidAt.below (h : TidAt w base g out op vs) (hb : Below w.heap.size w w1) : TidAt w1 base g out op vs := by
  obtain ⟨A, c, A1, c1, A2, c2, h⟩ := h
  exact ⟨A, c, A1, c1, A2, c2, h.below hb⟩
theorem ownBlock_len (A : Option Addr) (n m c : Nat) : (Value.slice A n c).ownBlock = (Value.slice A m c).ownBlock := by cases A <;> rfl
/-- a store of another slice as what is kept -/
theorem TidV.setOut (h : TidV w base g out op vs A c A1 c1 A2 c2) {A' : Option Addr} {c' : Nat} (hR : Kd.R k49 49 w base (fun _ => True) (.slice A' out'.length c') out') :
    TidV (w.setCell ⟨g, 0, none⟩ (.slice A' out'.length c')) base g out' op vs A' c' A1 c1 A2 c2 :=
  ⟨by rw [heap_setCell_same w g 0 _ 94 _ h.blk]; rfl, h.base_le, Kd.R_set hR h.blk (by decide) 0 _, Kd.R_set h.rop h.blk (by decide) 0 _, Kd.R_set h.rvs h.blk (by decide) 0 _, h.ne⟩
theorem R_other {α : Type} {d : Kd α} {e : Nat} {ok : Nat → Prop} {v : Value} {xs : List α} (h : d.R e w base ok v xs) {row : Option Nat} (hg : w.grownBy w1 row) (hne : ∀ b, row = some b → ∃ cells t, w.heap[b]? = some (.cells cells t (0, 0)) ∧ ∀ q, q ∈ e :: d.E → q ≠ t) : d.R e w1 base ok v xs := by
  cases row with
  | none => exact Kd.R_grown h hg (fun k _ => by simp)
  | some b =>
    obtain ⟨cells, t, hb, ht⟩ := hne b rfl
    refine Kd.R_mono (Kd.R_grown (Kd.R_types h hb ht) hg (fun k hk => ?_)) (fun k hk => hk.1)
    intro e
    injection e with e
    exact hk.2 e
/-- the row of what is kept has grown -/
theorem TidV.grown (h : TidV w base g out op vs A c A1 c1 A2 c2) (hg : w.grownBy w1 (Value.slice A out.length c).ownBlock) {A' : Option Addr} {c' : Nat} (hR : Kd.R k49 49 w1 base (fun _ => True) (.slice A' out'.length c') out') :
    w1.heap[g]? = some (.cells #[.slice A out.length c, .slice A1 op.length c1, .slice A2 vs.length c2] 94 (0, 0)) ∧ Kd.R (Kd.int .i64) 3 w1 base (fun _ => True) (.slice A1 op.length c1) op ∧ Kd.R (Kd.int .i64) 3 w1 base (fun _ => True) (.slice A2 vs.length c2) vs := by
  have hty : ∀ b, (Value.slice A out.length c).ownBlock = some b → ∃ cells, w.heap[b]? = some (.cells cells 49 (0, 0)) := fun b hb => by
    obtain ⟨inner, ho⟩ := Kd.R_own h.rout
    exact own_typed ho b hb
  refine ⟨(hg.block g (blk_lt h.blk) (Kd.R_ne h.rout h.blk (by decide))).trans h.blk, ?_, ?_⟩
  · exact R_other h.rop hg (fun b hb => by
      obtain ⟨cells, hc⟩ := hty b hb
      exact ⟨cells, 49, hc, by decide⟩)
  · exact R_other h.rvs hg (fun b hb => by
      obtain ⟨cells, hc⟩ := hty b hb
      exact ⟨cells, 49, hc, by decide⟩)
theorem TidV.appended (h : TidV w base g out op vs A c A1 c1 A2 c2) (hg : w.grownBy w1 (Value.slice A out.length c).ownBlock) {A' : Option Addr} {c' : Nat} (hR : Kd.R k49 49 w1 base (fun _ => True) (.slice A' out'.length c') out') :
    TidV (w1.setCell ⟨g, 0, none⟩ (.slice A' out'.length c')) base g out' op vs A' c' A1 c1 A2 c2 := by
  obtain ⟨b1, b2, b3⟩ := h.grown hg hR
  exact ⟨by rw [heap_setCell_same w1 g 0 _ 94 _ b1]; rfl, h.base_le, Kd.R_set hR b1 (by decide) 0 _, Kd.R_set b2 b1 (by decide) 0 _, Kd.R_set b3 b1 (by decide) 0 _, h.ne⟩
theorem TidV.cut (h : TidV w base g out op vs A c A1 c1 A2 c2) (m : Nat) (hm : m ≤ out.length) : TidV (w.setCell ⟨g, 0, none⟩ (.slice A m c)) base g (out.take m) op vs A c A1 c1 A2 c2 := by
  have hl : (out.take m).length = m := by rw [List.length_take]; omega
  have := h.setOut (out' := out.take m) (A' := A) (c' := c) (by rw [hl]; exact Kd.R_take h.rout hm)
  rw [hl] at this
  exact this
end
end Go.Proofs.Ytpeljnnbknnbmaa.PB
