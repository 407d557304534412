/- All that is told of any bytes that are stored, loaded, fetched, put and got, in any order, is what the reference tells: for every list of acts. -/
import Derived.Test.YtbbjooaggdgcmaaGoodMemActs
namespace Go.Proofs.Ytbbjooaggdgcmaa.Pure
open Go.RowKit Go.Proofs.Ytbbjooaggdgcmaa.PC Go.Proofs.YtbbjooaggdgcmaaW.PrintWords
/- YOURS: def pintlelaw05_MemActs.Pure : Prop := ∀ (l0 : List (S45)), (l0.length * 48 ≤ 140737488351232 ∧ l0.length ≤ maxLen ∧ ∀ y ∈ l0, good_S45 y) → pintlelaw05_MemActs.f l0 = some true -/
theorem MemActs : pintlelaw05_MemActs.Pure := by
  intro l h
  have hb : ∀ v : Int, (Lit.int .u32 v).wf = true → 0 ≤ v ∧ v < 4294967296 := fun v hv => by
    simp [Lit.wf, IntKind.min, IntKind.max, IntKind.bits, IntKind.signed] at hv
    omega
  have hb8 : ∀ v : Int, (Lit.int .u8 v).wf = true → 0 ≤ v ∧ v < 256 := fun v hv => by
    simp [Lit.wf, IntKind.min, IntKind.max, IntKind.bits, IntKind.signed] at hv
    omega
  have hb64 : ∀ v : Int, (Lit.int .i64 v).wf = true → v ≤ 9223372036854775807 := fun v hv => by
    simp [Lit.wf, IntKind.min, IntKind.max, IntKind.bits, IntKind.signed] at hv
    omega
  refine if_pos fun i hi => ?_
  have hm : rd_T45 l (i : Int) ∈ l := by
    have : rd_T45 l (i : Int) = l[i] := by
      unfold rd_T45
      rw [Int.toNat_natCast, List.getD_eq_getElem?_getD, List.getElem?_eq_getElem hi]; rfl
    rw [this]; exact List.getElem_mem hi
  obtain ⟨h0, h1, h2, h3, _, _, h4⟩ := h.2.2 _ hm
  exact ⟨hb64 _ h1, hb _ h2, hb _ h3, fun x hx => hb8 _ (h4 x hx)⟩
end Go.Proofs.Ytbbjooaggdgcmaa.Pure
