import Derived.Test.YtpeljnnbknnbmaaN7
namespace Go.Proofs.Ytpeljnnbknnbmaa.PD
open Go.RowKit Go.Proofs.YtpeljnnbknnbmaaW.PrintWords Go.Proofs.YtpeljnnbknnbmaaW.PrintLast Go.Proofs.YtpeljnnbknnbmaaW.PrintMore
theorem mem_set {V : List Int} {P : Int → Prop} (hV : ∀ x ∈ V, P x) (d : Nat) {y : Int} (hy : P y) : ∀ x ∈ V.set d y, P x := fun x hx => by
  rcases List.mem_or_eq_of_mem_set hx with h | h
  · exact hV x h
  · rw [h]; exact hy
theorem pV_ok {V : List Int} (hu : ∀ x ∈ V, U32 x) (hl : V.length = 64) {x : S49} (hx : POk x) : (∀ y ∈ pV x V, U32 y) ∧ (pV x V).length = 64 := by
  obtain ⟨ho, hd, ha, hb⟩ := hx
  obtain ⟨o, d, a, b, i⟩ := x
  simp only at ho hd ha hb
  obtain ⟨o, rfl⟩ : ∃ n : Nat, o = n := ⟨o.toNat, by omega⟩
  obtain ⟨d, rfl⟩ : ∃ n : Nat, d = n := ⟨d.toNat, by omega⟩
  obtain ⟨a, rfl⟩ : ∃ n : Nat, a = n := ⟨a.toNat, by omega⟩
  obtain ⟨b, rfl⟩ : ∃ n : Nat, b = n := ⟨b.toNat, by omega⟩
  unfold pV
  simp only [Int.toNat_natCast]
  by_cases e1 : (o : Int) = 1 ∨ (o : Int) = 23
  · rw [if_pos e1]
    exact ⟨mem_set hu d (u32_mod i), by rw [List.length_set]; exact hl⟩
  · rw [if_neg e1]
    by_cases e2 : (o : Int) = 2
    · rw [if_pos e2]
      exact ⟨mem_set hu d (rd_u32 hl hu a (by omega)), by rw [List.length_set]; exact hl⟩
    · rw [if_neg e2]
      have hb2 : U32 (if 13 ≤ (o : Int) then i % 4294967296 else rd V b) := by
        split
        · exact u32_mod i
        · exact rd_u32 hl hu b (by omega)
      exact ⟨mem_set hu d (numAlu_eq (ops_in o (by omega) (by omega)) (rd_u32 hl hu a (by omega)) hb2 0).2, by rw [List.length_set]; exact hl⟩
theorem pStep_ok {l : List S49} {E : List Int} {s : Int × List Int} (h : POn l E s) : (∀ y ∈ (pStep l E s).2, U32 y) ∧ (pStep l E s).2.length = 64 := by
  unfold pStep
  rcases h.ok with hx | ⟨hx, _⟩
  · have hne : ¬ ((rd_T49 l s.1).f0 = 24) := by have := hx.o; omega
    rw [if_neg hne]
    exact pV_ok h.u h.len hx
  · rw [if_pos hx]
    exact ⟨mem_set h.u _ (u32_mod _), by show (List.set _ _ _).length = 64; rw [List.length_set]; exact h.len⟩
end Go.Proofs.Ytpeljnnbknnbmaa.PD
