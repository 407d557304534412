import Derived.Test.YtpeljnnbknnbmaaOnPDx0
import Derived.Test.YtpeljnnbknnbmaaOnN18
import Derived.Outline
section
namespace Go.Proofs.Ytpeljnnbknnbmaa.PD
open Go.RowKit Go.Proofs.YtpeljnnbknnbmaaW.PrintWords Go.Proofs.YtpeljnnbknnbmaaW.PrintLast Go.Proofs.YtpeljnnbknnbmaaW.PrintMore
set_option linter.unusedVariables false
set_option linter.unusedSimpArgs false
theorem setBytes_ok {l : List Int} (h : Bytes l) (p : Nat) (x : Int) : ∀ n, Bytes (setBytes l p x n) := by
  intro n
  induction n with
  | zero => exact h
  | succ n ih =>
    unfold setBytes
    exact mem_set ih _ ⟨by unfold byteOf; omega, by unfold byteOf; omega⟩
theorem storeL_ok {R : Int} {rl : List Int} (h : Bytes rl) (ad size x : Int) : Bytes (storeL R rl ad size x) := by
  unfold storeL; split
  · exact setBytes_ok h _ _ _
  · exact h
theorem loadV_u32 {F R : Int} {fl rl : List Int} (hf : Bytes fl) (hr : Bytes rl) (ad n : Int) (hn : n ≤ 4) : U32 (loadV F R fl rl ad n).1 := by
  have hb : ∀ (base : Int) (l : List Int), Bytes l → U32 (numL (bytesAt base l ad n.toNat)) := fun base l hl => by
    obtain ⟨h1, h2⟩ := numL_lt (bytesAt base l ad n.toNat) (bytes_drop hl base ad n.toNat)
    have hlen : (bytesAt base l ad n.toNat).length ≤ 4 := by unfold bytesAt; rw [List.length_take]; omega
    have h3 : (2 : Int) ^ (8 * (bytesAt base l ad n.toNat).length) ≤ 4294967296 := by
      rcases (by omega : (bytesAt base l ad n.toNat).length = 0 ∨ (bytesAt base l ad n.toNat).length = 1 ∨ (bytesAt base l ad n.toNat).length = 2 ∨ (bytesAt base l ad n.toNat).length = 3 ∨ (bytesAt base l ad n.toNat).length = 4) with h | h | h | h | h <;> rw [h] <;> decide
    exact ⟨h1, by omega⟩
  unfold loadV
  split
  · exact ⟨by decide, by decide⟩
  · split
    · exact ⟨by decide, by decide⟩
    · split
      · exact hb F fl hf
      · split
        · exact hb R rl hr
        · exact ⟨by decide, by decide⟩
theorem sext_u32 (x n : Int) (hn : n = 8 ∨ n = 16) : U32 ((num_Sext.f x n).getD 0) := by
  rcases hn with rfl | rfl
  · unfold num_Sext.f
    rw [if_neg (by decide), if_neg (by decide), if_pos (by rw [show wrap64 (32 - 8) = 24 by kernel_rfl]; decide)]
    exact u32_mod _
  · unfold num_Sext.f
    rw [if_neg (by decide), if_neg (by decide), if_pos (by rw [show wrap64 (32 - 16) = 16 by kernel_rfl]; decide)]
    exact u32_mod _
theorem ldV_u32 {op F R : Int} {fl rl : List Int} (hf : Bytes fl) (hr : Bytes rl) (ad : Int) : U32 (ldV op F R fl rl ad).1 := by
  have h4 : (if op = 17 then 1 else if op = 18 then 1 else if op = 19 then 2 else 4 : Int) ≤ 4 := by (repeat' split) <;> omega
  have h5 : op = 17 ∨ op = 19 → (8 * (if op = 17 then 1 else if op = 18 then 1 else if op = 19 then 2 else 4 : Int)) = 8 ∨ (8 * (if op = 17 then 1 else if op = 18 then 1 else if op = 19 then 2 else 4 : Int)) = 16 := by
    rintro (e | e) <;> subst e <;> decide
  unfold ldV
  generalize (if op = 17 then 1 else if op = 18 then 1 else if op = 19 then 2 else 4 : Int) = n at h4 h5 ⊢
  dsimp only
  by_cases h : (loadV F R fl rl ad n).2 = 0 ∧ (op = 17 ∨ op = 19)
  · rw [if_pos h]; exact sext_u32 _ _ (h5 h.2)
  · rw [if_neg h]; exact loadV_u32 hf hr ad _ h4
theorem mV_ok {F R : Int} {fl : List Int} {x : S49} {V rl : List Int} (hf : Bytes fl) (hr : Bytes rl) (hu : ∀ y ∈ V, U32 y) (hl : V.length = 64) : (∀ y ∈ mV F R fl x V rl, U32 y) ∧ (mV F R fl x V rl).length = 64 := by
  unfold mV
  split
  · exact ⟨hu, hl⟩
  · split
    · exact ⟨hu, hl⟩
    · split
      · exact ⟨mem_set hu _ (ldV_u32 hf hr _), by rw [List.length_set]; exact hl⟩
      · exact ⟨hu, hl⟩
theorem mL_ok {R : Int} {x : S49} {V rl : List Int} (hr : Bytes rl) : Bytes (mL R x V rl) ∧ (mL R x V rl).length = rl.length := by
  unfold mL
  split
  · exact ⟨storeL_ok hr _ _ _, storeL_length _ _ _ _ _⟩
  · split
    · exact ⟨storeL_ok hr _ _ _, storeL_length _ _ _ _ _⟩
    · exact ⟨hr, rfl⟩
theorem fits_range {v : Int} {b : Bool} (h : fitsV v b = true) : 0 ≤ v ∧ v < 64 := by
  unfold fitsV at h
  have := of_decide_eq_true h
  omega
theorem can_range {x : S49} (h : canS x = true) : (1 ≤ x.f0 ∧ x.f0 ≤ 24) ∧ (0 ≤ x.f1 ∧ x.f1 < 64) ∧ (0 ≤ x.f2 ∧ x.f2 < 64) ∧ (0 ≤ x.f3 ∧ x.f3 < 64) := by
  unfold canS canV at h
  simp only [Bool.and_eq_true] at h
  obtain ⟨h0, h1, h2, h3, _⟩ := h
  refine ⟨?_, fits_range h1, fits_range h2, fits_range h3⟩
  unfold ofV at h0
  split at h0
  · cases h0
  · omega
/-- what holds of a program's state at each step -/
structure SInv (l : List S49) (nr : Nat) (s : Int × List Int × List Int) : Prop where
  u : ∀ x ∈ s.2.1, U32 x
  len : s.2.1.length = 64
  at0 : 0 ≤ s.1
  at1 : s.1 ≤ l.length
  br : Bytes s.2.2
  rlen : s.2.2.length = nr
theorem good_end {l : List S49} {E : List Int} (g : Good l E) {j : Nat} (hj : j < l.length) (hx : (rd_T49 l (j : Int)).f0 = 24) : ∃ fr r, stk l j = some (fr :: r) ∧ rd E (j : Int) = fr ∧ fr < j ∧ (rd_T49 l (fr : Int)).f0 = 23 := by
  obtain ⟨st, hst⟩ := stk_before g.fin (Nat.le_of_lt hj)
  cases st with
  | nil =>
    have := stk_none (stk_bad hst hx) (l.length - (j + 1))
    rw [show j + 1 + (l.length - (j + 1)) = l.length by omega, g.fin] at this
    cases this
  | cons fr r =>
    have h := stk_lt hst fr List.mem_cons_self
    exact ⟨fr, r, hst, g.out.fr j hj hx fr r hst, h.1, h.2⟩
theorem good_on {l : List S49} {E : List Int} (g : Good l E) {nr : Nat} {s : Int × List Int × List Int} (h : SInv l nr s) (hlt : s.1 < l.length) : SOn l E nr s := by
  obtain ⟨j, hj⟩ : ∃ j : Nat, s.1 = j := ⟨s.1.toNat, by have := h.at0; omega⟩
  have hjl : j < l.length := by omega
  have hc := can_range (g.can j hjl)
  refine ⟨h.u, h.len, h.at0, hlt, h.br, h.rlen, fun hm => ⟨hm, ?_, ?_, ?_⟩, fun hm => ⟨h.u, h.len, h.at0, hlt, ?_⟩⟩
  · rw [hj]; exact hc.2.1
  · rw [hj]; exact hc.2.2.1
  · rw [hj]; exact hc.2.2.2
  · show POk (rd_T49 l s.1) ∨ _
    rw [hj] at hm ⊢
    by_cases e : (rd_T49 l (j : Int)).f0 = 24
    · obtain ⟨fr, r, h1, h2, h3, h4⟩ := good_end g hjl e
      have hf := can_range (g.can fr (by omega))
      exact Or.inr ⟨e, by rw [h2]; omega, by rw [h2]; omega, by rw [h2]; exact hf.2.1.1, by rw [h2]; exact hf.2.1.2⟩
    · refine Or.inl ⟨?_, hc.2.1, hc.2.2.1, hc.2.2.2⟩
      have h1 := hc.1
      have h2 : ¬ (17 ≤ (rd_T49 l (j : Int)).f0 ∧ (rd_T49 l (j : Int)).f0 ≤ 22) := hm
      omega
theorem sStep_inv {l : List S49} {E : List Int} {F R : Int} {fl : List Int} {nr : Nat} {s : Int × List Int × List Int} (hf : Bytes fl) (h : SOn l E nr s) : SInv l nr (sStep l E F R fl s) := by
  unfold sStep
  by_cases hm : isMem (rd_T49 l s.1)
  · rw [if_pos hm]
    have h1 := mV_ok (F := F) (R := R) (x := rd_T49 l s.1) hf h.br h.u h.len
    have h2 := mL_ok (R := R) (x := rd_T49 l s.1) (V := s.2.1) h.br
    exact ⟨h1.1, h1.2, by have := h.at0; show 0 ≤ s.1 + 1; omega, by have := h.at1; show s.1 + 1 ≤ _; omega, h2.1, h2.2.trans h.rlen⟩
  · rw [if_neg hm]
    have hp := h.ok.2 hm
    have h1 := pStep_ok hp
    have h2 := pStep_at hp
    exact ⟨h1.1, h1.2, by show 0 ≤ (pStep l E (s.1, s.2.1)).1; omega, by show (pStep l E (s.1, s.2.1)).1 ≤ _; omega, h.br, h.rlen⟩
theorem sRun_inv0 {l : List S49} {rl : List Int} (hr : Bytes rl) : SInv l rl.length (0, List.replicate 64 0, rl) :=
  ⟨fun x hx => by rw [List.eq_of_mem_replicate hx]; exact ⟨by decide, by decide⟩, by simp, Int.le_refl _, by show (0 : Int) ≤ _; omega, hr, rfl⟩
/-- where a program stops: how many steps it does, and the trap -/
def Stops (l : List S49) (E : List Int) (F R : Int) (fl rl : List Int) (fuel N : Nat) (t : Int) : Prop :=
  N ≤ fuel ∧ (∀ k, k < N → SOn l E rl.length (sRun l E F R fl rl k) ∧ sTr l F R fl (sRun l E F R fl rl k) = 0) ∧ SInv l rl.length (sRun l E F R fl rl N) ∧
    ((¬ ((sRun l E F R fl rl N).1 < l.length ∧ N < fuel) ∧ t = 0) ∨ (N < fuel ∧ SOn l E rl.length (sRun l E F R fl rl N) ∧ sTr l F R fl (sRun l E F R fl rl N) = t ∧ t ≠ 0))
theorem stops_ex {l : List S49} {E : List Int} (g : Good l E) (F R : Int) {fl rl : List Int} (hf : Bytes fl) (hr : Bytes rl) (fuel : Nat) : ∃ N t, Stops l E F R fl rl fuel N t := by
  have key : ∀ m, m ≤ fuel → ((∀ k, k < m → SOn l E rl.length (sRun l E F R fl rl k) ∧ sTr l F R fl (sRun l E F R fl rl k) = 0) ∧ SInv l rl.length (sRun l E F R fl rl m)) ∨ ∃ N t, Stops l E F R fl rl fuel N t := by
    intro m
    induction m with
    | zero => intro _; exact Or.inl ⟨fun k hk => absurd hk (by omega), sRun_inv0 hr⟩
    | succ m ih =>
      intro hm
      rcases ih (by omega) with ⟨h1, h2⟩ | h
      · by_cases hlt : (sRun l E F R fl rl m).1 < l.length
        · have hon := good_on g h2 hlt
          by_cases ht : sTr l F R fl (sRun l E F R fl rl m) = 0
          · refine Or.inl ⟨fun k hk => ?_, sStep_inv hf hon⟩
            by_cases e : k = m
            · subst e; exact ⟨hon, ht⟩
            · exact h1 k (by omega)
          · exact Or.inr ⟨m, _, by omega, h1, h2, Or.inr ⟨by omega, hon, rfl, ht⟩⟩
        · exact Or.inr ⟨m, 0, by omega, h1, h2, Or.inl ⟨fun h => hlt h.1, rfl⟩⟩
      · exact Or.inr h
  rcases key fuel (Nat.le_refl _) with ⟨h1, h2⟩ | h
  · exact ⟨fuel, 0, Nat.le_refl _, h1, h2, Or.inl ⟨fun h => absurd h.2 (Nat.lt_irrefl _), rfl⟩⟩
  · exact h

end Go.Proofs.Ytpeljnnbknnbmaa.PD
end
section
namespace Go.Proofs.Ytpeljnnbknnbmaa.PD
open Go.RowKit Go.Proofs.YtpeljnnbknnbmaaW.PrintWords Go.Proofs.YtpeljnnbknnbmaaW.PrintLast Go.Proofs.YtpeljnnbknnbmaaW.PrintMore
set_option linter.unusedVariables false
set_option linter.unusedSimpArgs false
theorem stk_some {l : List S49} {i : Nat} {st : List Nat} (h : stk l (i + 1) = some st) : ∃ st', stk l i = some st' ∧ (((rd_T49 l (i : Int)).f0 = 23 ∧ st = i :: st') ∨ ((rd_T49 l (i : Int)).f0 = 24 ∧ ∃ f, st' = f :: st) ∨ ((rd_T49 l (i : Int)).f0 ≠ 23 ∧ (rd_T49 l (i : Int)).f0 ≠ 24 ∧ st = st')) := by
  obtain ⟨st', hs⟩ := stk_before h (Nat.le_succ i)
  refine ⟨st', hs, ?_⟩
  by_cases h1 : (rd_T49 l (i : Int)).f0 = 23
  · rw [stk_loop hs h1] at h; cases h; exact Or.inl ⟨h1, rfl⟩
  · by_cases h2 : (rd_T49 l (i : Int)).f0 = 24
    · cases st' with
      | nil => rw [stk_bad hs h2] at h; cases h
      | cons f r => rw [stk_end hs h2] at h; cases h; exact Or.inr (Or.inl ⟨h2, f, rfl⟩)
    · rw [stk_else hs h1 h2] at h; cases h; exact Or.inr (Or.inr ⟨h1, h2, rfl⟩)
theorem rd_put {V : List Int} (hl : V.length = 64) (a b x : Int) (ha : 0 ≤ a ∧ a < 64) (hb : 0 ≤ b) : rd (V.set a.toNat x) b = if a = b then x else rd V b := by
  obtain ⟨n, rfl⟩ : ∃ n : Nat, b = n := ⟨b.toNat, by omega⟩
  rw [rd_set V a.toNat x n (by omega)]
  by_cases e : a = n
  · rw [if_pos (by omega), if_pos e]
  · rw [if_neg (by omega), if_neg e]
theorem ofV_dest {o : Int} (h : (1 ≤ o ∧ o ≤ 20) ∨ o = 23) : (ofV o).1 = true := by
  unfold ofV
  rw [if_neg (by omega)]
  (repeat' split) <;> first | rfl | omega
end Go.Proofs.Ytpeljnnbknnbmaa.PD
end
