-- Written by pr.py, a driver around the kit's printer, for this seat. Not trusted: Lean checks it.
import Derived.Test.YtbbjooaggdgcmaaPAx0
import Derived.Test.YtbbjooaggdgcmaaPAx1
import Derived.Test.YtbbjooaggdgcmaaPAx3
import Derived.Test.YtbbjooaggdgcmaaPAx4
import Derived.Test.YtbbjooaggdgcmaaPAx9
import Derived.Test.YtbbjooaggdgcmaaPAx10
import Derived.Test.YtbbjooaggdgcmaaPAx11
import Derived.Outline
import Derived.Deep.RegionHeld3
namespace Go.Proofs.Ytbbjooaggdgcmaa.PA
open Go.RowKit Go.Proofs.YtbbjooaggdgcmaaW.PrintWords Go.Proofs.YtbbjooaggdgcmaaW.PrintLast Go.Proofs.YtbbjooaggdgcmaaW.PrintMore
attribute [local go_sem] max2_int min2_int max_two min_two max_three min_three max_four min_four   -- for this text's walks alone
set_option linter.unusedVariables false
set_option linter.unusedSimpArgs false

--BREAK Derived.Outline,Derived.Deep.RegionHeld3
/-! ### pintlelaw05_MemTargets: function 4 -/
/-! which targets can be -/
theorem u64_mod (n : Int) : IntKind.u64.wrap n = n % 18446744073709551616 := by simp [IntKind.wrap, IntKind.bits, IntKind.signed]
theorem can_eq {F FS R RS : Int} (hF0 : 0 ≤ F ∧ F < 4294967296) (hS0 : 0 ≤ FS ∧ FS < 4294967296) (hR0 : 0 ≤ R ∧ R < 4294967296) (hT0 : 0 ≤ RS ∧ RS < 4294967296) : mem_can.f F FS R RS = pintleref05_Can.f F FS R RS := by
  have e1 : mem_fits.f F FS = pintleref05_one.f F FS := by
    unfold mem_fits.f pintleref05_one.f
    rw [u64_mod, u64_mod, u64_mod]
    have : (F % 18446744073709551616 + FS % 18446744073709551616) % 18446744073709551616 = wrap64 (wrap64 F + wrap64 FS) := by unfold wrap64; omega
    rw [this]
  have e2 : mem_fits.f R RS = pintleref05_one.f R RS := by
    unfold mem_fits.f pintleref05_one.f
    rw [u64_mod, u64_mod, u64_mod]
    have : (R % 18446744073709551616 + RS % 18446744073709551616) % 18446744073709551616 = wrap64 (wrap64 R + wrap64 RS) := by unfold wrap64; omega
    rw [this]
  unfold mem_can.f pintleref05_Can.f mem_apart.f
  rw [e1, e2]
  have a1 : IntKind.u64.wrap (IntKind.u64.wrap F + IntKind.u64.wrap FS) = wrap64 (wrap64 F + wrap64 FS) := by rw [u64_mod, u64_mod, u64_mod]; unfold wrap64; omega
  have a2 : IntKind.u64.wrap (IntKind.u64.wrap R + IntKind.u64.wrap RS) = wrap64 (wrap64 R + wrap64 RS) := by rw [u64_mod, u64_mod, u64_mod]; unfold wrap64; omega
  have a3 : IntKind.u64.wrap R = wrap64 R := by rw [u64_mod]; unfold wrap64; omega
  have a4 : IntKind.u64.wrap F = wrap64 F := by rw [u64_mod]; unfold wrap64; omega
  rw [a1, a2, a3, a4]
  congr 1
  funext t
  split
  · congr 1
    funext t
    split
    · split <;> rfl
    · rfl
  · rfl
theorem can_fit {F FS R RS : Int} (hF0 : 0 ≤ F ∧ F < 4294967296) (hS0 : 0 ≤ FS ∧ FS < 4294967296) (hR0 : 0 ≤ R ∧ R < 4294967296) (hT0 : 0 ≤ RS ∧ RS < 4294967296) (h : mem_can.f F FS R RS = some true) :
    MemFit F R FS.toNat RS.toNat := by
  unfold mem_can.f mem_fits.f mem_apart.f at h
  simp only [u64_mod] at h
  by_cases h1 : FS ≥ 4
  · by_cases h2 : FS ≤ 1048576
    · by_cases h3 : Int.tmod F 4 = 0
      · by_cases h4 : Int.tmod FS 4 = 0
        · by_cases h5 : RS ≥ 4
          · by_cases h6 : RS ≤ 1048576
            · by_cases h7 : Int.tmod R 4 = 0
              · by_cases h8 : Int.tmod RS 4 = 0
                · simp only [if_pos h1, if_pos h2, if_pos h3, if_pos h4, if_pos h5, if_pos h6, if_pos h7, if_pos h8, Option.bind_some, decide_eq_true_eq] at h
                  split at h
                  · split at h
                    · constructor <;> first | omega | (split at h <;> first | (simp at h; omega) | omega)
                    · simp at h
                  · simp at h
                · simp [h8, h1, h2, h3, h4, h5, h6, h7] at h
              · simp [h7, h1, h2, h3, h4, h5, h6] at h
            · simp [h6, h1, h2, h3, h4, h5] at h
          · simp [h5, h1, h2, h3, h4] at h
        · simp [h4, h1, h2, h3] at h
      · simp [h3, h1, h2] at h
    · simp [h2, h1] at h
  · simp [h1] at h
theorem can_some (F FS R RS : Int) : ∃ b, mem_can.f F FS R RS = some b := by
  have hf : ∀ a b, ∃ r, mem_fits.f a b = some r := fun a b => by
    unfold mem_fits.f
    repeat' split
    all_goals exact ⟨_, rfl⟩
  unfold mem_can.f mem_apart.f
  obtain ⟨b1, h1⟩ := hf F FS
  obtain ⟨b2, h2⟩ := hf R RS
  rw [h1, h2]
  simp only [Option.bind_some]
  repeat' split
  all_goals exact ⟨_, rfl⟩
set_option maxHeartbeats 4000000 in
theorem targets_calls (F FS R RS : Int) (w : World) (hF0 : 0 ≤ F ∧ F < 4294967296) (hS0 : 0 ≤ FS ∧ FS < 4294967296) (hR0 : 0 ≤ R ∧ R < 4294967296) (hT0 : 0 ≤ RS ∧ RS < 4294967296) :
    Calls Try.prog 4 #[.agg #[.int .u32 F, .int .u32 FS, .int .u32 R, .int .u32 RS]] w fun e w' => e = .returned (.bool true) ∧ Below w.heap.size w w' := by
  obtain ⟨b, hb⟩ := can_some F FS R RS
  have he := (can_eq hF0 hS0 hR0 hT0).symm.trans hb
  have hC : mem_Can.f F FS R RS = some b := by unfold mem_Can.f; rw [hb]; rfl
  cases b
  · have H1 := Aside0.mk hb
    have H2 := Aside0.mk he
    have H3 := Aside0.mk hC
    clear hb he hC hF0 hS0 hR0 hT0
    go_enter Try.func4, Try.ntmps4
    go_wp2_with (first
      | (go_at_call 9; refine (new_no F FS R RS _ H1.out).mono ?_; rintro e w1 ⟨rfl, hb1⟩; have hblk : w1.heap[w.heap.size]? = some (.cells #[.int .u32 F, .int .u32 FS, .int .u32 R, .int .u32 RS] 24 (0, 0)) := (hb1.block _ (by simp)).trans (heap_alloc_new w _); have q0 := blk_cell hblk 0; have q1 := blk_cell hblk 1; have q2 := blk_cell hblk 2; have q3 := blk_cell hblk 3; have HBLK := Aside0.mk hblk; have HB1 := Aside0.mk hb1; clear hb1 hblk)
      | (go_at_call 7; refine (pintleref05_Can.calls F FS R RS false _ H2.out).mono ?_; rintro e w2 ⟨rfl, hb2⟩; have hblk := (hb2.block _ (blk_lt HBLK.out)).trans HBLK.out; have r0 := blk_cell hblk 0; have r1 := blk_cell hblk 1; have r2 := blk_cell hblk 2; have r3 := blk_cell hblk 3; have HB2 := Aside0.mk hb2; clear hb2 hblk)
      | (go_at_call 14; refine (mem_Can.calls F FS R RS false _ H3.out).mono ?_; rintro e w3 ⟨rfl, hb3⟩; have HB3 := Aside0.mk hb3; clear hb3)
      | (go_at_call 8; refine (lives_any _).mono ?_; rintro e w4 ⟨rfl, hb4⟩; have HB4 := Aside0.mk hb4; clear hb4))
    go_ret
    have z1 := (Below.alloc (Below.refl w.heap.size w) (Nat.le_refl _) _).trans (HB1.out.mono (by simp))
    have z2 := z1.trans (HB2.out.mono z1.size)
    have z3 := z2.trans (HB3.out.mono z2.size)
    exact ⟨rfl, z3.trans (HB4.out.mono z3.size)⟩
  · have hfit := can_fit hF0 hS0 hR0 hT0 hb
    obtain ⟨nf, rfl⟩ : ∃ nf : Nat, FS = (nf : Int) := ⟨FS.toNat, by omega⟩
    obtain ⟨nr, rfl⟩ : ∃ nr : Nat, RS = (nr : Int) := ⟨RS.toNat, by omega⟩
    rw [Int.toNat_natCast, Int.toNat_natCast] at hfit
    have HN := Aside0.mk (fun W => new_yes F R nf nr W hb hfit.nf1 hfit.nr1)
    have H2 := Aside0.mk he
    have H3 := Aside0.mk hC
    clear hb he hC hF0 hS0 hR0 hT0 hfit
    go_enter Try.func4, Try.ntmps4
    go_wp2_with (first
      | (go_at_call 9; refine (HN.out _).mono ?_; rintro e w1 ⟨g, bf, br, rfl, hm1, hb1⟩; have hblk : w1.heap[w.heap.size]? = some (.cells #[.int .u32 F, .int .u32 nf, .int .u32 R, .int .u32 nr] 24 (0, 0)) := (hb1.block _ (by simp)).trans (heap_alloc_new w _); have q0 := blk_cell hblk 0; have q1 := blk_cell hblk 1; have q2 := blk_cell hblk 2; have q3 := blk_cell hblk 3; have HBLK := Aside0.mk hblk; have HB1 := Aside0.mk hb1; have HM1 := Aside0.mk hm1; clear hb1 hblk hm1)
      | (go_at_call 7; refine (pintleref05_Can.calls F nf R nr true _ H2.out).mono ?_; rintro e w2 ⟨rfl, hb2⟩; have hblk := (hb2.block _ (blk_lt HBLK.out)).trans HBLK.out; have HBLK2 := Aside0.mk hblk; have HB2 := Aside0.mk hb2; have HM2 := Aside0.mk (HM1.out.below hb2); clear hb2 hblk))
    have hkeep : ∀ W W' : World, Below w2.heap.size w2 W → Below W.heap.size W W' → (W'.cell? ⟨w.heap.size, 0, none⟩ = some (.int .u32 F) ∧ W'.cell? ⟨w.heap.size, 1, none⟩ = some (.int .u32 nf) ∧ W'.cell? ⟨w.heap.size, 2, none⟩ = some (.int .u32 R) ∧ W'.cell? ⟨w.heap.size, 3, none⟩ = some (.int .u32 nr) ∧ Below w2.heap.size w2 W') := fun W W' h1 h2 => by
      have h3 := h1.trans (h2.mono h1.size)
      have hblk := (h3.block _ (blk_lt HBLK2.out)).trans HBLK2.out
      exact ⟨blk_cell hblk 0, blk_cell hblk 1, blk_cell hblk 2, blk_cell hblk 3, h3⟩
    have HKEEP := Aside0.mk hkeep
    have q0' := blk_cell HBLK2.out 0
    have q1' := blk_cell HBLK2.out 1
    have q2' := blk_cell HBLK2.out 2
    have q3' := blk_cell HBLK2.out 3
    have heq : ∀ W, (binOp .eql 24 (.agg #[.int .u32 F, .int .u32 nf, .int .u32 R, .int .u32 nr]) (.agg #[.int .u32 F, .int .u32 nf, .int .u32 R, .int .u32 nr])).run Try.prog W = .ok (.bool true) W := fun W => by rw [eq24]; simp
    have HT := Aside0.mk (show ∀ W : World, Below w2.heap.size w2 W → Calls Try.prog 15 #[.pointer (some ⟨g, 0, none⟩)] W fun e w' => e = .returned (.agg #[.int .u32 F, .int .u32 nf, .int .u32 R, .int .u32 nr]) ∧ Below W.heap.size W w' from fun W hW => by
      have := target_calls _ g bf br F R (List.replicate nf 0) (List.replicate nr 0) W (HM2.out.below hW)
      rw [List.length_replicate, List.length_replicate] at this
      exact this)
    clear hkeep q0 q1 q2 q3
    go_region_held3 (fun W' => W'.cell? ⟨w.heap.size, 0, none⟩ = some (.int .u32 F) ∧ W'.cell? ⟨w.heap.size, 1, none⟩ = some (.int .u32 nf) ∧ W'.cell? ⟨w.heap.size, 2, none⟩ = some (.int .u32 R) ∧ W'.cell? ⟨w.heap.size, 3, none⟩ = some (.int .u32 nr) ∧ Below w2.heap.size w2 W')
      (first | (exact HKEEP.out _ _ (Below.refl _ _) (below_drew (Below.refl _ _))) | (go_split_ands; exact HKEEP.out _ _ (by assumption) hb) | go_keep)
      (first
        | (go_at_call 14; refine (mem_Can.calls F nf R nr true _ H3.out).mono ?_; rintro e w3 ⟨rfl, hb⟩)
        | (go_at_call 15; go_split_ands; refine (HT.out _ (by assumption)).mono ?_; rintro e w3 ⟨rfl, hb⟩)
        | (go_at_call 8; refine (lives_any _).mono ?_; rintro e w3 ⟨rfl, hb⟩))
    all_goals go_wp2
    all_goals go_ret
    all_goals
      go_split_ands
      have z1 := (Below.alloc (Below.refl w.heap.size w) (Nat.le_refl _) (.cells #[.int .u32 F, .int .u32 nf, .int .u32 R, .int .u32 nr] 24)).trans (HB1.out.mono (by simp))
      have z2 := z1.trans (HB2.out.mono z1.size)
      exact ⟨rfl, z2.trans (Below.mono (by assumption) z2.size)⟩
def pintlelaw05_MemTargets.f (F FS R RS : Int) : Option Bool := if (0 ≤ F ∧ F < 4294967296) ∧ (0 ≤ FS ∧ FS < 4294967296) ∧ (0 ≤ R ∧ R < 4294967296) ∧ (0 ≤ RS ∧ RS < 4294967296) then some true else none
theorem pintlelaw05_MemTargets.calls (F FS R RS : Int) (r : Bool) (w : World) (h : pintlelaw05_MemTargets.f F FS R RS = some r) :
    Calls Try.prog 4 #[.agg #[.int .u32 F, .int .u32 FS, .int .u32 R, .int .u32 RS]] w fun e w' => e = .returned (.bool r) ∧ Below w.heap.size w w' := by
  unfold pintlelaw05_MemTargets.f at h
  split at h
  case isTrue hb =>
    obtain rfl := Option.some.inj h
    exact targets_calls F FS R RS w hb.1 hb.2.1 hb.2.2.1 hb.2.2.2
  case isFalse => exact nomatch h

end Go.Proofs.Ytbbjooaggdgcmaa.PA
