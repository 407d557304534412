import Derived.Test.YtpeljnnbknnbmaaPDx0
import Derived.Test.YtpeljnnbknnbmaaN9
import Derived.Outline
namespace Go.Proofs.Ytpeljnnbknnbmaa.PD
open Go.RowKit Go.Proofs.YtpeljnnbknnbmaaW.PrintWords Go.Proofs.YtpeljnnbknnbmaaW.PrintLast Go.Proofs.YtpeljnnbknnbmaaW.PrintMore
set_option linter.unusedVariables false
set_option linter.unusedSimpArgs false
def cntE : List Int := [3, -1, -1, 0]
/-- the sum of the first j values of a counter that begins at n -/
def cSum (n : Int) : Nat → Int
  | 0 => 0
  | j + 1 => cSum n j + (n - j)
theorem cSum_two (n : Int) (j : Nat) : 2 * cSum n j = j * (2 * n - j + 1) := by
  induction j with
  | zero => simp [cSum]
  | succ j ih =>
    simp only [cSum]
    have e : ((j + 1 : Nat) : Int) * (2 * n - ((j + 1 : Nat) : Int) + 1) = (j : Int) * (2 * n - j + 1) + 2 * (n - j) := by
      have : ((j + 1 : Nat) : Int) = (j : Int) + 1 := by omega
      rw [this, Int.add_mul, Int.one_mul, show 2 * n - ((j : Int) + 1) + 1 = (2 * n - j + 1) - 1 by omega, Int.mul_sub, Int.mul_one]
      omega
    rw [e]
    omega
/-- what holds of the program at the head of a round -/
structure CInv (c n : Int) (j : Nat) (s : Int × List Int) : Prop where
  len : s.2.length = 64
  u : ∀ x ∈ s.2, U32 x
  vc : rd s.2 c = n - j
  v0 : rd s.2 0 = cSum n j % 4294967296
  vn : rd s.2 63 = j
  at_ : s.1 = if (j : Int) = n then 4 else 1
section
variable {c n : Int}
theorem cnt_first : pStep (cntL c n) cntE (0, List.replicate 64 0) = (1, (List.replicate 64 0).set c.toNat (n % 4294967296)) := by
  unfold pStep
  rw [if_neg (show ¬ (rd_T49 (cntL c n) (0, List.replicate 64 (0 : Int)).1).f0 = 24 by show ¬ (23 : Int) = 24; decide)]
  show (0 + 1, pV ⟨23, c, 0, 0, n⟩ _) = _
  unfold pV
  rw [if_pos (Or.inr rfl)]
  rfl
theorem cnt_a (V : List Int) : pStep (cntL c n) cntE (1, V) = (2, V.set 0 ((rd V 0 + rd V c) % 4294967296)) := by
  unfold pStep
  rw [if_neg (show ¬ (rd_T49 (cntL c n) (1, V).1).f0 = 24 by show ¬ (3 : Int) = 24; decide)]
  show (1 + 1, pV ⟨3, 0, 0, c, 0⟩ V) = _
  unfold pV
  rw [if_neg (by show ¬ ((3 : Int) = 1 ∨ (3 : Int) = 23); decide), if_neg (by show ¬ (3 : Int) = 2; decide)]
  show (1 + 1, V.set 0 (docAlu 1 (rd V 0) (if (13 : Int) ≤ 3 then 0 % 4294967296 else rd V c))) = _
  rw [if_neg (by decide)]
  rfl
theorem cnt_b (V : List Int) : pStep (cntL c n) cntE (2, V) = (3, V.set 63 ((rd V 63 + 1) % 4294967296)) := by
  unfold pStep
  rw [if_neg (show ¬ (rd_T49 (cntL c n) (2, V).1).f0 = 24 by show ¬ (13 : Int) = 24; decide)]
  show (2 + 1, pV ⟨13, 63, 63, 0, 1⟩ V) = _
  unfold pV
  rw [if_neg (by show ¬ ((13 : Int) = 1 ∨ (13 : Int) = 23); decide), if_neg (by show ¬ (13 : Int) = 2; decide)]
  show (2 + 1, V.set 63 (docAlu 1 (rd V 63) (if (13 : Int) ≤ 13 then 1 % 4294967296 else rd V 0))) = _
  rw [if_pos (by decide)]
  rfl
theorem cnt_c (V : List Int) : pStep (cntL c n) cntE (3, V) = ((if (rd V c - 1) % 4294967296 = 0 then 4 else 1), V.set c.toNat ((rd V c - 1) % 4294967296)) := by
  unfold pStep
  rw [if_pos (show (rd_T49 (cntL c n) (3, V).1).f0 = 24 by rfl)]
  show ((if (rd V c - 1) % 4294967296 = 0 then 3 else 0) + 1, V.set c.toNat ((rd V c - 1) % 4294967296)) = _
  split <;> rfl
end
theorem rd_at {V : List Int} (d : Nat) (x : Int) (hd : d < V.length) : rd (V.set d x) (d : Int) = x := by rw [rd_set V d x d hd, if_pos rfl]
theorem rd_far {V : List Int} (d j : Nat) (x : Int) (hd : d < V.length) (h : d ≠ j) : rd (V.set d x) (j : Int) = rd V (j : Int) := by rw [rd_set V d x j hd, if_neg h]
theorem pok_mk {o d a b i : Int} (h : (1 ≤ o ∧ o ≤ 16) ∨ o = 23) (hd : 0 ≤ d ∧ d < 64) (ha : 0 ≤ a ∧ a < 64) (hb : 0 ≤ b ∧ b < 64) : POk ⟨o, d, a, b, i⟩ := ⟨h, hd, ha, hb⟩
theorem cnt_POk0 (n : Int) (c : Nat) (h1 : 1 ≤ c) (h2 : c ≤ 62) : POk (rd_T49 (cntL c n) 0) := pok_mk (o := 23) (d := c) (a := 0) (b := 0) (i := n) (by omega) (by omega) (by omega) (by omega)
theorem cnt_POk1 (n : Int) (c : Nat) (h1 : 1 ≤ c) (h2 : c ≤ 62) : POk (rd_T49 (cntL c n) 1) := pok_mk (o := 3) (d := 0) (a := 0) (b := c) (i := 0) (by omega) (by omega) (by omega) (by omega)
theorem cnt_POk2 (n : Int) (c : Nat) (h1 : 1 ≤ c) (h2 : c ≤ 62) : POk (rd_T49 (cntL c n) 2) := pok_mk (o := 13) (d := 63) (a := 63) (b := 0) (i := 1) (by omega) (by omega) (by omega) (by omega)
theorem cnt_round (c : Nat) (n : Int) (h1 : 1 ≤ c) (h2 : c ≤ 62) (h4 : n ≤ 2000) (j : Nat) (hj : (j : Int) < n) (s : Int × List Int) (h : CInv c n j s) :
    POn (cntL c n) cntE s ∧ POn (cntL c n) cntE (pStep (cntL c n) cntE s) ∧ POn (cntL c n) cntE (pStep (cntL c n) cntE (pStep (cntL c n) cntE s)) ∧ CInv c n (j + 1) (pStep (cntL c n) cntE (pStep (cntL c n) cntE (pStep (cntL c n) cntE s))) := by
  obtain ⟨hl, hu, hc, h0, hn, ha⟩ := h
  rw [if_neg (by omega)] at ha
  obtain ⟨a, V⟩ := s
  simp only at hl hu hc h0 hn ha
  subst ha
  rw [cnt_a]
  have hcc : rd V ((c : Nat) : Int) = n - j := hc
  obtain ⟨V1, hV1⟩ : ∃ V1, V1 = V.set 0 ((rd V 0 + rd V c) % 4294967296) := ⟨_, rfl⟩
  have hl1 : V1.length = 64 := by rw [hV1, List.length_set]; exact hl
  have hu1 : ∀ x ∈ V1, U32 x := by rw [hV1]; exact mem_set hu 0 (u32_mod _)
  have hc1 : rd V1 (c : Int) = n - j := by rw [hV1, rd_far 0 c _ (by omega) (by omega)]; exact hc
  have h01 : rd V1 ((0 : Nat) : Int) = cSum n (j + 1) % 4294967296 := by
    rw [hV1, rd_at 0 _ (by omega), hc, h0]
    simp only [cSum]
    omega
  have hn1 : rd V1 ((63 : Nat) : Int) = j := by rw [hV1, rd_far 0 63 _ (by omega) (by decide)]; exact hn
  rw [← hV1, cnt_b]
  obtain ⟨V2, hV2⟩ : ∃ V2, V2 = V1.set 63 ((rd V1 63 + 1) % 4294967296) := ⟨_, rfl⟩
  have hl2 : V2.length = 64 := by rw [hV2, List.length_set]; exact hl1
  have hu2 : ∀ x ∈ V2, U32 x := by rw [hV2]; exact mem_set hu1 63 (u32_mod _)
  have hc2 : rd V2 (c : Int) = n - j := by rw [hV2, rd_far 63 c _ (by omega) (by omega)]; exact hc1
  have h02 : rd V2 ((0 : Nat) : Int) = cSum n (j + 1) % 4294967296 := by rw [hV2, rd_far 63 0 _ (by omega) (by decide)]; exact h01
  have hn2 : rd V2 ((63 : Nat) : Int) = (j + 1 : Nat) := by
    rw [hV2, rd_at 63 _ (by omega), show rd V1 63 = j from hn1]
    omega
  rw [← hV2, cnt_c]
  have hx : (rd V2 (c : Int) - 1) % 4294967296 = n - (j + 1 : Nat) := by rw [hc2]; omega
  rw [hx]
  refine ⟨⟨hu, hl, by show (0 : Int) ≤ 1; decide, by show (1 : Int) < 4; decide, Or.inl (cnt_POk1 n c h1 h2)⟩, ⟨hu1, hl1, by show (0 : Int) ≤ 2; decide, by show (2 : Int) < 4; decide, Or.inl (cnt_POk2 n c h1 h2)⟩, ⟨hu2, hl2, by show (0 : Int) ≤ 3; decide, by show (3 : Int) < 4; decide, Or.inr ⟨rfl, by show (0 : Int) ≤ 0; decide, by show (0 : Int) < 4; decide, by show 0 ≤ (c : Int); omega, by show (c : Int) < 64; omega⟩⟩, ?_⟩
  refine ⟨by show (List.set _ _ _).length = 64; rw [List.length_set]; exact hl2, ?_, ?_, ?_, ?_, ?_⟩
  · exact mem_set hu2 _ ⟨by omega, by omega⟩
  · show rd (V2.set (c : Int).toNat _) (c : Int) = _
    rw [Int.toNat_natCast, rd_at c _ (by omega)]
  · show rd (V2.set (c : Int).toNat _) ((0 : Nat) : Int) = _
    rw [Int.toNat_natCast, rd_far c 0 _ (by omega) (by omega)]; exact h02
  · show rd (V2.set (c : Int).toNat _) ((63 : Nat) : Int) = _
    rw [Int.toNat_natCast, rd_far c 63 _ (by omega) (by omega)]; exact hn2
  · show (if _ then (4 : Int) else 1) = _
    by_cases e : ((j + 1 : Nat) : Int) = n
    · rw [if_pos (by omega), if_pos e]
    · rw [if_neg (by omega), if_neg e]
theorem cnt_init (c : Nat) (n : Int) (h1 : 1 ≤ c) (h2 : c ≤ 62) (h3 : 1 ≤ n) (h4 : n ≤ 2000) : CInv c n 0 (pRun (cntL c n) cntE 1) := by
  show CInv c n 0 (pStep (cntL c n) cntE (0, List.replicate 64 0))
  rw [cnt_first]
  have hl : (List.replicate 64 (0 : Int)).length = 64 := by simp
  refine ⟨by show (List.set _ _ _).length = 64; simp, ?_, ?_, ?_, ?_, ?_⟩
  · exact mem_set (fun x hx => by rw [List.eq_of_mem_replicate hx]; exact ⟨by decide, by decide⟩) _ (u32_mod _)
  · show rd (List.set _ (c : Int).toNat _) (c : Int) = _
    rw [Int.toNat_natCast, rd_at c _ (by omega)]
    omega
  · show rd (List.set _ (c : Int).toNat _) ((0 : Nat) : Int) = _
    rw [Int.toNat_natCast, rd_far c 0 _ (by omega) (by omega)]
    rfl
  · show rd (List.set _ (c : Int).toNat _) ((63 : Nat) : Int) = _
    rw [Int.toNat_natCast, rd_far c 63 _ (by omega) (by omega)]
    rfl
  · show (1 : Int) = _
    rw [if_neg (by omega)]
theorem cnt_at (c : Nat) (n : Int) (h1 : 1 ≤ c) (h2 : c ≤ 62) (h3 : 1 ≤ n) (h4 : n ≤ 2000) (j : Nat) (hj : (j : Int) ≤ n) : CInv c n j (pRun (cntL c n) cntE (1 + 3 * j)) := by
  induction j with
  | zero => exact cnt_init c n h1 h2 h3 h4
  | succ j ih => exact (cnt_round c n h1 h2 h4 j (by omega) _ (ih (by omega))).2.2.2
theorem cnt_on (c : Nat) (n : Int) (h1 : 1 ≤ c) (h2 : c ≤ 62) (h3 : 1 ≤ n) (h4 : n ≤ 2000) (k : Nat) (hk : k < 1 + 3 * n.toNat) : POn (cntL c n) cntE (pRun (cntL c n) cntE k) := by
  rcases Nat.eq_zero_or_pos k with rfl | hp
  · exact ⟨fun x hx => by rw [List.eq_of_mem_replicate (show x ∈ List.replicate 64 (0 : Int) from hx)]; exact ⟨by decide, by decide⟩, by show (List.replicate 64 (0 : Int)).length = 64; simp, by show (0 : Int) ≤ 0; decide, by show (0 : Int) < 4; decide, Or.inl (cnt_POk0 n c h1 h2)⟩
  · obtain ⟨j, r, hr, rfl⟩ : ∃ j r : Nat, r < 3 ∧ k = 1 + 3 * j + r := ⟨(k - 1) / 3, (k - 1) % 3, by omega, by omega⟩
    have h := cnt_round c n h1 h2 h4 j (by omega) _ (cnt_at c n h1 h2 h3 h4 j (by omega))
    rcases (by omega : r = 0 ∨ r = 1 ∨ r = 2) with rfl | rfl | rfl
    · exact h.1
    · exact h.2.1
    · exact h.2.2.1

end Go.Proofs.Ytpeljnnbknnbmaa.PD
