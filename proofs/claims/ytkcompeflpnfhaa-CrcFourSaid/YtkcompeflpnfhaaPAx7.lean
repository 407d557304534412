-- Written by pr.py, a driver around the kit's printer, for this seat. Not trusted: Lean checks it.
import Derived.Test.YtkcompeflpnfhaaPAx0
import Derived.Test.YtkcompeflpnfhaaPAx3
import Derived.Test.YtkcompeflpnfhaaPAx4
import Derived.Test.YtkcompeflpnfhaaPAx5
import Derived.Test.YtkcompeflpnfhaaArrEq
import Derived.RegionTactic
import Derived.ChangeAlike
import Derived.BigRegion
namespace Go.Proofs.Ytkcompeflpnfhaa.PA
open Go.RowKit Go.Proofs.YtkcompeflpnfhaaW.PrintWords Go.Proofs.YtkcompeflpnfhaaW.PrintLast Go.Proofs.YtkcompeflpnfhaaW.PrintMore
attribute [local go_sem] max2_int min2_int max_two min_two max_three min_three max_four min_four   -- for this text's walks alone
set_option linter.unusedVariables false
set_option linter.unusedSimpArgs false

--BREAK @N@ArrEq,Derived.RegionTactic,Derived.ChangeAlike,Derived.BigRegion
/-! ### pintlelaw08_CrcFour: function 4 -/
theorem box_blk {w w1 : World} {cs : Array Value} {t : TypeId} (hb : Below (w.alloc (.cells cs t)).heap.size (w.alloc (.cells cs t)) w1) : w1.heap[w.heap.size]? = some (.cells cs t (0, 0)) :=
  (hb.block _ (by simp)).trans (heap_alloc_new w _)
def fourAt (a : Int) (n : Nat) : Int := if Int.tmod a n < 0 then Int.tmod a n + n else Int.tmod a n
theorem fourAt_in (a : Int) (n : Nat) (h : 0 < n) : 0 ≤ fourAt a n ∧ fourAt a n < n := by
  unfold fourAt
  have h1 := Int.tmod_lt_of_pos a (show (0 : Int) < n by omega)
  have h2 := Int.lt_tmod_of_pos a (show (0 : Int) < n by omega)
  split <;> omega
def byAt (b0 b1 b2 b3 : Int) (k : Nat) : Int := if k = 0 then b0 else if k = 1 then b1 else if k = 2 then b2 else b3
def fourC (b0 b1 b2 b3 : Int) (p : Nat) (l : List Int) : Nat → List Int
  | 0 => l
  | k + 1 => (fourC b0 b1 b2 b3 p l k).set (p + k) ((rd (fourC b0 b1 b2 b3 p l k) ((p + k : Nat) : Int) + byAt b0 b1 b2 b3 k) % 256)
def fourO (b0 b1 b2 b3 : Int) : Nat → Bool
  | 0 => false
  | k + 1 => fourO b0 b1 b2 b3 k || (byAt b0 b1 b2 b3 k != 0)
theorem fourC_length (b0 b1 b2 b3 : Int) (p : Nat) (l : List Int) (k : Nat) : (fourC b0 b1 b2 b3 p l k).length = l.length := by
  induction k with
  | zero => rfl
  | succ k ih => unfold fourC; rw [List.length_set, ih]
/-- how many rounds there are -/
def fourN (p n : Nat) : Nat := if n - p < 4 then n - p else 4
theorem by_cell {w : World} {B : Nat} {b0 b1 b2 b3 : Int} (h : w.heap[B]? = some (.cells #[.int .u8 b0, .int .u8 b1, .int .u8 b2, .int .u8 b3] 29 (0, 0))) {k : Nat} (hk : k < 4) : w.cell? ⟨B, k, none⟩ = some (.int .u8 (byAt b0 b1 b2 b3 k)) := by
  rw [blk_cell h k]
  match k, hk with
  | 0, _ => rfl
  | 1, _ => rfl
  | 2, _ => rfl
  | 3, _ => rfl
theorem below_alloc_lt {w w1 : World} {o : Obj} (h : Below (w.alloc o).heap.size (w.alloc o) w1) : w.heap.size < w1.heap.size := by
  have := h.size
  simp at this
  omega
theorem sz_u8 (w : World) : (sizeOf 5).run Try.prog w = .ok 1 w := by kernel_rfl
theorem four_cases (a : Int) (n : Nat) (h : 0 < n) (hn : n ≤ 300) :
    (∃ p : Nat, fourAt a n = (p : Int) ∧ p < n ∧ Int.tmod a n < 0 ∧ wrap64 (Int.tmod a n + n) = (p : Int)) ∨ (∃ p : Nat, fourAt a n = (p : Int) ∧ p < n ∧ Int.tmod a n = (p : Int)) := by
  have hin := fourAt_in a n h
  by_cases hneg : Int.tmod a n < 0
  · have e : fourAt a n = Int.tmod a n + n := by unfold fourAt; rw [if_pos hneg]
    refine .inl ⟨(fourAt a n).toNat, (Int.toNat_of_nonneg hin.1).symm, by omega, hneg, ?_⟩
    rw [← e]; unfold wrap64; omega
  · have e : fourAt a n = Int.tmod a n := by unfold fourAt; rw [if_neg hneg]
    exact .inr ⟨(fourAt a n).toNat, (Int.toNat_of_nonneg hin.1).symm, by omega, by omega⟩
def fourB (l0 : List Int) (a1 b0 b1 b2 b3 : Int) : Bool :=
  if l0.take 300 = [] then true else if ([b0, b1, b2, b3] == [0, 0, 0, 0]) = true then true else
    (fourO b0 b1 b2 b3 (fourN (fourAt a1 (l0.take 300).length).toNat (l0.take 300).length) == (moreV 0 (l0.take 300) != moreV 0 (fourC b0 b1 b2 b3 (fourAt a1 (l0.take 300).length).toNat (l0.take 300) (fourN (fourAt a1 (l0.take 300).length).toNat (l0.take 300).length))))
theorem few_take (l : List Int) : pintlelaw08_few.f l = some (l.take 300) := by
  unfold pintlelaw08_few.f
  by_cases h : (l.length : Int) > 300
  · rw [if_pos h, if_pos (by omega)]
    simp only [Option.bind_some, List.nil_append, List.length_nil]
    rw [if_pos (by simp; omega)]
  · rw [if_neg h]
    simp only [Option.bind_some, List.nil_append, List.length_nil]
    rw [if_pos (by omega), List.take_of_length_le (by omega)]
set_option maxHeartbeats 16000000 in
theorem four_calls (A0 : Option Addr) (c0 : Nat) (l0 : List Int) (a1 : Int) (b0 b1 b2 b3 : Int) (w : World) (hr0 : Kd.C (Kd.int .u8) w A0 l0.length l0) (hc0 : l0.length ≤ c0) :
    Calls Try.prog 4 #[.slice A0 l0.length c0, .int .i64 a1, .agg #[.int .u8 b0, .int .u8 b1, .int .u8 b2, .int .u8 b3]] w fun e w' => e = .returned (.bool (fourB l0 a1 b0 b1 b2 b3)) ∧ Below w.heap.size w w' := by
  have HR := Aside0.mk hr0
  have HF := Aside0.mk (few_take l0)
  clear hr0
  obtain ⟨R, hR⟩ : ∃ R, R = fourB l0 a1 b0 b1 b2 b3 := ⟨_, rfl⟩
  rw [← hR]
  unfold fourB at hR
  obtain ⟨lb, hlb⟩ : ∃ lb, lb = l0.take 300 := ⟨_, rfl⟩
  rw [← hlb] at HF hR
  have HL := Aside0.mk hlb
  clear hlb
  obtain ⟨z, hz⟩ : ∃ z, ([b0, b1, b2, b3] == [0, 0, 0, 0]) = z := ⟨_, rfl⟩
  have heq : ∀ W, (binOp .eql 29 (.agg #[.int .u8 b0, .int .u8 b1, .int .u8 b2, .int .u8 b3]) (.agg #[.int .u8 0, .int .u8 0, .int .u8 0, .int .u8 0])).run Try.prog W = .ok (.bool z) W := fun W => by rw [← hz]; exact Go.Proofs.Ytkcompeflpnfhaa.ArrEq.run_eql_ints W 29 5 4 .u8 Try.underlying29 Try.underlying5 sz_u8 [b0, b1, b2, b3] [0, 0, 0, 0] rfl rfl
  rw [hz] at hR
  clear hz
  by_cases hE : lb = []
  · subst hE
    rw [if_pos rfl] at hR
    have HRR := Aside0.mk hR
    clear hR
    go_enter Try.func4, Try.ntmps4
    go_wp2_with (first | (go_at_call 8; refine (pintlelaw08_few.calls A0 c0 l0 _ _ (Kd.C_alloc HR.out _) hc0 HF.out).mono ?_; rintro e w1 ⟨v0, rfl, hv, hb⟩; obtain ⟨An, cn, rfl, hcn, hCn⟩ := Kd.R_reads hv; have HB1 := Aside0.mk hb; have hblk := box_blk hb; have q0 := blk_cell hblk 0; have q1 := blk_cell hblk 1; have q2 := blk_cell hblk 2; have q3 := blk_cell hblk 3; clear hblk; clear hv hCn hb) | (go_at_call 10; refine (lives_any _).mono ?_; rintro e w6 ⟨rfl, hb6⟩; have HB6 := Aside0.mk hb6; clear hb6))
    go_ret
    exact ⟨by rw [HRR.out]; rfl, ((Below.alloc (Below.refl _ _) (Nat.le_refl _) _).trans (HB1.out.mono (by simp))).trans (HB6.out.mono (by have := below_alloc_lt HB1.out; omega))⟩
  · by_cases hzz : z = true
    · subst hzz
      rw [if_neg hE, if_pos rfl] at hR
      have HRR := Aside0.mk hR
      clear hR
      go_enter Try.func4, Try.ntmps4
      go_wp2_with (first | (go_at_call 8; refine (pintlelaw08_few.calls A0 c0 l0 _ _ (Kd.C_alloc HR.out _) hc0 HF.out).mono ?_; rintro e w1 ⟨v0, rfl, hv, hb⟩; obtain ⟨An, cn, rfl, hcn, hCn⟩ := Kd.R_reads hv; have HB1 := Aside0.mk hb; have hblk := box_blk hb; have q0 := blk_cell hblk 0; have q1 := blk_cell hblk 1; have q2 := blk_cell hblk 2; have q3 := blk_cell hblk 3; clear hblk; clear hv hCn hb) | (go_at_call 10; refine (lives_any _).mono ?_; rintro e w6 ⟨rfl, hb6⟩; have HB6 := Aside0.mk hb6; clear hb6))
      go_ret
      exact ⟨by rw [HRR.out]; rfl, ((Below.alloc (Below.refl _ _) (Nat.le_refl _) _).trans (HB1.out.mono (by simp))).trans (HB6.out.mono (by have := below_alloc_lt HB1.out; omega))⟩
    · obtain rfl : z = false := by simpa using hzz
      clear hzz
      have hpos : 0 < lb.length := List.length_pos_iff.2 hE
      have HLN : Aside0 (lb.length ≤ 300) := ⟨by rw [HL.out]; simp; omega⟩
      rw [if_neg hE, if_neg (by simp)] at hR
      have HRR := Aside0.mk hR
      clear hR
      rcases four_cases a1 lb.length hpos HLN.out with ⟨p, hp, hpl, hneg, hw⟩ | ⟨p, hp, hpl, hw⟩
      all_goals
        have HP := Aside0.mk hp
        clear hp
        go_enter Try.func4, Try.ntmps4
        go_wp2_with (first | (go_at_call 8; refine (pintlelaw08_few.calls A0 c0 l0 lb _ (Kd.C_alloc HR.out _) hc0 HF.out).mono ?_; rintro e w1 ⟨v0, rfl, hv, hb⟩; obtain ⟨An, cn, rfl, hcn, hCn⟩ := Kd.R_reads hv; have HCN := Aside0.mk hCn; have HV := Aside0.mk hv; have HB1 := Aside0.mk hb; have hblk := box_blk hb; have HBLK := Aside0.mk hblk; have q0 := blk_cell hblk 0; have q1 := blk_cell hblk 1; have q2 := blk_cell hblk 2; have q3 := blk_cell hblk 3; clear hblk; clear hv hCn hb) | ((with_reducible refine gate_dst (N := 31) rfl ?_); refine Kd.R_lit (Kd.int .u8) _ 5 ?hg (N := 31) ?hd (xs := ([] : List Int)) (inner := []) (ok := fun _ => True) (okp := fun _ => True) ?hr ?hp (fun _ hk => hk) trivial (Below.refl _ _) (Nat.le_refl _) (by simp) ?_; (case hd => rfl); (case hg => rfl); (case hr => first | (go_simp; done) | (go_simp; rfl)); (case hp => exact (Reps.none _ _)); intro v2 w2 ho2 hb2 hg_ hnew_; have HO2 := Aside0.mk ho2; have HB2 := Aside0.mk hb2; clear hg_ hnew_ ho2 hb2) | ((with_reducible refine gate_builtin (b := .append) (xs := #[.tmp 31, .tmp 32]) rfl ?_); at_builtin; refine Kd.R_append_rows (Kd.int .u8) (w0 := w1) w1.heap.size rfl (.tmp 31) (.tmp 32) 22 5 (.int .u8 0) 1 rfl Try.underlying22 info5 rfl (by decide) (by omega) v2 [] lb _ _ _ (fun _ => True) (fun _ => False) rfl rfl HO2.out (Kd.C_below HCN.out HB2.out) (fun _ _ h => h) (fun _ h => h.elim) (fun _ _ => trivial) HB2.out HB2.out.size ?aL ?_; (case aL => have := HLN.out; simp; omega); intro v3 w3 ho3 hb3 hg_ hat_; rw [List.nil_append] at ho3; obtain ⟨g, cap, rfl, hgb, hgl, cells, hgc⟩ := Kd.R_form ho3 hpos; have HO3 := Aside0.mk ho3; have HB3 := Aside0.mk hb3; have HGB := Aside0.mk hgb; clear hg_ hat_ ho3 hb3 hgb hgl hgc; clear cells))
        go_loopw [8, 9] (fun o i wr => ∃ k : Nat, k ≤ 4 ∧ (k = 0 ∨ p + k ≤ lb.length) ∧ i = .int .i64 k ∧ o = .bool (fourO b0 b1 b2 b3 k) ∧ Aside0 (Kd.R (Kd.int .u8) 5 wr w1.heap.size (fun _ => True) (.slice (some ⟨g, 0, none⟩) (fourC b0 b1 b2 b3 p lb k).length cap) (fourC b0 b1 b2 b3 p lb k)) ∧ Aside0 (Below w1.heap.size w1 wr)) (fun _ i _ => 4 - (intOf i).toNat)
        case atStart => exact ⟨0, by omega, .inl rfl, rfl, rfl, HO3, HB3⟩
        case round =>
          obtain ⟨k, hk, hkl, rfl, rfl, ho, hb⟩ := hrel
          by_cases hlt : k < 4 ∧ p + k < lb.length
          · obtain ⟨hk4, hkn⟩ := hlt
            obtain ⟨c, hc⟩ : ∃ c, c = fourC b0 b1 b2 b3 p lb k := ⟨_, rfl⟩
            have hcl : c.length = lb.length := by rw [hc]; exact fourC_length _ _ _ _ _ _ _
            rw [← hc, hcl] at ho
            have hby := by_cell ((hb.out.block _ (below_alloc_lt HB1.out)).trans HBLK.out) hk4
            obtain ⟨hcell, hfr⟩ := Kd.R_cell (enc := Value.int .u8) (0 : Int) (by have := ho.out; rw [← hcl] at this; exact this) ((p + k : Nat) : Int) (by omega) (by omega)
            simp only [Int.toNat_natCast] at hcell hfr
            have HC := Aside0.mk hc
            have h300 := HLN.out
            clear hc
            go_wp2
            have hbwr := (hb.out.block w.heap.size (below_alloc_lt HB1.out)).trans HBLK.out
            have hby2 : ∀ x, (wr.setCell ⟨g, p + k, none⟩ x).cell? ⟨w.heap.size, k, none⟩ = some (.int .u8 (byAt b0 b1 b2 b3 k)) := fun x => by_cell (blk_far hbwr (by have := HGB.out; have := (below_alloc_lt HB1.out); show w.heap.size ≠ g; omega) x) hk4
            have HPUT := Aside0.mk (Kd.R_put (enc := Value.int .u8) (by have := ho.out; rw [← hcl] at this; exact this) ((p + k : Nat) : Int) ((rd c ((p + k : Nat) : Int) + byAt b0 b1 b2 b3 k) % 256) |>.1)
            clear hbwr
            go_region
            clear hcell hfr hby
            by_cases hok : fourO b0 b1 b2 b3 k = true
            all_goals
              go_wp2
              go_roundw
              case measure => simp [intOf]; omega
              case rel =>
                refine ⟨k + 1, by omega, .inr (by omega), by go_num, by unfold fourO; simp [hok], ⟨?_⟩, ⟨below_drew (hb.out.setCell HGB.out _)⟩⟩
                have e1 : fourC b0 b1 b2 b3 p lb (k + 1) = c.set (p + k) ((rd c ((p + k : Nat) : Int) + byAt b0 b1 b2 b3 k) % 256) := by rw [HC.out]; rfl
                have e2 : (fourC b0 b1 b2 b3 p lb (k + 1)).length = c.length := by rw [e1, List.length_set]
                have e3 : (p : Int) + (k : Int) = ((p + k : Nat) : Int) := by omega
                rw [e2, e1, e3]
                exact Kd.R_drew HPUT.out
          · have hkN : k = fourN p lb.length := by unfold fourN; split <;> omega
            obtain ⟨c, hc⟩ : ∃ c, c = fourC b0 b1 b2 b3 p lb k := ⟨_, rfl⟩
            have hcl : c.length = lb.length := by rw [hc]; exact fourC_length _ _ _ _ _ _ _
            rw [← hc] at ho
            have HC := Aside0.mk hc
            have h300 := HLN.out
            have HKN := Aside0.mk hkN
            have hs1 : crc_Sum.f lb = some (moreV 0 lb) := rfl
            have hs2 : crc_Sum.f c = some (moreV 0 c) := rfl
            have HS1 := Aside0.mk hs1
            have HS2 := Aside0.mk hs2
            clear hc hkN hs1 hs2
            have hcr := Kd.R_reads' ho.out
            have HC1 := Aside0.mk (Kd.C_below HCN.out hb.out)
            have HC2 := Aside0.mk hcr.2.2
            have HC3 := Aside0.mk hcr.2.1
            clear hcr
            have HCALL := Aside0.mk (show ∀ W, Kd.C (Kd.int .u8) W (some ⟨g, 0, none⟩) c.length c → Calls Try.prog 7 #[.slice (some ⟨g, 0, none⟩) lb.length cap] W fun e w' => e = .returned (.int .u32 (moreV 0 c)) ∧ Below W.heap.size W w' from fun W hC => by rw [← hcl]; exact crc_Sum.calls (some ⟨g, 0, none⟩) cap c (moreV 0 c) W hC HC3.out HS2.out)
            have hrr : R = (fourO b0 b1 b2 b3 k == (moreV 0 lb != moreV 0 c)) := by rw [HRR.out, HP.out, Int.toNat_natCast, ← HKN.out, ← HC.out]
            have HX := Aside0.mk hrr.symm
            have hrr' := hrr.symm
            clear hrr
            by_cases hk4 : k = 4
            · subst hk4
              cases R
              all_goals
                go_wp2_with (first | (go_at_call 7; with_reducible refine (crc_Sum.calls An cn lb _ _ HC1.out hcn HS1.out).mono ?_; rintro e w4 ⟨rfl, hb4⟩; have HB4 := Aside0.mk hb4; clear hb4) | (go_at_call 7; refine (HCALL.out _ (Kd.C_below HC2.out HB4.out)).mono ?_; rintro e w5 ⟨rfl, hb5⟩; have HB5 := Aside0.mk hb5; clear hb5) | (go_at_call 10; refine (lives_any _).mono ?_; rintro e w6 ⟨rfl, hb6⟩; have HB6 := Aside0.mk hb6; clear hb6))
                go_ret
                refine ⟨rfl, ?_⟩
                have z1 := (Below.alloc (Below.refl w.heap.size w) (Nat.le_refl _) (.cells #[.int .u8 b0, .int .u8 b1, .int .u8 b2, .int .u8 b3] 29)).trans (HB1.out.mono (by simp))
                have z2 := z1.trans (hb.out.mono z1.size)
                have z3 := (z2.trans (HB4.out.mono z2.size))
                have z4 := (z3.trans (HB5.out.mono z3.size))
                first | exact z4 | exact z4.trans (HB6.out.mono z4.size)
            · have hge : ¬ p + k < lb.length := by omega
              cases R
              all_goals
                go_wp2_with (first | (go_at_call 7; with_reducible refine (crc_Sum.calls An cn lb _ _ HC1.out hcn HS1.out).mono ?_; rintro e w4 ⟨rfl, hb4⟩; have HB4 := Aside0.mk hb4; clear hb4) | (go_at_call 7; refine (HCALL.out _ (Kd.C_below HC2.out HB4.out)).mono ?_; rintro e w5 ⟨rfl, hb5⟩; have HB5 := Aside0.mk hb5; clear hb5) | (go_at_call 10; refine (lives_any _).mono ?_; rintro e w6 ⟨rfl, hb6⟩; have HB6 := Aside0.mk hb6; clear hb6))
                go_ret
                refine ⟨rfl, ?_⟩
                have z1 := (Below.alloc (Below.refl w.heap.size w) (Nat.le_refl _) (.cells #[.int .u8 b0, .int .u8 b1, .int .u8 b2, .int .u8 b3] 29)).trans (HB1.out.mono (by simp))
                have z2 := z1.trans (hb.out.mono z1.size)
                have z3 := (z2.trans (HB4.out.mono z2.size))
                have z4 := (z3.trans (HB5.out.mono z3.size))
                first | exact z4 | exact z4.trans (HB6.out.mono z4.size)
def pintlelaw08_CrcFour.f (l0 : List Int) (a1 : Int) (l2 : List Int) : Option Bool :=
  match l2 with
  | [b0, b1, b2, b3] => some (fourB l0 a1 b0 b1 b2 b3)
  | _ => none
theorem pintlelaw08_CrcFour.calls (A0 : Option Addr) (c0 : Nat) (l0 : List Int) (a1 : Int) (l2 : List Int) (r : Bool) (w : World) (hr0 : Kd.C (Kd.int .u8) w A0 l0.length l0) (hc0 : l0.length ≤ c0) (hl2 : l2.length = 4) (h : pintlelaw08_CrcFour.f l0 a1 l2 = some r) :
    Calls Try.prog 4 #[.slice A0 l0.length c0, .int .i64 a1, .agg (l2.map (Value.int .u8)).toArray] w fun e w' => e = .returned (.bool r) ∧ Below w.heap.size w w' := by
  match l2, hl2 with
  | [b0, b1, b2, b3], _ =>
    obtain rfl := Option.some.inj h
    exact four_calls A0 c0 l0 a1 b0 b1 b2 b3 w hr0 hc0

end Go.Proofs.Ytkcompeflpnfhaa.PA
