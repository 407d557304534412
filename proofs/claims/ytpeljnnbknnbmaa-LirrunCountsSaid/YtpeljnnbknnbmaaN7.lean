import Derived.Test.YtpeljnnbknnbmaaN6
namespace Go.Proofs.Ytpeljnnbknnbmaa.PD
open Go.RowKit Go.Proofs.YtpeljnnbknnbmaaW.PrintWords Go.Proofs.YtpeljnnbknnbmaaW.PrintLast Go.Proofs.YtpeljnnbknnbmaaW.PrintMore
set_option linter.unusedVariables false
set_option linter.unusedSimpArgs false
theorem results_tmp4 {fn : Func} {t u v x : Tmp} (h : fn.results = #[.tmp t, .tmp u, .tmp v, .tmp x]) (tmps : Array Value) (P : Program) (w : World) :
    (results fn tmps).run P w = .ok (.tuple #[tmps.getD t undef, tmps.getD u undef, tmps.getD v undef, tmps.getD x undef]) w := by
  simp [results, h]
/-- one step of a program that has no step of memory: where it is, its variables -/
def pStep (l : List S49) (E : List Int) (s : Int × List Int) : Int × List Int :=
  if (rd_T49 l s.1).f0 = 24 then
    ((if (rd s.2 (rd_T49 l (rd E s.1)).f1 - 1) % 4294967296 = 0 then s.1 else rd E s.1) + 1, s.2.set (rd_T49 l (rd E s.1)).f1.toNat ((rd s.2 (rd_T49 l (rd E s.1)).f1 - 1) % 4294967296))
  else (s.1 + 1, pV (rd_T49 l s.1) s.2)
def pRun (l : List S49) (E : List Int) : Nat → Int × List Int
  | 0 => (0, List.replicate 64 0)
  | k + 1 => pStep l E (pRun l E k)
/-- a step that can be done where the program is -/
structure POn (l : List S49) (E : List Int) (s : Int × List Int) : Prop where
  u : ∀ x ∈ s.2, U32 x
  len : s.2.length = 64
  at0 : 0 ≤ s.1
  at1 : s.1 < l.length
  ok : POk (rd_T49 l s.1) ∨ (rd_T49 l s.1).f0 = 24 ∧ 0 ≤ rd E s.1 ∧ rd E s.1 < l.length ∧ 0 ≤ (rd_T49 l (rd E s.1)).f1 ∧ (rd_T49 l (rd E s.1)).f1 < 64
theorem plain_on (w : World) (g : Nat) (la ea : Addr) (lc ec : Nat) (mv : Value) (l : List S49) (E : List Int) (s : Int × List Int) (hs : POn l E s) (hEl : E.length = l.length) (hC : Kd.C k49 w (some la) l.length l) (hE : Kd.C (Kd.int .i64) w (some ea) E.length E)
    (h : RnAt w g (.slice (some la) l.length lc) (.slice (some ea) E.length ec) mv s.1 s.2) (hg : la.block ≠ g) :
    Calls Try.prog 60 #[.pointer (some ⟨g, 0, none⟩), .agg #[.int .i64 (rd_T49 l s.1).f0, .int .i64 (rd_T49 l s.1).f1, .int .i64 (rd_T49 l s.1).f2, .int .i64 (rd_T49 l s.1).f3, .int .i32 (rd_T49 l s.1).f4]] w
      (PlainTold w g (.slice (some la) l.length lc) (.slice (some ea) E.length ec) mv ((pStep l E s).1 - 1) (pStep l E s).2) := by
  obtain ⟨hu, hl, h0, h1, hok⟩ := hs
  obtain ⟨at_, V⟩ := s
  simp only at hu hl h0 h1 hok h ⊢
  unfold pStep
  simp only
  rcases hok with hx | ⟨hx, hf0, hf1, hd0, hd1⟩
  · have hne : ¬ ((rd_T49 l at_).f0 = 24) := by have := hx.o; omega
    rw [if_neg hne]
    simp only
    rw [show at_ + 1 - 1 = at_ by omega]
    exact plain_some w g _ _ mv at_ V h hu hl _ hx
  · rw [if_pos hx]
    simp only
    obtain ⟨k, rfl⟩ : ∃ k : Nat, at_ = k := ⟨at_.toNat, by omega⟩
    have := plain_end_l w g la ea lc ec mv k V E l hC hE h (by omega) hf0 hf1 hd0 hd1 hg _ hx
    rw [show ∀ z : Int, z + 1 - 1 = z from fun z => by omega]
    exact this
theorem pStep_at {l : List S49} {E : List Int} {s : Int × List Int} (h : POn l E s) : 0 ≤ (pStep l E s).1 - 1 ∧ (pStep l E s).1 - 1 < l.length := by
  have h0 := h.at0
  have h1 := h.at1
  unfold pStep
  rcases h.ok with hx | ⟨hx, hf0, hf1, _, _⟩
  · have hne : ¬ ((rd_T49 l s.1).f0 = 24) := by have := hx.o; omega
    rw [if_neg hne]
    exact ⟨by show 0 ≤ s.1 + 1 - 1; omega, by show s.1 + 1 - 1 < _; omega⟩
  · rw [if_pos hx]
    show 0 ≤ (if _ then s.1 else rd E s.1) + 1 - 1 ∧ (if _ then s.1 else rd E s.1) + 1 - 1 < (l.length : Int)
    split <;> omega
set_option maxRecDepth 100000 in
set_option maxHeartbeats 8000000 in
theorem run_plain (w : World) (la : Addr) (lc : Nat) (l : List S49) (hC : Kd.C k49 w (some la) l.length l) (hlc : l.length ≤ lc) (kc : Nat) (hchk : lir_Check.f kc l = some 0) (E : List Int) (eb : Bool) (hends : lir_Ends.f kc l = some (E, eb)) (hEl : E.length = l.length) (hl0 : 0 < l.length) (mp : Option Addr)
    (N fuel : Nat) (hfuel : (fuel : Int) < 9223372036854775807) (hlm : (l.length : Int) < 9223372036854775807) (hN : N ≤ fuel) (hon : ∀ k, k < N → POn l E (pRun l E k)) (h0 : 0 ≤ (pRun l E N).1) (hend : ¬ ((pRun l E N).1 < l.length ∧ N < fuel)) :
    Calls Try.prog 30 #[.slice (some la) l.length lc, .pointer mp, .int .i64 fuel] w fun e w' => ∃ g ev, w.heap.size ≤ g ∧ e = .returned (.tuple #[.slice (some ⟨g, 4, none⟩) 64 64, .int .i64 N, .int .i64 0, .int .i64 0]) ∧ RnAt w' g (.slice (some la) l.length lc) ev (.pointer mp) (pRun l E N).1 (pRun l E N).2 ∧ Below w.heap.size w w' := by
  have HC := Aside0.mk hC
  have HCH := Aside0.mk hchk
  have HEN := Aside0.mk hends
  have HON := Aside0.mk hon
  have HEND := Aside0.mk hend
  clear hC hchk hends hon hend
  go_enter Try.func30, Try.ntmps30
  go_wp2_with (first
    | (go_at_call 50; (with_reducible refine (lir_Check.calls kc _ _ l 0 _ HC.out hlc HCH.out).mono ?_); rintro e w1 ⟨rfl, hb1⟩; have HB1 := Aside0.mk hb1; clear hb1)
    | (go_at_call 58; (with_reducible refine (lir_Ends.calls kc _ _ l E eb _ (Kd.C_below HC.out HB1.out) hlc HEN.out).mono ?_); rintro e w2 ⟨v0, rfl, hv, hb2⟩; obtain ⟨A0, c0, rfl, hc0, hC2⟩ := Kd.R_reads hv; have HB2 := Aside0.mk hb2; have HC2 := Aside0.mk hC2; clear hb2 hv hC2)
    | (refine wpList_built rfl 102 _ rfl #[(0, .slice (some la) l.length lc), (1, .slice A0 E.length c0), (2, .pointer mp)] rfl _ (run_build102 _ _ _ _ _ _ _ _) ?_))
  obtain ⟨ea, _, hea, _, _, _⟩ := Kd.C_get HC2.out (0 : Int) 0 (by omega) (by omega)
  subst hea
  have hlw : w.heap.size ≤ w2.heap.size := (HB1.out.trans (HB2.out.mono HB1.out.size)).size
  have hR0 : RnAt (w2.alloc (.cells (rnC0 (.slice (some la) l.length lc) (.slice (some ea) l.length c0) (.pointer mp)) 102)) w2.heap.size (.slice (some la) l.length lc) (.slice (some ea) l.length c0) (.pointer mp) 0 (List.replicate 64 0) := ⟨_, heap_alloc_new w2 _, rnC0_ok _ _ _⟩
  have HR0 := Aside0.mk hR0
  have HLA := Aside0.mk (show la.block ≠ w2.heap.size from by have := Kd.C_lt HC.out hl0 (by show 0 < 5; omega); omega)
  have HCW := Aside0.mk (fun (W : World) (hW : Below w2.heap.size w2 W) => Kd.C_below HC.out ((HB1.out.trans (HB2.out.mono HB1.out.size)).trans (hW.mono hlw)))
  have HEW := Aside0.mk (fun (W : World) (hW : Below w2.heap.size w2 W) => Kd.C_below HC2.out hW)
  have HALW := Aside0.mk (HB1.out.trans (HB2.out.mono HB1.out.size))
  clear hR0
  go_loopw [14] (fun i wr => ∃ k : Nat, k ≤ N ∧ i = .int .i64 k ∧ Aside0 (RnAt wr w2.heap.size (.slice (some la) l.length lc) (.slice (some ea) l.length c0) (.pointer mp) (pRun l E k).1 (pRun l E k).2) ∧ Aside0 (Below w2.heap.size w2 wr)) (fun i _ => N - (intOf i).toNat)
  case atStart => exact ⟨0, by omega, rfl, HR0, ⟨below_alloc (Below.refl _ _) _⟩⟩
  case round =>
    obtain ⟨k, hk, rfl, hR, hB⟩ := hrel
    by_cases h1 : k < N
    · have hon := HON.out k h1
      have g3 := hR.out.ga
      have hlt := hR.out.lt
      have hfz := hR.out.frozen 3
      obtain ⟨s, hs⟩ : ∃ s, s = pRun l E k := ⟨_, rfl⟩
      have hnx : pRun l E (k + 1) = pStep l E s := by rw [hs]; rfl
      rw [← hs] at hon g3 hR
      have hst := pStep_at hon
      have ha0 := hon.at0
      have ha1 := hon.at1
      obtain ⟨ad, ee, e0, e1, e2, e3, e4⟩ := at_T49 (HCW.out _ hB.out) s.1 ha0 ha1
      injection ee with ee
      subst ee
      obtain ⟨at_, hat⟩ : ∃ at_ : Nat, s.1 = at_ := ⟨s.1.toNat, by omega⟩
      have hai : (at_ : Int) < l.length := by omega
      have hkf : (k : Int) < fuel := by omega
      have hb1 : decide ((at_ : Int) < (l.length : Int)) = true := decide_eq_true hai
      have hb2 : decide ((k : Int) < (fuel : Int)) = true := decide_eq_true hkf
      have HO := Aside0.mk (fun (W : World) (hW : Below w2.heap.size w2 W) (hr : RnAt W w2.heap.size (.slice (some la) l.length lc) (.slice (some ea) l.length c0) (.pointer mp) s.1 s.2) => plain_on W w2.heap.size la ea lc c0 (.pointer mp) l E s hon hEl (HCW.out W hW) (HEW.out W hW) (by rw [hEl]; exact hr) HLA.out)
      obtain ⟨xx, hxx⟩ : ∃ xx, xx = rd_T49 l s.1 := ⟨_, rfl⟩
      have hno : ¬ (17 ≤ xx.f0 ∧ xx.f0 ≤ 22) := by
        rw [hxx]
        rcases hon.ok with h | h
        · have := h.o; omega
        · omega
      rw [← hxx] at e0 e1 e2 e3 e4 HO
      rw [hat] at e0 e1 e2 e3 e4 g3
      simp only [Int.toNat_natCast] at e0 e1 e2 e3 e4
      have HAT := Aside0.mk hat
      have HNX := Aside0.mk hnx
      clear hxx hon ha0 ha1 hat hnx hs
      have HST := Aside0.mk hst
      have HLM := Aside0.mk hlm
      have HEL := Aside0.mk hEl
      have HLW := Aside0.mk hlw
      clear hst hEl hlw h0 hl0 hN hlc hlm hb1 hb2
      by_cases h17 : 17 ≤ xx.f0
      all_goals try have h22 : ¬ (xx.f0 ≤ 22) := fun h => hno ⟨h17, h⟩
      all_goals clear hno
      all_goals
        go_wp2_with (go_at_call 60; go_loud ((with_reducible refine (HO.out _ ?h1 ?h2).mono ?_); (case h1 => exact below_alloc hB.out _); (case h2 => exact RnAt.alloc hR.out _); rintro e w5 ⟨rfl, hr5, hk5⟩; have hz5 := HST.out; obtain ⟨a5, ha5⟩ : ∃ a5 : Nat, (pStep l E s).1 - 1 = a5 := ⟨((pStep l E s).1 - 1).toNat, by omega⟩; rw [ha5] at hr5; have g5 := hr5.ga; have f5 := hr5.frozen 3; have hw5 : (a5 : Int) + 1 < 9223372036854775808 := (by have := HLM.out; omega); have hw6 : (k : Int) + 1 < 9223372036854775808 := (by omega); have HA5 := Aside0.mk ha5; have HR5 := Aside0.mk hr5; have HK5 := Aside0.mk hk5; clear hr5 hk5 hz5 ha5))
        go_roundw
        case rel =>
          refine ⟨k + 1, by omega, by go_num, ⟨?_⟩, ⟨?_⟩⟩
          · rw [HNX.out, show (pStep l E s).1 = (a5 : Int) + 1 from by have := HA5.out; omega]
            have hq := RnAt.setA HR5.out ((a5 : Int) + 1)
            rw [HEL.out] at hq
            exact hq
          · exact ((below_alloc hB.out _).trans (HK5.out.below w2.heap.size (below_alloc hB.out _).size (fun i hi => by omega))).setCell (Nat.le_refl _) _
        case measure => simp [intOf]; omega
    · obtain rfl : k = N := by omega
      have hend := HEND.out
      have g3 := hR.out.ga
      have hlt := hR.out.lt
      obtain ⟨s, hs⟩ : ∃ s, s = pRun l E k := ⟨_, rfl⟩
      rw [← hs] at hend g3 hR h0
      have HS := Aside0.mk hs
      obtain ⟨at_, hat⟩ : ∃ at_ : Nat, s.1 = at_ := ⟨s.1.toNat, by omega⟩
      rw [hat] at hend g3
      have HAT := Aside0.mk hat
      have HLW := Aside0.mk hlw
      clear hs hat hEl hlw h0 hl0 hlc hlm HON HEND hN h1
      by_cases hA : (at_ : Int) < l.length
      all_goals try have hB2 : ¬ ((k : Int) < fuel) := (fun h => hend ⟨hA, (by omega)⟩)
      all_goals clear hend
      all_goals
        go_wp2
        rw [← HS.out]
        (try simp only [Exit.inBlock, Exit.then])
        refine bodyPost_ret (results_tmp4 rfl _ _ _) rfl ?_
        first | exact ⟨w2.heap.size, HLW.out, rfl, ⟨_, hR.out⟩, HALW.out.trans (hB.out.mono HLW.out)⟩ | exact ⟨w2.heap.size, _, HLW.out, rfl, hR.out, HALW.out.trans (hB.out.mono HLW.out)⟩
end Go.Proofs.Ytpeljnnbknnbmaa.PD
