-- Written by pr.py, a driver around the kit's printer, for this seat. Not trusted: Lean checks it.
import Derived.Test.YtpeljnnbknnbmaaPAx0
namespace Go.Proofs.Ytpeljnnbknnbmaa.PA
open Go.RowKit Go.Proofs.YtpeljnnbknnbmaaW.PrintWords Go.Proofs.YtpeljnnbknnbmaaW.PrintLast Go.Proofs.YtpeljnnbknnbmaaW.PrintMore
attribute [local go_sem] max2_int min2_int max_two min_two max_three min_three max_four min_four   -- for this text's walks alone
set_option linter.unusedVariables false
set_option linter.unusedSimpArgs false

--BREAK 
/-! ### quant_vars: function 41 -/
open Go.Maps (Keyed) in
theorem own_lookup_bool {H : Type} {P : Program} {w : World} {k t e : TypeId} {b n : Nat} {D : DataW H} (h : w.ownsMap P k (plainElem P e) b n D) (K : Keyed P k) (ht : P.underlying t = some (.map k e)) (he : P.underlying e = some .bool) (hz : (zeroValue e).run P w = .ok (.bool false) w)
    {key : Value} {kl : Lit} (hkey : keyOf P k key = some kl) {c : Bool} (hc : D.atKey kl (.lit (.bool false)) = .lit (.bool c)) : (Instr.lookup t (.map (some b)) key false).run P w = .ok (.bool c) w := by
  obtain ⟨v, ps, hrun, hv⟩ := h.lookup K ht hz (plainElem_bool he false) hkey
  rw [hc] at hv
  unfold plainElem at hv
  rw [he] at hv
  cases v <;> simp at hv
  obtain ⟨rfl, _⟩ := hv
  exact hrun
def varsD : List Int → DataW Unit
  | [] => .map []
  | v :: seen => (varsD seen).put (.int .i64 v) (.lit (.bool true))
theorem varsD_map : ∀ seen, Maps.IsMap (varsD seen)
  | [] => ⟨[], rfl⟩
  | _ :: seen => (varsD_map seen).put _ _
theorem varsD_at (x : Int) : ∀ seen, (varsD seen).atKey (.int .i64 x) (.lit (.bool false)) = .lit (.bool (decide (x ∈ seen)))
  | [] => by simp [varsD, DataW.atKey]
  | v :: seen => by
    unfold varsD
    by_cases h : x = v
    · subst h
      rw [Maps.atKey_put_same (varsD_map _) (show WideAt.IsKeyLit (.int .i64 x) from trivial)]
      simp
    · rw [Maps.atKey_put_other (by simp [h]), varsD_at x seen]
      simp [h]
/-- variables that may be, all different (and none seen before) -/
def varsFrom : List Int → List Int → Bool
  | _, [] => true
  | seen, v :: r => if v < 0 ∨ 64 ≤ v ∨ v ∈ seen then false else varsFrom (v :: seen) r
theorem varsFrom_drop (seen l : List Int) (k : Nat) (h : k < l.length) : varsFrom seen (l.drop k) = if rd l k < 0 ∨ 64 ≤ rd l k ∨ rd l k ∈ seen then false else varsFrom (rd l k :: seen) (l.drop (k + 1)) := by
  rw [List.drop_eq_getElem_cons h]
  have : rd l k = l[k] := by unfold rd; rw [Int.toNat_natCast, List.getD_eq_getElem?_getD, List.getElem?_eq_getElem h]; rfl
  rw [this]
  rfl
theorem zero_bool (w : World) : (zeroValue 4).run Try.prog w = .ok (.bool false) w := by kernel_rfl
theorem i64_keyed : Maps.Keyed Try.prog 3 := Maps.int_keyed Try.underlying3
set_option maxHeartbeats 4000000 in
theorem vars_calls (A0 : Option Addr) (c0 : Nat) (l0 : List Int) (w : World) (hr0 : Kd.C (Kd.int .i64) w A0 l0.length l0) (hc0 : l0.length ≤ c0) (hm : l0.length < maxLen) :
    Calls Try.prog 41 #[.slice A0 l0.length c0] w fun e w' => e = .returned (.bool (varsFrom [] l0)) ∧ Below w.heap.size w w' := by
  have HR := Aside0.mk hr0
  have HM := Aside0.mk hm
  have hmax := Kd.C_max hr0
  clear hr0 hm
  have hmm := @run_makeMap Try.prog
  obtain ⟨res, hres⟩ : ∃ res, res = varsFrom [] l0 := ⟨_, rfl⟩
  have HRES := Aside0.mk hres
  rw [← hres]
  clear hres
  go_enter Try.func41, Try.ntmps41
  go_wp2
  go_loopw [9] (fun i wr => ∃ (k : Nat) (seen : List Int), k ≤ l0.length ∧ i = .int .i64 k ∧ Aside0 (wr.ownsMap Try.prog 3 (plainElem Try.prog 4) w.heap.size k (varsD seen)) ∧ Aside0 (Below w.heap.size w wr) ∧ Aside0 (res = varsFrom seen (l0.drop k))) (fun i _ => l0.length - (intOf i).toNat)
  case atStart => exact ⟨0, [], Nat.zero_le _, rfl, ⟨World.ownsMap_made _ _ _ _⟩, ⟨(Below.refl _ _).alloc (Nat.le_refl _) _⟩, HRES⟩
  case round =>
    obtain ⟨k, seen, hk, rfl, hown, hbel, hv⟩ := hrel
    clear HRES
    by_cases hlt : k < l0.length
    · obtain ⟨ad, rfl, hx0⟩ := Kd.at_int HR.out (k : Int) (by omega) (by omega)
      simp only [Int.toNat_natCast] at hx0
      have hx : wr.cell? (ad.add k) = some (.int .i64 (rd l0 k)) := pw_cell_below hbel.out hx0
      clear hx0
      have hs := varsFrom_drop seen l0 k hlt
      rw [← hv.out] at hs
      obtain ⟨v, hvv⟩ : ∃ v, v = rd l0 k := ⟨_, rfl⟩
      rw [← hvv] at hs hx
      have HS := Aside0.mk hs
      clear hs hv hvv
      by_cases h1 : v < 0
      · have e := HS.out
        rw [if_pos (.inl h1)] at e
        have HE := Aside0.mk e
        clear e
        go_wp2
        go_ret
        exact ⟨by rw [HE.out]; rfl, hbel.out⟩
      · by_cases h2 : 64 ≤ v
        · have e := HS.out
          rw [if_pos (.inr (.inl h2))] at e
          have HE := Aside0.mk e
          clear e
          go_wp2
          go_ret
          exact ⟨by rw [HE.out]; rfl, hbel.out⟩
        · have hkey : keyOf Try.prog 3 (.int .i64 v) = some (.int .i64 v) := Go.Maps.keyOf_int_mk Try.underlying3 (WalkArith.wf_i64 (by omega))
          have hlk := own_lookup_bool hown.out i64_keyed Try.underlying114 Try.underlying4 (zero_bool _) hkey (varsD_at v seen)
          by_cases h3 : v ∈ seen
          · have e := HS.out
            rw [if_pos (.inr (.inr h3))] at e
            rw [decide_eq_true h3] at hlk
            have HE := Aside0.mk e
            clear e hkey h3
            go_wp2
            go_ret
            exact ⟨by rw [HE.out]; rfl, hbel.out⟩
          · have e := HS.out
            rw [if_neg (by simp [h3]; omega)] at e
            rw [decide_eq_false h3] at hlk
            have HE := Aside0.mk e
            have HK := Aside0.mk hkey
            clear e hkey h3
            go_wp2_with (at_mapUpdate; refine wpList_mapUpdate_own _ rfl _ _ _ 114 rfl 3 4 i64_keyed Try.underlying114 _ w.heap.size k _ rfl hown.out (by have := HM.out; unfold maxLen at *; omega) _ _ _ rfl rfl HK.out _ [] (plainElem_bool Try.underlying4 true) ?_; intro w1 hown1 hgrow1)
            have HO := Aside0.mk hown1
            have HB := Aside0.mk (hbel.out.grown hgrow1 hbel.out.size (fun j hj => by cases hj; exact Nat.le_refl _))
            clear hown1 hgrow1 hlk
            go_wp2
            go_roundw
            case rel => exact ⟨k + 1, v :: seen, by omega, by go_num, HO, HB, HE⟩
            case measure => simp [intOf]; omega
    · obtain rfl : k = l0.length := by omega
      have e := hv.out
      rw [List.drop_length] at e
      have HE := Aside0.mk (show res = true from e)
      clear e hv
      go_wp2
      go_ret
      exact ⟨by rw [HE.out]; rfl, hbel.out⟩
def quant_vars.f (l0 : List Int) : Option Bool := if l0.length < maxLen then some (varsFrom [] l0) else none
theorem quant_vars.calls (A0 : Option Addr) (c0 : Nat) (l0 : List Int) (r : Bool) (w : World) (hr0 : Kd.C (Kd.int .i64) w A0 l0.length l0) (hc0 : l0.length ≤ c0) (h : quant_vars.f l0 = some r) :
    Calls Try.prog 41 #[.slice A0 l0.length c0] w fun e w' => e = .returned (.bool r) ∧ Below w.heap.size w w' := by
  unfold quant_vars.f at h
  split at h
  · rename_i hm
    obtain rfl := Option.some.inj h
    exact vars_calls A0 c0 l0 w hr0 hc0 hm
  · exact absurd h (by simp)

end Go.Proofs.Ytpeljnnbknnbmaa.PA
