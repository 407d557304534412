import Derived.Test.YtpeljnnbknnbmaaPDx0
import Derived.Test.YtpeljnnbknnbmaaN8
import Derived.Outline
namespace Go.Proofs.Ytpeljnnbknnbmaa.PD
open Go.RowKit Go.Proofs.YtpeljnnbknnbmaaW.PrintWords Go.Proofs.YtpeljnnbknnbmaaW.PrintLast Go.Proofs.YtpeljnnbknnbmaaW.PrintMore
set_option linter.unusedVariables false
set_option linter.unusedSimpArgs false
/-- the program whose counts are told: a loop of n rounds over the counter c -/
def cntL (c n : Int) : List S49 := [⟨23, c, 0, 0, n⟩, ⟨3, 0, 0, c, 0⟩, ⟨13, 63, 63, 0, 1⟩, ⟨24, 0, 0, 0, 0⟩]
theorem cnt_ends (c n : Int) : lir_ends.f 35 (cntL c n) = some ([3, -1, -1, 0], true) := by kernel_rfl
theorem cnt_ends' (c n : Int) : lir_ends.f 40 (cntL c n) = some ([3, -1, -1, 0], true) := by kernel_rfl
theorem contains_nil (k : Nat) (x : Int) : slices_Contains_int_int.f (k + 1) [] x = some false := by
  simp only [slices_Contains_int_int.f, slices_Index_int_int.f, slices_Index_int_int.l0]
  rw [if_neg (by decide)]
  rfl
theorem contains_one (k : Nat) (c x : Int) (h : ¬ x = c) : slices_Contains_int_int.f (k + 2) [c] x = some false := by
  simp only [slices_Contains_int_int.f, slices_Index_int_int.f, slices_Index_int_int.l0]
  rw [if_pos (show (0 : Int) < (([c] : List Int).length : Int) by simp), if_pos (by decide), if_pos (show (0 : Int) < (([c] : List Int).length : Int) by simp), if_neg (show ¬ x = rd [c] 0 from h)]
  rw [if_neg (show ¬ wrap64 (0 + 1) < (([c] : List Int).length : Int) by rw [show wrap64 (0 + 1) = 1 by kernel_rfl]; simp)]
  rfl
theorem chk_step (k : Nat) (L : List S49) (n i : Int) (h : i < n) (h0 : 0 ≤ i) (h1 : i < (L.length : Int)) (o p q r m : Int) (hx : rd_T49 L i = ⟨o, p, q, r, m⟩) (a b c : Bool) (d e : Int) (hc : lir_can.f k o p q r m = some (a, b, c, d, e, true)) :
    lir_Check.l0 (k + 1) L L n i = lir_Check.l0 k L L n (wrap64 (i + 1)) := by
  simp only [lir_Check.l0]
  rw [if_pos h, if_pos h0, if_pos h1, hx]
  simp only
  rw [hc]
  rfl
theorem kept_step (k : Nat) (L : List S49) (C : List Int) (n i : Int) (h : i < n) (h0 : 0 ≤ i) (h1 : i < (L.length : Int)) (o p q r m : Int) (hx : rd_T49 L i = ⟨o, p, q, r, m⟩) (a b c : Bool) (d e : Int) (g : Bool) (hof : lir_of.f k o = some (a, b, c, d, e, g)) (hcon : a = true → slices_Contains_int_int.f k C p = some false) :
    lir_kept.l0 (k + 1) C L n i = lir_kept.j1 k C L n i false o p q r m := by
  simp only [lir_kept.l0]
  rw [if_pos h, if_pos h0, if_pos h1, hx]
  simp only
  rw [hof]
  simp only [Option.bind_some]
  cases a with
  | true => rw [if_pos rfl, hcon rfl]; rfl
  | false => rfl
theorem kept_loop (k : Nat) (L : List S49) (C : List Int) (n i : Int) (p q r m : Int) (hl : C.length < 10) : lir_kept.j1 (k + 1) C L n i false 23 p q r m = lir_kept.l0 k (C ++ [p]) L n (wrap64 (i + 1)) := by
  simp only [lir_kept.j1]
  rw [if_neg (by simp), if_pos trivial, if_pos (by omega)]
  simp only [Option.bind_some]
  rw [if_neg (by simp; omega)]
theorem kept_else (k : Nat) (L : List S49) (C : List Int) (n i : Int) (o p q r m : Int) (h1 : ¬ o = 23) (h2 : ¬ o = 24) (hl : C.length ≤ 10) : lir_kept.j1 (k + 1) C L n i false o p q r m = lir_kept.l0 k C L n (wrap64 (i + 1)) := by
  simp only [lir_kept.j1]
  rw [if_neg (by simp), if_neg h1, if_neg h2, if_neg (by omega)]
theorem kept_end (k : Nat) (L : List S49) (c : Int) (n i : Int) (p q r m : Int) : lir_kept.j1 (k + 1) [c] L n i false 24 p q r m = lir_kept.l0 k [] L n (wrap64 (i + 1)) := by
  simp only [lir_kept.j1]
  rw [if_neg (by simp), if_neg (by decide), if_pos trivial, if_pos (by simp [wrap64]), if_pos (by simp [wrap64])]
  simp [wrap64]
theorem cnt_kept (c n : Int) (h1 : 1 ≤ c) (h2 : c ≤ 62) : lir_kept.f 35 (cntL c n) = some true := by
  have e : lir_kept.f 35 (cntL c n) = lir_kept.l0 35 [] (cntL c n) 4 0 := by unfold lir_kept.f; rfl
  have o1 : lir_of.f 34 23 = some (true, false, false, 1, 100000, true) := by kernel_rfl
  have o2 : lir_of.f 32 3 = some (true, true, true, 0, 0, true) := by kernel_rfl
  have o3 : lir_of.f 30 13 = some (true, true, false, -2147483648, 2147483647, true) := by kernel_rfl
  have o4 : lir_of.f 28 24 = some (false, false, false, 0, 0, true) := by kernel_rfl
  have w1 : wrap64 (0 + 1) = 1 := by kernel_rfl
  have w2 : wrap64 (1 + 1) = 2 := by kernel_rfl
  have w3 : wrap64 (2 + 1) = 3 := by kernel_rfl
  have w4 : wrap64 (3 + 1) = 4 := by kernel_rfl
  rw [e, kept_step 34 (cntL c n) [] 4 0 (by decide) (by decide) (by simp [cntL]) 23 c 0 0 n rfl _ _ _ _ _ _ o1 (fun _ => contains_nil _ _), kept_loop 33 _ _ _ _ _ _ _ _ (by decide), w1]
  rw [List.nil_append, kept_step 32 (cntL c n) [c] 4 1 (by decide) (by decide) (by simp [cntL]) 3 0 0 c 0 rfl _ _ _ _ _ _ o2 (fun _ => contains_one _ _ _ (by omega)), kept_else 31 _ _ _ _ _ _ _ _ _ (by decide) (by decide) (by simp), w2]
  rw [kept_step 30 (cntL c n) [c] 4 2 (by decide) (by decide) (by simp [cntL]) 13 63 63 0 1 rfl _ _ _ _ _ _ o3 (fun _ => contains_one _ _ _ (by omega)), kept_else 29 _ _ _ _ _ _ _ _ _ (by decide) (by decide) (by simp), w3]
  rw [kept_step 28 (cntL c n) [c] 4 3 (by decide) (by decide) (by simp [cntL]) 24 0 0 0 0 rfl _ _ _ _ _ _ o4 (fun h => by cases h), kept_end 27, w4]
  simp only [lir_kept.l0]
  rw [if_neg (by decide)]
theorem fits_has (v : Int) (h1 : 1 ≤ v) (h2 : v ≤ 63) : lir_fits.f v true = some true := by
  simp only [lir_fits.f]
  rw [if_neg (by omega), if_pos trivial, if_pos (by omega), decide_eq_true (by omega : v < 64)]
theorem cnt_check (c n : Int) (h1 : 1 ≤ c) (h2 : c ≤ 62) (h3 : 1 ≤ n) (h4 : n ≤ 100000) : lir_Check.f 40 (cntL c n) = some 0 := by
  have e : lir_Check.f 40 (cntL c n) = lir_Check.l0 40 (cntL c n) (cntL c n) 4 0 := by kernel_rfl
  have c0 : lir_can.f 39 23 c 0 0 n = some (true, false, false, 1, 100000, true) := by
    simp only [lir_can.f]
    rw [show lir_of.f 39 23 = some (true, false, false, 1, 100000, true) from by kernel_rfl]
    simp only [Option.bind_some]
    rw [if_pos trivial, fits_has c h1 (by omega)]
    simp only [Option.bind_some]
    rw [if_pos trivial, show lir_fits.f 0 false = some true from by kernel_rfl]
    simp only [Option.bind_some]
    rw [if_pos trivial]
    rw [if_pos trivial, if_pos h3, decide_eq_true h4]
  have c1 : lir_can.f 38 3 0 0 c 0 = some (true, true, true, 0, 0, true) := by
    simp only [lir_can.f]
    rw [show lir_of.f 38 3 = some (true, true, true, 0, 0, true) from by kernel_rfl]
    simp only [Option.bind_some]
    rw [if_pos trivial, fits_has c h1 (by omega), show lir_fits.f 0 true = some true from by kernel_rfl]
    simp only [Option.bind_some]
    rw [if_pos trivial, if_pos trivial, if_pos trivial]
    rfl
  rw [e, chk_step 39 (cntL c n) 4 0 (by decide) (by decide) (by simp [cntL]) 23 c 0 0 n rfl true false false 1 100000 c0]
  rw [show wrap64 (0 + 1) = 1 by kernel_rfl, chk_step 38 (cntL c n) 4 1 (by decide) (by decide) (by simp [cntL]) 3 0 0 c 0 rfl true true true 0 0 c1]
  rw [show wrap64 (1 + 1) = 2 by kernel_rfl, chk_step 37 (cntL c n) 4 2 (by decide) (by decide) (by simp [cntL]) 13 63 63 0 1 rfl true true false (-2147483648) 2147483647 (by kernel_rfl)]
  rw [show wrap64 (2 + 1) = 3 by kernel_rfl, chk_step 36 (cntL c n) 4 3 (by decide) (by decide) (by simp [cntL]) 24 0 0 0 0 rfl false false false 0 0 (by kernel_rfl)]
  rw [show wrap64 (3 + 1) = 4 from by kernel_rfl]
  have e5 : lir_Check.l0 36 (cntL c n) (cntL c n) 4 4 = (lir_ends.f 35 (cntL c n)).bind fun bt214 => (if bt214.2 = true then ((lir_kept.f 35 (cntL c n)).bind fun t218 => (if t218 = true then (some 0) else (some 4))) else (some 4)) := by kernel_rfl
  rw [e5, cnt_ends c n]
  simp only [Option.bind_some]
  rw [if_pos trivial, cnt_kept c n h1 h2]
  rfl
theorem cnt_Ends (c n : Int) : lir_Ends.f 40 (cntL c n) = some ([3, -1, -1, 0], true) := by
  unfold lir_Ends.f
  rw [cnt_ends' c n]
  rfl

end Go.Proofs.Ytpeljnnbknnbmaa.PD
