import Derived.Test.YtpeljnnbknnbmaaR5
namespace Go.Proofs.Ytpeljnnbknnbmaa.PA
open Go.RowKit Go.Proofs.YtpeljnnbknnbmaaW.PrintWords Go.Proofs.YtpeljnnbknnbmaaW.PrintLast Go.Proofs.YtpeljnnbknnbmaaW.PrintMore
set_option linter.unusedVariables false
set_option linter.unusedSimpArgs false
set_option maxHeartbeats 4000000 in
theorem others_calls (a b : List Int) (ha : a.length = 64) (hb : b.length = 64) (d t : Int) (ht0 : 0 ≤ t) (ht1 : t < 63) (hs : ∀ i : Nat, i < 64 → (i : Int) ≠ d → (i : Int) ≠ t → (i : Int) ≠ t + 1 → rd a i = rd b i) (w : World) :
    Calls Try.prog 19 #[.agg (arrU a), .agg (arrU b), .int .i64 d, .int .i64 t] w fun e w' => e = .returned (.bool true) ∧ Below w.heap.size w w' := by
  have HS := Aside0.mk hs
  have HA := Aside0.mk ha
  have HB := Aside0.mk hb
  clear hs ha hb
  go_enter Try.func19, Try.ntmps19
  go_wp2
  go_loopw [9] (fun i wr => ∃ (k n : Nat), k ≤ 64 ∧ i = .int .i64 k ∧ wr = (((w.alloc (.cells (arrU a) 31 (0, 0))).alloc (.cells (arrU b) 31 (0, 0))).drewN n)) (fun i _ => 64 - (intOf i).toNat)
  case atStart => exact ⟨0, 0, by omega, rfl, rfl⟩
  case round =>
    obtain ⟨k, n, hk, rfl, rfl⟩ := hrel
    by_cases h1 : k < 64
    · have hb1 : decide ((k : Int) < 64) = true := decide_eq_true (by omega)
      have c1 : (arrU a)[k]? = some (.int .u32 (rd a k)) := arrU_at a k (by rw [HA.out]; exact h1)
      have c2 : (arrU b)[k]? = some (.int .u32 (rd b k)) := arrU_at b k (by rw [HB.out]; exact h1)
      have hki : (k : Int) < 64 := by omega
      by_cases g1 : (k : Int) = d
      · have e1 : ((k : Int) != d) = false := by simp [g1]
        clear g1
        go_wp2
        go_quiet (fail)
        go_wp2
        go_roundw
        case rel => exact ⟨k + 1, _, by omega, by go_num, rfl⟩
        case measure => simp [intOf]; omega
      · have e1 : ((k : Int) != d) = true := by simpa using g1
        by_cases g2 : (k : Int) = t
        · have e2 : ((k : Int) != t) = false := by simp [g2]
          clear g1 g2
          go_wp2
          go_quiet (fail)
          go_wp2
          go_roundw
          case rel => exact ⟨k + 1, _, by omega, by go_num, rfl⟩
          case measure => simp [intOf]; omega
        · have e2 : ((k : Int) != t) = true := by simpa using g2
          by_cases g3 : (k : Int) = t + 1
          · have e3 : ((k : Int) != t + 1) = false := by simp [g3]
            clear g1 g2 g3
            go_wp2
            go_quiet (fail)
            go_wp2
            go_roundw
            case rel => exact ⟨k + 1, _, by omega, by go_num, rfl⟩
            case measure => simp [intOf]; omega
          · have e3 : ((k : Int) != t + 1) = true := by simpa using g3
            have e4 : (rd a (k : Int) != rd b (k : Int)) = false := by simp [HS.out k h1 g1 g2 g3]
            clear g1 g2 g3
            go_wp2
            go_quiet (fail)
            go_wp2
            go_roundw
            case rel => exact ⟨k + 1, _, by omega, by go_num, rfl⟩
            case measure => simp [intOf]; omega
    · obtain rfl : k = 64 := by omega
      go_wp2
      go_ret
      exact ⟨rfl, pw_below_drewN (below_alloc (below_alloc (Below.refl _ _) _) _) _⟩
end Go.Proofs.Ytpeljnnbknnbmaa.PA
