import Derived.Test.YtpeljnnbknnbmaaPDx0
import Derived.Test.YtpeljnnbknnbmaaN11
import Derived.Outline
namespace Go.Proofs.Ytpeljnnbknnbmaa.PD
open Go.RowKit Go.Proofs.YtpeljnnbknnbmaaW.PrintWords Go.Proofs.YtpeljnnbknnbmaaW.PrintLast Go.Proofs.YtpeljnnbknnbmaaW.PrintMore
set_option linter.unusedVariables false
set_option linter.unusedSimpArgs false
theorem cnt_run (w : World) (la : Addr) (lc : Nat) (c : Nat) (n : Int) (h1 : 1 ≤ c) (h2 : c ≤ 62) (h3 : 1 ≤ n) (h4 : n ≤ 2000) (hC : Kd.C k49 w (some la) (cntL c n).length (cntL c n)) (hlc : (cntL c n).length ≤ lc) :
    Calls Try.prog 30 #[.slice (some la) (cntL c n).length lc, .pointer none, .int .i64 100000] w fun e w' => ∃ g, e = .returned (.tuple #[.slice (some ⟨g, 4, none⟩) 64 64, .int .i64 (1 + 3 * n), .int .i64 0, .int .i64 0]) ∧ w'.cell? ⟨g, 4, none⟩ = some (.int .u32 (n * (n + 1) / 2)) ∧ w'.cell? ⟨g, 67, none⟩ = some (.int .u32 n) ∧ w'.cell? ⟨g, 4 + c, none⟩ = some (.int .u32 0) ∧ Below w.heap.size w w' := by
  have hn : ((n.toNat : Nat) : Int) = n := by omega
  have hI := cnt_at c n h1 h2 h3 h4 n.toNat (by omega)
  have h := run_plain w la lc (cntL c n) hC hlc 40 (cnt_check c n (by omega) (by omega) h3 (by omega)) cntE true (cnt_Ends c n) rfl (by show 0 < 4; decide) none (1 + 3 * n.toNat) 100000 (by decide) (by show (4 : Int) < _; decide) (by omega) (cnt_on c n h1 h2 h3 h4) (by rw [hI.at_]; split <;> decide) (by rw [hI.at_, if_pos hn]; intro h; exact absurd h.1 (by show ¬ (4 : Int) < 4; decide))
  refine h.mono ?_
  rintro e w2 ⟨g, ev, hg, he, hrn, hb2⟩
  have c0 := hrn.gv 0 (by decide)
  have c63 := hrn.gv 63 (by decide)
  have cc := hrn.gv c (by omega)
  rw [show rd (pRun (cntL c n) cntE (1 + 3 * n.toNat)).2 ((0 : Nat) : Int) = _ from hI.v0] at c0
  rw [show rd (pRun (cntL c n) cntE (1 + 3 * n.toNat)).2 ((63 : Nat) : Int) = _ from hI.vn] at c63
  rw [hI.vc] at cc
  have h2s := cSum_two n n.toNat
  rw [hn] at h2s c63 cc
  have e1 : (n : Int) * (2 * n - n + 1) = n * (n + 1) := by congr 1; omega
  rw [e1] at h2s
  have hb : n * (n + 1) ≤ 2000 * 2001 := Int.mul_le_mul h4 (by omega) (by omega) (by omega)
  have hp : 0 ≤ n * (n + 1) := Int.mul_nonneg (by omega) (by omega)
  have e2 : cSum n n.toNat % 4294967296 = n * (n + 1) / 2 := by omega
  rw [e2] at c0
  rw [show n - n = 0 by omega] at cc
  refine ⟨g, ?_, c0, c63, cc, hb2⟩
  rw [he, show ((1 + 3 * n.toNat : Nat) : Int) = 1 + 3 * n by omega]
theorem cnt_run_int (w : World) (la : Addr) (lc : Nat) (c : Int) (n : Int) (h1 : 1 ≤ c) (h2 : c ≤ 62) (h3 : 1 ≤ n) (h4 : n ≤ 2000) (hC : Kd.C k49 w (some la) (cntL c n).length (cntL c n)) (hlc : (cntL c n).length ≤ lc) :
    Calls Try.prog 30 #[.slice (some la) (cntL c n).length lc, .pointer none, .int .i64 100000] w fun e w' => ∃ g, e = .returned (.tuple #[.slice (some ⟨g, 4, none⟩) 64 64, .int .i64 (1 + 3 * n), .int .i64 0, .int .i64 0]) ∧ w'.cell? ⟨g, 4, none⟩ = some (.int .u32 (n * (n + 1) / 2)) ∧ w'.cell? ⟨g, 67, none⟩ = some (.int .u32 n) ∧ w'.cell? ⟨g, 4 + c.toNat, none⟩ = some (.int .u32 0) ∧ Below w.heap.size w w' := by
  obtain ⟨c, rfl⟩ : ∃ m : Nat, c = m := ⟨c.toNat, by omega⟩
  exact cnt_run w la lc c n (by omega) (by omega) h3 h4 hC hlc
set_option maxRecDepth 100000 in
set_option maxHeartbeats 8000000 in
theorem counts_calls (many d : Int) (hm0 : 0 ≤ many) (hm1 : many ≤ 65535) (hd0 : 0 ≤ d) (hd1 : d ≤ 255) (w : World) : Calls Try.prog 7 #[.int .u16 many, .int .u8 d] w fun e w' => e = .returned (.bool true) ∧ Below w.heap.size w w' := by
  have hd62 : 0 ≤ d % 62 := by omega
  have hd63 : d % 62 ≤ 61 := by omega
  have hm2 : 0 ≤ many % 2000 := by omega
  have hm3 : many % 2000 ≤ 1999 := by omega
  have HR := Aside0.mk (fun (W : World) (la : Addr) (lc : Nat) => cnt_run_int W la lc (d % 62 + 1) (1 + many % 2000) (by omega) (by omega) (by omega) (by omega))
  have hq : (1 + many % 2000) * (1 + many % 2000 + 1) % 4294967296 = (1 + many % 2000) * (1 + many % 2000 + 1) := by
    have hb : (1 + many % 2000) * (1 + many % 2000 + 1) ≤ 2000 * 2001 := Int.mul_le_mul (by omega) (by omega) (by omega) (by omega)
    have hp : 0 ≤ (1 + many % 2000) * (1 + many % 2000 + 1) := Int.mul_nonneg (by omega) (by omega)
    omega
  go_enter Try.func7, Try.ntmps7
  go_wp2_with (first | ((with_reducible refine gate_dst (N := 27) rfl ?_); refine Kd.R_lit k49 (w0 := w) w.heap.size 49 ?hg (N := 27) ?hd (xs := cntL (d % 62 + 1) (1 + many % 2000)) (inner := (cntL (d % 62 + 1) (1 + many % 2000)).flatMap cells49) (ok := fun _ => True) (okp := fun _ => True) ?hr (reps49 _ _ _ _) (fun _ hk => hk) trivial (Below.refl _ _) (Nat.le_refl _) (by simp [cntL]) ?_; (case hd => rfl); (case hg => rfl); (case hr => first | (go_simp; done) | (go_simp; exact ⟨rfl, rfl⟩) | (go_simp; rfl)); intro v1 w1 ho hb hg_ hnew_; obtain ⟨A0, c0, hv0, hc0, hC0⟩ := Kd.R_reads ho; obtain ⟨la, ce, hla, _, _, _⟩ := Kd.C_get hC0 (z := z49) (0 : Int) (by decide) (by show (0 : Int) < 4; decide); subst hla; subst hv0; have HC := Aside0.mk hC0; have HCC := Aside0.mk hc0; have HB1 := Aside0.mk hb; clear ho hb hg_ hnew_ hC0 hc0) | (go_at_call 30; (with_reducible refine (HR.out _ la c0 HC.out HCC.out).mono ?_); rintro e w2 ⟨g, rfl, c4, c67, cc, hb2⟩; have HB2 := Aside0.mk hb2; clear hb2) | (go_at_call 31; (with_reducible refine (lives16_calls _).mono ?_); rintro e w3 ⟨rfl, hb3⟩; have HB3 := Aside0.mk hb3; clear hb3))
  go_ret
  exact ⟨rfl, (HB1.out.trans (HB2.out.mono HB1.out.size)).trans (HB3.out.mono (HB1.out.trans (HB2.out.mono HB1.out.size)).size)⟩

end Go.Proofs.Ytpeljnnbknnbmaa.PD
