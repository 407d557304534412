import Derived.Test.YtpeljnnbknnbmaaOnPDx0
import Derived.Test.YtpeljnnbknnbmaaOnN10
import Derived.Outline
namespace Go.Proofs.Ytpeljnnbknnbmaa.PD
open Go.RowKit Go.Proofs.YtpeljnnbknnbmaaW.PrintWords Go.Proofs.YtpeljnnbknnbmaaW.PrintLast Go.Proofs.YtpeljnnbknnbmaaW.PrintMore
set_option linter.unusedVariables false
set_option linter.unusedSimpArgs false
/-- a Bool that tells POn -/
def pOkB (x : S49) : Bool := (decide (1 ≤ x.f0) && decide (x.f0 ≤ 16) || decide (x.f0 = 23)) && decide (0 ≤ x.f1) && decide (x.f1 < 64) && decide (0 ≤ x.f2) && decide (x.f2 < 64) && decide (0 ≤ x.f3) && decide (x.f3 < 64)
def pOnB (l : List S49) (E : List Int) (s : Int × List Int) : Bool :=
  s.2.all (fun x => decide (0 ≤ x) && decide (x < 4294967296)) && decide (s.2.length = 64) && decide (0 ≤ s.1) && decide (s.1 < l.length) &&
    (pOkB (rd_T49 l s.1) || decide ((rd_T49 l s.1).f0 = 24) && decide (0 ≤ rd E s.1) && decide (rd E s.1 < l.length) && decide (0 ≤ (rd_T49 l (rd E s.1)).f1) && decide ((rd_T49 l (rd E s.1)).f1 < 64))
theorem pOn_of {l : List S49} {E : List Int} {s : Int × List Int} (h : pOnB l E s = true) : POn l E s := by
  simp only [pOnB, Bool.and_eq_true, Bool.or_eq_true, decide_eq_true_eq, List.all_eq_true, pOkB] at h
  obtain ⟨⟨⟨⟨h1, h2⟩, h3⟩, h4⟩, h5⟩ := h
  refine ⟨fun x hx => h1 x hx, h2, h3, h4, ?_⟩
  rcases h5 with h | h
  · obtain ⟨⟨⟨⟨⟨⟨h1, h2⟩, h3⟩, h4⟩, h5⟩, h6⟩, h7⟩ := h
    exact Or.inl ⟨h1, ⟨h2, h3⟩, ⟨h4, h5⟩, ⟨h6, h7⟩⟩
  · obtain ⟨⟨⟨⟨h1, h2⟩, h3⟩, h4⟩, h5⟩ := h
    exact Or.inr ⟨h1, h2, h3, h4, h5⟩
def livL : List S49 := [⟨23, 1, 0, 0, 3⟩, ⟨13, 0, 0, 0, 5⟩, ⟨24, 0, 0, 0, 0⟩]
def livE : List Int := [2, -1, 0]
theorem liv_on (k : Nat) (hk : k < 7) : POn livL livE (pRun livL livE k) := by
  have h : ∀ k : Fin 7, pOnB livL livE (pRun livL livE k.val) = true := by decide +kernel
  exact pOn_of (h ⟨k, hk⟩)
theorem liv_check : lir_Check.f 40 livL = some 0 := by kernel_rfl
theorem liv_Ends : lir_Ends.f 40 livL = some (livE, true) := by kernel_rfl
theorem liv_end : (pRun livL livE 7).1 = 3 := by kernel_rfl
theorem liv_v0 : rd (pRun livL livE 7).2 ((0 : Nat) : Int) = 15 := by kernel_rfl
theorem liv_v1 : rd (pRun livL livE 7).2 ((1 : Nat) : Int) = 0 := by kernel_rfl
/-- a row of steps, made -/
def cells49 (x : S49) : List Value := [.int .i64 x.f0, .int .i64 x.f1, .int .i64 x.f2, .int .i64 x.f3, .int .i32 x.f4]
theorem reps49' (w : World) (base : Nat) (ok : Nat → Prop) (M : List S49) : Reps (k49.M w base ok) 5 M.reverse (M.reverse.flatMap cells49) := by
  induction M with
  | nil => exact Reps.none _ _
  | cons x M ih =>
    rw [List.reverse_cons, List.flatMap_append]
    have := ih.snoc (k49_mkM w base ok x) rfl
    simpa [cells49] using this
theorem reps49 (w : World) (base : Nat) (ok : Nat → Prop) (L : List S49) : Reps (k49.M w base ok) k49.sz L (L.flatMap cells49) := by
  have := reps49' w base ok L.reverse
  rw [List.reverse_reverse] at this
  exact this
theorem liv_run (w : World) (la : Addr) (lc : Nat) (hC : Kd.C k49 w (some la) livL.length livL) (hlc : livL.length ≤ lc) :
    Calls Try.prog 30 #[.slice (some la) livL.length lc, .pointer none, .int .i64 99] w fun e w' => ∃ g, e = .returned (.tuple #[.slice (some ⟨g, 4, none⟩) 64 64, .int .i64 7, .int .i64 0, .int .i64 0]) ∧ w'.cell? ⟨g, 4, none⟩ = some (.int .u32 15) ∧ w'.cell? ⟨g, 5, none⟩ = some (.int .u32 0) ∧ Below w.heap.size w w' := by
  have h := run_plain w la lc livL hC hlc 40 liv_check livE true liv_Ends rfl (by decide) none 7 99 (by decide) (by decide) (by decide) liv_on (by rw [liv_end]; decide) (by rw [liv_end]; decide)
  refine h.mono ?_
  rintro e w2 ⟨g, ev, hg, he, hrn, hb2⟩
  have c4 := hrn.gv 0 (by decide)
  have c5 := hrn.gv 1 (by decide)
  rw [liv_v0] at c4
  rw [liv_v1] at c5
  exact ⟨g, he, c4, c5, hb2⟩
set_option maxRecDepth 100000 in
set_option maxHeartbeats 8000000 in
theorem lives16_calls (w : World) : Calls Try.prog 31 #[] w fun e w' => e = .returned (.bool true) ∧ Below w.heap.size w w' := by
  have HB := Aside0.mk (Below.refl w.heap.size w)
  go_enter Try.func31, Try.ntmps31
  go_wp2_with (first | ((with_reducible refine gate_dst (N := 9) rfl ?_); refine Kd.R_lit k49 (w0 := w) w.heap.size 49 ?hg (N := 9) ?hd (xs := livL) (inner := livL.flatMap cells49) (ok := fun _ => True) (okp := fun _ => True) ?hr (reps49 _ _ _ _) (fun _ hk => hk) trivial (Below.refl _ _) (Nat.le_refl _) (by simp [livL]) ?_; (case hd => rfl); (case hg => rfl); (case hr => first | (go_simp; done) | (go_simp; exact ⟨rfl, rfl⟩) | (go_simp; rfl)); intro v1 w1 ho hb hg_ hnew_; obtain ⟨A0, c0, hv0, hc0, hC0⟩ := Kd.R_reads ho; obtain ⟨la, ce, hla, _, _, _⟩ := Kd.C_get hC0 (z := z49) (0 : Int) (by decide) (by decide); subst hla; subst hv0; have HC := Aside0.mk hC0; have HCC := Aside0.mk hc0; have HB1 := Aside0.mk hb; clear ho hb hg_ hnew_ hC0 hc0) | (go_at_call 30; (with_reducible refine (liv_run _ la c0 HC.out HCC.out).mono ?_); rintro e w2 ⟨g, rfl, c4, c5, hb2⟩; have HB2 := Aside0.mk hb2; clear hb2))
  go_ret
  exact ⟨rfl, HB1.out.trans (HB2.out.mono HB1.out.size)⟩

end Go.Proofs.Ytpeljnnbknnbmaa.PD
