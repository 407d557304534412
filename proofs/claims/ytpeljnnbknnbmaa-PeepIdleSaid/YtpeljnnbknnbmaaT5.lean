import Derived.Test.YtpeljnnbknnbmaaT4
namespace Go.Proofs.Ytpeljnnbknnbmaa.PB
open Go.RowKit Go.Proofs.YtpeljnnbknnbmaaW.PrintWords Go.Proofs.YtpeljnnbknnbmaaW.PrintLast Go.Proofs.YtpeljnnbknnbmaaW.PrintMore
set_option linter.unusedVariables false
set_option linter.unusedSimpArgs false
def three : List S49 := [⟨13, 1, 1, 0, 2⟩, ⟨13, 1, 1, 0, -2⟩, ⟨1, 0, 0, 0, 3⟩]
def threeC : Array Value := #[.int .i64 13, .int .i64 1, .int .i64 1, .int .i64 0, .int .i32 2, .int .i64 13, .int .i64 1, .int .i64 1, .int .i64 0, .int .i32 (-2), .int .i64 1, .int .i64 0, .int .i64 0, .int .i64 0, .int .i32 3]
theorem three_check : lir_Check.f 20 three = some 0 := by decide +kernel
theorem three_tid : (tidL three).length = 1 := by decide +kernel
theorem lit3 (W : World) : Kd.C k49 (W.alloc (.cells threeC 49)) (some ⟨W.heap.size, 0, none⟩) three.length three := by
  have hb : (W.alloc (.cells threeC 49)).heap[W.heap.size]? = some (.cells threeC 49 (0, 0)) := heap_alloc_new W _
  refine ⟨rfl, by decide, fun _ => ⟨_, rfl, fun j p hp => ?_⟩⟩
  match j, hp with
  | 0, hp =>
    obtain rfl : (⟨13, 1, 1, 0, 2⟩ : S49) = p := by simpa [three] using hp
    refine ⟨_, rfl, k49_mk _ _, fun i u hu => ?_⟩
    rw [add_plain, blk_cell hb]
    match i, hu with
    | 0, hu => exact hu
    | 1, hu => exact hu
    | 2, hu => exact hu
    | 3, hu => exact hu
    | 4, hu => exact hu
    | i + 5, hu => simp at hu
  | 1, hp =>
    obtain rfl : (⟨13, 1, 1, 0, -2⟩ : S49) = p := by simpa [three] using hp
    refine ⟨_, rfl, k49_mk _ _, fun i u hu => ?_⟩
    rw [add_plain, blk_cell hb]
    match i, hu with
    | 0, hu => exact hu
    | 1, hu => exact hu
    | 2, hu => exact hu
    | 3, hu => exact hu
    | 4, hu => exact hu
    | i + 5, hu => simp at hu
  | 2, hp =>
    obtain rfl : (⟨1, 0, 0, 0, 3⟩ : S49) = p := by simpa [three] using hp
    refine ⟨_, rfl, k49_mk _ _, fun i u hu => ?_⟩
    rw [add_plain, blk_cell hb]
    match i, hu with
    | 0, hu => exact hu
    | 1, hu => exact hu
    | 2, hu => exact hu
    | 3, hu => exact hu
    | 4, hu => exact hu
    | i + 5, hu => simp at hu
  | j + 3, hp => simp [three] at hp
theorem tidy_three (W : World) : Calls Try.prog 24 #[.slice (some ⟨W.heap.size, 0, none⟩) 3 3] (W.alloc (.cells threeC 49)) fun e w' => ∃ A', e = .returned (.tuple #[.slice A' 1 1, .int .i64 2, .int .i64 0]) ∧ Below (W.alloc (.cells threeC 49)).heap.size (W.alloc (.cells threeC 49)) w' := by
  have h := tidy_plain 20 _ 3 three _ (lit3 W) (Nat.le_refl _) three_check (by decide) (by decide)
  rw [three_tid] at h
  exact h.mono fun e w' ⟨A', he, _, hb⟩ => ⟨A', he, hb⟩
set_option maxHeartbeats 4000000 in
theorem peeplives_calls (w : World) : Calls Try.prog 25 #[] w fun e w' => e = .returned (.bool true) ∧ Below w.heap.size w w' := by
  go_enter Try.func25, Try.ntmps25
  go_wp2_with (first | (go_at_call 24; refine (tidy_three w).mono ?_; rintro e w1 ⟨A', rfl, hb1⟩; have HB1 := Aside0.mk hb1; clear hb1))
  go_ret
  exact ⟨rfl, (below_alloc (Below.refl _ _) _).trans (HB1.out.mono (below_alloc (Below.refl _ _) _).size)⟩
set_option maxHeartbeats 4000000 in
theorem peepidle_calls (x : S49) (b : Bool) (w : World) (k1 k2 : Nat) (h1 : peep_Idle.f k1 x.f0 x.f1 x.f2 x.f3 x.f4 = some b) (h2 : pintleref39_Idle.f k2 x.f0 x.f1 x.f2 x.f3 x.f4 = some b) :
    Calls Try.prog 6 #[.agg #[.int .i64 x.f0, .int .i64 x.f1, .int .i64 x.f2, .int .i64 x.f3, .int .i32 x.f4]] w fun e w' => e = .returned (.bool true) ∧ Below w.heap.size w w' := by
  have H1 := Aside0.mk h1
  have H2 := Aside0.mk h2
  clear h1 h2
  have hbox := heap_alloc_new w (.cells #[.int .i64 x.f0, .int .i64 x.f1, .int .i64 x.f2, .int .i64 x.f3, .int .i32 x.f4] 49)
  have HBOX := Aside0.mk hbox
  clear hbox
  go_enter Try.func6, Try.ntmps6
  go_wp2
  obtain ⟨w0, hw0⟩ : ∃ w0, w0 = w.alloc (.cells #[.int .i64 x.f0, .int .i64 x.f1, .int .i64 x.f2, .int .i64 x.f3, .int .i32 x.f4] 49) := ⟨_, rfl⟩
  rw [← hw0] at HBOX ⊢
  have HW0 := Aside0.mk (show Below w.heap.size w w0 from by rw [hw0]; exact below_alloc (Below.refl _ _) _)
  clear hw0
  have HKEEP := Aside0.mk (show ∀ W' : World, Below w0.heap.size w0 W' → (W'.cell? ⟨w.heap.size, 0, none⟩ = some (.int .i64 x.f0) ∧ W'.cell? ⟨w.heap.size, 1, none⟩ = some (.int .i64 x.f1) ∧ W'.cell? ⟨w.heap.size, 2, none⟩ = some (.int .i64 x.f2) ∧ W'.cell? ⟨w.heap.size, 3, none⟩ = some (.int .i64 x.f3) ∧ W'.cell? ⟨w.heap.size, 4, none⟩ = some (.int .i32 x.f4) ∧ Below w0.heap.size w0 W') from fun W' h1 => by
    have hbx := (h1.block _ (blk_lt HBOX.out)).trans HBOX.out
    exact ⟨blk_cell hbx 0, blk_cell hbx 1, blk_cell hbx 2, blk_cell hbx 3, blk_cell hbx 4, h1⟩)
  go_region_held3 (fun W' => W'.cell? ⟨w.heap.size, 0, none⟩ = some (.int .i64 x.f0) ∧ W'.cell? ⟨w.heap.size, 1, none⟩ = some (.int .i64 x.f1) ∧ W'.cell? ⟨w.heap.size, 2, none⟩ = some (.int .i64 x.f2) ∧ W'.cell? ⟨w.heap.size, 3, none⟩ = some (.int .i64 x.f3) ∧ W'.cell? ⟨w.heap.size, 4, none⟩ = some (.int .i32 x.f4) ∧ Below w0.heap.size w0 W')
    (first | (with_reducible exact HKEEP.out _ (below_drew (Below.refl _ _))) | (go_split_ands; with_reducible exact HKEEP.out _ (Below.trans (by with_reducible assumption) (Below.mono hb (Below.size (by with_reducible assumption))))))
    (first
      | (go_at_call 28; (with_reducible refine (peep_Idle.calls k1 _ _ _ _ _ b _ H1.out).mono ?_); rintro e w5 ⟨rfl, hb⟩)
      | (go_at_call 29; (with_reducible refine (pintleref39_Idle.calls k2 _ _ _ _ _ b _ H2.out).mono ?_); rintro e w5 ⟨rfl, hb⟩)
      | (go_at_call 25; refine (peeplives_calls _).mono ?_; rintro e w5 ⟨rfl, hb⟩))
  all_goals go_wp2
  all_goals go_ret
  all_goals
    go_split_ands
    exact ⟨rfl, HW0.out.trans (Below.mono (by assumption) HW0.out.size)⟩
end Go.Proofs.Ytpeljnnbknnbmaa.PB
