-- Written by pr.py, a driver around the kit's printer, for this seat. Not trusted: Lean checks it.
import Derived.Test.YtbbjooaggdgcmaaPAx0
import Derived.Test.YtbbjooaggdgcmaaPAx3
import Derived.Test.YtbbjooaggdgcmaaPAx6
import Derived.Test.YtbbjooaggdgcmaaPAx7
import Derived.Test.YtbbjooaggdgcmaaPAx9
import Derived.Test.YtbbjooaggdgcmaaPAx11
import Derived.Outline
import Derived.Deep.RegionHeld3
namespace Go.Proofs.Ytbbjooaggdgcmaa.PA
open Go.RowKit Go.Proofs.YtbbjooaggdgcmaaW.PrintWords Go.Proofs.YtbbjooaggdgcmaaW.PrintLast Go.Proofs.YtbbjooaggdgcmaaW.PrintMore
attribute [local go_sem] max2_int min2_int max_two min_two max_three min_three max_four min_four   -- for this text's walks alone
set_option linter.unusedVariables false
set_option linter.unusedSimpArgs false

--BREAK Derived.Outline,Derived.Deep.RegionHeld3
/-! ### pintlelaw05_MemNone: function 6 -/
set_option maxHeartbeats 4000000 in
theorem fetch_nil (addr : Int) (w : World) : Calls Try.prog 18 #[.pointer none, .int .u32 addr] w fun e w' => e = .returned (.tuple #[.int .u32 0, .int .i64 2]) ∧ w = w' := by
  go_enter Try.func18, Try.ntmps18
  go_wp2_with (go_at_call 24; refine (part_nil addr 4 _).mono ?_; rintro e w1 ⟨rfl, rfl⟩)
  go_ret2
  exact ⟨rfl, rfl⟩
set_option maxHeartbeats 4000000 in
theorem get_nil (addr n : Int) (w : World) : Calls Try.prog 19 #[.pointer none, .int .u32 addr, .int .i64 n] w fun e w' => e = .returned (.tuple #[.slice none 0 0, .bool false]) ∧ w = w' := by
  go_enter Try.func19, Try.ntmps19
  go_wp2_with (go_at_call 24; refine (part_nil addr n _).mono ?_; rintro e w1 ⟨rfl, rfl⟩)
  go_ret2
  exact ⟨rfl, rfl⟩
set_option maxHeartbeats 4000000 in
theorem put_nil (addr : Int) (A : Option Addr) (n c : Nat) (w : World) : Calls Try.prog 20 #[.pointer none, .int .u32 addr, .slice A n c] w fun e w' => e = .returned (.bool false) ∧ w = w' := by
  go_enter Try.func20, Try.ntmps20
  go_wp2_with (go_at_call 24; refine (part_nil addr _ _).mono ?_; rintro e w1 ⟨rfl, rfl⟩)
  go_ret
  exact ⟨rfl, rfl⟩
set_option maxHeartbeats 4000000 in
theorem none_calls (k s a x : Int) (A4 : Option Addr) (c4 : Nat) (l4 : List Int) (w : World) :
    Calls Try.prog 6 #[.agg #[.int .i64 k, .int .i64 s, .int .u32 a, .int .u32 x, .slice A4 l4.length c4]] w fun e w' => e = .returned (.bool true) ∧ Below w.heap.size w w' := by
  have heq : ∀ W, (binOp .eql 24 (.agg #[.int .u32 0, .int .u32 0, .int .u32 0, .int .u32 0]) (.agg #[.int .u32 0, .int .u32 0, .int .u32 0, .int .u32 0])).run Try.prog W = .ok (.bool true) W := fun W => eq24 W 0 0 0 0 0 0 0 0
  go_enter Try.func6, Try.ntmps6
  go_wp2_with (first
    | (go_at_call 18; refine (fetch_nil _ _).mono ?_; rintro e w1 ⟨rfl, rfl⟩)
    | (go_at_call 10; refine (load_nil _ _ _).mono ?_; rintro e w1 ⟨rfl, rfl⟩)
    | (go_at_call 19; refine (get_nil _ _ _).mono ?_; rintro e w1 ⟨rfl, rfl⟩)
    | (go_at_call 15; refine (target_nil _).mono ?_; rintro e w2 ⟨rfl, hb2⟩; have hblk := (hb2.block w.heap.size (by simp)).trans (heap_alloc_new w _); have q1 := blk_cell hblk 1; have q2 := blk_cell hblk 2; have q3 := blk_cell hblk 3; have q4 := blk_cell hblk 4; have HB2 := Aside0.mk hb2; clear hb2 hblk)
    | (go_at_call 12; refine (store_nil _ _ _ _).mono ?_; rintro e w1 ⟨rfl, rfl⟩)
    | (go_at_call 20; refine (put_nil _ _ _ _ _).mono ?_; rintro e w1 ⟨rfl, rfl⟩)
    | (go_at_call 8; refine (lives_any _).mono ?_; rintro e w3 ⟨rfl, hb3⟩; have HB3 := Aside0.mk hb3; clear hb3))
  go_ret
  have z1 := (Below.alloc (Below.refl w.heap.size w) (Nat.le_refl _) _).trans (HB2.out.mono (by simp))
  exact ⟨rfl, z1.trans (HB3.out.mono z1.size)⟩

def pintlelaw05_MemNone.f (_ _ _ _ : Int) (_ : List Int) : Option Bool := some true
theorem pintlelaw05_MemNone.calls (a0_0 a0_1 a0_2 a0_3 : Int) (A4 : Option Addr) (c4 : Nat) (l4 : List Int) (r : Bool) (w : World) (hr4 : Kd.C (Kd.int .u8) w A4 l4.length l4) (hc4 : l4.length ≤ c4) (h : pintlelaw05_MemNone.f a0_0 a0_1 a0_2 a0_3 l4 = some r) :
    Calls Try.prog 6 #[.agg #[.int .i64 a0_0, .int .i64 a0_1, .int .u32 a0_2, .int .u32 a0_3, .slice A4 l4.length c4]] w fun e w' => e = .returned (.bool r) ∧ Below w.heap.size w w' := by
  obtain rfl := Option.some.inj h
  exact none_calls _ _ _ _ _ _ _ w

end Go.Proofs.Ytbbjooaggdgcmaa.PA
