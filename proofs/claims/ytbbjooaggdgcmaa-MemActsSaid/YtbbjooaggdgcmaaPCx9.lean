-- Written by pr.py, a driver around the kit's printer, for this seat. Not trusted: Lean checks it.
import Derived.Test.YtbbjooaggdgcmaaPCx0
import Derived.Test.YtbbjooaggdgcmaaPCx1
import Derived.Test.YtbbjooaggdgcmaaPCx3
import Derived.Test.YtbbjooaggdgcmaaPCx4
import Derived.Test.YtbbjooaggdgcmaaPCx6
import Derived.Test.YtbbjooaggdgcmaaPCx7
import Derived.Test.YtbbjooaggdgcmaaPCx8
import Derived.Outline
import Derived.Deep.RegionHeld3
namespace Go.Proofs.Ytbbjooaggdgcmaa.PC
open Go.RowKit Go.Proofs.YtbbjooaggdgcmaaW.PrintWords Go.Proofs.YtbbjooaggdgcmaaW.PrintLast Go.Proofs.YtbbjooaggdgcmaaW.PrintMore
attribute [local go_sem] max2_int min2_int max_two min_two max_three min_three max_four min_four   -- for this text's walks alone
set_option linter.unusedVariables false
set_option linter.unusedSimpArgs false

--BREAK Derived.Outline,Derived.Deep.RegionHeld3
/-! ### pintlelaw05_lives: function 8 -/
theorem map_can : mem_can.f 4096 256 2147483648 128 = some true := by decide +kernel
theorem map_fit : MemFit 4096 2147483648 256 128 := ⟨by decide, by decide, by decide, by decide, by decide, by decide, by decide, by decide, by decide⟩
theorem rep_bytes (n : Nat) : Bytes (List.replicate n 0) := fun x hx => by rw [List.eq_of_mem_replicate hx]; exact ⟨by decide, by decide⟩
theorem byteOf_byte (x : Int) (i : Nat) : isByte (byteOf x i) := by
  unfold byteOf isByte
  omega
theorem setBytes_bytes {l : List Int} (h : Bytes l) (p : Nat) (x : Int) (i : Nat) : Bytes (setBytes l p x i) := by
  induction i with
  | zero => exact h
  | succ i ih =>
    unfold setBytes
    intro y hy
    rcases List.mem_or_eq_of_mem_set hy with hy | rfl
    · exact ih y hy
    · exact byteOf_byte x i
theorem storeL_bytes {rl : List Int} (h : Bytes rl) (R addr size x : Int) : Bytes (storeL R rl addr size x) := by
  unfold storeL
  split
  · exact setBytes_bytes h _ _ _
  · exact h
def fl0 : List Int := List.replicate 256 0
def rl0 : List Int := List.replicate 128 0
def rl1 : List Int := storeL 2147483648 rl0 2147483648 4 16909060
theorem fl0_len : fl0.length = 256 := List.length_replicate
theorem rl0_len : rl0.length = 128 := List.length_replicate
theorem rl1_len : rl1.length = 128 := by unfold rl1; rw [storeL_length]; exact rl0_len
theorem lives_new (w : World) : Calls Try.prog 9 #[.agg #[.int .u32 4096, .int .u32 256, .int .u32 2147483648, .int .u32 128]] w (NewTold w 4096 2147483648 256 128) :=
  new_yes 4096 2147483648 256 128 w map_can (by decide) (by decide)
theorem lives_store (w : World) (base g bf br : Nat) (hm : MemAt w base g bf br 4096 2147483648 fl0 rl0) :
    Calls Try.prog 12 #[.pointer (some ⟨g, 0, none⟩), .int .u32 2147483648, .int .i64 4, .int .u32 16909060] w fun e w' => e = .returned (.int .i64 0) ∧ MemAt w' base g bf br 4096 2147483648 fl0 rl1 ∧ Below base w w' := by
  refine (store_calls base g bf br 4096 2147483648 fl0 rl0 2147483648 4 16909060 w hm (by rw [fl0_len, rl0_len]; exact map_fit) (by decide) (by decide) (by decide) (by decide) (by decide)).mono fun e w' h => ?_
  obtain ⟨he, hm', _, hb⟩ := h
  exact ⟨by rw [he, rl0_len]; congr 2, hm', hb⟩
theorem lives_load (w : World) (base g bf br : Nat) (hm : MemAt w base g bf br 4096 2147483648 fl0 rl1) :
    Calls Try.prog 10 #[.pointer (some ⟨g, 0, none⟩), .int .u32 2147483649, .int .i64 1] w fun e w' => e = .returned (.tuple #[.int .u32 3, .int .i64 0]) ∧ Below w.heap.size w w' := by
  have h1 : loadV 4096 2147483648 fl0 rl1 2147483649 1 = (3, 0) := by decide +kernel
  refine (load_calls base g bf br 4096 2147483648 fl0 rl1 2147483649 1 w hm (by rw [fl0_len, rl1_len]; exact map_fit) (rep_bytes _) (storeL_bytes (rep_bytes _) _ _ _ _) (by decide) (by decide) (by decide)).mono fun e w' h => ?_
  rw [h1] at h
  exact h
set_option maxHeartbeats 4000000 in
theorem lives_any (w : World) : Calls Try.prog 8 #[] w fun e w' => e = .returned (.bool true) ∧ Below w.heap.size w w' := by
  go_enter Try.func8, Try.ntmps8
  go_wp2_with (first
    | (go_at_call 16; refine (pintlelaw05_Map.calls 4096 256 2147483648 128 _ rfl).mono ?_; rintro e w1 ⟨rfl, hb1⟩; have HB1 := Aside0.mk hb1; clear hb1)
    | (go_at_call 9; refine (lives_new _).mono ?_; rintro e w2 ⟨g, bf, br, rfl, hm2, hb2⟩; have HM2 := Aside0.mk hm2; have HB2 := Aside0.mk hb2; clear hm2 hb2)
    | (go_at_call 12; refine (lives_store _ w1.heap.size g bf br HM2.out).mono ?_; rintro e w3 ⟨rfl, hm3, hb3⟩; have HM3 := Aside0.mk hm3; have HB3 := Aside0.mk hb3; clear hm3 hb3)
    | (go_at_call 10; refine (lives_load _ w1.heap.size g bf br HM3.out).mono ?_; rintro e w4 ⟨rfl, hb4⟩; have HB4 := Aside0.mk hb4; clear hb4))
  go_ret
  have z1 := HB1.out
  have z2 := z1.trans (HB2.out.mono z1.size)
  have z3 := z2.trans (HB3.out.mono z1.size)
  exact ⟨rfl, z3.trans (HB4.out.mono z3.size)⟩
theorem eq24 (w : World) (x0 y0 x1 y1 x2 y2 x3 y3 : Int) :
    (binOp .eql 24 (.agg #[.int .u32 x0, .int .u32 x1, .int .u32 x2, .int .u32 x3]) (.agg #[.int .u32 y0, .int .u32 y1, .int .u32 y2, .int .u32 y3])).run Try.prog w = .ok (.bool (x0 == y0 && (x1 == y1 && (x2 == y2 && (x3 == y3))))) w := by
  have h : (Op.equalIn (9998 + 2) 24 (.agg #[.int .u32 x0, .int .u32 x1, .int .u32 x2, .int .u32 x3]) (.agg #[.int .u32 y0, .int .u32 y1, .int .u32 y2, .int .u32 y3])).run Try.prog w = .ok (x0 == y0 && (x1 == y1 && (x2 == y2 && (x3 == y3)))) w := by
    refine eqA_of Try.underlying24 (by kernel_rfl) ?_
    refine eqf_cons (by rfl) (by go_simp; rfl) (by go_simp; rfl) (by go_simp) ?_
    refine eqf_cons (by rfl) (by go_simp; rfl) (by go_simp; rfl) (by go_simp) ?_
    refine eqf_cons (by rfl) (by go_simp; rfl) (by go_simp; rfl) (by go_simp) ?_
    exact eqf_last (by rfl) (by go_simp; rfl) (by go_simp; rfl) (by go_simp)
  rw [run_eql_struct, h]
  rfl

end Go.Proofs.Ytbbjooaggdgcmaa.PC
