-- Written by pr.py, a driver around the kit's printer, for this seat. Not trusted: Lean checks it.
import Derived.Test.YtbbjooaggdgcmaaPCx0
import Derived.Test.YtbbjooaggdgcmaaPCx6
import Derived.Test.YtbbjooaggdgcmaaPCx8
import Derived.Test.YtbbjooaggdgcmaaPCx9
import Derived.Test.YtbbjooaggdgcmaaPCx13
import Derived.Test.YtbbjooaggdgcmaaPCx19
import Derived.Outline
import Derived.Deep.RegionHeld3
namespace Go.Proofs.Ytbbjooaggdgcmaa.PC
open Go.RowKit Go.Proofs.YtbbjooaggdgcmaaW.PrintWords Go.Proofs.YtbbjooaggdgcmaaW.PrintLast Go.Proofs.YtbbjooaggdgcmaaW.PrintMore
attribute [local go_sem] max2_int min2_int max_two min_two max_three min_three max_four min_four   -- for this text's walks alone
set_option linter.unusedVariables false
set_option linter.unusedSimpArgs false

--BREAK Derived.Outline,Derived.Deep.RegionHeld3
/-! ### pintlelaw05_MemActs: function 5 -/
structure ActOk (x : S45) : Prop where
  s : x.f1 ≤ 9223372036854775807
  a : 0 ≤ x.f2 ∧ x.f2 < 4294967296
  w : 0 ≤ x.f3 ∧ x.f3 < 4294967296
  b : Bytes x.f4
theorem data0 : Data fl0 rl0 [] := by
  have hz : ∀ (n j : Nat), rd (List.replicate n (0 : Int)) (j : Int) = 0 := fun n j => by
    unfold rd
    rw [Int.toNat_natCast, List.getD_eq_getElem?_getD, List.getElem?_replicate]
    split <;> rfl
  exact ⟨fl0_len, rl0_len, rep_bytes _, rep_bytes _, fun j _ => hz _ _, fun j _ => hz _ _⟩
set_option maxHeartbeats 4000000 in
theorem acts_calls (A : Option Addr) (c : Nat) (ll : List S45) (w : World) (hC : Kd.C k45 w A ll.length ll) (hok : ∀ i : Nat, i < ll.length → ActOk (rd_T45 ll i)) :
    Calls Try.prog 5 #[.slice A ll.length c] w fun e w' => e = .returned (.bool true) ∧ Below w.heap.size w w' := by
  have HC := Aside0.mk hC
  have HOK := Aside0.mk hok
  have hmax := Kd.C_max hC
  clear hC hok
  have heq : ∀ W, (binOp .eql 24 (.agg #[.int .u32 4096, .int .u32 256, .int .u32 2147483648, .int .u32 128]) (.agg #[.int .u32 4096, .int .u32 256, .int .u32 2147483648, .int .u32 128])).run Try.prog W = .ok (.bool true) W := fun W => by rw [eq24]; simp
  go_enter Try.func5, Try.ntmps5
  go_wp2_with (first
    | (go_at_call 16; refine (pintlelaw05_Map.calls 4096 256 2147483648 128 _ rfl).mono ?_; rintro e w1 ⟨rfl, hb1⟩; first | (have HB3 := Aside0.mk (show Below w2.heap.size w2 _ from hb1)) | (have HB1 := Aside0.mk hb1); clear hb1)
    | (go_at_call 9; refine (lives_new _).mono ?_; rintro e w2 ⟨g, bf, br, rfl, hm2, hb2⟩; have HM2 := Aside0.mk hm2; have HB2 := Aside0.mk hb2; clear hm2 hb2))
  go_loopw [6] (fun i wr => ∃ (k : Nat) (fl rl : List Int) (L : List S62), k ≤ ll.length ∧ k ≤ 40 ∧ i = .int .i64 k ∧ Aside0 (TwoW w wr g bf br w1.heap.size fl rl L) ∧ Aside0 (Data fl rl L) ∧ L.length ≤ 40 * k) (fun i _ => ll.length - (intOf i).toNat)
  case atStart =>
    have z1 := HB1.out
    have z2 := z1.trans (HB2.out.mono z1.size)
    have z3 := z2.trans (HB3.out.mono z2.size)
    have e1 : Below w1.heap.size w1 (w1.alloc (.cells #[.int .u32 4096, .int .u32 256, .int .u32 2147483648, .int .u32 128, .slice none 0 0] 34)) := Below.alloc (Below.refl _ _) (Nat.le_refl _) _
    exact ⟨0, fl0, rl0, [], by omega, by omega, rfl, ⟨((HM2.out.lower z1.size).below HB3.out).below e1, ⟨none, 0, heap_alloc_new w1 _, z3.size, Kd.R_nil _ _ _ _ _⟩, z3.trans (e1.mono z3.size)⟩, ⟨data0⟩, by simp⟩
  case round =>
    obtain ⟨k, fl, rl, L, hk, hk40, rfl, hT, hD, hL⟩ := hrel
    have htg : Calls Try.prog 15 #[.pointer (some ⟨g, 0, none⟩)] wr fun e w' => e = .returned (.agg #[.int .u32 4096, .int .u32 256, .int .u32 2147483648, .int .u32 128]) ∧ Below wr.heap.size wr w' := by
      have := target_calls _ g bf br _ _ fl rl _ hT.out.m
      rw [hD.out.lf, hD.out.lr] at this
      exact this
    have HTG := Aside0.mk htg
    clear htg
    by_cases h1 : k < ll.length
    · have hb1 : decide ((k : Int) < (ll.length : Int)) = true := decide_eq_true (by omega)
      by_cases h2 : k < 40
      · have hb2 : decide ((k : Int) < 40) = true := decide_eq_true (by omega)
        obtain ⟨ad, A4, c4, rfl, e0, e1, e2, e3, e4, hc4, hC4⟩ := at_T45 HC.out (k : Int) (by omega) (by omega)
        simp only [Int.toNat_natCast] at e0 e1 e2 e3 e4
        replace e0 := pw_cell_below hT.out.b e0
        replace e1 := pw_cell_below hT.out.b e1
        replace e2 := pw_cell_below hT.out.b e2
        replace e3 := pw_cell_below hT.out.b e3
        replace e4 := pw_cell_below hT.out.b e4
        have hokk := HOK.out k h1
        obtain ⟨xx, hxx⟩ : ∃ xx, xx = rd_T45 ll (k : Int) := ⟨_, rfl⟩
        rw [← hxx] at e0 e1 e2 e3 e4 hc4 hC4 hokk
        have HX := Aside0.mk (does_calls hT.out hD.out (by omega) xx.f0 xx.f1 xx.f2 xx.f3 A4 xx.f4 c4 hC4 hc4 hokk.b hokk.a hokk.w hokk.s)
        clear hxx hC4 hc4 hokk
        go_wp2_with (go_at_call 17; refine HX.out.mono ?_; rintro e wd ⟨rfl, fl', rl', L', hT', hD', hL'⟩)
        go_roundw
        case rel => exact ⟨k + 1, fl', rl', L', by omega, by omega, by go_num, ⟨hT'⟩, ⟨hD'⟩, by omega⟩
        case measure => simp [intOf]; omega
      · have hb2 : decide ((k : Int) < 40) = false := decide_eq_false (by omega)
        go_wp2_with (first
        | (go_at_call 15; refine HTG.out.mono ?_; rintro e w4 ⟨rfl, hb4⟩; have HB4 := Aside0.mk hb4; clear hb4)
        | (go_at_call 16; refine (pintlelaw05_Map.calls 4096 256 2147483648 128 _ rfl).mono ?_; rintro e w5 ⟨rfl, hb5⟩; have HB5 := Aside0.mk hb5; clear hb5)
        | (go_at_call 8; refine (lives_any _).mono ?_; rintro e w6 ⟨rfl, hb6⟩; have HB6 := Aside0.mk hb6; clear hb6))
        go_ret
        exact ⟨rfl, ((hT.out.b.trans (HB4.out.mono hT.out.b.size)).trans (HB5.out.mono (hT.out.b.trans (HB4.out.mono hT.out.b.size)).size)).trans (HB6.out.mono ((hT.out.b.trans (HB4.out.mono hT.out.b.size)).trans (HB5.out.mono (hT.out.b.trans (HB4.out.mono hT.out.b.size)).size)).size)⟩
    · have hb1 : decide ((k : Int) < (ll.length : Int)) = false := decide_eq_false (by omega)
      go_wp2_with (first
        | (go_at_call 15; refine HTG.out.mono ?_; rintro e w4 ⟨rfl, hb4⟩; have HB4 := Aside0.mk hb4; clear hb4)
        | (go_at_call 16; refine (pintlelaw05_Map.calls 4096 256 2147483648 128 _ rfl).mono ?_; rintro e w5 ⟨rfl, hb5⟩; have HB5 := Aside0.mk hb5; clear hb5)
        | (go_at_call 8; refine (lives_any _).mono ?_; rintro e w6 ⟨rfl, hb6⟩; have HB6 := Aside0.mk hb6; clear hb6))
      go_ret
      exact ⟨rfl, ((hT.out.b.trans (HB4.out.mono hT.out.b.size)).trans (HB5.out.mono (hT.out.b.trans (HB4.out.mono hT.out.b.size)).size)).trans (HB6.out.mono ((hT.out.b.trans (HB4.out.mono hT.out.b.size)).trans (HB5.out.mono (hT.out.b.trans (HB4.out.mono hT.out.b.size)).size)).size)⟩
noncomputable section
open Classical in
def pintlelaw05_MemActs.f (ll : List S45) : Option Bool := if ∀ i : Nat, i < ll.length → ActOk (rd_T45 ll i) then some true else none
end
theorem pintlelaw05_MemActs.calls (A0 : Option Addr) (c0 : Nat) (l0 : List S45) (r : Bool) (w : World) (hr0 : Kd.C k45 w A0 l0.length l0) (hc0 : l0.length ≤ c0) (h : pintlelaw05_MemActs.f l0 = some r) :
    Calls Try.prog 5 #[.slice A0 l0.length c0] w fun e w' => e = .returned (.bool r) ∧ Below w.heap.size w w' := by
  unfold pintlelaw05_MemActs.f at h
  split at h
  case isTrue hb =>
    obtain rfl := Option.some.inj h
    exact acts_calls A0 c0 l0 w hr0 hb
  case isFalse => exact nomatch h

end Go.Proofs.Ytbbjooaggdgcmaa.PC
