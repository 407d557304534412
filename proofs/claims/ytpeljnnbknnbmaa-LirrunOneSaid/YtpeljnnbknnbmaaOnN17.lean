import Derived.Test.YtpeljnnbknnbmaaOnPDx0
import Derived.Test.YtpeljnnbknnbmaaOnN16
import Derived.Test.YtpeljnnbknnbmaaOnPDx17
import Derived.Test.YtpeljnnbknnbmaaOnPDx18
import Derived.Test.YtpeljnnbknnbmaaOnPDx19
import Derived.Test.YtpeljnnbknnbmaaOnPDx22
import Derived.Outline
namespace Go.Proofs.Ytpeljnnbknnbmaa.PD
open Go.RowKit Go.Proofs.YtpeljnnbknnbmaaW.PrintWords Go.Proofs.YtpeljnnbknnbmaaW.PrintLast Go.Proofs.YtpeljnnbknnbmaaW.PrintMore
set_option linter.unusedVariables false
set_option linter.unusedSimpArgs false
/-- the bytes that the law's memories hold -/
def memB (b : List Int) : List Int := if b.length > 100 then b.take 100 else b
theorem memB_le (b : List Int) : (memB b).length ≤ 100 := by
  unfold memB; split
  · rw [List.length_take]; omega
  · omega
/-- both memories, as they are made -/
def memRL (b : List Int) : List Int := putL 2147483648 (List.replicate 128 0) 2147483648 (memB b)
def MemsTold (w : World) (b : List Int) (e : Ending) (w' : World) : Prop :=
  ∃ gm bf br gx, e = .returned (.tuple #[.pointer (some ⟨gm, 0, none⟩), .pointer (some ⟨gx, 0, none⟩)]) ∧ MemAt w' w.heap.size gm bf br 4096 2147483648 (List.replicate 256 0) (memRL b) ∧ RefAt w' w.heap.size gx 4096 256 2147483648 128 (putWrites 2147483648 (memB b) (memB b).length) ∧ Below w.heap.size w w'
theorem can_map : mem_can.f 4096 (256 : Nat) 2147483648 (128 : Nat) = some true := by kernel_rfl
theorem fit_map : MemFit 4096 2147483648 256 128 := ⟨by decide, by decide, by decide, by decide, by decide, by decide, by decide, by decide, by decide⟩
theorem map_told (w : World) : Calls Try.prog 62 #[] w fun e w' => e = .returned (.agg #[.int .u32 4096, .int .u32 256, .int .u32 2147483648, .int .u32 128]) ∧ Below w.heap.size w w' := pintlelaw05_Map.calls 4096 256 2147483648 128 w rfl
theorem new_told (w : World) : Calls Try.prog 61 #[.agg #[.int .u32 4096, .int .u32 256, .int .u32 2147483648, .int .u32 128]] w (NewTold w 4096 2147483648 256 128) := new_yes 4096 2147483648 256 128 w can_map (by decide) (by decide)
theorem put_told (base gm bf br : Nat) (l : List Int) (A : Option Addr) (c : Nat) (w : World) (hm : MemAt w base gm bf br 4096 2147483648 (List.replicate 256 0) (List.replicate 128 0)) (hC : Kd.C (Kd.int .u8) w A l.length l) (hl : l.length ≤ 100) :
    Calls Try.prog 63 #[.pointer (some ⟨gm, 0, none⟩), .int .u32 2147483648, .slice A l.length c] w (PutTold w base gm bf br 4096 2147483648 (List.replicate 256 0) (putL 2147483648 (List.replicate 128 0) 2147483648 l) true) :=
  put_r_calls base gm bf br 4096 2147483648 (List.replicate 256 0) (List.replicate 128 0) 2147483648 l A c w hm (by rw [List.length_replicate, List.length_replicate]; exact fit_map) (by decide) (by decide) hC (by omega) (by rw [List.length_replicate]; unfold inBank; omega) (by rw [List.length_replicate]; unfold inBank; omega)
theorem refput_told (gx : Nat) (l : List Int) (A0 : Option Addr) (c0 : Nat) (w0 w : World) (hm : RefAt w w0.heap.size gx 4096 256 2147483648 128 []) (hw0 : Below w0.heap.size w0 w) (hC : Kd.C (Kd.int .u8) w0 A0 l.length l) (hl : l.length ≤ 100) :
    Calls Try.prog 64 #[.pointer (some ⟨gx, 0, none⟩), .int .u32 2147483648, .slice A0 l.length c0] w (RefTold w w0.heap.size gx 4096 256 2147483648 128 (putWrites 2147483648 l l.length) (.bool true)) := by
  have := refput_yes w0.heap.size gx 4096 256 2147483648 128 2147483648 l A0 c0 [] w0 w hm hw0 rfl hC ⟨by decide, by decide, by decide, by decide, by decide⟩ (by decide) (by omega) (by omega) (fun h => by
    unfold hasR inR
    rw [Bool.or_eq_true]
    right
    have h1 : (2147483648 : Int) ≤ 2147483648 := Int.le_refl _
    rw [Bool.and_eq_true, Bool.and_eq_true]
    exact ⟨decide_eq_true (by omega), decide_eq_true h1, decide_eq_true (by omega)⟩)
  rw [List.nil_append] at this
  exact this
theorem below_lit_app {W w3 w4 : World} {v3 : Value} (hg3 : W.grownBy w3 none) (hn3 : ∃ b, v3.ownBlock = some b ∧ W.heap.size ≤ b) (hg4 : w3.grownBy w4 v3.ownBlock) : Below W.heap.size W w4 := by
  obtain ⟨b, hb, hle⟩ := hn3
  refine ⟨hg4.os.trans hg3.os, hg4.tape.trans hg3.tape, hg4.output.trans hg3.output, Nat.le_trans hg3.size hg4.size, fun i hi => ?_⟩
  rw [hg4.block i (Nat.lt_of_lt_of_le hi hg3.size) (by rw [hb]; intro e; injection e with e; omega), hg3.block i hi (by simp)]
theorem MemAt.lower {w : World} {base base' g bf br : Nat} {F R : Int} {fl rl : List Int} (h : MemAt w base g bf br F R fl rl) (hb : base' ≤ base) : MemAt w base' g bf br F R fl rl :=
  ⟨h.hg, h.hf, h.hr, h.ne, Nat.le_trans hb h.lg, Nat.le_trans hb h.lf, Nat.le_trans hb h.lr⟩
theorem MemAt.keepT {w w' : World} {base g bf br : Nat} {F R : Int} {fl rl : List Int} (h : MemAt w base g bf br F R fl rl) (hk : KeepT w w') : MemAt w' base g bf br F R fl rl :=
  ⟨hk _ _ _ _ h.hg (by decide) (by decide), hk _ _ _ _ h.hf (by decide) (by decide), hk _ _ _ _ h.hr (by decide) (by decide), h.ne, h.lg, h.lf, h.lr⟩
theorem ref_made {w w1 w4 w6 : World} (hb : w.heap.size ≤ w1.heap.size) (h4 : Below (w1.alloc (.cells #[.int .u32 4096, .int .u32 256, .int .u32 2147483648, .int .u32 128, .slice none 0 0] 85)).heap.size (w1.alloc (.cells #[.int .u32 4096, .int .u32 256, .int .u32 2147483648, .int .u32 128, .slice none 0 0] 85)) w4) (h6 : KeepU w4 w6) : RefAt w6 w.heap.size w1.heap.size 4096 256 2147483648 128 [] :=
  ⟨none, 0, h6 _ _ _ _ ((h4.block _ (by simp)).trans (heap_alloc_new w1 _)) (by decide), hb, Kd.R_nil _ _ _ _ _⟩
set_option maxRecDepth 100000 in
set_option maxHeartbeats 8000000 in
theorem memories_calls (b : List Int) (A0 : Option Addr) (c0 : Nat) (w : World) (hC : Kd.C (Kd.int .u8) w A0 b.length b) (hc0 : b.length ≤ c0) :
    Calls Try.prog 32 #[.slice A0 b.length c0] w (MemsTold w b) := by
  obtain ⟨i0, hi, hz0, hz1, hz2⟩ := info_parts info_u8
  unfold MemsTold memRL
  obtain ⟨l, hl⟩ : ∃ l, l = memB b := ⟨_, rfl⟩
  rw [← hl]
  have hl1 : l.length ≤ 100 := by rw [hl]; exact memB_le b
  have hCl : Kd.C (Kd.int .u8) w A0 l.length l := by
    rw [hl]; unfold memB; split
    · exact Kd.C_take hC (by omega)
    · exact hC
  have hlc : l.length ≤ c0 := by rw [hl]; unfold memB; split; rw [List.length_take]; omega; omega
  have hblen := hC.2.1
  have HCL := Aside0.mk hCl
  have HL1 := Aside0.mk hl1
  have HLC := Aside0.mk hlc
  have HB := Aside0.mk (Below.refl w.heap.size w)
  by_cases hbig : 100 < b.length
  · have hcut := cut_to (P := Try.prog) 56 5 .i64 Try.underlying56 hi A0 b.length c0 100 (by decide) (by omega) hc0
    have hl2 : l.length = 100 := by rw [hl]; unfold memB; rw [if_pos hbig, List.length_take]; omega
    rw [show Int.toNat 100 = l.length by rw [hl2]; rfl] at hcut
    have hd : decide (100 < b.length) = true := decide_eq_true hbig
    have hbi : (100 : Int) < (b.length : Int) := by omega
    have hd2 : decide ((100 : Int) < (b.length : Int)) = true := decide_eq_true hbi
    clear hl hl1 hCl hlc hC hc0 hl2 hbig hi hz0 hz1 hz2
    go_enter Try.func32, Try.ntmps32
    go_wp2_with (first | (go_at_call 62; (with_reducible refine (map_told _).mono ?_); rintro e w1 ⟨rfl, hb1⟩; have HB := Aside0.mk (below_step (by repeat (first | (with_reducible first | exact HB.out | apply below_alloc | apply pw_below_drewN | apply below_drew1) | exact HB.out)) hb1); (first | (have HM := Aside0.mk (MemAt.below HM.out hb1)) | skip); clear hb1) | (go_at_call 61; (with_reducible refine (new_told _).mono ?_); rintro e w2 ⟨gm, bf, br, rfl, hm, hb2⟩; have HM := Aside0.mk (MemAt.lower hm HB.out.size); have HB := Aside0.mk (below_step HB.out hb2); clear hb2 hm) | ((with_reducible refine gate_dst (N := 21) rfl ?_); go_loud (refine Kd.R_lit (Kd.int .u8) (w0 := w) w.heap.size 5 ?hg (N := 21) ?hd (xs := ([] : List Int)) (inner := []) (ok := fun _ => True) (okp := fun _ => True) ?hr (Reps.none _ _) (fun _ hk => hk) trivial (below_alloc HB.out _) (by have := HB.out.size; simp; omega) (by simp) ?_; (case hd => rfl); (case hg => rfl); (case hr => first | (go_simp; done) | (go_simp; exact ⟨rfl, rfl⟩) | (go_simp; rfl)); intro v3 w3 ho3 hb3 hg3 hn3; have HO3 := Aside0.mk ho3; have HB3 := Aside0.mk hb3; have HG3 := Aside0.mk hg3; have HN3 := Aside0.mk hn3; clear ho3 hb3 hg3 hn3)) | ((with_reducible refine gate_builtin (b := .append) (xs := #[.tmp 21, .tmp 22]) rfl ?_); at_builtin; go_loud (refine Kd.R_append_rows (Kd.int .u8) (w0 := w) w.heap.size rfl (.tmp 21) (.tmp 22) 56 5 (.int .u8 0) 1 rfl Try.underlying56 info5' rfl (by decide) (by omega) v3 [] l A0 l.length c0 (fun _ => True) (fun _ => False) rfl rfl HO3.out (Kd.C_below HCL.out HB3.out) (fun _ _ h => h) (fun _ h => h.elim) (fun _ _ => trivial) HB3.out HB3.out.size (by have := HL1.out; simp; omega) ?_; intro v4 w4 ho4 hb4 hg4 ha4; rw [List.nil_append] at ho4; obtain ⟨A4, c4, hv4, hc4, hC4⟩ := Kd.R_reads ho4; subst hv4; have HBW := Aside0.mk (below_lit_app HG3.out HN3.out hg4); have HM4 := Aside0.mk (MemAt.below HM.out ((below_alloc (Below.refl _ _) _).trans (HBW.out.mono (by simp)))); have HB4 := Aside0.mk hb4; have HC4 := Aside0.mk hC4; clear ho4 hb4 hg4 ha4 hC4)) | (go_at_call 63; go_loud ((with_reducible refine (put_told w.heap.size gm bf br l A4 c4 _ HM4.out HC4.out HL1.out).mono ?_); rintro e w6 ⟨rfl, hm6, hk6, hb6⟩; have HM6 := Aside0.mk hm6; have HR6 := Aside0.mk (ref_made (w := w) HB.out.size HBW.out hk6); have HB6 := Aside0.mk (HB4.out.trans hb6); clear hm6 hk6 hb6)) | (go_at_call 64; go_loud ((with_reducible refine (refput_told _ l A0 c0 w _ HR6.out HB6.out HCL.out HL1.out).mono ?_); rintro e w7 ⟨rfl, hr7, hk7, hb7⟩; have HM7 := Aside0.mk (MemAt.keepT HM6.out hk7); have HR7 := Aside0.mk hr7; have HB7 := Aside0.mk (HB6.out.trans hb7); clear hr7 hk7 hb7)))
    go_ret2
    exact ⟨gm, bf, br, _, rfl, HM7.out, HR7.out, HB7.out⟩
  · have hl2 : l = b := by rw [hl]; unfold memB; rw [if_neg (by omega)]
    subst hl2
    have hd : decide (100 < l.length) = false := decide_eq_false hbig
    have hbi : ¬ (100 : Int) < (l.length : Int) := by omega
    have hd2 : decide ((100 : Int) < (l.length : Int)) = false := decide_eq_false hbi
    clear hl hl1 hCl hlc hC hc0 hbig hi hz0 hz1 hz2
    go_enter Try.func32, Try.ntmps32
    go_wp2_with (first | (go_at_call 62; (with_reducible refine (map_told _).mono ?_); rintro e w1 ⟨rfl, hb1⟩; have HB := Aside0.mk (below_step (by repeat (first | (with_reducible first | exact HB.out | apply below_alloc | apply pw_below_drewN | apply below_drew1) | exact HB.out)) hb1); (first | (have HM := Aside0.mk (MemAt.below HM.out hb1)) | skip); clear hb1) | (go_at_call 61; (with_reducible refine (new_told _).mono ?_); rintro e w2 ⟨gm, bf, br, rfl, hm, hb2⟩; have HM := Aside0.mk (MemAt.lower hm HB.out.size); have HB := Aside0.mk (below_step HB.out hb2); clear hb2 hm) | ((with_reducible refine gate_dst (N := 21) rfl ?_); go_loud (refine Kd.R_lit (Kd.int .u8) (w0 := w) w.heap.size 5 ?hg (N := 21) ?hd (xs := ([] : List Int)) (inner := []) (ok := fun _ => True) (okp := fun _ => True) ?hr (Reps.none _ _) (fun _ hk => hk) trivial (below_alloc HB.out _) (by have := HB.out.size; simp; omega) (by simp) ?_; (case hd => rfl); (case hg => rfl); (case hr => first | (go_simp; done) | (go_simp; exact ⟨rfl, rfl⟩) | (go_simp; rfl)); intro v3 w3 ho3 hb3 hg3 hn3; have HO3 := Aside0.mk ho3; have HB3 := Aside0.mk hb3; have HG3 := Aside0.mk hg3; have HN3 := Aside0.mk hn3; clear ho3 hb3 hg3 hn3)) | ((with_reducible refine gate_builtin (b := .append) (xs := #[.tmp 21, .tmp 22]) rfl ?_); at_builtin; go_loud (refine Kd.R_append_rows (Kd.int .u8) (w0 := w) w.heap.size rfl (.tmp 21) (.tmp 22) 56 5 (.int .u8 0) 1 rfl Try.underlying56 info5' rfl (by decide) (by omega) v3 [] l A0 l.length c0 (fun _ => True) (fun _ => False) rfl rfl HO3.out (Kd.C_below HCL.out HB3.out) (fun _ _ h => h) (fun _ h => h.elim) (fun _ _ => trivial) HB3.out HB3.out.size (by have := HL1.out; simp; omega) ?_; intro v4 w4 ho4 hb4 hg4 ha4; rw [List.nil_append] at ho4; obtain ⟨A4, c4, hv4, hc4, hC4⟩ := Kd.R_reads ho4; subst hv4; have HBW := Aside0.mk (below_lit_app HG3.out HN3.out hg4); have HM4 := Aside0.mk (MemAt.below HM.out ((below_alloc (Below.refl _ _) _).trans (HBW.out.mono (by simp)))); have HB4 := Aside0.mk hb4; have HC4 := Aside0.mk hC4; clear ho4 hb4 hg4 ha4 hC4)) | (go_at_call 63; go_loud ((with_reducible refine (put_told w.heap.size gm bf br l A4 c4 _ HM4.out HC4.out HL1.out).mono ?_); rintro e w6 ⟨rfl, hm6, hk6, hb6⟩; have HM6 := Aside0.mk hm6; have HR6 := Aside0.mk (ref_made (w := w) HB.out.size HBW.out hk6); have HB6 := Aside0.mk (HB4.out.trans hb6); clear hm6 hk6 hb6)) | (go_at_call 64; go_loud ((with_reducible refine (refput_told _ l A0 c0 w _ HR6.out HB6.out HCL.out HL1.out).mono ?_); rintro e w7 ⟨rfl, hr7, hk7, hb7⟩; have HM7 := Aside0.mk (MemAt.keepT HM6.out hk7); have HR7 := Aside0.mk hr7; have HB7 := Aside0.mk (HB6.out.trans hb7); clear hr7 hk7 hb7)))
    go_ret2
    exact ⟨gm, bf, br, _, rfl, HM7.out, HR7.out, HB7.out⟩

end Go.Proofs.Ytpeljnnbknnbmaa.PD
