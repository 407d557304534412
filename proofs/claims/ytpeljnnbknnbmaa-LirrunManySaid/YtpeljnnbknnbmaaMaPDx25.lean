import Derived.Test.YtpeljnnbknnbmaaMaPDx0
import Derived.Test.YtpeljnnbknnbmaaMaN16
import Derived.Test.YtpeljnnbknnbmaaMaPDx17
import Derived.Test.YtpeljnnbknnbmaaMaPDx18
import Derived.Test.YtpeljnnbknnbmaaMaPDx19
import Derived.Test.YtpeljnnbknnbmaaMaPDx22
import Derived.Outline
import Derived.Test.YtpeljnnbknnbmaaMaN10
import Derived.Test.YtpeljnnbknnbmaaMaN11
import Derived.Test.YtpeljnnbknnbmaaMaPDx13
section
namespace Go.Proofs.Ytpeljnnbknnbmaa.PD
open Go.RowKit Go.Proofs.YtpeljnnbknnbmaaW.PrintWords Go.Proofs.YtpeljnnbknnbmaaW.PrintLast Go.Proofs.YtpeljnnbknnbmaaW.PrintMore
set_option linter.unusedVariables false
set_option linter.unusedSimpArgs false
/-- the bytes that the law's memories hold -/
def memB (b : List Int) : List Int := if b.length > 100 then b.take 100 else b
theorem memB_le (b : List Int) : (memB b).length ≤ 100 := by
  unfold memB; split
  · rw [List.length_take]; omega
  · omega
/-- both memories, as they are made -/
def memRL (b : List Int) : List Int := putL 2147483648 (List.replicate 128 0) 2147483648 (memB b)
def MemsTold (w : World) (b : List Int) (e : Ending) (w' : World) : Prop :=
  ∃ gm bf br gx, e = .returned (.tuple #[.pointer (some ⟨gm, 0, none⟩), .pointer (some ⟨gx, 0, none⟩)]) ∧ MemAt w' w.heap.size gm bf br 4096 2147483648 (List.replicate 256 0) (memRL b) ∧ RefAt w' w.heap.size gx 4096 256 2147483648 128 (putWrites 2147483648 (memB b) (memB b).length) ∧ Below w.heap.size w w'
theorem can_map : mem_can.f 4096 (256 : Nat) 2147483648 (128 : Nat) = some true := by kernel_rfl
theorem fit_map : MemFit 4096 2147483648 256 128 := ⟨by decide, by decide, by decide, by decide, by decide, by decide, by decide, by decide, by decide⟩
theorem map_told (w : World) : Calls Try.prog 62 #[] w fun e w' => e = .returned (.agg #[.int .u32 4096, .int .u32 256, .int .u32 2147483648, .int .u32 128]) ∧ Below w.heap.size w w' := pintlelaw05_Map.calls 4096 256 2147483648 128 w rfl
theorem new_told (w : World) : Calls Try.prog 61 #[.agg #[.int .u32 4096, .int .u32 256, .int .u32 2147483648, .int .u32 128]] w (NewTold w 4096 2147483648 256 128) := new_yes 4096 2147483648 256 128 w can_map (by decide) (by decide)
theorem put_told (base gm bf br : Nat) (l : List Int) (A : Option Addr) (c : Nat) (w : World) (hm : MemAt w base gm bf br 4096 2147483648 (List.replicate 256 0) (List.replicate 128 0)) (hC : Kd.C (Kd.int .u8) w A l.length l) (hl : l.length ≤ 100) :
    Calls Try.prog 63 #[.pointer (some ⟨gm, 0, none⟩), .int .u32 2147483648, .slice A l.length c] w (PutTold w base gm bf br 4096 2147483648 (List.replicate 256 0) (putL 2147483648 (List.replicate 128 0) 2147483648 l) true) :=
  put_r_calls base gm bf br 4096 2147483648 (List.replicate 256 0) (List.replicate 128 0) 2147483648 l A c w hm (by rw [List.length_replicate, List.length_replicate]; exact fit_map) (by decide) (by decide) hC (by omega) (by rw [List.length_replicate]; unfold inBank; omega) (by rw [List.length_replicate]; unfold inBank; omega)
theorem refput_told (gx : Nat) (l : List Int) (A0 : Option Addr) (c0 : Nat) (w0 w : World) (hm : RefAt w w0.heap.size gx 4096 256 2147483648 128 []) (hw0 : Below w0.heap.size w0 w) (hC : Kd.C (Kd.int .u8) w0 A0 l.length l) (hl : l.length ≤ 100) :
    Calls Try.prog 64 #[.pointer (some ⟨gx, 0, none⟩), .int .u32 2147483648, .slice A0 l.length c0] w (RefTold w w0.heap.size gx 4096 256 2147483648 128 (putWrites 2147483648 l l.length) (.bool true)) := by
  have := refput_yes w0.heap.size gx 4096 256 2147483648 128 2147483648 l A0 c0 [] w0 w hm hw0 rfl hC ⟨by decide, by decide, by decide, by decide, by decide⟩ (by decide) (by omega) (by omega) (fun h => by
    unfold hasR inR
    rw [Bool.or_eq_true]
    right
    have h1 : (2147483648 : Int) ≤ 2147483648 := Int.le_refl _
    rw [Bool.and_eq_true, Bool.and_eq_true]
    exact ⟨decide_eq_true (by omega), decide_eq_true h1, decide_eq_true (by omega)⟩)
  rw [List.nil_append] at this
  exact this
theorem below_lit_app {W w3 w4 : World} {v3 : Value} (hg3 : W.grownBy w3 none) (hn3 : ∃ b, v3.ownBlock = some b ∧ W.heap.size ≤ b) (hg4 : w3.grownBy w4 v3.ownBlock) : Below W.heap.size W w4 := by
  obtain ⟨b, hb, hle⟩ := hn3
  refine ⟨hg4.os.trans hg3.os, hg4.tape.trans hg3.tape, hg4.output.trans hg3.output, Nat.le_trans hg3.size hg4.size, fun i hi => ?_⟩
  rw [hg4.block i (Nat.lt_of_lt_of_le hi hg3.size) (by rw [hb]; intro e; injection e with e; omega), hg3.block i hi (by simp)]
theorem MemAt.lower {w : World} {base base' g bf br : Nat} {F R : Int} {fl rl : List Int} (h : MemAt w base g bf br F R fl rl) (hb : base' ≤ base) : MemAt w base' g bf br F R fl rl :=
  ⟨h.hg, h.hf, h.hr, h.ne, Nat.le_trans hb h.lg, Nat.le_trans hb h.lf, Nat.le_trans hb h.lr⟩
theorem MemAt.keepT {w w' : World} {base g bf br : Nat} {F R : Int} {fl rl : List Int} (h : MemAt w base g bf br F R fl rl) (hk : KeepT w w') : MemAt w' base g bf br F R fl rl :=
  ⟨hk _ _ _ _ h.hg (by decide) (by decide), hk _ _ _ _ h.hf (by decide) (by decide), hk _ _ _ _ h.hr (by decide) (by decide), h.ne, h.lg, h.lf, h.lr⟩
theorem ref_made {w w1 w4 w6 : World} (hb : w.heap.size ≤ w1.heap.size) (h4 : Below (w1.alloc (.cells #[.int .u32 4096, .int .u32 256, .int .u32 2147483648, .int .u32 128, .slice none 0 0] 85)).heap.size (w1.alloc (.cells #[.int .u32 4096, .int .u32 256, .int .u32 2147483648, .int .u32 128, .slice none 0 0] 85)) w4) (h6 : KeepU w4 w6) : RefAt w6 w.heap.size w1.heap.size 4096 256 2147483648 128 [] :=
  ⟨none, 0, h6 _ _ _ _ ((h4.block _ (by simp)).trans (heap_alloc_new w1 _)) (by decide), hb, Kd.R_nil _ _ _ _ _⟩
set_option maxRecDepth 100000 in
set_option maxHeartbeats 8000000 in
theorem memories_calls (b : List Int) (A0 : Option Addr) (c0 : Nat) (w : World) (hC : Kd.C (Kd.int .u8) w A0 b.length b) (hc0 : b.length ≤ c0) :
    Calls Try.prog 32 #[.slice A0 b.length c0] w (MemsTold w b) := by
  obtain ⟨i0, hi, hz0, hz1, hz2⟩ := info_parts info_u8
  unfold MemsTold memRL
  obtain ⟨l, hl⟩ : ∃ l, l = memB b := ⟨_, rfl⟩
  rw [← hl]
  have hl1 : l.length ≤ 100 := by rw [hl]; exact memB_le b
  have hCl : Kd.C (Kd.int .u8) w A0 l.length l := by
    rw [hl]; unfold memB; split
    · exact Kd.C_take hC (by omega)
    · exact hC
  have hlc : l.length ≤ c0 := by rw [hl]; unfold memB; split; rw [List.length_take]; omega; omega
  have hblen := hC.2.1
  have HCL := Aside0.mk hCl
  have HL1 := Aside0.mk hl1
  have HLC := Aside0.mk hlc
  have HB := Aside0.mk (Below.refl w.heap.size w)
  by_cases hbig : 100 < b.length
  · have hcut := cut_to (P := Try.prog) 56 5 .i64 Try.underlying56 hi A0 b.length c0 100 (by decide) (by omega) hc0
    have hl2 : l.length = 100 := by rw [hl]; unfold memB; rw [if_pos hbig, List.length_take]; omega
    rw [show Int.toNat 100 = l.length by rw [hl2]; rfl] at hcut
    have hd : decide (100 < b.length) = true := decide_eq_true hbig
    have hbi : (100 : Int) < (b.length : Int) := by omega
    have hd2 : decide ((100 : Int) < (b.length : Int)) = true := decide_eq_true hbi
    clear hl hl1 hCl hlc hC hc0 hl2 hbig hi hz0 hz1 hz2
    go_enter Try.func32, Try.ntmps32
    go_wp2_with (first | (go_at_call 62; (with_reducible refine (map_told _).mono ?_); rintro e w1 ⟨rfl, hb1⟩; have HB := Aside0.mk (below_step (by repeat (first | (with_reducible first | exact HB.out | apply below_alloc | apply pw_below_drewN | apply below_drew1) | exact HB.out)) hb1); (first | (have HM := Aside0.mk (MemAt.below HM.out hb1)) | skip); clear hb1) | (go_at_call 61; (with_reducible refine (new_told _).mono ?_); rintro e w2 ⟨gm, bf, br, rfl, hm, hb2⟩; have HM := Aside0.mk (MemAt.lower hm HB.out.size); have HB := Aside0.mk (below_step HB.out hb2); clear hb2 hm) | ((with_reducible refine gate_dst (N := 21) rfl ?_); go_loud (refine Kd.R_lit (Kd.int .u8) (w0 := w) w.heap.size 5 ?hg (N := 21) ?hd (xs := ([] : List Int)) (inner := []) (ok := fun _ => True) (okp := fun _ => True) ?hr (Reps.none _ _) (fun _ hk => hk) trivial (below_alloc HB.out _) (by have := HB.out.size; simp; omega) (by simp) ?_; (case hd => rfl); (case hg => rfl); (case hr => first | (go_simp; done) | (go_simp; exact ⟨rfl, rfl⟩) | (go_simp; rfl)); intro v3 w3 ho3 hb3 hg3 hn3; have HO3 := Aside0.mk ho3; have HB3 := Aside0.mk hb3; have HG3 := Aside0.mk hg3; have HN3 := Aside0.mk hn3; clear ho3 hb3 hg3 hn3)) | ((with_reducible refine gate_builtin (b := .append) (xs := #[.tmp 21, .tmp 22]) rfl ?_); at_builtin; go_loud (refine Kd.R_append_rows (Kd.int .u8) (w0 := w) w.heap.size rfl (.tmp 21) (.tmp 22) 56 5 (.int .u8 0) 1 rfl Try.underlying56 info5' rfl (by decide) (by omega) v3 [] l A0 l.length c0 (fun _ => True) (fun _ => False) rfl rfl HO3.out (Kd.C_below HCL.out HB3.out) (fun _ _ h => h) (fun _ h => h.elim) (fun _ _ => trivial) HB3.out HB3.out.size (by have := HL1.out; simp; omega) ?_; intro v4 w4 ho4 hb4 hg4 ha4; rw [List.nil_append] at ho4; obtain ⟨A4, c4, hv4, hc4, hC4⟩ := Kd.R_reads ho4; subst hv4; have HBW := Aside0.mk (below_lit_app HG3.out HN3.out hg4); have HM4 := Aside0.mk (MemAt.below HM.out ((below_alloc (Below.refl _ _) _).trans (HBW.out.mono (by simp)))); have HB4 := Aside0.mk hb4; have HC4 := Aside0.mk hC4; clear ho4 hb4 hg4 ha4 hC4)) | (go_at_call 63; go_loud ((with_reducible refine (put_told w.heap.size gm bf br l A4 c4 _ HM4.out HC4.out HL1.out).mono ?_); rintro e w6 ⟨rfl, hm6, hk6, hb6⟩; have HM6 := Aside0.mk hm6; have HR6 := Aside0.mk (ref_made (w := w) HB.out.size HBW.out hk6); have HB6 := Aside0.mk (HB4.out.trans hb6); clear hm6 hk6 hb6)) | (go_at_call 64; go_loud ((with_reducible refine (refput_told _ l A0 c0 w _ HR6.out HB6.out HCL.out HL1.out).mono ?_); rintro e w7 ⟨rfl, hr7, hk7, hb7⟩; have HM7 := Aside0.mk (MemAt.keepT HM6.out hk7); have HR7 := Aside0.mk hr7; have HB7 := Aside0.mk (HB6.out.trans hb7); clear hr7 hk7 hb7)))
    go_ret2
    exact ⟨gm, bf, br, _, rfl, HM7.out, HR7.out, HB7.out⟩
  · have hl2 : l = b := by rw [hl]; unfold memB; rw [if_neg (by omega)]
    subst hl2
    have hd : decide (100 < l.length) = false := decide_eq_false hbig
    have hbi : ¬ (100 : Int) < (l.length : Int) := by omega
    have hd2 : decide ((100 : Int) < (l.length : Int)) = false := decide_eq_false hbi
    clear hl hl1 hCl hlc hC hc0 hbig hi hz0 hz1 hz2
    go_enter Try.func32, Try.ntmps32
    go_wp2_with (first | (go_at_call 62; (with_reducible refine (map_told _).mono ?_); rintro e w1 ⟨rfl, hb1⟩; have HB := Aside0.mk (below_step (by repeat (first | (with_reducible first | exact HB.out | apply below_alloc | apply pw_below_drewN | apply below_drew1) | exact HB.out)) hb1); (first | (have HM := Aside0.mk (MemAt.below HM.out hb1)) | skip); clear hb1) | (go_at_call 61; (with_reducible refine (new_told _).mono ?_); rintro e w2 ⟨gm, bf, br, rfl, hm, hb2⟩; have HM := Aside0.mk (MemAt.lower hm HB.out.size); have HB := Aside0.mk (below_step HB.out hb2); clear hb2 hm) | ((with_reducible refine gate_dst (N := 21) rfl ?_); go_loud (refine Kd.R_lit (Kd.int .u8) (w0 := w) w.heap.size 5 ?hg (N := 21) ?hd (xs := ([] : List Int)) (inner := []) (ok := fun _ => True) (okp := fun _ => True) ?hr (Reps.none _ _) (fun _ hk => hk) trivial (below_alloc HB.out _) (by have := HB.out.size; simp; omega) (by simp) ?_; (case hd => rfl); (case hg => rfl); (case hr => first | (go_simp; done) | (go_simp; exact ⟨rfl, rfl⟩) | (go_simp; rfl)); intro v3 w3 ho3 hb3 hg3 hn3; have HO3 := Aside0.mk ho3; have HB3 := Aside0.mk hb3; have HG3 := Aside0.mk hg3; have HN3 := Aside0.mk hn3; clear ho3 hb3 hg3 hn3)) | ((with_reducible refine gate_builtin (b := .append) (xs := #[.tmp 21, .tmp 22]) rfl ?_); at_builtin; go_loud (refine Kd.R_append_rows (Kd.int .u8) (w0 := w) w.heap.size rfl (.tmp 21) (.tmp 22) 56 5 (.int .u8 0) 1 rfl Try.underlying56 info5' rfl (by decide) (by omega) v3 [] l A0 l.length c0 (fun _ => True) (fun _ => False) rfl rfl HO3.out (Kd.C_below HCL.out HB3.out) (fun _ _ h => h) (fun _ h => h.elim) (fun _ _ => trivial) HB3.out HB3.out.size (by have := HL1.out; simp; omega) ?_; intro v4 w4 ho4 hb4 hg4 ha4; rw [List.nil_append] at ho4; obtain ⟨A4, c4, hv4, hc4, hC4⟩ := Kd.R_reads ho4; subst hv4; have HBW := Aside0.mk (below_lit_app HG3.out HN3.out hg4); have HM4 := Aside0.mk (MemAt.below HM.out ((below_alloc (Below.refl _ _) _).trans (HBW.out.mono (by simp)))); have HB4 := Aside0.mk hb4; have HC4 := Aside0.mk hC4; clear ho4 hb4 hg4 ha4 hC4)) | (go_at_call 63; go_loud ((with_reducible refine (put_told w.heap.size gm bf br l A4 c4 _ HM4.out HC4.out HL1.out).mono ?_); rintro e w6 ⟨rfl, hm6, hk6, hb6⟩; have HM6 := Aside0.mk hm6; have HR6 := Aside0.mk (ref_made (w := w) HB.out.size HBW.out hk6); have HB6 := Aside0.mk (HB4.out.trans hb6); clear hm6 hk6 hb6)) | (go_at_call 64; go_loud ((with_reducible refine (refput_told _ l A0 c0 w _ HR6.out HB6.out HCL.out HL1.out).mono ?_); rintro e w7 ⟨rfl, hr7, hk7, hb7⟩; have HM7 := Aside0.mk (MemAt.keepT HM6.out hk7); have HR7 := Aside0.mk hr7; have HB7 := Aside0.mk (HB6.out.trans hb7); clear hr7 hk7 hb7)))
    go_ret2
    exact ⟨gm, bf, br, _, rfl, HM7.out, HR7.out, HB7.out⟩

end Go.Proofs.Ytpeljnnbknnbmaa.PD
end
section
section
namespace Go.Proofs.Ytpeljnnbknnbmaa.PD
open Go.RowKit Go.Proofs.YtpeljnnbknnbmaaW.PrintWords Go.Proofs.YtpeljnnbknnbmaaW.PrintLast Go.Proofs.YtpeljnnbknnbmaaW.PrintMore
set_option linter.unusedVariables false
set_option linter.unusedSimpArgs false
/-- an operation's shape -/
def ofV (op : Int) : Bool × Bool × Bool × Int × Int × Bool :=
  if op < 1 ∨ 24 < op then (false, false, false, 0, 0, false)
  else if op = 1 then (true, false, false, -2147483648, 2147483647, true)
  else if op = 2 then (true, true, false, 0, 0, true)
  else if op ≤ 12 then (true, true, true, 0, 0, true)
  else if op = 13 ∨ (17 ≤ op ∧ op ≤ 20) then (true, true, false, -2147483648, 2147483647, true)
  else if op ≤ 16 then (true, true, false, 0, 31, true)
  else if op ≤ 22 then (false, true, true, -2147483648, 2147483647, true)
  else if op = 23 then (true, false, false, 1, 100000, true)
  else (false, false, false, 0, 0, true)
theorem of_eq (k : Nat) (op : Int) : lir_of.f (k + 2) op = some (ofV op) := by
  have j1 : ∀ b, lir_of.j1 (k + 1) op b = if b = true then some (true, true, false, -2147483648, 2147483647, true) else if op ≤ 16 then some (true, true, false, 0, 31, true) else if op ≤ 22 then some (false, true, true, -2147483648, 2147483647, true) else if op = 23 then some (true, false, false, 1, 100000, true) else some (false, false, false, 0, 0, true) := fun b => by
    simp only [lir_of.j1]
  unfold lir_of.f ofV
  by_cases h1 : op < 1
  · rw [if_pos h1, if_pos (Or.inl h1)]; simp [lir_of.j0]
  · rw [if_neg h1]
    simp only [lir_of.j0, j1]
    by_cases h2 : op > 24
    · rw [if_pos (by simpa using h2), if_pos (Or.inr h2)]
    · rw [if_neg (by simpa using h2), if_neg (show ¬ (op < 1 ∨ 24 < op) by omega)]
      by_cases e1 : op = 1
      · rw [if_pos e1, if_pos e1]
      · rw [if_neg e1, if_neg e1]
        by_cases e2 : op = 2
        · rw [if_pos e2, if_pos e2]
        · rw [if_neg e2, if_neg e2]
          by_cases e3 : op ≤ 12
          · rw [if_pos e3, if_pos e3]
          · rw [if_neg e3, if_neg e3]
            by_cases e4 : op = 13
            · subst e4; simp
            · rw [if_neg e4]
              by_cases e5 : op ≥ 17
              · rw [if_pos e5]
                by_cases e6 : op ≤ 20
                · rw [if_pos (by simpa using e6), if_pos (show op = 13 ∨ (17 ≤ op ∧ op ≤ 20) by omega)]
                · rw [if_neg (by simpa using e6), if_neg (show ¬ (op = 13 ∨ (17 ≤ op ∧ op ≤ 20)) by omega)]
                  split
                  · rfl
                  · split
                    · rfl
                    · split <;> rfl
              · rw [if_neg e5, if_neg (by decide), if_neg (show ¬ (op = 13 ∨ (17 ≤ op ∧ op ≤ 20)) by omega)]
                split
                · rfl
                · split
                  · rfl
                  · split <;> rfl
def fitsV (v : Int) (has : Bool) : Bool := decide (v = 0 ∨ (has = true ∧ 0 < v ∧ v < 64))
theorem fits_eq (v : Int) (has : Bool) : lir_fits.f v has = some (fitsV v has) := by
  unfold lir_fits.f fitsV
  by_cases h1 : v = 0
  · rw [if_pos h1]; simp [h1]
  · rw [if_neg h1]
    cases has
    · simp [h1]
    · rw [if_pos rfl]
      by_cases h2 : v > 0
      · rw [if_pos h2]; congr 1; rw [Bool.eq_iff_iff]; simp; omega
      · rw [if_neg h2]; congr 1; symm; apply decide_eq_false; simp; omega
/-- a step that may be -/
def canV (o d a b i : Int) : Bool := (ofV o).2.2.2.2.2 && (fitsV d (ofV o).1 && (fitsV a (ofV o).2.1 && (fitsV b (ofV o).2.2.1 && (decide (i ≥ (ofV o).2.2.2.1) && decide (i ≤ (ofV o).2.2.2.2.1)))))
theorem can_eq (k : Nat) (o d a b i : Int) : lir_can.f (k + 2) o d a b i = some ((ofV o).1, (ofV o).2.1, (ofV o).2.2.1, (ofV o).2.2.2.1, (ofV o).2.2.2.2.1, canV o d a b i) := by
  unfold lir_can.f canV
  simp only [of_eq, fits_eq, Option.bind_some]
  cases h1 : (ofV o).2.2.2.2.2
  · simp
  · cases h2 : fitsV d (ofV o).1
    · simp
    · cases h3 : fitsV a (ofV o).2.1
      · simp
      · cases h4 : fitsV b (ofV o).2.2.1
        · simp
        · by_cases h5 : i ≥ (ofV o).2.2.2.1
          · simp [h5]
          · simp [h5]

/-- the loops that are open behind so many steps, the last one first; none: an end had no loop -/
def stk (l : List S49) : Nat → Option (List Nat)
  | 0 => some []
  | i + 1 => match stk l i with
    | none => none
    | some st => if (rd_T49 l (i : Int)).f0 = 23 then some (i :: st) else if (rd_T49 l (i : Int)).f0 = 24 then (match st with | [] => none | _ :: r => some r) else some st
theorem stk_loop {l : List S49} {i : Nat} {st : List Nat} (h : stk l i = some st) (hx : (rd_T49 l (i : Int)).f0 = 23) : stk l (i + 1) = some (i :: st) := by
  show (match stk l i with | none => none | some st => if (rd_T49 l (i : Int)).f0 = 23 then some (i :: st) else if (rd_T49 l (i : Int)).f0 = 24 then (match st with | [] => none | _ :: r => some r) else some st) = _
  rw [h]; simp only; rw [if_pos hx]
theorem stk_end {l : List S49} {i fr : Nat} {st : List Nat} (h : stk l i = some (fr :: st)) (hx : (rd_T49 l (i : Int)).f0 = 24) : stk l (i + 1) = some st := by
  show (match stk l i with | none => none | some st => if (rd_T49 l (i : Int)).f0 = 23 then some (i :: st) else if (rd_T49 l (i : Int)).f0 = 24 then (match st with | [] => none | _ :: r => some r) else some st) = _
  rw [h]; simp only; rw [if_neg (by omega), if_pos hx]
theorem stk_bad {l : List S49} {i : Nat} (h : stk l i = some []) (hx : (rd_T49 l (i : Int)).f0 = 24) : stk l (i + 1) = none := by
  show (match stk l i with | none => none | some st => if (rd_T49 l (i : Int)).f0 = 23 then some (i :: st) else if (rd_T49 l (i : Int)).f0 = 24 then (match st with | [] => none | _ :: r => some r) else some st) = _
  rw [h]; simp only; rw [if_neg (by omega), if_pos hx]
theorem stk_else {l : List S49} {i : Nat} {st : List Nat} (h : stk l i = some st) (h1 : (rd_T49 l (i : Int)).f0 ≠ 23) (h2 : (rd_T49 l (i : Int)).f0 ≠ 24) : stk l (i + 1) = some st := by
  show (match stk l i with | none => none | some st => if (rd_T49 l (i : Int)).f0 = 23 then some (i :: st) else if (rd_T49 l (i : Int)).f0 = 24 then (match st with | [] => none | _ :: r => some r) else some st) = _
  rw [h]; simp only; rw [if_neg h1, if_neg h2]
theorem stk_none {l : List S49} {i : Nat} (h : stk l i = none) (d : Nat) : stk l (i + d) = none := by
  induction d with
  | zero => exact h
  | succ d ih =>
    show (match stk l (i + d) with | none => none | some st => _) = none
    rw [ih]
theorem stk_before {l : List S49} {n : Nat} {st : List Nat} (h : stk l n = some st) {i : Nat} (hi : i ≤ n) : ∃ st', stk l i = some st' := by
  cases hs : stk l i with
  | some st' => exact ⟨st', rfl⟩
  | none =>
    have := stk_none hs (n - i)
    rw [show i + (n - i) = n by omega, h] at this
    cases this
/-- what is open are loops that stand ahead -/
theorem stk_lt {l : List S49} : ∀ {i : Nat} {st : List Nat}, stk l i = some st → ∀ j ∈ st, j < i ∧ (rd_T49 l (j : Int)).f0 = 23 := by
  intro i
  induction i with
  | zero => intro st h j hj; cases h; cases hj
  | succ i ih =>
    intro st h j hj
    obtain ⟨st', hs⟩ := stk_before h (Nat.le_succ i)
    by_cases h1 : (rd_T49 l (i : Int)).f0 = 23
    · rw [stk_loop hs h1] at h
      cases h
      rcases List.mem_cons.1 hj with rfl | hj
      · exact ⟨by omega, h1⟩
      · have := ih hs j hj; exact ⟨by omega, this.2⟩
    · by_cases h2 : (rd_T49 l (i : Int)).f0 = 24
      · cases st' with
        | nil => rw [stk_bad hs h2] at h; cases h
        | cons fr r =>
          rw [stk_end hs h2] at h
          cases h
          have := ih hs j (List.mem_cons_of_mem _ hj); exact ⟨by omega, this.2⟩
      · rw [stk_else hs h1 h2] at h
        cases h
        have := ih hs j hj; exact ⟨by omega, this.2⟩
theorem stk_len {l : List S49} : ∀ {i : Nat} {st : List Nat}, stk l i = some st → st.length ≤ i := by
  intro i
  induction i with
  | zero => intro st h; cases h; simp
  | succ i ih =>
    intro st h
    obtain ⟨st', hs⟩ := stk_before h (Nat.le_succ i)
    have := ih hs
    by_cases h1 : (rd_T49 l (i : Int)).f0 = 23
    · rw [stk_loop hs h1] at h; cases h; simp; omega
    · by_cases h2 : (rd_T49 l (i : Int)).f0 = 24
      · cases st' with
        | nil => rw [stk_bad hs h2] at h; cases h
        | cons fr r => rw [stk_end hs h2] at h; cases h; simp at this; omega
      · rw [stk_else hs h1 h2] at h; cases h; omega
def opn (st : List Nat) : List Int := (st.map fun j : Nat => (j : Int)).reverse
theorem opn_len (st : List Nat) : (opn st).length = st.length := by simp [opn]
theorem opn_last (fr : Nat) (st : List Nat) : rd (opn (fr :: st)) (st.length : Int) = fr := by
  unfold rd opn
  rw [Int.toNat_natCast, List.map_cons, List.reverse_cons, List.getD_eq_getElem?_getD, List.getElem?_append_right (by simp)]
  simp
theorem opn_take (fr : Nat) (st : List Nat) : (opn (fr :: st)).take st.length = opn st := by
  unfold opn
  rw [List.map_cons, List.reverse_cons, List.take_left' (by simp)]
/-- where the ends behind so many steps go back to -/
structure OutOk (l : List S49) (i : Nat) (out : List Int) : Prop where
  len : out.length = l.length
  fr : ∀ j, j < i → (rd_T49 l (j : Int)).f0 = 24 → ∀ fr st, stk l j = some (fr :: st) → rd out (j : Int) = fr
theorem wrap_small (x : Int) (h0 : -1 ≤ x) (h : x ≤ 1000000) : wrap64 x = x := by unfold wrap64; omega
theorem ends_from (l : List S49) (hl : l.length ≤ 20000) : ∀ (d i k : Nat) (st : List Nat) (out : List Int), i + d = l.length → d < k → stk l i = some st → OutOk l i out →
    (∃ E, lir_ends.l0 k out (opn st) l (l.length : Int) (i : Int) = some (E, true) ∧ OutOk l l.length E ∧ stk l l.length = some []) ∨ (lir_ends.l0 k out (opn st) l (l.length : Int) (i : Int) = some ([], false) ∧ stk l l.length ≠ some []) := by
  intro d
  induction d with
  | zero =>
    intro i k st out hid hk hst ho
    obtain ⟨k, rfl⟩ : ∃ m, k = m + 1 := ⟨k - 1, by omega⟩
    obtain rfl : i = l.length := by omega
    simp only [lir_ends.l0]
    rw [if_neg (by omega)]
    cases st with
    | nil => rw [if_neg (by simp [opn])]; exact Or.inl ⟨out, rfl, ho, hst⟩
    | cons fr r => rw [if_pos (by rw [opn_len]; simp)]; exact Or.inr ⟨rfl, by rw [hst]; simp⟩
  | succ d ih =>
    intro i k st out hid hk hst ho
    obtain ⟨k, rfl⟩ : ∃ m, k = m + 1 := ⟨k - 1, by omega⟩
    have hw : wrap64 ((i : Int) + 1) = ((i + 1 : Nat) : Int) := by rw [wrap_small _ (by omega) (by omega)]; omega
    have hsl := stk_len hst
    simp only [lir_ends.l0]
    rw [if_pos (by omega), if_pos (by omega), if_pos (by omega), if_pos (by rw [ho.len]; omega), hw]
    simp only [Option.bind_some, Int.toNat_natCast]
    by_cases h1 : (rd_T49 l (i : Int)).f0 = 23
    · rw [if_pos h1, if_pos (by rw [opn_len]; omega)]
      have := ih (i + 1) k (i :: st) (out.set i (-1)) (by omega) (by omega) (stk_loop hst h1) ⟨by rw [List.length_set]; exact ho.len, fun j hj hx fr r hs => by
        by_cases e : j = i
        · subst e; omega
        · rw [rd_far i j _ (by rw [ho.len]; omega) (by omega)]; exact ho.fr j (by omega) hx fr r hs⟩
      simpa [opn] using this
    · rw [if_neg h1]
      by_cases h2 : (rd_T49 l (i : Int)).f0 = 24
      · rw [if_pos h2]
        cases st with
        | nil =>
          rw [if_pos (by simp [opn])]
          refine Or.inr ⟨rfl, ?_⟩
          have := stk_none (stk_bad hst h2) d
          rw [show i + 1 + d = l.length by omega] at this
          rw [this]; simp
        | cons fr r =>
          have hfr := stk_lt hst fr List.mem_cons_self
          have hol : ((opn (fr :: r)).length : Int) = (r.length : Int) + 1 := by rw [opn_len]; simp
          rw [if_neg (by rw [hol]; omega), hol, show (r.length : Int) + 1 - 1 = r.length by omega, wrap_small _ (by omega) (by simp at hsl; omega), opn_last]
          rw [if_pos (by omega), if_pos (by omega), if_pos (by omega), if_pos (by omega), if_pos (by rw [ho.len]; omega)]
          simp only [Int.toNat_natCast]
          rw [opn_take]
          exact ih (i + 1) k r (((out.set i (-1)).set i (fr : Int)).set fr (i : Int)) (by omega) (by omega) (stk_end hst h2) ⟨by simp only [List.length_set]; exact ho.len, fun j hj hx fr' r' hs => by
            have hne : fr ≠ j := by intro e; rw [← e] at hx; omega
            rw [rd_far fr j _ (by simp only [List.length_set]; rw [ho.len]; omega) hne]
            by_cases e : j = i
            · subst e
              rw [hst] at hs
              cases hs
              rw [rd_at _ _ (by rw [List.length_set, ho.len]; omega)]
            · rw [rd_far i j _ (by rw [List.length_set, ho.len]; omega) (by omega), rd_far i j _ (by rw [ho.len]; omega) (by omega)]
              exact ho.fr j (by omega) hx fr' r' hs⟩
      · rw [if_neg h2]
        exact ih (i + 1) k st (out.set i (-1)) (by omega) (by omega) (stk_else hst h1 h2) ⟨by rw [List.length_set]; exact ho.len, fun j hj hx fr r hs => by
          by_cases e : j = i
          · subst e; exact absurd hx h2
          · rw [rd_far i j _ (by rw [ho.len]; omega) (by omega)]; exact ho.fr j (by omega) hx fr r hs⟩
theorem ends_all (l : List S49) (hl : l.length ≤ 20000) (k : Nat) (hk : l.length < k) :
    (∃ E, lir_ends.f k l = some (E, true) ∧ OutOk l l.length E ∧ stk l l.length = some []) ∨ (lir_ends.f k l = some ([], false) ∧ stk l l.length ≠ some []) := by
  unfold lir_ends.f
  rw [if_pos (by omega), Int.toNat_natCast, if_pos (by omega)]
  have h := ends_from l hl l.length 0 k [] (List.replicate l.length 0) (by omega) hk rfl ⟨by simp, fun j hj => absurd hj (by omega)⟩
  exact h
/-- the counters of the loops that are open -/
def cnts (l : List S49) (st : List Nat) : List Int := (st.map fun j : Nat => (rd_T49 l (j : Int)).f1).reverse
/-- a step does not set an open loop's counter, and loops are not too deep -/
def KOk (l : List S49) (i : Nat) : Prop := ∀ st, stk l i = some st → ((ofV (rd_T49 l (i : Int)).f0).1 = true → ∀ j ∈ st, (rd_T49 l (i : Int)).f1 ≠ (rd_T49 l (j : Int)).f1) ∧ ∀ st', stk l (i + 1) = some st' → st'.length ≤ 10
theorem index_from (C : List Int) (x : Int) (hl : C.length ≤ 100) : ∀ (d i k : Nat), i + d = C.length → d < k → ∃ r, slices_Index_int_int.l0 k C x (C.length : Int) (i : Int) = some r ∧ (r ≥ 0 ↔ x ∈ C.drop i) := by
  intro d
  induction d with
  | zero =>
    intro i k hid hk
    obtain ⟨k, rfl⟩ : ∃ m, k = m + 1 := ⟨k - 1, by omega⟩
    simp only [slices_Index_int_int.l0]
    rw [if_neg (by omega), List.drop_eq_nil_of_le (by omega)]
    exact ⟨-1, rfl, by simp⟩
  | succ d ih =>
    intro i k hid hk
    obtain ⟨k, rfl⟩ : ∃ m, k = m + 1 := ⟨k - 1, by omega⟩
    have hi : i < C.length := by omega
    have hr : rd C (i : Int) = C[i] := by unfold rd; rw [Int.toNat_natCast, List.getD_eq_getElem?_getD, List.getElem?_eq_getElem hi]; rfl
    simp only [slices_Index_int_int.l0]
    have hdr : C.drop i = C[i] :: C.drop (i + 1) := List.drop_eq_getElem_cons hi
    rw [if_pos (by omega), if_pos (by omega), if_pos (by omega), hr]
    by_cases e : x = C[i]
    · rw [if_pos e]
      exact ⟨i, rfl, ⟨fun _ => by rw [hdr, e]; exact List.mem_cons_self, fun _ => by omega⟩⟩
    · rw [if_neg e, wrap_small _ (by omega) (by omega), show (i : Int) + 1 = ((i + 1 : Nat) : Int) by omega]
      obtain ⟨r, h1, h2⟩ := ih (i + 1) k (by omega) (by omega)
      exact ⟨r, h1, h2.trans ⟨fun h => by rw [hdr]; exact List.mem_cons_of_mem _ h, fun h => by rw [hdr] at h; exact (List.mem_cons.1 h).resolve_left e⟩⟩
theorem contains_all (C : List Int) (x : Int) (hl : C.length ≤ 100) (k : Nat) (hk : C.length < k) : slices_Contains_int_int.f k C x = some (decide (x ∈ C)) := by
  obtain ⟨r, h1, h2⟩ := index_from C x hl C.length 0 k (by omega) hk
  unfold slices_Contains_int_int.f slices_Index_int_int.f
  rw [show (0 : Int) = ((0 : Nat) : Int) from rfl, h1]
  simp only [Option.bind_some]
  show some (decide (r ≥ 0)) = _
  congr 1
  rw [List.drop_zero] at h2
  by_cases e : x ∈ C
  · rw [decide_eq_true e, decide_eq_true (h2.2 e)]
  · rw [decide_eq_false e, decide_eq_false (fun h => e (h2.1 h))]
theorem kept_from (l : List S49) (hl : l.length ≤ 20000) (hfin : ∃ st, stk l l.length = some st) : ∀ (d i k : Nat) (st : List Nat), i + d = l.length → 2 * d + 30 < k → stk l i = some st → st.length ≤ 10 →
    (lir_kept.l0 k (cnts l st) l (l.length : Int) (i : Int) = some true ∧ ∀ j, i ≤ j → j < l.length → KOk l j) ∨ (lir_kept.l0 k (cnts l st) l (l.length : Int) (i : Int) = some false ∧ ∃ j, i ≤ j ∧ j < l.length ∧ ¬ KOk l j) := by
  have hcl : ∀ st, (cnts l st).length = st.length := fun st => by simp [cnts]
  intro d
  induction d with
  | zero =>
    intro i k st hid hk hst h10
    obtain ⟨k, rfl⟩ : ∃ m, k = m + 1 := ⟨k - 1, by omega⟩
    simp only [lir_kept.l0]
    rw [if_neg (by omega)]
    exact Or.inl ⟨rfl, fun j h1 h2 => absurd h2 (by omega)⟩
  | succ d ih =>
    intro i k st hid hk hst h10
    obtain ⟨k, rfl⟩ : ∃ m, k = m + 1 + 1 := ⟨k - 2, by omega⟩
    have hw : wrap64 ((i : Int) + 1) = ((i + 1 : Nat) : Int) := by rw [wrap_small _ (by omega) (by omega)]; omega
    simp only [lir_kept.l0]
    rw [if_pos (by omega), if_pos (by omega), if_pos (by omega)]
    obtain ⟨k2, hk2⟩ : ∃ m, k + 1 = m + 2 := ⟨k - 1, by omega⟩
    rw [hk2, of_eq, ← hk2]
    simp only [Option.bind_some]
    have hcon := contains_all (cnts l st) (rd_T49 l (i : Int)).f1 (by rw [hcl]; omega) (k + 1) (by rw [hcl]; omega)
    have hmem : (rd_T49 l (i : Int)).f1 ∈ cnts l st ↔ ∃ j ∈ st, (rd_T49 l (i : Int)).f1 = (rd_T49 l (j : Int)).f1 := by
      simp only [cnts, List.mem_reverse, List.mem_map]
      constructor
      · rintro ⟨j, h1, h2⟩; exact ⟨j, h1, h2.symm⟩
      · rintro ⟨j, h1, h2⟩; exact ⟨j, h1, h2.symm⟩
    -- what stands behind the test
    have rest : ((ofV (rd_T49 l (i : Int)).f0).1 = true → ∀ j ∈ st, (rd_T49 l (i : Int)).f1 ≠ (rd_T49 l (j : Int)).f1) →
        (lir_kept.j1 (k + 1) (cnts l st) l (l.length : Int) (i : Int) false (rd_T49 l (i : Int)).f0 (rd_T49 l (i : Int)).f1 (rd_T49 l (i : Int)).f2 (rd_T49 l (i : Int)).f3 (rd_T49 l (i : Int)).f4 = some true ∧ ∀ j, i ≤ j → j < l.length → KOk l j) ∨
        (lir_kept.j1 (k + 1) (cnts l st) l (l.length : Int) (i : Int) false (rd_T49 l (i : Int)).f0 (rd_T49 l (i : Int)).f1 (rd_T49 l (i : Int)).f2 (rd_T49 l (i : Int)).f3 (rd_T49 l (i : Int)).f4 = some false ∧ ∃ j, i ≤ j ∧ j < l.length ∧ ¬ KOk l j) := by
      intro hno
      have go : ∀ st', stk l (i + 1) = some st' → st'.length ≤ 10 →
          (lir_kept.l0 k (cnts l st') l (l.length : Int) ((i + 1 : Nat) : Int) = some true ∧ ∀ j, i ≤ j → j < l.length → KOk l j) ∨ (lir_kept.l0 k (cnts l st') l (l.length : Int) ((i + 1 : Nat) : Int) = some false ∧ ∃ j, i ≤ j ∧ j < l.length ∧ ¬ KOk l j) := by
        intro st' hs' h10'
        rcases ih (i + 1) k st' (by omega) (by omega) hs' h10' with ⟨h1, h2⟩ | ⟨h1, j, hj1, hj2, hj3⟩
        · refine Or.inl ⟨h1, fun j hj hjl => ?_⟩
          by_cases e : j = i
          · subst e
            intro s2 hs2
            rw [hst] at hs2; cases hs2
            refine ⟨hno, fun s3 hs3 => ?_⟩
            rw [hs'] at hs3; cases hs3; exact h10'
          · exact h2 j (by omega) hjl
        · exact Or.inr ⟨h1, j, by omega, hj2, hj3⟩
      have deep : ∀ st', stk l (i + 1) = some st' → ¬ st'.length ≤ 10 → ∃ j, i ≤ j ∧ j < l.length ∧ ¬ KOk l j := fun st' hs' h => ⟨i, Nat.le_refl _, by omega, fun hk => h ((hk st hst).2 st' hs')⟩
      simp only [lir_kept.j1]
      rw [if_neg (by simp)]
      by_cases h1 : (rd_T49 l (i : Int)).f0 = 23
      · rw [if_pos h1, if_pos (by rw [hcl]; omega)]
        simp only [Option.bind_some]
        have he : cnts l st ++ [(rd_T49 l (i : Int)).f1] = cnts l (i :: st) := by simp [cnts]
        rw [he, hw]
        by_cases h : (i :: st).length ≤ 10
        · rw [if_neg (by rw [hcl]; omega)]; exact go _ (stk_loop hst h1) h
        · rw [if_pos (by rw [hcl]; omega)]; exact Or.inr ⟨rfl, deep _ (stk_loop hst h1) h⟩
      · rw [if_neg h1]
        by_cases h2 : (rd_T49 l (i : Int)).f0 = 24
        · rw [if_pos h2]
          cases st with
          | nil =>
            exfalso
            obtain ⟨sf, hsf⟩ := hfin
            have := stk_none (stk_bad hst h2) d
            rw [show i + 1 + d = l.length by omega, hsf] at this
            cases this
          | cons fr r =>
            have hcl1 : ((cnts l (fr :: r)).length : Int) - 1 = r.length := by rw [hcl]; simp
            rw [hcl1, wrap_small _ (by omega) (by simp at h10; omega), if_pos (by omega), if_pos (by rw [hcl]; simp only [List.length_cons]; omega), Int.toNat_natCast]
            simp only [Option.bind_some]
            have he : (cnts l (fr :: r)).take r.length = cnts l r := by
              simp only [cnts, List.map_cons, List.reverse_cons]
              rw [List.take_left' (by simp)]
            rw [he, hw, if_neg (by rw [hcl]; simp at h10; omega)]
            exact go _ (stk_end hst h2) (by simp at h10; omega)
        · rw [if_neg h2, hw, if_neg (by rw [hcl]; omega)]
          exact go _ (stk_else hst h1 h2) h10
    by_cases hd : (ofV (rd_T49 l (i : Int)).f0).1 = true
    · rw [if_pos hd, hcon]
      simp only [Option.bind_some]
      by_cases hc : (rd_T49 l (i : Int)).f1 ∈ cnts l st
      · rw [decide_eq_true hc]
        simp only [lir_kept.j1]
        rw [if_pos trivial]
        refine Or.inr ⟨rfl, i, Nat.le_refl _, by omega, fun hk => ?_⟩
        obtain ⟨j, hj, he⟩ := hmem.1 hc
        exact (hk st hst).1 hd j hj he
      · rw [decide_eq_false hc]
        exact rest (fun _ j hj he => hc (hmem.2 ⟨j, hj, he⟩))
    · rw [if_neg hd]
      exact rest (fun h => absurd h hd)
theorem kept_all (l : List S49) (hl : l.length ≤ 20000) (hfin : ∃ st, stk l l.length = some st) (k : Nat) (hk : 2 * l.length + 30 < k) :
    (lir_kept.f k l = some true ∧ ∀ j, j < l.length → KOk l j) ∨ (lir_kept.f k l = some false ∧ ∃ j, j < l.length ∧ ¬ KOk l j) := by
  unfold lir_kept.f
  rcases kept_from l hl hfin l.length 0 k [] (by omega) hk rfl (by simp) with ⟨h1, h2⟩ | ⟨h1, j, _, h3, h4⟩
  · exact Or.inl ⟨h1, fun j hj => h2 j (by omega) hj⟩
  · exact Or.inr ⟨h1, j, h3, h4⟩
/-- a step that can be -/
def canS (x : S49) : Bool := canV x.f0 x.f1 x.f2 x.f3 x.f4
theorem check_from (l : List S49) (hl : l.length ≤ 20000) : ∀ (d i k : Nat), i + d = l.length → d + 2 * l.length + 60 < k →
    (lir_Check.l0 k l l (l.length : Int) (i : Int) = lir_Check.l0 (k - d) l l (l.length : Int) (l.length : Int) ∧ ∀ j, i ≤ j → j < l.length → canS (rd_T49 l (j : Int)) = true) ∨ (lir_Check.l0 k l l (l.length : Int) (i : Int) = some 1 ∧ ∃ j, i ≤ j ∧ j < l.length ∧ canS (rd_T49 l (j : Int)) = false) := by
  intro d
  induction d with
  | zero =>
    intro i k hid hk
    obtain rfl : i = l.length := by omega
    exact Or.inl ⟨rfl, fun j h1 h2 => absurd h2 (by omega)⟩
  | succ d ih =>
    intro i k hid hk
    obtain ⟨k, rfl⟩ : ∃ m, k = m + 1 := ⟨k - 1, by omega⟩
    have hw : wrap64 ((i : Int) + 1) = ((i + 1 : Nat) : Int) := by rw [wrap_small _ (by omega) (by omega)]; omega
    have e : lir_Check.l0 (k + 1) l l (l.length : Int) (i : Int) = if canS (rd_T49 l (i : Int)) = true then lir_Check.l0 k l l (l.length : Int) ((i + 1 : Nat) : Int) else some 1 := by
      simp only [lir_Check.l0]
      rw [if_pos (by omega), if_pos (by omega), if_pos (by omega), hw]
      obtain ⟨k2, rfl⟩ : ∃ m, k = m + 2 := ⟨k - 2, by omega⟩
      rw [can_eq]
      rfl
    by_cases hc : canS (rd_T49 l (i : Int)) = true
    · rw [e, if_pos hc]
      rcases ih (i + 1) k (by omega) (by omega) with ⟨h2, h3⟩ | ⟨h1, j, hj1, hj2, hj3⟩
      · refine Or.inl ⟨by rw [h2, show k + 1 - (d + 1) = k - d by omega], fun j hj hjl => ?_⟩
        by_cases ej : j = i
        · subst ej; exact hc
        · exact h3 j (by omega) hjl
      · exact Or.inr ⟨h1, j, by omega, hj2, hj3⟩
    · rw [e, if_neg hc]
      exact Or.inr ⟨rfl, i, Nat.le_refl _, by omega, by simpa using hc⟩
/-- what a program that passes is -/
structure Good (l : List S49) (E : List Int) : Prop where
  len : l.length ≤ 20000
  can : ∀ j, j < l.length → canS (rd_T49 l (j : Int)) = true
  fin : stk l l.length = some []
  kok : ∀ j, j < l.length → KOk l j
  out : OutOk l l.length E
theorem check_all (l : List S49) (hl : l.length ≤ 20000) : ∃ e, lir_Check.f (3 * l.length + 100) l = some e ∧ ((e ≠ 0) ∨ (e = 0 ∧ ∃ E, lir_Ends.f (3 * l.length + 100) l = some (E, true) ∧ Good l E)) := by
  unfold lir_Check.f
  rw [if_neg (by omega)]
  rcases check_from l hl l.length 0 (3 * l.length + 100) (by omega) (by omega) with ⟨h2, h3⟩ | ⟨h1, _⟩
  · rw [show (0 : Int) = ((0 : Nat) : Int) from rfl, h2]
    obtain ⟨k, hk⟩ : ∃ k, 3 * l.length + 100 - l.length = k + 1 := ⟨2 * l.length + 99, by omega⟩
    rw [hk]
    simp only [lir_Check.l0]
    rw [if_neg (by omega)]
    rcases ends_all l hl k (by omega) with ⟨E, he, ho, hf⟩ | ⟨he, hf⟩
    · rw [he]
      simp only [Option.bind_some]
      rw [if_pos trivial]
      rcases kept_all l hl ⟨[], hf⟩ k (by omega) with ⟨hk1, hk2⟩ | ⟨hk1, _⟩
      · rw [hk1]
        simp only [Option.bind_some]
        rw [if_pos trivial]
        refine ⟨0, rfl, Or.inr ⟨rfl, ?_⟩⟩
        rcases ends_all l hl (3 * l.length + 100) (by omega) with ⟨E', he', ho', hf'⟩ | ⟨he', hf'⟩
        · refine ⟨E', ?_, hl, fun j hj => h3 j (by omega) hj, hf, hk2, ho'⟩
          unfold lir_Ends.f
          rw [he']; rfl
        · exact absurd hf hf'
      · rw [hk1]
        exact ⟨4, rfl, Or.inl (by decide)⟩
    · rw [he]
      exact ⟨4, rfl, Or.inl (by decide)⟩
  · rw [show (0 : Int) = ((0 : Nat) : Int) from rfl, h1]
    exact ⟨1, rfl, Or.inl (by decide)⟩

end Go.Proofs.Ytpeljnnbknnbmaa.PD
end
section
section
namespace Go.Proofs.Ytpeljnnbknnbmaa.PD
open Go.RowKit Go.Proofs.YtpeljnnbknnbmaaW.PrintWords Go.Proofs.YtpeljnnbknnbmaaW.PrintLast Go.Proofs.YtpeljnnbknnbmaaW.PrintMore
set_option linter.unusedVariables false
set_option linter.unusedSimpArgs false
theorem setBytes_ok {l : List Int} (h : Bytes l) (p : Nat) (x : Int) : ∀ n, Bytes (setBytes l p x n) := by
  intro n
  induction n with
  | zero => exact h
  | succ n ih =>
    unfold setBytes
    exact mem_set ih _ ⟨by unfold byteOf; omega, by unfold byteOf; omega⟩
theorem storeL_ok {R : Int} {rl : List Int} (h : Bytes rl) (ad size x : Int) : Bytes (storeL R rl ad size x) := by
  unfold storeL; split
  · exact setBytes_ok h _ _ _
  · exact h
theorem loadV_u32 {F R : Int} {fl rl : List Int} (hf : Bytes fl) (hr : Bytes rl) (ad n : Int) (hn : n ≤ 4) : U32 (loadV F R fl rl ad n).1 := by
  have hb : ∀ (base : Int) (l : List Int), Bytes l → U32 (numL (bytesAt base l ad n.toNat)) := fun base l hl => by
    obtain ⟨h1, h2⟩ := numL_lt (bytesAt base l ad n.toNat) (bytes_drop hl base ad n.toNat)
    have hlen : (bytesAt base l ad n.toNat).length ≤ 4 := by unfold bytesAt; rw [List.length_take]; omega
    have h3 : (2 : Int) ^ (8 * (bytesAt base l ad n.toNat).length) ≤ 4294967296 := by
      rcases (by omega : (bytesAt base l ad n.toNat).length = 0 ∨ (bytesAt base l ad n.toNat).length = 1 ∨ (bytesAt base l ad n.toNat).length = 2 ∨ (bytesAt base l ad n.toNat).length = 3 ∨ (bytesAt base l ad n.toNat).length = 4) with h | h | h | h | h <;> rw [h] <;> decide
    exact ⟨h1, by omega⟩
  unfold loadV
  split
  · exact ⟨by decide, by decide⟩
  · split
    · exact ⟨by decide, by decide⟩
    · split
      · exact hb F fl hf
      · split
        · exact hb R rl hr
        · exact ⟨by decide, by decide⟩
theorem sext_u32 (x n : Int) (hn : n = 8 ∨ n = 16) : U32 ((num_Sext.f x n).getD 0) := by
  rcases hn with rfl | rfl
  · unfold num_Sext.f
    rw [if_neg (by decide), if_neg (by decide), if_pos (by rw [show wrap64 (32 - 8) = 24 by kernel_rfl]; decide)]
    exact u32_mod _
  · unfold num_Sext.f
    rw [if_neg (by decide), if_neg (by decide), if_pos (by rw [show wrap64 (32 - 16) = 16 by kernel_rfl]; decide)]
    exact u32_mod _
theorem ldV_u32 {op F R : Int} {fl rl : List Int} (hf : Bytes fl) (hr : Bytes rl) (ad : Int) : U32 (ldV op F R fl rl ad).1 := by
  have h4 : (if op = 17 then 1 else if op = 18 then 1 else if op = 19 then 2 else 4 : Int) ≤ 4 := by (repeat' split) <;> omega
  have h5 : op = 17 ∨ op = 19 → (8 * (if op = 17 then 1 else if op = 18 then 1 else if op = 19 then 2 else 4 : Int)) = 8 ∨ (8 * (if op = 17 then 1 else if op = 18 then 1 else if op = 19 then 2 else 4 : Int)) = 16 := by
    rintro (e | e) <;> subst e <;> decide
  unfold ldV
  generalize (if op = 17 then 1 else if op = 18 then 1 else if op = 19 then 2 else 4 : Int) = n at h4 h5 ⊢
  dsimp only
  by_cases h : (loadV F R fl rl ad n).2 = 0 ∧ (op = 17 ∨ op = 19)
  · rw [if_pos h]; exact sext_u32 _ _ (h5 h.2)
  · rw [if_neg h]; exact loadV_u32 hf hr ad _ h4
theorem mV_ok {F R : Int} {fl : List Int} {x : S49} {V rl : List Int} (hf : Bytes fl) (hr : Bytes rl) (hu : ∀ y ∈ V, U32 y) (hl : V.length = 64) : (∀ y ∈ mV F R fl x V rl, U32 y) ∧ (mV F R fl x V rl).length = 64 := by
  unfold mV
  split
  · exact ⟨hu, hl⟩
  · split
    · exact ⟨hu, hl⟩
    · split
      · exact ⟨mem_set hu _ (ldV_u32 hf hr _), by rw [List.length_set]; exact hl⟩
      · exact ⟨hu, hl⟩
theorem mL_ok {R : Int} {x : S49} {V rl : List Int} (hr : Bytes rl) : Bytes (mL R x V rl) ∧ (mL R x V rl).length = rl.length := by
  unfold mL
  split
  · exact ⟨storeL_ok hr _ _ _, storeL_length _ _ _ _ _⟩
  · split
    · exact ⟨storeL_ok hr _ _ _, storeL_length _ _ _ _ _⟩
    · exact ⟨hr, rfl⟩
theorem fits_range {v : Int} {b : Bool} (h : fitsV v b = true) : 0 ≤ v ∧ v < 64 := by
  unfold fitsV at h
  have := of_decide_eq_true h
  omega
theorem can_range {x : S49} (h : canS x = true) : (1 ≤ x.f0 ∧ x.f0 ≤ 24) ∧ (0 ≤ x.f1 ∧ x.f1 < 64) ∧ (0 ≤ x.f2 ∧ x.f2 < 64) ∧ (0 ≤ x.f3 ∧ x.f3 < 64) := by
  unfold canS canV at h
  simp only [Bool.and_eq_true] at h
  obtain ⟨h0, h1, h2, h3, _⟩ := h
  refine ⟨?_, fits_range h1, fits_range h2, fits_range h3⟩
  unfold ofV at h0
  split at h0
  · cases h0
  · omega
/-- what holds of a program's state at each step -/
structure SInv (l : List S49) (nr : Nat) (s : Int × List Int × List Int) : Prop where
  u : ∀ x ∈ s.2.1, U32 x
  len : s.2.1.length = 64
  at0 : 0 ≤ s.1
  at1 : s.1 ≤ l.length
  br : Bytes s.2.2
  rlen : s.2.2.length = nr
theorem good_end {l : List S49} {E : List Int} (g : Good l E) {j : Nat} (hj : j < l.length) (hx : (rd_T49 l (j : Int)).f0 = 24) : ∃ fr r, stk l j = some (fr :: r) ∧ rd E (j : Int) = fr ∧ fr < j ∧ (rd_T49 l (fr : Int)).f0 = 23 := by
  obtain ⟨st, hst⟩ := stk_before g.fin (Nat.le_of_lt hj)
  cases st with
  | nil =>
    have := stk_none (stk_bad hst hx) (l.length - (j + 1))
    rw [show j + 1 + (l.length - (j + 1)) = l.length by omega, g.fin] at this
    cases this
  | cons fr r =>
    have h := stk_lt hst fr List.mem_cons_self
    exact ⟨fr, r, hst, g.out.fr j hj hx fr r hst, h.1, h.2⟩
theorem good_on {l : List S49} {E : List Int} (g : Good l E) {nr : Nat} {s : Int × List Int × List Int} (h : SInv l nr s) (hlt : s.1 < l.length) : SOn l E nr s := by
  obtain ⟨j, hj⟩ : ∃ j : Nat, s.1 = j := ⟨s.1.toNat, by have := h.at0; omega⟩
  have hjl : j < l.length := by omega
  have hc := can_range (g.can j hjl)
  refine ⟨h.u, h.len, h.at0, hlt, h.br, h.rlen, fun hm => ⟨hm, ?_, ?_, ?_⟩, fun hm => ⟨h.u, h.len, h.at0, hlt, ?_⟩⟩
  · rw [hj]; exact hc.2.1
  · rw [hj]; exact hc.2.2.1
  · rw [hj]; exact hc.2.2.2
  · show POk (rd_T49 l s.1) ∨ _
    rw [hj] at hm ⊢
    by_cases e : (rd_T49 l (j : Int)).f0 = 24
    · obtain ⟨fr, r, h1, h2, h3, h4⟩ := good_end g hjl e
      have hf := can_range (g.can fr (by omega))
      exact Or.inr ⟨e, by rw [h2]; omega, by rw [h2]; omega, by rw [h2]; exact hf.2.1.1, by rw [h2]; exact hf.2.1.2⟩
    · refine Or.inl ⟨?_, hc.2.1, hc.2.2.1, hc.2.2.2⟩
      have h1 := hc.1
      have h2 : ¬ (17 ≤ (rd_T49 l (j : Int)).f0 ∧ (rd_T49 l (j : Int)).f0 ≤ 22) := hm
      omega
theorem sStep_inv {l : List S49} {E : List Int} {F R : Int} {fl : List Int} {nr : Nat} {s : Int × List Int × List Int} (hf : Bytes fl) (h : SOn l E nr s) : SInv l nr (sStep l E F R fl s) := by
  unfold sStep
  by_cases hm : isMem (rd_T49 l s.1)
  · rw [if_pos hm]
    have h1 := mV_ok (F := F) (R := R) (x := rd_T49 l s.1) hf h.br h.u h.len
    have h2 := mL_ok (R := R) (x := rd_T49 l s.1) (V := s.2.1) h.br
    exact ⟨h1.1, h1.2, by have := h.at0; show 0 ≤ s.1 + 1; omega, by have := h.at1; show s.1 + 1 ≤ _; omega, h2.1, h2.2.trans h.rlen⟩
  · rw [if_neg hm]
    have hp := h.ok.2 hm
    have h1 := pStep_ok hp
    have h2 := pStep_at hp
    exact ⟨h1.1, h1.2, by show 0 ≤ (pStep l E (s.1, s.2.1)).1; omega, by show (pStep l E (s.1, s.2.1)).1 ≤ _; omega, h.br, h.rlen⟩
theorem sRun_inv0 {l : List S49} {rl : List Int} (hr : Bytes rl) : SInv l rl.length (0, List.replicate 64 0, rl) :=
  ⟨fun x hx => by rw [List.eq_of_mem_replicate hx]; exact ⟨by decide, by decide⟩, by simp, Int.le_refl _, by show (0 : Int) ≤ _; omega, hr, rfl⟩
/-- where a program stops: how many steps it does, and the trap -/
def Stops (l : List S49) (E : List Int) (F R : Int) (fl rl : List Int) (fuel N : Nat) (t : Int) : Prop :=
  N ≤ fuel ∧ (∀ k, k < N → SOn l E rl.length (sRun l E F R fl rl k) ∧ sTr l F R fl (sRun l E F R fl rl k) = 0) ∧ SInv l rl.length (sRun l E F R fl rl N) ∧
    ((¬ ((sRun l E F R fl rl N).1 < l.length ∧ N < fuel) ∧ t = 0) ∨ (N < fuel ∧ SOn l E rl.length (sRun l E F R fl rl N) ∧ sTr l F R fl (sRun l E F R fl rl N) = t ∧ t ≠ 0))
theorem stops_ex {l : List S49} {E : List Int} (g : Good l E) (F R : Int) {fl rl : List Int} (hf : Bytes fl) (hr : Bytes rl) (fuel : Nat) : ∃ N t, Stops l E F R fl rl fuel N t := by
  have key : ∀ m, m ≤ fuel → ((∀ k, k < m → SOn l E rl.length (sRun l E F R fl rl k) ∧ sTr l F R fl (sRun l E F R fl rl k) = 0) ∧ SInv l rl.length (sRun l E F R fl rl m)) ∨ ∃ N t, Stops l E F R fl rl fuel N t := by
    intro m
    induction m with
    | zero => intro _; exact Or.inl ⟨fun k hk => absurd hk (by omega), sRun_inv0 hr⟩
    | succ m ih =>
      intro hm
      rcases ih (by omega) with ⟨h1, h2⟩ | h
      · by_cases hlt : (sRun l E F R fl rl m).1 < l.length
        · have hon := good_on g h2 hlt
          by_cases ht : sTr l F R fl (sRun l E F R fl rl m) = 0
          · refine Or.inl ⟨fun k hk => ?_, sStep_inv hf hon⟩
            by_cases e : k = m
            · subst e; exact ⟨hon, ht⟩
            · exact h1 k (by omega)
          · exact Or.inr ⟨m, _, by omega, h1, h2, Or.inr ⟨by omega, hon, rfl, ht⟩⟩
        · exact Or.inr ⟨m, 0, by omega, h1, h2, Or.inl ⟨fun h => hlt h.1, rfl⟩⟩
      · exact Or.inr h
  rcases key fuel (Nat.le_refl _) with ⟨h1, h2⟩ | h
  · exact ⟨fuel, 0, Nat.le_refl _, h1, h2, Or.inl ⟨fun h => absurd h.2 (Nat.lt_irrefl _), rfl⟩⟩
  · exact h

end Go.Proofs.Ytpeljnnbknnbmaa.PD
end
section
section
namespace Go.Proofs.Ytpeljnnbknnbmaa.PD
open Go.RowKit Go.Proofs.YtpeljnnbknnbmaaW.PrintWords Go.Proofs.YtpeljnnbknnbmaaW.PrintLast Go.Proofs.YtpeljnnbknnbmaaW.PrintMore
set_option linter.unusedVariables false
set_option linter.unusedSimpArgs false
theorem stk_some {l : List S49} {i : Nat} {st : List Nat} (h : stk l (i + 1) = some st) : ∃ st', stk l i = some st' ∧ (((rd_T49 l (i : Int)).f0 = 23 ∧ st = i :: st') ∨ ((rd_T49 l (i : Int)).f0 = 24 ∧ ∃ f, st' = f :: st) ∨ ((rd_T49 l (i : Int)).f0 ≠ 23 ∧ (rd_T49 l (i : Int)).f0 ≠ 24 ∧ st = st')) := by
  obtain ⟨st', hs⟩ := stk_before h (Nat.le_succ i)
  refine ⟨st', hs, ?_⟩
  by_cases h1 : (rd_T49 l (i : Int)).f0 = 23
  · rw [stk_loop hs h1] at h; cases h; exact Or.inl ⟨h1, rfl⟩
  · by_cases h2 : (rd_T49 l (i : Int)).f0 = 24
    · cases st' with
      | nil => rw [stk_bad hs h2] at h; cases h
      | cons f r => rw [stk_end hs h2] at h; cases h; exact Or.inr (Or.inl ⟨h2, f, rfl⟩)
    · rw [stk_else hs h1 h2] at h; cases h; exact Or.inr (Or.inr ⟨h1, h2, rfl⟩)
theorem stk_top {l : List S49} {fr : Nat} {r : List Nat} : ∀ {i : Nat} {st : List Nat}, stk l i = some st → (fr :: r) <:+ st → stk l (fr + 1) = some (fr :: r) := by
  intro i
  induction i with
  | zero => intro st h hs; cases h; exact absurd hs (by simp)
  | succ i ih =>
    intro st h hs
    obtain ⟨st', h', hc⟩ := stk_some h
    rcases hc with ⟨hx, rfl⟩ | ⟨hx, f, rfl⟩ | ⟨_, _, rfl⟩
    · rcases List.suffix_cons_iff.1 hs with e | e
      · cases e; exact h
      · exact ih h' e
    · exact ih h' (hs.trans (List.suffix_cons f st))
    · exact ih h' hs
theorem rd_put {V : List Int} (hl : V.length = 64) (a b x : Int) (ha : 0 ≤ a ∧ a < 64) (hb : 0 ≤ b) : rd (V.set a.toNat x) b = if a = b then x else rd V b := by
  obtain ⟨n, rfl⟩ : ∃ n : Nat, b = n := ⟨b.toNat, by omega⟩
  rw [rd_set V a.toNat x n (by omega)]
  by_cases e : a = n
  · rw [if_pos (by omega), if_pos e]
  · rw [if_neg (by omega), if_neg e]
/-- two states alike in where they stand and in the open loops' counters -/
def Ag (l : List S49) (s s' : Int × List Int × List Int) : Prop :=
  s.1 = s'.1 ∧ ∀ j : Nat, s.1 = j → ∀ st, stk l j = some st → ∀ i ∈ st, rd s.2.1 (rd_T49 l (i : Int)).f1 = rd s'.2.1 (rd_T49 l (i : Int)).f1
theorem ofV_dest {o : Int} (h : (1 ≤ o ∧ o ≤ 20) ∨ o = 23) : (ofV o).1 = true := by
  unfold ofV
  rw [if_neg (by omega)]
  (repeat' split) <;> first | rfl | omega
theorem ag_step {l : List S49} {E : List Int} (g : Good l E) {F R : Int} {fl : List Int} {nr : Nat} {s s' : Int × List Int × List Int} (h : SOn l E nr s) (h' : SOn l E nr s') (ht : sTr l F R fl s = 0) (ht' : sTr l F R fl s' = 0) (ha : Ag l s s') : Ag l (sStep l E F R fl s) (sStep l E F R fl s') := by
  obtain ⟨at_, V, b⟩ := s
  obtain ⟨at2, V2, b2⟩ := s'
  obtain ⟨h1, h2⟩ := ha
  simp only at h1 h2
  subst h1
  obtain ⟨j, rfl⟩ : ∃ j : Nat, at_ = j := ⟨at_.toNat, by have := h.at0; simp only at this; omega⟩
  have hjl : j < l.length := by have := h.at1; simp only at this; omega
  obtain ⟨st, hst⟩ := stk_before g.fin (Nat.le_of_lt hjl)
  have hV : V.length = 64 := h.len
  have hV2 : V2.length = 64 := h'.len
  have hag := h2 j rfl st hst
  have hcan := can_range (g.can j hjl)
  have hreg : ∀ i ∈ st, 0 ≤ (rd_T49 l (i : Int)).f1 ∧ (rd_T49 l (i : Int)).f1 < 64 := fun i hi => (can_range (g.can i (by have := (stk_lt hst i hi).1; omega))).2.1
  have hset : ∀ d x : Int, (0 ≤ d ∧ d < 64) → (∀ i ∈ st, rd (V.set d.toNat x) (rd_T49 l (i : Int)).f1 = rd (V2.set d.toNat x) (rd_T49 l (i : Int)).f1) := fun d x hd i hi => by
    rw [rd_put hV d _ x hd (hreg i hi).1, rd_put hV2 d _ x hd (hreg i hi).1, hag i hi]
  have hfar : ∀ x y : Int, (ofV (rd_T49 l (j : Int)).f0).1 = true → (∀ i ∈ st, rd (V.set (rd_T49 l (j : Int)).f1.toNat x) (rd_T49 l (i : Int)).f1 = rd (V2.set (rd_T49 l (j : Int)).f1.toNat y) (rd_T49 l (i : Int)).f1) := fun x y ho i hi => by
    have hne := (g.kok j hjl st hst).1 ho i hi
    rw [rd_put hV _ _ x hcan.2.1 (hreg i hi).1, rd_put hV2 _ _ y hcan.2.1 (hreg i hi).1, if_neg hne, if_neg hne, hag i hi]
  unfold sTr at ht ht'
  simp only at ht ht'
  unfold sStep
  simp only
  by_cases hm : isMem (rd_T49 l (j : Int))
  · rw [if_pos hm] at ht ht'
    rw [if_pos hm, if_pos hm]
    have hn := stk_else hst (by have := hm.1; have := hm.2; omega) (by have := hm.1; have := hm.2; omega)
    refine ⟨rfl, fun j' hj' st' hst' => ?_⟩
    simp only at hj' ⊢
    obtain rfl : j' = j + 1 := by omega
    rw [hn] at hst'; cases hst'
    unfold mV
    by_cases h21 : (rd_T49 l (j : Int)).f0 = 21
    · rw [if_pos h21, if_pos h21]; exact hag
    · by_cases h22 : (rd_T49 l (j : Int)).f0 = 22
      · rw [if_neg h21, if_pos h22, if_neg h21, if_pos h22]; exact hag
      · unfold mTrap at ht ht'
        rw [if_neg h21, if_neg h22] at ht ht'
        rw [if_neg h21, if_neg h22, if_pos ht, if_neg h21, if_neg h22, if_pos ht']
        exact hfar _ _ (ofV_dest (by have := hm.1; have := hm.2; omega))
  · rw [if_neg hm, if_neg hm]
    have hp := h.ok.2 hm
    have hp' := h'.ok.2 hm
    unfold pStep
    by_cases h24 : (rd_T49 l (j : Int)).f0 = 24
    · obtain ⟨fr, r, h1, h2, h3, h4⟩ := good_end g hjl h24
      rw [hst] at h1; cases h1
      have hk := hreg fr List.mem_cons_self
      have hv := hag fr List.mem_cons_self
      simp only [h24, if_true, h2]
      rw [hv]
      have hn := stk_end hst h24
      have htop := stk_top hst (List.suffix_refl _)
      refine ⟨rfl, fun j' hj' st' hst' => ?_⟩
      simp only at hj' ⊢
      have hs := hset (rd_T49 l (fr : Int)).f1 ((rd V2 (rd_T49 l (fr : Int)).f1 - 1) % 4294967296) hk
      by_cases h0 : (rd V2 (rd_T49 l (fr : Int)).f1 - 1) % 4294967296 = 0
      · rw [if_pos h0] at hj'
        obtain rfl : j' = j + 1 := by omega
        rw [hn] at hst'; cases hst'
        exact fun i hi => hs i (List.mem_cons_of_mem _ hi)
      · rw [if_neg h0] at hj'
        obtain rfl : j' = fr + 1 := by omega
        rw [htop] at hst'; cases hst'
        exact hs
    · simp only [h24, if_false]
      have hok : (1 ≤ (rd_T49 l (j : Int)).f0 ∧ (rd_T49 l (j : Int)).f0 ≤ 16) ∨ (rd_T49 l (j : Int)).f0 = 23 := by
        rcases hp.ok with h | h
        · exact h.o
        · exact absurd h.1 h24
      have hd : (ofV (rd_T49 l (j : Int)).f0).1 = true := ofV_dest (by omega)
      refine ⟨rfl, fun j' hj' st' hst' => ?_⟩
      simp only at hj' ⊢
      obtain rfl : j' = j + 1 := by omega
      unfold pV
      by_cases h23 : (rd_T49 l (j : Int)).f0 = 23
      · rw [stk_loop hst h23] at hst'; cases hst'
        rw [if_pos (Or.inr h23), if_pos (Or.inr h23)]
        intro i hi
        rcases List.mem_cons.1 hi with rfl | hi
        · rw [rd_put hV _ _ _ hcan.2.1 hcan.2.1.1, rd_put hV2 _ _ _ hcan.2.1 hcan.2.1.1, if_pos rfl, if_pos rfl]
        · exact hset _ _ hcan.2.1 i hi
      · rw [stk_else hst h23 h24] at hst'; cases hst'
        by_cases h1 : (rd_T49 l (j : Int)).f0 = 1
        · rw [if_pos (Or.inl h1), if_pos (Or.inl h1)]; exact hset _ _ hcan.2.1
        · have n1 : ¬ ((rd_T49 l (j : Int)).f0 = 1 ∨ (rd_T49 l (j : Int)).f0 = 23) := by omega
          rw [if_neg n1, if_neg n1]
          by_cases h2 : (rd_T49 l (j : Int)).f0 = 2
          · rw [if_pos h2, if_pos h2]; exact hfar _ _ hd
          · rw [if_neg h2, if_neg h2]; exact hfar _ _ hd
theorem ag_stop {l : List S49} {E : List Int} (g : Good l E) {F R : Int} {fl r1 r2 : List Int} (hlen : r1.length = r2.length) {fuel N M : Nat} (h1 : Stops l E F R fl r1 fuel N 0) (h2 : Stops l E F R fl r2 fuel M 0) : N = M := by
  obtain ⟨a1, a2, a3, a4⟩ := h1
  obtain ⟨b1, b2, b3, b4⟩ := h2
  rw [← hlen] at b2 b3 b4
  have key : ∀ k, k ≤ N → k ≤ M → Ag l (sRun l E F R fl r1 k) (sRun l E F R fl r2 k) := by
    intro k
    induction k with
    | zero => intro _ _; exact ⟨rfl, fun j _ st _ i _ => rfl⟩
    | succ k ih =>
      intro h3 h4
      exact ag_step g (a2 k (by omega)).1 (b2 k (by omega)).1 (a2 k (by omega)).2 (b2 k (by omega)).2 (ih (by omega) (by omega))
  have e1 : ¬ ((sRun l E F R fl r1 N).1 < l.length ∧ N < fuel) := by rcases a4 with h | h; exact h.1; exact absurd rfl h.2.2.2
  have e2 : ¬ ((sRun l E F R fl r2 M).1 < l.length ∧ M < fuel) := by rcases b4 with h | h; exact h.1; exact absurd rfl h.2.2.2
  rcases Nat.lt_trichotomy N M with h | h | h
  · have hk := (key N (Nat.le_refl _) (by omega)).1
    have := (b2 N h).1.at1
    exact absurd ⟨by rw [hk]; exact this, by omega⟩ e1
  · exact h
  · have hk := (key M (by omega) (Nat.le_refl _)).1
    have := (a2 M h).1.at1
    exact absurd ⟨by rw [← hk]; exact this, by omega⟩ e2

end Go.Proofs.Ytpeljnnbknnbmaa.PD
end
section
section
namespace Go.Proofs.Ytpeljnnbknnbmaa.PD
open Go.RowKit Go.Proofs.YtpeljnnbknnbmaaW.PrintWords Go.Proofs.YtpeljnnbknnbmaaW.PrintLast Go.Proofs.YtpeljnnbknnbmaaW.PrintMore
set_option linter.unusedVariables false
set_option linter.unusedSimpArgs false
set_option maxRecDepth 100000 in
set_option maxHeartbeats 8000000 in
/-- a program that does not pass is not run -/
theorem run_bad (w : World) (A : Option Addr) (lc : Nat) (l : List S49) (hC : Kd.C k49 w A l.length l) (hlc : l.length ≤ lc) (kc : Nat) (c : Int) (hchk : lir_Check.f kc l = some c) (hc : c ≠ 0) (gm fuel : Nat) :
    Calls Try.prog 30 #[.slice A l.length lc, .pointer (some ⟨gm, 0, none⟩), .int .i64 fuel] w fun e w' => e = .returned (.tuple #[.slice none 0 0, .int .i64 (0 : Nat), .int .i64 0, .int .i64 c]) ∧ Below w.heap.size w w' := by
  have HC := Aside0.mk hC
  have HCH := Aside0.mk hchk
  have hb1 : (c != 0) = true := by simpa using hc
  have hb2 : (c == 0) = false := by simpa using hc
  clear hC hchk
  go_enter Try.func30, Try.ntmps30
  go_wp2_with (go_at_call 50; (with_reducible refine (lir_Check.calls kc _ _ l c _ HC.out hlc HCH.out).mono ?_); rintro e w1 ⟨rfl, hb1⟩; have HB1 := Aside0.mk hb1; clear hb1)
  refine bodyPost_ret (results_tmp4 rfl _ _ _) rfl ?_
  exact ⟨rfl, HB1.out⟩
set_option maxRecDepth 100000 in
set_option maxHeartbeats 8000000 in
/-- nor is an empty one -/
theorem run_empty (w : World) (A : Option Addr) (lc : Nat) (l : List S49) (hC : Kd.C k49 w A l.length l) (hlc : l.length ≤ lc) (hl : l = []) (gm fuel : Nat) :
    Calls Try.prog 30 #[.slice A l.length lc, .pointer (some ⟨gm, 0, none⟩), .int .i64 fuel] w fun e w' => ∃ v, e = .returned (.tuple #[v, .int .i64 (0 : Nat), .int .i64 0, .int .i64 0]) ∧ Below w.heap.size w w' := by
  have HC := Aside0.mk hC
  have HCH := Aside0.mk (show lir_Check.f 100 l = some 0 by rw [hl]; kernel_rfl)
  obtain ⟨E, hE⟩ : ∃ E, lir_Ends.f 100 l = some (E, true) := ⟨[], by rw [hl]; kernel_rfl⟩
  have HEN := Aside0.mk hE
  have hno : ¬ ((0 : Int) < (l.length : Int)) := by rw [hl]; decide
  have hnd : decide ((0 : Int) < (l.length : Int)) = false := decide_eq_false hno
  clear hC hE hl
  go_enter Try.func30, Try.ntmps30
  go_wp2_with (first | (go_at_call 50; (with_reducible refine (lir_Check.calls 100 _ _ l 0 _ HC.out hlc HCH.out).mono ?_); rintro e w1 ⟨rfl, hb1⟩; have HB1 := Aside0.mk hb1; clear hb1) | (go_at_call 58; (with_reducible refine (lir_Ends.calls 100 _ _ l E true _ (Kd.C_below HC.out HB1.out) hlc HEN.out).mono ?_); rintro e w2 ⟨v0, rfl, hv, hb2⟩; obtain ⟨A0, c0, hA0, hc0, hC2⟩ := Kd.R_reads hv; subst hA0; have HB2 := Aside0.mk hb2; clear hb2 hv hC2) | (refine wpList_built rfl 102 _ rfl #[(0, .slice A l.length lc), (1, .slice A0 E.length c0), (2, .pointer (some ⟨gm, 0, none⟩))] rfl _ (run_build102 _ _ _ _ _ _ _ _) ?_))
  have hlw : w.heap.size ≤ w2.heap.size := (HB1.out.trans (HB2.out.mono HB1.out.size)).size
  have hbb : Below w.heap.size w w2 := HB1.out.trans (HB2.out.mono HB1.out.size)
  have hR0 : RnAt (w2.alloc (.cells (rnC0 (.slice A l.length lc) (.slice A0 E.length c0) (.pointer (some ⟨gm, 0, none⟩))) 102)) w2.heap.size (.slice A l.length lc) (.slice A0 E.length c0) (.pointer (some ⟨gm, 0, none⟩)) 0 (List.replicate 64 0) := ⟨_, heap_alloc_new w2 _, rnC0_ok _ _ _⟩
  have g3 := hR0.ga
  have hlt := hR0.lt
  have hfz := hR0.frozen 3
  have HBB := Aside0.mk (below_alloc hbb (.cells (rnC0 (.slice A l.length lc) (.slice A0 E.length c0) (.pointer (some ⟨gm, 0, none⟩))) 102))
  obtain ⟨W, hW⟩ : ∃ W, W = w2.alloc (.cells (rnC0 (.slice A l.length lc) (.slice A0 E.length c0) (.pointer (some ⟨gm, 0, none⟩))) 102) := ⟨_, rfl⟩
  rw [← hW] at g3 hlt hfz HBB ⊢
  clear hR0 hbb hlw hW
  go_loopw [14] (fun i wr => i = .int .i64 0 ∧ wr = W) (fun _ _ => 0)
  case atStart => exact ⟨rfl, rfl⟩
  case round =>
    obtain ⟨rfl, rfl⟩ := hrel
    go_wp2
    (try simp only [Exit.inBlock, Exit.then])
    refine bodyPost_ret (results_tmp4 rfl _ _ _) rfl ?_
    exact ⟨_, rfl, HBB.out⟩
theorem mem_keep {w w' : World} {base g bf br x : Nat} {F R : Int} {fl rl : List Int} (h : MemAt w base g bf br F R fl rl) (hk : Keep (· = x) w w') (hx : x < base) : MemAt w' base g bf br F R fl rl :=
  h.move fun k hm => hk.block k (by have := h.lt; rcases hm with rfl | rfl | rfl <;> omega) (by have := h.lg; have := h.lf; have := h.lr; rcases hm with rfl | rfl | rfl <;> omega)
/-- what a run of a program answers: its steps and its trap -/
def RunIs (l : List S49) (F R : Int) (fl rl : List Int) (fuel N : Nat) (t : Int) : Prop :=
  ∀ (w : World) (A : Option Addr) (lc base gm bf br : Nat), Kd.C k49 w A l.length l → l.length ≤ lc → MemAt w base gm bf br F R fl rl → (0 < l.length → ∀ a, A = some a → a.block ≠ br) →
    Calls Try.prog 30 #[.slice A l.length lc, .pointer (some ⟨gm, 0, none⟩), .int .i64 fuel] w fun e w' => ∃ v x, e = .returned (.tuple #[v, .int .i64 N, .int .i64 t, .int .i64 x]) ∧ Keep (· = br) w w'
theorem run_is {l : List S49} {E : List Int} (g : Good l E) (hchk : lir_Check.f (3 * l.length + 100) l = some 0) (hends : lir_Ends.f (3 * l.length + 100) l = some (E, true)) (hl0 : 0 < l.length) {F R : Int} {fl rl : List Int} (hF : MemFit F R fl.length rl.length) (hf : Bytes fl) {fuel N : Nat} (hfu : (fuel : Int) < 9223372036854775807) {t : Int} (hs : Stops l E F R fl rl fuel N t) : RunIs l F R fl rl fuel N t := by
  intro w A lc base gm bf br hC hlc hm hA
  obtain ⟨la, _, hla, _, _, _⟩ := Kd.C_get hC (z := z49) (0 : Int) (by decide) (by omega)
  subst hla
  obtain ⟨a1, a2, a3, a4⟩ := hs
  refine (run_mem w la lc l hC hlc _ hchk E true hends g.out.len hl0 base gm bf br F R fl rl hm hF hf (hA hl0 la rfl) N fuel hfu (by have := g.len; omega) a1 t a2 a3.at0 a4).mono ?_
  rintro e w' ⟨g', ev, _, rfl, _, hk⟩
  exact ⟨_, _, rfl, hk⟩
/-- two runs over memories alike in their bounds: if neither traps, their steps are as many -/
theorem two_runs (l : List S49) (hl : l.length ≤ 20000) {F R : Int} {fl r1 r2 : List Int} (h1 : MemFit F R fl.length r1.length) (h2 : MemFit F R fl.length r2.length) (he : r1.length = r2.length) (hf : Bytes fl) (hr1 : Bytes r1) (hr2 : Bytes r2) (fuel : Nat) (hfu : (fuel : Int) < 9223372036854775807) :
    ∃ N1 t1 N2 t2, RunIs l F R fl r1 fuel N1 t1 ∧ RunIs l F R fl r2 fuel N2 t2 ∧ (t1 = 0 → t2 = 0 → N1 = N2) := by
  obtain ⟨c, hc, h | ⟨rfl, E, hE, g⟩⟩ := check_all l hl
  · exact ⟨0, 0, 0, 0, fun w A lc base gm bf br hC hlc hm hA => (run_bad w A lc l hC hlc _ c hc h gm fuel).mono (by rintro e w' ⟨rfl, hb⟩; exact ⟨_, _, rfl, Keep.of_below hb⟩), fun w A lc base gm bf br hC hlc hm hA => (run_bad w A lc l hC hlc _ c hc h gm fuel).mono (by rintro e w' ⟨rfl, hb⟩; exact ⟨_, _, rfl, Keep.of_below hb⟩), fun _ _ => rfl⟩
  · by_cases hl0 : 0 < l.length
    · obtain ⟨N1, t1, s1⟩ := stops_ex g F R hf hr1 fuel
      obtain ⟨N2, t2, s2⟩ := stops_ex g F R hf hr2 fuel
      exact ⟨N1, t1, N2, t2, run_is g hc hE hl0 h1 hf hfu s1, run_is g hc hE hl0 h2 hf hfu s2, fun e1 e2 => by subst e1; subst e2; exact ag_stop g he s1 s2⟩
    · obtain rfl : l = [] := List.eq_nil_of_length_eq_zero (by omega)
      have hh : ∀ rl, RunIs ([] : List S49) F R fl rl fuel 0 0 := fun rl w A lc base gm bf br hC hlc hm hA => (run_empty w A lc [] hC hlc rfl gm fuel).mono (by rintro e w' ⟨v, rfl, hb⟩; exact ⟨_, _, rfl, Keep.of_below hb⟩)
      exact ⟨0, 0, 0, 0, hh _, hh _, fun _ _ => rfl⟩

end Go.Proofs.Ytpeljnnbknnbmaa.PD
end
section
section
namespace Go.Proofs.Ytpeljnnbknnbmaa.PD
open Go.RowKit Go.Proofs.YtpeljnnbknnbmaaW.PrintWords Go.Proofs.YtpeljnnbknnbmaaW.PrintLast Go.Proofs.YtpeljnnbknnbmaaW.PrintMore
set_option linter.unusedVariables false
set_option linter.unusedSimpArgs false
theorem C_keepA {w w1 : World} {A : Option Addr} {n : Nat} {xs : List S49} {br : Nat} (h : Kd.C k49 w A n xs) (hk : Keep (· = br) w w1) (hne : 0 < n → ∀ a, A = some a → a.block ≠ br) : Kd.C k49 w1 A n xs := by
  by_cases hn : 0 < n
  · obtain ⟨ad, e, _⟩ := h.2.2 hn
    subst e
    exact C_keep49 h hk (hne hn ad rfl)
  · exact ⟨h.1, h.2.1, fun h' => absurd h' hn⟩
theorem memRL_ok {b : List Int} (h : Bytes b) : Bytes (memRL b) ∧ (memRL b).length = 128 := by
  have hl := memB_le b
  have hm : Bytes (memB b) := fun x hx => h x (by unfold memB at hx; split at hx; exact List.mem_of_mem_take hx; exact hx)
  have h0 : Bytes (List.replicate 128 0) := fun x hx => by rw [List.eq_of_mem_replicate hx]; exact ⟨by decide, by decide⟩
  refine ⟨fun x hx => ?_, ?_⟩
  · unfold memRL putL splice at hx
    rcases List.mem_append.1 hx with e | e
    · exact h0 x (List.mem_of_mem_take e)
    · rcases List.mem_append.1 e with e | e
      · exact hm x e
      · exact h0 x (List.mem_of_mem_drop e)
  · unfold memRL putL
    rw [length_splice _ _ _ (by rw [show (2147483648 - 2147483648 : Int).toNat = 0 by rfl, List.length_replicate]; omega), List.length_replicate]
theorem few_some (l : List S49) (h : l.length < 3518437208883) : ∃ r, pintlelaw15_Few.f l = some r ∧ r.length ≤ 60 := by
  unfold pintlelaw15_Few.f
  by_cases h1 : (l.length : Int) > 60
  · rw [if_pos h1, if_pos (by omega)]
    simp only [Option.bind_some]
    rw [if_pos (by rw [List.length_take]; show 0 + min 60 l.length < _; omega)]
    exact ⟨_, rfl, by rw [List.nil_append, List.length_take]; omega⟩
  · rw [if_neg h1]
    simp only [Option.bind_some]
    rw [if_pos (by show 0 + l.length < _; omega)]
    exact ⟨_, rfl, by rw [List.nil_append]; omega⟩
theorem RunIs.at3000 {l : List S49} {F R : Int} {fl rl : List Int} {N : Nat} {t : Int} (h : RunIs l F R fl rl 3000 N t) (w : World) (A : Option Addr) (lc base gm bf br : Nat) (hC : Kd.C k49 w A l.length l) (hlc : l.length ≤ lc) (hm : MemAt w base gm bf br F R fl rl) (hA : 0 < l.length → ∀ a, A = some a → a.block ≠ br) :
    Calls Try.prog 30 #[.slice A l.length lc, .pointer (some ⟨gm, 0, none⟩), .int .i64 3000] w fun e w' => ∃ v x, e = .returned (.tuple #[v, .int .i64 N, .int .i64 t, .int .i64 x]) ∧ Keep (· = br) w w' := h w A lc base gm bf br hC hlc hm hA
set_option maxRecDepth 100000 in
set_option maxHeartbeats 8000000 in
theorem many_calls (A0 : Option Addr) (c0 : Nat) (l0 : List S49) (A1 : Option Addr) (c1 : Nat) (l1 : List Int) (A2 : Option Addr) (c2 : Nat) (l2 : List Int) (w : World) (hC0 : Kd.C k49 w A0 l0.length l0) (hc0 : l0.length ≤ c0) (hC1 : Kd.C (Kd.int .u8) w A1 l1.length l1) (hc1 : l1.length ≤ c1) (hC2 : Kd.C (Kd.int .u8) w A2 l2.length l2) (hc2 : l2.length ≤ c2) (hl : l0.length < 3518437208883) (hb1 : Bytes l1) (hb2 : Bytes l2) :
    Calls Try.prog 10 #[.slice A0 l0.length c0, .slice A1 l1.length c1, .slice A2 l2.length c2] w fun e w' => e = .returned (.bool true) ∧ Below w.heap.size w w' := by
  obtain ⟨l, hfew, hl60⟩ := few_some l0 hl
  have hm1 := memRL_ok hb1
  have hm2 := memRL_ok hb2
  obtain ⟨N1, t1, N2, t2, hr1, hr2, hag⟩ := two_runs l (by omega) (F := 4096) (R := 2147483648) (fl := List.replicate 256 0) (r1 := memRL l1) (r2 := memRL l2) (by rw [hm1.2]; exact fit_map) (by rw [hm2.2]; exact fit_map) (by rw [hm1.2, hm2.2]) (fun x hx => by rw [List.eq_of_mem_replicate hx]; exact ⟨by decide, by decide⟩) hm1.1 hm2.1 3000 (by decide)
  have HFW := Aside0.mk hfew
  have HC0 := Aside0.mk hC0
  have HC1 := Aside0.mk hC1
  have HC2 := Aside0.mk hC2
  have HR1 := Aside0.mk (fun w A lc base gm bf br => hr1.at3000 w A lc base gm bf br)
  have HR2 := Aside0.mk (fun w A lc base gm bf br => hr2.at3000 w A lc base gm bf br)
  have hcases : ((t1 != 0) = true) ∨ ((t1 != 0) = false ∧ (t2 != 0) = true) ∨ ((t1 != 0) = false ∧ (t2 != 0) = false ∧ ((N1 : Int) == (N2 : Int)) = true) := by
    by_cases e1 : t1 = 0
    · by_cases e2 : t2 = 0
      · have := hag e1 e2
        exact Or.inr (Or.inr ⟨by simp [e1], by simp [e2], by simp [this]⟩)
      · exact Or.inr (Or.inl ⟨by simp [e1], by simp [e2]⟩)
    · exact Or.inl (by simp [e1])
  clear hfew hC0 hC1 hC2 hr1 hr2 hag hm1 hm2 hl hb1 hb2 hl60
  rcases hcases with h1 | ⟨h1, h2⟩ | ⟨h1, h2, h3⟩
  all_goals
    go_enter Try.func10, Try.ntmps10
    go_wp2_with (first
      | (go_at_call 23; (with_reducible refine (pintlelaw15_Few.calls A0 c0 l0 l _ HC0.out hc0 HFW.out).mono ?_); rintro e w1 ⟨v0, rfl, hv, hb1⟩; obtain ⟨A, c, hA, hc, hC⟩ := Kd.R_reads hv; subst hA; have HC := Aside0.mk hC; have HCC := Aside0.mk hc; have HB1 := Aside0.mk hb1; have HLT := Aside0.mk (fun (hl0 : 0 < l.length) (a : Addr) (ha : A = some a) => Kd.C_lt (ha ▸ hC) hl0 (by show 0 < 5; omega)); clear hb1 hv hC hc)
      | (go_at_call 32; (with_reducible refine (memories_calls l2 A2 c2 _ (Kd.C_below HC2.out (HB1.out.trans (HB2.out.mono HB1.out.size))) hc2).mono ?_); rintro e w3 ⟨gm2, bf2, br2, gx2, rfl, hm2, _, hb3⟩; have HM2 := Aside0.mk hm2; have HB3 := Aside0.mk hb3; clear hm2 hb3)
      | (go_at_call 32; (with_reducible refine (memories_calls l1 A1 c1 _ (Kd.C_below HC1.out HB1.out) hc1).mono ?_); rintro e w2 ⟨gm1, bf1, br1, gx1, rfl, hm1, _, hb2⟩; have HM1 := Aside0.mk hm1; have HB2 := Aside0.mk hb2; clear hm1 hb2)
      | (go_at_call 30; (with_reducible refine (HR2.out _ A c _ gm2 bf2 br2 (C_keepA (Kd.C_below HC.out (HB2.out.trans (HB3.out.mono HB2.out.size))) HK4.out (fun h a ha => by have := HLT.out h a ha; have := HM1.out.lr; omega)) HCC.out (mem_keep HM2.out HK4.out HM1.out.lt.2.2) (fun h a ha => by have := HLT.out h a ha; have := HM2.out.lr; have := HB2.out.size; omega)).mono ?_); rintro e w5 ⟨v5, x5, rfl, hk5⟩; have HK5 := Aside0.mk hk5; clear hk5)
      | (go_at_call 30; (with_reducible refine (HR1.out _ A c _ gm1 bf1 br1 (Kd.C_below HC.out (HB2.out.trans (HB3.out.mono HB2.out.size))) HCC.out (MemAt.below HM1.out HB3.out) (fun h a ha => by have := HLT.out h a ha; have := HM1.out.lr; omega)).mono ?_); rintro e w4 ⟨v4, x4, rfl, hk4⟩; have HK4 := Aside0.mk hk4; clear hk4)
      | (go_at_call 31; (with_reducible refine (lives16_calls _).mono ?_); rintro e w6 ⟨rfl, hb6⟩; have HB6 := Aside0.mk hb6; clear hb6))
    go_ret
    have s1 := HB1.out.size
    have s2 := HB2.out.size
    have s3 := HB3.out.size
    have s4 := HK4.out.size
    have s5 := HK5.out.size
    have q1 := HM1.out.lr
    have q2 := HM2.out.lr
    have b3 := HB1.out.trans ((HB2.out.trans (HB3.out.mono s2)).mono s1)
    have b4 := b3.trans (HK4.out.below w.heap.size (by omega) (fun i hi => by subst hi; omega))
    have b5 := b4.trans (HK5.out.below w.heap.size (by omega) (fun i hi => by subst hi; omega))
    exact ⟨rfl, b5.trans (HB6.out.mono (by omega))⟩

end Go.Proofs.Ytpeljnnbknnbmaa.PD
end
section
-- Written by pr.py, a driver around the kit's printer, for this seat. Not trusted: Lean checks it.
namespace Go.Proofs.Ytpeljnnbknnbmaa.PD
open Go.RowKit Go.Proofs.YtpeljnnbknnbmaaW.PrintWords Go.Proofs.YtpeljnnbknnbmaaW.PrintLast Go.Proofs.YtpeljnnbknnbmaaW.PrintMore
attribute [local go_sem] max2_int min2_int max_two min_two max_three min_three max_four min_four   -- for this text's walks alone
set_option linter.unusedVariables false
set_option linter.unusedSimpArgs false

--BREAK @N@N22
/-! ### pintlelaw16_LirrunMany: function 10 -/
def pintlelaw16_LirrunMany.f (l0 : List (S49)) (l1 : List (Int)) (l2 : List (Int)) : Option Bool := if l0.length < 3518437208883 ∧ (∀ x ∈ l1, 0 ≤ x ∧ x < 256) ∧ (∀ x ∈ l2, 0 ≤ x ∧ x < 256) then some true else none
theorem pintlelaw16_LirrunMany.calls (A0 : Option Addr) (c0 : Nat) (l0 : List (S49)) (A1 : Option Addr) (c1 : Nat) (l1 : List (Int)) (A2 : Option Addr) (c2 : Nat) (l2 : List (Int)) (r : Bool) (w : World) (hr0 : Kd.C k49 w A0 l0.length l0) (hc0 : l0.length ≤ c0) (hr1 : Kd.C (Kd.int .u8) w A1 l1.length l1) (hc1 : l1.length ≤ c1) (hr2 : Kd.C (Kd.int .u8) w A2 l2.length l2) (hc2 : l2.length ≤ c2) (h : pintlelaw16_LirrunMany.f l0 l1 l2 = some r) :
    Calls Try.prog 10 #[.slice A0 l0.length c0, .slice A1 l1.length c1, .slice A2 l2.length c2] w fun e w' => e = .returned (.bool r) ∧ Below w.heap.size w w' := by
  unfold pintlelaw16_LirrunMany.f at h
  split at h
  case isTrue hb =>
    obtain rfl := Option.some.inj h
    exact many_calls A0 c0 l0 A1 c1 l1 A2 c2 l2 w hr0 hc0 hr1 hc1 hr2 hc2 hb.1 hb.2.1 hb.2.2
  case isFalse => exact nomatch h

end Go.Proofs.Ytpeljnnbknnbmaa.PD
end
end
end
end
end
end
