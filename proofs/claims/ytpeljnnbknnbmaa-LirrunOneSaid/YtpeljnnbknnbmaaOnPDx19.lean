import Derived.Test.YtpeljnnbknnbmaaOnPDx0
import Derived.Test.YtpeljnnbknnbmaaOnPDx6
import Derived.Test.YtpeljnnbknnbmaaOnPDx8
import Derived.Outline
import Derived.Deep.RegionHeld3
import Derived.Deep.OwnRows
import Derived.Laws.CopyOwn
import Derived.Lib.SliceRun
-- Written by pr.py, a driver around the kit's printer, for this seat. Not trusted: Lean checks it.
namespace Go.Proofs.Ytpeljnnbknnbmaa.PD
open Go.RowKit Go.Proofs.YtpeljnnbknnbmaaW.PrintWords Go.Proofs.YtpeljnnbknnbmaaW.PrintLast Go.Proofs.YtpeljnnbknnbmaaW.PrintMore
attribute [local go_sem] max2_int min2_int max_two min_two max_three min_three max_four min_four   -- for this text's walks alone
set_option linter.unusedVariables false
set_option linter.unusedSimpArgs false

theorem info5' : (Try.prog.info? 5).map (fun i => (i.zero, i.size, i.bytes)) = some (some (.int .u8 0), 1, 1) := by kernel_rfl
/-! ### Put -/
def KeepU (w w' : World) : Prop := ∀ (k : Nat) (cs : Array Value) (t : TypeId) (fr : Nat × Nat), w.heap[k]? = some (.cells cs t fr) → t ≠ 5 → w'.heap[k]? = some (.cells cs t fr)
theorem KeepU.refl (w : World) : KeepU w w := fun _ _ _ _ h _ => h
theorem KeepU.trans {w w1 w2 : World} (h1 : KeepU w w1) (h2 : KeepU w1 w2) : KeepU w w2 := fun k cs t fr h a => h2 k cs t fr (h1 k cs t fr h a) a
theorem KeepU.below {w w' : World} (h : Below w.heap.size w w') : KeepU w w' := fun k cs t fr hk _ => (h.block _ (blk_lt hk)).trans hk
def putL (B : Int) (bank : List Int) (addr : Int) (l : List Int) : List Int := splice bank (addr - B).toNat l
def PutTold (w : World) (base g bf br : Nat) (F R : Int) (fl rl : List Int) (b : Bool) (e : Ending) (w' : World) : Prop :=
  e = .returned (.bool b) ∧ MemAt w' base g bf br F R fl rl ∧ KeepU w w' ∧ Below base w w'
theorem u8s_splice (bank l : List Int) (p : Nat) : ((u8s bank).toList.take p ++ (l.map (Value.int .u8) ++ (u8s bank).toList.drop (p + (l.map (Value.int .u8)).length))).toArray = u8s (splice bank p l) := by
  unfold u8s splice
  simp [List.map_take, List.map_drop]
theorem MemAt.put_r {w : World} {base g bf br : Nat} {F R : Int} {fl rl rl' : List Int} (h : MemAt w base g bf br F R fl rl) (hl : rl'.length = rl.length) :
    MemAt (w.setRow br (u8s rl')) base g bf br F R fl rl' ∧ KeepU w (w.setRow br (u8s rl')) := by
  refine ⟨⟨by rw [setRow_other w br g _ (blk_ne h.hg h.hr (by decide)), hl]; exact h.hg, by rw [setRow_other w br bf _ h.ne]; exact h.hf, setRow_heap w br _ _ _ _ h.hr, h.ne, h.lg, h.lf, h.lr⟩, fun k cs t fr hk ht => ?_⟩
  rw [setRow_other w br k _ (by rintro rfl; rw [h.hr] at hk; injection hk with hk; injection hk with _ e _; exact ht e.symm)]
  exact hk
theorem splice_nil (L : List Int) (p : Nat) : splice L p [] = L := by simp [splice]
theorem size5 : (Try.prog.info? 5).map (·.size) = some 1 := by kernel_rfl
theorem copy_src {w : World} {A : Option Addr} {l : List Int} (hC : Kd.C (Kd.int .u8) w A l.length l) (hp : 0 < l.length) :
    ∃ ad, A = some ad ∧ ∀ j v, (l.map (Value.int .u8))[j]? = some v → w.cell? (ad.add j) = some v := by
  obtain ⟨ad, hA, _⟩ := Kd.at_int hC 0 (by omega) (by omega)
  refine ⟨ad, hA, fun j v hj => ?_⟩
  have hjl : j < l.length := by
    have := (List.getElem?_eq_some_iff.1 hj).1
    simpa using this
  obtain ⟨ad2, hA2, hc⟩ := Kd.at_int hC (j : Int) (by omega) (by omega)
  rw [hA] at hA2
  injection hA2 with hA2
  subst hA2
  rw [Int.toNat_natCast] at hc
  rw [hc, ← hj, List.getElem?_map, List.getElem?_eq_getElem hjl]
  unfold rd
  rw [Int.toNat_natCast, List.getD_eq_getElem?_getD, List.getElem?_eq_getElem hjl]
  rfl
theorem copy_run {w : World} {b p c c' : Nat} {A A' : Option Addr} {bank l : List Int} (hb : w.heap[b]? = some (.cells (u8s bank) 5 (0, 0))) (hC : Kd.C (Kd.int .u8) w A l.length l) (hA' : 0 < l.length → A' = some ⟨b, p, none⟩) (hfit : p + l.length ≤ bank.length) :
    (Builtin.copy_ #[56, 56] 3 #[.slice A' l.length c', .slice A l.length c]).run Try.prog w = .ok (.int .i64 l.length) (w.setRow b (u8s (splice bank p l))) := by
  rcases Nat.eq_zero_or_pos l.length with h0 | h0
  · obtain rfl : l = [] := List.eq_nil_of_length_eq_zero h0
    rw [splice_nil, setRow_self w b _ _ _ hb]
    exact run_copy_none (P := Try.prog) w 56 56 3 5 A' A 0 c' 0 c Try.underlying56 size5 rfl
  · obtain ⟨ad, rfl, hsrc⟩ := copy_src hC h0
    obtain rfl := hA' h0
    have := run_copy_row (P := Try.prog) w 56 56 3 5 b p l.length c' ad l.length c (u8s bank) 5 (l.map (Value.int .u8)) Try.underlying56 size5 hb (by simp) hsrc (by unfold u8s; simpa using hfit) (by intro v hv; obtain ⟨x, _, rfl⟩ := List.mem_map.1 hv; rfl)
    rw [this, List.append_assoc, u8s_splice, List.length_map]
    rfl
theorem splice_len {L l : List Int} {p : Nat} (h : p + l.length ≤ L.length) : (splice L p l).length = L.length := length_splice L p l h
set_option maxHeartbeats 4000000 in
theorem put_r_calls (base g bf br : Nat) (F R : Int) (fl rl : List Int) (addr : Int) (l : List Int) (A : Option Addr) (c : Nat) (w : World) (hm : MemAt w base g bf br F R fl rl) (hF : MemFit F R fl.length rl.length) (ha0 : 0 ≤ addr) (ha : addr < 4294967296)
    (hC : Kd.C (Kd.int .u8) w A l.length l) (hl : l.length < 4294967296) (h1 : ¬ inBank F fl.length addr l.length) (h2 : inBank R rl.length addr l.length) :
    Calls Try.prog 63 #[.pointer (some ⟨g, 0, none⟩), .int .u32 addr, .slice A l.length c] w (PutTold w base g bf br F R fl (putL R rl addr l) true) := by
  have HP := Aside0.mk (part_calls base g bf br F R fl rl addr l.length w hm hF ha0 ha (by omega))
  have HM := Aside0.mk hm
  have HI := Aside0.mk h2
  have HI0 := Aside0.mk h1
  have HC := Aside0.mk hC
  have HRUN := Aside0.mk (fun (w2 : World) (A' : Option Addr) (c' : Nat) (hb : Below w.heap.size w w2) (hA' : 0 < (l.length : Int) → A' = some ⟨br, (addr - R).toNat, none⟩) => copy_run (p := (addr - R).toNat) (c := c) (c' := c') (A' := A') (hm.below hb).hr (Kd.C_below hC hb) (fun h => hA' (by omega)) (by obtain ⟨a1, a2, a3⟩ := h2; omega))
  clear hm hF hC h1 h2
  go_enter Try.func63, Try.ntmps63
  go_wp2_with (first | (go_at_call 87; refine HP.out.mono ?_; rintro e w2 ⟨hb, (⟨hn, _⟩ | ⟨_, _, A', c', rfl, hA', hc'⟩ | ⟨_, hn, _⟩)⟩; (exact absurd hn HI0.out); (rotate_left; exact absurd HI.out hn); have HB := Aside0.mk hb; have hrun := HRUN.out w2 A' c' hb hA'; clear hb hA'))
  go_ret
  obtain ⟨m1, k1⟩ := (HM.out.below HB.out).put_r (rl' := splice rl (addr - R).toNat l) (splice_len (by obtain ⟨a1, a2, a3⟩ := HI.out; omega))
  exact ⟨rfl, m1, (KeepU.below HB.out).trans k1, below_setRow (HB.out.mono (by have := HM.out.lr; have := HM.out.lt; omega)) HM.out.lr _⟩
end Go.Proofs.Ytpeljnnbknnbmaa.PD
