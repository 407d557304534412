import Derived.Test.YtpeljnnbknnbmaaOnPDx0
import Derived.Test.YtpeljnnbknnbmaaOnPDx5
-- Written by pr.py, a driver around the kit's printer, for this seat. Not trusted: Lean checks it.
namespace Go.Proofs.Ytpeljnnbknnbmaa.PD
open Go.RowKit Go.Proofs.YtpeljnnbknnbmaaW.PrintWords Go.Proofs.YtpeljnnbknnbmaaW.PrintLast Go.Proofs.YtpeljnnbknnbmaaW.PrintMore
attribute [local go_sem] max2_int min2_int max_two min_two max_three min_three max_four min_four   -- for this text's walks alone
set_option linter.unusedVariables false
set_option linter.unusedSimpArgs false

--BREAK 
/-! ### mem_Memory_part: function 87 -/
/-- The memory behind a pointer: its struct in block g, its bytes in blocks bf and br; all from block 'base' on. -/
def u8s (l : List Int) : Array Value := (l.map (Value.int .u8)).toArray
def memCells (F R : Int) (nf nr : Nat) (bf br : Nat) : Array Value :=
  #[.int .u32 F, .int .u32 nf, .int .u32 R, .int .u32 nr, .int .u32 F, .slice (some ⟨bf, 0, none⟩) nf nf, .int .u32 R, .slice (some ⟨br, 0, none⟩) nr nr]
structure MemAt (w : World) (base g bf br : Nat) (F R : Int) (fl rl : List Int) : Prop where
  hg : w.heap[g]? = some (.cells (memCells F R fl.length rl.length bf br) 135 (0, 0))
  hf : w.heap[bf]? = some (.cells (u8s fl) 5 (0, 0))
  hr : w.heap[br]? = some (.cells (u8s rl) 5 (0, 0))
  ne : bf ≠ br
  lg : base ≤ g
  lf : base ≤ bf
  lr : base ≤ br
/-- The bounds of a target that can be. -/
structure MemFit (F R : Int) (nf nr : Nat) : Prop where
  f0 : 0 ≤ F
  r0 : 0 ≤ R
  f1 : F + nf ≤ 4294967296
  r1 : R + nr ≤ 4294967296
  nf0 : 4 ≤ nf
  nr0 : 4 ≤ nr
  nf1 : nf ≤ 1048576
  nr1 : nr ≤ 1048576
  apart : F + nf ≤ R ∨ R + nr ≤ F
theorem MemAt.move {w w1 : World} {base g bf br : Nat} {F R : Int} {fl rl : List Int} (h : MemAt w base g bf br F R fl rl) (hm : ∀ k, k = g ∨ k = bf ∨ k = br → w1.heap[k]? = w.heap[k]?) : MemAt w1 base g bf br F R fl rl :=
  ⟨(hm g (.inl rfl)).trans h.hg, (hm bf (.inr (.inl rfl))).trans h.hf, (hm br (.inr (.inr rfl))).trans h.hr, h.ne, h.lg, h.lf, h.lr⟩
theorem MemAt.lt {w : World} {base g bf br : Nat} {F R : Int} {fl rl : List Int} (h : MemAt w base g bf br F R fl rl) : g < w.heap.size ∧ bf < w.heap.size ∧ br < w.heap.size :=
  ⟨blk_lt h.hg, blk_lt h.hf, blk_lt h.hr⟩
theorem MemAt.below {w w1 : World} {base g bf br : Nat} {F R : Int} {fl rl : List Int} (h : MemAt w base g bf br F R fl rl) (hb : Below w.heap.size w w1) : MemAt w1 base g bf br F R fl rl :=
  h.move fun k hk => hb.block k (by have := h.lt; rcases hk with rfl | rfl | rfl <;> omega)
/-- the bytes from an address on -/
def bytesAt (base : Int) (l : List Int) (addr : Int) (m : Nat) : List Int := (l.drop (addr - base).toNat).take m
theorem u8s_get (l : List Int) (i : Nat) : (u8s l)[i]? = (l[i]?).map (Value.int .u8) := by
  unfold u8s
  rw [List.getElem?_toArray, List.getElem?_map]
theorem bytesAt_length {base : Int} {l : List Int} {addr : Int} {m : Nat} (h0 : base ≤ addr) (h : addr + m ≤ base + l.length) : (bytesAt base l addr m).length = m := by
  unfold bytesAt
  rw [List.length_take, List.length_drop]
  omega
/-- a cut of a bank's block reads as its bytes -/
theorem part_reads {w : World} {b : Nat} {l : List Int} {base addr : Int} {m : Nat} {A' : Option Addr} (hb : w.heap[b]? = some (.cells (u8s l) 5 (0, 0))) (h0 : base ≤ addr) (h : addr + m ≤ base + l.length) (hl : l.length ≤ 1048576)
    (hA : 0 < m → A' = some ⟨b, (addr - base).toNat, none⟩) : Kd.C (Kd.int .u8) w A' (bytesAt base l addr m).length (bytesAt base l addr m) := by
  have hlen := bytesAt_length h0 h
  refine Kd.C_of_reads (d := (0 : Int)) (h1 := fun _ => rfl) ⟨rfl, by rw [hlen]; omega, fun hn => ⟨_, hA (by omega), fun j hj => ?_⟩⟩
  rw [add_at, blk_cell hb, u8s_get]
  have hjm : j < m := by omega
  have : (bytesAt base l addr m)[j]? = l[(addr - base).toNat + j]? := by
    unfold bytesAt
    rw [List.getElem?_take, if_pos hjm, List.getElem?_drop]
  rw [← this, List.getElem?_eq_getElem hj]
  simp [List.getD_eq_getElem?_getD, List.getElem?_eq_getElem hj]
def inBank (base : Int) (n : Nat) (addr cnt : Int) : Prop := base ≤ addr ∧ 0 ≤ cnt ∧ addr + cnt ≤ base + n
/-- what is told of a part: where the bytes lie, or that there is none -/
def PartTold (w : World) (bf br : Nat) (F R : Int) (fl rl : List Int) (addr cnt : Int) (e : Ending) (w' : World) : Prop :=
  Below w.heap.size w w' ∧
  ((inBank F fl.length addr cnt ∧ ∃ A' c', e = .returned (.tuple #[.slice A' cnt.toNat c', .bool true]) ∧ (0 < cnt → A' = some ⟨bf, (addr - F).toNat, none⟩) ∧ cnt.toNat ≤ c') ∨
   (¬ inBank F fl.length addr cnt ∧ inBank R rl.length addr cnt ∧ ∃ A' c', e = .returned (.tuple #[.slice A' cnt.toNat c', .bool true]) ∧ (0 < cnt → A' = some ⟨br, (addr - R).toNat, none⟩) ∧ cnt.toNat ≤ c') ∨
   (¬ inBank F fl.length addr cnt ∧ ¬ inBank R rl.length addr cnt ∧ e = .returned (.tuple #[.slice none 0 0, .bool false])))
theorem mem_cells {w : World} {base g bf br : Nat} {F R : Int} {fl rl : List Int} (h : MemAt w base g bf br F R fl rl) :
    w.cell? ⟨g, 0, none⟩ = some (.int .u32 F) ∧ w.cell? ⟨g, 1, none⟩ = some (.int .u32 fl.length) ∧ w.cell? ⟨g, 2, none⟩ = some (.int .u32 R) ∧ w.cell? ⟨g, 3, none⟩ = some (.int .u32 rl.length) ∧ w.cell? ⟨g, 4, none⟩ = some (.int .u32 F) ∧
    w.cell? ⟨g, 5, none⟩ = some (.slice (some ⟨bf, 0, none⟩) fl.length fl.length) ∧ w.cell? ⟨g, 6, none⟩ = some (.int .u32 R) ∧ w.cell? ⟨g, 7, none⟩ = some (.slice (some ⟨br, 0, none⟩) rl.length rl.length) :=
  ⟨blk_cell h.hg 0, blk_cell h.hg 1, blk_cell h.hg 2, blk_cell h.hg 3, blk_cell h.hg 4, blk_cell h.hg 5, blk_cell h.hg 6, blk_cell h.hg 7⟩
set_option maxHeartbeats 4000000 in
theorem part_calls (base g bf br : Nat) (F R : Int) (fl rl : List Int) (addr cnt : Int) (w : World) (hm : MemAt w base g bf br F R fl rl) (hF : MemFit F R fl.length rl.length) (ha0 : 0 ≤ addr) (ha : addr < 4294967296) (hc : cnt ≤ 9223372036854775807) :
    Calls Try.prog 87 #[.pointer (some ⟨g, 0, none⟩), .int .u32 addr, .int .i64 cnt] w (PartTold w bf br F R fl rl addr cnt) := by
  obtain ⟨_, _, _, _, q4, q5, q6, q7⟩ := mem_cells hm
  have HM := Aside0.mk hm
  have HF := Aside0.mk hF
  clear hm hF
  have hx := HF.out.nf1
  have hy := HF.out.nr1
  have hf0 := HF.out.f0
  have hr0 := HF.out.r0
  have hf1 := HF.out.f1
  have hr1 := HF.out.r1
  have hnf := HF.out.nf0
  have hnr := HF.out.nr0
  by_cases h1 : inBank F fl.length addr cnt
  · have h1' := h1
    obtain ⟨a1, a2, a3⟩ := h1'
    obtain ⟨m, rfl⟩ : ∃ m : Nat, cnt = (m : Int) := ⟨cnt.toNat, by omega⟩
    obtain ⟨p, hp⟩ : ∃ p : Nat, F + p = addr := ⟨(addr - F).toNat, by omega⟩
    have hpe : (addr - F).toNat = p := by omega
    have HC := Aside0.mk (fun W => bank_yes bf fl.length p m F addr W hf0 ha hp (by omega) hx)
    have H1 := Aside0.mk h1
    have HPE := Aside0.mk hpe
    clear h1 hp hpe a1 a2 a3
    go_enter Try.func87, Try.ntmps87
    go_wp2_with (go_at_call 99; refine (HC.out _).mono ?_; rintro e w1 ⟨A', c', rfl, hA, hc', hb⟩; have HA := Aside0.mk hA; have HB := Aside0.mk hb; clear hA hb)
    go_ret2
    exact ⟨HB.out, .inl ⟨H1.out, A', c', rfl, fun h => by rw [HPE.out]; exact HA.out (by omega), hc'⟩⟩
  · have HC1 := Aside0.mk (fun W => bank_no bf fl.length F addr cnt W hf0 (by omega) ha0 ha hc hx h1)
    have H1 := Aside0.mk h1
    clear h1
    by_cases h2 : inBank R rl.length addr cnt
    · have h2' := h2
      obtain ⟨a1, a2, a3⟩ := h2'
      obtain ⟨m, rfl⟩ : ∃ m : Nat, cnt = (m : Int) := ⟨cnt.toNat, by omega⟩
      obtain ⟨p, hp⟩ : ∃ p : Nat, R + p = addr := ⟨(addr - R).toNat, by omega⟩
      have hpe : (addr - R).toNat = p := by omega
      have HC := Aside0.mk (fun W => bank_yes br rl.length p m R addr W hr0 ha hp (by omega) hy)
      have H2 := Aside0.mk h2
      have HPE := Aside0.mk hpe
      clear h2 hp hpe a1 a2 a3
      go_enter Try.func87, Try.ntmps87
      go_wp2_with (first | (go_at_call 99; with_reducible refine (HC1.out _).mono ?_; rintro e w1 ⟨rfl, hb⟩; obtain ⟨_, _, _, _, z4, z5, z6, z7⟩ := mem_cells (HM.out.below hb); have HB1 := Aside0.mk hb; clear hb) | (go_at_call 99; refine (HC.out _).mono ?_; rintro e w2 ⟨A', c', rfl, hA, hc', hb⟩; have HA := Aside0.mk hA; have HB := Aside0.mk hb; clear hA hb))
      go_ret2
      exact ⟨HB1.out.trans (HB.out.mono HB1.out.size), .inr (.inl ⟨H1.out, H2.out, A', c', rfl, fun h => by rw [HPE.out]; exact HA.out (by omega), hc'⟩)⟩
    · have HC := Aside0.mk (fun W => bank_no br rl.length R addr cnt W hr0 (by omega) ha0 ha hc hy h2)
      have H2 := Aside0.mk h2
      clear h2
      go_enter Try.func87, Try.ntmps87
      go_wp2_with (first | (go_at_call 99; with_reducible refine (HC1.out _).mono ?_; rintro e w1 ⟨rfl, hb⟩; obtain ⟨_, _, _, _, z4, z5, z6, z7⟩ := mem_cells (HM.out.below hb); have HB1 := Aside0.mk hb; clear hb) | (go_at_call 99; refine (HC.out _).mono ?_; rintro e w2 ⟨rfl, hb⟩; have HB := Aside0.mk hb; clear hb))
      go_ret2
      exact ⟨HB1.out.trans (HB.out.mono HB1.out.size), .inr (.inr ⟨H1.out, H2.out, rfl⟩)⟩
end Go.Proofs.Ytpeljnnbknnbmaa.PD
