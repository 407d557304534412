-- Written by pr.py, a driver around the kit's printer, for this seat. Not trusted: Lean checks it.
import Derived.Test.YtbbjooaggdgcmaaPCx0
import Derived.Test.YtbbjooaggdgcmaaPCx3
import Derived.Test.YtbbjooaggdgcmaaPCx5
import Derived.Test.YtbbjooaggdgcmaaPCx6
import Derived.Outline
import Derived.Deep.RegionHeld3
import Derived.Deep.OwnRows
import Derived.Laws.CopyOwn
import Derived.Lib.SliceRun
namespace Go.Proofs.Ytbbjooaggdgcmaa.PC
open Go.RowKit Go.Proofs.YtbbjooaggdgcmaaW.PrintWords Go.Proofs.YtbbjooaggdgcmaaW.PrintLast Go.Proofs.YtbbjooaggdgcmaaW.PrintMore
attribute [local go_sem] max2_int min2_int max_two min_two max_three min_three max_four min_four   -- for this text's walks alone
set_option linter.unusedVariables false
set_option linter.unusedSimpArgs false

--BREAK Derived.Outline,Derived.Deep.RegionHeld3,Derived.Deep.OwnRows,Derived.Laws.CopyOwn,Derived.Lib.SliceRun
/-! ### mem_Memory_Put: function 20 -/
def fetchV (F R : Int) (fl rl : List Int) (addr : Int) : Int × Int :=
  if addr % 4 ≠ 0 then (0, 1) else
  if inBank F fl.length addr 4 then (numL (bytesAt F fl addr 4), 0) else if inBank R rl.length addr 4 then (numL (bytesAt R rl addr 4), 0) else (0, 2)
set_option maxHeartbeats 4000000 in
theorem fetch_calls (base g bf br : Nat) (F R : Int) (fl rl : List Int) (addr : Int) (w : World) (hm : MemAt w base g bf br F R fl rl) (hF : MemFit F R fl.length rl.length) (hbf : Bytes fl) (hbr : Bytes rl) (ha0 : 0 ≤ addr) (ha : addr < 4294967296) :
    Calls Try.prog 18 #[.pointer (some ⟨g, 0, none⟩), .int .u32 addr] w fun e w' => e = .returned (.tuple #[.int .u32 (fetchV F R fl rl addr).1, .int .i64 (fetchV F R fl rl addr).2]) ∧ Below w.heap.size w w' := by
  obtain ⟨V, hV⟩ : ∃ V, V = fetchV F R fl rl addr := ⟨_, rfl⟩
  rw [← hV]
  unfold fetchV at hV
  have HM := Aside0.mk hm
  clear hm
  by_cases hal : addr % 4 = 0
  · rw [if_neg (by simpa using hal)] at hV
    by_cases h1 : inBank F fl.length addr 4
    · rw [if_pos h1] at hV
      have hn := number_eq _ (bytes_drop hbf F addr 4) (by unfold bytesAt; rw [List.length_take]; omega)
      have HC := Aside0.mk (fun W (hM : MemAt W base g bf br F R fl rl) => part_f (w := W) hM hF ha0 ha (by decide) h1)
      obtain ⟨l, hl⟩ : ∃ l, l = bytesAt F fl addr 4 := ⟨_, rfl⟩
      rw [show Int.toNat 4 = 4 from rfl, ← hl] at HC
      rw [← hl] at hn hV
      have HN := Aside0.mk hn
      have HV := Aside0.mk hV
      clear hV h1 hn hl hF hbf hbr
      go_enter Try.func18, Try.ntmps18
      go_wp2_with (first | (go_at_call 24; refine (HC.out _ HM.out).mono ?_; rintro e w2 ⟨A', c', rfl, hC, hc', hb⟩; have HCC := Aside0.mk hC; have HB := Aside0.mk hb; clear hC hb) | (go_at_call 25; refine (mem_number.calls 6 A' c' l (numL l) _ HCC.out hc' HN.out).mono ?_; rintro e w3 ⟨rfl, ⟨nd2, rfl⟩⟩))
      go_ret2
      exact ⟨by rw [HV.out]; rfl, pw_below_drewN HB.out nd2⟩
    · rw [if_neg h1] at hV
      by_cases h2 : inBank R rl.length addr 4
      · rw [if_pos h2] at hV
        have hn := number_eq _ (bytes_drop hbr R addr 4) (by unfold bytesAt; rw [List.length_take]; omega)
        have HC := Aside0.mk (fun W (hM : MemAt W base g bf br F R fl rl) => part_r (w := W) hM hF ha0 ha (by decide) h1 h2)
        obtain ⟨l, hl⟩ : ∃ l, l = bytesAt R rl addr 4 := ⟨_, rfl⟩
        rw [show Int.toNat 4 = 4 from rfl, ← hl] at HC
        rw [← hl] at hn hV
        have HN := Aside0.mk hn
        have HV := Aside0.mk hV
        clear hV h1 h2 hn hl hF hbf hbr
        go_enter Try.func18, Try.ntmps18
        go_wp2_with (first | (go_at_call 24; refine (HC.out _ HM.out).mono ?_; rintro e w2 ⟨A', c', rfl, hC, hc', hb⟩; have HCC := Aside0.mk hC; have HB := Aside0.mk hb; clear hC hb) | (go_at_call 25; refine (mem_number.calls 6 A' c' l (numL l) _ HCC.out hc' HN.out).mono ?_; rintro e w3 ⟨rfl, ⟨nd2, rfl⟩⟩))
        go_ret2
        exact ⟨by rw [HV.out]; rfl, pw_below_drewN HB.out nd2⟩
      · rw [if_neg h2] at hV
        have HC := Aside0.mk (fun W (hM : MemAt W base g bf br F R fl rl) => part_n (w := W) hM hF ha0 ha (by decide) h1 h2)
        have HV := Aside0.mk hV
        clear hV h1 h2 hF hbf hbr
        go_enter Try.func18, Try.ntmps18
        go_wp2_with (first | (go_at_call 24; refine (HC.out _ HM.out).mono ?_; rintro e w2 ⟨rfl, hb⟩; have HB := Aside0.mk hb; clear hb))
        go_ret2
        exact ⟨by rw [HV.out]; rfl, HB.out⟩
  · rw [if_pos (by simpa using hal)] at hV
    have HV := Aside0.mk hV
    clear hV hF hbf hbr
    go_enter Try.func18, Try.ntmps18
    go_wp2
    exact bodyPost_ret (v := .tuple #[.int .u32 0, .int .i64 1]) (by simp [results, Try.results18, go_sem]) rfl ⟨by rw [HV.out], Below.refl _ _⟩
theorem R_emp (w : World) : Kd.R (Kd.int .u8) 5 (w.alloc (.cells #[] 5)) w.heap.size (fun _ => True) (.slice (some ⟨w.heap.size, 0, none⟩) 0 0) [] := by
  have h2 := World.ownsRow_lit (base := w.heap.size) (e := 5) (size := 1) w #[] 0 (Nat.le_refl _) (by decide) rfl
  exact Kd.R_of_own (by simpa [encs] using h2) (fun _ _ => trivial)
theorem info5' : (Try.prog.info? 5).map (fun i => (i.zero, i.size, i.bytes)) = some (some (.int .u8 0), 1, 1) := by kernel_rfl
set_option maxHeartbeats 4000000 in
theorem clone_calls (A : Option Addr) (l : List Int) (c : Nat) (w : World) (hC : Kd.C (Kd.int .u8) w A l.length l) (hc : l.length ≤ c) (hl : l.length < 4294967296) :
    Calls Try.prog 33 #[.slice A l.length c] w fun e w' => ∃ A' c', e = .returned (.slice A' l.length c') ∧ l.length ≤ c' ∧ Kd.C (Kd.int .u8) w' A' l.length l ∧ Below w.heap.size w w' := by
  have HC := Aside0.mk hC
  have HL := Aside0.mk hl
  have HCP := Aside0.mk hc
  clear hC hl hc
  have hq := fun (w : World) (a : Option Addr) (n c : Nat) => Lib.run_eql_slice_nil (P := Try.prog) w 43 5 a n c 0 0 Try.underlying43
  cases A with
  | none =>
    have h0 : l.length = 0 := by
      rcases Nat.eq_zero_or_pos l.length with h | h
      · exact h
      · obtain ⟨ad, he, _⟩ := HC.out.2.2 h
        cases he
    go_enter Try.func33, Try.ntmps33
    go_wp2
    go_ret
    rw [h0]
    exact ⟨none, 0, rfl, Nat.le_refl _, by have := HC.out; rw [h0] at this; exact this, Below.refl _ _⟩
  | some ad =>
    go_enter Try.func33, Try.ntmps33
    go_wp2_with ((with_reducible refine gate_builtin (b := .append) (xs := #[.tmp 5, .tmp 6]) rfl ?_); at_builtin; go_loud (refine Kd.R_append_rows (Kd.int .u8) (w0 := w) w.heap.size rfl (.tmp 5) (.tmp 6) 43 5 (.int .u8 0) 1 rfl Try.underlying43 info5' rfl (by decide) (by omega) (.slice (some ⟨w.heap.size, 0, none⟩) 0 0) [] l (some ad) l.length c (fun _ => True) (fun _ => False) rfl rfl (R_emp w) (Kd.C_alloc HC.out _) (fun _ _ h => h) (fun _ h => h.elim) (fun _ _ => trivial) (below_alloc (Below.refl _ _) _) (by simp) (by have := HL.out; simp; omega) ?_); intro v1 w1 ho hb hgr hat; obtain ⟨A1, c1, hv, hc1, hC1⟩ := Kd.R_reads ho; rw [List.nil_append] at hv hc1 hC1; subst hv; have HC1 := Aside0.mk hC1; have HB1 := Aside0.mk hb; have HCC1 := Aside0.mk hc1; clear ho hb hgr hat hC1 hc1)
    go_ret
    exact ⟨A1, c1, rfl, HCC1.out, HC1.out, HB1.out⟩
/-- what Get tells: bytes that are there, or none -/
def GetTold (w : World) (l : List Int) (e : Ending) (w' : World) : Prop := ∃ A' c', e = .returned (.tuple #[.slice A' l.length c', .bool true]) ∧ Kd.C (Kd.int .u8) w' A' l.length l ∧ l.length ≤ c' ∧ Below w.heap.size w w'
theorem get_of (base g bf br : Nat) (F R : Int) (fl rl : List Int) (addr n : Int) (l : List Int) (w : World) (hm : MemAt w base g bf br F R fl rl) (hl : l.length < 4294967296)
    (HC : ∀ W, MemAt W base g bf br F R fl rl → Calls Try.prog 24 #[.pointer (some ⟨g, 0, none⟩), .int .u32 addr, .int .i64 n] W (ReadTold W l)) :
    Calls Try.prog 19 #[.pointer (some ⟨g, 0, none⟩), .int .u32 addr, .int .i64 n] w (GetTold w l) := by
  have HM := Aside0.mk hm
  have HP := Aside0.mk HC
  have HL := Aside0.mk hl
  clear hm HC hl
  go_enter Try.func19, Try.ntmps19
  go_wp2_with (first | (go_at_call 24; refine (HP.out _ HM.out).mono ?_; rintro e w2 ⟨A', c', rfl, hC, hc', hb⟩; have HCC := Aside0.mk hC; have HB := Aside0.mk hb; clear hC hb) | (go_at_call 33; refine (clone_calls A' l c' _ HCC.out hc' HL.out).mono ?_; rintro e w3 ⟨A2, c2, rfl, hc2, hC2, hb2⟩; have HC2 := Aside0.mk hC2; have HB2 := Aside0.mk hb2; have HCC2 := Aside0.mk hc2; clear hC2 hb2 hc2))
  go_ret2
  exact ⟨A2, c2, rfl, HC2.out, HCC2.out, HB.out.trans (HB2.out.mono HB.out.size)⟩
theorem get_no (base g bf br : Nat) (F R : Int) (fl rl : List Int) (addr n : Int) (w : World) (hm : MemAt w base g bf br F R fl rl) (hF : MemFit F R fl.length rl.length) (ha0 : 0 ≤ addr) (ha : addr < 4294967296) (hc : n ≤ 9223372036854775807)
    (h1 : ¬ inBank F fl.length addr n) (h2 : ¬ inBank R rl.length addr n) :
    Calls Try.prog 19 #[.pointer (some ⟨g, 0, none⟩), .int .u32 addr, .int .i64 n] w fun e w' => e = .returned (.tuple #[.slice none 0 0, .bool (n == 0)]) ∧ Below w.heap.size w w' := by
  have HP := Aside0.mk (part_n hm hF ha0 ha hc h1 h2)
  clear hm hF h1 h2
  go_enter Try.func19, Try.ntmps19
  go_wp2_with (first | (go_at_call 24; refine HP.out.mono ?_; rintro e w2 ⟨rfl, hb⟩; have HB := Aside0.mk hb; clear hb))
  go_ret2
  exact ⟨rfl, HB.out⟩
theorem get_calls (base g bf br : Nat) (F R : Int) (fl rl : List Int) (addr n : Int) (w : World) (hm : MemAt w base g bf br F R fl rl) (hF : MemFit F R fl.length rl.length) (ha0 : 0 ≤ addr) (ha : addr < 4294967296) (hc : n ≤ 9223372036854775807) (hs : fl.length < 4294967296 ∧ rl.length < 4294967296) :
    Calls Try.prog 19 #[.pointer (some ⟨g, 0, none⟩), .int .u32 addr, .int .i64 n] w fun e w' =>
      (inBank F fl.length addr n ∧ GetTold w (bytesAt F fl addr n.toNat) e w') ∨ (¬ inBank F fl.length addr n ∧ inBank R rl.length addr n ∧ GetTold w (bytesAt R rl addr n.toNat) e w') ∨
      (¬ inBank F fl.length addr n ∧ ¬ inBank R rl.length addr n ∧ e = .returned (.tuple #[.slice none 0 0, .bool (n == 0)]) ∧ Below w.heap.size w w') := by
  have hb : ∀ (B : Int) (l : List Int), l.length < 4294967296 → (bytesAt B l addr n.toNat).length < 4294967296 := fun B l h => by
    unfold bytesAt
    rw [List.length_take, List.length_drop]
    omega
  by_cases h1 : inBank F fl.length addr n
  · exact (get_of base g bf br F R fl rl addr n _ w hm (hb _ _ hs.1) (fun W hM => part_f hM hF ha0 ha hc h1)).mono fun e w' h => .inl ⟨h1, h⟩
  · by_cases h2 : inBank R rl.length addr n
    · exact (get_of base g bf br F R fl rl addr n _ w hm (hb _ _ hs.2) (fun W hM => part_r hM hF ha0 ha hc h1 h2)).mono fun e w' h => .inr (.inl ⟨h1, h2, h⟩)
    · exact (get_no base g bf br F R fl rl addr n w hm hF ha0 ha hc h1 h2).mono fun e w' h => .inr (.inr ⟨h1, h2, h⟩)
/-! ### Put -/
def KeepU (w w' : World) : Prop := ∀ (k : Nat) (cs : Array Value) (t : TypeId) (fr : Nat × Nat), w.heap[k]? = some (.cells cs t fr) → t ≠ 5 → w'.heap[k]? = some (.cells cs t fr)
theorem KeepU.refl (w : World) : KeepU w w := fun _ _ _ _ h _ => h
theorem KeepU.trans {w w1 w2 : World} (h1 : KeepU w w1) (h2 : KeepU w1 w2) : KeepU w w2 := fun k cs t fr h a => h2 k cs t fr (h1 k cs t fr h a) a
theorem KeepU.below {w w' : World} (h : Below w.heap.size w w') : KeepU w w' := fun k cs t fr hk _ => (h.block _ (blk_lt hk)).trans hk
def putL (B : Int) (bank : List Int) (addr : Int) (l : List Int) : List Int := splice bank (addr - B).toNat l
def PutTold (w : World) (base g bf br : Nat) (F R : Int) (fl rl : List Int) (b : Bool) (e : Ending) (w' : World) : Prop :=
  e = .returned (.bool b) ∧ MemAt w' base g bf br F R fl rl ∧ KeepU w w' ∧ Below base w w'
theorem u8s_splice (bank l : List Int) (p : Nat) : ((u8s bank).toList.take p ++ (l.map (Value.int .u8) ++ (u8s bank).toList.drop (p + (l.map (Value.int .u8)).length))).toArray = u8s (splice bank p l) := by
  unfold u8s splice
  simp [List.map_take, List.map_drop]
theorem MemAt.put_f {w : World} {base g bf br : Nat} {F R : Int} {fl rl fl' : List Int} (h : MemAt w base g bf br F R fl rl) (hl : fl'.length = fl.length) :
    MemAt (w.setRow bf (u8s fl')) base g bf br F R fl' rl ∧ KeepU w (w.setRow bf (u8s fl')) := by
  refine ⟨⟨by rw [setRow_other w bf g _ (blk_ne h.hg h.hf (by decide)), hl]; exact h.hg, setRow_heap w bf _ _ _ _ h.hf, by rw [setRow_other w bf br _ (Ne.symm h.ne)]; exact h.hr, h.ne, h.lg, h.lf, h.lr⟩, fun k cs t fr hk ht => ?_⟩
  rw [setRow_other w bf k _ (by rintro rfl; rw [h.hf] at hk; injection hk with hk; injection hk with _ e _; exact ht e.symm)]
  exact hk
theorem MemAt.put_r {w : World} {base g bf br : Nat} {F R : Int} {fl rl rl' : List Int} (h : MemAt w base g bf br F R fl rl) (hl : rl'.length = rl.length) :
    MemAt (w.setRow br (u8s rl')) base g bf br F R fl rl' ∧ KeepU w (w.setRow br (u8s rl')) := by
  refine ⟨⟨by rw [setRow_other w br g _ (blk_ne h.hg h.hr (by decide)), hl]; exact h.hg, by rw [setRow_other w br bf _ h.ne]; exact h.hf, setRow_heap w br _ _ _ _ h.hr, h.ne, h.lg, h.lf, h.lr⟩, fun k cs t fr hk ht => ?_⟩
  rw [setRow_other w br k _ (by rintro rfl; rw [h.hr] at hk; injection hk with hk; injection hk with _ e _; exact ht e.symm)]
  exact hk
theorem splice_nil (L : List Int) (p : Nat) : splice L p [] = L := by simp [splice]
theorem size5 : (Try.prog.info? 5).map (·.size) = some 1 := by kernel_rfl
theorem copy_src {w : World} {A : Option Addr} {l : List Int} (hC : Kd.C (Kd.int .u8) w A l.length l) (hp : 0 < l.length) :
    ∃ ad, A = some ad ∧ ∀ j v, (l.map (Value.int .u8))[j]? = some v → w.cell? (ad.add j) = some v := by
  obtain ⟨ad, hA, _⟩ := Kd.at_int hC 0 (by omega) (by omega)
  refine ⟨ad, hA, fun j v hj => ?_⟩
  have hjl : j < l.length := by
    have := (List.getElem?_eq_some_iff.1 hj).1
    simpa using this
  obtain ⟨ad2, hA2, hc⟩ := Kd.at_int hC (j : Int) (by omega) (by omega)
  rw [hA] at hA2
  injection hA2 with hA2
  subst hA2
  rw [Int.toNat_natCast] at hc
  rw [hc, ← hj, List.getElem?_map, List.getElem?_eq_getElem hjl]
  unfold rd
  rw [Int.toNat_natCast, List.getD_eq_getElem?_getD, List.getElem?_eq_getElem hjl]
  rfl
theorem copy_run {w : World} {b p c c' : Nat} {A A' : Option Addr} {bank l : List Int} (hb : w.heap[b]? = some (.cells (u8s bank) 5 (0, 0))) (hC : Kd.C (Kd.int .u8) w A l.length l) (hA' : 0 < l.length → A' = some ⟨b, p, none⟩) (hfit : p + l.length ≤ bank.length) :
    (Builtin.copy_ #[43, 43] 3 #[.slice A' l.length c', .slice A l.length c]).run Try.prog w = .ok (.int .i64 l.length) (w.setRow b (u8s (splice bank p l))) := by
  rcases Nat.eq_zero_or_pos l.length with h0 | h0
  · obtain rfl : l = [] := List.eq_nil_of_length_eq_zero h0
    rw [splice_nil, setRow_self w b _ _ _ hb]
    exact run_copy_none (P := Try.prog) w 43 43 3 5 A' A 0 c' 0 c Try.underlying43 size5 rfl
  · obtain ⟨ad, rfl, hsrc⟩ := copy_src hC h0
    obtain rfl := hA' h0
    have := run_copy_row (P := Try.prog) w 43 43 3 5 b p l.length c' ad l.length c (u8s bank) 5 (l.map (Value.int .u8)) Try.underlying43 size5 hb (by simp) hsrc (by unfold u8s; simpa using hfit) (by intro v hv; obtain ⟨x, _, rfl⟩ := List.mem_map.1 hv; rfl)
    rw [this, List.append_assoc, u8s_splice, List.length_map]
    rfl
theorem splice_len {L l : List Int} {p : Nat} (h : p + l.length ≤ L.length) : (splice L p l).length = L.length := length_splice L p l h
set_option maxHeartbeats 4000000 in
theorem put_f_calls (base g bf br : Nat) (F R : Int) (fl rl : List Int) (addr : Int) (l : List Int) (A : Option Addr) (c : Nat) (w : World) (hm : MemAt w base g bf br F R fl rl) (hF : MemFit F R fl.length rl.length) (ha0 : 0 ≤ addr) (ha : addr < 4294967296)
    (hC : Kd.C (Kd.int .u8) w A l.length l) (hl : l.length < 4294967296) (h1 : inBank F fl.length addr l.length) :
    Calls Try.prog 20 #[.pointer (some ⟨g, 0, none⟩), .int .u32 addr, .slice A l.length c] w (PutTold w base g bf br F R (putL F fl addr l) rl true) := by
  have HP := Aside0.mk (part_calls base g bf br F R fl rl addr l.length w hm hF ha0 ha (by omega))
  have HM := Aside0.mk hm
  have HI := Aside0.mk h1
  have HC := Aside0.mk hC
  have HRUN := Aside0.mk (fun (w2 : World) (A' : Option Addr) (c' : Nat) (hb : Below w.heap.size w w2) (hA' : 0 < (l.length : Int) → A' = some ⟨bf, (addr - F).toNat, none⟩) => copy_run (p := (addr - F).toNat) (c := c) (c' := c') (A' := A') (hm.below hb).hf (Kd.C_below hC hb) (fun h => hA' (by omega)) (by obtain ⟨a1, a2, a3⟩ := h1; omega))
  clear hm hF hC h1
  go_enter Try.func20, Try.ntmps20
  go_wp2_with (first | (go_at_call 24; refine HP.out.mono ?_; rintro e w2 ⟨hb, (⟨_, A', c', rfl, hA', hc'⟩ | ⟨hn, _⟩ | ⟨hn, _⟩)⟩; (rotate_left; exact absurd HI.out hn; exact absurd HI.out hn); have HB := Aside0.mk hb; have hrun := HRUN.out w2 A' c' hb hA'; clear hb hA'))
  go_ret
  obtain ⟨m1, k1⟩ := (HM.out.below HB.out).put_f (fl' := splice fl (addr - F).toNat l) (splice_len (by obtain ⟨a1, a2, a3⟩ := HI.out; omega))
  exact ⟨rfl, m1, (KeepU.below HB.out).trans k1, below_setRow (HB.out.mono (by have := HM.out.lf; have := HM.out.lt; omega)) HM.out.lf _⟩
set_option maxHeartbeats 4000000 in
theorem put_r_calls (base g bf br : Nat) (F R : Int) (fl rl : List Int) (addr : Int) (l : List Int) (A : Option Addr) (c : Nat) (w : World) (hm : MemAt w base g bf br F R fl rl) (hF : MemFit F R fl.length rl.length) (ha0 : 0 ≤ addr) (ha : addr < 4294967296)
    (hC : Kd.C (Kd.int .u8) w A l.length l) (hl : l.length < 4294967296) (h1 : ¬ inBank F fl.length addr l.length) (h2 : inBank R rl.length addr l.length) :
    Calls Try.prog 20 #[.pointer (some ⟨g, 0, none⟩), .int .u32 addr, .slice A l.length c] w (PutTold w base g bf br F R fl (putL R rl addr l) true) := by
  have HP := Aside0.mk (part_calls base g bf br F R fl rl addr l.length w hm hF ha0 ha (by omega))
  have HM := Aside0.mk hm
  have HI := Aside0.mk h2
  have HI0 := Aside0.mk h1
  have HC := Aside0.mk hC
  have HRUN := Aside0.mk (fun (w2 : World) (A' : Option Addr) (c' : Nat) (hb : Below w.heap.size w w2) (hA' : 0 < (l.length : Int) → A' = some ⟨br, (addr - R).toNat, none⟩) => copy_run (p := (addr - R).toNat) (c := c) (c' := c') (A' := A') (hm.below hb).hr (Kd.C_below hC hb) (fun h => hA' (by omega)) (by obtain ⟨a1, a2, a3⟩ := h2; omega))
  clear hm hF hC h1 h2
  go_enter Try.func20, Try.ntmps20
  go_wp2_with (first | (go_at_call 24; refine HP.out.mono ?_; rintro e w2 ⟨hb, (⟨hn, _⟩ | ⟨_, _, A', c', rfl, hA', hc'⟩ | ⟨_, hn, _⟩)⟩; (exact absurd hn HI0.out); (rotate_left; exact absurd HI.out hn); have HB := Aside0.mk hb; have hrun := HRUN.out w2 A' c' hb hA'; clear hb hA'))
  go_ret
  obtain ⟨m1, k1⟩ := (HM.out.below HB.out).put_r (rl' := splice rl (addr - R).toNat l) (splice_len (by obtain ⟨a1, a2, a3⟩ := HI.out; omega))
  exact ⟨rfl, m1, (KeepU.below HB.out).trans k1, below_setRow (HB.out.mono (by have := HM.out.lr; have := HM.out.lt; omega)) HM.out.lr _⟩
set_option maxHeartbeats 4000000 in
theorem put_n_calls (base g bf br : Nat) (F R : Int) (fl rl : List Int) (addr : Int) (n : Nat) (A : Option Addr) (c : Nat) (w : World) (hm : MemAt w base g bf br F R fl rl) (hF : MemFit F R fl.length rl.length) (ha0 : 0 ≤ addr) (ha : addr < 4294967296)
    (hl : n < 4294967296) (h1 : ¬ inBank F fl.length addr n) (h2 : ¬ inBank R rl.length addr n) :
    Calls Try.prog 20 #[.pointer (some ⟨g, 0, none⟩), .int .u32 addr, .slice A n c] w (PutTold w base g bf br F R fl rl (decide (n = 0))) := by
  have HP := Aside0.mk (part_n hm hF ha0 ha (by omega) h1 h2)
  have HM := Aside0.mk hm
  clear hm hF h1 h2
  rcases Nat.eq_zero_or_pos n with rfl | hn
  · go_enter Try.func20, Try.ntmps20
    go_wp2_with (first | (go_at_call 24; refine HP.out.mono ?_; rintro e w2 ⟨rfl, hb⟩; have HB := Aside0.mk hb; clear hb))
    go_ret
    exact ⟨rfl, HM.out.below HB.out, KeepU.below HB.out, HB.out.mono (by have := HM.out.lg; have := HM.out.lt; omega)⟩
  · have hb : (((n : Nat) : Int) == 0) = false := beq_eq_false_iff_ne.mpr (by omega)
    have hb2 : decide (n = 0) = false := decide_eq_false (by omega)
    rw [hb2]
    clear hb2
    go_enter Try.func20, Try.ntmps20
    go_wp2_with (first | (go_at_call 24; refine HP.out.mono ?_; rintro e w2 ⟨rfl, hb⟩; have HB := Aside0.mk hb; clear hb))
    go_ret
    exact ⟨by try rfl, HM.out.below HB.out, KeepU.below HB.out, HB.out.mono (by have := HM.out.lg; have := HM.out.lt; omega)⟩

end Go.Proofs.Ytbbjooaggdgcmaa.PC
