import Derived.Test.YtpeljnnbknnbmaaRuPDx0
import Derived.Test.YtpeljnnbknnbmaaRuN20
import Derived.Outline
import Derived.Test.YtpeljnnbknnbmaaRuN17
import Derived.Test.YtpeljnnbknnbmaaRuN11
import Derived.Test.YtpeljnnbknnbmaaRuPDx13
import Derived.Test.YtpeljnnbknnbmaaRuN42
import Derived.Test.YtpeljnnbknnbmaaRuN28
section
section
section
namespace Go.Proofs.Ytpeljnnbknnbmaa.PD
open Go.RowKit Go.Proofs.YtpeljnnbknnbmaaW.PrintWords Go.Proofs.YtpeljnnbknnbmaaW.PrintLast Go.Proofs.YtpeljnnbknnbmaaW.PrintMore
set_option linter.unusedVariables false
set_option linter.unusedSimpArgs false
theorem memRL_ok {b : List Int} (h : Bytes b) : Bytes (memRL b) ∧ (memRL b).length = 128 := by
  have hl := memB_le b
  have hm : Bytes (memB b) := fun x hx => h x (by unfold memB at hx; split at hx; exact List.mem_of_mem_take hx; exact hx)
  have h0 : Bytes (List.replicate 128 0) := fun x hx => by rw [List.eq_of_mem_replicate hx]; exact ⟨by decide, by decide⟩
  refine ⟨fun x hx => ?_, ?_⟩
  · unfold memRL putL splice at hx
    rcases List.mem_append.1 hx with e | e
    · exact h0 x (List.mem_of_mem_take e)
    · rcases List.mem_append.1 e with e | e
      · exact hm x e
      · exact h0 x (List.mem_of_mem_drop e)
  · unfold memRL putL
    rw [length_splice _ _ _ (by rw [show (2147483648 - 2147483648 : Int).toNat = 0 by rfl, List.length_replicate]; omega), List.length_replicate]
theorem few_some (l : List S49) (h : l.length < 3518437208883) : ∃ r, pintlelaw15_Few.f l = some r ∧ r.length ≤ 60 := by
  unfold pintlelaw15_Few.f
  by_cases h1 : (l.length : Int) > 60
  · rw [if_pos h1, if_pos (by omega)]
    simp only [Option.bind_some]
    rw [if_pos (by rw [List.length_take]; show 0 + min 60 l.length < _; omega)]
    exact ⟨_, rfl, by rw [List.nil_append, List.length_take]; omega⟩
  · rw [if_neg h1]
    simp only [Option.bind_some]
    rw [if_pos (by show 0 + l.length < _; omega)]
    exact ⟨_, rfl, by rw [List.nil_append]; omega⟩
end Go.Proofs.Ytpeljnnbknnbmaa.PD
end
section
namespace Go.Proofs.Ytpeljnnbknnbmaa.PD
open Go.RowKit Go.Proofs.YtpeljnnbknnbmaaW.PrintWords Go.Proofs.YtpeljnnbknnbmaaW.PrintLast Go.Proofs.YtpeljnnbknnbmaaW.PrintMore
set_option linter.unusedVariables false
set_option linter.unusedSimpArgs false
set_option maxRecDepth 100000 in
set_option maxHeartbeats 8000000 in
/-- a program that does not pass is not run -/
theorem run_badI (w : World) (A : Option Addr) (lc : Nat) (l : List S49) (hC : Kd.C k49 w A l.length l) (hlc : l.length ≤ lc) (kc : Nat) (c : Int) (hchk : lir_Check.f kc l = some c) (hc : c ≠ 0) (gm : Nat) (fuel : Int) :
    Calls Try.prog 30 #[.slice A l.length lc, .pointer (some ⟨gm, 0, none⟩), .int .i64 fuel] w fun e w' => e = .returned (.tuple #[.slice none 0 0, .int .i64 (0 : Nat), .int .i64 0, .int .i64 c]) ∧ Below w.heap.size w w' := by
  have HC := Aside0.mk hC
  have HCH := Aside0.mk hchk
  have hb1 : (c != 0) = true := by simpa using hc
  have hb2 : (c == 0) = false := by simpa using hc
  clear hC hchk
  go_enter Try.func30, Try.ntmps30
  go_wp2_with (go_at_call 50; (with_reducible refine (lir_Check.calls kc _ _ l c _ HC.out hlc HCH.out).mono ?_); rintro e w1 ⟨rfl, hb1⟩; have HB1 := Aside0.mk hb1; clear hb1)
  refine bodyPost_ret (results_tmp4 rfl _ _ _) rfl ?_
  exact ⟨rfl, HB1.out⟩

theorem RefAt.keepP {w w' : World} {base g : Nat} {F FS R RS : Int} {L : List S138} (h : RefAt w base g F FS R RS L) (hk : ∀ (k : Nat) (cs : Array Value) (t : TypeId) (fr : Nat × Nat), w.heap[k]? = some (.cells cs t fr) → t = 85 ∨ t = 138 → w'.heap[k]? = some (.cells cs t fr)) : RefAt w' base g F FS R RS L := by
  obtain ⟨A, c, h1, h2, h3⟩ := h
  refine ⟨A, c, hk _ _ _ _ h1 (Or.inl rfl), h2, Kd.R_mono (Kd.R_move (Kd.R_bound h3) (fun k hk2 => ?_)) (fun _ hk => hk.1)⟩
  obtain ⟨_, _, _, q, hq, cells, hc⟩ := hk2
  rw [hc]
  refine hk _ _ _ _ hc (Or.inr ?_)
  simpa [k138, Kd.iso, Kd.pair, Kd.int, Kd.scalar] using hq
theorem RefAt.keepB {w w' : World} {base g br : Nat} {F FS R RS : Int} {L : List S138} (h : RefAt w base g F FS R RS L) (hbr : ∃ cs fr, w.heap[br]? = some (.cells cs 5 fr)) (hk : Keep (· = br) w w') : RefAt w' base g F FS R RS L :=
  h.keepP fun k cs t fr hc ht => (hk.block k (blk_lt hc) (by
    rintro rfl
    obtain ⟨_, _, hbr⟩ := hbr
    rw [hc] at hbr
    injection hbr with hbr
    injection hbr with _ e _
    rcases ht with h | h <;> rw [h] at e <;> exact absurd e (by decide))).trans hc
theorem MemAt.keepQ {w w' : World} {base g bf br : Nat} {F R : Int} {fl rl : List Int} (h : MemAt w base g bf br F R fl rl) (hk : KeepQ w w') : MemAt w' base g bf br F R fl rl :=
  ⟨hk _ _ _ _ h.hg (by decide) (by decide) (by decide), hk _ _ _ _ h.hf (by decide) (by decide) (by decide), hk _ _ _ _ h.hr (by decide) (by decide) (by decide), h.ne, h.lg, h.lf, h.lr⟩
theorem RnAt.keepQ {w w' : World} {g : Nat} {lv ev mv : Value} {at_ : Int} {V : List Int} (h : RnAt w g lv ev mv at_ V) (hk : KeepQ w w') : RnAt w' g lv ev mv at_ V := by
  obtain ⟨C, hC, r⟩ := h
  exact ⟨C, hk _ _ _ _ hC (by decide) (by decide) (by decide), r⟩
theorem few_mem {l r : List S49} (h : pintlelaw15_Few.f l = some r) : ∀ y ∈ r, y ∈ l := by
  unfold pintlelaw15_Few.f at h
  split at h
  · split at h
    · simp only [Option.bind_some] at h
      split at h
      · injection h with h; subst h; intro y hy; rw [List.nil_append] at hy; exact List.mem_of_mem_take hy
      · cases h
    · cases h
  · simp only [Option.bind_some] at h
    split at h
    · injection h with h; subst h; intro y hy; rwa [List.nil_append] at hy
    · cases h
theorem rd_mem49 {l : List S49} {j : Nat} (h : j < l.length) : rd_T49 l (j : Int) ∈ l := by
  unfold rd_T49
  rw [Int.toNat_natCast, List.getD_eq_getElem?_getD, List.getElem?_eq_getElem h]
  exact List.getElem_mem _
theorem part_of {w : World} {g : Nat} {mv : Value} {V : List Int} {st fu tr : Int} (h : RunAt w g mv V st fu tr) : ∃ C fr, w.heap[g]? = some (.cells C 63 fr) ∧ ∀ (j : Nat) v, (V.map (Value.int .u32))[j]? = some v → C[1 + j]? = some v := by
  obtain ⟨C, hC, r⟩ := h
  refine ⟨C, _, hC, fun j v hv => ?_⟩
  have hj : j < 64 := by
    have := (List.getElem?_eq_some_iff.1 hv).1
    rwa [List.length_map, r.len] at this
  rw [r.v j hj, ← hv, List.getElem?_map, List.getElem?_eq_getElem (by rw [r.len]; exact hj)]
  simp [rd, List.getD_eq_getElem?_getD, List.getElem?_eq_getElem (show j < V.length by rw [r.len]; exact hj)]

end Go.Proofs.Ytpeljnnbknnbmaa.PD
end
end
section
namespace Go.Proofs.Ytpeljnnbknnbmaa.PD
open Go.RowKit Go.Proofs.YtpeljnnbknnbmaaW.PrintWords Go.Proofs.YtpeljnnbknnbmaaW.PrintLast Go.Proofs.YtpeljnnbknnbmaaW.PrintMore
set_option linter.unusedVariables false
set_option linter.unusedSimpArgs false
theorem does_all0 {l : List S49} {E fl rl : List Int} (gd : Good l E) (base g gx : Nat) (fuel : Int) (L : List S138) (hB : FourOk L.length fuel) (hf0 : -9223372036854775808 ≤ fuel) (hD : Data fl rl L) (A : Option Addr) (lc : Nat) (hlc : l.length ≤ lc) (hA : 0 < l.length → ∀ a, A = some a → a.block < base)
    (w : World) (hR : RQ w base g gx (List.replicate 64 0) 0 fuel 0 L) (hC : Kd.C k49 w A l.length l) {N : Nat} {t : Int} (hs : Stops l E 4096 2147483648 fl rl fuel.toNat N t) :
    Calls Try.prog 33 #[.pointer (some ⟨g, 0, none⟩), .slice A l.length lc, .int .i64 0, .int .i64 l.length] w fun e w' => e = .returned (.tuple #[]) ∧ KeepQ w w' ∧ Below base w w' ∧ ∃ L2, RQ w' base g gx (fR l E fl rl N).2.1 N fuel t L2 ∧ Data fl (fR l E fl rl N).2.2 L2 ∧ L2.length ≤ L.length + 4 * N + 4 :=
  does_all gd base g gx fuel L hB hf0 hD A lc hlc hA w hR hC hs
theorem same_calls' (w : World) (gv : Nat) (lv ev mv : Value) (at_ : Int) (V : List Int) (hR : RnAt w gv lv ev mv at_ V) (hl : V.length = 64) :
    Calls Try.prog 34 #[.slice (some ⟨gv, 4, none⟩) 64 64, .agg (V.map (Value.int .u32)).toArray] w fun e w' => e = .returned (.bool true) ∧ Below w.heap.size w w' := same_calls w gv lv ev mv at_ V hR hl
theorem RunsSo.at {l : List S49} {fl rl rl' V : List Int} {fuel : Int} {N : Nat} {t : Int} (h : RunsSo l fl rl rl' V fuel N t) (w : World) (A : Option Addr) (lc base gm bf br : Nat) (hC : Kd.C k49 w A l.length l) (hlc : l.length ≤ lc) (hm : MemAt w base gm bf br 4096 2147483648 fl rl) (hA : 0 < l.length → ∀ a, A = some a → a.block ≠ br) :
    Calls Try.prog 30 #[.slice A l.length lc, .pointer (some ⟨gm, 0, none⟩), .int .i64 fuel] w (RunTold w base gm bf br fl rl' V N t) := h w A lc base gm bf br hC hlc hm hA
set_option maxRecDepth 100000 in
set_option maxHeartbeats 16000000 in
theorem runs_calls (A0 : Option Addr) (c0 : Nat) (l0 : List S49) (A1 : Option Addr) (c1 : Nat) (l1 : List Int) (fuel : Int) (w : World) (hC0 : Kd.C k49 w A0 l0.length l0) (hc0 : l0.length ≤ c0) (hC1 : Kd.C (Kd.int .u8) w A1 l1.length l1) (hc1 : l1.length ≤ c1) (hl : l0.length < 3518437208883) (hb1 : Bytes l1) (hI : ∀ y ∈ l0, -2147483648 ≤ y.f4 ∧ y.f4 ≤ 2147483647) (hf0 : -9223372036854775808 ≤ fuel) (hf1 : fuel < 9223372036854775808) :
    Calls Try.prog 8 #[.slice A0 l0.length c0, .slice A1 l1.length c1, .int .i64 fuel] w fun e w' => e = .returned (.bool true) ∧ Below w.heap.size w w' := by
  obtain ⟨l, hfew, hl60⟩ := few_some l0 hl
  have hm1 := memRL_ok hb1
  obtain ⟨fu, hfu⟩ : ∃ fu : Int, fu = if fuel > 400 then 400 else fuel := ⟨_, rfl⟩
  have hfu1 : fu ≤ 400 ∧ -9223372036854775808 ≤ fu := by rw [hfu]; split <;> omega
  obtain ⟨er, hck, hrk, hcase⟩ := checks_same l (by omega) (fun j hj => hI _ (few_mem hfew _ (rd_mem49 hj)))
  have HFW := Aside0.mk hfew
  have HC0 := Aside0.mk hC0
  have HC1 := Aside0.mk hC1
  have HRK := Aside0.mk hrk
  have HL60 := Aside0.mk hl60
  have HFU := Aside0.mk hfu1
  rcases hcase with hbad | ⟨rfl, E, hE, gd⟩
  · have HRUN := Aside0.mk (fun (w : World) (A : Option Addr) (lc gm : Nat) (hC : Kd.C k49 w A l.length l) (hlc : l.length ≤ lc) => run_badI w A lc l hC hlc _ er hck hbad gm fu)
    have hcb : (er != 0) = true := by simpa using hbad
    clear hfew hC0 hC1 hck hrk hm1 hl hb1 hI hl60 hfu1 hbad
    by_cases hbig : fuel > 400
    all_goals
      first | (rw [if_pos hbig] at hfu) | (rw [if_neg hbig] at hfu)
      subst hfu
      first | (have hbd : decide ((400 : Int) < fuel) = true := decide_eq_true hbig) | (have hbd : decide ((400 : Int) < fu) = false := decide_eq_false hbig)
      clear hf0 hf1
      go_enter Try.func8, Try.ntmps8
      go_wp2_with (first
        | (go_at_call 23; (with_reducible refine (pintlelaw15_Few.calls A0 c0 l0 l _ HC0.out hc0 HFW.out).mono ?_); rintro e w1 ⟨v0, rfl, hv, hb1⟩; obtain ⟨A, c, hA, hc, hC⟩ := Kd.R_reads hv; subst hA; have HC := Aside0.mk hC; have HCC := Aside0.mk hc; have HB1 := Aside0.mk hb1; have HLT := Aside0.mk (fun (hl0 : 0 < l.length) (a : Addr) (ha : A = some a) => Kd.C_lt (ha ▸ hC) hl0 (by show 0 < 5; omega)); clear hb1 hv hC hc)
        | (go_at_call 32; (with_reducible refine (memories_calls l1 A1 c1 _ (Kd.C_below HC1.out HB1.out) hc1).mono ?_); rintro e w2 ⟨gm1, bf1, br1, gx1, rfl, hm1, hx1, hb2⟩; have HM1 := Aside0.mk hm1; have HX1 := Aside0.mk hx1; have HB2 := Aside0.mk hb2; have HB := Aside0.mk (Below.refl w2.heap.size w2); clear hm1 hx1 hb2)
        | ((with_reducible refine gate_dst (N := 25) rfl ?_); refine Kd.R_lit k49 _ 49 ?hg (N := 25) ?hd (xs := ([] : List (S49))) (inner := []) (ok := fun _ => True) (okp := fun _ => True) ?hr ?hp (fun _ hk => hk) trivial (Below.refl _ _) (Nat.le_refl _) (by simp) ?_; (case hd => rfl); (case hg => rfl); (case hr => first | (go_simp; done) | (go_simp; rfl)); (case hp => exact (Reps.none _ _)); intro v3 w3 ho3 hb hg_ hnew_; clear hg_ hnew_; have n0_ := Aside0.mk (Kd.R_lower ho3 (below_size HB.out)); have n1_ := Aside0.mk (below_step HB.out hb); clear HB; have HO3 := n0_; have HB := n1_; clear n0_ n1_ hb ho3)
        | ((with_reducible refine gate_builtin (b := .append) (xs := #[.tmp 25, .tmp 26]) rfl ?_); at_builtin; refine Kd.R_append_rows k49 (w0 := w2) w2.heap.size rfl (.tmp 25) (.tmp 26) 26 49 (.agg #[(.int .i64 0), (.int .i64 0), (.int .i64 0), (.int .i64 0), (.int .i32 0)]) 40 rfl Try.underlying26 info49 rfl (by decide) (by omega) v3 ([] : List S49) l _ _ _ (fun _ => True) (fun _ => False) rfl rfl ?aO ?aR (fun _ _ h => h) (fun _ h => h.elim) ?aF ?aB ?aS ?aL ?_; (case aR => exact Kd.C_below HC.out (HB2.out.trans (HB.out.mono HB2.out.size))); (case aB => exact HB.out); (case aF => exact (fun _ _ => trivial)); (case aO => exact HO3.out); (case aS => exact (below_size HB.out)); (case aL => have := HL60.out; simp; omega); intro v4 w4 ho hb hg hat; rw [List.nil_append] at ho; obtain ⟨A4, c4, hA4, hc4, hC4⟩ := Kd.R_reads ho; obtain ⟨inn4, hinn4⟩ := Kd.R_own ho; have HOB := Aside0.mk (fun (a : Addr) (ha : A4 = some a) => own_base hinn4 a.block (by rw [hA4, ha]; rfl)); subst hA4; have HC4 := Aside0.mk hC4; have HCC4 := Aside0.mk hc4; have n0_ := Aside0.mk hb; clear HB; have HB := n0_; clear n0_ ho hb hg hat hC4 hc4 hinn4)
        | (go_at_call 30; (with_reducible refine (HRUN.out _ A4 c4 gm1 HC4.out HCC4.out).mono ?_); rintro e w5 ⟨rfl, hb5⟩; have HB5 := Aside0.mk hb5; clear hb5)
        | (go_at_call 26; (with_reducible refine (pintleref15_Check.calls 20000 A c l er _ (Kd.C_below HC.out (HB2.out.trans ((HB.out.trans (HB5.out.mono HB.out.size)).mono HB2.out.size))) HCC.out HRK.out).mono ?_); rintro e w6 ⟨rfl, hb6⟩; have HB6 := Aside0.mk hb6; clear hb6)
        | (go_at_call 31; (with_reducible refine (lives16_calls _).mono ?_); rintro e w9 ⟨rfl, hb9⟩; have HB9 := Aside0.mk hb9; clear hb9))
      go_ret
      have s1 := HB1.out.size
      have s2 := HB2.out.size
      have s3 := HB.out.size
      have s5 := HB5.out.size
      have s6 := HB6.out.size
      exact ⟨rfl, HB1.out.trans ((HB2.out.trans ((HB.out.trans ((HB5.out.trans ((HB6.out.trans (HB9.out.mono s6)).mono s5)).mono s3)).mono s2)).mono s1)⟩
  · obtain ⟨hm1a, hm1b⟩ := hm1
    have hD := data_mem hb1
    obtain ⟨N, t, hs⟩ := stops_ex gd 4096 2147483648 (fl := List.replicate 256 0) (rl := memRL l1) hD.bf hD.br fu.toNat
    have hNf : N ≤ fu.toNat := hs.1
    have hso := runs_so gd hck hE (fl := List.replicate 256 0) (rl := memRL l1) hD.fit hD.bf (fuel := fu) (by omega) (by omega) hs
    have hVL : (fR l E (List.replicate 256 0) (memRL l1) N).2.1.length = 64 := hs.2.2.1.len
    have hdoes := fun (W : World) (base gx : Nat) (A : Option Addr) (c : Nat) (hA : 0 < l.length → ∀ a, A = some a → a.block < base) (hbw : base ≤ W.heap.size) (hX : RefAt W base gx 4096 256 2147483648 128 (putWrites 2147483648 (memB l1) (memB l1).length)) (hC : Kd.C k49 W A l.length l) (hc : l.length ≤ c) =>
      does_all0 gd base W.heap.size gx fu _ (by unfold FourOk; rw [putWrites_length]; have := memB_le l1; omega) (by omega) hD A c hc hA (W.alloc (.cells (runC0 (.pointer (some ⟨gx, 0, none⟩)) fu) 63))
        ⟨⟨_, heap_alloc_new W _, runC0_ok _ _⟩, hX.below (below_alloc (Below.refl _ _) _), hbw⟩ (Kd.C_below hC (below_alloc (Below.refl _ _) _)) hs
    obtain ⟨VN, hVN⟩ : ∃ VN, VN = (fR l E (List.replicate 256 0) (memRL l1) N).2.1 := ⟨_, rfl⟩
    obtain ⟨RN, hRN⟩ : ∃ RN, RN = (fR l E (List.replicate 256 0) (memRL l1) N).2.2 := ⟨_, rfl⟩
    rw [← hVN, ← hRN] at hso
    rw [← hVN] at hVL
    have HVL := Aside0.mk hVL
    have HINF := Aside0.mk (show (Try.prog.info? 31).map (·.size) = some (VN.map (Value.int .u32)).length by rw [List.length_map, hVL]; kernel_rfl)
    have HNF := Aside0.mk (show (putWrites 2147483648 (memB l1) (memB l1).length).length + 4 * N + 4 < 4611686018427387904 by rw [putWrites_length]; have := memB_le l1; omega)
    have HRUN := Aside0.mk (fun w A lc base gm bf br => hso.at w A lc base gm bf br)
    have HDOES := Aside0.mk hdoes
    rw [← hVN, ← hRN] at HDOES
    clear hfew hC0 hC1 hck hrk hl hb1 hI hl60 hfu1 hs hNf hso hVL hdoes hVN hRN hD hm1a hm1b hE gd
    by_cases hbig : fuel > 400
    all_goals
      first | (rw [if_pos hbig] at hfu) | (rw [if_neg hbig] at hfu)
      subst hfu
      first | (have hbd : decide ((400 : Int) < fuel) = true := decide_eq_true hbig) | (have hbd : decide ((400 : Int) < fu) = false := decide_eq_false hbig)
      clear hf0 hf1
      go_enter Try.func8, Try.ntmps8
      go_wp2_with (first
        | (go_at_call 23; (with_reducible refine (pintlelaw15_Few.calls A0 c0 l0 l _ HC0.out hc0 HFW.out).mono ?_); rintro e w1 ⟨v0, rfl, hv, hb1⟩; obtain ⟨A, c, hA, hc, hC⟩ := Kd.R_reads hv; subst hA; have HC := Aside0.mk hC; have HCC := Aside0.mk hc; have HB1 := Aside0.mk hb1; have HLT := Aside0.mk (fun (hl0 : 0 < l.length) (a : Addr) (ha : A = some a) => Kd.C_lt (ha ▸ hC) hl0 (by show 0 < 5; omega)); clear hb1 hv hC hc)
        | (go_at_call 32; (with_reducible refine (memories_calls l1 A1 c1 _ (Kd.C_below HC1.out HB1.out) hc1).mono ?_); rintro e w2 ⟨gm1, bf1, br1, gx1, rfl, hm1, hx1, hb2⟩; have HM1 := Aside0.mk hm1; have HX1 := Aside0.mk hx1; have HB2 := Aside0.mk hb2; have HB := Aside0.mk (Below.refl w2.heap.size w2); clear hm1 hx1 hb2)
        | ((with_reducible refine gate_dst (N := 25) rfl ?_); refine Kd.R_lit k49 _ 49 ?hg (N := 25) ?hd (xs := ([] : List (S49))) (inner := []) (ok := fun _ => True) (okp := fun _ => True) ?hr ?hp (fun _ hk => hk) trivial (Below.refl _ _) (Nat.le_refl _) (by simp) ?_; (case hd => rfl); (case hg => rfl); (case hr => first | (go_simp; done) | (go_simp; rfl)); (case hp => exact (Reps.none _ _)); intro v3 w3 ho3 hb hg_ hnew_; clear hg_ hnew_; have n0_ := Aside0.mk (Kd.R_lower ho3 (below_size HB.out)); have n1_ := Aside0.mk (below_step HB.out hb); clear HB; have HO3 := n0_; have HB := n1_; clear n0_ n1_ hb ho3)
        | ((with_reducible refine gate_builtin (b := .append) (xs := #[.tmp 25, .tmp 26]) rfl ?_); at_builtin; refine Kd.R_append_rows k49 (w0 := w2) w2.heap.size rfl (.tmp 25) (.tmp 26) 26 49 (.agg #[(.int .i64 0), (.int .i64 0), (.int .i64 0), (.int .i64 0), (.int .i32 0)]) 40 rfl Try.underlying26 info49 rfl (by decide) (by omega) v3 ([] : List S49) l _ _ _ (fun _ => True) (fun _ => False) rfl rfl ?aO ?aR (fun _ _ h => h) (fun _ h => h.elim) ?aF ?aB ?aS ?aL ?_; (case aR => exact Kd.C_below HC.out (HB2.out.trans (HB.out.mono HB2.out.size))); (case aB => exact HB.out); (case aF => exact (fun _ _ => trivial)); (case aO => exact HO3.out); (case aS => exact (below_size HB.out)); (case aL => have := HL60.out; simp; omega); intro v4 w4 ho hb hg hat; rw [List.nil_append] at ho; obtain ⟨A4, c4, hA4, hc4, hC4⟩ := Kd.R_reads ho; obtain ⟨inn4, hinn4⟩ := Kd.R_own ho; have HOB := Aside0.mk (fun (a : Addr) (ha : A4 = some a) => own_base hinn4 a.block (by rw [hA4, ha]; rfl)); subst hA4; have HC4 := Aside0.mk hC4; have HCC4 := Aside0.mk hc4; have n0_ := Aside0.mk hb; clear HB; have HB := n0_; clear n0_ ho hb hg hat hC4 hc4 hinn4)
        | (go_at_call 30; (with_reducible refine (HRUN.out _ A4 c4 w1.heap.size gm1 bf1 br1 HC4.out HCC4.out (MemAt.below HM1.out (HB.out)) (fun _ a ha => by have h1 := HOB.out a ha; have h2 := HM1.out.lt.2.2; omega)).mono ?_); rintro e w5 ⟨g5, lv5, ev5, mv5, at5, hg5, rfl, hr5, hm5, hk5⟩; have HR5 := Aside0.mk hr5; have HM5 := Aside0.mk hm5; have HK5 := Aside0.mk hk5; have HX5 := Aside0.mk (RefAt.keepB (RefAt.below HX1.out HB.out) ⟨_, _, (MemAt.below HM1.out HB.out).hr⟩ hk5); have HB25 := Aside0.mk (Below.trans (HB2.out.trans (HB.out.mono HB2.out.size)) (hk5.below w1.heap.size (below_size (HB2.out.trans (HB.out.mono HB2.out.size))) (fun i hi => by subst hi; exact HM1.out.lr))); clear hr5 hm5 hk5 hg5)
        | (go_at_call 26; (with_reducible refine (pintleref15_Check.calls 20000 A c l 0 _ (Kd.C_below HC.out HB25.out) HCC.out HRK.out).mono ?_); rintro e w6 ⟨rfl, hb6⟩; have HB6 := Aside0.mk hb6; clear hb6)
        | (refine wpList_built rfl 63 _ rfl #[(0, .pointer (some ⟨gx1, 0, none⟩)), (3, .int .i64 _)] rfl _ (run_build63 _ _ _) ?_)
        | (go_at_call 33; (with_reducible refine (HDOES.out w6 w1.heap.size gx1 A c (fun h a ha => HLT.out h a ha) (below_size (HB25.out.trans (HB6.out.mono (below_size HB25.out)))) (RefAt.below HX5.out HB6.out) (Kd.C_below HC.out (HB25.out.trans (HB6.out.mono (below_size HB25.out)))) HCC.out).mono ?_); rintro e w7 ⟨rfl, hkq7, hb7, L7, hr7, hd7, hl7⟩; have HQ7 := Aside0.mk hr7; have HKQ7 := Aside0.mk hkq7; have HB7 := Aside0.mk hb7; have HD7 := Aside0.mk hd7; have HL7 := Aside0.mk hl7; have gs7 := hr7.rn.gst; have gt7 := hr7.rn.gtr; obtain ⟨C7, fr7, hC7, hp7⟩ := part_of hr7.rn; have HC7 := Aside0.mk hC7; have HP7 := Aside0.mk hp7; have HV7 := Aside0.mk ((HR5.out.below HB6.out).below (below_alloc (Below.refl _ _) _) |>.keepQ hkq7); have HM7 := Aside0.mk (((HM5.out.below HB6.out).below (below_alloc (Below.refl _ _) _)).keepQ hkq7); clear hr7 hkq7 hb7 hd7 hl7 hC7 hp7)
        | (refine wpList_load_part (P := Try.prog) rfl 31 _ rfl w6.heap.size 1 rfl 63 C7 (VN.map (Value.int .u32)) fr7 _ HC7.out HP7.out Try.underlying31 rfl HINF.out ?_)
        | (go_at_call 34; (with_reducible refine (same_calls' w7 g5 lv5 ev5 mv5 at5 VN HV7.out HVL.out).mono ?_); rintro e w8 ⟨rfl, hb8⟩; have HB8 := Aside0.mk hb8; have gs8 := (HQ7.out.rn.below hb8).gst; have gt8 := (HQ7.out.rn.below hb8).gtr; clear hb8)
        | (go_at_call 35; (with_reducible refine (bytes_calls _ w1.heap.size w1.heap.size gm1 bf1 br1 gx1 _ _ L7 (HM7.out.below HB8.out) (HQ7.out.mm.below HB8.out) HD7.out (by have := HL7.out; have := HNF.out; omega)).mono ?_); rintro e w10 ⟨rfl, hb10⟩; have HB10 := Aside0.mk hb10; clear hb10)
        | (go_at_call 31; (with_reducible refine (lives16_calls _).mono ?_); rintro e w9 ⟨rfl, hb9⟩; have HB9 := Aside0.mk hb9; clear hb9))
      go_ret
      have s1 := HB1.out.size
      have s2 := HB2.out.size
      have s3 := HB25.out.size
      have s6 := HB6.out.size
      have s7 := HB7.out.size
      have s8 := HB8.out.size
      have s10 := HB10.out.size
      have q6 := HB25.out.trans (HB6.out.mono s3)
      have q7 := (below_alloc q6 (.cells (runC0 (.pointer (some ⟨gx1, 0, none⟩)) _) 63)).trans HB7.out
      have q9 := q7.trans ((HB8.out.trans ((HB10.out.trans (HB9.out.mono s10)).mono s8)).mono q7.size)
      exact ⟨rfl, HB1.out.trans (q9.mono s1)⟩

end Go.Proofs.Ytpeljnnbknnbmaa.PD
end
end
section
-- Written by pr.py, a driver around the kit's printer, for this seat. Not trusted: Lean checks it.
namespace Go.Proofs.Ytpeljnnbknnbmaa.PD
open Go.RowKit Go.Proofs.YtpeljnnbknnbmaaW.PrintWords Go.Proofs.YtpeljnnbknnbmaaW.PrintLast Go.Proofs.YtpeljnnbknnbmaaW.PrintMore
attribute [local go_sem] max2_int min2_int max_two min_two max_three min_three max_four min_four   -- for this text's walks alone
set_option linter.unusedVariables false
set_option linter.unusedSimpArgs false

--BREAK @N@N44
/-! ### pintlelaw16_LirrunRuns: function 8 -/
def pintlelaw16_LirrunRuns.f (l0 : List (S49)) (l1 : List (Int)) (a2 : Int) : Option Bool := if l0.length < 3518437208883 ∧ (∀ x ∈ l1, 0 ≤ x ∧ x < 256) ∧ (∀ y ∈ l0, -2147483648 ≤ y.f4 ∧ y.f4 ≤ 2147483647) ∧ -9223372036854775808 ≤ a2 ∧ a2 < 9223372036854775808 then some true else none
theorem pintlelaw16_LirrunRuns.calls (A0 : Option Addr) (c0 : Nat) (l0 : List (S49)) (A1 : Option Addr) (c1 : Nat) (l1 : List (Int)) (a2 : Int) (r : Bool) (w : World) (hr0 : Kd.C k49 w A0 l0.length l0) (hc0 : l0.length ≤ c0) (hr1 : Kd.C (Kd.int .u8) w A1 l1.length l1) (hc1 : l1.length ≤ c1) (h : pintlelaw16_LirrunRuns.f l0 l1 a2 = some r) :
    Calls Try.prog 8 #[.slice A0 l0.length c0, .slice A1 l1.length c1, .int .i64 a2] w fun e w' => e = .returned (.bool r) ∧ Below w.heap.size w w' := by
  unfold pintlelaw16_LirrunRuns.f at h
  split at h
  case isTrue hb =>
    obtain rfl := Option.some.inj h
    exact runs_calls A0 c0 l0 A1 c1 l1 a2 w hr0 hc0 hr1 hc1 hb.1 hb.2.1 hb.2.2.1 hb.2.2.2.1 hb.2.2.2.2
  case isFalse => exact nomatch h

end Go.Proofs.Ytpeljnnbknnbmaa.PD
end
