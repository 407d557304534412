import Derived.Test.YtpeljnnbknnbmaaOnPDx0
import Derived.Test.YtpeljnnbknnbmaaOnN42
import Derived.Test.YtpeljnnbknnbmaaOnN20
import Derived.Outline
import Derived.Test.YtpeljnnbknnbmaaOnN17
import Derived.Test.YtpeljnnbknnbmaaOnN11
import Derived.Test.YtpeljnnbknnbmaaOnPDx13
import Derived.Test.YtpeljnnbknnbmaaOnN28
section
section
namespace Go.Proofs.Ytpeljnnbknnbmaa.PD
open Go.RowKit Go.Proofs.YtpeljnnbknnbmaaW.PrintWords Go.Proofs.YtpeljnnbknnbmaaW.PrintLast Go.Proofs.YtpeljnnbknnbmaaW.PrintMore
set_option linter.unusedVariables false
set_option linter.unusedSimpArgs false
theorem RefAt.keepP {w w' : World} {base g : Nat} {F FS R RS : Int} {L : List S138} (h : RefAt w base g F FS R RS L) (hk : ∀ (k : Nat) (cs : Array Value) (t : TypeId) (fr : Nat × Nat), w.heap[k]? = some (.cells cs t fr) → t = 85 ∨ t = 138 → w'.heap[k]? = some (.cells cs t fr)) : RefAt w' base g F FS R RS L := by
  obtain ⟨A, c, h1, h2, h3⟩ := h
  refine ⟨A, c, hk _ _ _ _ h1 (Or.inl rfl), h2, Kd.R_mono (Kd.R_move (Kd.R_bound h3) (fun k hk2 => ?_)) (fun _ hk => hk.1)⟩
  obtain ⟨_, _, _, q, hq, cells, hc⟩ := hk2
  rw [hc]
  refine hk _ _ _ _ hc (Or.inr ?_)
  simpa [k138, Kd.iso, Kd.pair, Kd.int, Kd.scalar] using hq
theorem RefAt.keepB {w w' : World} {base g br : Nat} {F FS R RS : Int} {L : List S138} (h : RefAt w base g F FS R RS L) (hbr : ∃ cs fr, w.heap[br]? = some (.cells cs 5 fr)) (hk : Keep (· = br) w w') : RefAt w' base g F FS R RS L :=
  h.keepP fun k cs t fr hc ht => (hk.block k (blk_lt hc) (by
    rintro rfl
    obtain ⟨_, _, hbr⟩ := hbr
    rw [hc] at hbr
    injection hbr with hbr
    injection hbr with _ e _
    rcases ht with h | h <;> rw [h] at e <;> exact absurd e (by decide))).trans hc
theorem MemAt.keepQ {w w' : World} {base g bf br : Nat} {F R : Int} {fl rl : List Int} (h : MemAt w base g bf br F R fl rl) (hk : KeepQ w w') : MemAt w' base g bf br F R fl rl :=
  ⟨hk _ _ _ _ h.hg (by decide) (by decide) (by decide), hk _ _ _ _ h.hf (by decide) (by decide) (by decide), hk _ _ _ _ h.hr (by decide) (by decide) (by decide), h.ne, h.lg, h.lf, h.lr⟩
theorem RnAt.keepQ {w w' : World} {g : Nat} {lv ev mv : Value} {at_ : Int} {V : List Int} (h : RnAt w g lv ev mv at_ V) (hk : KeepQ w w') : RnAt w' g lv ev mv at_ V := by
  obtain ⟨C, hC, r⟩ := h
  exact ⟨C, hk _ _ _ _ hC (by decide) (by decide) (by decide), r⟩
theorem rd_mem49 {l : List S49} {j : Nat} (h : j < l.length) : rd_T49 l (j : Int) ∈ l := by
  unfold rd_T49
  rw [Int.toNat_natCast, List.getD_eq_getElem?_getD, List.getElem?_eq_getElem h]
  exact List.getElem_mem _
theorem part_of {w : World} {g : Nat} {mv : Value} {V : List Int} {st fu tr : Int} (h : RunAt w g mv V st fu tr) : ∃ C fr, w.heap[g]? = some (.cells C 63 fr) ∧ ∀ (j : Nat) v, (V.map (Value.int .u32))[j]? = some v → C[1 + j]? = some v := by
  obtain ⟨C, hC, r⟩ := h
  refine ⟨C, _, hC, fun j v hv => ?_⟩
  have hj : j < 64 := by
    have := (List.getElem?_eq_some_iff.1 hv).1
    rwa [List.length_map, r.len] at this
  rw [r.v j hj, ← hv, List.getElem?_map, List.getElem?_eq_getElem (by rw [r.len]; exact hj)]
  simp [rd, List.getD_eq_getElem?_getD, List.getElem?_eq_getElem (show j < V.length by rw [r.len]; exact hj)]

end Go.Proofs.Ytpeljnnbknnbmaa.PD
end
section
section
namespace Go.Proofs.Ytpeljnnbknnbmaa.PD
open Go.RowKit Go.Proofs.YtpeljnnbknnbmaaW.PrintWords Go.Proofs.YtpeljnnbknnbmaaW.PrintLast Go.Proofs.YtpeljnnbknnbmaaW.PrintMore
set_option linter.unusedVariables false
set_option linter.unusedSimpArgs false
theorem same_calls' (w : World) (gv : Nat) (lv ev mv : Value) (at_ : Int) (V : List Int) (hR : RnAt w gv lv ev mv at_ V) (hl : V.length = 64) :
    Calls Try.prog 34 #[.slice (some ⟨gv, 4, none⟩) 64 64, .agg (V.map (Value.int .u32)).toArray] w fun e w' => e = .returned (.bool true) ∧ Below w.heap.size w w' := same_calls w gv lv ev mv at_ V hR hl
theorem RunsSo.at {l : List S49} {fl rl rl' V : List Int} {fuel : Int} {N : Nat} {t : Int} (h : RunsSo l fl rl rl' V fuel N t) (w : World) (A : Option Addr) (lc base gm bf br : Nat) (hC : Kd.C k49 w A l.length l) (hlc : l.length ≤ lc) (hm : MemAt w base gm bf br 4096 2147483648 fl rl) (hA : 0 < l.length → ∀ a, A = some a → a.block ≠ br) :
    Calls Try.prog 30 #[.slice A l.length lc, .pointer (some ⟨gm, 0, none⟩), .int .i64 fuel] w (RunTold w base gm bf br fl rl' V N t) := h w A lc base gm bf br hC hlc hm hA
end Go.Proofs.Ytpeljnnbknnbmaa.PD
end
section
namespace Go.Proofs.Ytpeljnnbknnbmaa.PD
open Go.RowKit Go.Proofs.YtpeljnnbknnbmaaW.PrintWords Go.Proofs.YtpeljnnbknnbmaaW.PrintLast Go.Proofs.YtpeljnnbknnbmaaW.PrintMore
set_option linter.unusedVariables false
set_option linter.unusedSimpArgs false
def oneL (x : S49) (a b : Int) : List S49 := [⟨1, x.f2, 0, 0, wrap32 a⟩, ⟨1, x.f3, 0, 0, wrap32 b⟩, x]
theorem does_all3 {l : List S49} (h3 : l.length = 3) {E fl rl : List Int} (gd : Good l E) (base g gx : Nat) (fuel : Int) (L : List S138) (hB : FourOk L.length fuel) (hf0 : -9223372036854775808 ≤ fuel) (hD : Data fl rl L) (A : Option Addr) (lc : Nat) (hlc : l.length ≤ lc) (hA : 0 < l.length → ∀ a, A = some a → a.block < base)
    (w : World) (hR : RQ w base g gx (List.replicate 64 0) 0 fuel 0 L) (hC : Kd.C k49 w A l.length l) {N : Nat} {t : Int} (hs : Stops l E 4096 2147483648 fl rl fuel.toNat N t) :
    Calls Try.prog 33 #[.pointer (some ⟨g, 0, none⟩), .slice A l.length lc, .int .i64 0, .int .i64 3] w fun e w' => e = .returned (.tuple #[]) ∧ KeepQ w w' ∧ Below base w w' ∧ ∃ L2, RQ w' base g gx (fR l E fl rl N).2.1 N fuel t L2 ∧ Data fl (fR l E fl rl N).2.2 L2 ∧ L2.length ≤ L.length + 4 * N + 4 := by
  have := does_all gd base g gx fuel L hB hf0 hD A lc hlc hA w hR hC hs
  rw [h3] at this ⊢
  exact this
def oneB : List Int := [1, 2, 3, 200, 255, 128, 127]
theorem oneB_ok : Bytes oneB := by
  intro x hx
  simp [oneB] at hx
  rcases hx with rfl | rfl | rfl | rfl | rfl | rfl | rfl <;> exact ⟨by decide, by decide⟩
set_option maxRecDepth 100000 in
set_option maxHeartbeats 16000000 in
theorem one_calls (x : S49) (a b : Int) (w : World) (ha : 0 ≤ a ∧ a < 4294967296) (hb : 0 ≤ b ∧ b < 4294967296) (hx : -2147483648 ≤ x.f4 ∧ x.f4 ≤ 2147483647) :
    Calls Try.prog 9 #[.agg #[.int .i64 x.f0, .int .i64 x.f1, .int .i64 x.f2, .int .i64 x.f3, .int .i32 x.f4], .int .u32 a, .int .u32 b] w fun e w' => e = .returned (.bool true) ∧ Below w.heap.size w w' := by
  have hw : ∀ n : Int, -2147483648 ≤ wrap32 n ∧ wrap32 n ≤ 2147483647 := fun n => by unfold wrap32; omega
  have hI : ∀ y ∈ oneL x a b, -2147483648 ≤ y.f4 ∧ y.f4 ≤ 2147483647 := by
    intro y hy
    simp only [oneL, List.mem_cons, List.not_mem_nil, or_false] at hy
    rcases hy with rfl | rfl | rfl
    · exact hw a
    · exact hw b
    · exact hx
  have hlen3 : (oneL x a b).length = 3 := rfl
  obtain ⟨er, hck, hrk, hcase⟩ := checks_same (oneL x a b) (by omega) (fun j hj => hI _ (rd_mem49 hj))
  have HRK := Aside0.mk hrk
  rcases hcase with hbad | ⟨rfl, E, hE, gd⟩
  · have hcb : (er != 0) = true := by simpa using hbad
    clear hck hrk hI hbad hw ha hb hx hlen3
    go_enter Try.func9, Try.ntmps9
    go_wp2_with (first
      | ((with_reducible refine gate_dst (N := 26) rfl ?_); refine Kd.R_lit k49 (w0 := w) w.heap.size 49 ?hg (N := 26) ?hd (xs := oneL x a b) (inner := (oneL x a b).flatMap cells49) (ok := fun _ => True) (okp := fun _ => True) ?hr (reps49 _ _ _ _) (fun _ hk => hk) trivial (below_alloc (Below.refl _ _) _) (below_size (below_alloc (Below.refl _ _) _)) (by simp [oneL]) ?_; (case hd => rfl); (case hg => rfl); (case hr => first | (go_simp; done) | (go_simp; exact ⟨rfl, rfl⟩) | (go_simp; rfl)); intro v1 w1 ho hb hg_ hnew_; obtain ⟨A, c, hv0, hc0, hC0⟩ := Kd.R_reads ho; subst hv0; have HC := Aside0.mk hC0; have HCC := Aside0.mk hc0; have HB1 := Aside0.mk hb; have HLT := Aside0.mk (fun (a1 : Addr) (ha1 : A = some a1) => Kd.C_lt (ha1 ▸ hC0) (show 0 < (oneL x a b).length from Nat.succ_pos 2) (by show 0 < 5; omega)); clear ho hb hg_ hnew_ hC0 hc0)
      | (go_at_call 26; (with_reducible refine (pintleref15_Check.calls 20000 A c _ er _ HC.out HCC.out HRK.out).mono ?_); rintro e w2 ⟨rfl, hb2⟩; have HB2 := Aside0.mk hb2; clear hb2)
      | (go_at_call 31; (with_reducible refine (lives16_calls _).mono ?_); rintro e w9 ⟨rfl, hb9⟩; have HB9 := Aside0.mk hb9; clear hb9))
    go_ret
    exact ⟨rfl, HB1.out.trans ((HB2.out.trans (HB9.out.mono HB2.out.size)).mono HB1.out.size)⟩
  · have hD := data_mem oneB_ok
    obtain ⟨N, t, hs⟩ := stops_ex gd 4096 2147483648 (fl := List.replicate 256 0) (rl := memRL oneB) hD.bf hD.br (9 : Int).toNat
    have hNf : N ≤ 9 := hs.1
    have hso := runs_so gd hck hE (fl := List.replicate 256 0) (rl := memRL oneB) hD.fit hD.bf (fuel := 9) (by omega) (by omega) hs
    have hVL : (fR (oneL x a b) E (List.replicate 256 0) (memRL oneB) N).2.1.length = 64 := hs.2.2.1.len
    have hdoes := fun (W : World) (base gx : Nat) (A : Option Addr) (c : Nat) (hA : 0 < (oneL x a b).length → ∀ a1, A = some a1 → a1.block < base) (hbw : base ≤ W.heap.size) (hX : RefAt W base gx 4096 256 2147483648 128 (putWrites 2147483648 (memB oneB) (memB oneB).length)) (hC : Kd.C k49 W A (oneL x a b).length (oneL x a b)) (hc : (oneL x a b).length ≤ c) =>
      does_all3 rfl gd base W.heap.size gx 9 _ (by unfold FourOk; rw [putWrites_length]; have := memB_le oneB; omega) (by omega) hD A c hc hA (W.alloc (.cells (runC0 (.pointer (some ⟨gx, 0, none⟩)) 9) 63))
        ⟨⟨_, heap_alloc_new W _, runC0_ok _ _⟩, hX.below (below_alloc (Below.refl _ _) _), hbw⟩ (Kd.C_below hC (below_alloc (Below.refl _ _) _)) hs
    obtain ⟨VN, hVN⟩ : ∃ VN, VN = (fR (oneL x a b) E (List.replicate 256 0) (memRL oneB) N).2.1 := ⟨_, rfl⟩
    obtain ⟨RN, hRN⟩ : ∃ RN, RN = (fR (oneL x a b) E (List.replicate 256 0) (memRL oneB) N).2.2 := ⟨_, rfl⟩
    rw [← hVN, ← hRN] at hso
    rw [← hVN] at hVL
    have HVL := Aside0.mk hVL
    have HINF := Aside0.mk (show (Try.prog.info? 31).map (·.size) = some (VN.map (Value.int .u32)).length by rw [List.length_map, hVL]; kernel_rfl)
    have HNF := Aside0.mk (show (putWrites 2147483648 (memB oneB) (memB oneB).length).length + 4 * N + 4 < 4611686018427387904 by rw [putWrites_length]; have := memB_le oneB; omega)
    have HRUN := Aside0.mk (fun w A lc base gm bf br => hso.at w A lc base gm bf br)
    have HDOES := Aside0.mk hdoes
    rw [← hVN, ← hRN] at HDOES
    obtain ⟨er, her⟩ : ∃ er : Int, er = 0 := ⟨0, rfl⟩
    rw [← her] at HRK
    clear hck hrk hI hw ha hb hx hlen3 hs hNf hso hVL hdoes hVN hRN hD hE gd
    subst her
    go_enter Try.func9, Try.ntmps9
    go_wp2_with (first
      | ((with_reducible refine gate_dst (N := 26) rfl ?_); refine Kd.R_lit k49 (w0 := w) w.heap.size 49 ?hg (N := 26) ?hd (xs := oneL x a b) (inner := (oneL x a b).flatMap cells49) (ok := fun _ => True) (okp := fun _ => True) ?hr (reps49 _ _ _ _) (fun _ hk => hk) trivial (below_alloc (Below.refl _ _) _) (below_size (below_alloc (Below.refl _ _) _)) (by simp [oneL]) ?_; (case hd => rfl); (case hg => rfl); (case hr => first | (go_simp; done) | (go_simp; exact ⟨rfl, rfl⟩) | (go_simp; rfl)); intro v1 w1 ho hb hg_ hnew_; obtain ⟨A, c, hv0, hc0, hC0⟩ := Kd.R_reads ho; subst hv0; have HC := Aside0.mk hC0; have HCC := Aside0.mk hc0; have HB1 := Aside0.mk hb; have HLT := Aside0.mk (fun (a1 : Addr) (ha1 : A = some a1) => Kd.C_lt (ha1 ▸ hC0) (show 0 < (oneL x a b).length from Nat.succ_pos 2) (by show 0 < 5; omega)); clear ho hb hg_ hnew_ hC0 hc0)
      | (go_at_call 26; (with_reducible refine (pintleref15_Check.calls 20000 A c _ 0 _ HC.out HCC.out HRK.out).mono ?_); rintro e w2 ⟨rfl, hb2⟩; have HB2 := Aside0.mk hb2; clear hb2)
      | ((with_reducible refine gate_dst (N := 32) rfl ?_); refine Kd.R_lit (Kd.int .u8) (w0 := w2) w2.heap.size 5 ?hg (N := 32) ?hd (xs := oneB) (inner := [.int .u8 1, .int .u8 2, .int .u8 3, .int .u8 200, .int .u8 255, .int .u8 128, .int .u8 127]) (ok := fun _ => True) (okp := fun _ => True) ?hr ?hp (fun _ hk => hk) trivial (Below.refl _ _) (Nat.le_refl _) (by simp [oneB]) ?_; (case hd => rfl); (case hg => rfl); (case hr => first | (go_simp; done) | (go_simp; exact ⟨rfl, rfl⟩) | (go_simp; rfl)); (case hp => exact (Reps.one (show Kd.M (Kd.int .u8) _ _ _ 1 [.int .u8 1] from rfl) (Reps.one (show Kd.M (Kd.int .u8) _ _ _ 2 [.int .u8 2] from rfl) (Reps.one (show Kd.M (Kd.int .u8) _ _ _ 3 [.int .u8 3] from rfl) (Reps.one (show Kd.M (Kd.int .u8) _ _ _ 200 [.int .u8 200] from rfl) (Reps.one (show Kd.M (Kd.int .u8) _ _ _ 255 [.int .u8 255] from rfl) (Reps.one (show Kd.M (Kd.int .u8) _ _ _ 128 [.int .u8 128] from rfl) (Reps.one (show Kd.M (Kd.int .u8) _ _ _ 127 [.int .u8 127] from rfl) (Reps.none _ _))))))))); intro v3 w3 ho hb hg_ hnew_; obtain ⟨A3, c3, hv0, hc0, hC0⟩ := Kd.R_reads ho; subst hv0; have HC3 := Aside0.mk hC0; have HCC3 := Aside0.mk hc0; have HB3 := Aside0.mk hb; clear ho hb hg_ hnew_ hC0 hc0)
      | (go_at_call 32; (with_reducible refine (memories_calls oneB A3 c3 _ HC3.out HCC3.out).mono ?_); rintro e w4 ⟨gm1, bf1, br1, gx1, rfl, hm1, hx1, hb4⟩; have HM1 := Aside0.mk hm1; have HX1 := Aside0.mk hx1; have HB4 := Aside0.mk hb4; have HB14 := Aside0.mk (HB2.out.trans ((HB3.out.trans (hb4.mono HB3.out.size)).mono HB2.out.size)); clear hm1 hx1 hb4)
      | (go_at_call 30; (with_reducible refine (HRUN.out _ A c w3.heap.size gm1 bf1 br1 (Kd.C_below HC.out HB14.out) HCC.out HM1.out (fun _ a1 ha1 => by have h1 := HLT.out a1 ha1; have h2 := HM1.out.lr; have h3 := HB2.out.size; have h4 := HB3.out.size; omega)).mono ?_); rintro e w5 ⟨g5, lv5, ev5, mv5, at5, hg5, rfl, hr5, hm5, hk5⟩; have HR5 := Aside0.mk hr5; have HM5 := Aside0.mk hm5; have HX5 := Aside0.mk (RefAt.keepB HX1.out ⟨_, _, HM1.out.hr⟩ hk5); have HB35 := Aside0.mk (HB4.out.trans (hk5.below w3.heap.size HB4.out.size (fun i hi => by subst hi; exact HM1.out.lr))); clear hr5 hm5 hk5 hg5)
      | (refine wpList_built rfl 63 _ rfl #[(0, .pointer (some ⟨gx1, 0, none⟩)), (3, .int .i64 9)] rfl _ (run_build63 _ _ _) ?_)
      | (go_at_call 33; (with_reducible refine (HDOES.out w5 w3.heap.size gx1 A c (fun _ a1 ha1 => by have h1 := HLT.out a1 ha1; have h3 := HB2.out.size; have h4 := HB3.out.size; omega) (below_size HB35.out) HX5.out (Kd.C_below HC.out (HB2.out.trans ((HB3.out.trans (HB35.out.mono HB3.out.size)).mono HB2.out.size))) HCC.out).mono ?_); rintro e w7 ⟨rfl, hkq7, hb7, L7, hr7, hd7, hl7⟩; have HQ7 := Aside0.mk hr7; have HKQ7 := Aside0.mk hkq7; have HB7 := Aside0.mk hb7; have HD7 := Aside0.mk hd7; have HL7 := Aside0.mk hl7; have gs7 := hr7.rn.gst; have gt7 := hr7.rn.gtr; obtain ⟨C7, fr7, hC7, hp7⟩ := part_of hr7.rn; have HC7 := Aside0.mk hC7; have HP7 := Aside0.mk hp7; have HV7 := Aside0.mk (HR5.out.below (below_alloc (Below.refl _ _) _) |>.keepQ hkq7); have HM7 := Aside0.mk ((HM5.out.below (below_alloc (Below.refl _ _) _)).keepQ hkq7); clear hr7 hkq7 hb7 hd7 hl7 hC7 hp7)
      | (refine wpList_load_part (P := Try.prog) rfl 31 _ rfl w5.heap.size 1 rfl 63 C7 (VN.map (Value.int .u32)) fr7 _ HC7.out HP7.out Try.underlying31 rfl HINF.out ?_)
      | (go_at_call 34; (with_reducible refine (same_calls' w7 g5 lv5 ev5 mv5 at5 VN HV7.out HVL.out).mono ?_); rintro e w8 ⟨rfl, hb8⟩; have HB8 := Aside0.mk hb8; have gs8 := (HQ7.out.rn.below hb8).gst; have gt8 := (HQ7.out.rn.below hb8).gtr; clear hb8)
      | (go_at_call 35; (with_reducible refine (bytes_calls _ w3.heap.size w3.heap.size gm1 bf1 br1 gx1 _ _ L7 (HM7.out.below HB8.out) (HQ7.out.mm.below HB8.out) HD7.out (by have := HL7.out; have := HNF.out; omega)).mono ?_); rintro e w10 ⟨rfl, hb10⟩; have HB10 := Aside0.mk hb10; clear hb10)
      | (go_at_call 31; (with_reducible refine (lives16_calls _).mono ?_); rintro e w9 ⟨rfl, hb9⟩; have HB9 := Aside0.mk hb9; clear hb9))
    go_ret
    have s1 := HB1.out.size
    have s2 := HB2.out.size
    have s3 := HB3.out.size
    have s8 := HB8.out.size
    have s10 := HB10.out.size
    have q7 := (below_alloc HB35.out (.cells (runC0 (.pointer (some ⟨gx1, 0, none⟩)) 9) 63)).trans HB7.out
    have q9 := q7.trans ((HB8.out.trans ((HB10.out.trans (HB9.out.mono s10)).mono s8)).mono q7.size)
    exact ⟨rfl, HB1.out.trans ((HB2.out.trans ((HB3.out.trans (q9.mono s3)).mono s2)).mono s1)⟩

end Go.Proofs.Ytpeljnnbknnbmaa.PD
end
end
end
section
-- Written by pr.py, a driver around the kit's printer, for this seat. Not trusted: Lean checks it.
namespace Go.Proofs.Ytpeljnnbknnbmaa.PD
open Go.RowKit Go.Proofs.YtpeljnnbknnbmaaW.PrintWords Go.Proofs.YtpeljnnbknnbmaaW.PrintLast Go.Proofs.YtpeljnnbknnbmaaW.PrintMore
attribute [local go_sem] max2_int min2_int max_two min_two max_three min_three max_four min_four   -- for this text's walks alone
set_option linter.unusedVariables false
set_option linter.unusedSimpArgs false

--BREAK @N@N45
/-! ### pintlelaw16_LirrunOne: function 9 -/
def pintlelaw16_LirrunOne.f (o d a b i x y : Int) : Option Bool := if (-2147483648 ≤ i ∧ i ≤ 2147483647) ∧ (0 ≤ x ∧ x < 4294967296) ∧ (0 ≤ y ∧ y < 4294967296) then some true else none
theorem pintlelaw16_LirrunOne.calls (o d a b i x y : Int) (r : Bool) (w : World) (h : pintlelaw16_LirrunOne.f o d a b i x y = some r) :
    Calls Try.prog 9 #[.agg #[.int .i64 o, .int .i64 d, .int .i64 a, .int .i64 b, .int .i32 i], .int .u32 x, .int .u32 y] w fun e w' => e = .returned (.bool r) ∧ Below w.heap.size w w' := by
  unfold pintlelaw16_LirrunOne.f at h
  split at h
  case isTrue hb =>
    obtain rfl := Option.some.inj h
    exact one_calls ⟨o, d, a, b, i⟩ x y w hb.2.1 hb.2.2 hb.1
  case isFalse => exact nomatch h

end Go.Proofs.Ytpeljnnbknnbmaa.PD
end
