-- Written by pr.py, a driver around the kit's printer, for this seat. Not trusted: Lean checks it.
import Derived.Test.YtbbjooaggdgcmaaPCx0
import Derived.Test.YtbbjooaggdgcmaaPCx1
import Derived.Test.YtbbjooaggdgcmaaPCx3
import Derived.Test.YtbbjooaggdgcmaaPCx4
import Derived.Test.YtbbjooaggdgcmaaPCx6
import Derived.Test.YtbbjooaggdgcmaaPCx7
import Derived.Test.YtbbjooaggdgcmaaPCx9
import Derived.Test.YtbbjooaggdgcmaaPCx11
import Derived.Outline
import Derived.Deep.RegionHeld3
namespace Go.Proofs.Ytbbjooaggdgcmaa.PC
open Go.RowKit Go.Proofs.YtbbjooaggdgcmaaW.PrintWords Go.Proofs.YtbbjooaggdgcmaaW.PrintLast Go.Proofs.YtbbjooaggdgcmaaW.PrintMore
attribute [local go_sem] max2_int min2_int max_two min_two max_three min_three max_four min_four   -- for this text's walks alone
set_option linter.unusedVariables false
set_option linter.unusedSimpArgs false

--BREAK Derived.Outline,Derived.Deep.RegionHeld3
/-! ### pintlelaw05_MemBounds: function 3 -/
/-! which targets can be -/
theorem u64_mod (n : Int) : IntKind.u64.wrap n = n % 18446744073709551616 := by simp [IntKind.wrap, IntKind.bits, IntKind.signed]
theorem can_eq {F FS R RS : Int} (hF0 : 0 ≤ F ∧ F < 4294967296) (hS0 : 0 ≤ FS ∧ FS < 4294967296) (hR0 : 0 ≤ R ∧ R < 4294967296) (hT0 : 0 ≤ RS ∧ RS < 4294967296) : mem_can.f F FS R RS = pintleref05_Can.f F FS R RS := by
  have e1 : mem_fits.f F FS = pintleref05_one.f F FS := by
    unfold mem_fits.f pintleref05_one.f
    rw [u64_mod, u64_mod, u64_mod]
    have : (F % 18446744073709551616 + FS % 18446744073709551616) % 18446744073709551616 = wrap64 (wrap64 F + wrap64 FS) := by unfold wrap64; omega
    rw [this]
  have e2 : mem_fits.f R RS = pintleref05_one.f R RS := by
    unfold mem_fits.f pintleref05_one.f
    rw [u64_mod, u64_mod, u64_mod]
    have : (R % 18446744073709551616 + RS % 18446744073709551616) % 18446744073709551616 = wrap64 (wrap64 R + wrap64 RS) := by unfold wrap64; omega
    rw [this]
  unfold mem_can.f pintleref05_Can.f mem_apart.f
  rw [e1, e2]
  have a1 : IntKind.u64.wrap (IntKind.u64.wrap F + IntKind.u64.wrap FS) = wrap64 (wrap64 F + wrap64 FS) := by rw [u64_mod, u64_mod, u64_mod]; unfold wrap64; omega
  have a2 : IntKind.u64.wrap (IntKind.u64.wrap R + IntKind.u64.wrap RS) = wrap64 (wrap64 R + wrap64 RS) := by rw [u64_mod, u64_mod, u64_mod]; unfold wrap64; omega
  have a3 : IntKind.u64.wrap R = wrap64 R := by rw [u64_mod]; unfold wrap64; omega
  have a4 : IntKind.u64.wrap F = wrap64 F := by rw [u64_mod]; unfold wrap64; omega
  rw [a1, a2, a3, a4]
  congr 1
  funext t
  split
  · congr 1
    funext t
    split
    · split <;> rfl
    · rfl
  · rfl
theorem can_fit {F FS R RS : Int} (hF0 : 0 ≤ F ∧ F < 4294967296) (hS0 : 0 ≤ FS ∧ FS < 4294967296) (hR0 : 0 ≤ R ∧ R < 4294967296) (hT0 : 0 ≤ RS ∧ RS < 4294967296) (h : mem_can.f F FS R RS = some true) :
    MemFit F R FS.toNat RS.toNat := by
  unfold mem_can.f mem_fits.f mem_apart.f at h
  simp only [u64_mod] at h
  by_cases h1 : FS ≥ 4
  · by_cases h2 : FS ≤ 1048576
    · by_cases h3 : Int.tmod F 4 = 0
      · by_cases h4 : Int.tmod FS 4 = 0
        · by_cases h5 : RS ≥ 4
          · by_cases h6 : RS ≤ 1048576
            · by_cases h7 : Int.tmod R 4 = 0
              · by_cases h8 : Int.tmod RS 4 = 0
                · simp only [if_pos h1, if_pos h2, if_pos h3, if_pos h4, if_pos h5, if_pos h6, if_pos h7, if_pos h8, Option.bind_some, decide_eq_true_eq] at h
                  split at h
                  · split at h
                    · constructor <;> first | omega | (split at h <;> first | (simp at h; omega) | omega)
                    · simp at h
                  · simp at h
                · simp [h8, h1, h2, h3, h4, h5, h6, h7] at h
              · simp [h7, h1, h2, h3, h4, h5, h6] at h
            · simp [h6, h1, h2, h3, h4, h5] at h
          · simp [h5, h1, h2, h3, h4] at h
        · simp [h4, h1, h2, h3] at h
      · simp [h3, h1, h2] at h
    · simp [h2, h1] at h
  · simp [h1] at h
theorem can_some (F FS R RS : Int) : ∃ b, mem_can.f F FS R RS = some b := by
  have hf : ∀ a b, ∃ r, mem_fits.f a b = some r := fun a b => by
    unfold mem_fits.f
    repeat' split
    all_goals exact ⟨_, rfl⟩
  unfold mem_can.f mem_apart.f
  obtain ⟨b1, h1⟩ := hf F FS
  obtain ⟨b2, h2⟩ := hf R RS
  rw [h1, h2]
  simp only [Option.bind_some]
  repeat' split
  all_goals exact ⟨_, rfl⟩

theorem RefAt.keep {w w' : World} {base g br : Nat} {F FS R RS : Int} {L : List S62} {cs : Array Value} (h : RefAt w base g F FS R RS L) (hk : KeepBut w w' br none) (hbr : w.heap[br]? = some (.cells cs 5 (0, 0))) : RefAt w' base g F FS R RS L := by
  obtain ⟨A, c, h1, h2, h3⟩ := h
  have hne : g ≠ br := by
    rintro rfl
    rw [h1] at hbr
    injection hbr with hbr
    injection hbr with _ h _
    exact absurd h (by decide)
  exact ⟨A, c, (hk.2 g (blk_lt h1) hne (by simp)).trans h1, h2, Kd.R_mono (Kd.R_step (Kd.R_types h3 hbr (by decide)) (fun k hk1 hlt => hk.2 k hlt hk1.2 (by simp))) (fun _ hk => hk.1)⟩
theorem MemAt.keepT {w w' : World} {base g bf br : Nat} {F R : Int} {fl rl : List Int} (h : MemAt w base g bf br F R fl rl) (hk : KeepT w w') : MemAt w' base g bf br F R fl rl :=
  ⟨hk _ _ _ _ h.hg (by decide) (by decide), hk _ _ _ _ h.hf (by decide) (by decide), hk _ _ _ _ h.hr (by decide) (by decide), h.ne, h.lg, h.lf, h.lr⟩
theorem MemAt.lower {w : World} {base base' g bf br : Nat} {F R : Int} {fl rl : List Int} (h : MemAt w base g bf br F R fl rl) (hb : base' ≤ base) : MemAt w base' g bf br F R fl rl :=
  ⟨h.hg, h.hf, h.hr, h.ne, Nat.le_trans hb h.lg, Nat.le_trans hb h.lf, Nat.le_trans hb h.lr⟩
theorem set_zero (n j : Nat) : (List.replicate n (0 : Int)).set j 0 = List.replicate n 0 := by
  apply List.ext_getElem
  · simp
  · intro i h1 h2
    simp [List.getElem_set]
theorem setBytes_zero (n p i : Nat) : setBytes (List.replicate n 0) p 0 i = List.replicate n 0 := by
  induction i with
  | zero => rfl
  | succ i ih =>
    unfold setBytes
    rw [ih]
    have : byteOf 0 i = 0 := by unfold byteOf; simp
    rw [this, set_zero]
theorem storeL_zero (R : Int) (n : Nat) (at_ size : Int) : storeL R (List.replicate n 0) at_ size 0 = List.replicate n 0 := by
  unfold storeL
  split
  · exact setBytes_zero _ _ _
  · rfl
theorem numL_zero (l : List Int) (h : ∀ x ∈ l, x = 0) : numL l = 0 := by
  induction l with
  | nil => rfl
  | cons a l ih =>
    unfold numL
    rw [ih (fun x hx => h x (List.mem_cons_of_mem _ hx)), h a List.mem_cons_self]
    rfl
theorem bytesAt_zero (F : Int) (n : Nat) (at_ : Int) (m : Nat) : numL (bytesAt F (List.replicate n 0) at_ m) = 0 :=
  numL_zero _ (fun x hx => by
    unfold bytesAt at hx
    exact List.eq_of_mem_replicate (List.mem_of_mem_drop (List.mem_of_mem_take hx)))
theorem inR_bank {base : Int} {n : Nat} {at_ cnt : Int} : inR base n at_ cnt = decide (inBank base n at_ cnt) := by
  unfold inR inBank
  by_cases h1 : 0 ≤ cnt
  · by_cases h2 : base ≤ at_
    · simp [h1, h2]; omega
    · simp [h1, h2]
  · simp [h1]
theorem load_zero_v (F R : Int) (nf nr : Nat) (at_ size : Int) : (loadV F R (List.replicate nf 0) (List.replicate nr 0) at_ size).1 = 0 := by
  unfold loadV
  split
  · rfl
  · split
    · rfl
    · split
      · exact bytesAt_zero _ _ _ _
      · split
        · exact bytesAt_zero _ _ _ _
        · rfl
theorem load_trap (F R : Int) (fl rl : List Int) (L : List S62) (at_ size : Int) : (loadV F R fl rl at_ size).2 = (refLoadV F fl.length R rl.length L at_ size).2 := by
  unfold loadV refLoadV hasR
  rw [inR_bank, inR_bank]
  by_cases h1 : sizedP size <;> by_cases h2 : at_ % size = 0 <;> by_cases h3 : inBank F fl.length at_ size <;> by_cases h4 : inBank R rl.length at_ size <;> simp [h1, h2, h3, h4]
theorem store_trap (R : Int) (nr : Nat) (at_ size : Int) : storeT R nr at_ size = refStoreT R nr at_ size := by
  unfold storeT refStoreT
  rw [inR_bank]
  simp
structure Bnd (w W : World) (g bf br gx bl : Nat) (F R : Int) (nf nr : Nat) (cs : Array Value) (n : Nat) : Prop where
  m : MemAt W w.heap.size g bf br F R (List.replicate nf 0) (List.replicate nr 0)
  x : ∃ L : List S62, L.length ≤ n ∧ RefAt W w.heap.size gx F nf R nr L
  l : W.heap[bl]? = some (.cells cs 22 (0, 0))
  b : Below w.heap.size w W
theorem Bnd.below {w W W' : World} {g bf br gx bl : Nat} {F R : Int} {nf nr : Nat} {cs : Array Value} {n : Nat} (h : Bnd w W g bf br gx bl F R nf nr cs n) (hb : Below W.heap.size W W') : Bnd w W' g bf br gx bl F R nf nr cs n := by
  obtain ⟨h1, ⟨L, h2, h3⟩, h4, h5⟩ := h
  exact ⟨h1.below hb, ⟨L, h2, h3.below hb⟩, (hb.block _ (blk_lt h4)).trans h4, h5.trans (hb.mono h5.size)⟩
theorem Bnd.load {w W : World} {g bf br gx bl : Nat} {F R : Int} {nf nr : Nat} {cs : Array Value} {n : Nat} (h : Bnd w W g bf br gx bl F R nf nr cs n) (hf : MemFit F R nf nr) (a s : Int) (ha : 0 ≤ a ∧ a < 4294967296) (hs : s ≤ 9223372036854775807) (T : Int) (hT : (loadV F R (List.replicate nf 0) (List.replicate nr 0) a s).2 = T) :
    Calls Try.prog 10 #[.pointer (some ⟨g, 0, none⟩), .int .u32 a, .int .i64 s] W fun e W' => e = .returned (.tuple #[.int .u32 0, .int .i64 T]) ∧ Bnd w W' g bf br gx bl F R nf nr cs n := by
  refine (load_calls w.heap.size g bf br F R _ _ a s W h.m (by rw [List.length_replicate, List.length_replicate]; exact hf) (rep_bytes _) (rep_bytes _) ha.1 ha.2 hs).mono fun e W' hh => ?_
  rw [load_zero_v, hT] at hh
  exact ⟨hh.1, h.below hh.2⟩
theorem Bnd.refload {w W : World} {g bf br gx bl : Nat} {F R : Int} {nf nr : Nat} {cs : Array Value} {n : Nat} (h : Bnd w W g bf br gx bl F R nf nr cs n) (hn : n < 4294967296) (a s : Int) (hf : Fits32 F nf R nr a) (T : Int) (hT : (loadV F R (List.replicate nf 0) (List.replicate nr 0) a s).2 = T) :
    Calls Try.prog 11 #[.pointer (some ⟨gx, 0, none⟩), .int .u32 a, .int .i64 s] W fun e W' => (∃ y, e = .returned (.tuple #[.int .u32 y, .int .i64 T])) ∧ Bnd w W' g bf br gx bl F R nf nr cs n := by
  obtain ⟨L, hl, hx⟩ := h.x
  refine (refload_calls w.heap.size gx F nf R nr a s L W hx (by omega) hf).mono fun e W' hh => ?_
  have ht := load_trap F R (List.replicate nf 0) (List.replicate nr 0) L a s
  rw [List.length_replicate, List.length_replicate] at ht
  exact ⟨⟨_, by rw [hh.1, ← ht, hT]⟩, h.below hh.2.below⟩
theorem Bnd.store {w W : World} {g bf br gx bl : Nat} {F R : Int} {nf nr : Nat} {cs : Array Value} {n : Nat} (h : Bnd w W g bf br gx bl F R nf nr cs n) (hf : MemFit F R nf nr) (a s : Int) (ha : 0 ≤ a ∧ a < 4294967296) (hs : s ≤ 9223372036854775807) (T : Int) (hT : storeT R nr a s = T) :
    Calls Try.prog 12 #[.pointer (some ⟨g, 0, none⟩), .int .u32 a, .int .i64 s, .int .u32 0] W fun e W' => e = .returned (.int .i64 T) ∧ Bnd w W' g bf br gx bl F R nf nr cs n := by
  refine (store_calls w.heap.size g bf br F R _ _ a s 0 W h.m (by rw [List.length_replicate, List.length_replicate]; exact hf) ha.1 ha.2 (by decide) (by decide) hs).mono fun e W' hh => ?_
  obtain ⟨h1, h2, h3, h4⟩ := hh
  rw [storeL_zero] at h2
  rw [List.length_replicate, hT] at h1
  obtain ⟨L, hl, hx⟩ := h.x
  have hne : bl ≠ br := by
    rintro rfl
    have e1 := h.l
    rw [h.m.hr] at e1
    injection e1 with e1
    injection e1 with _ e2 _
    exact absurd e2 (by decide)
  exact ⟨h1, h2, ⟨L, hl, hx.keep h3 h.m.hr⟩, (h3.2 bl (blk_lt h.l) hne (by simp)).trans h.l, h.b.trans h4⟩
theorem Bnd.refstore {w W : World} {g bf br gx bl : Nat} {F R : Int} {nf nr : Nat} {cs : Array Value} {n : Nat} (h : Bnd w W g bf br gx bl F R nf nr cs n) (hn : n < 4294967296) (a s : Int) (hf : Fits32 F nf R nr a) (T : Int) (hT : storeT R nr a s = T) :
    Calls Try.prog 13 #[.pointer (some ⟨gx, 0, none⟩), .int .u32 a, .int .i64 s, .int .u32 0] W fun e W' => e = .returned (.int .i64 T) ∧ Bnd w W' g bf br gx bl F R nf nr cs (n + 4) := by
  obtain ⟨L, hl, hx⟩ := h.x
  refine (refstore_calls w.heap.size gx F nf R nr a s 0 L W hx h.b.size hf (by decide) (by omega)).mono fun e W' hh => ?_
  obtain ⟨h1, h2, h3, h4⟩ := hh
  refine ⟨by rw [h1, ← store_trap, hT], h.m.keepT h3, ⟨_, ?_, h2⟩, h3 _ _ _ _ h.l (by decide) (by decide), h.b.trans h4⟩
  split
  · rename_i h0
    have hs : sizedP s := by
      by_cases hs : sizedP s
      · exact hs
      · unfold refStoreT at h0
        rw [if_pos (by simpa using hs)] at h0
        exact absurd h0 (by decide)
    rw [List.length_append, refWrites_length]
    unfold sizedP at hs
    omega
  · omega
set_option maxHeartbeats 4000000 in
theorem bounds_calls (F FS R RS by_ : Int) (w : World) (hF0 : 0 ≤ F ∧ F < 4294967296) (hS0 : 0 ≤ FS ∧ FS < 4294967296) (hR0 : 0 ≤ R ∧ R < 4294967296) (hT0 : 0 ≤ RS ∧ RS < 4294967296) (hby : 0 ≤ by_ ∧ by_ < 256) :
    Calls Try.prog 3 #[.agg #[.int .u32 F, .int .u32 FS, .int .u32 R, .int .u32 RS], .int .u8 by_] w fun e w' => e = .returned (.bool true) ∧ Below w.heap.size w w' := by
  obtain ⟨b, hb⟩ := can_some F FS R RS
  have he := (can_eq hF0 hS0 hR0 hT0).symm.trans hb
  cases b
  · have H2 := Aside0.mk he
    clear hb he hF0 hS0 hR0 hT0 hby
    go_enter Try.func3, Try.ntmps3
    go_wp2_with (first
      | (go_at_call 7; refine (pintleref05_Can.calls F FS R RS false _ H2.out).mono ?_; rintro e w2 ⟨rfl, hb2⟩; have HB2 := Aside0.mk hb2; clear hb2)
      | (go_at_call 8; refine (lives_any _).mono ?_; rintro e w4 ⟨rfl, hb4⟩; have HB4 := Aside0.mk hb4; clear hb4))
    go_ret
    have z1 := (Below.alloc (Below.refl w.heap.size w) (Nat.le_refl _) (.cells #[.int .u32 F, .int .u32 FS, .int .u32 R, .int .u32 RS] 24)).trans (HB2.out.mono (by simp))
    exact ⟨rfl, z1.trans (HB4.out.mono z1.size)⟩
  · have hfit := can_fit hF0 hS0 hR0 hT0 hb
    obtain ⟨nf, rfl⟩ : ∃ nf : Nat, FS = (nf : Int) := ⟨FS.toNat, by omega⟩
    obtain ⟨nr, rfl⟩ : ∃ nr : Nat, RS = (nr : Int) := ⟨RS.toNat, by omega⟩
    rw [Int.toNat_natCast, Int.toNat_natCast] at hfit
    have HFIT := Aside0.mk hfit
    have HN := Aside0.mk (fun W => new_yes F R nf nr W hb hfit.nf1 hfit.nr1)
    have H2 := Aside0.mk he
    have HBY := Aside0.mk hby
    have HF32 := Aside0.mk (fun a (h : 0 ≤ a ∧ a < 4294967296) => (⟨hF0, hS0, hR0, hT0, h⟩ : Fits32 F nf R nr a))
    clear hb he hF0 hS0 hR0 hT0 hfit hby
    go_enter Try.func3, Try.ntmps3
    go_wp2_with (first
      | (go_at_call 7; refine (pintleref05_Can.calls F nf R nr true _ H2.out).mono ?_; rintro e w1 ⟨rfl, hb1⟩; have hblk := (hb1.block _ (by simp)).trans (heap_alloc_new w _); have HBLK := Aside0.mk hblk; have q0 := blk_cell hblk 0; have q1 := blk_cell hblk 1; have q2 := blk_cell hblk 2; have q3 := blk_cell hblk 3; have HB1 := Aside0.mk hb1; clear hb1 hblk)
      | (go_at_call 9; refine (HN.out _).mono ?_; rintro e w2 ⟨g, bf, br, rfl, hm2, hb2⟩; have hblk := (hb2.block _ (blk_lt HBLK.out)).trans HBLK.out; have hblk3 := blk_alloc hblk (.cells #[.int .u32 F, .int .u32 nf, .int .u32 R, .int .u32 nr, .slice none 0 0] 34); have r0 := blk_cell hblk3 0; have r1 := blk_cell hblk3 1; have r2 := blk_cell hblk3 2; have r3 := blk_cell hblk3 3; have s0 := blk_cell hblk 0; have s1 := blk_cell hblk 1; have s2 := blk_cell hblk 2; have s3 := blk_cell hblk 3; clear hblk3; have HBLK2 := Aside0.mk hblk; have HM2 := Aside0.mk hm2; have HB2 := Aside0.mk hb2; clear hm2 hb2 hblk))
    obtain ⟨cs, hcs⟩ : ∃ cs : Array Value, cs = #[.int .u32 F, .int .u32 ((F + nf) % 4294967296), .int .u32 R, .int .u32 ((R + nr) % 4294967296)] := ⟨_, rfl⟩
    have hcell : ∀ k : Nat, k < 4 → ∃ y, cs[k]? = some (.int .u32 y) ∧ 0 ≤ y ∧ y < 4294967296 := by
      intro k hk
      have h1 := (HF32.out 0 (by decide)).f
      have h2 := (HF32.out 0 (by decide)).r
      subst hcs
      obtain rfl | rfl | rfl | rfl : k = 0 ∨ k = 1 ∨ k = 2 ∨ k = 3 := by omega
      · exact ⟨_, rfl, h1⟩
      · exact ⟨_, rfl, by omega, by omega⟩
      · exact ⟨_, rfl, h2⟩
      · exact ⟨_, rfl, by omega, by omega⟩
    have HCELL := Aside0.mk hcell
    have HCS := Aside0.mk hcs
    clear hcell hcs q0 q1 q2 q3 r0 r1 r2 r3 s0 s1 s2 s3
    go_loopw [9] (fun i wr => ∃ k : Nat, k ≤ 4 ∧ i = .int .i64 k ∧ Aside0 (Bnd w wr g bf br w2.heap.size (w2.heap.size + 1) F R nf nr cs (24 * k))) (fun i _ => 4 - (intOf i).toNat)
    case atStart =>
      refine ⟨0, by omega, rfl, ⟨?_⟩⟩
      have z1 := (Below.alloc (Below.refl w.heap.size w) (Nat.le_refl _) (.cells #[.int .u32 F, .int .u32 nf, .int .u32 R, .int .u32 nr] 24)).trans (HB1.out.mono (by simp))
      have z2 := z1.trans (HB2.out.mono z1.size)
      have e1 : Below w2.heap.size w2 ((w2.alloc (.cells #[.int .u32 F, .int .u32 nf, .int .u32 R, .int .u32 nr, .slice none 0 0] 34)).alloc (.cells cs 22)) := (Below.alloc (Below.refl w2.heap.size w2) (Nat.le_refl _) _).alloc (by simp) _
      have hcs2 := HCS.out
      clear HCS HCELL
      subst hcs2
      refine ⟨(HM2.out.lower z1.size).below e1, ⟨[], by simp, none, 0, ?_, z2.size, Kd.R_nil _ _ _ _ _⟩, ?_, z2.trans (e1.mono z2.size)⟩
      · exact blk_alloc (heap_alloc_new w2 _) _
      · have := heap_alloc_new (w2.alloc (.cells #[.int .u32 F, .int .u32 nf, .int .u32 R, .int .u32 nr, .slice none 0 0] 34)) (.cells #[.int .u32 F, .int .u32 ((F + nf) % 4294967296), .int .u32 R, .int .u32 ((R + nr) % 4294967296)] 22)
        simpa using this
    case round =>
      obtain ⟨k, hk, rfl, hB⟩ := hrel
      by_cases hlt : k < 4
      · have hltb : decide ((k : Int) < 4) = true := decide_eq_true (by omega)
        go_wp2
        go_loopw [10] (fun i wr => ∃ s : Nat, s ≤ 6 ∧ i = .int .i64 s ∧ Aside0 (Bnd w wr g bf br w2.heap.size (w2.heap.size + 1) F R nf nr cs (24 * k + 4 * s))) (fun i _ => 6 - (intOf i).toNat)
        case atStart => exact ⟨0, by omega, rfl, hB⟩
        case round =>
          obtain ⟨s, hs, rfl, hS⟩ := hrel
          clear hB
          by_cases hlt2 : s < 6
          · have hltb2 : decide ((s : Int) < 6) = true := decide_eq_true (by omega)
            obtain ⟨y, hy, hy0, hy1⟩ := HCELL.out k hlt
            have qy : _ = some (Value.int .u32 y) := (blk_cell hS.out.l k).trans hy
            have hby0 := HBY.out.1
            have hby1 := HBY.out.2
            obtain ⟨T1, hT1⟩ : ∃ T, (loadV F R (List.replicate nf 0) (List.replicate nr 0) ((y + by_ % 17 - 8) % 4294967296) s).2 = T := ⟨_, rfl⟩
            obtain ⟨T2, hT2⟩ : ∃ T, storeT R nr ((y + by_ % 17 - 8) % 4294967296) s = T := ⟨_, rfl⟩
            have HT1 := Aside0.mk hT1
            have HT2 := Aside0.mk hT2
            have HAT := Aside0.mk (show 0 ≤ (y + by_ % 17 - 8) % 4294967296 ∧ (y + by_ % 17 - 8) % 4294967296 < 4294967296 by omega)
            clear hT1 hT2
            go_wp2_with (first
              | (go_at_call 10; refine (hS.out.load HFIT.out _ s HAT.out (by omega) T1 HT1.out).mono ?_; rintro e wa ⟨rfl, ha⟩; have HA := Aside0.mk ha; clear ha)
              | (go_at_call 11; refine (HA.out.refload (by omega) _ s (HF32.out _ HAT.out) T1 HT1.out).mono ?_; rintro e wb ⟨⟨z, rfl⟩, ha⟩; have HBB := Aside0.mk ha; clear ha)
              | (go_at_call 12; refine (HBB.out.store HFIT.out _ s HAT.out (by omega) T2 HT2.out).mono ?_; rintro e wc ⟨rfl, ha⟩; have HCC := Aside0.mk ha; clear ha)
              | (go_at_call 13; refine (HCC.out.refstore (by omega) _ s (HF32.out _ HAT.out) T2 HT2.out).mono ?_; rintro e wd ⟨rfl, ha⟩; have HD := Aside0.mk ha; clear ha))
            go_roundw
            case rel => exact ⟨s + 1, by omega, by go_num, ⟨by have := HD.out; rw [show 24 * k + 4 * (s + 1) = 24 * k + 4 * s + 4 by omega]; exact this⟩⟩
            case measure => simp [intOf]; omega
          · obtain rfl : s = 6 := by omega
            go_wp2
            go_roundw
            case rel => exact ⟨k + 1, by omega, by go_num, ⟨by have := hS.out; rw [show 24 * (k + 1) = 24 * k + 4 * 6 by omega]; exact this⟩⟩
            case measure => simp [intOf]; omega
      · obtain rfl : k = 4 := by omega
        go_wp2_with (go_at_call 8; refine (lives_any _).mono ?_; rintro e w4 ⟨rfl, hb4⟩; have HB4 := Aside0.mk hb4; clear hb4)
        go_ret
        exact ⟨rfl, hB.out.b.trans (HB4.out.mono hB.out.b.size)⟩
def pintlelaw05_MemBounds.f (F FS R RS by_ : Int) : Option Bool := if (0 ≤ F ∧ F < 4294967296) ∧ (0 ≤ FS ∧ FS < 4294967296) ∧ (0 ≤ R ∧ R < 4294967296) ∧ (0 ≤ RS ∧ RS < 4294967296) ∧ (0 ≤ by_ ∧ by_ < 256) then some true else none
theorem pintlelaw05_MemBounds.calls (F FS R RS by_ : Int) (r : Bool) (w : World) (h : pintlelaw05_MemBounds.f F FS R RS by_ = some r) :
    Calls Try.prog 3 #[.agg #[.int .u32 F, .int .u32 FS, .int .u32 R, .int .u32 RS], .int .u8 by_] w fun e w' => e = .returned (.bool r) ∧ Below w.heap.size w w' := by
  unfold pintlelaw05_MemBounds.f at h
  split at h
  case isTrue hb =>
    obtain rfl := Option.some.inj h
    exact bounds_calls F FS R RS by_ w hb.1 hb.2.1 hb.2.2.1 hb.2.2.2.1 hb.2.2.2.2
  case isFalse => exact nomatch h

end Go.Proofs.Ytbbjooaggdgcmaa.PC
