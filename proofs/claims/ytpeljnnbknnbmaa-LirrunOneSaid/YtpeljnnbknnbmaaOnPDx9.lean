import Derived.Test.YtpeljnnbknnbmaaOnPDx0
import Derived.Test.YtpeljnnbknnbmaaOnPDx5
import Derived.Test.YtpeljnnbknnbmaaOnPDx6
import Derived.Test.YtpeljnnbknnbmaaOnPDx7
import Derived.Test.YtpeljnnbknnbmaaOnPDx8
-- Written by pr.py, a driver around the kit's printer, for this seat. Not trusted: Lean checks it.
namespace Go.Proofs.Ytpeljnnbknnbmaa.PD
open Go.RowKit Go.Proofs.YtpeljnnbknnbmaaW.PrintWords Go.Proofs.YtpeljnnbknnbmaaW.PrintLast Go.Proofs.YtpeljnnbknnbmaaW.PrintMore
attribute [local go_sem] max2_int min2_int max_two min_two max_three min_three max_four min_four   -- for this text's walks alone
set_option linter.unusedVariables false
set_option linter.unusedSimpArgs false

--BREAK 
/-! ### mem_Memory_Store: function 81 -/
def byteOf (x : Int) (i : Nat) : Int := x / 2 ^ (8 * i) % 256
def setBytes (l : List Int) (p : Nat) (x : Int) : Nat → List Int
  | 0 => l
  | i + 1 => (setBytes l p x i).set (p + i) (byteOf x i)
theorem setBytes_length (l : List Int) (p : Nat) (x : Int) (i : Nat) : (setBytes l p x i).length = l.length := by
  induction i with
  | zero => rfl
  | succ i ih => unfold setBytes; rw [List.length_set, ih]
def storeT (R : Int) (nr : Nat) (addr size : Int) : Int :=
  if ¬ sizedP size then 4 else if addr % size ≠ 0 then 1 else if inBank R nr addr size then 0 else 4
def storeL (R : Int) (rl : List Int) (addr size x : Int) : List Int :=
  if storeT R rl.length addr size = 0 then setBytes rl (addr - R).toNat x size.toNat else rl
theorem storeL_length (R : Int) (rl : List Int) (addr size x : Int) : (storeL R rl addr size x).length = rl.length := by
  unfold storeL; split
  · exact setBytes_length _ _ _ _
  · rfl
/-- what a store leaves: the trap, the memory behind it; no other block has turned -/
def StoreTold (w : World) (base g bf br : Nat) (F R : Int) (fl rl : List Int) (t : Int) (e : Ending) (w' : World) : Prop :=
  e = .returned (.int .i64 t) ∧ MemAt w' base g bf br F R fl rl ∧ KeepBut w w' br none ∧ Below base w w'
theorem u8s_set (l : List Int) (j : Nat) (x : Int) : (u8s l).setIfInBounds j (.int .u8 x) = u8s (l.set j x) := by
  unfold u8s
  rw [List.setIfInBounds_toArray, ← List.map_set]
theorem MemAt.set_r {w : World} {base g bf br : Nat} {F R : Int} {fl rl : List Int} (h : MemAt w base g bf br F R fl rl) (j : Nat) (v : Int) : MemAt (w.setCell ⟨br, j, none⟩ (.int .u8 v)) base g bf br F R fl (rl.set j v) :=
  ⟨by rw [heap_setCell_other _ _ _ _ (blk_ne h.hg h.hr (by decide)), List.length_set]; exact h.hg, by rw [heap_setCell_other _ _ _ _ h.ne]; exact h.hf, by rw [heap_setCell_same w br j _ _ _ h.hr, u8s_set], h.ne, h.lg, h.lf, h.lr⟩
set_option maxHeartbeats 4000000 in
theorem store_ok (base g bf br : Nat) (F R : Int) (fl rl : List Int) (addr x : Int) (n p : Nat) (w : World) (hm : MemAt w base g bf br F R fl rl) (hF : MemFit F R fl.length rl.length) (ha0 : 0 ≤ addr) (ha : addr < 4294967296)
    (hx0 : 0 ≤ x) (hx : x < 4294967296) (hs : sizedP n) (hal : addr % n = 0) (hp : R + p = addr) (hb : p + n ≤ rl.length) :
    Calls Try.prog 81 #[.pointer (some ⟨g, 0, none⟩), .int .u32 addr, .int .i64 n, .int .u32 x] w (StoreTold w base g bf br F R fl (setBytes rl p x n) 0) := by
  have HS := Aside0.mk (sized_eq n)
  rw [decide_eq_true hs] at HS
  have hsz : (n : Int) % 4294967296 = n := by unfold sizedP at hs; omega
  have hsp : 0 < n := by unfold sizedP at hs; omega
  have hs4 : n ≤ 4 := by unfold sizedP at hs; omega
  have HC := Aside0.mk (fun W => bank_yes br rl.length p n R addr W hF.r0 ha hp hb hF.nr1)
  obtain ⟨_, _, _, _, q4, q5, q6, q7⟩ := mem_cells hm
  have HM := Aside0.mk hm
  have HF := Aside0.mk hF
  clear hm hF hs hp
  go_enter Try.func81, Try.ntmps81
  go_wp2_with (first | (go_at_call 91; refine (mem_sized.calls n true _ HS.out).mono ?_; rintro e w1 ⟨rfl, ⟨nd, rfl⟩⟩) | (go_at_call 99; refine (HC.out _).mono ?_; rintro e w2 ⟨A', c', rfl, hA, hc', hb2⟩; obtain rfl := hA hsp; have HB := Aside0.mk hb2; clear hb2))
  have HM2 := Aside0.mk (HM.out.below ((pw_below_drewN (Below.refl _ _) nd).trans HB.out))
  have HK2 := Aside0.mk (KeepBut.of_below ((pw_below_drewN (Below.refl w.heap.size w) nd).trans HB.out) br none)
  have HB2 := Aside0.mk (((pw_below_drewN (Below.refl w.heap.size w) nd).trans HB.out).mono (by have := HM.out.lt; have := HM.out.lg; omega) : Below base w w2)
  clear HB
  go_loopw [40] (fun i wr => ∃ k : Nat, k ≤ n ∧ i = .int .i64 k ∧ Aside0 (MemAt wr base g bf br F R fl (setBytes rl p x k)) ∧ Aside0 (KeepBut w wr br none) ∧ Aside0 (Below base w wr)) (fun i _ => n - (intOf i).toNat)
  case atStart => exact ⟨0, by omega, rfl, HM2, HK2, HB2⟩
  case round =>
    obtain ⟨k, hk, rfl, hmr, hkr, hbr⟩ := hrel
    by_cases hlt : k < n
    · have hcell := blk_cell hmr.out.hr (p + k)
      have hfr := blk_frozen hmr.out.hr (p + k)
      rw [u8s_get, List.getElem?_eq_getElem (by rw [setBytes_length]; omega)] at hcell
      simp only [Option.map_some] at hcell
      go_wp2
      go_roundw
      case measure => simp [intOf]; omega
      case rel =>
        have e : setBytes rl p x (k + 1) = (setBytes rl p x k).set (p + k) (x / 2 ^ (8 * k) % 256) := rfl
        exact ⟨k + 1, by omega, by go_num, ⟨by rw [e]; exact hmr.out.set_r _ _⟩, ⟨hkr.out.set_ _ _⟩, ⟨hbr.out.setCell hmr.out.lr _⟩⟩
    · obtain rfl : k = n := by omega
      go_wp2
      go_ret
      exact ⟨rfl, hmr.out, hkr.out, hbr.out⟩
/-- the store's other ways: a trap, and nothing has turned -/
theorem StoreTold.of_below {w w' : World} {base g bf br : Nat} {F R : Int} {fl rl : List Int} {t : Int} (hm : MemAt w base g bf br F R fl rl) (hb : Below w.heap.size w w') : StoreTold w base g bf br F R fl rl t (.returned (.int .i64 t)) w' :=
  ⟨rfl, hm.below hb, KeepBut.of_below hb br none, hb.mono (by have := hm.lt; have := hm.lg; omega)⟩
set_option maxHeartbeats 4000000 in
theorem store_calls (base g bf br : Nat) (F R : Int) (fl rl : List Int) (addr size x : Int) (w : World) (hm : MemAt w base g bf br F R fl rl) (hF : MemFit F R fl.length rl.length) (ha0 : 0 ≤ addr) (ha : addr < 4294967296)
    (hx0 : 0 ≤ x) (hx : x < 4294967296) (hc : size ≤ 9223372036854775807) :
    Calls Try.prog 81 #[.pointer (some ⟨g, 0, none⟩), .int .u32 addr, .int .i64 size, .int .u32 x] w (StoreTold w base g bf br F R fl (storeL R rl addr size x) (storeT R rl.length addr size)) := by
  by_cases hs : sizedP size
  · have hsz : size % 4294967296 = size := by unfold sizedP at hs; omega
    have hsp : 0 < size := by unfold sizedP at hs; omega
    have hs4 : size ≤ 4 := by unfold sizedP at hs; omega
    by_cases hal : addr % size = 0
    · by_cases h2 : inBank R rl.length addr size
      · have h2' := h2
        obtain ⟨a1, a2, a3⟩ := h2'
        obtain ⟨n, rfl⟩ : ∃ n : Nat, size = (n : Int) := ⟨size.toNat, by omega⟩
        have e1 : storeT R rl.length addr n = 0 := by unfold storeT; rw [if_neg (by simpa using hs), if_neg (by simpa using hal), if_pos h2]
        have e2 : storeL R rl addr n x = setBytes rl (addr - R).toNat x n := by unfold storeL; rw [if_pos e1, Int.toNat_natCast]
        rw [e1, e2]
        exact store_ok base g bf br F R fl rl addr x n (addr - R).toNat w hm hF ha0 ha hx0 hx hs hal (by omega) (by omega)
      · have e1 : storeT R rl.length addr size = 4 := by unfold storeT; rw [if_neg (by simpa using hs), if_neg (by simpa using hal), if_neg h2]
        have e2 : storeL R rl addr size x = rl := by unfold storeL; rw [if_neg (by rw [e1]; decide)]
        rw [e1, e2]
        have HS := Aside0.mk (sized_eq size)
        rw [decide_eq_true hs] at HS
        have hR := hF.r1
        have hn4 := hF.nr0
        have HC := Aside0.mk (fun W => bank_no br rl.length R addr size W hF.r0 (by omega) ha0 ha hc hF.nr1 h2)
        obtain ⟨_, _, _, _, q4, q5, q6, q7⟩ := mem_cells hm
        have HM := Aside0.mk hm
        clear hm hF hs h2 e1 e2 hR
        go_enter Try.func81, Try.ntmps81
        go_wp2_with (first | (go_at_call 91; refine (mem_sized.calls size true _ HS.out).mono ?_; rintro e w1 ⟨rfl, ⟨nd, rfl⟩⟩) | (go_at_call 99; refine (HC.out _).mono ?_; rintro e w2 ⟨rfl, hb2⟩; have HB := Aside0.mk hb2; clear hb2))
        go_ret
        exact StoreTold.of_below HM.out ((pw_below_drewN (Below.refl _ _) nd).trans HB.out)
    · have e1 : storeT R rl.length addr size = 1 := by unfold storeT; rw [if_neg (by simpa using hs), if_pos (by simpa using hal)]
      have e2 : storeL R rl addr size x = rl := by unfold storeL; rw [if_neg (by rw [e1]; decide)]
      rw [e1, e2]
      have HS := Aside0.mk (sized_eq size)
      rw [decide_eq_true hs] at HS
      have HM := Aside0.mk hm
      clear hm hF hs e1 e2
      go_enter Try.func81, Try.ntmps81
      go_wp2_with (first | (go_at_call 91; refine (mem_sized.calls size true _ HS.out).mono ?_; rintro e w1 ⟨rfl, ⟨nd, rfl⟩⟩))
      go_ret
      exact StoreTold.of_below HM.out (pw_below_drewN (Below.refl _ _) nd)
  · have e1 : storeT R rl.length addr size = 4 := by unfold storeT; rw [if_pos (by simpa using hs)]
    have e2 : storeL R rl addr size x = rl := by unfold storeL; rw [if_neg (by rw [e1]; decide)]
    rw [e1, e2]
    have HS := Aside0.mk (sized_eq size)
    rw [decide_eq_false hs] at HS
    have HM := Aside0.mk hm
    clear hm hF hs e1 e2
    go_enter Try.func81, Try.ntmps81
    go_wp2_with (first | (go_at_call 91; refine (mem_sized.calls size false _ HS.out).mono ?_; rintro e w1 ⟨rfl, ⟨nd, rfl⟩⟩))
    go_ret
    exact StoreTold.of_below HM.out (pw_below_drewN (Below.refl _ _) nd)
end Go.Proofs.Ytpeljnnbknnbmaa.PD
