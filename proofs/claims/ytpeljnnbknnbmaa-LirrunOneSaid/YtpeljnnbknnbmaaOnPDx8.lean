import Derived.Test.YtpeljnnbknnbmaaOnPDx0
import Derived.Test.YtpeljnnbknnbmaaOnPDx6
import Derived.Test.YtpeljnnbknnbmaaOnPDx7
-- Written by pr.py, a driver around the kit's printer, for this seat. Not trusted: Lean checks it.
namespace Go.Proofs.Ytpeljnnbknnbmaa.PD
open Go.RowKit Go.Proofs.YtpeljnnbknnbmaaW.PrintWords Go.Proofs.YtpeljnnbknnbmaaW.PrintLast Go.Proofs.YtpeljnnbknnbmaaW.PrintMore
attribute [local go_sem] max2_int min2_int max_two min_two max_three min_three max_four min_four   -- for this text's walks alone
set_option linter.unusedVariables false
set_option linter.unusedSimpArgs false

--BREAK 
/-! ### mem_Memory_Load: function 68 -/
/-! number -/
def numL : List Int → Int
  | [] => 0
  | b :: l => b + 256 * numL l
theorem or_add (x y : Int) (i : Nat) (hi : i < 32) (hx0 : 0 ≤ x) (hx : x < 2 ^ i) (hy0 : 0 ≤ y) (hy : 2 ^ i * y < 4294967296) : bits .or .u32 x (2 ^ i * y) = x + 2 ^ i * y := by
  obtain ⟨a, rfl⟩ : ∃ a : Nat, x = a := ⟨x.toNat, by omega⟩
  obtain ⟨b, rfl⟩ : ∃ b : Nat, y = b := ⟨y.toNat, by omega⟩
  have ha : a < 2 ^ i := by
    have : ((a : Nat) : Int) < ((2 ^ i : Nat) : Int) := by simpa using hx
    exact Int.ofNat_lt.1 this
  have hb : 2 ^ i * b < 4294967296 := by
    have : (((2 ^ i * b : Nat)) : Int) < 4294967296 := by simpa using hy
    omega
  have hlt : 2 ^ i * b + a < 2 ^ 32 := by
    have h1 : 2 ^ 32 = 2 ^ i * 2 ^ (32 - i) := by rw [← Nat.pow_add]; congr 1; omega
    have h2 : b < 2 ^ (32 - i) := by
      apply Classical.byContradiction
      intro h
      have := Nat.mul_le_mul_left (2 ^ i) (Nat.le_of_not_lt h)
      omega
    calc 2 ^ i * b + a < 2 ^ i * b + 2 ^ i := by omega
      _ = 2 ^ i * (b + 1) := by rw [Nat.mul_add, Nat.mul_one]
      _ ≤ 2 ^ i * 2 ^ (32 - i) := Nat.mul_le_mul_left _ h2
      _ = 2 ^ 32 := h1.symm
  have e : (2 : Int) ^ i * (b : Int) = ((2 ^ i * b : Nat) : Int) := by simp
  rw [e]
  have e1 : bits .or .u32 (a : Int) ((2 ^ i * b : Nat) : Int) = IntKind.u32.wrap ((BitVec.ofInt 32 (a : Int) ||| BitVec.ofInt 32 ((2 ^ i * b : Nat) : Int)).toNat : Int) := rfl
  rw [e1, BitVec.toNat_or, BitVec.toNat_ofInt, BitVec.toNat_ofInt]
  have e2 : ((a : Int) % ((2 ^ 32 : Nat) : Int)).toNat = a := by omega
  have e3 : (((2 ^ i * b : Nat) : Int) % ((2 ^ 32 : Nat) : Int)).toNat = 2 ^ i * b := by omega
  rw [e2, e3, Nat.or_comm, ← Nat.two_pow_add_eq_or_of_lt ha, IntKind.wrap_u32]
  omega
theorem shl_u32 (x : Int) (i : Nat) (hi : i ≤ 31) (h0 : 0 ≤ x) (h : 2 ^ i * x < 4294967296) : shl .u32 x (i : Int) = 2 ^ i * x := by
  unfold shl
  rw [Int.toNat_natCast, Nat.min_eq_left (show i ≤ IntKind.u32.bits by show i ≤ 32; omega), IntKind.wrap_u32, Int.mul_comm]
  have : 0 ≤ (2 : Int) ^ i * x := Int.mul_nonneg (by have : (2 : Int) ^ i = ((2 ^ i : Nat) : Int) := by simp
                                                     rw [this]; exact Int.natCast_nonneg _) h0
  omega
def isByte (b : Int) : Prop := 0 ≤ b ∧ b < 256
def Bytes (l : List Int) : Prop := ∀ x ∈ l, isByte x
theorem numL_snoc (l : List Int) (b : Int) : numL (l ++ [b]) = numL l + 2 ^ (8 * l.length) * b := by
  induction l with
  | nil => simp [numL]
  | cons a l ih =>
    show a + 256 * numL (l ++ [b]) = a + 256 * numL l + 2 ^ (8 * (l.length + 1)) * b
    rw [ih, show 8 * (l.length + 1) = 8 + 8 * l.length by omega, Int.pow_add, show (2 : Int) ^ 8 = 256 from rfl, Int.mul_add, Int.mul_assoc]
    omega
theorem numL_lt (l : List Int) (h : Bytes l) : 0 ≤ numL l ∧ numL l < 2 ^ (8 * l.length) := by
  induction l with
  | nil => exact ⟨by decide, by decide⟩
  | cons a l ih =>
    obtain ⟨h1, h2⟩ := ih (fun x hx => h x (List.mem_cons_of_mem _ hx))
    have ha : isByte a := h a List.mem_cons_self
    unfold isByte at ha
    show 0 ≤ a + 256 * numL l ∧ a + 256 * numL l < 2 ^ (8 * (l.length + 1))
    rw [show 8 * (l.length + 1) = 8 + 8 * l.length by omega, Int.pow_add, show (2 : Int) ^ 8 = 256 from rfl]
    omega
theorem number_from (l : List Int) (h : Bytes l) (hl : l.length ≤ 4) : ∀ (d i k : Nat), i + d = l.length → d < k → mem_number.l0 k (numL (l.take i)) l (l.length : Int) (i : Int) = some (numL l) := by
  intro d
  induction d with
  | zero =>
    intro i k hi hk
    obtain ⟨k, rfl⟩ : ∃ m, k = m + 1 := ⟨k - 1, by omega⟩
    simp only [mem_number.l0]
    rw [if_neg (by omega), List.take_of_length_le (by omega)]
  | succ d ih =>
    intro i k hi hk
    obtain ⟨k, rfl⟩ : ∃ m, k = m + 1 := ⟨k - 1, by omega⟩
    simp only [mem_number.l0]
    have hil : i < l.length := by omega
    have hb : isByte l[i] := h _ (List.getElem_mem hil)
    have hr : rd l (i : Int) = l[i] := by
      unfold rd
      rw [Int.toNat_natCast, List.getD_eq_getElem?_getD, List.getElem?_eq_getElem hil]; rfl
    have hw : wrap64 (8 * (i : Int)) = ((8 * i : Nat) : Int) := by unfold wrap64; omega
    have hw1 : wrap64 ((i : Int) + 1) = ((i + 1 : Nat) : Int) := by unfold wrap64; omega
    unfold isByte at hb
    rw [if_pos (by omega), if_pos (by omega), if_pos (by omega), hw, if_pos (by omega), hr, hw1, show l[i] % 4294967296 = l[i] by omega]
    obtain ⟨n0, n1⟩ := numL_lt (l.take i) (fun x hx => h x (List.mem_of_mem_take hx))
    have ht : (l.take i).length = i := by rw [List.length_take]; omega
    rw [ht] at n1
    have hp : (2 : Int) ^ (8 * i) * l[i] < 4294967296 := by
      have e : (2 : Int) ^ (8 * i) = ((2 ^ (8 * i) : Nat) : Int) := by simp
      have hpw : 2 ^ (8 * i) ≤ 2 ^ 24 := Nat.pow_le_pow_right (by decide) (by omega)
      rw [e]
      generalize 2 ^ (8 * i) = p at *
      have h1 : (p : Int) * l[i] ≤ 16777216 * l[i] := Int.mul_le_mul_of_nonneg_right (by omega) hb.1
      omega
    rw [shl_u32 _ (8 * i) (by omega) hb.1 hp, or_add _ _ (8 * i) (by omega) n0 n1 hb.1 hp]
    have hsn : numL (l.take (i + 1)) = numL (l.take i) + 2 ^ (8 * i) * l[i] := by
      rw [List.take_succ_eq_append_getElem hil, numL_snoc, ht]
    rw [← hsn]
    exact ih (i + 1) k (by omega) (by omega)
theorem number_eq (l : List Int) (h : Bytes l) (hl : l.length ≤ 4) : mem_number.f 6 l = some (numL l) := by
  unfold mem_number.f
  have := number_from l h hl l.length 0 6 (by omega) (by omega)
  exact this
instance (base : Int) (n : Nat) (addr cnt : Int) : Decidable (inBank base n addr cnt) := by unfold inBank; infer_instance
def sizedP (size : Int) : Prop := size = 1 ∨ size = 2 ∨ size = 4
instance (size : Int) : Decidable (sizedP size) := by unfold sizedP; infer_instance
def loadV (F R : Int) (fl rl : List Int) (addr size : Int) : Int × Int :=
  if ¬ sizedP size then (0, 3) else if addr % size ≠ 0 then (0, 1) else
  if inBank F fl.length addr size then (numL (bytesAt F fl addr size.toNat), 0) else if inBank R rl.length addr size then (numL (bytesAt R rl addr size.toNat), 0) else (0, 3)
theorem sized_eq (size : Int) : mem_sized.f size = some (decide (sizedP size)) := by
  unfold mem_sized.f sizedP
  by_cases h1 : size = 1
  · simp [h1]
  · by_cases h2 : size = 2
    · simp [h2]
    · simp [h1, h2]; rfl
theorem bytes_drop {l : List Int} (h : Bytes l) (base addr : Int) (m : Nat) : Bytes (bytesAt base l addr m) := fun x hx => h x (List.mem_of_mem_drop (List.mem_of_mem_take hx))
/-- a part that is read: its bytes -/
def ReadTold (w : World) (l : List Int) (e : Ending) (w' : World) : Prop := ∃ A' c', e = .returned (.tuple #[.slice A' l.length c', .bool true]) ∧ Kd.C (Kd.int .u8) w' A' l.length l ∧ l.length ≤ c' ∧ Below w.heap.size w w'
section
variable {base g bf br : Nat} {F R : Int} {fl rl : List Int} {addr cnt : Int} {w : World}
theorem part_f (hm : MemAt w base g bf br F R fl rl) (hF : MemFit F R fl.length rl.length) (ha0 : 0 ≤ addr) (ha : addr < 4294967296) (hc : cnt ≤ 9223372036854775807) (h1 : inBank F fl.length addr cnt) :
    Calls Try.prog 87 #[.pointer (some ⟨g, 0, none⟩), .int .u32 addr, .int .i64 cnt] w (ReadTold w (bytesAt F fl addr cnt.toNat)) := by
  refine (part_calls base g bf br F R fl rl addr cnt w hm hF ha0 ha hc).mono fun e w' h => ?_
  obtain ⟨hb, h⟩ := h
  have h1' := h1
  obtain ⟨a1, a2, a3⟩ := h1'
  have hl := bytesAt_length (base := F) (l := fl) (addr := addr) (m := cnt.toNat) a1 (by omega)
  rcases h with ⟨_, A', c', rfl, hA, hc'⟩ | ⟨hn, _⟩ | ⟨hn, _⟩
  · exact ⟨A', c', by rw [hl], part_reads (hm.below hb).hf a1 (by omega) hF.nf1 (fun h => hA (by omega)), by omega, hb⟩
  · exact absurd h1 hn
  · exact absurd h1 hn
theorem part_r (hm : MemAt w base g bf br F R fl rl) (hF : MemFit F R fl.length rl.length) (ha0 : 0 ≤ addr) (ha : addr < 4294967296) (hc : cnt ≤ 9223372036854775807) (h1 : ¬ inBank F fl.length addr cnt) (h2 : inBank R rl.length addr cnt) :
    Calls Try.prog 87 #[.pointer (some ⟨g, 0, none⟩), .int .u32 addr, .int .i64 cnt] w (ReadTold w (bytesAt R rl addr cnt.toNat)) := by
  refine (part_calls base g bf br F R fl rl addr cnt w hm hF ha0 ha hc).mono fun e w' h => ?_
  obtain ⟨hb, h⟩ := h
  have h2' := h2
  obtain ⟨a1, a2, a3⟩ := h2'
  have hl := bytesAt_length (base := R) (l := rl) (addr := addr) (m := cnt.toNat) a1 (by omega)
  rcases h with ⟨hn, _⟩ | ⟨_, _, A', c', rfl, hA, hc'⟩ | ⟨_, hn, _⟩
  · exact absurd hn h1
  · exact ⟨A', c', by rw [hl], part_reads (hm.below hb).hr a1 (by omega) hF.nr1 (fun h => hA (by omega)), by omega, hb⟩
  · exact absurd h2 hn
theorem part_n (hm : MemAt w base g bf br F R fl rl) (hF : MemFit F R fl.length rl.length) (ha0 : 0 ≤ addr) (ha : addr < 4294967296) (hc : cnt ≤ 9223372036854775807) (h1 : ¬ inBank F fl.length addr cnt) (h2 : ¬ inBank R rl.length addr cnt) :
    Calls Try.prog 87 #[.pointer (some ⟨g, 0, none⟩), .int .u32 addr, .int .i64 cnt] w fun e w' => e = .returned (.tuple #[.slice none 0 0, .bool false]) ∧ Below w.heap.size w w' := by
  refine (part_calls base g bf br F R fl rl addr cnt w hm hF ha0 ha hc).mono fun e w' h => ?_
  obtain ⟨hb, h⟩ := h
  rcases h with ⟨hn, _⟩ | ⟨_, hn, _⟩ | ⟨_, _, rfl⟩
  · exact absurd hn h1
  · exact absurd hn h2
  · exact ⟨rfl, hb⟩
end
set_option maxHeartbeats 4000000 in
theorem load_calls (base g bf br : Nat) (F R : Int) (fl rl : List Int) (addr size : Int) (w : World) (hm : MemAt w base g bf br F R fl rl) (hF : MemFit F R fl.length rl.length) (hbf : Bytes fl) (hbr : Bytes rl) (ha0 : 0 ≤ addr) (ha : addr < 4294967296) (hc : size ≤ 9223372036854775807) :
    Calls Try.prog 68 #[.pointer (some ⟨g, 0, none⟩), .int .u32 addr, .int .i64 size] w fun e w' => e = .returned (.tuple #[.int .u32 (loadV F R fl rl addr size).1, .int .i64 (loadV F R fl rl addr size).2]) ∧ Below w.heap.size w w' := by
  obtain ⟨V, hV⟩ : ∃ V, V = loadV F R fl rl addr size := ⟨_, rfl⟩
  rw [← hV]
  unfold loadV at hV
  have HM := Aside0.mk hm
  have HS := Aside0.mk (sized_eq size)
  clear hm
  by_cases hs : sizedP size
  · rw [if_neg (by simpa using hs)] at hV
    rw [decide_eq_true hs] at HS
    have hsz : size % 4294967296 = size := by unfold sizedP at hs; omega
    have hsp : 0 < size := by unfold sizedP at hs; omega
    have hs4 : size ≤ 4 := by unfold sizedP at hs; omega
    by_cases hal : addr % size = 0
    · rw [if_neg (by simpa using hal)] at hV
      by_cases h1 : inBank F fl.length addr size
      · rw [if_pos h1] at hV
        have hn := number_eq _ (bytes_drop hbf F addr size.toNat) (by unfold bytesAt; rw [List.length_take]; omega)
        have HC := Aside0.mk (fun W (hM : MemAt W base g bf br F R fl rl) => part_f (w := W) hM hF ha0 ha hc h1)
        obtain ⟨l, hl⟩ : ∃ l, l = bytesAt F fl addr size.toNat := ⟨_, rfl⟩
        rw [← hl] at hn hV HC
        have HN := Aside0.mk hn
        have HV := Aside0.mk hV
        clear hV hs h1 hn hl hF hbf hbr
        go_enter Try.func68, Try.ntmps68
        go_wp2_with (first | (go_at_call 91; refine (mem_sized.calls size true _ HS.out).mono ?_; rintro e w1 ⟨rfl, ⟨nd, rfl⟩⟩) | (go_at_call 87; refine (HC.out _ (HM.out.below (pw_below_drewN (Below.refl _ _) nd))).mono ?_; rintro e w2 ⟨A', c', rfl, hC, hc', hb⟩; have HCC := Aside0.mk hC; have HB := Aside0.mk hb; clear hC hb) | (go_at_call 92; refine (mem_number.calls 6 A' c' _ _ _ HCC.out hc' HN.out).mono ?_; rintro e w3 ⟨rfl, ⟨nd2, rfl⟩⟩))
        go_ret2
        exact ⟨by rw [HV.out]; rfl, pw_below_drewN ((pw_below_drewN (Below.refl _ _) nd).trans HB.out) nd2⟩
      · rw [if_neg h1] at hV
        by_cases h2 : inBank R rl.length addr size
        · rw [if_pos h2] at hV
          have hn := number_eq _ (bytes_drop hbr R addr size.toNat) (by unfold bytesAt; rw [List.length_take]; omega)
          have HC := Aside0.mk (fun W (hM : MemAt W base g bf br F R fl rl) => part_r (w := W) hM hF ha0 ha hc h1 h2)
          obtain ⟨l, hl⟩ : ∃ l, l = bytesAt R rl addr size.toNat := ⟨_, rfl⟩
          rw [← hl] at hn hV HC
          have HN := Aside0.mk hn
          have HV := Aside0.mk hV
          clear hV hs h1 h2 hn hl hF hbf hbr
          go_enter Try.func68, Try.ntmps68
          go_wp2_with (first | (go_at_call 91; refine (mem_sized.calls size true _ HS.out).mono ?_; rintro e w1 ⟨rfl, ⟨nd, rfl⟩⟩) | (go_at_call 87; refine (HC.out _ (HM.out.below (pw_below_drewN (Below.refl _ _) nd))).mono ?_; rintro e w2 ⟨A', c', rfl, hC, hc', hb⟩; have HCC := Aside0.mk hC; have HB := Aside0.mk hb; clear hC hb) | (go_at_call 92; refine (mem_number.calls 6 A' c' _ _ _ HCC.out hc' HN.out).mono ?_; rintro e w3 ⟨rfl, ⟨nd2, rfl⟩⟩))
          go_ret2
          exact ⟨by rw [HV.out]; rfl, pw_below_drewN ((pw_below_drewN (Below.refl _ _) nd).trans HB.out) nd2⟩
        · rw [if_neg h2] at hV
          have HC := Aside0.mk (fun W (hM : MemAt W base g bf br F R fl rl) => part_n (w := W) hM hF ha0 ha hc h1 h2)
          have HV := Aside0.mk hV
          clear hV hs h1 h2 hF hbf hbr
          go_enter Try.func68, Try.ntmps68
          go_wp2_with (first | (go_at_call 91; refine (mem_sized.calls size true _ HS.out).mono ?_; rintro e w1 ⟨rfl, ⟨nd, rfl⟩⟩) | (go_at_call 87; refine (HC.out _ (HM.out.below (pw_below_drewN (Below.refl _ _) nd))).mono ?_; rintro e w2 ⟨rfl, hb⟩; have HB := Aside0.mk hb; clear hb))
          go_ret2
          exact ⟨by rw [HV.out]; rfl, (pw_below_drewN (Below.refl _ _) nd).trans HB.out⟩
    · rw [if_pos (by simpa using hal)] at hV
      have HV := Aside0.mk hV
      clear hV hs hF hbf hbr
      go_enter Try.func68, Try.ntmps68
      go_wp2_with (first | (go_at_call 91; refine (mem_sized.calls size true _ HS.out).mono ?_; rintro e w1 ⟨rfl, ⟨nd, rfl⟩⟩))
      go_ret2
      exact ⟨by rw [HV.out]; rfl, pw_below_drewN (Below.refl _ _) nd⟩
  · rw [if_pos (by simpa using hs)] at hV
    rw [decide_eq_false hs] at HS
    have HV := Aside0.mk hV
    clear hV hs hF hbf hbr
    go_enter Try.func68, Try.ntmps68
    go_wp2_with (first | (go_at_call 91; refine (mem_sized.calls size false _ HS.out).mono ?_; rintro e w1 ⟨rfl, ⟨nd, rfl⟩⟩))
    go_ret2
    exact ⟨by rw [HV.out]; rfl, pw_below_drewN (Below.refl _ _) nd⟩
end Go.Proofs.Ytpeljnnbknnbmaa.PD
