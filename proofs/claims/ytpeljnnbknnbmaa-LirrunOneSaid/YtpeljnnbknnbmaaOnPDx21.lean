import Derived.Test.YtpeljnnbknnbmaaOnPDx0
import Derived.Test.YtpeljnnbknnbmaaOnPDx8
import Derived.Test.YtpeljnnbknnbmaaOnPDx20
import Derived.Outline
import Derived.Deep.RegionHeld3
import Derived.Deep.OwnRows
-- Written by pr.py, a driver around the kit's printer, for this seat. Not trusted: Lean checks it.
namespace Go.Proofs.Ytpeljnnbknnbmaa.PD
open Go.RowKit Go.Proofs.YtpeljnnbknnbmaaW.PrintWords Go.Proofs.YtpeljnnbknnbmaaW.PrintLast Go.Proofs.YtpeljnnbknnbmaaW.PrintMore
attribute [local go_sem] max2_int min2_int max_two min_two max_three min_three max_four min_four   -- for this text's walks alone
set_option linter.unusedVariables false
set_option linter.unusedSimpArgs false

--BREAK Derived.Outline,Derived.Deep.RegionHeld3,Derived.Deep.OwnRows
/-! ### pintleref05_Memory_Store: function 108 -/
def RefAt (w : World) (base g : Nat) (F FS R RS : Int) (L : List S138) : Prop := ∃ A c, w.heap[g]? = some (.cells #[.int .u32 F, .int .u32 FS, .int .u32 R, .int .u32 RS, .slice A L.length c] 85 (0, 0)) ∧ base ≤ g ∧ Kd.R k138 138 w base (fun k => k ≠ g) (.slice A L.length c) L
theorem RefAt.below {w w' : World} {base g : Nat} {F FS R RS : Int} {L : List S138} (h : RefAt w base g F FS R RS L) (hb : Below w.heap.size w w') : RefAt w' base g F FS R RS L := by
  obtain ⟨A, c, h1, h2, h3⟩ := h
  exact ⟨A, c, (hb.block _ (blk_lt h1)).trans h1, h2, Kd.R_below h3 hb⟩
theorem RefAt.drewN {w : World} {base g : Nat} {F FS R RS : Int} {L : List S138} (h : RefAt w base g F FS R RS L) (n : Nat) : RefAt (w.drewN n) base g F FS R RS L := h
def inR (base size addr n : Int) : Bool := decide (0 ≤ n) && (decide (base ≤ addr) && decide (n ≤ base + size - addr))
theorem in_eq {base size addr n : Int} (hb : 0 ≤ base ∧ base < 4294967296) (hs : 0 ≤ size ∧ size < 4294967296) (ha : 0 ≤ addr ∧ addr < 4294967296) : pintleref05_in.f base size addr n = some (inR base size addr n) := by
  unfold pintleref05_in.f inR
  have e1 : wrap64 addr = addr := by unfold wrap64; omega
  have e2 : wrap64 base = base := by unfold wrap64; omega
  have e3 : wrap64 (wrap64 (wrap64 base + wrap64 size) - addr) = base + size - addr := by unfold wrap64; omega
  rw [e1, e2] 
  rw [e2] at e3
  rw [e3]
  by_cases h : 0 ≤ n
  · by_cases h2 : base ≤ addr
    · simp [h, h2]
    · simp [h, h2]
  · simp [h]
set_option maxHeartbeats 4000000 in
theorem refram_calls (base g : Nat) (F FS R RS a n : Int) (L : List S138) (w : World) (hm : RefAt w base g F FS R RS L) (hb : 0 ≤ R ∧ R < 4294967296) (hs : 0 ≤ RS ∧ RS < 4294967296) (ha : 0 ≤ a ∧ a < 4294967296) :
    Calls Try.prog 107 #[.pointer (some ⟨g, 0, none⟩), .int .u32 a, .int .i64 n] w fun e w' => e = .returned (.bool (inR R RS a n)) ∧ Drawn0 w w' := by
  obtain ⟨A, c, hblk, _, _⟩ := hm
  have HI := Aside0.mk (in_eq (n := n) hb hs ha)
  have q2 := blk_cell hblk 2
  have q3 := blk_cell hblk 3
  clear hb hs ha hblk
  go_enter Try.func107, Try.ntmps107
  go_wp2_with (first | (go_at_call 118; (with_reducible refine (pintleref05_in.calls R RS a n _ _ HI.out).mono ?_); rintro e w' ⟨rfl, ⟨nd, rfl⟩⟩; (try first | exact ⟨rfl, _, World.drewN_drewN _ _ _⟩ | exact ⟨rfl, _, Eq.trans (World.drewN_drewN _ _ _) (congrArg (World.drewN _) (Nat.add_assoc _ _ _))⟩)))
  repeat (go_quiet (first | (go_at_call 118; (with_reducible refine (pintleref05_in.calls R RS a n _ _ HI.out).mono ?_); rintro e w' ⟨rfl, ⟨nd, rfl⟩⟩; (try first | exact ⟨rfl, _, World.drewN_drewN _ _ _⟩ | exact ⟨rfl, _, Eq.trans (World.drewN_drewN _ _ _) (congrArg (World.drewN _) (Nat.add_assoc _ _ _))⟩))); try go_wp2_with (first | (go_at_call 118; (with_reducible refine (pintleref05_in.calls R RS a n _ _ HI.out).mono ?_); rintro e w' ⟨rfl, ⟨nd, rfl⟩⟩; (try first | exact ⟨rfl, _, World.drewN_drewN _ _ _⟩ | exact ⟨rfl, _, Eq.trans (World.drewN_drewN _ _ _) (congrArg (World.drewN _) (Nat.add_assoc _ _ _))⟩))))
  go_ret
  exact ⟨rfl, by repeat (first | exact Drawn0.refl _ | apply Drawn0.step)⟩
set_option maxHeartbeats 4000000 in
theorem refflash_calls (base g : Nat) (F FS R RS a n : Int) (L : List S138) (w : World) (hm : RefAt w base g F FS R RS L) (hb : 0 ≤ F ∧ F < 4294967296) (hs : 0 ≤ FS ∧ FS < 4294967296) (ha : 0 ≤ a ∧ a < 4294967296) :
    Calls Try.prog 106 #[.pointer (some ⟨g, 0, none⟩), .int .u32 a, .int .i64 n] w fun e w' => e = .returned (.bool (inR F FS a n)) ∧ Drawn0 w w' := by
  obtain ⟨A, c, hblk, _, _⟩ := hm
  have HI := Aside0.mk (in_eq (n := n) hb hs ha)
  have q2 := blk_cell hblk 0
  have q3 := blk_cell hblk 1
  clear hb hs ha hblk
  go_enter Try.func106, Try.ntmps106
  go_wp2_with (first | (go_at_call 118; (with_reducible refine (pintleref05_in.calls F FS a n _ _ HI.out).mono ?_); rintro e w' ⟨rfl, ⟨nd, rfl⟩⟩; (try first | exact ⟨rfl, _, World.drewN_drewN _ _ _⟩ | exact ⟨rfl, _, Eq.trans (World.drewN_drewN _ _ _) (congrArg (World.drewN _) (Nat.add_assoc _ _ _))⟩)))
  repeat (go_quiet (first | (go_at_call 118; (with_reducible refine (pintleref05_in.calls F FS a n _ _ HI.out).mono ?_); rintro e w' ⟨rfl, ⟨nd, rfl⟩⟩; (try first | exact ⟨rfl, _, World.drewN_drewN _ _ _⟩ | exact ⟨rfl, _, Eq.trans (World.drewN_drewN _ _ _) (congrArg (World.drewN _) (Nat.add_assoc _ _ _))⟩))); try go_wp2_with (first | (go_at_call 118; (with_reducible refine (pintleref05_in.calls F FS a n _ _ HI.out).mono ?_); rintro e w' ⟨rfl, ⟨nd, rfl⟩⟩; (try first | exact ⟨rfl, _, World.drewN_drewN _ _ _⟩ | exact ⟨rfl, _, Eq.trans (World.drewN_drewN _ _ _) (congrArg (World.drewN _) (Nat.add_assoc _ _ _))⟩))))
  go_ret
  exact ⟨rfl, by repeat (first | exact Drawn0.refl _ | apply Drawn0.step)⟩
def atFrom (L : List S138) (a : Int) : Nat → Int
  | 0 => 0
  | k + 1 => if (rd_T138 L k).f0 = a then (rd_T138 L k).f1 else atFrom L a k
set_option maxHeartbeats 4000000 in
theorem refat_calls (base g : Nat) (F FS R RS a : Int) (L : List S138) (w : World) (hm : RefAt w base g F FS R RS L) (hL : L.length < 4611686018427387904) :
    Calls Try.prog 69 #[.pointer (some ⟨g, 0, none⟩), .int .u32 a] w fun e w' => e = .returned (.int .u8 (atFrom L a L.length)) ∧ Drawn0 w w' := by
  obtain ⟨A, c, hblk, _, hR⟩ := hm
  obtain ⟨_, hcap, hC⟩ := Kd.R_reads' hR
  have HBLK := Aside0.mk hblk
  have HC := Aside0.mk hC
  have q4 := blk_cell hblk 4
  clear hblk hR hC hcap
  obtain ⟨res, hres⟩ : ∃ res, res = atFrom L a L.length := ⟨_, rfl⟩
  have HRES := Aside0.mk hres
  rw [← hres]
  clear hres
  go_enter Try.func69, Try.ntmps69
  go_wp2
  go_loopw [5] (fun i wr => ∃ (k : Nat), k ≤ L.length ∧ i = .int .i64 ((k : Int) - 1) ∧ Aside0 (Drawn0 w wr) ∧ Aside0 (res = atFrom L a k)) (fun i _ => (intOf i + 1).toNat)
  case atStart => exact ⟨L.length, Nat.le_refl _, by go_num, ⟨Drawn0.refl _⟩, HRES⟩
  case round =>
    obtain ⟨k, hk, rfl, hbel, hv⟩ := hrel
    clear HRES q4
    have hbl : Below w.heap.size w wr := hbel.out.below
    have hbk := (hbl.block _ (blk_lt HBLK.out)).trans HBLK.out
    have q4 := blk_cell hbk 4
    clear hbk
    have HBL := Aside0.mk hbl
    clear hbl
    cases k with
    | zero =>
      go_wp2
      go_ret
      exact ⟨by rw [hv.out]; rfl, hbel.out⟩
    | succ j =>
      obtain ⟨ad, rfl, e0, e1⟩ := at_T138 HC.out (j : Int) (by omega) (by omega)
      simp only [Int.toNat_natCast] at e0 e1
      replace e0 := pw_cell_below HBL.out e0
      replace e1 := pw_cell_below HBL.out e1
      have hvv := hv.out
      unfold atFrom at hvv
      obtain ⟨y, hy⟩ : ∃ y, y = (rd_T138 L j).f0 := ⟨_, rfl⟩
      obtain ⟨z, hz⟩ : ∃ z, z = (rd_T138 L j).f1 := ⟨_, rfl⟩
      rw [← hy] at e0 hvv
      rw [← hz] at e1 hvv
      have ej : ((j + 1 : Nat) : Int) - 1 = (j : Int) := by omega
      rw [ej]
      clear hv hy hz
      by_cases h1 : y = a
      · subst h1
        rw [if_pos rfl] at hvv
        have HV := Aside0.mk hvv
        clear hvv
        go_wp2
        go_ret
        exact ⟨by rw [HV.out]; rfl, hbel.out⟩
      · rw [if_neg h1] at hvv
        have HV := Aside0.mk hvv
        have c7b0 : (y == a) = false := beq_eq_false_iff_ne.mpr h1
        clear hvv
        go_wp2
        go_roundw
        case rel => exact ⟨j, by omega, by go_num, hbel, HV⟩
        case measure => simp [intOf]
structure Fits32 (F FS R RS a : Int) : Prop where
  f : 0 ≤ F ∧ F < 4294967296
  fs : 0 ≤ FS ∧ FS < 4294967296
  r : 0 ≤ R ∧ R < 4294967296
  rs : 0 ≤ RS ∧ RS < 4294967296
  a : 0 ≤ a ∧ a < 4294967296
def hasR (F FS R RS a n : Int) : Bool := inR F FS a n || inR R RS a n
set_option maxHeartbeats 4000000 in
theorem refhas_calls (base g : Nat) (F FS R RS a n : Int) (L : List S138) (w : World) (hm : RefAt w base g F FS R RS L) (hf : Fits32 F FS R RS a) :
    Calls Try.prog 88 #[.pointer (some ⟨g, 0, none⟩), .int .u32 a, .int .i64 n] w fun e w' => e = .returned (.bool (hasR F FS R RS a n)) ∧ Drawn0 w w' := by
  have HM := Aside0.mk hm
  obtain ⟨r, hr⟩ : ∃ r, r = hasR F FS R RS a n := ⟨_, rfl⟩
  rw [← hr]
  unfold hasR at hr
  have HRM := Aside0.mk (fun W hM => refram_calls base g F FS R RS a n L W hM hf.r hf.rs hf.a)
  have HFL := Aside0.mk (fun W hM => refflash_calls base g F FS R RS a n L W hM hf.f hf.fs hf.a)
  cases h1 : inR F FS a n
  · rw [h1] at hr HFL
    obtain ⟨b, hb⟩ : ∃ b, b = inR R RS a n := ⟨_, rfl⟩
    rw [← hb] at hr HRM
    obtain rfl : r = b := hr
    clear hm hb h1 hf
    go_enter Try.func88, Try.ntmps88
    go_wp2_with (first | (go_at_call 106; (with_reducible refine (HFL.out _ (by first | exact HM.out | exact HM.out.drewN _)).mono ?_); rintro e w' ⟨rfl, ⟨nd, rfl⟩⟩; (try first | exact ⟨rfl, _, World.drewN_drewN _ _ _⟩ | exact ⟨rfl, _, Eq.trans (World.drewN_drewN _ _ _) (congrArg (World.drewN _) (Nat.add_assoc _ _ _))⟩)) | (go_at_call 107; (with_reducible refine (HRM.out _ (by first | exact HM.out | exact HM.out.drewN _)).mono ?_); rintro e w' ⟨rfl, ⟨nd, rfl⟩⟩; (try first | exact ⟨rfl, _, World.drewN_drewN _ _ _⟩ | exact ⟨rfl, _, Eq.trans (World.drewN_drewN _ _ _) (congrArg (World.drewN _) (Nat.add_assoc _ _ _))⟩)))
    repeat (go_quiet (first | (go_at_call 106; (with_reducible refine (HFL.out _ (by first | exact HM.out | exact HM.out.drewN _)).mono ?_); rintro e w' ⟨rfl, ⟨nd, rfl⟩⟩; (try first | exact ⟨rfl, _, World.drewN_drewN _ _ _⟩ | exact ⟨rfl, _, Eq.trans (World.drewN_drewN _ _ _) (congrArg (World.drewN _) (Nat.add_assoc _ _ _))⟩)) | (go_at_call 107; (with_reducible refine (HRM.out _ (by first | exact HM.out | exact HM.out.drewN _)).mono ?_); rintro e w' ⟨rfl, ⟨nd, rfl⟩⟩; (try first | exact ⟨rfl, _, World.drewN_drewN _ _ _⟩ | exact ⟨rfl, _, Eq.trans (World.drewN_drewN _ _ _) (congrArg (World.drewN _) (Nat.add_assoc _ _ _))⟩))); try go_wp2_with (first | (go_at_call 106; (with_reducible refine (HFL.out _ (by first | exact HM.out | exact HM.out.drewN _)).mono ?_); rintro e w' ⟨rfl, ⟨nd, rfl⟩⟩; (try first | exact ⟨rfl, _, World.drewN_drewN _ _ _⟩ | exact ⟨rfl, _, Eq.trans (World.drewN_drewN _ _ _) (congrArg (World.drewN _) (Nat.add_assoc _ _ _))⟩)) | (go_at_call 107; (with_reducible refine (HRM.out _ (by first | exact HM.out | exact HM.out.drewN _)).mono ?_); rintro e w' ⟨rfl, ⟨nd, rfl⟩⟩; (try first | exact ⟨rfl, _, World.drewN_drewN _ _ _⟩ | exact ⟨rfl, _, Eq.trans (World.drewN_drewN _ _ _) (congrArg (World.drewN _) (Nat.add_assoc _ _ _))⟩))))
    go_ret
    exact ⟨rfl, by repeat (first | exact Drawn0.refl _ | apply Drawn0.step)⟩
  · rw [h1] at hr HFL
    obtain rfl : r = true := hr
    clear hm h1 hf
    go_enter Try.func88, Try.ntmps88
    go_wp2_with (first | (go_at_call 106; (with_reducible refine (HFL.out _ (by first | exact HM.out | exact HM.out.drewN _)).mono ?_); rintro e w' ⟨rfl, ⟨nd, rfl⟩⟩; (try first | exact ⟨rfl, _, World.drewN_drewN _ _ _⟩ | exact ⟨rfl, _, Eq.trans (World.drewN_drewN _ _ _) (congrArg (World.drewN _) (Nat.add_assoc _ _ _))⟩)))
    repeat (go_quiet (first | (go_at_call 106; (with_reducible refine (HFL.out _ (by first | exact HM.out | exact HM.out.drewN _)).mono ?_); rintro e w' ⟨rfl, ⟨nd, rfl⟩⟩; (try first | exact ⟨rfl, _, World.drewN_drewN _ _ _⟩ | exact ⟨rfl, _, Eq.trans (World.drewN_drewN _ _ _) (congrArg (World.drewN _) (Nat.add_assoc _ _ _))⟩))); try go_wp2_with (first | (go_at_call 106; (with_reducible refine (HFL.out _ (by first | exact HM.out | exact HM.out.drewN _)).mono ?_); rintro e w' ⟨rfl, ⟨nd, rfl⟩⟩; (try first | exact ⟨rfl, _, World.drewN_drewN _ _ _⟩ | exact ⟨rfl, _, Eq.trans (World.drewN_drewN _ _ _) (congrArg (World.drewN _) (Nat.add_assoc _ _ _))⟩))))
    go_ret
    exact ⟨rfl, by repeat (first | exact Drawn0.refl _ | apply Drawn0.step)⟩

def wordR (L : List S138) (a : Int) : Nat → Int → Int
  | 0, acc => acc
  | k + 1, acc => wordR L a k ((acc * 256 + atFrom L ((a + (k : Int)) % 4294967296) L.length) % 4294967296)
set_option maxHeartbeats 400000 in
theorem refword_calls (base g : Nat) (F FS R RS a : Int) (n : Nat) (L : List S138) (w : World) (hm : RefAt w base g F FS R RS L) (hL : L.length < 4611686018427387904) (hn : n < 4611686018427387904) :
    Calls Try.prog 119 #[.pointer (some ⟨g, 0, none⟩), .int .u32 a, .int .i64 n] w fun e w' => e = .returned (.int .u32 (wordR L a n 0)) ∧ Drawn0 w w' := by
  have HM := Aside0.mk hm
  have HL := Aside0.mk hL
  clear hm hL
  obtain ⟨res, hres⟩ : ∃ res, res = wordR L a n 0 := ⟨_, rfl⟩
  have HRES := Aside0.mk hres
  rw [← hres]
  clear hres
  go_enter Try.func119, Try.ntmps119
  go_wp2
  go_loopw [7, 8] (fun x i wr => ∃ (k : Nat) (acc : Int), k ≤ n ∧ x = .int .u32 acc ∧ i = .int .i64 ((k : Int) - 1) ∧ Aside0 (Drawn0 w wr) ∧ Aside0 (res = wordR L a k acc)) (fun _ i _ => (intOf i + 1).toNat)
  case atStart => exact ⟨n, 0, Nat.le_refl _, rfl, by go_num, ⟨Drawn0.refl _⟩, HRES⟩
  case round =>
    obtain ⟨k, acc, hk, rfl, rfl, hdr, hv⟩ := hrel
    clear HRES
    cases k with
    | zero =>
      go_wp2
      go_ret
      exact ⟨by rw [hv.out]; rfl, hdr.out⟩
    | succ j =>
      have hvv := hv.out
      unfold wordR at hvv
      have ej : ((j + 1 : Nat) : Int) - 1 = (j : Int) := by omega
      rw [ej]
      have hc := refat_calls base g F FS R RS ((a + (j : Int)) % 4294967296) L wr (HM.out.below hdr.out.below) HL.out
      obtain ⟨y, hy⟩ : ∃ y, y = atFrom L ((a + (j : Int)) % 4294967296) L.length := ⟨_, rfl⟩
      rw [← hy] at hvv hc
      have HV := Aside0.mk hvv
      have HC := Aside0.mk hc
      clear hv hy hvv hc
      go_wp2_with (go_at_call 69; (with_reducible refine HC.out.mono ?_); rintro e w' ⟨rfl, ⟨nd, rfl⟩⟩)
      go_roundw
      case rel =>
        exact ⟨j, (acc * 256 + y) % 4294967296, by omega, by go_num, by go_num, ⟨by repeat (first | exact hdr.out | apply Drawn0.step)⟩, HV⟩
      case measure => simp [intOf]
def refLoadV (F FS R RS : Int) (L : List S138) (a size : Int) : Int × Int :=
  if ¬ sizedP size then (0, 3) else if a % size ≠ 0 then (0, 1) else if hasR F FS R RS a size then (wordR L a size.toNat 0, 0) else (0, 3)
set_option maxHeartbeats 4000000 in
theorem refload_calls (base g : Nat) (F FS R RS a size : Int) (L : List S138) (w : World) (hm : RefAt w base g F FS R RS L) (hL : L.length < 4611686018427387904) (hf : Fits32 F FS R RS a) :
    Calls Try.prog 109 #[.pointer (some ⟨g, 0, none⟩), .int .u32 a, .int .i64 size] w fun e w' => e = .returned (.tuple #[.int .u32 (refLoadV F FS R RS L a size).1, .int .i64 (refLoadV F FS R RS L a size).2]) ∧ Drawn0 w w' := by
  obtain ⟨V, hV⟩ : ∃ V, V = refLoadV F FS R RS L a size := ⟨_, rfl⟩
  rw [← hV]
  unfold refLoadV at hV
  have HM := Aside0.mk hm
  have ha0 := hf.a.1
  have ha := hf.a.2
  have HHAS := Aside0.mk (fun W hM => refhas_calls base g F FS R RS a size L W hM hf)
  by_cases hs : sizedP size
  · have HW := Aside0.mk (show ∀ W, RefAt W base g F FS R RS L → Calls Try.prog 119 #[.pointer (some ⟨g, 0, none⟩), .int .u32 a, .int .i64 size] W fun e w' => e = .returned (.int .u32 (wordR L a size.toNat 0)) ∧ Drawn0 W w' from fun W hM => by
      have e : size = (size.toNat : Int) := by rcases hs with rfl | rfl | rfl <;> rfl
      rw [e]
      exact refword_calls base g F FS R RS a size.toNat L W hM hL (by rcases hs with rfl | rfl | rfl <;> decide))
    clear hm hf hL
    rw [if_neg (by simpa using hs)] at hV
    by_cases hal : a % size = 0
    · rw [if_neg (by simpa using hal)] at hV
      cases h1 : hasR F FS R RS a size
      · rw [h1] at hV HHAS
        have HV := Aside0.mk hV
        clear hV h1
        rcases hs with rfl | rfl | rfl
        all_goals go_enter Try.func109, Try.ntmps109
        all_goals
          go_wp2_with (first | (go_at_call 88; (with_reducible refine (HHAS.out _ (by first | exact HM.out | exact HM.out.drewN _)).mono ?_); rintro e w' ⟨rfl, ⟨nd, rfl⟩⟩; (try first | exact ⟨rfl, _, World.drewN_drewN _ _ _⟩ | exact ⟨rfl, _, Eq.trans (World.drewN_drewN _ _ _) (congrArg (World.drewN _) (Nat.add_assoc _ _ _))⟩)))
          repeat (go_quiet (first | (go_at_call 88; (with_reducible refine (HHAS.out _ (by first | exact HM.out | exact HM.out.drewN _)).mono ?_); rintro e w' ⟨rfl, ⟨nd, rfl⟩⟩; (try first | exact ⟨rfl, _, World.drewN_drewN _ _ _⟩ | exact ⟨rfl, _, Eq.trans (World.drewN_drewN _ _ _) (congrArg (World.drewN _) (Nat.add_assoc _ _ _))⟩))); try go_wp2_with (first | (go_at_call 88; (with_reducible refine (HHAS.out _ (by first | exact HM.out | exact HM.out.drewN _)).mono ?_); rintro e w' ⟨rfl, ⟨nd, rfl⟩⟩; (try first | exact ⟨rfl, _, World.drewN_drewN _ _ _⟩ | exact ⟨rfl, _, Eq.trans (World.drewN_drewN _ _ _) (congrArg (World.drewN _) (Nat.add_assoc _ _ _))⟩))))
        all_goals go_ret2
        all_goals exact ⟨by rw [HV.out]; rfl, by repeat (first | exact Drawn0.refl _ | apply Drawn0.step)⟩
      · rw [h1] at hV HHAS
        have HV := Aside0.mk hV
        clear hV h1
        rcases hs with rfl | rfl | rfl
        all_goals go_enter Try.func109, Try.ntmps109
        all_goals
          go_wp2_with (first | (go_at_call 88; (with_reducible refine (HHAS.out _ (by first | exact HM.out | exact HM.out.drewN _)).mono ?_); rintro e w' ⟨rfl, ⟨nd, rfl⟩⟩; (try first | exact ⟨rfl, _, World.drewN_drewN _ _ _⟩ | exact ⟨rfl, _, Eq.trans (World.drewN_drewN _ _ _) (congrArg (World.drewN _) (Nat.add_assoc _ _ _))⟩)) | (go_at_call 119; refine (HW.out _ (HM.out.drewN _)).mono ?_; rintro e w' ⟨rfl, ⟨nd, rfl⟩⟩; (try first | exact ⟨rfl, _, World.drewN_drewN _ _ _⟩ | exact ⟨rfl, _, Eq.trans (World.drewN_drewN _ _ _) (congrArg (World.drewN _) (Nat.add_assoc _ _ _))⟩)))
          repeat (go_quiet (first | (go_at_call 88; (with_reducible refine (HHAS.out _ (by first | exact HM.out | exact HM.out.drewN _)).mono ?_); rintro e w' ⟨rfl, ⟨nd, rfl⟩⟩; (try first | exact ⟨rfl, _, World.drewN_drewN _ _ _⟩ | exact ⟨rfl, _, Eq.trans (World.drewN_drewN _ _ _) (congrArg (World.drewN _) (Nat.add_assoc _ _ _))⟩)) | (go_at_call 119; refine (HW.out _ (HM.out.drewN _)).mono ?_; rintro e w' ⟨rfl, ⟨nd, rfl⟩⟩; (try first | exact ⟨rfl, _, World.drewN_drewN _ _ _⟩ | exact ⟨rfl, _, Eq.trans (World.drewN_drewN _ _ _) (congrArg (World.drewN _) (Nat.add_assoc _ _ _))⟩))); try go_wp2_with (first | (go_at_call 88; (with_reducible refine (HHAS.out _ (by first | exact HM.out | exact HM.out.drewN _)).mono ?_); rintro e w' ⟨rfl, ⟨nd, rfl⟩⟩; (try first | exact ⟨rfl, _, World.drewN_drewN _ _ _⟩ | exact ⟨rfl, _, Eq.trans (World.drewN_drewN _ _ _) (congrArg (World.drewN _) (Nat.add_assoc _ _ _))⟩)) | (go_at_call 119; refine (HW.out _ (HM.out.drewN _)).mono ?_; rintro e w' ⟨rfl, ⟨nd, rfl⟩⟩; (try first | exact ⟨rfl, _, World.drewN_drewN _ _ _⟩ | exact ⟨rfl, _, Eq.trans (World.drewN_drewN _ _ _) (congrArg (World.drewN _) (Nat.add_assoc _ _ _))⟩))))
        all_goals go_ret2
        all_goals exact ⟨by rw [HV.out]; rfl, by repeat (first | exact Drawn0.refl _ | apply Drawn0.step)⟩
    · rw [if_pos (by simpa using hal)] at hV
      have HV := Aside0.mk hV
      clear hV
      rcases hs with rfl | rfl | rfl
      · exact absurd (Int.emod_one a) hal
      all_goals go_enter Try.func109, Try.ntmps109
      all_goals go_wp2
      all_goals exact bodyPost_ret (v := .tuple #[.int .u32 0, .int .i64 1]) (by simp [results, Try.results11, go_sem]) rfl ⟨by rw [HV.out], Drawn0.refl _⟩
  · rw [if_pos (by simpa using hs)] at hV
    have HV := Aside0.mk hV
    have h1 : (size == 1) = false := beq_eq_false_iff_ne.mpr (fun h => hs (.inl h))
    have h2 : (size == 2) = false := beq_eq_false_iff_ne.mpr (fun h => hs (.inr (.inl h)))
    have h4 : (size == 4) = false := beq_eq_false_iff_ne.mpr (fun h => hs (.inr (.inr h)))
    have h1' : (size != 1) = true := bne_iff_ne.mpr (fun h => hs (.inl h))
    have h2' : (size != 2) = true := bne_iff_ne.mpr (fun h => hs (.inr (.inl h)))
    have h4' : (size != 4) = true := bne_iff_ne.mpr (fun h => hs (.inr (.inr h)))
    clear hV hs hm hf hL HHAS
    go_enter Try.func109, Try.ntmps109
    go_wp2
    exact bodyPost_ret (v := .tuple #[.int .u32 0, .int .i64 3]) (by simp [results, Try.results11, go_sem]) rfl ⟨by rw [HV.out], Drawn0.refl _⟩
def KeepT (w w' : World) : Prop := ∀ (k : Nat) (cs : Array Value) (t : TypeId) (fr : Nat × Nat), w.heap[k]? = some (.cells cs t fr) → t ≠ 85 → t ≠ 138 → w'.heap[k]? = some (.cells cs t fr)
theorem KeepT.refl (w : World) : KeepT w w := fun _ _ _ _ h _ _ => h
theorem KeepT.trans {w w1 w2 : World} (h1 : KeepT w w1) (h2 : KeepT w1 w2) : KeepT w w2 := fun k cs t fr h a b => h2 k cs t fr (h1 k cs t fr h a b) a b
theorem KeepT.below {w w' : World} (h : Below w.heap.size w w') : KeepT w w' := fun k cs t fr hk _ _ => (h.block _ (blk_lt hk)).trans hk
def refWrites (a x : Int) : Nat → List S138
  | 0 => []
  | k + 1 => refWrites a x k ++ [⟨a + (k : Int), x / 256 ^ k % 256⟩]
theorem refWrites_length (a x : Int) : ∀ n, (refWrites a x n).length = n
  | 0 => rfl
  | k + 1 => by unfold refWrites; rw [List.length_append, refWrites_length a x k]; rfl
def refStoreT (R RS a size : Int) : Int :=
  if ¬ sizedP size then 4 else if a % size ≠ 0 then 1 else if inR R RS a size then 0 else 4
def RefTold (w : World) (base g : Nat) (F FS R RS : Int) (L : List S138) (v : Value) (e : Ending) (w' : World) : Prop :=
  e = .returned v ∧ RefAt w' base g F FS R RS L ∧ KeepT w w' ∧ Below base w w'
theorem info138 : (Try.prog.info? 138).map (fun i => (i.zero, i.size, i.bytes)) = some (some (.agg #[(.int .u32 0), (.int .u8 0)]), 2, 8) := by kernel_rfl
theorem RefAt.put {w w1 : World} {base g : Nat} {F FS R RS : Int} {L : List S138} {A : Option Addr} {c : Nat} {v1 : Value} {p : S138}
    (hblk : w.heap[g]? = some (.cells #[.int .u32 F, .int .u32 FS, .int .u32 R, .int .u32 RS, .slice A L.length c] 85 (0, 0))) (hg : base ≤ g)
    (hO : Kd.R k138 138 w base (fun k => k ≠ g) (.slice A L.length c) L)
    (ho : Kd.R k138 138 w1 base (fun k => k ≠ g) v1 (L ++ [p])) (hgr : w.grownBy w1 (Value.slice A L.length c).ownBlock) :
    RefAt (w1.setCell ⟨g, 4, none⟩ v1) base g F FS R RS (L ++ [p]) ∧ KeepT w (w1.setCell ⟨g, 4, none⟩ v1) := by
  obtain ⟨A1, c1, rfl⟩ := Kd.R_slice ho
  have hne : some g ≠ (Value.slice A L.length c).ownBlock := Kd.R_ne hO hblk (by decide)
  have hb1 : w1.heap[g]? = _ := (hgr.block g (blk_lt hblk) hne).trans hblk
  refine ⟨⟨A1, c1, ?_, hg, ?_⟩, ?_⟩
  · exact heap_setCell_same w1 g 4 _ _ _ hb1
  · exact Kd.R_far ho (fun k hk => hk) _
  · intro k cs t fr hk h34 h62
    have hkg : k ≠ g := by
      rintro rfl
      rw [hblk] at hk
      injection hk with hk
      injection hk with _ h _
      exact h34 h.symm
    rw [heap_setCell_other _ _ _ _ hkg]
    refine (hgr.block k (blk_lt hk) ?_).trans hk
    intro he
    obtain ⟨cells, hc⟩ := Kd.R_typed hO k he.symm
    rw [hc] at hk
    injection hk with hk
    injection hk with _ h _
    exact h62 h.symm
set_option maxHeartbeats 4000000 in
theorem refstore_1 (base g : Nat) (F FS R RS a x : Int) (L : List S138) (w : World) (hm : RefAt w base g F FS R RS L) (hbase : base ≤ w.heap.size) (hf : Fits32 F FS R RS a) (hx : 0 ≤ x ∧ x < 4294967296) (hL : L.length < 4294967296) (hal : a % 1 = 0) (hr : inR R RS a 1 = true) :
    Calls Try.prog 108 #[.pointer (some ⟨g, 0, none⟩), .int .u32 a, .int .i64 1, .int .u32 x] w (RefTold w base g F FS R RS (L ++ refWrites a x 1) (.int .i64 0)) := by
  have HRM := Aside0.mk (fun W hM => refram_calls base g F FS R RS a 1 L W hM hf.r hf.rs hf.a)
  rw [hr] at HRM
  have HM := Aside0.mk hm
  have ha0 := hf.a.1
  have ha := hf.a.2
  have HX := Aside0.mk hx
  have HL := Aside0.mk hL
  have HB := Aside0.mk hbase
  clear hm hr hf hx hL hbase
  go_enter Try.func108, Try.ntmps108
  go_wp2_with (first | (go_at_call 107; refine (HRM.out _ HM.out).mono ?_; rintro e w' ⟨rfl, ⟨nd, rfl⟩⟩))
  go_loopw [3, 9] (fun u i wr => ∃ k : Nat, k ≤ 1 ∧ u = .int .u32 (x / 256 ^ k) ∧ i = .int .i64 k ∧ Aside0 (RefAt wr base g F FS R RS (L ++ refWrites a x k)) ∧ Aside0 (KeepT w wr) ∧ Aside0 (Below base w wr)) (fun _ i _ => 1 - (intOf i).toNat)
  case atStart => exact ⟨0, by omega, by simp, rfl, ⟨by rw [show refWrites a x 0 = [] from rfl, List.append_nil]; exact HM.out.drewN _⟩, ⟨KeepT.below (pw_below_drewN (Below.refl _ _) _)⟩, ⟨pw_below_drewN (Below.refl _ _) _⟩⟩
  case round =>
    obtain ⟨k, hk, rfl, rfl, hR, hK, hB⟩ := hrel
    obtain ⟨L1, hL1⟩ : ∃ L1, L1 = L ++ refWrites a x k := ⟨_, rfl⟩
    have hlen : L1.length = L.length + k := by rw [hL1, List.length_append, refWrites_length]
    by_cases hlt : k < 1
    · have HE := Aside0.mk (show L1 ++ [⟨a + (k : Int), x / 256 ^ k % 256⟩] = L ++ refWrites a x (k + 1) by rw [hL1, List.append_assoc]; rfl)
      rw [← hL1] at hR
      have hw1 : 0 ≤ x / 256 ^ k := Int.ediv_nonneg HX.out.1 (Int.pow_nonneg (by decide))
      have hw2 : x / 256 ^ k < 4294967296 := Int.lt_of_le_of_lt (Int.ediv_le_self _ HX.out.1) HX.out.2
      have hw3 : x / 256 ^ k / 256 = x / 256 ^ (k + 1) := by rw [Int.pow_succ, Int.ediv_ediv_of_nonneg (Int.pow_nonneg (by decide))]
      obtain ⟨y, hy⟩ : ∃ y, y = x / 256 ^ k := ⟨_, rfl⟩
      rw [← hy] at hw1 hw2 hw3 HE
      rw [← hy]
      have HY := Aside0.mk hw3
      have hl62 : L1.length < 5000000000 := by have := HL.out; omega
      have hmod : (a + (k : Int)) % 4294967296 = a + (k : Int) := by omega
      have hltb : decide ((k : Int) < 1) = true := decide_eq_true (by omega)
      clear hw3 hy hL1 hlen
      obtain ⟨A, c, hblk, hg, hO⟩ := hR.out
      have q4 := blk_cell hblk 4
      have f4 := blk_frozen hblk 4
      have HG := Aside0.mk hblk
      have HG2 := Aside0.mk hg
      have HO := Aside0.mk hO
      have hlt2 := blk_lt hblk
      clear hblk hO hg
      go_wp2_with ((with_reducible refine gate_builtin (b := .append) (xs := #[.tmp 39, .tmp 48]) rfl ?_); at_builtin; go_loud (refine Kd.R_append k138 (w0 := wr) base rfl (.tmp 39) (.tmp 48) 83 138 (.agg #[(.int .u32 0), (.int .u8 0)]) 8 rfl Try.underlying83 info138 rfl (by decide) (by omega) (.slice A L1.length c) L1 ⟨a + (k : Int), y % 256⟩ [.int .u32 (a + (k : Int)), .int .u8 (y % 256)] (fun k => k ≠ g) (fun _ => False) rfl rfl (k138_mkM _ _ _ _) (fun _ hk => hk.elim) (fun k hk => by omega) HO.out (Below.refl _ _) (by have := HG2.out; omega) (by omega) ?_); intro v1 w1 ho hb hgr hat; obtain ⟨A1, c1, hv⟩ := Kd.R_slice ho; rw [List.length_append, List.length_singleton] at hv; subst hv; have HP := Aside0.mk (RefAt.put HG.out HG2.out HO.out ho hgr); have HB1 := Aside0.mk hb; have hb1 := (hgr.block g hlt2 (Kd.R_ne HO.out HG.out (by decide))).trans HG.out; have q4' := blk_cell hb1 4; have f4' := blk_frozen hb1 4; clear ho hb hgr hat hb1 q4 f4)
      go_roundw
      case rel => exact ⟨k + 1, by omega, by rw [HY.out], by go_num, ⟨by rw [← HE.out]; exact HP.out.1⟩, ⟨hK.out.trans HP.out.2⟩, ⟨(hB.out.trans HB1.out).setCell HG2.out _⟩⟩
      case measure => simp [intOf]; omega
    · obtain rfl : k = 1 := by omega
      go_wp2
      exact bodyPost_ret (v := .int .i64 0) (by simp [results, Try.results13, go_sem]) rfl ⟨rfl, hR.out, hK.out, hB.out⟩
set_option maxHeartbeats 4000000 in
theorem refstore_2 (base g : Nat) (F FS R RS a x : Int) (L : List S138) (w : World) (hm : RefAt w base g F FS R RS L) (hbase : base ≤ w.heap.size) (hf : Fits32 F FS R RS a) (hx : 0 ≤ x ∧ x < 4294967296) (hL : L.length < 4294967296) (hal : a % 2 = 0) (hr : inR R RS a 2 = true) :
    Calls Try.prog 108 #[.pointer (some ⟨g, 0, none⟩), .int .u32 a, .int .i64 2, .int .u32 x] w (RefTold w base g F FS R RS (L ++ refWrites a x 2) (.int .i64 0)) := by
  have HRM := Aside0.mk (fun W hM => refram_calls base g F FS R RS a 2 L W hM hf.r hf.rs hf.a)
  rw [hr] at HRM
  have HM := Aside0.mk hm
  have ha0 := hf.a.1
  have ha := hf.a.2
  have HX := Aside0.mk hx
  have HL := Aside0.mk hL
  have HB := Aside0.mk hbase
  clear hm hr hf hx hL hbase
  go_enter Try.func108, Try.ntmps108
  go_wp2_with (first | (go_at_call 107; refine (HRM.out _ HM.out).mono ?_; rintro e w' ⟨rfl, ⟨nd, rfl⟩⟩))
  go_loopw [3, 9] (fun u i wr => ∃ k : Nat, k ≤ 2 ∧ u = .int .u32 (x / 256 ^ k) ∧ i = .int .i64 k ∧ Aside0 (RefAt wr base g F FS R RS (L ++ refWrites a x k)) ∧ Aside0 (KeepT w wr) ∧ Aside0 (Below base w wr)) (fun _ i _ => 2 - (intOf i).toNat)
  case atStart => exact ⟨0, by omega, by simp, rfl, ⟨by rw [show refWrites a x 0 = [] from rfl, List.append_nil]; exact HM.out.drewN _⟩, ⟨KeepT.below (pw_below_drewN (Below.refl _ _) _)⟩, ⟨pw_below_drewN (Below.refl _ _) _⟩⟩
  case round =>
    obtain ⟨k, hk, rfl, rfl, hR, hK, hB⟩ := hrel
    obtain ⟨L1, hL1⟩ : ∃ L1, L1 = L ++ refWrites a x k := ⟨_, rfl⟩
    have hlen : L1.length = L.length + k := by rw [hL1, List.length_append, refWrites_length]
    by_cases hlt : k < 2
    · have HE := Aside0.mk (show L1 ++ [⟨a + (k : Int), x / 256 ^ k % 256⟩] = L ++ refWrites a x (k + 1) by rw [hL1, List.append_assoc]; rfl)
      rw [← hL1] at hR
      have hw1 : 0 ≤ x / 256 ^ k := Int.ediv_nonneg HX.out.1 (Int.pow_nonneg (by decide))
      have hw2 : x / 256 ^ k < 4294967296 := Int.lt_of_le_of_lt (Int.ediv_le_self _ HX.out.1) HX.out.2
      have hw3 : x / 256 ^ k / 256 = x / 256 ^ (k + 1) := by rw [Int.pow_succ, Int.ediv_ediv_of_nonneg (Int.pow_nonneg (by decide))]
      obtain ⟨y, hy⟩ : ∃ y, y = x / 256 ^ k := ⟨_, rfl⟩
      rw [← hy] at hw1 hw2 hw3 HE
      rw [← hy]
      have HY := Aside0.mk hw3
      have hl62 : L1.length < 5000000000 := by have := HL.out; omega
      have hmod : (a + (k : Int)) % 4294967296 = a + (k : Int) := by omega
      have hltb : decide ((k : Int) < 2) = true := decide_eq_true (by omega)
      clear hw3 hy hL1 hlen
      obtain ⟨A, c, hblk, hg, hO⟩ := hR.out
      have q4 := blk_cell hblk 4
      have f4 := blk_frozen hblk 4
      have HG := Aside0.mk hblk
      have HG2 := Aside0.mk hg
      have HO := Aside0.mk hO
      have hlt2 := blk_lt hblk
      clear hblk hO hg
      go_wp2_with ((with_reducible refine gate_builtin (b := .append) (xs := #[.tmp 39, .tmp 48]) rfl ?_); at_builtin; go_loud (refine Kd.R_append k138 (w0 := wr) base rfl (.tmp 39) (.tmp 48) 83 138 (.agg #[(.int .u32 0), (.int .u8 0)]) 8 rfl Try.underlying83 info138 rfl (by decide) (by omega) (.slice A L1.length c) L1 ⟨a + (k : Int), y % 256⟩ [.int .u32 (a + (k : Int)), .int .u8 (y % 256)] (fun k => k ≠ g) (fun _ => False) rfl rfl (k138_mkM _ _ _ _) (fun _ hk => hk.elim) (fun k hk => by omega) HO.out (Below.refl _ _) (by have := HG2.out; omega) (by omega) ?_); intro v1 w1 ho hb hgr hat; obtain ⟨A1, c1, hv⟩ := Kd.R_slice ho; rw [List.length_append, List.length_singleton] at hv; subst hv; have HP := Aside0.mk (RefAt.put HG.out HG2.out HO.out ho hgr); have HB1 := Aside0.mk hb; have hb1 := (hgr.block g hlt2 (Kd.R_ne HO.out HG.out (by decide))).trans HG.out; have q4' := blk_cell hb1 4; have f4' := blk_frozen hb1 4; clear ho hb hgr hat hb1 q4 f4)
      go_roundw
      case rel => exact ⟨k + 1, by omega, by rw [HY.out], by go_num, ⟨by rw [← HE.out]; exact HP.out.1⟩, ⟨hK.out.trans HP.out.2⟩, ⟨(hB.out.trans HB1.out).setCell HG2.out _⟩⟩
      case measure => simp [intOf]; omega
    · obtain rfl : k = 2 := by omega
      go_wp2
      exact bodyPost_ret (v := .int .i64 0) (by simp [results, Try.results13, go_sem]) rfl ⟨rfl, hR.out, hK.out, hB.out⟩
set_option maxHeartbeats 4000000 in
theorem refstore_4 (base g : Nat) (F FS R RS a x : Int) (L : List S138) (w : World) (hm : RefAt w base g F FS R RS L) (hbase : base ≤ w.heap.size) (hf : Fits32 F FS R RS a) (hx : 0 ≤ x ∧ x < 4294967296) (hL : L.length < 4294967296) (hal : a % 4 = 0) (hr : inR R RS a 4 = true) :
    Calls Try.prog 108 #[.pointer (some ⟨g, 0, none⟩), .int .u32 a, .int .i64 4, .int .u32 x] w (RefTold w base g F FS R RS (L ++ refWrites a x 4) (.int .i64 0)) := by
  have HRM := Aside0.mk (fun W hM => refram_calls base g F FS R RS a 4 L W hM hf.r hf.rs hf.a)
  rw [hr] at HRM
  have HM := Aside0.mk hm
  have ha0 := hf.a.1
  have ha := hf.a.2
  have HX := Aside0.mk hx
  have HL := Aside0.mk hL
  have HB := Aside0.mk hbase
  clear hm hr hf hx hL hbase
  go_enter Try.func108, Try.ntmps108
  go_wp2_with (first | (go_at_call 107; refine (HRM.out _ HM.out).mono ?_; rintro e w' ⟨rfl, ⟨nd, rfl⟩⟩))
  go_loopw [3, 9] (fun u i wr => ∃ k : Nat, k ≤ 4 ∧ u = .int .u32 (x / 256 ^ k) ∧ i = .int .i64 k ∧ Aside0 (RefAt wr base g F FS R RS (L ++ refWrites a x k)) ∧ Aside0 (KeepT w wr) ∧ Aside0 (Below base w wr)) (fun _ i _ => 4 - (intOf i).toNat)
  case atStart => exact ⟨0, by omega, by simp, rfl, ⟨by rw [show refWrites a x 0 = [] from rfl, List.append_nil]; exact HM.out.drewN _⟩, ⟨KeepT.below (pw_below_drewN (Below.refl _ _) _)⟩, ⟨pw_below_drewN (Below.refl _ _) _⟩⟩
  case round =>
    obtain ⟨k, hk, rfl, rfl, hR, hK, hB⟩ := hrel
    obtain ⟨L1, hL1⟩ : ∃ L1, L1 = L ++ refWrites a x k := ⟨_, rfl⟩
    have hlen : L1.length = L.length + k := by rw [hL1, List.length_append, refWrites_length]
    by_cases hlt : k < 4
    · have HE := Aside0.mk (show L1 ++ [⟨a + (k : Int), x / 256 ^ k % 256⟩] = L ++ refWrites a x (k + 1) by rw [hL1, List.append_assoc]; rfl)
      rw [← hL1] at hR
      have hw1 : 0 ≤ x / 256 ^ k := Int.ediv_nonneg HX.out.1 (Int.pow_nonneg (by decide))
      have hw2 : x / 256 ^ k < 4294967296 := Int.lt_of_le_of_lt (Int.ediv_le_self _ HX.out.1) HX.out.2
      have hw3 : x / 256 ^ k / 256 = x / 256 ^ (k + 1) := by rw [Int.pow_succ, Int.ediv_ediv_of_nonneg (Int.pow_nonneg (by decide))]
      obtain ⟨y, hy⟩ : ∃ y, y = x / 256 ^ k := ⟨_, rfl⟩
      rw [← hy] at hw1 hw2 hw3 HE
      rw [← hy]
      have HY := Aside0.mk hw3
      have hl62 : L1.length < 5000000000 := by have := HL.out; omega
      have hmod : (a + (k : Int)) % 4294967296 = a + (k : Int) := by omega
      have hltb : decide ((k : Int) < 4) = true := decide_eq_true (by omega)
      clear hw3 hy hL1 hlen
      obtain ⟨A, c, hblk, hg, hO⟩ := hR.out
      have q4 := blk_cell hblk 4
      have f4 := blk_frozen hblk 4
      have HG := Aside0.mk hblk
      have HG2 := Aside0.mk hg
      have HO := Aside0.mk hO
      have hlt2 := blk_lt hblk
      clear hblk hO hg
      go_wp2_with ((with_reducible refine gate_builtin (b := .append) (xs := #[.tmp 39, .tmp 48]) rfl ?_); at_builtin; go_loud (refine Kd.R_append k138 (w0 := wr) base rfl (.tmp 39) (.tmp 48) 83 138 (.agg #[(.int .u32 0), (.int .u8 0)]) 8 rfl Try.underlying83 info138 rfl (by decide) (by omega) (.slice A L1.length c) L1 ⟨a + (k : Int), y % 256⟩ [.int .u32 (a + (k : Int)), .int .u8 (y % 256)] (fun k => k ≠ g) (fun _ => False) rfl rfl (k138_mkM _ _ _ _) (fun _ hk => hk.elim) (fun k hk => by omega) HO.out (Below.refl _ _) (by have := HG2.out; omega) (by omega) ?_); intro v1 w1 ho hb hgr hat; obtain ⟨A1, c1, hv⟩ := Kd.R_slice ho; rw [List.length_append, List.length_singleton] at hv; subst hv; have HP := Aside0.mk (RefAt.put HG.out HG2.out HO.out ho hgr); have HB1 := Aside0.mk hb; have hb1 := (hgr.block g hlt2 (Kd.R_ne HO.out HG.out (by decide))).trans HG.out; have q4' := blk_cell hb1 4; have f4' := blk_frozen hb1 4; clear ho hb hgr hat hb1 q4 f4)
      go_roundw
      case rel => exact ⟨k + 1, by omega, by rw [HY.out], by go_num, ⟨by rw [← HE.out]; exact HP.out.1⟩, ⟨hK.out.trans HP.out.2⟩, ⟨(hB.out.trans HB1.out).setCell HG2.out _⟩⟩
      case measure => simp [intOf]; omega
    · obtain rfl : k = 4 := by omega
      go_wp2
      exact bodyPost_ret (v := .int .i64 0) (by simp [results, Try.results13, go_sem]) rfl ⟨rfl, hR.out, hK.out, hB.out⟩
set_option maxHeartbeats 4000000 in
theorem refstore_calls (base g : Nat) (F FS R RS a size x : Int) (L : List S138) (w : World) (hm : RefAt w base g F FS R RS L) (hbase : base ≤ w.heap.size) (hf : Fits32 F FS R RS a) (hx : 0 ≤ x ∧ x < 4294967296) (hL : L.length < 4294967296) :
    Calls Try.prog 108 #[.pointer (some ⟨g, 0, none⟩), .int .u32 a, .int .i64 size, .int .u32 x] w (RefTold w base g F FS R RS (if refStoreT R RS a size = 0 then L ++ refWrites a x size.toNat else L) (.int .i64 (refStoreT R RS a size))) := by
  have HRM := Aside0.mk (fun W hM => refram_calls base g F FS R RS a size L W hM hf.r hf.rs hf.a)
  have HM := Aside0.mk hm
  have ha0 := hf.a.1
  have ha := hf.a.2
  by_cases hs : sizedP size
  · by_cases hal : a % size = 0
    · cases hr : inR R RS a size
      · have e : refStoreT R RS a size = 4 := by unfold refStoreT; rw [if_neg (by simpa using hs), if_neg (by simpa using hal), hr]; rfl
        rw [hr] at HRM
        rw [e, if_neg (by decide)]
        clear hm hf hx hL hr e hbase
        rcases hs with rfl | rfl | rfl
        all_goals go_enter Try.func108, Try.ntmps108
        all_goals go_wp2_with (first | (go_at_call 107; refine (HRM.out _ HM.out).mono ?_; rintro e w' ⟨rfl, ⟨nd, rfl⟩⟩))
        all_goals exact bodyPost_ret (v := .int .i64 4) (by simp [results, Try.results13, go_sem]) rfl ⟨rfl, HM.out.drewN _, KeepT.below (pw_below_drewN (Below.refl _ _) _), pw_below_drewN (Below.refl _ _) _⟩
      · have e : refStoreT R RS a size = 0 := by unfold refStoreT; rw [if_neg (by simpa using hs), if_neg (by simpa using hal), hr]; rfl
        rw [e, if_pos rfl]
        rcases hs with rfl | rfl | rfl
        · exact refstore_1 base g F FS R RS a x L w hm hbase hf hx hL hal hr
        · exact refstore_2 base g F FS R RS a x L w hm hbase hf hx hL hal hr
        · exact refstore_4 base g F FS R RS a x L w hm hbase hf hx hL hal hr
    · have e : refStoreT R RS a size = 1 := by unfold refStoreT; rw [if_neg (by simpa using hs), if_pos (by simpa using hal)]
      rw [e, if_neg (by decide)]
      clear hm hf hx hL e hbase HRM
      rcases hs with rfl | rfl | rfl
      · exact absurd (Int.emod_one a) hal
      all_goals go_enter Try.func108, Try.ntmps108
      all_goals go_wp2
      all_goals exact bodyPost_ret (v := .int .i64 1) (by simp [results, Try.results13, go_sem]) rfl ⟨rfl, HM.out, KeepT.refl _, Below.refl _ _⟩
  · have e : refStoreT R RS a size = 4 := by unfold refStoreT; rw [if_pos (by simpa using hs)]
    rw [e, if_neg (by decide)]
    have h1 : (size == 1) = false := beq_eq_false_iff_ne.mpr (fun h => hs (.inl h))
    have h2 : (size == 2) = false := beq_eq_false_iff_ne.mpr (fun h => hs (.inr (.inl h)))
    have h4 : (size == 4) = false := beq_eq_false_iff_ne.mpr (fun h => hs (.inr (.inr h)))
    have h1' : (size != 1) = true := bne_iff_ne.mpr (fun h => hs (.inl h))
    have h2' : (size != 2) = true := bne_iff_ne.mpr (fun h => hs (.inr (.inl h)))
    have h4' : (size != 4) = true := bne_iff_ne.mpr (fun h => hs (.inr (.inr h)))
    clear hm hf hx hL e hbase HRM hs
    go_enter Try.func108, Try.ntmps108
    go_wp2
    exact bodyPost_ret (v := .int .i64 4) (by simp [results, Try.results13, go_sem]) rfl ⟨rfl, HM.out, KeepT.refl _, Below.refl _ _⟩
def putWrites (a : Int) (l : List Int) : Nat → List S138
  | 0 => []
  | k + 1 => putWrites a l k ++ [⟨a + (k : Int), rd l k⟩]
theorem putWrites_length (a : Int) (l : List Int) : ∀ n, (putWrites a l n).length = n
  | 0 => rfl
  | k + 1 => by unfold putWrites; rw [List.length_append, putWrites_length a l k]; rfl

end Go.Proofs.Ytpeljnnbknnbmaa.PD
