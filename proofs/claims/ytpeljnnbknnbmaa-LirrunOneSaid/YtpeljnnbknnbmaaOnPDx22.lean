import Derived.Test.YtpeljnnbknnbmaaOnPDx0
import Derived.Test.YtpeljnnbknnbmaaOnPDx21
import Derived.Outline
import Derived.Deep.RegionLaw
import Derived.Deep.OwnRows
-- Written by pr.py, a driver around the kit's printer, for this seat. Not trusted: Lean checks it.
namespace Go.Proofs.Ytpeljnnbknnbmaa.PD
open Go.RowKit Go.Proofs.YtpeljnnbknnbmaaW.PrintWords Go.Proofs.YtpeljnnbknnbmaaW.PrintLast Go.Proofs.YtpeljnnbknnbmaaW.PrintMore
attribute [local go_sem] max2_int min2_int max_two min_two max_three min_three max_four min_four   -- for this text's walks alone
set_option linter.unusedVariables false
set_option linter.unusedSimpArgs false

--BREAK Derived.Outline,Derived.Deep.RegionLaw,Derived.Deep.OwnRows
/-! ### pintleref05_Memory_Put: function 64 -/
theorem drew_alloc (w : World) (o : Obj) : (w.alloc o).drew = w.drew.alloc o := rfl
set_option maxHeartbeats 4000000 in
theorem refput_yes (base g : Nat) (F FS R RS a : Int) (l : List Int) (A0 : Option Addr) (c0 : Nat) (L : List S138) (w0 w : World) (hm : RefAt w base g F FS R RS L) (hw0 : Below base w0 w) (hb0 : base = w0.heap.size) (hC : Kd.C (Kd.int .u8) w0 A0 l.length l) (hf : Fits32 F FS R RS a) (hL : L.length < 4294967296) (hl : l.length < 4294967296) (ha2 : a + l.length ≤ 4294967296) (hr : 0 < l.length → hasR F FS R RS a l.length = true) :
    Calls Try.prog 64 #[.pointer (some ⟨g, 0, none⟩), .int .u32 a, .slice A0 l.length c0] w (RefTold w base g F FS R RS (L ++ putWrites a l l.length) (.bool true)) := by
  have HHAS := Aside0.mk (fun W hM => refhas_calls base g F FS R RS a l.length L W hM hf)
  have HR := Aside0.mk hr
  have HM := Aside0.mk hm
  have ha0 := hf.a.1
  have ha := hf.a.2
  have HL := Aside0.mk hL
  have HC := Aside0.mk hC
  have HW0 := Aside0.mk hw0
  have HB0 := Aside0.mk hb0
  clear hm hr hf hL hC hw0 hb0
  go_enter Try.func64, Try.ntmps64
  rcases Nat.eq_zero_or_pos l.length with h0 | h0
  · have hd : decide (0 < (l.length : Int)) = false := decide_eq_false (by omega)
    go_wp2
    go_loopw [7] (fun i wr => ∃ k : Nat, k ≤ l.length ∧ i = .int .i64 k ∧ Aside0 (RefAt wr base g F FS R RS (L ++ putWrites a l k)) ∧ Aside0 (KeepT w wr) ∧ Aside0 (Below base w wr)) (fun i _ => l.length - (intOf i).toNat)
    case atStart => exact ⟨0, by omega, rfl, ⟨by rw [show putWrites a l 0 = [] from rfl, List.append_nil]; first | exact HM.out | exact HM.out.drewN _⟩, ⟨by first | exact KeepT.refl _ | exact KeepT.below (pw_below_drewN (Below.refl _ _) _)⟩, ⟨by first | exact Below.refl _ _ | exact pw_below_drewN (Below.refl _ _) _⟩⟩
    case round =>
      obtain ⟨k, hk, rfl, hR, hK, hB⟩ := hrel
      obtain ⟨L1, hL1⟩ : ∃ L1, L1 = L ++ putWrites a l k := ⟨_, rfl⟩
      have hlen : L1.length = L.length + k := by rw [hL1, List.length_append, putWrites_length]
      by_cases hlt : k < l.length
      · exact absurd hlt (by omega)
      · obtain rfl : k = l.length := by omega
        go_wp2
        exact bodyPost_ret (v := .bool true) (by simp [results, Try.results31, go_sem]) rfl ⟨rfl, hR.out, hK.out, hB.out⟩
  · have hd : decide (0 < (l.length : Int)) = true := decide_eq_true (by omega)
    rw [HR.out h0] at HHAS
    go_wp2_with (first | (go_at_call 88; refine (HHAS.out _ HM.out).mono ?_; rintro e w' ⟨rfl, ⟨nd, rfl⟩⟩))
    go_loopw [7] (fun i wr => ∃ k : Nat, k ≤ l.length ∧ i = .int .i64 k ∧ Aside0 (RefAt wr base g F FS R RS (L ++ putWrites a l k)) ∧ Aside0 (KeepT w wr) ∧ Aside0 (Below base w wr)) (fun i _ => l.length - (intOf i).toNat)
    case atStart => exact ⟨0, by omega, rfl, ⟨by rw [show putWrites a l 0 = [] from rfl, List.append_nil]; first | exact HM.out | exact HM.out.drewN _⟩, ⟨by first | exact KeepT.refl _ | exact KeepT.below (pw_below_drewN (Below.refl _ _) _)⟩, ⟨by first | exact Below.refl _ _ | exact pw_below_drewN (Below.refl _ _) _⟩⟩
    case round =>
      obtain ⟨k, hk, rfl, hR, hK, hB⟩ := hrel
      obtain ⟨L1, hL1⟩ : ∃ L1, L1 = L ++ putWrites a l k := ⟨_, rfl⟩
      have hlen : L1.length = L.length + k := by rw [hL1, List.length_append, putWrites_length]
      by_cases hlt : k < l.length
      · obtain ⟨ad, rfl, hx⟩ := Kd.at_int HC.out (k : Int) (by omega) (by omega)
        have hbz : Below w0.heap.size w0 wr := by have := HW0.out.trans hB.out; rw [HB0.out] at this; exact this
        replace hx := pw_cell_below hbz hx
        rw [Int.toNat_natCast] at hx
        have HE := Aside0.mk (show L1 ++ [⟨a + (k : Int), rd l k⟩] = L ++ putWrites a l (k + 1) by rw [hL1, List.append_assoc]; rfl)
        rw [← hL1] at hR
        obtain ⟨y, hy⟩ : ∃ y, y = rd l k := ⟨_, rfl⟩
        rw [← hy] at hx HE
        have hl62 : L1.length < 10000000000 := by have := HL.out; omega
        have hmod : (a + (k : Int)) % 4294967296 = a + (k : Int) := by omega
        have hltb : decide ((k : Int) < (l.length : Int)) = true := decide_eq_true (by omega)
        clear hy hL1 hlen hbz
        obtain ⟨A, c, hblk, hg, hO⟩ := hR.out
        have q4 := blk_cell hblk 4
        have f4 := blk_frozen hblk 4
        have HG := Aside0.mk hblk
        have HG2 := Aside0.mk hg
        have HO := Aside0.mk hO
        have hlt2 := blk_lt hblk
        clear hblk hO hg
        have HWR := Aside0.mk (show IntKind.u32.wrap (a + IntKind.u32.wrap (k : Int)) = a + (k : Int) by simp [IntKind.wrap, IntKind.bits, IntKind.signed]; omega)
        go_wp2
        go_region_law (rw [drew_alloc]; refine Kd.R_append_step k138 (w0 := wr) base (by rfl) (.tmp 29) (.tmp 39) 83 138 (.agg #[(.int .u32 0), (.int .u8 0)]) 8 rfl Try.underlying83 info138 rfl (by decide) (by omega) (.slice A L1.length c) L1 ⟨IntKind.u32.wrap (a + IntKind.u32.wrap (k : Int)), y⟩ [.int .u32 (IntKind.u32.wrap (a + IntKind.u32.wrap (k : Int))), .int .u8 y] (fun k => k ≠ g) (fun _ => False) rfl rfl (k138_mkM _ _ _ _) (fun _ hk => hk.elim) (fun k hk => by simp at hk; omega) (by first | exact HO.out | exact Kd.R_drew HO.out) (by first | exact Below.refl _ _ | exact below_drew (Below.refl _ _)) (by have := HG2.out; simp; omega) (by omega) ?_; intro v1 w1 ho hb hgr hat; obtain ⟨A1, c1, hv⟩ := Kd.R_slice ho; rw [List.length_append, List.length_singleton] at hv; subst hv; have HP0 := RefAt.put (w := wr.drew) HG.out HG2.out (Kd.R_drew HO.out) ho hgr; rw [HWR.out] at HP0; have HP := Aside0.mk (show _ ∧ KeepT wr _ from HP0); clear HP0; have HB1 := Aside0.mk hb; have hb1 := (hgr.block g hlt2 (Kd.R_ne HO.out HG.out (by decide))).trans HG.out; have q4' := blk_cell hb1 4; have f4' := blk_frozen hb1 4; clear ho hb hgr hat hb1 q4 f4)
        all_goals
          go_wp2
          go_roundw
          case rel => exact ⟨k + 1, by omega, by go_num, ⟨by rw [← HE.out]; exact HP.out.1⟩, ⟨hK.out.trans HP.out.2⟩, ⟨(hB.out.trans HB1.out).setCell HG2.out _⟩⟩
          case measure => simp [intOf]; omega
      · obtain rfl : k = l.length := by omega
        go_wp2
        exact bodyPost_ret (v := .bool true) (by simp [results, Try.results31, go_sem]) rfl ⟨rfl, hR.out, hK.out, hB.out⟩
end Go.Proofs.Ytpeljnnbknnbmaa.PD
