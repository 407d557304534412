import Derived.Test.YtpeljnnbknnbmaaR2
import Derived.Outline
import Derived.Deep.RegionHeld3
import Derived.Deep.OwnRows
import Derived.Laws.CopyOwn
import Derived.Lib.SliceRun
import Derived.RegionTactic
import Derived.BigRegion
namespace Go.Proofs.Ytpeljnnbknnbmaa.PA
open Go.RowKit Go.Proofs.YtpeljnnbknnbmaaW.PrintWords Go.Proofs.YtpeljnnbknnbmaaW.PrintLast Go.Proofs.YtpeljnnbknnbmaaW.PrintMore
set_option linter.unusedVariables false
set_option linter.unusedSimpArgs false
theorem ends_no (w : World) (g : Nat) (mv : Value) (V : List Int) (st fu : Int) (h : RunAt w g mv V st fu 0) (hlt : st < fu) :
    Calls Try.prog 65 #[.pointer (some ⟨g, 0, none⟩)] w fun e w' => e = .returned (.bool false) ∧ Drawn0 w w' := by
  have hd : decide ((0 : Int) ≠ 0 ∨ fu ≤ st) = false := decide_eq_false (by omega)
  have := ends_calls w g mv V st fu 0 h
  rw [hd] at this
  exact this
def stepsV (l : List S49) (V : List Int) : List Int := l.foldl (fun V x => stepV x V) V
theorem stepsV_snoc (l : List S49) (k : Nat) (h : k < l.length) (V : List Int) : stepsV (l.take (k + 1)) V = stepV (rd_T49 l k) (stepsV (l.take k) V) := by
  unfold stepsV
  rw [List.take_succ_eq_append_getElem h, List.foldl_append]
  have : rd_T49 l (k : Int) = l[k] := by
    unfold rd_T49
    rw [Int.toNat_natCast, List.getD_eq_getElem?_getD, List.getElem?_eq_getElem h]; rfl
  rw [this]; rfl
theorem aluS_u32 (hA : AluAll) (V : List Int) (hV : ∀ x ∈ V, U32 x) (hl : V.length = 64) (o a b : Nat) (h3 : 3 ≤ o) (h16 : o ≤ 16) (ha : a < 64) (hb : b < 64) (i : Int) : U32 (aluS V o a b i) := by
  have hrd : ∀ k : Nat, k < 64 → U32 (rd V k) := fun k hk => by
    have : rd V (k : Int) = V[k]'(by omega) := by
      unfold rd
      rw [Int.toNat_natCast, List.getD_eq_getElem?_getD, List.getElem?_eq_getElem (by omega)]; rfl
    rw [this]; exact hV _ (List.getElem_mem _)
  have hb2 : U32 (if 13 ≤ (o : Int) then i % 4294967296 else rd V b) := by
    split
    · exact ⟨by omega, by omega⟩
    · exact hrd b (by omega)
  obtain ⟨y, hy, hu⟩ := hA o h3 h16 (rd V a) _ (hrd a ha) hb2
  unfold aluS aluR
  rw [hy]; exact hu
theorem mem_set {V : List Int} {P : Int → Prop} (hV : ∀ x ∈ V, P x) (d : Nat) {y : Int} (hy : P y) : ∀ x ∈ V.set d y, P x := fun x hx => by
  rcases List.mem_or_eq_of_mem_set hx with h | h
  · exact hV x h
  · rw [h]; exact hy
theorem stepV_ok (hA : AluAll) (V : List Int) (hV : ∀ x ∈ V, U32 x) (hl : V.length = 64) (x : S49) (hx : PlainOk x) : (∀ y ∈ stepV x V, U32 y) ∧ (stepV x V).length = 64 := by
  obtain ⟨o1, o2, hd, ha, hb⟩ := hx
  obtain ⟨o, d, a, b, i⟩ := x
  simp only at o1 o2 hd ha hb
  obtain ⟨o, rfl⟩ : ∃ n : Nat, o = n := ⟨o.toNat, by omega⟩
  obtain ⟨d, rfl⟩ : ∃ n : Nat, d = n := ⟨d.toNat, by omega⟩
  obtain ⟨a, rfl⟩ : ∃ n : Nat, a = n := ⟨a.toNat, by omega⟩
  obtain ⟨b, rfl⟩ : ∃ n : Nat, b = n := ⟨b.toNat, by omega⟩
  unfold stepV
  simp only [Int.toNat_natCast]
  have hrd : ∀ k : Nat, k < 64 → U32 (rd V k) := fun k hk => by
    have : rd V (k : Int) = V[k]'(by omega) := by
      unfold rd
      rw [Int.toNat_natCast, List.getD_eq_getElem?_getD, List.getElem?_eq_getElem (by omega)]; rfl
    rw [this]; exact hV _ (List.getElem_mem _)
  split
  · exact ⟨mem_set hV _ ⟨by omega, by omega⟩, by simpa using hl⟩
  · split
    · exact ⟨mem_set hV _ (hrd a (by omega)), by simpa using hl⟩
    · exact ⟨mem_set hV _ (aluS_u32 hA V hV hl o a b (by omega) (by omega) (by omega) (by omega) i), by simpa using hl⟩
theorem stepsV_ok (hA : AluAll) : ∀ (l : List S49) (V : List Int), (∀ x ∈ V, U32 x) → V.length = 64 → (∀ x ∈ l, PlainOk x) → (∀ y ∈ stepsV l V, U32 y) ∧ (stepsV l V).length = 64
  | [], V, hV, hl, _ => ⟨hV, hl⟩
  | x :: l, V, hV, hl, hx => by
    obtain ⟨h1, h2⟩ := stepV_ok hA V hV hl x (hx x List.mem_cons_self)
    exact stepsV_ok hA l (stepV x V) h1 h2 (fun y hy => hx y (List.mem_cons_of_mem _ hy))
set_option maxHeartbeats 4000000 in
set_option maxRecDepth 100000 in
theorem does_plain (hA : AluAll) (w : World) (g : Nat) (mv : Value) (V : List Int) (fu : Int) (h : RunAt w g mv V 0 fu 0) (hV : ∀ x ∈ V, U32 x) (hl : V.length = 64) (A : Option Addr) (c : Nat) (l : List S49) (hc : ∀ W, Keep (· = g) w W → Kd.C k49 W A l.length l) (hlf : (l.length : Int) < fu) (hfu : fu < 9223372036854775807) (hx : ∀ x ∈ l, PlainOk x) :
    Calls Try.prog 33 #[.pointer (some ⟨g, 0, none⟩), .slice A l.length c, .int .i64 0, .int .i64 l.length] w (OneTold w g mv (stepsV l V) l.length fu 0) := by
  have HC := Aside0.mk hc
  have HX := Aside0.mk hx
  have HV := Aside0.mk hV
  have HR := Aside0.mk h
  have HA := Aside0.mk hA
  have HL := Aside0.mk hl
  clear hc hx hV h hA hl
  go_enter Try.func33, Try.ntmps33
  go_wp2
  go_loopw [8] (fun i wr => ∃ k : Nat, k ≤ l.length ∧ i = .int .i64 k ∧ Aside0 (RunAt wr g mv (stepsV (l.take k) V) k fu 0) ∧ Aside0 (Keep (· = g) w wr)) (fun i _ => l.length - (intOf i).toNat)
  case atStart => exact ⟨0, by omega, rfl, HR, ⟨Keep.refl _ _⟩⟩
  case round =>
    obtain ⟨k, hk, rfl, hR, hK⟩ := hrel
    by_cases h1 : k < l.length
    · have hb1 : decide ((k : Int) < (l.length : Int)) = true := decide_eq_true (by omega)
      obtain ⟨ad, rfl, e0, e1, e2, e3, e4⟩ := at_T49 (HC.out _ hK.out) (k : Int) (by omega) (by omega)
      simp only [Int.toNat_natCast] at e0 e1 e2 e3 e4
      have hm : rd_T49 l (k : Int) ∈ l := by
        have : rd_T49 l (k : Int) = l[k] := by
          unfold rd_T49
          rw [Int.toNat_natCast, List.getD_eq_getElem?_getD, List.getElem?_eq_getElem h1]; rfl
        rw [this]; exact List.getElem_mem _
      have hxk := HX.out _ hm
      have hsn := stepsV_snoc l k h1 V
      obtain ⟨hV', hl'⟩ := stepsV_ok HA.out (l.take k) V HV.out HL.out (fun x hx => HX.out x (List.mem_of_mem_take hx))
      obtain ⟨xx, hxx⟩ : ∃ xx, xx = rd_T49 l (k : Int) := ⟨_, rfl⟩
      rw [← hxx] at e0 e1 e2 e3 e4 hxk hsn
      have hne : ¬ (xx.f0 = 23) := by have := hxk.o2; omega
      have HO := Aside0.mk (fun (W : World) (hW : RunAt W g mv (stepsV (l.take k) V) k fu 0) => one_plain HA.out W g mv (stepsV (l.take k) V) k fu hW hV' hl' (by omega) (by omega) xx hxk)
      have HSN := Aside0.mk hsn
      have HE := Aside0.mk (fun (W : World) (hW : RunAt W g mv (stepsV (l.take k) V) k fu 0) => ends_no W g mv (stepsV (l.take k) V) k fu hW (by omega))
      clear hxx hm hxk hsn hV' hl'
      go_wp2_with (first
        | (go_at_call 65; (with_reducible refine (HE.out _ hR.out).mono ?_); rintro e w1 ⟨rfl, ⟨nd, rfl⟩⟩)
        | (go_at_call 66; (with_reducible refine (HO.out _ (RunAt.drewN hR.out _)).mono ?_); rintro e w2 ⟨rfl, hR2, hK2⟩; have HR2 := Aside0.mk hR2; have HK2 := Aside0.mk hK2; clear hR2 hK2))
      go_roundw
      case rel =>
        refine ⟨k + 1, by omega, by go_num, ⟨?_⟩, ⟨hK.out.trans ((Keep.refl _ _).drewN _ |>.trans HK2.out)⟩⟩
        rw [HSN.out, show ((k + 1 : Nat) : Int) = (k : Int) + 1 by omega]
        exact HR2.out
      case measure => simp [intOf]; omega
    · have hb1 : decide ((k : Int) < (l.length : Int)) = false := decide_eq_false (by omega)
      obtain rfl : k = l.length := by omega
      have hR' := hR.out
      rw [List.take_of_length_le (Nat.le_refl _)] at hR'
      have HR' := Aside0.mk hR'
      clear hR' hR
      go_wp2
      go_end0
      exact ⟨rfl, HR'.out, hK.out⟩
end Go.Proofs.Ytpeljnnbknnbmaa.PA
