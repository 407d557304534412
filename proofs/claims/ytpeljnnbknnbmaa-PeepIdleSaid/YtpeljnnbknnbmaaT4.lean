import Derived.Test.YtpeljnnbknnbmaaT3
import Derived.Test.YtpeljnnbknnbmaaPBx5
namespace Go.Proofs.Ytpeljnnbknnbmaa.PB
open Go.RowKit Go.Proofs.YtpeljnnbknnbmaaW.PrintWords Go.Proofs.YtpeljnnbknnbmaaW.PrintLast Go.Proofs.YtpeljnnbknnbmaaW.PrintMore
set_option linter.unusedVariables false
set_option linter.unusedSimpArgs false
theorem put_from (base g : Nat) (op vs : List Int) : ∀ (n : Nat) (out : List S49) (x : S49) (w : World), out.length < n → out.length < 1000000 → TidAt w base g out op vs → base ≤ w.heap.size →
    Calls Try.prog 53 #[.pointer (some ⟨g, 0, none⟩), .agg #[.int .i64 x.f0, .int .i64 x.f1, .int .i64 x.f2, .int .i64 x.f3, .int .i32 x.f4]] w (TidTold w base g (putL n out x) op vs) := by
  intro n
  induction n with
  | zero => intro out x w h; omega
  | succ n ih =>
    intro out x w hn hmax hT hb
    unfold putL
    cases hi : idleS x with
    | true =>
      rw [if_pos rfl]
      exact put_idle w base g out op vs x hT hb hi
    | false =>
      rw [if_neg (by decide)]
      by_cases h0 : out.length = 0
      · obtain rfl := List.eq_nil_of_length_eq_zero h0
        rw [if_pos h0]
        exact put_first w base g op vs x hT hb hi
      · rw [if_neg h0]
        have e : ((out.length - 1 : Nat) : Int) = (out.length : Int) - 1 := by omega
        rw [e]
        cases hp : pairV (rd_T49 out ((out.length : Int) - 1)) x with
        | none => exact put_alone w base g out op vs x hT hb hi (by omega) hmax hp
        | some z =>
          have hl : (out.take (out.length - 1)).length = out.length - 1 := by rw [List.length_take]; omega
          exact put_pair w base g out _ op vs x hT hb hi (by omega) hmax z hp (fun W hW hT' => ih _ z W (by omega) (by omega) hT' hW)
theorem putL_length : ∀ (n : Nat) (out : List S49) (x : S49), (putL n out x).length ≤ out.length + 1
  | 0, out, x => by simp [putL]
  | n + 1, out, x => by
    unfold putL
    split
    · omega
    · split
      · simp
      · split
        · have := putL_length n (out.take (out.length - 1)) ‹_›
          rw [List.length_take] at this
          omega
        · simp
theorem put_calls (base g : Nat) (op vs : List Int) (out : List S49) (x : S49) (w : World) (hmax : out.length < 1000000) (hT : TidAt w base g out op vs) (hb : base ≤ w.heap.size) :
    Calls Try.prog 53 #[.pointer (some ⟨g, 0, none⟩), .agg #[.int .i64 x.f0, .int .i64 x.f1, .int .i64 x.f2, .int .i64 x.f3, .int .i32 x.f4]] w (TidTold w base g (putP out x) op vs) := put_from base g op vs (out.length + 1) out x w (by omega) hmax hT hb
/-- a program without loops, tidied step by step -/
def tidL (l : List S49) : List S49 := l.foldl putP []
theorem tidL_snoc (l : List S49) (k : Nat) (h : k < l.length) : tidL (l.take (k + 1)) = putP (tidL (l.take k)) (rd_T49 l k) := by
  unfold tidL
  rw [List.take_succ_eq_append_getElem h, List.foldl_append]
  have : rd_T49 l (k : Int) = l[k] := by
    unfold rd_T49
    rw [Int.toNat_natCast, List.getD_eq_getElem?_getD, List.getElem?_eq_getElem h]; rfl
  rw [this]; rfl
theorem fold_length : ∀ (l out : List S49), (l.foldl putP out).length ≤ out.length + l.length
  | [], out => by simp
  | x :: l, out => by
    have h1 := fold_length l (putP out x)
    have h2 := putL_length (out.length + 1) out x
    have h3 : (putP out x).length ≤ out.length + 1 := h2
    simp only [List.foldl_cons, List.length_cons]
    omega
theorem tidL_length (l : List S49) : (tidL l).length ≤ l.length := by
  have h := fold_length l []
  rw [List.length_nil, Nat.zero_add] at h
  exact h
/-- a slice's own length as its capacity -/
theorem clip_calls (A : Option Addr) (n c : Nat) (w : World) (hc : n ≤ c) (hn : n < 1000000) : Calls Try.prog 54 #[.slice A n c] w fun e w' => e = .returned (.slice A n n) ∧ w' = w := by
  go_enter Try.func54, Try.ntmps54
  go_wp2
  go_ret
  refine ⟨?_, rfl⟩
  cases A <;> simp [Addr.add]
set_option maxHeartbeats 4000000 in
theorem tidy_plain (k : Nat) (A : Option Addr) (c : Nat) (l : List S49) (w : World) (hC : Kd.C k49 w A l.length l) (hc : l.length ≤ c) (hk : lir_Check.f k l = some 0) (hno : ∀ x ∈ l, x.f0 ≠ 23 ∧ x.f0 ≠ 24) (hl : l.length ≤ 20000) :
    Calls Try.prog 24 #[.slice A l.length c] w fun e w' => ∃ A', e = .returned (.tuple #[.slice A' (tidL l).length (tidL l).length, .int .i64 ((l.length : Int) - (tidL l).length), .int .i64 0]) ∧ Kd.C k49 w' A' (tidL l).length (tidL l) ∧ Below w.heap.size w w' := by
  have HC := Aside0.mk hC
  have HK := Aside0.mk hk
  have HNO := Aside0.mk hno
  clear hC hk hno
  go_enter Try.func24, Try.ntmps24
  go_wp2_with (first | (go_at_call 50; refine (lir_Check.calls k A c l 0 _ HC.out hc HK.out).mono ?_; rintro e w1 ⟨rfl, hb1⟩; have HB1 := Aside0.mk hb1; clear hb1))
  go_loopw [18] (fun i wr => ∃ (k : Nat), k ≤ l.length ∧ i = .int .i64 k ∧ Aside0 (TidAt wr w.heap.size w1.heap.size (tidL (l.take k)) [] []) ∧ Aside0 (Below w.heap.size w wr)) (fun i _ => l.length - (intOf i).toNat)
  case atStart => exact ⟨0, by omega, rfl, ⟨none, 0, none, 0, none, 0, ⟨heap_alloc_new w1 _, HB1.out.size, Kd.R_nil _ _ _ _ _, Kd.R_nil _ _ _ _ _, Kd.R_nil _ _ _ _ _, .inl rfl⟩⟩, ⟨below_alloc HB1.out _⟩⟩
  case round =>
    obtain ⟨k, hk, rfl, hT, hB⟩ := hrel
    by_cases h1 : k < l.length
    · have hb1 : decide ((k : Int) < (l.length : Int)) = true := decide_eq_true (by omega)
      obtain ⟨ad, rfl, e0, e1, e2, e3, e4⟩ := at_T49 HC.out (k : Int) (by omega) (by omega)
      simp only [Int.toNat_natCast] at e0 e1 e2 e3 e4
      replace e0 := pw_cell_below hB.out e0
      replace e1 := pw_cell_below hB.out e1
      replace e2 := pw_cell_below hB.out e2
      replace e3 := pw_cell_below hB.out e3
      replace e4 := pw_cell_below hB.out e4
      have hm : rd_T49 l (k : Int) ∈ l := by
        have : rd_T49 l (k : Int) = l[k] := by
          unfold rd_T49
          rw [Int.toNat_natCast, List.getD_eq_getElem?_getD, List.getElem?_eq_getElem h1]; rfl
        rw [this]; exact List.getElem_mem _
      obtain ⟨n1, n2⟩ := HNO.out _ hm
      have hsn := tidL_snoc l k h1
      have hlen := tidL_length (l.take k)
      rw [List.length_take] at hlen
      obtain ⟨xx, hxx⟩ : ∃ xx, xx = rd_T49 l (k : Int) := ⟨_, rfl⟩
      rw [← hxx] at e0 e1 e2 e3 e4 n1 n2 hsn
      have n1' : (xx.f0 == 23) = false := by simpa using n1
      have n2' : (xx.f0 == 24) = false := by simpa using n2
      have HSN := Aside0.mk hsn
      have HPUT := Aside0.mk (fun (W : World) (hW : Below wr.heap.size wr W) => put_calls w.heap.size w1.heap.size [] [] (tidL (l.take k)) xx W (by omega) (hT.out.below hW) (Nat.le_trans hB.out.size hW.size))
      clear hm hxx hsn hlen n1 n2
      go_wp2_with (first | (go_at_call 53; refine (HPUT.out _ (below_alloc (Below.refl _ _) _)).mono ?_; rintro e w2 ⟨rfl, ht2, hb2⟩; have HT2 := Aside0.mk ht2; have HB2 := Aside0.mk hb2; clear ht2 hb2))
      go_roundw
      case rel => exact ⟨k + 1, by omega, by go_num, ⟨by rw [HSN.out]; exact HT2.out⟩, ⟨(below_alloc hB.out _).trans HB2.out⟩⟩
      case measure => simp [intOf]; omega
    · have hb1 : decide ((k : Int) < (l.length : Int)) = false := decide_eq_false (by omega)
      obtain rfl : k = l.length := by omega
      have hT' := hT.out
      rw [List.take_of_length_le (Nat.le_refl _)] at hT'
      obtain ⟨A0, c0, A1, c1, A2, c2, hv⟩ := hT'
      have hlen := tidL_length l
      obtain ⟨_, hcap, hC0⟩ := Kd.R_reads' hv.rout
      have q0 := blk_cell hv.blk 0
      have HC0 := Aside0.mk hC0
      have HCAP := Aside0.mk hcap
      have HV := Aside0.mk hv
      obtain ⟨t, ht⟩ : ∃ t, t = tidL l := ⟨_, rfl⟩
      rw [← ht] at q0 HC0 HCAP hlen
      have HTE := Aside0.mk ht
      have hclip : ∀ W : World, Calls Try.prog 54 #[.slice A0 t.length c0] W fun e w' => e = .returned (.slice A0 t.length t.length) ∧ w' = W := fun W => clip_calls A0 t.length c0 W HCAP.out (by omega)
      have HCL := Aside0.mk hclip
      clear hT hv hC0 hcap ht hclip
      go_wp2
      go_quiet ((go_at_call 54; exact Calls.quiet_of_same (HCL.out _)))
      go_wp2
      go_ret3
      rw [← HTE.out]
      exact ⟨A0, rfl, HC0.out, pw_below_drewN hB.out _⟩
end Go.Proofs.Ytpeljnnbknnbmaa.PB
