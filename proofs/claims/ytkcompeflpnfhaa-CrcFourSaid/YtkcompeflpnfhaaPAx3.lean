-- Written by pr.py, a driver around the kit's printer, for this seat. Not trusted: Lean checks it.
import Derived.Test.YtkcompeflpnfhaaPAx0
import Derived.Test.YtkcompeflpnfhaaPAx2
namespace Go.Proofs.Ytkcompeflpnfhaa.PA
open Go.RowKit Go.Proofs.YtkcompeflpnfhaaW.PrintWords Go.Proofs.YtkcompeflpnfhaaW.PrintLast Go.Proofs.YtkcompeflpnfhaaW.PrintMore
attribute [local go_sem] max2_int min2_int max_two min_two max_three min_three max_four min_four   -- for this text's walks alone
set_option linter.unusedVariables false
set_option linter.unusedSimpArgs false

--BREAK 
/-! ### crc_more: function 12 -/
theorem store_new {ops : Array Oper} {rest : List Oper} {o : Oper} {a : Act} {w w1 : World} {Q : Exit → Act → World → Prop} (hgd : o.guard = none) (x y : Operand) (ho : o.op = .store 35 x y) (zs : Array Value) (hz : zs.size = 16)
    (hx : a.eval x = .pointer (some ⟨w1.heap.size, 0, none⟩)) (hy : a.eval y = .agg (tabC 16)) (hb : Below w.heap.size w w1)
    (h : ∀ w2, w2.heap[w1.heap.size]? = some (.cells (tabC 16) 35 (0, 0)) → Below w.heap.size w w2 → wpList Try.prog ops Q rest (a.put o.dst undef) w2) : wpList Try.prog ops Q (o :: rest) a (w1.alloc (.cells zs 35)) := by
  refine wpList_store_row hgd 35 x y ho w1.heap.size (tabC 16) hx hy 35 zs (heap_alloc_last w1 _) (by kernel_rfl) (by rw [hz]; rfl) (by kernel_rfl) ?_
  refine h _ (setRow_heap _ _ _ _ _ _ (heap_alloc_last w1 _)) (below_setRow (hb.alloc hb.size _) hb.size _)
def stepV (n c : Int) : Int :=
  (fun n1 => (fun n2 => bits .xor .u32 (n2 / 16) (halfV (bits .and .u32 n2 15))) (bits .xor .u32 (n1 / 16) (halfV (bits .and .u32 n1 15)))) (bits .xor .u32 n (c % 4294967296))
theorem bits_u32_of (n : BitVec 32) : IntKind.u32.wrap (n.toNat : Int) = (n.toNat : Int) := by
  rw [IntKind.wrap_u32]
  exact Int.emod_eq_of_lt (Int.natCast_nonneg _) (Int.ofNat_lt.mpr n.isLt)
theorem bits_u32_and (x y : Int) : bits .and .u32 x y = ((BitVec.ofInt 32 x &&& BitVec.ofInt 32 y).toNat : Int) := bits_u32_of _
theorem bits_u32_or (x y : Int) : bits .or .u32 x y = ((BitVec.ofInt 32 x ||| BitVec.ofInt 32 y).toNat : Int) := bits_u32_of _
theorem bits_u32_xor (x y : Int) : bits .xor .u32 x y = ((BitVec.ofInt 32 x ^^^ BitVec.ofInt 32 y).toNat : Int) := bits_u32_of _
theorem and15 (x : Int) : ∃ j : Nat, j < 16 ∧ bits .and .u32 x 15 = (j : Int) := by
  refine ⟨(BitVec.ofInt 32 x &&& 15#32).toNat, ?_, ?_⟩
  · rw [BitVec.toNat_and]
    exact Nat.lt_of_le_of_lt Nat.and_le_right (by decide)
  · exact bits_u32_and x 15
theorem tab_cell {w : World} {B j : Nat} (h : w.heap[B]? = some (.cells (tabC 16) 35 (0, 0))) (hj : j < 16) : w.cell? ⟨B, j, none⟩ = some (.int .u32 (halfV j)) := by
  rw [cell_of_row w _ j _ _ _ h]
  show ((tabN 16).map (Value.int .u32)).toArray[j]? = _
  rw [List.getElem?_toArray, List.getElem?_map, tabN, List.getElem?_map, List.getElem?_range hj]
  simp only [Option.map_some, if_pos hj]
theorem take_step (n : Int) (l : List Int) (k : Nat) (h : k < l.length) : (l.take (k + 1)).foldl stepV n = stepV ((l.take k).foldl stepV n) (rd l k) := by
  rw [List.take_succ_eq_append_getElem h, List.foldl_append]
  simp [rd, h]
def moreV (n : Int) (l : List Int) : Int := bits .xor .u32 IntKind.u32.max (l.foldl stepV (bits .xor .u32 IntKind.u32.max n))
set_option maxHeartbeats 4000000 in
theorem more_calls (a0 : Int) (A1 : Option Addr) (c1 : Nat) (l1 : List Int) (w : World) (hr1 : Kd.C (Kd.int .u8) w A1 l1.length l1) (hc1 : l1.length ≤ c1) :
    Calls Try.prog 12 #[.int .u32 a0, .slice A1 l1.length c1] w fun e w' => e = .returned (.int .u32 (moreV a0 l1)) ∧ Below w.heap.size w w' := by
  have HR := Aside0.mk hr1
  have hmax := Kd.C_max hr1
  have hsg : IntKind.u32.signed = false := rfl
  clear hr1
  go_enter Try.func12, Try.ntmps12
  go_wp2_with (first | (go_at_call 15; refine (table_calls _).mono ?_; rintro e w1 ⟨rfl, hb1⟩) | (refine store_new rfl _ _ rfl _ rfl rfl rfl hb1 ?_; intro w2 hg2 hb2))
  have HG := Aside0.mk hg2
  have HB := Aside0.mk hb2
  have HC := Aside0.mk (Kd.C_below HR.out hb2)
  clear hg2 hb2
  obtain ⟨n0, hn0⟩ : ∃ n0, n0 = bits .xor .u32 IntKind.u32.max a0 := ⟨_, rfl⟩
  rw [← hn0]
  have HN0 := Aside0.mk hn0
  clear hn0
  go_loop [6, 14] (fun n i => ∃ k : Nat, k ≤ l1.length ∧ i = .int .i64 k ∧ n = .int .u32 ((l1.take k).foldl stepV n0)) (fun _ i => l1.length - (intOf i).toNat)
  case atStart => exact ⟨0, Nat.zero_le _, rfl, rfl⟩
  case round =>
    obtain ⟨k, hk, rfl, rfl⟩ := hrel
    obtain ⟨n, hn⟩ : ∃ n, n = (l1.take k).foldl stepV n0 := ⟨_, rfl⟩
    rw [← hn]
    by_cases hlt : k < l1.length
    · have hstep := take_step n0 l1 k hlt
      rw [← hn] at hstep
      have HS := Aside0.mk hstep
      clear hstep hn
      obtain ⟨ad, rfl, hx⟩ := Kd.at_int HC.out (k : Int) (by omega) (by omega)
      simp only [Int.toNat_natCast] at hx
      obtain ⟨n1, hn1⟩ : ∃ n1, bits .xor .u32 n (rd l1 k % 4294967296) = n1 := ⟨_, rfl⟩
      obtain ⟨j1, hj1, he1⟩ := and15 n1
      have ht1 := tab_cell HG.out hj1
      obtain ⟨n2, hn2⟩ : ∃ n2, bits .xor .u32 (n1 / 16) (halfV j1) = n2 := ⟨_, rfl⟩
      obtain ⟨j2, hj2, he2⟩ := and15 n2
      have ht2 := tab_cell HG.out hj2
      go_wp2
      go_round
      case rel =>
        refine ⟨k + 1, by omega, by go_num, ?_⟩
        rw [HS.out]; unfold stepV; simp only [hn1, he1, hn2, he2]
      case measure => simp [intOf]; omega
    · go_wp2
      obtain rfl : k = l1.length := by omega
      go_ret
      rw [List.take_length] at hn
      subst hn
      refine ⟨?_, HB.out⟩
      unfold moreV; rw [← HN0.out, List.take_length]; rfl
def crc_more.f (a0 : Int) (l1 : List Int) : Option Int := some (moreV a0 l1)
theorem crc_more.calls (a0 : Int) (A1 : Option Addr) (c1 : Nat) (l1 : List Int) (r : Int) (w : World) (hr1 : Kd.C (Kd.int .u8) w A1 l1.length l1) (hc1 : l1.length ≤ c1) (h : crc_more.f a0 l1 = some r) :
    Calls Try.prog 12 #[.int .u32 a0, .slice A1 l1.length c1] w fun e w' => e = .returned (.int .u32 r) ∧ Below w.heap.size w w' := by
  obtain rfl := Option.some.inj h
  exact more_calls a0 A1 c1 l1 w hr1 hc1

end Go.Proofs.Ytkcompeflpnfhaa.PA
