-- Written by pr.py, a driver around the kit's printer, for this seat. Not trusted: Lean checks it.
import Derived.Test.YtbbjooaggdgcmaaPCx0
import Derived.Test.YtbbjooaggdgcmaaPCx3
import Derived.Test.YtbbjooaggdgcmaaPCx6
import Derived.Test.YtbbjooaggdgcmaaPCx7
import Derived.Test.YtbbjooaggdgcmaaPCx9
import Derived.Test.YtbbjooaggdgcmaaPCx11
import Derived.Test.YtbbjooaggdgcmaaPCx12
import Derived.Test.YtbbjooaggdgcmaaPCx15
import Derived.Test.YtbbjooaggdgcmaaPCx17
import Derived.Outline
import Derived.Deep.RegionHeld3
namespace Go.Proofs.Ytbbjooaggdgcmaa.PC
open Go.RowKit Go.Proofs.YtbbjooaggdgcmaaW.PrintWords Go.Proofs.YtbbjooaggdgcmaaW.PrintLast Go.Proofs.YtbbjooaggdgcmaaW.PrintMore
attribute [local go_sem] max2_int min2_int max_two min_two max_three min_three max_four min_four   -- for this text's walks alone
set_option linter.unusedVariables false
set_option linter.unusedSimpArgs false

--BREAK Derived.Outline,Derived.Deep.RegionHeld3
/-! ### pintlelaw05_does: function 17 -/
/-! the newest byte at an address -/
def atL (L : List S62) (b : Int) : Int := atFrom L b L.length
theorem atFrom_app (L M : List S62) (b : Int) : ∀ k, k ≤ L.length → atFrom (L ++ M) b k = atFrom L b k
  | 0, _ => rfl
  | k + 1, h => by
    unfold atFrom
    have e : rd_T62 (L ++ M) (k : Int) = rd_T62 L (k : Int) := by
      unfold rd_T62
      rw [Int.toNat_natCast, List.getD_eq_getElem?_getD, List.getD_eq_getElem?_getD, List.getElem?_append_left (by omega)]
    rw [e, atFrom_app L M b k (by omega)]
theorem atL_snoc (L : List S62) (y : S62) (b : Int) : atL (L ++ [y]) b = if y.f0 = b then y.f1 else atL L b := by
  unfold atL
  rw [List.length_append, List.length_singleton]
  have e : rd_T62 (L ++ [y]) (L.length : Int) = y := by
    unfold rd_T62
    rw [Int.toNat_natCast, List.getD_eq_getElem?_getD, List.getElem?_append_right (Nat.le_refl _), Nat.sub_self]
    rfl
  rw [show atFrom (L ++ [y]) b (L.length + 1) = if (rd_T62 (L ++ [y]) (L.length : Int)).f0 = b then (rd_T62 (L ++ [y]) (L.length : Int)).f1 else atFrom (L ++ [y]) b L.length from rfl, e, atFrom_app L [y] b _ (Nat.le_refl _)]
theorem atL_writes (L : List S62) (a x : Int) (b : Int) : ∀ n : Nat, atL (L ++ refWrites a x n) b = if a ≤ b ∧ b < a + n then x / 256 ^ (b - a).toNat % 256 else atL L b
  | 0 => by rw [show refWrites a x 0 = [] from rfl, List.append_nil, if_neg (by omega)]
  | n + 1 => by
    unfold refWrites
    rw [← List.append_assoc, atL_snoc, atL_writes L a x b n]
    by_cases h : a + (n : Int) = b
    · rw [if_pos h, if_pos (by omega)]
      show x / 256 ^ n % 256 = _
      rw [show (b - a).toNat = n by omega]
    · rw [if_neg h]
      by_cases h2 : a ≤ b ∧ b < a + n
      · rw [if_pos h2, if_pos (by omega)]
      · rw [if_neg h2, if_neg (by omega)]
theorem atL_puts (L : List S62) (a : Int) (l : List Int) (b : Int) : ∀ n : Nat, atL (L ++ putWrites a l n) b = if a ≤ b ∧ b < a + n then rd l (b - a) else atL L b
  | 0 => by rw [show putWrites a l 0 = [] from rfl, List.append_nil, if_neg (by omega)]
  | n + 1 => by
    unfold putWrites
    rw [← List.append_assoc, atL_snoc, atL_puts L a l b n]
    by_cases h : a + (n : Int) = b
    · rw [if_pos h, if_pos (by omega)]
      show rd l (n : Int) = _
      rw [show b - a = (n : Int) by omega]
    · rw [if_neg h]
      by_cases h2 : a ≤ b ∧ b < a + n
      · rw [if_pos h2, if_pos (by omega)]
      · rw [if_neg h2, if_neg (by omega)]
theorem rd_set (l : List Int) (i j : Nat) (v : Int) (hi : i < l.length) : rd (l.set i v) (j : Int) = if i = j then v else rd l (j : Int) := by
  unfold rd
  rw [Int.toNat_natCast, List.getD_eq_getElem?_getD, List.getD_eq_getElem?_getD, List.getElem?_set]
  by_cases h : i = j
  · rw [if_pos h, if_pos h, if_pos hi]
    rfl
  · rw [if_neg h, if_neg h]
theorem rd_setBytes (l : List Int) (p : Nat) (x : Int) (j : Nat) : ∀ n : Nat, p + n ≤ l.length → rd (setBytes l p x n) (j : Int) = if p ≤ j ∧ j < p + n then byteOf x (j - p) else rd l (j : Int)
  | 0, _ => by rw [show setBytes l p x 0 = l from rfl, if_neg (by omega)]
  | n + 1, h => by
    unfold setBytes
    rw [rd_set _ _ _ _ (by rw [setBytes_length]; omega), rd_setBytes l p x j n (by omega)]
    by_cases h1 : p + n = j
    · rw [if_pos h1, if_pos (by omega)]
      congr 1
      omega
    · rw [if_neg h1]
      by_cases h2 : p ≤ j ∧ j < p + n
      · rw [if_pos h2, if_pos (by omega)]
      · rw [if_neg h2, if_neg (by omega)]
theorem rd_splice (L l : List Int) (p j : Nat) (h : p + l.length ≤ L.length) : rd (splice L p l) (j : Int) = if p ≤ j ∧ j < p + l.length then rd l ((j : Int) - p) else rd L (j : Int) := by
  unfold rd splice
  rw [Int.toNat_natCast]
  by_cases h1 : j < p
  · rw [if_neg (by omega), List.getD_eq_getElem?_getD, List.getD_eq_getElem?_getD, List.getElem?_append_left (by rw [List.length_take]; omega), List.getElem?_take, if_pos h1]
  · by_cases h2 : j < p + l.length
    · rw [if_pos (by omega), List.getD_eq_getElem?_getD, List.getD_eq_getElem?_getD, List.getElem?_append_right (by rw [List.length_take]; omega), List.length_take, Nat.min_eq_left (by omega), List.getElem?_append_left (by omega), show ((j : Int) - p).toNat = j - p by omega]
    · rw [if_neg (by omega), List.getD_eq_getElem?_getD, List.getD_eq_getElem?_getD, List.getElem?_append_right (by rw [List.length_take]; omega), List.length_take, Nat.min_eq_left (by omega), List.getElem?_append_right (by omega), List.getElem?_drop]
      congr 2
      omega
/-- both hold the same bytes -/
def Same (B : Int) (bank : List Int) (L : List S62) : Prop := ∀ j : Nat, j < bank.length → rd bank (j : Int) = atL L (B + j)
theorem Same.store {B : Int} {bank : List Int} {L : List S62} (h : Same B bank L) (a x : Int) (n : Nat) (h0 : B ≤ a) (h1 : a + n ≤ B + bank.length) : Same B (setBytes bank (a - B).toNat x n) (L ++ refWrites a x n) := by
  intro j hj
  rw [setBytes_length] at hj
  rw [rd_setBytes _ _ _ _ _ (by omega), atL_writes]
  by_cases h2 : a ≤ B + j ∧ B + j < a + n
  · rw [if_pos h2, if_pos (by omega)]
    unfold byteOf
    rw [show (B + (j : Int) - a).toNat = j - (a - B).toNat by omega, show (256 : Int) = 2 ^ 8 from rfl, ← Int.pow_mul]
  · rw [if_neg h2, if_neg (by omega)]
    exact h j hj
theorem Same.apart {B : Int} {bank : List Int} {L : List S62} (h : Same B bank L) (a x : Int) (n : Nat) (h0 : a + n ≤ B ∨ B + bank.length ≤ a) : Same B bank (L ++ refWrites a x n) := by
  intro j hj
  rw [atL_writes, if_neg (by omega)]
  exact h j hj
theorem Same.put {B : Int} {bank : List Int} {L : List S62} (h : Same B bank L) (a : Int) (l : List Int) (h0 : B ≤ a) (h1 : a + l.length ≤ B + bank.length) : Same B (putL B bank a l) (L ++ putWrites a l l.length) := by
  intro j hj
  unfold putL at hj ⊢
  rw [splice_len (by omega)] at hj
  rw [rd_splice _ _ _ _ (by omega), atL_puts]
  by_cases h2 : a ≤ B + j ∧ B + j < a + l.length
  · rw [if_pos h2, if_pos (by omega)]
    congr 1
    omega
  · rw [if_neg h2, if_neg (by omega)]
    exact h j hj
theorem Same.apartP {B : Int} {bank : List Int} {L : List S62} (h : Same B bank L) (a : Int) (l : List Int) (h0 : a + l.length ≤ B ∨ B + bank.length ≤ a) : Same B bank (L ++ putWrites a l l.length) := by
  intro j hj
  rw [atL_puts, if_neg (by omega)]
  exact h j hj
theorem bytesAt_eq {B : Int} {bank : List Int} {L : List S62} (h : Same B bank L) (a : Int) (n : Nat) (h0 : B ≤ a) (h1 : a + n ≤ B + bank.length) : bytesAt B bank a n = (List.range n).map (fun i => atL L (a + (i : Nat))) := by
  apply List.ext_getElem
  · rw [bytesAt_length h0 h1]; simp
  · intro i g1 g2
    have hi : i < n := by simpa using g2
    rw [List.getElem_map, List.getElem_range]
    have hj : (a - B).toNat + i < bank.length := by omega
    have := h ((a - B).toNat + i) hj
    rw [show B + (((a - B).toNat + i : Nat) : Int) = a + (i : Nat) by omega] at this
    rw [← this]
    simp only [bytesAt, List.getElem_take, List.getElem_drop]
    unfold rd
    rw [Int.toNat_natCast, List.getD_eq_getElem?_getD, List.getElem?_eq_getElem hj]
    rfl
theorem word_eq {B : Int} {bank : List Int} {L : List S62} (h : Same B bank L) (hb : Bytes bank) (a : Int) (n : Nat) (hn : n = 1 ∨ n = 2 ∨ n = 4) (ha : 0 ≤ B) (h2 : B + bank.length ≤ 4294967296) (h0 : B ≤ a) (h1 : a + n ≤ B + bank.length) : numL (bytesAt B bank a n) = wordR L a n 0 := by
  have hbb := bytes_drop hb B a n
  rw [bytesAt_eq h a n h0 h1] at hbb ⊢
  have hy : ∀ i : Nat, i < n → 0 ≤ atL L (a + (i : Nat)) ∧ atL L (a + (i : Nat)) < 256 := fun i hi => by
    have := hbb (atL L (a + (i : Nat))) (List.mem_map.2 ⟨i, List.mem_range.2 hi, rfl⟩)
    exact this
  have hm : ∀ i : Nat, i < n → (a + (i : Int)) % 4294967296 = a + (i : Int) := fun i hi => by omega
  rcases hn with rfl | rfl | rfl
  · have y0 := hy 0 (by omega)
    have m0 := hm 0 (by omega)
    simp only [wordR, List.range_succ, List.range_zero, List.map_append, List.map_nil, List.map_cons, List.nil_append, numL, m0]
    show _ = (0 * 256 + atL L (a + ((0 : Nat) : Int))) % 4294967296
    omega
  · have y0 := hy 0 (by omega)
    have y1 := hy 1 (by omega)
    have m0 := hm 0 (by omega)
    have m1 := hm 1 (by omega)
    simp only [wordR, List.range_succ, List.range_zero, List.map_append, List.map_nil, List.map_cons, List.nil_append, List.cons_append, numL, m0, m1]
    show _ = ((0 * 256 + atL L (a + ((1 : Nat) : Int))) % 4294967296 * 256 + atL L (a + ((0 : Nat) : Int))) % 4294967296
    omega
  · have y0 := hy 0 (by omega)
    have y1 := hy 1 (by omega)
    have y2 := hy 2 (by omega)
    have y3 := hy 3 (by omega)
    have m0 := hm 0 (by omega)
    have m1 := hm 1 (by omega)
    have m2 := hm 2 (by omega)
    have m3 := hm 3 (by omega)
    simp only [wordR, List.range_succ, List.range_zero, List.map_append, List.map_nil, List.map_cons, List.nil_append, List.cons_append, numL, m0, m1, m2, m3]
    show _ = ((((0 * 256 + atL L (a + ((3 : Nat) : Int))) % 4294967296 * 256 + atL L (a + ((2 : Nat) : Int))) % 4294967296 * 256 + atL L (a + ((1 : Nat) : Int))) % 4294967296 * 256 + atL L (a + ((0 : Nat) : Int))) % 4294967296
    omega
structure Data (fl rl : List Int) (L : List S62) : Prop where
  lf : fl.length = 256
  lr : rl.length = 128
  bf : Bytes fl
  br : Bytes rl
  sf : Same 4096 fl L
  sr : Same 2147483648 rl L
theorem Data.fit {fl rl : List Int} {L : List S62} (h : Data fl rl L) : MemFit 4096 2147483648 fl.length rl.length := by rw [h.lf, h.lr]; exact map_fit
theorem map32 (a : Int) (h : 0 ≤ a ∧ a < 4294967296) : Fits32 4096 256 2147483648 128 a := ⟨by decide, by decide, by decide, by decide, h⟩
theorem Data.bankF {fl rl : List Int} {L : List S62} (h : Data fl rl L) (a n : Int) : inR 4096 256 a n = decide (inBank 4096 fl.length a n) := by
  rw [h.lf]; exact inR_bank (n := 256)
theorem Data.bankR {fl rl : List Int} {L : List S62} (h : Data fl rl L) (a n : Int) : inR 2147483648 128 a n = decide (inBank 2147483648 rl.length a n) := by
  rw [h.lr]; exact inR_bank (n := 128)
theorem Data.load {fl rl : List Int} {L : List S62} (h : Data fl rl L) (a s : Int) : loadV 4096 2147483648 fl rl a s = refLoadV 4096 256 2147483648 128 L a s := by
  unfold loadV refLoadV hasR
  rw [h.bankF, h.bankR]
  by_cases h1 : sizedP s
  · have hn : s.toNat = 1 ∨ s.toNat = 2 ∨ s.toNat = 4 := by unfold sizedP at h1; omega
    have hs : (s.toNat : Int) = s := by unfold sizedP at h1; omega
    have f1 := h.lf
    have r1 := h.lr
    by_cases h2 : a % s = 0
    · by_cases h3 : inBank 4096 fl.length a s
      · have e := word_eq h.sf h.bf a s.toNat hn (by decide) (by omega) h3.1 (by have := h3.2.2; omega)
        simp [h1, h2, h3, e]
      · by_cases h4 : inBank 2147483648 rl.length a s
        · have e := word_eq h.sr h.br a s.toNat hn (by decide) (by omega) h4.1 (by have := h4.2.2; omega)
          simp [h1, h2, h3, h4, e]
        · simp [h1, h2, h3, h4]
    · simp [h1, h2]
  · simp [h1]
theorem Data.fetch {fl rl : List Int} {L : List S62} (h : Data fl rl L) (a : Int) : fetchV 4096 2147483648 fl rl a = refFetchV 4096 256 2147483648 128 L a := by
  unfold fetchV refFetchV hasR
  rw [h.bankF, h.bankR]
  have f1 := h.lf
  have r1 := h.lr
  by_cases h2 : a % 4 = 0
  · by_cases h3 : inBank 4096 fl.length a 4
    · have e := word_eq h.sf h.bf a 4 (.inr (.inr rfl)) (by decide) (by omega) h3.1 (by have := h3.2.2; omega)
      simp [h2, h3, e]
    · by_cases h4 : inBank 2147483648 rl.length a 4
      · have e := word_eq h.sr h.br a 4 (.inr (.inr rfl)) (by decide) (by omega) h4.1 (by have := h4.2.2; omega)
        simp [h2, h3, h4, e]
      · simp [h2, h3, h4]
  · simp [h2]
theorem Data.store {fl rl : List Int} {L : List S62} (h : Data fl rl L) (a s x : Int) : Data fl (storeL 2147483648 rl a s x) (if refStoreT 2147483648 128 a s = 0 then L ++ refWrites a x s.toNat else L) := by
  have e : storeT 2147483648 rl.length a s = refStoreT 2147483648 128 a s := by rw [h.lr]; exact store_trap _ 128 _ _
  have f1 := h.lf
  have r1 := h.lr
  refine ⟨h.lf, by rw [storeL_length]; exact h.lr, h.bf, storeL_bytes h.br _ _ _ _, ?_, ?_⟩
  · split
    · rename_i h0
      rw [← e] at h0
      unfold storeT at h0
      split at h0
      · exact absurd h0 (by decide)
      · split at h0
        · exact absurd h0 (by decide)
        · split at h0
          · rename_i hb
            exact h.sf.apart a x _ (by have := hb.1; omega)
          · exact absurd h0 (by decide)
    · exact h.sf
  · unfold storeL
    rw [e]
    split
    · rename_i h0
      rw [← e] at h0
      unfold storeT at h0
      split at h0
      · exact absurd h0 (by decide)
      · rename_i hs
        have hs' : sizedP s := by simpa using hs
        split at h0
        · exact absurd h0 (by decide)
        · split at h0
          · rename_i hb
            exact h.sr.store a x _ hb.1 (by have := hb.2.2; unfold sizedP at hs'; omega)
          · exact absurd h0 (by decide)
    · exact h.sr
def putF (fl : List Int) (a : Int) (l : List Int) : List Int := if inBank 4096 fl.length a l.length then putL 4096 fl a l else fl
def putR (fl rl : List Int) (a : Int) (l : List Int) : List Int := if inBank 4096 fl.length a l.length then rl else if inBank 2147483648 rl.length a l.length then putL 2147483648 rl a l else rl
def putB (a n : Int) : Bool := n == 0 || hasR 4096 256 2147483648 128 a n
theorem bytes_splice {L l : List Int} (p : Nat) (h : Bytes L) (hl : Bytes l) : Bytes (splice L p l) := fun x hx => by
  unfold splice at hx
  rcases List.mem_append.1 hx with h1 | h1
  · exact h x (List.mem_of_mem_take h1)
  · rcases List.mem_append.1 h1 with h2 | h2
    · exact hl x h2
    · exact h x (List.mem_of_mem_drop h2)
theorem Data.put {fl rl : List Int} {L : List S62} (h : Data fl rl L) (a : Int) (l : List Int) (hl : Bytes l) : Data (putF fl a l) (putR fl rl a l) (if putB a l.length then L ++ putWrites a l l.length else L) := by
  have f1 := h.lf
  have r1 := h.lr
  unfold putF putR putB hasR
  rw [h.bankF, h.bankR]
  by_cases h1 : inBank 4096 fl.length a l.length
  · obtain ⟨a1, a2, a3⟩ := id h1
    rw [if_pos h1, if_pos h1, if_pos (by simp [h1])]
    exact ⟨by unfold putL; rw [splice_len (by omega)]; exact f1, r1, bytes_splice _ h.bf hl, h.br, h.sf.put a l a1 a3, h.sr.apartP a l (by omega)⟩
  · rw [if_neg h1, if_neg h1]
    by_cases h2 : inBank 2147483648 rl.length a l.length
    · obtain ⟨a1, a2, a3⟩ := id h2
      rw [if_pos h2, if_pos (by simp [h2])]
      exact ⟨f1, by unfold putL; rw [splice_len (by omega)]; exact r1, h.bf, bytes_splice _ h.br hl, h.sf.apartP a l (by omega), h.sr.put a l a1 a3⟩
    · rw [if_neg h2]
      by_cases h0 : l.length = 0
      · obtain rfl : l = [] := List.eq_nil_of_length_eq_zero h0
        have : (if (((([] : List Int).length : Int) == 0) || (decide (inBank 4096 fl.length a ([] : List Int).length) || decide (inBank 2147483648 rl.length a ([] : List Int).length))) = true then L ++ putWrites a [] ([] : List Int).length else L) = L := by
          split
          · show L ++ [] = L
            rw [List.append_nil]
          · rfl
        rw [this]
        exact h
      · have hz : ((l.length : Int) == 0) = false := beq_eq_false_iff_ne.mpr (by omega)
        rw [if_neg (by rw [hz]; simp [h1, h2])]
        exact h
def KeepA (w w' : World) : Prop := ∀ (k : Nat) (cs : Array Value) (t : TypeId) (fr : Nat × Nat), w.heap[k]? = some (.cells cs t fr) → t ≠ 5 → t ≠ 34 → t ≠ 62 → w'.heap[k]? = some (.cells cs t fr)
theorem KeepA.below {w w' : World} (h : Below w.heap.size w w') : KeepA w w' := fun k cs t fr hk _ _ _ => (h.block _ (blk_lt hk)).trans hk
theorem KeepA.u {w w' : World} (h : KeepU w w') : KeepA w w' := fun k cs t fr hk h5 _ _ => h k cs t fr hk h5
theorem KeepA.t {w w' : World} (h : KeepT w w') : KeepA w w' := fun k cs t fr hk _ h34 h62 => h k cs t fr hk h34 h62
theorem KeepA.trans {w w1 w2 : World} (h1 : KeepA w w1) (h2 : KeepA w1 w2) : KeepA w w2 := fun k cs t fr h a b c => h2 k cs t fr (h1 k cs t fr h a b c) a b c
structure TwoW (w0 W : World) (g bf br gx : Nat) (fl rl : List Int) (L : List S62) : Prop where
  m : MemAt W w0.heap.size g bf br 4096 2147483648 fl rl
  x : RefAt W w0.heap.size gx 4096 256 2147483648 128 L
  b : Below w0.heap.size w0 W
section
variable {w0 W : World} {g bf br gx : Nat} {fl rl : List Int} {L : List S62}
theorem TwoW.below {W' : World} (h : TwoW w0 W g bf br gx fl rl L) (hb : Below W.heap.size W W') : TwoW w0 W' g bf br gx fl rl L := ⟨h.m.below hb, h.x.below hb, h.b.trans (hb.mono h.b.size)⟩
theorem TwoW.drewN (h : TwoW w0 W g bf br gx fl rl L) (n : Nat) : TwoW w0 (W.drewN n) g bf br gx fl rl L := h.below (pw_below_drewN (Below.refl _ _) n)
theorem RefAt.keepU {w w' : World} {base g : Nat} {F FS R RS : Int} {L : List S62} (h : RefAt w base g F FS R RS L) (hk : KeepU w w') : RefAt w' base g F FS R RS L := by
  obtain ⟨A, c, h1, h2, h3⟩ := h
  refine ⟨A, c, hk _ _ _ _ h1 (by decide), h2, Kd.R_mono (Kd.R_move (Kd.R_bound h3) (fun k hk2 => ?_)) (fun _ hk => hk.1)⟩
  obtain ⟨_, _, _, q, hq, cells, hc⟩ := hk2
  rw [hc]
  refine hk _ _ _ _ hc ?_
  have : q = 62 := by simpa [k62, Kd.iso, Kd.pair, Kd.int, Kd.scalar] using hq
  rw [this]
  decide
theorem KeepU.of_but {w w' : World} {br : Nat} {cs : Array Value} (hk : KeepBut w w' br none) (hbr : w.heap[br]? = some (.cells cs 5 (0, 0))) : KeepU w w' := fun k ds t fr h ht =>
  (hk.2 k (blk_lt h) (by rintro rfl; rw [hbr] at h; injection h with h; injection h with _ e _; exact ht e.symm) (by simp)).trans h
theorem TwoW.load (h : TwoW w0 W g bf br gx fl rl L) (d : Data fl rl L) (a s : Int) (ha : 0 ≤ a ∧ a < 4294967296) (hs : s ≤ 9223372036854775807) (y z : Int) (hV : refLoadV 4096 256 2147483648 128 L a s = (y, z)) :
    Calls Try.prog 10 #[.pointer (some ⟨g, 0, none⟩), .int .u32 a, .int .i64 s] W fun e W' => e = .returned (.tuple #[.int .u32 y, .int .i64 z]) ∧ TwoW w0 W' g bf br gx fl rl L ∧ KeepA W W' :=
  (load_calls _ g bf br _ _ fl rl a s W h.m d.fit d.bf d.br ha.1 ha.2 hs).mono fun e W' hh => by
    rw [d.load, hV] at hh
    exact ⟨hh.1, h.below hh.2, KeepA.below hh.2⟩
theorem TwoW.refload (h : TwoW w0 W g bf br gx fl rl L) (hL : L.length < 4294967296) (a s : Int) (ha : 0 ≤ a ∧ a < 4294967296) (y z : Int) (hV : refLoadV 4096 256 2147483648 128 L a s = (y, z)) :
    Calls Try.prog 11 #[.pointer (some ⟨gx, 0, none⟩), .int .u32 a, .int .i64 s] W fun e W' => e = .returned (.tuple #[.int .u32 y, .int .i64 z]) ∧ TwoW w0 W' g bf br gx fl rl L ∧ KeepA W W' :=
  (refload_calls _ gx _ _ _ _ a s L W h.x (by omega) (map32 a ha)).mono fun e W' hh => by
    rw [hV] at hh
    exact ⟨hh.1, h.below hh.2.below, KeepA.below hh.2.below⟩
theorem TwoW.fetch (h : TwoW w0 W g bf br gx fl rl L) (d : Data fl rl L) (a : Int) (ha : 0 ≤ a ∧ a < 4294967296) (y z : Int) (hV : refFetchV 4096 256 2147483648 128 L a = (y, z)) :
    Calls Try.prog 18 #[.pointer (some ⟨g, 0, none⟩), .int .u32 a] W fun e W' => e = .returned (.tuple #[.int .u32 y, .int .i64 z]) ∧ TwoW w0 W' g bf br gx fl rl L ∧ KeepA W W' :=
  (fetch_calls _ g bf br _ _ fl rl a W h.m d.fit d.bf d.br ha.1 ha.2).mono fun e W' hh => by
    rw [d.fetch, hV] at hh
    exact ⟨hh.1, h.below hh.2, KeepA.below hh.2⟩
theorem TwoW.reffetch (h : TwoW w0 W g bf br gx fl rl L) (hL : L.length < 4294967296) (a : Int) (ha : 0 ≤ a ∧ a < 4294967296) (y z : Int) (hV : refFetchV 4096 256 2147483648 128 L a = (y, z)) :
    Calls Try.prog 30 #[.pointer (some ⟨gx, 0, none⟩), .int .u32 a] W fun e W' => e = .returned (.tuple #[.int .u32 y, .int .i64 z]) ∧ TwoW w0 W' g bf br gx fl rl L ∧ KeepA W W' :=
  (reffetch_calls _ gx _ _ _ _ a L W h.x (by omega) (map32 a ha)).mono fun e W' hh => by
    rw [hV] at hh
    exact ⟨hh.1, h.below hh.2.below, KeepA.below hh.2.below⟩
theorem TwoW.store (h : TwoW w0 W g bf br gx fl rl L) (d : Data fl rl L) (a s x : Int) (ha : 0 ≤ a ∧ a < 4294967296) (hx : 0 ≤ x ∧ x < 4294967296) (hs : s ≤ 9223372036854775807) (T : Int) (hT : refStoreT 2147483648 128 a s = T) :
    Calls Try.prog 12 #[.pointer (some ⟨g, 0, none⟩), .int .u32 a, .int .i64 s, .int .u32 x] W fun e W' => e = .returned (.int .i64 T) ∧ TwoW w0 W' g bf br gx fl (storeL 2147483648 rl a s x) L ∧ KeepA W W' :=
  (store_calls _ g bf br _ _ fl rl a s x W h.m d.fit ha.1 ha.2 hx.1 hx.2 hs).mono fun e W' hh => by
    obtain ⟨h1, h2, h3, h4⟩ := hh
    have e1 : storeT 2147483648 rl.length a s = refStoreT 2147483648 128 a s := by rw [d.lr]; exact store_trap _ 128 _ _
    exact ⟨by rw [h1, e1, hT], ⟨h2, h.x.keepU (KeepU.of_but h3 h.m.hr), h.b.trans h4⟩, KeepA.u (KeepU.of_but h3 h.m.hr)⟩
theorem TwoW.refstore (h : TwoW w0 W g bf br gx fl rl L) (hL : L.length < 4294967296) (a s x : Int) (ha : 0 ≤ a ∧ a < 4294967296) (hx : 0 ≤ x ∧ x < 4294967296) (T : Int) (hT : refStoreT 2147483648 128 a s = T) :
    Calls Try.prog 13 #[.pointer (some ⟨gx, 0, none⟩), .int .u32 a, .int .i64 s, .int .u32 x] W fun e W' => e = .returned (.int .i64 T) ∧ TwoW w0 W' g bf br gx fl rl (if refStoreT 2147483648 128 a s = 0 then L ++ refWrites a x s.toNat else L) ∧ KeepA W W' :=
  (refstore_calls _ gx _ _ _ _ a s x L W h.x h.b.size (map32 a ha) hx hL).mono fun e W' hh => by
    obtain ⟨h1, h2, h3, h4⟩ := hh
    exact ⟨by rw [h1, hT], ⟨h.m.keepT h3, h2, h.b.trans h4⟩, KeepA.t h3⟩
theorem TwoW.put (h : TwoW w0 W g bf br gx fl rl L) (d : Data fl rl L) (a : Int) (l : List Int) (A : Option Addr) (c : Nat) (ha : 0 ≤ a ∧ a < 4294967296) (hC : Kd.C (Kd.int .u8) W A l.length l) (hl : l.length < 4294967296) (b : Bool) (hb : putB a l.length = b) :
    Calls Try.prog 20 #[.pointer (some ⟨g, 0, none⟩), .int .u32 a, .slice A l.length c] W fun e W' => e = .returned (.bool b) ∧ TwoW w0 W' g bf br gx (putF fl a l) (putR fl rl a l) L ∧ KeepA W W' := by
  unfold putF putR
  unfold putB hasR at hb
  rw [d.bankF, d.bankR] at hb
  by_cases h1 : inBank 4096 fl.length a l.length
  · rw [if_pos h1, if_pos h1]
    have : b = true := by rw [← hb]; simp [h1]
    subst this
    refine (put_f_calls _ g bf br _ _ fl rl a l A c W h.m d.fit ha.1 ha.2 hC hl h1).mono fun e W' hh => ?_
    obtain ⟨e1, e2, e3, e4⟩ := hh
    exact ⟨e1, ⟨e2, h.x.keepU e3, h.b.trans e4⟩, KeepA.u e3⟩
  · rw [if_neg h1, if_neg h1]
    by_cases h2 : inBank 2147483648 rl.length a l.length
    · rw [if_pos h2]
      have : b = true := by rw [← hb]; simp [h2]
      subst this
      refine (put_r_calls _ g bf br _ _ fl rl a l A c W h.m d.fit ha.1 ha.2 hC hl h1 h2).mono fun e W' hh => ?_
      obtain ⟨e1, e2, e3, e4⟩ := hh
      exact ⟨e1, ⟨e2, h.x.keepU e3, h.b.trans e4⟩, KeepA.u e3⟩
    · rw [if_neg h2]
      have : b = decide (l.length = 0) := by
        rw [← hb]
        by_cases h0 : l.length = 0
        · simp [h0]
        · have hz : ((l.length : Int) == 0) = false := beq_eq_false_iff_ne.mpr (by omega)
          rw [hz, decide_eq_false h0]
          simp [h1, h2]
      subst this
      refine (put_n_calls _ g bf br _ _ fl rl a l.length A c W h.m d.fit ha.1 ha.2 hl h1 h2).mono fun e W' hh => ?_
      obtain ⟨e1, e2, e3, e4⟩ := hh
      exact ⟨e1, ⟨e2, h.x.keepU e3, h.b.trans e4⟩, KeepA.u e3⟩
theorem TwoW.refput (h : TwoW w0 W g bf br gx fl rl L) (hL : L.length < 4294967296) (a : Int) (l : List Int) (A : Option Addr) (c : Nat) (ha : 0 ≤ a ∧ a < 4294967296) (hC : Kd.C (Kd.int .u8) w0 A l.length l) (hl : l.length < 4294967296) (b : Bool) (hb : putB a l.length = b) :
    Calls Try.prog 31 #[.pointer (some ⟨gx, 0, none⟩), .int .u32 a, .slice A l.length c] W fun e W' => e = .returned (.bool b) ∧ TwoW w0 W' g bf br gx fl rl (if putB a l.length then L ++ putWrites a l l.length else L) ∧ KeepA W W' := by
  cases b
  · rw [hb, if_neg (by decide)]
    unfold putB at hb
    rw [Bool.or_eq_false_iff] at hb
    have h0 : 0 < l.length := by have := beq_eq_false_iff_ne.1 hb.1; omega
    refine (refput_no _ gx _ _ _ _ a l.length A c L W h.x (map32 a ha) h0 hb.2).mono fun e W' hh => ?_
    obtain ⟨h1, h2, h3, h4⟩ := hh
    exact ⟨h1, ⟨h.m.keepT h3, h2, h.b.trans h4⟩, KeepA.t h3⟩
  · rw [hb, if_pos rfl]
    unfold putB at hb
    have hr : 0 < l.length → hasR 4096 256 2147483648 128 a l.length = true := fun h0 => by
      rcases Bool.or_eq_true_iff.1 hb with h1 | h1
      · have := beq_iff_eq.1 h1; omega
      · exact h1
    have ha2 : a + l.length ≤ 4294967296 := by
      rcases Nat.eq_zero_or_pos l.length with h0 | h0
      · rw [h0]; omega
      · have := hr h0
        unfold hasR inR at this
        simp at this
        omega
    refine (refput_yes _ gx _ _ _ _ a l A c L w0 W h.x h.b rfl hC (map32 a ha) hL hl ha2 hr).mono fun e W' hh => ?_
    obtain ⟨h1, h2, h3, h4⟩ := hh
    exact ⟨h1, ⟨h.m.keepT h3, h2, h.b.trans h4⟩, KeepA.t h3⟩
end
section
variable {w0 W : World} {g bf br gx : Nat} {fl rl : List Int} {L : List S62}
set_option maxHeartbeats 4000000 in
theorem gets_zero (h : TwoW w0 W g bf br gx fl rl L) (d : Data fl rl L) (k a x : Int) (B : Value) (ha : 0 ≤ a ∧ a < 4294967296) :
    Calls Try.prog 32 #[.pointer (some ⟨g, 0, none⟩), .pointer (some ⟨gx, 0, none⟩), .agg #[.int .i64 k, .int .i64 0, .int .u32 a, .int .u32 x, B]] W fun e W' => e = .returned (.bool true) ∧ TwoW w0 W' g bf br gx fl rl L ∧ KeepA W W' := by
  have HC2 := Aside0.mk (show ∀ W : World, TwoW w0 W g bf br gx fl rl L → Calls Try.prog 19 #[.pointer (some ⟨g, 0, none⟩), .int .u32 a, .int .i64 0] W fun e w' => (∃ A c, e = .returned (.tuple #[.slice A 0 c, .bool true])) ∧ Below W.heap.size W w' from fun W h => (get_calls _ g bf br _ _ fl rl a 0 W h.m d.fit ha.1 ha.2 (by decide) ⟨by rw [d.lf]; decide, by rw [d.lr]; decide⟩).mono fun e w' hh => by
    rcases hh with ⟨_, A', c', h1, h2, h3, h4⟩ | ⟨_, _, A', c', h1, h2, h3, h4⟩ | ⟨_, _, h1, h4⟩
    · refine ⟨⟨A', c', ?_⟩, h4⟩
      rw [h1]
      rfl
    · refine ⟨⟨A', c', ?_⟩, h4⟩
      rw [h1]
      rfl
    · exact ⟨⟨none, 0, h1⟩, h4⟩)
  have HT := Aside0.mk (h.below (below_alloc (Below.refl W.heap.size W) (.cells #[.int .i64 k, .int .i64 0, .int .u32 a, .int .u32 x, B] 45)))
  clear h d ha
  go_enter Try.func32, Try.ntmps32
  go_wp2_with (first | (go_at_call 19; refine (HC2.out _ HT.out).mono ?_; rintro e w1 ⟨⟨A, c, rfl⟩, hb⟩; have hblk := (hb.block _ (by simp)).trans (heap_alloc_new W _); have HBLK := Aside0.mk hblk; have q1 := blk_cell hblk 1; have q2 := blk_cell hblk 2; clear hblk; have HB := Aside0.mk hb; clear hb))
  go_ret
  exact ⟨rfl, HT.out.below HB.out, (KeepA.below (below_alloc (Below.refl _ _) _)).trans (KeepA.below HB.out)⟩
set_option maxHeartbeats 4000000 in
theorem gets_no (h : TwoW w0 W g bf br gx fl rl L) (d : Data fl rl L) (k s a x : Int) (B : Value) (ha : 0 ≤ a ∧ a < 4294967296) (hs : s ≤ 9223372036854775807) (h0 : s ≠ 0) (hr : hasR 4096 256 2147483648 128 a s = false) :
    Calls Try.prog 32 #[.pointer (some ⟨g, 0, none⟩), .pointer (some ⟨gx, 0, none⟩), .agg #[.int .i64 k, .int .i64 s, .int .u32 a, .int .u32 x, B]] W fun e W' => e = .returned (.bool true) ∧ TwoW w0 W' g bf br gx fl rl L ∧ KeepA W W' := by
  have hr2 := hr
  unfold hasR at hr2
  rw [d.bankF, d.bankR, Bool.or_eq_false_iff, decide_eq_false_iff_not, decide_eq_false_iff_not] at hr2
  have hz : (s == 0) = false := beq_eq_false_iff_ne.mpr h0
  have HC := Aside0.mk (fun (W : World) (h : TwoW w0 W g bf br gx fl rl L) => get_no _ g bf br _ _ fl rl a s W h.m d.fit ha.1 ha.2 hs hr2.1 hr2.2)
  rw [hz] at HC
  have HH := Aside0.mk (fun W' (hx : RefAt W' w0.heap.size gx 4096 256 2147483648 128 L) => refhas_calls _ gx _ _ _ _ a s L W' hx (map32 a ha))
  rw [hr] at HH
  have HT := Aside0.mk (h.below (below_alloc (Below.refl W.heap.size W) (.cells #[.int .i64 k, .int .i64 s, .int .u32 a, .int .u32 x, B] 45)))
  clear h d ha hr hr2 h0
  go_enter Try.func32, Try.ntmps32
  go_wp2_with (first | (go_at_call 19; refine (HC.out _ HT.out).mono ?_; rintro e w1 ⟨rfl, hb⟩; have hblk := (hb.block _ (by simp)).trans (heap_alloc_new W _); have HBLK := Aside0.mk hblk; have q1 := blk_cell hblk 1; have q2 := blk_cell hblk 2; clear hblk; have HB := Aside0.mk hb; clear hb) | (go_at_call 26; refine (HH.out _ (HT.out.below HB.out).x).mono ?_; rintro e w' ⟨rfl, ⟨nd, rfl⟩⟩))
  go_ret
  exact ⟨rfl, (HT.out.below HB.out).drewN _, ((KeepA.below (below_alloc (Below.refl _ _) _)).trans (KeepA.below HB.out)).trans (KeepA.below (pw_below_drewN (Below.refl _ _) _))⟩
set_option maxHeartbeats 4000000 in
theorem gets_yes (h : TwoW w0 W g bf br gx fl rl L) (d : Data fl rl L) (hL : L.length < 4294967296) (k a x : Int) (s : Nat) (B : Value) (ha : 0 ≤ a ∧ a < 4294967296) (h0 : 0 < s) (hr : hasR 4096 256 2147483648 128 a s = true) :
    Calls Try.prog 32 #[.pointer (some ⟨g, 0, none⟩), .pointer (some ⟨gx, 0, none⟩), .agg #[.int .i64 k, .int .i64 s, .int .u32 a, .int .u32 x, B]] W fun e W' => e = .returned (.bool true) ∧ TwoW w0 W' g bf br gx fl rl L ∧ KeepA W W' := by
  have hr2 := hr
  unfold hasR at hr2
  rw [d.bankF, d.bankR, Bool.or_eq_true_iff, decide_eq_true_iff, decide_eq_true_iff] at hr2
  have f1 := d.lf
  have r1 := d.lr
  have hget : ∃ l : List Int, l.length = s ∧ s ≤ 256 ∧ a + s ≤ 4294967296 ∧ (∀ i : Nat, i < s → rd l (i : Int) = atFrom L (a + (i : Int)) L.length) ∧ ∀ W : World, TwoW w0 W g bf br gx fl rl L → Calls Try.prog 19 #[.pointer (some ⟨g, 0, none⟩), .int .u32 a, .int .i64 s] W (GetTold W l) := by
    have hrow : ∀ (Bk : Int) (bank : List Int), Same Bk bank L → Bk ≤ a → a + s ≤ Bk + bank.length → ∀ i : Nat, i < s → rd (bytesAt Bk bank a s) (i : Int) = atFrom L (a + (i : Int)) L.length := fun Bk bank hS g1 g2 i hi => by
      rw [bytesAt_eq hS a s g1 g2]
      unfold rd
      rw [Int.toNat_natCast, List.getD_eq_getElem?_getD, List.getElem?_map, List.getElem?_range hi]
      rfl
    by_cases h1 : inBank 4096 fl.length a s
    · have hl := bytesAt_length h1.1 h1.2.2
      exact ⟨bytesAt 4096 fl a s, hl, by have := h1.1; have := h1.2.2; omega, by have := h1.2.2; omega, hrow _ _ d.sf h1.1 h1.2.2, fun W h => get_of _ g bf br _ _ fl rl a s _ W h.m (by rw [hl]; have := h1.1; have := h1.2.2; omega) (fun W' hM => part_f hM d.fit ha.1 ha.2 (by have := h1.2.2; omega) h1)⟩
    · have h2 : inBank 2147483648 rl.length a s := hr2.resolve_left h1
      have hl := bytesAt_length h2.1 h2.2.2
      exact ⟨bytesAt 2147483648 rl a s, hl, by have := h2.1; have := h2.2.2; omega, by have := h2.2.2; omega, hrow _ _ d.sr h2.1 h2.2.2, fun W h => get_of _ g bf br _ _ fl rl a s _ W h.m (by rw [hl]; have := h2.1; have := h2.2.2; omega) (fun W' hM => part_r hM d.fit ha.1 ha.2 (by have := h2.2.2; omega) h1 h2)⟩
  obtain ⟨l, hl, hs256, has, hrow, hcall⟩ := hget
  subst hl
  have HC := Aside0.mk hcall
  have HROW := Aside0.mk hrow
  have HH := Aside0.mk (fun W' (hx : RefAt W' w0.heap.size gx 4096 256 2147483648 128 L) => refhas_calls _ gx _ _ _ _ a l.length L W' hx (map32 a ha))
  rw [hr] at HH
  have HAT := Aside0.mk (fun W' (b : Int) (hx : RefAt W' w0.heap.size gx 4096 256 2147483648 128 L) => refat_calls _ gx _ _ _ _ b L W' hx (by omega))
  have HT := Aside0.mk (h.below (below_alloc (Below.refl W.heap.size W) (.cells #[.int .i64 k, .int .i64 l.length, .int .u32 a, .int .u32 x, B] 45)))
  have hz : ((l.length : Int) == 0) = false := beq_eq_false_iff_ne.mpr (by omega)
  have ha0 := ha.1
  have ha1 := ha.2
  clear h d ha hr hr2 hcall hrow f1 r1 hL
  go_enter Try.func32, Try.ntmps32
  go_wp2_with (first | (go_at_call 19; refine (HC.out _ HT.out).mono ?_; rintro e w1 ⟨A', c', rfl, hC, hc', hb⟩; have hblk := (hb.block _ (by simp)).trans (heap_alloc_new W _); have HBLK := Aside0.mk hblk; have q1 := blk_cell hblk 1; have q2 := blk_cell hblk 2; clear hblk; have HB := Aside0.mk hb; have HROWC := Aside0.mk hC; clear hb hC) | (go_at_call 26; refine (HH.out _ (HT.out.below HB.out).x).mono ?_; rintro e w' ⟨rfl, ⟨nd, rfl⟩⟩))
  have HT1 := Aside0.mk ((HT.out.below HB.out).drewN nd)
  clear q1 q2
  go_loopw [9] (fun i wr => ∃ k : Nat, k ≤ l.length ∧ i = .int .i64 k ∧ Aside0 (Drawn0 w1 wr)) (fun i _ => l.length - (intOf i).toNat)
  case atStart => exact ⟨0, by omega, rfl, ⟨⟨nd, rfl⟩⟩⟩
  case round =>
    obtain ⟨j, hj, rfl, hdr⟩ := hrel
    have hbl : Below w1.heap.size w1 wr := hdr.out.below
    have HTR := Aside0.mk ((HT.out.below HB.out).below hbl)
    by_cases hlt : j < l.length
    · obtain ⟨ad, rfl, hx⟩ := Kd.at_int HROWC.out (j : Int) (by omega) (by omega)
      replace hx := pw_cell_below hbl hx
      rw [Int.toNat_natCast] at hx
      have hblk := (hbl.block _ (blk_lt HBLK.out)).trans HBLK.out
      have q2 := blk_cell hblk 2
      have hmod : (a + (j : Int)) % 4294967296 = a + (j : Int) := by omega
      have hb1 : decide ((j : Int) < (l.length : Int)) = true := decide_eq_true (by omega)
      have hb2 : decide ((j : Int) < 300) = true := decide_eq_true (by omega)
      have hrow := HROW.out j hlt
      obtain ⟨y, hy⟩ : ∃ y, y = rd l (j : Int) := ⟨_, rfl⟩
      rw [← hy] at hx hrow
      have HK := Aside0.mk (fun W' hX => HAT.out W' (a + (j : Int)) hX)
      rw [← hrow] at HK
      have HX := Aside0.mk HTR.out.x
      clear hblk hbl hrow hy
      go_wp2_with (first | (go_at_call 37; (with_reducible refine (HK.out _ (by first | exact HX.out | exact HX.out.drewN _)).mono ?_); rintro e w' ⟨rfl, ⟨nd3, rfl⟩⟩; (try first | exact ⟨rfl, _, World.drewN_drewN _ _ _⟩ | exact ⟨rfl, _, Eq.trans (World.drewN_drewN _ _ _) (congrArg (World.drewN _) (Nat.add_assoc _ _ _))⟩)))
      repeat (go_quiet (first | (go_at_call 37; (with_reducible refine (HK.out _ (by first | exact HX.out | exact HX.out.drewN _)).mono ?_); rintro e w' ⟨rfl, ⟨nd3, rfl⟩⟩; (try first | exact ⟨rfl, _, World.drewN_drewN _ _ _⟩ | exact ⟨rfl, _, Eq.trans (World.drewN_drewN _ _ _) (congrArg (World.drewN _) (Nat.add_assoc _ _ _))⟩))); try go_wp2_with (first | (go_at_call 37; (with_reducible refine (HK.out _ (by first | exact HX.out | exact HX.out.drewN _)).mono ?_); rintro e w' ⟨rfl, ⟨nd3, rfl⟩⟩; (try first | exact ⟨rfl, _, World.drewN_drewN _ _ _⟩ | exact ⟨rfl, _, Eq.trans (World.drewN_drewN _ _ _) (congrArg (World.drewN _) (Nat.add_assoc _ _ _))⟩))))
      go_roundw
      case rel => exact ⟨j + 1, by omega, by go_num, ⟨by repeat (first | exact hdr.out | apply Drawn0.step)⟩⟩
      case measure => simp [intOf]; omega
    · obtain rfl : j = l.length := by omega
      go_wp2
      go_ret
      exact ⟨rfl, HTR.out, ((KeepA.below (below_alloc (Below.refl _ _) _)).trans (KeepA.below HB.out)).trans (KeepA.below hbl)⟩
end
section
variable {w0 W : World} {g bf br gx : Nat} {fl rl : List Int} {L : List S62}
theorem TwoW.al (h : TwoW w0 W g bf br gx fl rl L) (o : Obj) : TwoW w0 (W.alloc o) g bf br gx fl rl L := h.below (below_alloc (Below.refl _ _) o)
theorem TwoW.dr (h : TwoW w0 W g bf br gx fl rl L) : TwoW w0 W.drew g bf br gx fl rl L := h.below (below_drew (Below.refl _ _))
theorem KeepA.al (W : World) (o : Obj) : KeepA W (W.alloc o) := KeepA.below (below_alloc (Below.refl _ _) o)
set_option maxHeartbeats 4000000 in
theorem does_1 (h : TwoW w0 W g bf br gx fl rl L) (d : Data fl rl L) (hL : L.length < 4294967296) (s a x : Int) (B : Value) (ha : 0 ≤ a ∧ a < 4294967296) (hs : s ≤ 9223372036854775807) :
    Calls Try.prog 17 #[.pointer (some ⟨g, 0, none⟩), .pointer (some ⟨gx, 0, none⟩), .agg #[.int .i64 1, .int .i64 s, .int .u32 a, .int .u32 x, B]] W fun e W' => e = .returned (.bool true) ∧ TwoW w0 W' g bf br gx fl rl L ∧ KeepA W W' := by
  obtain ⟨y, z, hV⟩ : ∃ y z, refLoadV 4096 256 2147483648 128 L a s = (y, z) := ⟨_, _, rfl⟩
  have H1 := Aside0.mk (fun W' (h : TwoW w0 W' g bf br gx fl rl L) => h.load d a s ha hs y z hV)
  have H2 := Aside0.mk (fun W' (h : TwoW w0 W' g bf br gx fl rl L) => h.refload hL a s ha y z hV)
  have HT := Aside0.mk (h.al (.cells #[.int .i64 1, .int .i64 s, .int .u32 a, .int .u32 x, B] 45))
  clear h d hV hL ha hs
  go_enter Try.func17, Try.ntmps17
  go_wp2_with (first
    | (go_at_call 10; refine (H1.out _ HT.out).mono ?_; rintro e w1 ⟨rfl, ht, hk⟩; have hblk := hk _ _ _ _ (heap_alloc_new W _) (by decide) (by decide) (by decide); have HBLK1 := Aside0.mk hblk; have q10 := blk_cell hblk 0; have q11 := blk_cell hblk 1; have q12 := blk_cell hblk 2; have q13 := blk_cell hblk 3; have q14 := blk_cell hblk 4; clear hblk; have HT1 := Aside0.mk ht; have HK1 := Aside0.mk hk; clear ht hk)
    | (go_at_call 11; refine (H2.out _ HT1.out).mono ?_; rintro e w2 ⟨rfl, ht, hk⟩; have HT2 := Aside0.mk ht; have HK2 := Aside0.mk hk; clear ht hk))
  go_ret
  exact ⟨by simp, HT2.out, ((KeepA.al _ _).trans HK1.out).trans HK2.out⟩
set_option maxHeartbeats 4000000 in
theorem does_2 (h : TwoW w0 W g bf br gx fl rl L) (d : Data fl rl L) (hL : L.length < 4294967296) (s a x : Int) (B : Value) (ha : 0 ≤ a ∧ a < 4294967296) :
    Calls Try.prog 17 #[.pointer (some ⟨g, 0, none⟩), .pointer (some ⟨gx, 0, none⟩), .agg #[.int .i64 2, .int .i64 s, .int .u32 a, .int .u32 x, B]] W fun e W' => e = .returned (.bool true) ∧ TwoW w0 W' g bf br gx fl rl L ∧ KeepA W W' := by
  obtain ⟨y, z, hV⟩ : ∃ y z, refFetchV 4096 256 2147483648 128 L a = (y, z) := ⟨_, _, rfl⟩
  have H1 := Aside0.mk (fun W' (h : TwoW w0 W' g bf br gx fl rl L) => h.fetch d a ha y z hV)
  have H2 := Aside0.mk (fun W' (h : TwoW w0 W' g bf br gx fl rl L) => h.reffetch hL a ha y z hV)
  have HT := Aside0.mk (h.al (.cells #[.int .i64 2, .int .i64 s, .int .u32 a, .int .u32 x, B] 45))
  clear h d hV hL ha
  go_enter Try.func17, Try.ntmps17
  go_wp2_with (first
    | (go_at_call 18; refine (H1.out _ HT.out).mono ?_; rintro e w1 ⟨rfl, ht, hk⟩; have hblk := hk _ _ _ _ (heap_alloc_new W _) (by decide) (by decide) (by decide); have HBLK1 := Aside0.mk hblk; have q10 := blk_cell hblk 0; have q11 := blk_cell hblk 1; have q12 := blk_cell hblk 2; have q13 := blk_cell hblk 3; have q14 := blk_cell hblk 4; clear hblk; have HT1 := Aside0.mk ht; have HK1 := Aside0.mk hk; clear ht hk)
    | (go_at_call 30; refine (H2.out _ HT1.out).mono ?_; rintro e w2 ⟨rfl, ht, hk⟩; have HT2 := Aside0.mk ht; have HK2 := Aside0.mk hk; clear ht hk))
  go_ret
  exact ⟨by simp, HT2.out, ((KeepA.al _ _).trans HK1.out).trans HK2.out⟩
set_option maxHeartbeats 4000000 in
theorem does_4 (h : TwoW w0 W g bf br gx fl rl L) (d : Data fl rl L) (hL : L.length < 4294967296) (s a x : Int) (B : Value) (ha : 0 ≤ a ∧ a < 4294967296) (hs : s ≤ 9223372036854775807) :
    Calls Try.prog 17 #[.pointer (some ⟨g, 0, none⟩), .pointer (some ⟨gx, 0, none⟩), .agg #[.int .i64 4, .int .i64 s, .int .u32 a, .int .u32 x, B]] W fun e W' => e = .returned (.bool true) ∧ TwoW w0 W' g bf br gx fl rl L ∧ KeepA W W' := by
  have H1 := Aside0.mk (show ∀ W', TwoW w0 W' g bf br gx fl rl L → Calls Try.prog 32 #[.pointer (some ⟨g, 0, none⟩), .pointer (some ⟨gx, 0, none⟩), .agg #[.int .i64 4, .int .i64 s, .int .u32 a, .int .u32 x, B]] W' fun e W2 => e = .returned (.bool true) ∧ TwoW w0 W2 g bf br gx fl rl L ∧ KeepA W' W2 from fun W' h => by
    by_cases h0 : s = 0
    · rw [h0]
      exact gets_zero h d 4 a x B ha
    · cases hr : hasR 4096 256 2147483648 128 a s
      · exact gets_no h d 4 s a x B ha hs h0 hr
      · have hsp : 0 ≤ s := by
          unfold hasR inR at hr
          simp at hr
          omega
        obtain ⟨n, rfl⟩ : ∃ n : Nat, s = (n : Int) := ⟨s.toNat, by omega⟩
        exact gets_yes h d hL 4 a x n B ha (by omega) hr)
  have HT := Aside0.mk (h.al (.cells #[.int .i64 4, .int .i64 s, .int .u32 a, .int .u32 x, B] 45))
  clear h d hL ha hs
  go_enter Try.func17, Try.ntmps17
  go_wp2_with (first
    | (go_at_call 32; refine (H1.out _ HT.out).mono ?_; rintro e w1 ⟨rfl, ht, hk⟩; have HT1 := Aside0.mk ht; have HK1 := Aside0.mk hk; clear ht hk))
  go_ret
  exact ⟨rfl, HT1.out, (KeepA.al _ _).trans HK1.out⟩
set_option maxHeartbeats 4000000 in
theorem does_0 (h : TwoW w0 W g bf br gx fl rl L) (d : Data fl rl L) (hL : L.length < 4294967296) (k s a x : Int) (B : Value) (ha : 0 ≤ a ∧ a < 4294967296) (hx : 0 ≤ x ∧ x < 4294967296) (hs : s ≤ 9223372036854775807) (k1 : k ≠ 1) (k2 : k ≠ 2) (k3 : k ≠ 3) (k4 : k ≠ 4) :
    Calls Try.prog 17 #[.pointer (some ⟨g, 0, none⟩), .pointer (some ⟨gx, 0, none⟩), .agg #[.int .i64 k, .int .i64 s, .int .u32 a, .int .u32 x, B]] W fun e W' => e = .returned (.bool true) ∧ TwoW w0 W' g bf br gx fl (storeL 2147483648 rl a s x) (if refStoreT 2147483648 128 a s = 0 then L ++ refWrites a x s.toNat else L) ∧ KeepA W W' := by
  obtain ⟨T, hT⟩ : ∃ T, refStoreT 2147483648 128 a s = T := ⟨_, rfl⟩
  have H1 := Aside0.mk (fun W' (h : TwoW w0 W' g bf br gx fl rl L) => h.store d a s x ha hx hs T hT)
  have H2 := Aside0.mk (fun W' (h : TwoW w0 W' g bf br gx fl (storeL 2147483648 rl a s x) L) => h.refstore hL a s x ha hx T hT)
  obtain ⟨L2, hL2⟩ : ∃ L2, L2 = (if refStoreT 2147483648 128 a s = 0 then L ++ refWrites a x s.toNat else L) := ⟨_, rfl⟩
  rw [← hL2] at H2
  rw [← hL2]
  clear hL2
  have HT := Aside0.mk (h.al (.cells #[.int .i64 k, .int .i64 s, .int .u32 a, .int .u32 x, B] 45))
  have b1 : (k == 1) = false := beq_eq_false_iff_ne.mpr k1
  have b2 : (k == 2) = false := beq_eq_false_iff_ne.mpr k2
  have b3 : (k == 3) = false := beq_eq_false_iff_ne.mpr k3
  have b4 : (k == 4) = false := beq_eq_false_iff_ne.mpr k4
  clear h d hT hL ha hs hx k1 k2 k3 k4
  go_enter Try.func17, Try.ntmps17
  go_wp2
  have hkeep : ∀ W1 W2 : World, W1.heap[W.heap.size]? = some (.cells #[.int .i64 k, .int .i64 s, .int .u32 a, .int .u32 x, B] 45 (0, 0)) → KeepA W1 W2 → (W2.heap[W.heap.size]? = some (.cells #[.int .i64 k, .int .i64 s, .int .u32 a, .int .u32 x, B] 45 (0, 0)) ∧ W2.cell? ⟨W.heap.size, 1, none⟩ = some (.int .i64 s) ∧ W2.cell? ⟨W.heap.size, 2, none⟩ = some (.int .u32 a) ∧ W2.cell? ⟨W.heap.size, 3, none⟩ = some (.int .u32 x)) := fun W1 W2 h1 h2 => by
    have hblk := h2 _ _ _ _ h1 (by decide) (by decide) (by decide)
    exact ⟨hblk, blk_cell hblk 1, blk_cell hblk 2, blk_cell hblk 3⟩
  have HKEEP := Aside0.mk hkeep
  clear hkeep
  go_region_held3 (fun W2 => W2.heap[W.heap.size]? = some (.cells #[.int .i64 k, .int .i64 s, .int .u32 a, .int .u32 x, B] 45 (0, 0)) ∧ W2.cell? ⟨W.heap.size, 1, none⟩ = some (.int .i64 s) ∧ W2.cell? ⟨W.heap.size, 2, none⟩ = some (.int .u32 a) ∧ W2.cell? ⟨W.heap.size, 3, none⟩ = some (.int .u32 x))
    (first | (exact HKEEP.out _ _ (heap_alloc_new W _) (KeepA.below (below_drew (Below.refl _ _)))) | (go_split_ands; exact HKEEP.out _ _ (by assumption) hk) | go_keep)
    (first
      | (go_at_call 12; refine (H1.out _ (by first | exact HT.out | exact HT.out.dr)).mono ?_; rintro e w1 ⟨rfl, ht, hk⟩; have hkA := hk)
      | (go_at_call 13; refine (H2.out _ (by first | exact ht | exact ht.dr)).mono ?_; rintro e w2 ⟨rfl, ht2, hk2⟩; have hk := hk2))
  all_goals go_wp2
  all_goals go_ret
  all_goals exact ⟨by first | rfl | simp, ht2, ((KeepA.al _ _).trans hkA).trans hk2⟩
end
section
variable {w0 W : World} {g bf br gx : Nat} {fl rl : List Int} {L : List S62}
set_option maxHeartbeats 4000000 in
theorem does_3 (h : TwoW w0 W g bf br gx fl rl L) (d : Data fl rl L) (hL : L.length < 4294967296) (s a x : Int) (A0 : Option Addr) (l : List Int) (c0 : Nat) (hC : Kd.C (Kd.int .u8) w0 A0 l.length l) (hc : l.length ≤ c0) (ha : 0 ≤ a ∧ a < 4294967296) (hl : l.length ≤ 40) :
    Calls Try.prog 17 #[.pointer (some ⟨g, 0, none⟩), .pointer (some ⟨gx, 0, none⟩), .agg #[.int .i64 3, .int .i64 s, .int .u32 a, .int .u32 x, .slice A0 l.length c0]] W fun e W' => e = .returned (.bool true) ∧ TwoW w0 W' g bf br gx (putF fl a l) (putR fl rl a l) (if putB a l.length then L ++ putWrites a l l.length else L) ∧ KeepA W W' := by
  obtain ⟨b, hb⟩ : ∃ b, putB a l.length = b := ⟨_, rfl⟩
  have hd : decide (40 < (l.length : Int)) = false := decide_eq_false (by omega)
  have H1 := Aside0.mk (fun W' A c (h : TwoW w0 W' g bf br gx fl rl L) (hC : Kd.C (Kd.int .u8) W' A l.length l) => h.put d a l A c ha hC (by omega) b hb)
  have H2 := Aside0.mk (fun W' (h : TwoW w0 W' g bf br gx (putF fl a l) (putR fl rl a l) L) => h.refput hL a l A0 c0 ha hC (by omega) b hb)
  obtain ⟨L2, hL2⟩ : ∃ L2, L2 = (if putB a l.length then L ++ putWrites a l l.length else L) := ⟨_, rfl⟩
  rw [← hL2] at H2
  rw [← hL2]
  have HT := Aside0.mk (h.al (.cells #[.int .i64 3, .int .i64 s, .int .u32 a, .int .u32 x, .slice A0 l.length c0] 45))
  have HCW := Aside0.mk (Kd.C_below hC h.b)
  have HL := Aside0.mk hl
  clear h d hb hL2 hL ha hC
  go_enter Try.func17, Try.ntmps17
  go_wp2
  have hkeep : ∀ W1 W2 : World, W1.heap[W.heap.size]? = some (.cells #[.int .i64 3, .int .i64 s, .int .u32 a, .int .u32 x, .slice A0 l.length c0] 45 (0, 0)) → KeepA W1 W2 → (W2.heap[W.heap.size]? = some (.cells #[.int .i64 3, .int .i64 s, .int .u32 a, .int .u32 x, .slice A0 l.length c0] 45 (0, 0)) ∧ W2.cell? ⟨W.heap.size, 2, none⟩ = some (.int .u32 a)) := fun W1 W2 h1 h2 => by
    have hblk := h2 _ _ _ _ h1 (by decide) (by decide) (by decide)
    exact ⟨hblk, blk_cell hblk 2⟩
  have HKEEP := Aside0.mk hkeep
  clear hkeep
  go_region_held3 (fun W2 => W2.heap[W.heap.size]? = some (.cells #[.int .i64 3, .int .i64 s, .int .u32 a, .int .u32 x, .slice A0 l.length c0] 45 (0, 0)) ∧ W2.cell? ⟨W.heap.size, 2, none⟩ = some (.int .u32 a))
    (first | (go_split_ands; exact HKEEP.out _ _ (by assumption) hk) | (exact HKEEP.out _ _ (heap_alloc_new W _) hkX) | (exact HKEEP.out _ _ (heap_alloc_new W _) (KeepA.below (below_drew (Below.refl _ _)))) | (exact HKEEP.out _ _ (heap_alloc_new W _) (KeepA.below (below_drew (below_alloc (Below.refl _ _) _)))) | go_keep)
    (first
      | (rw [drew_alloc]; refine Kd.R_append_rows_step (Kd.int .u8) (w0 := (W.alloc (.cells #[.int .i64 3, .int .i64 s, .int .u32 a, .int .u32 x, .slice A0 l.length c0] 45)).drew) (W.alloc (.cells #[.int .i64 3, .int .i64 s, .int .u32 a, .int .u32 x, .slice A0 l.length c0] 45)).drew.heap.size (by rfl) (.tmp 82) (.tmp 83) 43 5 (.int .u8 0) 1 rfl Try.underlying43 info5' rfl (by decide) (by omega) (.slice (some ⟨(W.alloc (.cells #[.int .i64 3, .int .i64 s, .int .u32 a, .int .u32 x, .slice A0 l.length c0] 45)).drew.heap.size, 0, none⟩) 0 0) [] l A0 l.length c0 (fun _ => True) (fun _ => False) (by show (Value.slice (some ⟨W.heap.size + 1, 0, none⟩) 0 0) = _; simp [World.drew]) rfl (R_emp (W.alloc (.cells #[.int .i64 3, .int .i64 s, .int .u32 a, .int .u32 x, .slice A0 l.length c0] 45)).drew) (Kd.C_below HCW.out (below_alloc (below_drew (below_alloc (Below.refl _ _) _)) _)) (fun _ _ h => h) (fun _ h => h.elim) (fun _ _ => trivial) (below_alloc (Below.refl _ _) _) (by simp) (by have := HL.out; simp; omega) ?_; intro v1 w1 ho hbx hgr hat; obtain ⟨A1, c1, hv, hc1, hC1⟩ := Kd.R_reads ho; rw [List.nil_append] at hv hc1 hC1; subst hv; have hkX := KeepA.below hbx; have ht1 := HT.out.dr.below hbx)
      | (go_at_call 20; refine (H1.out _ A1 c1 (by first | exact ht1 | exact ht1.dr) (by first | exact hC1 | exact Kd.C_drew hC1)).mono ?_; rintro e w2 ⟨rfl, ht, hk⟩; have hkA := hk)
      | (go_at_call 31; refine (H2.out _ (by first | exact ht | exact ht.dr)).mono ?_; rintro e w3 ⟨rfl, ht3, hk3⟩; have hk := hk3))
  all_goals go_wp2
  all_goals go_ret
  all_goals exact ⟨by first | rfl | simp, ht3, (((KeepA.al _ _).trans hkX).trans hkA).trans hk3⟩
set_option maxHeartbeats 4000000 in
theorem does_3b (h : TwoW w0 W g bf br gx fl rl L) (d : Data fl rl L) (hL : L.length < 4294967296) (s a x : Int) (A0 : Option Addr) (l : List Int) (c0 : Nat) (hC : Kd.C (Kd.int .u8) w0 A0 l.length l) (hc : l.length ≤ c0) (ha : 0 ≤ a ∧ a < 4294967296) (hl : 40 < l.length) (lb : List Int) (hlb : lb = l.take 40) :
    Calls Try.prog 17 #[.pointer (some ⟨g, 0, none⟩), .pointer (some ⟨gx, 0, none⟩), .agg #[.int .i64 3, .int .i64 s, .int .u32 a, .int .u32 x, .slice A0 l.length c0]] W fun e W' => e = .returned (.bool true) ∧ TwoW w0 W' g bf br gx (putF fl a lb) (putR fl rl a lb) (if putB a lb.length then L ++ putWrites a lb lb.length else L) ∧ KeepA W W' := by
  have hb40 : lb.length = 40 := by rw [hlb, List.length_take]; omega
  have hCb : Kd.C (Kd.int .u8) w0 A0 lb.length lb := by rw [hlb]; exact Kd.C_take hC (by omega)
  obtain ⟨b, hb⟩ : ∃ b, putB a lb.length = b := ⟨_, rfl⟩
  have hd : decide (40 < (l.length : Int)) = true := decide_eq_true (by omega)
  have H1 := Aside0.mk (fun W' A c (h : TwoW w0 W' g bf br gx fl rl L) (hC : Kd.C (Kd.int .u8) W' A lb.length lb) => h.put d a lb A c ha hC (by omega) b hb)
  have H2 := Aside0.mk (fun W' (h : TwoW w0 W' g bf br gx (putF fl a lb) (putR fl rl a lb) L) => h.refput hL a lb A0 c0 ha hCb (by omega) b hb)
  obtain ⟨L2, hL2⟩ : ∃ L2, L2 = (if putB a lb.length then L ++ putWrites a lb lb.length else L) := ⟨_, rfl⟩
  rw [← hL2] at H2
  rw [← hL2]
  have HT := Aside0.mk (h.al (.cells #[.int .i64 3, .int .i64 s, .int .u32 a, .int .u32 x, .slice A0 l.length c0] 45))
  have HCW := Aside0.mk (Kd.C_below hCb h.b)
  have HL := Aside0.mk hb40
  rw [hb40] at H1 H2 HCW
  clear h d hb hL2 hL ha hC hCb hb40 hlb
  go_enter Try.func17, Try.ntmps17
  go_wp2
  have hkeep : ∀ W1 W2 : World, W1.heap[W.heap.size]? = some (.cells #[.int .i64 3, .int .i64 s, .int .u32 a, .int .u32 x, .slice A0 l.length c0] 45 (0, 0)) → KeepA W1 W2 → (W2.heap[W.heap.size]? = some (.cells #[.int .i64 3, .int .i64 s, .int .u32 a, .int .u32 x, .slice A0 l.length c0] 45 (0, 0)) ∧ W2.cell? ⟨W.heap.size, 2, none⟩ = some (.int .u32 a)) := fun W1 W2 h1 h2 => by
    have hblk := h2 _ _ _ _ h1 (by decide) (by decide) (by decide)
    exact ⟨hblk, blk_cell hblk 2⟩
  have HKEEP := Aside0.mk hkeep
  clear hkeep
  go_region_held3 (fun W2 => W2.heap[W.heap.size]? = some (.cells #[.int .i64 3, .int .i64 s, .int .u32 a, .int .u32 x, .slice A0 l.length c0] 45 (0, 0)) ∧ W2.cell? ⟨W.heap.size, 2, none⟩ = some (.int .u32 a))
    (first | (go_split_ands; exact HKEEP.out _ _ (by assumption) hk) | (exact HKEEP.out _ _ (heap_alloc_new W _) hkX) | (exact HKEEP.out _ _ (heap_alloc_new W _) (KeepA.below (below_drew (Below.refl _ _)))) | (exact HKEEP.out _ _ (heap_alloc_new W _) (KeepA.below (below_drew (below_alloc (Below.refl _ _) _)))) | go_keep)
    (first
      | (rw [drew_alloc]; refine Kd.R_append_rows_step (Kd.int .u8) (w0 := (W.alloc (.cells #[.int .i64 3, .int .i64 s, .int .u32 a, .int .u32 x, .slice A0 l.length c0] 45)).drew) (W.alloc (.cells #[.int .i64 3, .int .i64 s, .int .u32 a, .int .u32 x, .slice A0 l.length c0] 45)).drew.heap.size (by rfl) (.tmp 82) (.tmp 83) 43 5 (.int .u8 0) 1 rfl Try.underlying43 info5' rfl (by decide) (by omega) (.slice (some ⟨(W.alloc (.cells #[.int .i64 3, .int .i64 s, .int .u32 a, .int .u32 x, .slice A0 l.length c0] 45)).drew.heap.size, 0, none⟩) 0 0) [] lb A0 40 c0 (fun _ => True) (fun _ => False) (by show (Value.slice (some ⟨W.heap.size + 1, 0, none⟩) 0 0) = _; simp [World.drew]) rfl (R_emp (W.alloc (.cells #[.int .i64 3, .int .i64 s, .int .u32 a, .int .u32 x, .slice A0 l.length c0] 45)).drew) (Kd.C_below HCW.out (below_alloc (below_drew (below_alloc (Below.refl _ _) _)) _)) (fun _ _ h => h) (fun _ h => h.elim) (fun _ _ => trivial) (below_alloc (Below.refl _ _) _) (by simp) (by decide) ?_; intro v1 w1 ho hbx hgr hat; obtain ⟨A1, c1, hv, hc1, hC1⟩ := Kd.R_reads ho; rw [List.nil_append, HL.out] at hv hc1 hC1; subst hv; have hkX := KeepA.below hbx; have ht1 := HT.out.dr.below hbx)
      | (go_at_call 20; refine (H1.out _ A1 c1 (by first | exact ht1 | exact ht1.dr) (by first | exact hC1 | exact Kd.C_drew hC1)).mono ?_; rintro e w2 ⟨rfl, ht, hk⟩; have hkA := hk)
      | (go_at_call 31; refine (H2.out _ (by first | exact ht | exact ht.dr)).mono ?_; rintro e w3 ⟨rfl, ht3, hk3⟩; have hk := hk3))
  all_goals go_wp2
  all_goals go_ret
  all_goals exact ⟨by first | rfl | simp, ht3, (((KeepA.al _ _).trans hkX).trans hkA).trans hk3⟩
theorem does_calls (h : TwoW w0 W g bf br gx fl rl L) (d : Data fl rl L) (hL : L.length < 4294967296) (k s a x : Int) (A0 : Option Addr) (l : List Int) (c0 : Nat) (hC : Kd.C (Kd.int .u8) w0 A0 l.length l) (hc : l.length ≤ c0) (hby : Bytes l) (ha : 0 ≤ a ∧ a < 4294967296) (hx : 0 ≤ x ∧ x < 4294967296) (hs : s ≤ 9223372036854775807) :
    Calls Try.prog 17 #[.pointer (some ⟨g, 0, none⟩), .pointer (some ⟨gx, 0, none⟩), .agg #[.int .i64 k, .int .i64 s, .int .u32 a, .int .u32 x, .slice A0 l.length c0]] W fun e W' => e = .returned (.bool true) ∧ ∃ fl' rl' L', TwoW w0 W' g bf br gx fl' rl' L' ∧ Data fl' rl' L' ∧ L'.length ≤ L.length + 40 := by
  have hput : ∀ (lb : List Int), lb.length ≤ 40 → (if putB a lb.length then L ++ putWrites a lb lb.length else L).length ≤ L.length + 40 := fun lb h => by
    split
    · rw [List.length_append, putWrites_length]; omega
    · omega
  by_cases k1 : k = 1
  · subst k1
    exact (does_1 h d hL s a x _ ha hs).mono fun e W' hh => ⟨hh.1, fl, rl, L, hh.2.1, d, by omega⟩
  by_cases k2 : k = 2
  · subst k2
    exact (does_2 h d hL s a x _ ha).mono fun e W' hh => ⟨hh.1, fl, rl, L, hh.2.1, d, by omega⟩
  by_cases k4 : k = 4
  · subst k4
    exact (does_4 h d hL s a x _ ha hs).mono fun e W' hh => ⟨hh.1, fl, rl, L, hh.2.1, d, by omega⟩
  by_cases k3 : k = 3
  · subst k3
    by_cases hl : l.length ≤ 40
    · exact (does_3 h d hL s a x A0 l c0 hC hc ha hl).mono fun e W' hh => ⟨hh.1, _, _, _, hh.2.1, d.put a l hby, hput l hl⟩
    · have hb : Bytes (l.take 40) := fun y hy => hby y (List.mem_of_mem_take hy)
      exact (does_3b h d hL s a x A0 l c0 hC hc ha (by omega) (l.take 40) rfl).mono fun e W' hh => ⟨hh.1, _, _, _, hh.2.1, d.put a _ hb, hput _ (by rw [List.length_take]; omega)⟩
  · refine (does_0 h d hL k s a x _ ha hx hs k1 k2 k3 k4).mono fun e W' hh => ⟨hh.1, _, _, _, hh.2.1, d.store a s x, ?_⟩
    split
    · rename_i h0
      have hsz : sizedP s := by
        by_cases hz : sizedP s
        · exact hz
        · unfold refStoreT at h0
          rw [if_pos (by simpa using hz)] at h0
          exact absurd h0 (by decide)
      rw [List.length_append, refWrites_length]
      unfold sizedP at hsz
      omega
    · omega
end

end Go.Proofs.Ytbbjooaggdgcmaa.PC
