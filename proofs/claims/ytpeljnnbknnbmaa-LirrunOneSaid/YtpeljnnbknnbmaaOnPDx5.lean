import Derived.Test.YtpeljnnbknnbmaaOnPDx0
-- Written by pr.py, a driver around the kit's printer, for this seat. Not trusted: Lean checks it.
namespace Go.Proofs.Ytpeljnnbknnbmaa.PD
open Go.RowKit Go.Proofs.YtpeljnnbknnbmaaW.PrintWords Go.Proofs.YtpeljnnbknnbmaaW.PrintLast Go.Proofs.YtpeljnnbknnbmaaW.PrintMore
attribute [local go_sem] max2_int min2_int max_two min_two max_three min_three max_four min_four   -- for this text's walks alone
set_option linter.unusedVariables false
set_option linter.unusedSimpArgs false

--BREAK 
/-! ### mem_bank_part: function 99 -/
theorem info_u8 : (Try.prog.info? 5).map (fun i => (i.zero, i.size, i.bytes)) = some (some (.int .u8 0), 1, 1) := by kernel_rfl
/-- a part of a bank's bytes, told -/
def PartYes (b p m : Nat) (w : World) (e : Ending) (w' : World) : Prop := ∃ A' c', e = .returned (.tuple #[.slice A' m c', .bool true]) ∧ (0 < m → A' = some ⟨b, p, none⟩) ∧ m ≤ c' ∧ Below w.heap.size w w'
set_option maxHeartbeats 4000000 in
theorem bank_yes (b n p m : Nat) (base addr : Int) (w : World) (hb : 0 ≤ base) (ha : addr < 4294967296) (hp : base + p = addr) (hm : p + m ≤ n) (hn : n ≤ 1048576) :
    Calls Try.prog 99 #[.agg #[.int .u32 base, .slice (some ⟨b, 0, none⟩) n n], .int .u32 addr, .int .i64 m] w (PartYes b p m w) := by
  obtain ⟨i0, hi, hz0, hz1, hz2⟩ := info_parts info_u8
  have hcut := cut_mid (P := Try.prog) 56 5 .u64 .u64 Try.underlying56 hi 1 hz1 (some ⟨b, 0, none⟩) n n (p : Int) ((p : Int) + m) (by omega) (by omega) (by omega) (Nat.le_refl _)
  obtain ⟨A', hA⟩ : ∃ A' : Option Addr, A' = (if n = ((p : Int)).toNat then some ⟨b, 0, none⟩ else (some (⟨b, 0, none⟩ : Addr)).map (·.add (((p : Int)).toNat * 1))) := ⟨_, rfl⟩
  rw [← hA] at hcut
  have hA2 : 0 < m → A' = some ⟨b, p, none⟩ := fun h => by
    rw [hA, if_neg (by omega)]
    simp [add_plain]
  have e1 : ((p : Int) + m).toNat - ((p : Int)).toNat = m := by omega
  have e2 : n - ((p : Int)).toNat = n - p := by omega
  rw [e1, e2] at hcut
  have HA := Aside0.mk hA2
  clear hA hA2 e1 e2 hi hz0 hz1 hz2
  have hs : (addr - base) % 4294967296 = (p : Int) := by omega
  have hs' : addr - base = (p : Int) := by omega
  have hw1 : IntKind.u64.wrap (p : Int) = (p : Int) := by simp [IntKind.wrap, IntKind.bits, IntKind.signed]; omega
  have hw2 : IntKind.u64.wrap (n : Int) = (n : Int) := by simp [IntKind.wrap, IntKind.bits, IntKind.signed]; omega
  have hw3 : IntKind.u64.wrap (m : Int) = (m : Int) := by simp [IntKind.wrap, IntKind.bits, IntKind.signed]; omega
  have hw4 : IntKind.u64.wrap ((n : Int) - p) = (n : Int) - p := by simp [IntKind.wrap, IntKind.bits, IntKind.signed]; omega
  have hw5 : IntKind.u64.wrap ((p : Int) + m) = (p : Int) + m := by simp [IntKind.wrap, IntKind.bits, IntKind.signed]; omega
  have h1 : ¬ addr < base := by omega
  have h2 : ¬ (m : Int) < 0 := by omega
  have h3 : ¬ (n : Int) < p := by omega
  have h4 : ¬ (n : Int) - p < m := by omega
  clear hp
  go_enter Try.func99, Try.ntmps99
  go_wp2
  go_ret2
  exact ⟨A', n - p, rfl, HA.out, by omega, (Below.refl _ _).alloc (Nat.le_refl _) _⟩
set_option maxHeartbeats 4000000 in
theorem bank_no (b n : Nat) (base addr cnt : Int) (w : World) (hb : 0 ≤ base) (hb2 : base < 4294967296) (ha0 : 0 ≤ addr) (ha : addr < 4294967296) (hc : cnt ≤ 9223372036854775807) (hn : n ≤ 1048576)
    (hno : ¬ (base ≤ addr ∧ 0 ≤ cnt ∧ addr + cnt ≤ base + n)) :
    Calls Try.prog 99 #[.agg #[.int .u32 base, .slice (some ⟨b, 0, none⟩) n n], .int .u32 addr, .int .i64 cnt] w fun e w' => e = .returned (.tuple #[.slice none 0 0, .bool false]) ∧ Below w.heap.size w w' := by
  by_cases h1 : addr < base
  · clear hno
    go_enter Try.func99, Try.ntmps99
    go_wp2
    go_ret2
    exact ⟨rfl, (Below.refl _ _).alloc (Nat.le_refl _) _⟩
  · by_cases h2 : cnt < 0
    · clear hno
      go_enter Try.func99, Try.ntmps99
      go_wp2
      go_ret2
      exact ⟨rfl, (Below.refl _ _).alloc (Nat.le_refl _) _⟩
    · obtain ⟨p, hp⟩ : ∃ p : Nat, addr - base = (p : Int) := ⟨(addr - base).toNat, by omega⟩
      have hs : (addr - base) % 4294967296 = (p : Int) := by omega
      have hw1 : IntKind.u64.wrap (p : Int) = (p : Int) := by simp [IntKind.wrap, IntKind.bits, IntKind.signed]; omega
      have hw2 : IntKind.u64.wrap (n : Int) = (n : Int) := by simp [IntKind.wrap, IntKind.bits, IntKind.signed]; omega
      have hw3 : IntKind.u64.wrap cnt = cnt := by simp [IntKind.wrap, IntKind.bits, IntKind.signed]; omega
      by_cases h3 : (n : Int) < p
      · clear hno
        go_enter Try.func99, Try.ntmps99
        go_wp2
        go_ret2
        exact ⟨rfl, (Below.refl _ _).alloc (Nat.le_refl _) _⟩
      · have h4 : (n : Int) - p < cnt := by omega
        have hw4 : IntKind.u64.wrap ((n : Int) - p) = (n : Int) - p := by simp [IntKind.wrap, IntKind.bits, IntKind.signed]; omega
        clear hno
        go_enter Try.func99, Try.ntmps99
        go_wp2
        go_ret2
        exact ⟨rfl, (Below.refl _ _).alloc (Nat.le_refl _) _⟩

end Go.Proofs.Ytpeljnnbknnbmaa.PD
