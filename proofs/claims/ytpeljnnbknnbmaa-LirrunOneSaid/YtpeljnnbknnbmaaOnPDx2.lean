import Derived.Test.YtpeljnnbknnbmaaOnPDx0
import Derived.Test.YtpeljnnbknnbmaaOnPDx1
-- Written by pr.py, a driver around the kit's printer, for this seat. Not trusted: Lean checks it.
namespace Go.Proofs.Ytpeljnnbknnbmaa.PD
open Go.RowKit Go.Proofs.YtpeljnnbknnbmaaW.PrintWords Go.Proofs.YtpeljnnbknnbmaaW.PrintLast Go.Proofs.YtpeljnnbknnbmaaW.PrintMore
attribute [local go_sem] max2_int min2_int max_two min_two max_three min_three max_four min_four   -- for this text's walks alone
set_option linter.unusedVariables false
set_option linter.unusedSimpArgs false

/-! ### lir_can: function 76 -/
def lir_can.f (k : Nat) (a0_0 : Int) (a0_1 : Int) (a0_2 : Int) (a0_3 : Int) (a0_4 : Int) : Option (Bool × Bool × Bool × Int × Int × Bool) := (lir_of.f k a0_0).bind fun bt104 => (if bt104.2.2.2.2.2 = true then ((lir_fits.f a0_1 bt104.1).bind fun t111 => (if t111 = true then ((lir_fits.f a0_2 bt104.2.1).bind fun t112 => (if t112 = true then ((lir_fits.f a0_3 bt104.2.2.1).bind fun t113 => (if t113 = true then (if a0_4 ≥ bt104.2.2.2.1 then (some (bt104.1, bt104.2.1, bt104.2.2.1, bt104.2.2.2.1, bt104.2.2.2.2.1, decide (a0_4 ≤ bt104.2.2.2.2.1))) else (some (bt104.1, bt104.2.1, bt104.2.2.1, bt104.2.2.2.1, bt104.2.2.2.2.1, false))) else (some (bt104.1, bt104.2.1, bt104.2.2.1, bt104.2.2.2.1, bt104.2.2.2.2.1, false)))) else (some (bt104.1, bt104.2.1, bt104.2.2.1, bt104.2.2.2.1, bt104.2.2.2.2.1, false)))) else (some (bt104.1, bt104.2.1, bt104.2.2.1, bt104.2.2.2.1, bt104.2.2.2.2.1, false)))) else (some (bt104.1, bt104.2.1, bt104.2.2.1, bt104.2.2.2.1, bt104.2.2.2.2.1, false)))
def lir_can.T2 : Bool × List (List Nat × List Nat) := (true, [([], []), ([], []), ([1], [1]), ([2], [2]), ([3, 2], [2, 3]), ([2], [2]), ([5, 2], [2, 5]), ([4, 6, 2, 2], [2, 4, 6]), ([2, 7], [2, 7]), ([8, 7], [8]), ([9], [9]), ([10, 9], [9, 10]), ([9], [9]), ([12, 9], [9, 12]), ([11, 13, 9, 9], [9, 11, 13]), ([9, 14], [9, 14]), ([15, 14], [15]), ([16], [16]), ([17, 16], [16, 17]), ([16], [16]), ([19, 16], [16, 19]), ([18, 20, 16, 16], [16, 18, 20]), ([16, 21], [16, 21]), ([22, 21], [22]), ([23], [23]), ([24, 23], [23, 24]), ([23], [23]), ([26, 23], [23, 26]), ([25, 27, 23], [23, 25, 27]), ([23, 28], [23, 28]), ([29, 23], [29]), ([30], [30]), ([31, 30], [30, 31]), ([30], [30]), ([33, 30], [30, 33]), ([32, 34, 30], [30, 32, 34]), ([30, 35], [30, 35]), ([0, 30, 0], [0]), ([36, 37, 0, 1, 2, 3, 4, 5, 6, 7, 8, 9, 10, 11, 12, 13, 14, 15, 16, 17, 18, 19, 20, 21, 22, 23, 24, 25, 26, 27, 28, 29, 30, 31, 32, 33, 34, 35, 36, 37], [36])])
def lir_can.B2 : List Nat := [0, 0, 2, 6, 14, 6, 38, 126, 254, 510, 1022, 2046, 1022, 5118, 16382, 32766, 65534, 131070, 262142, 131070, 655358, 2097150, 4194302, 8388606, 16777214, 33554430, 16777214, 83886078, 268435454, 536870910, 1073741822, 2147483646, 4294967294, 2147483646, 10737418238, 34359738366, 68719476734, 2147483647, 274877906943]
theorem lir_can.tab2 : rtab .any (opsOf Try.f76 2) = lir_can.T2 := by kernel_rfl
theorem lir_can.bits2 : waitsOk lir_can.T2.2 lir_can.B2 = true := by kernel_rfl
abbrev bz39 (n : Nat) : Array Bool := ((List.range 39).map n.testBit).toArray
section
variable {P : Program} {ops : Array Oper} {Q : Exit → Act → World → Prop} {S : World → Prop} {ds : List Nat} {fuel : Nat} {l : Array Bool} {a a' : Act} {w : World} {oi : Oper} {v : Value} {T : Bool × List (List Nat × List Nat)}
theorem pu (hT : rtab .any ops = T) (i : Nat) (N : Option Tmp) (l' : Array Bool) (h : wpAnyLast P .any ops Q S ds fuel l' a' w) (hi : ops[i]? = some oi := by rfl) (hN : oi.dst = N := by rfl) (hc : anyT T l.toList l'.toList i = true := by kernel_rfl)
    (hy : Yields P ops oi v a := by (refine Or.inl ⟨by rfl, ?_⟩; intro w'; go_simp; with_reducible rfl)) (ha : a.put N v = a' := by (simp only [Act.put, List.setIfInBounds_toArray, List.set_cons_zero, List.set_cons_succ, i64_w, i32_w]; rfl)) (hQ : ∀ c a w, Q (.panic c) (a.put oi.dst v) w → Q (.panic c) a w := by exact fun _ _ _ h => h) : wpAnyLast P .any ops Q S ds (fuel + 1) l a w :=
  pure_ l' hi hN (any_of hT hc) hQ hy ha h
theorem pf (hT : rtab .any ops = T) (i : Nat) (N : Option Tmp) (l' : Array Bool) (h : wpAnyLast P .any ops Q S ds fuel l' a' w) (hi : ops[i]? = some oi := by rfl) (hN : oi.dst = N := by rfl) (hc : anyT T l.toList l'.toList i = true := by kernel_rfl)
    (hy : Yields P ops oi v a := by exact Or.inr ⟨by rfl, rfl⟩) (ha : a.put N v = a' := by (simp only [Act.put, List.setIfInBounds_toArray, List.set_cons_zero, List.set_cons_succ, i64_w, i32_w]; rfl)) (hQ : ∀ c a w, Q (.panic c) (a.put oi.dst v) w → Q (.panic c) a w := by exact fun _ _ _ h => h) : wpAnyLast P .any ops Q S ds (fuel + 1) l a w :=
  pure_ l' hi hN (any_of hT hc) hQ hy ha h
theorem tk {B : List Nat} (hT : rtab .any ops = T) (hW : waitsOk T.2 B = true) (i : Nat) (N : Option Tmp) (l' : Array Bool) (hS : S w) (h : wpAnyLast P .any ops Q S ds fuel l' a' w) (hi : ops[i]? = some oi := by rfl) (hN : oi.dst = N := by rfl) (hc : takeW T B ds l.toList l'.toList i = true := by kernel_rfl)
    (hy : YieldsIf P ops S oi v a := by (refine Or.inl ⟨by rfl, ?_⟩; rintro w' ⟨s0, s1, s2, s3, s4, s5, s6, s7, s8⟩; go_simp; with_reducible rfl)) (ha : a.put N v = a' := by (simp only [Act.put, List.setIfInBounds_toArray, List.set_cons_zero, List.set_cons_succ, i64_w, i32_w]; rfl)) (hQ : ∀ c a w, Q (.panic c) (a.put oi.dst v) w → Q (.panic c) a w := by exact fun _ _ _ h => h) : wpAnyLast P .any ops Q S ds (fuel + 1) l a w :=
  take_ l' hi hN (take_ofW hT hW hc) hQ hy hS ha h
end
theorem can_sum (t1 t2 t3 : Bool) (t4 t5 i : Int) (t6 f1 f2 f3 : Bool) : (if t6 = true then (if f1 = true then (if f2 = true then (if f3 = true then (if i ≥ t4 then (some (t1, t2, t3, t4, t5, decide (i ≤ t5))) else (some (t1, t2, t3, t4, t5, false))) else (some (t1, t2, t3, t4, t5, false))) else (some (t1, t2, t3, t4, t5, false))) else (some (t1, t2, t3, t4, t5, false))) else (some (t1, t2, t3, t4, t5, false))) = some (t1, t2, t3, t4, t5, t6 && (f1 && (f2 && (f3 && (decide (i ≥ t4) && decide (i ≤ t5)))))) := by
  by_cases h : i ≥ t4
  · rw [if_pos h, decide_eq_true h]
    cases t6 <;> cases f1 <;> cases f2 <;> cases f3 <;> rfl
  · rw [if_neg h, decide_eq_false h]
    cases t6 <;> cases f1 <;> cases f2 <;> cases f3 <;> rfl
theorem size_allocC (w : World) (o : Obj) : (w.alloc o).heap.size = w.heap.size + 1 := by
  show (w.heap.push o).size = _
  simp
set_option maxHeartbeats 8000000 in
set_option maxRecDepth 100000 in
theorem can_calls (o d a b i : Int) (r1 r2 r3 : Bool) (r4 r5 : Int) (r6 f1 f2 f3 : Bool) (w : World) (h1 : ∀ W : World, Calls Try.prog 94 #[.int .i64 o] W fun e w' => e = .returned (.tuple #[.agg #[.bool r1, .bool r2, .bool r3, .int .i32 r4, .int .i32 r5], .bool r6]) ∧ Below W.heap.size W w')
   (h2 : ∀ W : World, Calls Try.prog 95 #[.int .i64 d, .bool r1] W fun e w' => e = .returned (.bool f1) ∧ Drawn0 W w') (h3 : ∀ W : World, Calls Try.prog 95 #[.int .i64 a, .bool r2] W fun e w' => e = .returned (.bool f2) ∧ Drawn0 W w') (h4 : ∀ W : World, Calls Try.prog 95 #[.int .i64 b, .bool r3] W fun e w' => e = .returned (.bool f3) ∧ Drawn0 W w') :
    Calls Try.prog 76 #[.agg #[.int .i64 o, .int .i64 d, .int .i64 a, .int .i64 b, .int .i32 i]] w fun e w' => e = .returned (.tuple #[.agg #[.bool r1, .bool r2, .bool r3, .int .i32 r4, .int .i32 r5], .bool (r6 && (f1 && (f2 && (f3 && (decide (i ≥ r4) && decide (i ≤ r5))))))]) ∧ Below w.heap.size w w' := by
  have hu49 := Try.underlying49
  have hu119 := Try.underlying119
  have H1 := Aside0.mk h1
  have H2 := Aside0.mk h2
  have H3 := Aside0.mk h3
  have H4 := Aside0.mk h4
  clear h1 h2 h3 h4
  go_enter Try.func76, Try.ntmps76
  go_wp2_with (first | (go_at_call 94; (with_reducible refine (H1.out _).mono ?_); rintro e w1 ⟨rfl, hb1⟩; have HB1 := Aside0.mk hb1; clear hb1))
  obtain ⟨W5, hW5⟩ : ∃ W5, W5 = w1.alloc (.cells #[.bool r1, .bool r2, .bool r3, .int .i32 r4, .int .i32 r5] 119) := ⟨_, rfl⟩
  rw [← hW5]
  have hb1 := HB1.out
  have hs1 := hb1.size
  rw [size_allocC, size_allocC] at hs1
  have hpA : W5.heap[w.heap.size]? = some (.cells #[.int .i64 o, .int .i64 d, .int .i64 a, .int .i64 b, .int .i32 i] 49 (0, 0)) := by
    rw [hW5, heap_alloc_old _ _ (by omega), hb1.block _ (by rw [size_allocC, size_allocC]; omega), heap_alloc_old _ _ (by rw [size_allocC]; omega), heap_alloc_new]
  have hpB : W5.heap[w.heap.size + 1]? = some (.cells #[.bool false, .bool false, .bool false, .int .i32 0, .int .i32 0] 119 (0, 0)) := by
    rw [hW5, heap_alloc_old _ _ (by omega), hb1.block _ (by rw [size_allocC, size_allocC]; omega), ← size_allocC w (.cells #[.int .i64 o, .int .i64 d, .int .i64 a, .int .i64 b, .int .i32 i] 49), heap_alloc_new]
  have hpC : W5.heap[w1.heap.size]? = some (.cells #[.bool r1, .bool r2, .bool r3, .int .i32 r4, .int .i32 r5] 119 (0, 0)) := by
    rw [hW5, heap_alloc_new]
  have hbW : Below w.heap.size w W5 := by
    rw [hW5]
    exact below_alloc ((below_alloc (below_alloc (Below.refl _ _) _) _).trans (hb1.mono (by rw [size_allocC, size_allocC]; omega))) _
  obtain ⟨pB, hB⟩ : ∃ pB, pB = w.heap.size + 1 := ⟨_, rfl⟩
  obtain ⟨pA, hA⟩ : ∃ pA, pA = w.heap.size := ⟨_, rfl⟩
  obtain ⟨pC, hC⟩ : ∃ pC, pC = w1.heap.size := ⟨_, rfl⟩
  have n1 : ¬ (pB = pA) := by omega
  have n2 : ¬ (pB = pC) := by omega
  have n3 : ¬ (pA = pB) := by omega
  have n4 : ¬ (pC = pB) := by omega
  rw [← hB] at hpB ⊢
  rw [← hC] at hpC ⊢
  rw [← hA] at hpA ⊢
  have a1 := blk_cell hpA 1
  have a2 := blk_cell hpA 2
  have a3 := blk_cell hpA 3
  have a4 := blk_cell hpA 4
  have c0 := blk_cell hpC 0
  have c1 := blk_cell hpC 1
  have c2 := blk_cell hpC 2
  have c3 := blk_cell hpC 3
  have c4 := blk_cell hpC 4
  have b0 := blk_cell hpB 0
  have b1 := blk_cell hpB 1
  have b2 := blk_cell hpB 2
  have b3 := blk_cell hpB 3
  have b4 := blk_cell hpB 4
  have z0 := blk_frozen hpB 0
  have z1 := blk_frozen hpB 1
  have z2 := blk_frozen hpB 2
  have z3 := blk_frozen hpB 3
  have z4 := blk_frozen hpB 4
  simp at a1 a2 a3 a4 c0 c1 c2 c3 c4 b0 b1 b2 b3 b4
  have HBW := Aside0.mk hbW
  have HGE := Aside0.mk (show w.heap.size ≤ pB by omega)
  have HPB := Aside0.mk hpB
  clear hbW hpA hpB hpC hA hB hC hW5 hs1 hb1
  cases r6
  · go_region
    go_wp2
    refine bodyPost_ret (results_ct rfl _ _ pB 119 #[.bool r1, .bool r2, .bool r3, .int .i32 r4, .int .i32 r5] (0, 0) _ rfl (by (with_reducible repeat (first | refine blk_drewN ?_ _ | refine blk_drew ?_)); refine blk_put (cs := #[.bool r1, .bool r2, .bool r3, .int .i32 r4, .int .i32 0]) ?_ 4 _ rfl; (with_reducible repeat (first | refine blk_drewN ?_ _ | refine blk_drew ?_)); refine blk_put (cs := #[.bool r1, .bool r2, .bool r3, .int .i32 0, .int .i32 0]) ?_ 3 _ rfl; (with_reducible repeat (first | refine blk_drewN ?_ _ | refine blk_drew ?_)); refine blk_put (cs := #[.bool r1, .bool r2, .bool false, .int .i32 0, .int .i32 0]) ?_ 2 _ rfl; (with_reducible repeat (first | refine blk_drewN ?_ _ | refine blk_drew ?_)); refine blk_put (cs := #[.bool r1, .bool false, .bool false, .int .i32 0, .int .i32 0]) ?_ 1 _ rfl; (with_reducible repeat (first | refine blk_drewN ?_ _ | refine blk_drew ?_)); refine blk_put (cs := #[.bool false, .bool false, .bool false, .int .i32 0, .int .i32 0]) ?_ 0 _ rfl; (with_reducible repeat (first | refine blk_drewN ?_ _ | refine blk_drew ?_)); exact HPB.out) Try.underlying119 rfl (by kernel_rfl)) rfl ?_
    exact ⟨by first | rfl | (simp [*]; done), by repeat (first | exact HBW.out | apply pw_below_drewN | apply below_drew1 | refine below_set ?_ HGE.out)⟩
  · refine start_ (n := 39) (S := fun w' => w'.cell? ⟨pC, 0, none⟩ = some (.bool r1) ∧ w'.cell? ⟨pC, 1, none⟩ = some (.bool r2) ∧ w'.cell? ⟨pC, 2, none⟩ = some (.bool r3) ∧ w'.cell? ⟨pC, 3, none⟩ = some (.int .i32 r4) ∧ w'.cell? ⟨pC, 4, none⟩ = some (.int .i32 r5) ∧ w'.cell? ⟨pA, 1, none⟩ = some (.int .i64 d) ∧ w'.cell? ⟨pA, 2, none⟩ = some (.int .i64 a) ∧ w'.cell? ⟨pA, 3, none⟩ = some (.int .i64 b) ∧ w'.cell? ⟨pA, 4, none⟩ = some (.int .i32 i)) (ds := []) #[false, false, false, false, false, false, false, false, false, false, false, false, false, false, false, false, false, false, false, false, false, false, false, false, false, false, false, false, false, false, false, false, false, false, false, false, false, false, false] (by kernel_rfl) rfl rfl ⟨c0, c1, c2, c3, c4, a1, a2, a3, a4⟩ (fun hHeld => ?_)
    refine with_tabW lir_can.tab2 lir_can.bits2 (fun HT_ HW_ => ?_)
    refine pu HT_.out 1 (some 13) (bz39 2) ?_
    refine pu HT_.out 2 (some 14) (bz39 6) ?_
    refine pu HT_.out 3 (some 15) (bz39 14) ?_
    refine pu HT_.out 5 (some 17) (bz39 46) ?_
    refine tk HT_.out HW_.out 0 (some 12) (bz39 47) hHeld ?_
    refine tk HT_.out HW_.out 4 (some 16) (bz39 63) hHeld ?_
    refine tk HT_.out HW_.out 6 (some 18) (bz39 127) hHeld ?_
    refine one_ (i := 7) (N := some 19) (bz39 255) rfl rfl (one_of HT_.out (by kernel_rfl)) (by decide) (fun K hK => ?_)
    refine goes_ Try.func95 (by kernel_rfl) rfl #[.int .i64 d, .bool r1] (by rfl) rfl rfl (by (try simp only [List.map_toArray, List.map_cons, List.map_nil]); first | done | rfl) ?_
    with_reducible refine (H2.out _).mono ?_
    rintro e w' ⟨rfl, ⟨nd7, rfl⟩⟩
    refine ⟨_, rfl, ?_⟩
    refine hK.out _ _ hHeld (fun hHeld => ?_)
    clear hK K
    refine norm_ (a' := ?_) ?_ ?_
    rotate_left
    · (show Act.put _ (some 19) _ = _; simp only [Act.put, List.setIfInBounds_toArray, List.set_cons_zero, List.set_cons_succ, i64_w, i32_w]; rfl)
    cases f1
    · refine pu HT_.out 8 (some 20) (bz39 511) ?_
      refine pu HT_.out 9 (some 21) (bz39 1023) ?_
      refine pf HT_.out 10 (some 22) (bz39 2047) ?_
      refine pf HT_.out 11 (some 23) (bz39 4095) ?_
      refine pf HT_.out 12 (some 24) (bz39 8191) ?_
      refine pf HT_.out 13 (some 25) (bz39 16383) ?_
      refine pf HT_.out 14 (some 26) (bz39 32767) ?_
      refine pu HT_.out 15 (some 27) (bz39 65535) ?_
      refine pu HT_.out 16 (some 28) (bz39 131071) ?_
      refine pf HT_.out 17 (some 29) (bz39 262143) ?_
      refine pf HT_.out 18 (some 30) (bz39 524287) ?_
      refine pf HT_.out 19 (some 31) (bz39 1048575) ?_
      refine pf HT_.out 20 (some 32) (bz39 2097151) ?_
      refine pf HT_.out 21 (some 33) (bz39 4194303) ?_
      refine pu HT_.out 22 (some 34) (bz39 8388607) ?_
      refine pu HT_.out 23 (some 35) (bz39 16777215) ?_
      refine pf HT_.out 24 (some 36) (bz39 33554431) ?_
      refine pf HT_.out 25 (some 37) (bz39 67108863) ?_
      refine pf HT_.out 26 (some 38) (bz39 134217727) ?_
      refine pf HT_.out 27 (some 39) (bz39 268435455) ?_
      refine pf HT_.out 28 (some 40) (bz39 536870911) ?_
      refine pu HT_.out 29 (some 41) (bz39 1073741823) ?_
      refine pu HT_.out 30 (some 42) (bz39 2147483647) ?_
      refine pf HT_.out 31 (some 43) (bz39 4294967295) ?_
      refine pf HT_.out 32 (some 44) (bz39 8589934591) ?_
      refine pf HT_.out 33 (some 45) (bz39 17179869183) ?_
      refine pf HT_.out 34 (some 46) (bz39 34359738367) ?_
      refine pf HT_.out 35 (some 47) (bz39 68719476735) ?_
      refine pu HT_.out 36 (some 48) (bz39 137438953471) ?_
      refine one_ (i := 37) (N := none) (bz39 274877906943) rfl rfl (one_of HT_.out (by kernel_rfl)) (by decide) (fun K hK => ?_)
      refine skip_ (w1 := ?_) (by rfl) rfl ?_ ?_
      rotate_left
      · (go_simp; rfl)
      refine hK.out _ _ (by (obtain ⟨q0, q1, q2, q3, q4, q5, q6, q7, q8⟩ := hHeld; refine ⟨?_, ?_, ?_, ?_, ?_, ?_, ?_, ?_, ?_⟩ <;> go_simp)) (fun hHeld => ?_)
      clear hK K
      refine pu HT_.out 38 (some 3) (bz39 549755813887) ?_
      refine done_ (done_of HT_.out (by kernel_rfl)) ?_
      try go_wp2
      refine bodyPost_ret (results_ct rfl _ _ pB 119 #[.bool r1, .bool r2, .bool r3, .int .i32 r4, .int .i32 r5] (0, 0) _ rfl (by (with_reducible repeat (first | refine blk_drewN ?_ _ | refine blk_drew ?_)); refine blk_put (cs := #[.bool r1, .bool r2, .bool r3, .int .i32 r4, .int .i32 0]) ?_ 4 _ rfl; (with_reducible repeat (first | refine blk_drewN ?_ _ | refine blk_drew ?_)); refine blk_put (cs := #[.bool r1, .bool r2, .bool r3, .int .i32 0, .int .i32 0]) ?_ 3 _ rfl; (with_reducible repeat (first | refine blk_drewN ?_ _ | refine blk_drew ?_)); refine blk_put (cs := #[.bool r1, .bool r2, .bool false, .int .i32 0, .int .i32 0]) ?_ 2 _ rfl; (with_reducible repeat (first | refine blk_drewN ?_ _ | refine blk_drew ?_)); refine blk_put (cs := #[.bool r1, .bool false, .bool false, .int .i32 0, .int .i32 0]) ?_ 1 _ rfl; (with_reducible repeat (first | refine blk_drewN ?_ _ | refine blk_drew ?_)); refine blk_put (cs := #[.bool false, .bool false, .bool false, .int .i32 0, .int .i32 0]) ?_ 0 _ rfl; (with_reducible repeat (first | refine blk_drewN ?_ _ | refine blk_drew ?_)); exact HPB.out) Try.underlying119 rfl (by kernel_rfl)) rfl ?_
      exact ⟨by first | rfl | (simp [*]; done), by repeat (first | exact HBW.out | apply pw_below_drewN | apply below_drew1 | refine below_set ?_ HGE.out)⟩
    · refine pu HT_.out 8 (some 20) (bz39 511) ?_
      refine pu HT_.out 9 (some 21) (bz39 1023) ?_
      refine pu HT_.out 10 (some 22) (bz39 2047) ?_
      refine pu HT_.out 12 (some 24) (bz39 6143) ?_
      refine tk HT_.out HW_.out 11 (some 23) (bz39 8191) hHeld ?_
      refine tk HT_.out HW_.out 13 (some 25) (bz39 16383) hHeld ?_
      refine one_ (i := 14) (N := some 26) (bz39 32767) rfl rfl (one_of HT_.out (by kernel_rfl)) (by decide) (fun K hK => ?_)
      refine goes_ Try.func95 (by kernel_rfl) rfl #[.int .i64 a, .bool r2] (by rfl) rfl rfl (by (try simp only [List.map_toArray, List.map_cons, List.map_nil]); first | done | rfl) ?_
      with_reducible refine (H3.out _).mono ?_
      rintro e w' ⟨rfl, ⟨nd14, rfl⟩⟩
      refine ⟨_, rfl, ?_⟩
      refine hK.out _ _ hHeld (fun hHeld => ?_)
      clear hK K
      refine norm_ (a' := ?_) ?_ ?_
      rotate_left
      · (show Act.put _ (some 26) _ = _; simp only [Act.put, List.setIfInBounds_toArray, List.set_cons_zero, List.set_cons_succ, i64_w, i32_w]; rfl)
      cases f2
      · refine pu HT_.out 15 (some 27) (bz39 65535) ?_
        refine pu HT_.out 16 (some 28) (bz39 131071) ?_
        refine pf HT_.out 17 (some 29) (bz39 262143) ?_
        refine pf HT_.out 18 (some 30) (bz39 524287) ?_
        refine pf HT_.out 19 (some 31) (bz39 1048575) ?_
        refine pf HT_.out 20 (some 32) (bz39 2097151) ?_
        refine pf HT_.out 21 (some 33) (bz39 4194303) ?_
        refine pu HT_.out 22 (some 34) (bz39 8388607) ?_
        refine pu HT_.out 23 (some 35) (bz39 16777215) ?_
        refine pf HT_.out 24 (some 36) (bz39 33554431) ?_
        refine pf HT_.out 25 (some 37) (bz39 67108863) ?_
        refine pf HT_.out 26 (some 38) (bz39 134217727) ?_
        refine pf HT_.out 27 (some 39) (bz39 268435455) ?_
        refine pf HT_.out 28 (some 40) (bz39 536870911) ?_
        refine pu HT_.out 29 (some 41) (bz39 1073741823) ?_
        refine pu HT_.out 30 (some 42) (bz39 2147483647) ?_
        refine pf HT_.out 31 (some 43) (bz39 4294967295) ?_
        refine pf HT_.out 32 (some 44) (bz39 8589934591) ?_
        refine pf HT_.out 33 (some 45) (bz39 17179869183) ?_
        refine pf HT_.out 34 (some 46) (bz39 34359738367) ?_
        refine pf HT_.out 35 (some 47) (bz39 68719476735) ?_
        refine pu HT_.out 36 (some 48) (bz39 137438953471) ?_
        refine one_ (i := 37) (N := none) (bz39 274877906943) rfl rfl (one_of HT_.out (by kernel_rfl)) (by decide) (fun K hK => ?_)
        refine skip_ (w1 := ?_) (by rfl) rfl ?_ ?_
        rotate_left
        · (go_simp; rfl)
        refine hK.out _ _ (by (obtain ⟨q0, q1, q2, q3, q4, q5, q6, q7, q8⟩ := hHeld; refine ⟨?_, ?_, ?_, ?_, ?_, ?_, ?_, ?_, ?_⟩ <;> go_simp)) (fun hHeld => ?_)
        clear hK K
        refine pu HT_.out 38 (some 3) (bz39 549755813887) ?_
        refine done_ (done_of HT_.out (by kernel_rfl)) ?_
        try go_wp2
        refine bodyPost_ret (results_ct rfl _ _ pB 119 #[.bool r1, .bool r2, .bool r3, .int .i32 r4, .int .i32 r5] (0, 0) _ rfl (by (with_reducible repeat (first | refine blk_drewN ?_ _ | refine blk_drew ?_)); refine blk_put (cs := #[.bool r1, .bool r2, .bool r3, .int .i32 r4, .int .i32 0]) ?_ 4 _ rfl; (with_reducible repeat (first | refine blk_drewN ?_ _ | refine blk_drew ?_)); refine blk_put (cs := #[.bool r1, .bool r2, .bool r3, .int .i32 0, .int .i32 0]) ?_ 3 _ rfl; (with_reducible repeat (first | refine blk_drewN ?_ _ | refine blk_drew ?_)); refine blk_put (cs := #[.bool r1, .bool r2, .bool false, .int .i32 0, .int .i32 0]) ?_ 2 _ rfl; (with_reducible repeat (first | refine blk_drewN ?_ _ | refine blk_drew ?_)); refine blk_put (cs := #[.bool r1, .bool false, .bool false, .int .i32 0, .int .i32 0]) ?_ 1 _ rfl; (with_reducible repeat (first | refine blk_drewN ?_ _ | refine blk_drew ?_)); refine blk_put (cs := #[.bool false, .bool false, .bool false, .int .i32 0, .int .i32 0]) ?_ 0 _ rfl; (with_reducible repeat (first | refine blk_drewN ?_ _ | refine blk_drew ?_)); exact HPB.out) Try.underlying119 rfl (by kernel_rfl)) rfl ?_
        exact ⟨by first | rfl | (simp [*]; done), by repeat (first | exact HBW.out | apply pw_below_drewN | apply below_drew1 | refine below_set ?_ HGE.out)⟩
      · refine pu HT_.out 15 (some 27) (bz39 65535) ?_
        refine pu HT_.out 16 (some 28) (bz39 131071) ?_
        refine pu HT_.out 17 (some 29) (bz39 262143) ?_
        refine pu HT_.out 19 (some 31) (bz39 786431) ?_
        refine tk HT_.out HW_.out 18 (some 30) (bz39 1048575) hHeld ?_
        refine tk HT_.out HW_.out 20 (some 32) (bz39 2097151) hHeld ?_
        refine one_ (i := 21) (N := some 33) (bz39 4194303) rfl rfl (one_of HT_.out (by kernel_rfl)) (by decide) (fun K hK => ?_)
        refine goes_ Try.func95 (by kernel_rfl) rfl #[.int .i64 b, .bool r3] (by rfl) rfl rfl (by (try simp only [List.map_toArray, List.map_cons, List.map_nil]); first | done | rfl) ?_
        with_reducible refine (H4.out _).mono ?_
        rintro e w' ⟨rfl, ⟨nd21, rfl⟩⟩
        refine ⟨_, rfl, ?_⟩
        refine hK.out _ _ hHeld (fun hHeld => ?_)
        clear hK K
        refine norm_ (a' := ?_) ?_ ?_
        rotate_left
        · (show Act.put _ (some 33) _ = _; simp only [Act.put, List.setIfInBounds_toArray, List.set_cons_zero, List.set_cons_succ, i64_w, i32_w]; rfl)
        cases f3
        · refine pu HT_.out 22 (some 34) (bz39 8388607) ?_
          refine pu HT_.out 23 (some 35) (bz39 16777215) ?_
          refine pf HT_.out 24 (some 36) (bz39 33554431) ?_
          refine pf HT_.out 25 (some 37) (bz39 67108863) ?_
          refine pf HT_.out 26 (some 38) (bz39 134217727) ?_
          refine pf HT_.out 27 (some 39) (bz39 268435455) ?_
          refine pf HT_.out 28 (some 40) (bz39 536870911) ?_
          refine pu HT_.out 29 (some 41) (bz39 1073741823) ?_
          refine pu HT_.out 30 (some 42) (bz39 2147483647) ?_
          refine pf HT_.out 31 (some 43) (bz39 4294967295) ?_
          refine pf HT_.out 32 (some 44) (bz39 8589934591) ?_
          refine pf HT_.out 33 (some 45) (bz39 17179869183) ?_
          refine pf HT_.out 34 (some 46) (bz39 34359738367) ?_
          refine pf HT_.out 35 (some 47) (bz39 68719476735) ?_
          refine pu HT_.out 36 (some 48) (bz39 137438953471) ?_
          refine one_ (i := 37) (N := none) (bz39 274877906943) rfl rfl (one_of HT_.out (by kernel_rfl)) (by decide) (fun K hK => ?_)
          refine skip_ (w1 := ?_) (by rfl) rfl ?_ ?_
          rotate_left
          · (go_simp; rfl)
          refine hK.out _ _ (by (obtain ⟨q0, q1, q2, q3, q4, q5, q6, q7, q8⟩ := hHeld; refine ⟨?_, ?_, ?_, ?_, ?_, ?_, ?_, ?_, ?_⟩ <;> go_simp)) (fun hHeld => ?_)
          clear hK K
          refine pu HT_.out 38 (some 3) (bz39 549755813887) ?_
          refine done_ (done_of HT_.out (by kernel_rfl)) ?_
          try go_wp2
          refine bodyPost_ret (results_ct rfl _ _ pB 119 #[.bool r1, .bool r2, .bool r3, .int .i32 r4, .int .i32 r5] (0, 0) _ rfl (by (with_reducible repeat (first | refine blk_drewN ?_ _ | refine blk_drew ?_)); refine blk_put (cs := #[.bool r1, .bool r2, .bool r3, .int .i32 r4, .int .i32 0]) ?_ 4 _ rfl; (with_reducible repeat (first | refine blk_drewN ?_ _ | refine blk_drew ?_)); refine blk_put (cs := #[.bool r1, .bool r2, .bool r3, .int .i32 0, .int .i32 0]) ?_ 3 _ rfl; (with_reducible repeat (first | refine blk_drewN ?_ _ | refine blk_drew ?_)); refine blk_put (cs := #[.bool r1, .bool r2, .bool false, .int .i32 0, .int .i32 0]) ?_ 2 _ rfl; (with_reducible repeat (first | refine blk_drewN ?_ _ | refine blk_drew ?_)); refine blk_put (cs := #[.bool r1, .bool false, .bool false, .int .i32 0, .int .i32 0]) ?_ 1 _ rfl; (with_reducible repeat (first | refine blk_drewN ?_ _ | refine blk_drew ?_)); refine blk_put (cs := #[.bool false, .bool false, .bool false, .int .i32 0, .int .i32 0]) ?_ 0 _ rfl; (with_reducible repeat (first | refine blk_drewN ?_ _ | refine blk_drew ?_)); exact HPB.out) Try.underlying119 rfl (by kernel_rfl)) rfl ?_
          exact ⟨by first | rfl | (simp [*]; done), by repeat (first | exact HBW.out | apply pw_below_drewN | apply below_drew1 | refine below_set ?_ HGE.out)⟩
        · refine pu HT_.out 22 (some 34) (bz39 8388607) ?_
          refine pu HT_.out 23 (some 35) (bz39 16777215) ?_
          refine pu HT_.out 24 (some 36) (bz39 33554431) ?_
          refine pu HT_.out 26 (some 38) (bz39 100663295) ?_
          refine tk HT_.out HW_.out 25 (some 37) (bz39 134217727) hHeld ?_
          refine tk HT_.out HW_.out 27 (some 39) (bz39 268435455) hHeld ?_
          by_cases hc : r4 ≤ i
          · have hcd : decide (r4 ≤ i) = true := decide_eq_true hc
            refine pu HT_.out 28 (some 40) (bz39 536870911) ?_
            refine pu HT_.out 29 (some 41) (bz39 1073741823) ?_
            refine pu HT_.out 30 (some 42) (bz39 2147483647) ?_
            refine pu HT_.out 31 (some 43) (bz39 4294967295) ?_
            refine pu HT_.out 33 (some 45) (bz39 12884901887) ?_
            refine tk HT_.out HW_.out 32 (some 44) (bz39 17179869183) hHeld ?_
            refine tk HT_.out HW_.out 34 (some 46) (bz39 34359738367) hHeld ?_
            refine pu HT_.out 35 (some 47) (bz39 68719476735) ?_
            refine pu HT_.out 36 (some 48) (bz39 137438953471) ?_
            refine one_ (i := 37) (N := none) (bz39 274877906943) rfl rfl (one_of HT_.out (by kernel_rfl)) (by decide) (fun K hK => ?_)
            refine skip_ (w1 := ?_) (by rfl) rfl ?_ ?_
            rotate_left
            · (go_simp; rfl)
            refine hK.out _ _ (by (obtain ⟨q0, q1, q2, q3, q4, q5, q6, q7, q8⟩ := hHeld; refine ⟨?_, ?_, ?_, ?_, ?_, ?_, ?_, ?_, ?_⟩ <;> go_simp)) (fun hHeld => ?_)
            clear hK K
            refine pu HT_.out 38 (some 3) (bz39 549755813887) ?_
            refine done_ (done_of HT_.out (by kernel_rfl)) ?_
            try go_wp2
            refine bodyPost_ret (results_ct rfl _ _ pB 119 #[.bool r1, .bool r2, .bool r3, .int .i32 r4, .int .i32 r5] (0, 0) _ rfl (by (with_reducible repeat (first | refine blk_drewN ?_ _ | refine blk_drew ?_)); refine blk_put (cs := #[.bool r1, .bool r2, .bool r3, .int .i32 r4, .int .i32 0]) ?_ 4 _ rfl; (with_reducible repeat (first | refine blk_drewN ?_ _ | refine blk_drew ?_)); refine blk_put (cs := #[.bool r1, .bool r2, .bool r3, .int .i32 0, .int .i32 0]) ?_ 3 _ rfl; (with_reducible repeat (first | refine blk_drewN ?_ _ | refine blk_drew ?_)); refine blk_put (cs := #[.bool r1, .bool r2, .bool false, .int .i32 0, .int .i32 0]) ?_ 2 _ rfl; (with_reducible repeat (first | refine blk_drewN ?_ _ | refine blk_drew ?_)); refine blk_put (cs := #[.bool r1, .bool false, .bool false, .int .i32 0, .int .i32 0]) ?_ 1 _ rfl; (with_reducible repeat (first | refine blk_drewN ?_ _ | refine blk_drew ?_)); refine blk_put (cs := #[.bool false, .bool false, .bool false, .int .i32 0, .int .i32 0]) ?_ 0 _ rfl; (with_reducible repeat (first | refine blk_drewN ?_ _ | refine blk_drew ?_)); exact HPB.out) Try.underlying119 rfl (by kernel_rfl)) rfl ?_
            exact ⟨by first | rfl | (simp [*]; done), by repeat (first | exact HBW.out | apply pw_below_drewN | apply below_drew1 | refine below_set ?_ HGE.out)⟩
          · have hcd : decide (r4 ≤ i) = false := decide_eq_false hc
            refine pu HT_.out 28 (some 40) (bz39 536870911) ?_
            refine pu HT_.out 29 (some 41) (bz39 1073741823) ?_
            refine pu HT_.out 30 (some 42) (bz39 2147483647) ?_
            refine pf HT_.out 31 (some 43) (bz39 4294967295) ?_
            refine pf HT_.out 32 (some 44) (bz39 8589934591) ?_
            refine pf HT_.out 33 (some 45) (bz39 17179869183) ?_
            refine pf HT_.out 34 (some 46) (bz39 34359738367) ?_
            refine pf HT_.out 35 (some 47) (bz39 68719476735) ?_
            refine pu HT_.out 36 (some 48) (bz39 137438953471) ?_
            refine one_ (i := 37) (N := none) (bz39 274877906943) rfl rfl (one_of HT_.out (by kernel_rfl)) (by decide) (fun K hK => ?_)
            refine skip_ (w1 := ?_) (by rfl) rfl ?_ ?_
            rotate_left
            · (go_simp; rfl)
            refine hK.out _ _ (by (obtain ⟨q0, q1, q2, q3, q4, q5, q6, q7, q8⟩ := hHeld; refine ⟨?_, ?_, ?_, ?_, ?_, ?_, ?_, ?_, ?_⟩ <;> go_simp)) (fun hHeld => ?_)
            clear hK K
            refine pu HT_.out 38 (some 3) (bz39 549755813887) ?_
            refine done_ (done_of HT_.out (by kernel_rfl)) ?_
            try go_wp2
            refine bodyPost_ret (results_ct rfl _ _ pB 119 #[.bool r1, .bool r2, .bool r3, .int .i32 r4, .int .i32 r5] (0, 0) _ rfl (by (with_reducible repeat (first | refine blk_drewN ?_ _ | refine blk_drew ?_)); refine blk_put (cs := #[.bool r1, .bool r2, .bool r3, .int .i32 r4, .int .i32 0]) ?_ 4 _ rfl; (with_reducible repeat (first | refine blk_drewN ?_ _ | refine blk_drew ?_)); refine blk_put (cs := #[.bool r1, .bool r2, .bool r3, .int .i32 0, .int .i32 0]) ?_ 3 _ rfl; (with_reducible repeat (first | refine blk_drewN ?_ _ | refine blk_drew ?_)); refine blk_put (cs := #[.bool r1, .bool r2, .bool false, .int .i32 0, .int .i32 0]) ?_ 2 _ rfl; (with_reducible repeat (first | refine blk_drewN ?_ _ | refine blk_drew ?_)); refine blk_put (cs := #[.bool r1, .bool false, .bool false, .int .i32 0, .int .i32 0]) ?_ 1 _ rfl; (with_reducible repeat (first | refine blk_drewN ?_ _ | refine blk_drew ?_)); refine blk_put (cs := #[.bool false, .bool false, .bool false, .int .i32 0, .int .i32 0]) ?_ 0 _ rfl; (with_reducible repeat (first | refine blk_drewN ?_ _ | refine blk_drew ?_)); exact HPB.out) Try.underlying119 rfl (by kernel_rfl)) rfl ?_
            exact ⟨by first | rfl | (simp [*]; done), by repeat (first | exact HBW.out | apply pw_below_drewN | apply below_drew1 | refine below_set ?_ HGE.out)⟩
theorem lir_can.calls (k : Nat) (a0_0 : Int) (a0_1 : Int) (a0_2 : Int) (a0_3 : Int) (a0_4 : Int) (r1 : Bool) (r2 : Bool) (r3 : Bool) (r4 : Int) (r5 : Int) (r6 : Bool) (w : World) (h : lir_can.f k a0_0 a0_1 a0_2 a0_3 a0_4 = some (r1, r2, r3, r4, r5, r6)) :
  Calls Try.prog 76 #[.agg #[.int .i64 a0_0, .int .i64 a0_1, .int .i64 a0_2, .int .i64 a0_3, .int .i32 a0_4]] w fun e w' => e = .returned (.tuple #[.agg #[.bool r1, .bool r2, .bool r3, .int .i32 r4, .int .i32 r5], .bool r6]) ∧ Below w.heap.size w w' := by
  have tot : ∀ (v : Int) (b : Bool), ∃ f, lir_fits.f v b = some f := fun v b => by
    unfold lir_fits.f
    (repeat' split) <;> exact ⟨_, rfl⟩
  unfold lir_can.f at h
  obtain ⟨⟨t1, t2, t3, t4, t5, t6⟩, A2, H⟩ := Option.bind_eq_some_iff.mp h
  obtain ⟨f1, hf1⟩ := tot a0_1 t1
  obtain ⟨f2, hf2⟩ := tot a0_2 t2
  obtain ⟨f3, hf3⟩ := tot a0_3 t3
  have hc := can_calls a0_0 a0_1 a0_2 a0_3 a0_4 t1 t2 t3 t4 t5 t6 f1 f2 f3 w (fun W => lir_of.calls k a0_0 t1 t2 t3 t4 t5 t6 W A2) (fun W => lir_fits.calls a0_1 t1 f1 W hf1) (fun W => lir_fits.calls a0_2 t2 f2 W hf2) (fun W => lir_fits.calls a0_3 t3 f3 W hf3)
  simp only [hf1, hf2, hf3, Option.bind_some] at H
  rw [can_sum] at H
  injection H with e
  injection e with e1 e
  injection e with e2 e
  injection e with e3 e
  injection e with e4 e
  injection e with e5 e6
  subst e1 e2 e3 e4 e5 e6
  exact hc
end Go.Proofs.Ytpeljnnbknnbmaa.PD
