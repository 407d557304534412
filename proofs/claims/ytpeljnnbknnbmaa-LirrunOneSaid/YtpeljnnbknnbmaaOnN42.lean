import Derived.Test.YtpeljnnbknnbmaaOnPDx0
import Derived.Test.YtpeljnnbknnbmaaOnN31
import Derived.Outline
import Derived.Test.YtpeljnnbknnbmaaOnN16
import Derived.Test.YtpeljnnbknnbmaaOnN20
section
section
namespace Go.Proofs.Ytpeljnnbknnbmaa.PD
open Go.RowKit Go.Proofs.YtpeljnnbknnbmaaW.PrintWords Go.Proofs.YtpeljnnbknnbmaaW.PrintLast Go.Proofs.YtpeljnnbknnbmaaW.PrintMore
set_option linter.unusedVariables false
set_option linter.unusedSimpArgs false
theorem RQ.drewT {w : World} {base g gx : Nat} {V : List Int} {st fu tr : Int} {L : List S138} (h : RQ w base g gx V st fu tr L) (n : Nat) : RQ (w.drewN n) base g gx V st fu tr L := ⟨h.rn.drewN n, h.mm.drewN n, h.bg⟩
theorem RQ.g63 {w : World} {base g gx : Nat} {V : List Int} {st fu tr : Int} {L : List S138} (h : RQ w base g gx V st fu tr L) : ∃ C fr0, w.heap[g]? = some (.cells C 63 fr0) := by
  obtain ⟨C, hC, _⟩ := h.rn
  exact ⟨C, _, hC⟩
theorem KeepQ.setT {w W : World} {g : Nat} (h : KeepQ w W) (hg : ∃ C fr0, w.heap[g]? = some (.cells C 63 fr0)) (j : Nat) (u : Value) : KeepQ w (W.setCell ⟨g, j, none⟩ u) := fun k cs t fr hk a b c =>
  (Below.heap_setCell W ⟨g, j, none⟩ u k (by rintro rfl; obtain ⟨C, f, hg⟩ := hg; rw [hg] at hk; injection hk with hk; injection hk with _ e _; exact a e.symm)).trans (h k cs t fr hk a b c)
theorem KeepQ.drewT {w W : World} (h : KeepQ w W) (n : Nat) : KeepQ w (W.drewN n) := h
theorem below_setT {base : Nat} {w W : World} {g : Nat} (h : Below base w W) (hg : base ≤ g) (j : Nat) (u : Value) : Below base w (W.setCell ⟨g, j, none⟩ u) := h.trans (below_set base W g hg j u)
set_option maxRecDepth 100000 in
set_option maxHeartbeats 8000000 in
theorem refmem_load17 (w : World) (base g gx : Nat) (V : List Int) (st fu tr : Int) (L : List S138) (h : RQ w base g gx V st fu tr L) (hL : L.length < 4294967296) (d a : Nat) (hd : d < 64) (ha : a < 64) (B imm : Int) (lw t y : Int) (hV : refLoadV 4096 256 2147483648 128 L ((rd V a + imm) % 4294967296) 1 = (lw, t)) (hy : pintleref01_Sext.f lw 8 = some y) :
    Calls Try.prog 89 #[.pointer (some ⟨g, 0, none⟩), .agg #[.int .i64 17, .int .i64 d, .int .i64 a, .int .i64 B, .int .i32 imm]] w (QTold w base g gx (if t = 0 then V.set d y else V) st fu t L) := by
  have h3 := h.rn.v a ha
  have h4 := h.rn.v d hd
  have h5 := h.rn.m
  have h6 := h.rn.gtr
  have hlt := h.rn.lt
  have hbase : base ≤ w.heap.size := by have := h.bg; omega
  have hfz := h.rn.frozen 67
  have q1 : g < w.heap.size + 1 := by omega
  have q2 : g < w.heap.size + 1 + 1 := by omega
  have q3 : g < w.heap.size + 2 := by omega
  have q4 : g < w.heap.size + 1 + 1 + 1 := by omega
  have q5 : ¬ (g = w.heap.size) := by omega
  have q6 : ¬ (g = w.heap.size + 1) := by omega
  have q7 : ¬ (g = w.heap.size + 1 + 1) := by omega
  have q8 : ¬ (g = w.heap.size + 2) := by omega
  have hfz2 := h.rn.frozen (1 + d)
  have hai : (a : Int) < 64 := by omega
  have hdi : (d : Int) < 64 := by omega
  have n1 : ¬ (1 + d = 67) := by omega
  have n2 : ¬ (67 = 1 + d) := by omega
  obtain ⟨ad, had⟩ : ∃ ad, ad = (rd V a + imm) % 4294967296 := ⟨_, rfl⟩
  have had' : (rd V a + imm) % 4294967296 = ad := had.symm
  obtain ⟨va, hva⟩ : ∃ va, va = rd V (a : Int) := ⟨_, rfl⟩
  rw [← hva] at h3 had'
  rw [← had] at hV
  have had0 : 0 ≤ ad ∧ ad < 4294967296 := by rw [had]; omega
  have HLC := Aside0.mk (fun (W : World) (hm : RefAt W base gx 4096 256 2147483648 128 L) => (show Calls Try.prog 109 #[.pointer (some ⟨gx, 0, none⟩), .int .u32 ad, .int .i64 1] W (fun e w' => e = .returned (.tuple #[.int .u32 lw, .int .i64 t]) ∧ Drawn0 W w') from by
    have := refload_calls base gx 4096 256 2147483648 128 ad 1 L W hm (by omega) (map32 ad had0)
    rw [hV] at this
    exact this))
  have HSX := Aside0.mk hy
  have HR := Aside0.mk h
  have HMA := Aside0.mk (fun (W : World) (hb : Below w.heap.size w W) => h.mm.below hb)
  clear h had hva had0 hV hy
  by_cases ht : t = 0
  · subst ht
    go_enter Try.func89, Try.ntmps89
    go_wp2
    go_quiet (fail)
    go_wp2
    go_quiet (first | (go_at_call 109; (with_reducible refine (HLC.out _ (HMA.out _ ?hbelow)).mono ?_); (case hbelow => repeat (first | exact Below.refl _ _ | apply below_alloc | apply pw_below_drewN | apply below_drew1)); rintro e w' ⟨rfl, ⟨nd, rfl⟩⟩; (try first | exact ⟨rfl, _, World.drewN_drewN _ _ _⟩ | exact ⟨rfl, _, Eq.trans (World.drewN_drewN _ _ _) (congrArg (World.drewN _) (Nat.add_assoc _ _ _))⟩)))
    go_wp2_with (go_at_call 110; (with_reducible refine (pintleref01_Sext.calls _ _ y _ HSX.out).mono ?_); rintro e w7 ⟨rfl, ⟨n7, rfl⟩⟩)
    go_region
    go_wp2
    go_end0
    refine ⟨rfl, RQ.setV (RQ.drewT (RQ.setTr (RQ.below HR.out ?_) _) _) d hd _, KeepQ.setT (KeepQ.drewT (KeepQ.setT (KeepQ.below ?_) HR.out.g63 _ _) _) HR.out.g63 _ _, below_setT (pw_below_drewN (below_setT (Below.mono ?_ hbase) HR.out.bg _ _) _) HR.out.bg _ _⟩
    all_goals repeat (first | exact Below.refl _ _ | apply pw_below_drewN | apply below_alloc)
  · have HT := Aside0.mk ht
    simp only [if_neg ht]
    have htb : (t == 0) = false := by simpa using ht
    have htc : (t != 0) = true := by simpa using ht
    go_enter Try.func89, Try.ntmps89
    go_wp2
    go_quiet (fail)
    go_wp2
    go_quiet (first | (go_at_call 109; (with_reducible refine (HLC.out _ (HMA.out _ ?hbelow)).mono ?_); (case hbelow => repeat (first | exact Below.refl _ _ | apply below_alloc | apply pw_below_drewN | apply below_drew1)); rintro e w' ⟨rfl, ⟨nd, rfl⟩⟩; (try first | exact ⟨rfl, _, World.drewN_drewN _ _ _⟩ | exact ⟨rfl, _, Eq.trans (World.drewN_drewN _ _ _) (congrArg (World.drewN _) (Nat.add_assoc _ _ _))⟩)))
    go_wp2
    go_end0
    refine ⟨rfl, RQ.setTr (RQ.below HR.out ?_) _, KeepQ.setT (KeepQ.below ?_) HR.out.g63 _ _, below_setT (Below.mono ?_ hbase) HR.out.bg _ _⟩
    all_goals repeat (first | exact Below.refl _ _ | apply pw_below_drewN | apply below_alloc)
set_option maxRecDepth 100000 in
set_option maxHeartbeats 8000000 in
theorem refmem_load18 (w : World) (base g gx : Nat) (V : List Int) (st fu tr : Int) (L : List S138) (h : RQ w base g gx V st fu tr L) (hL : L.length < 4294967296) (d a : Nat) (hd : d < 64) (ha : a < 64) (B imm : Int) (lw t y : Int) (hV : refLoadV 4096 256 2147483648 128 L ((rd V a + imm) % 4294967296) 1 = (lw, t)) (hy : y = lw) :
    Calls Try.prog 89 #[.pointer (some ⟨g, 0, none⟩), .agg #[.int .i64 18, .int .i64 d, .int .i64 a, .int .i64 B, .int .i32 imm]] w (QTold w base g gx (if t = 0 then V.set d y else V) st fu t L) := by
  have h3 := h.rn.v a ha
  have h4 := h.rn.v d hd
  have h5 := h.rn.m
  have h6 := h.rn.gtr
  have hlt := h.rn.lt
  have hbase : base ≤ w.heap.size := by have := h.bg; omega
  have hfz := h.rn.frozen 67
  have q1 : g < w.heap.size + 1 := by omega
  have q2 : g < w.heap.size + 1 + 1 := by omega
  have q3 : g < w.heap.size + 2 := by omega
  have q4 : g < w.heap.size + 1 + 1 + 1 := by omega
  have q5 : ¬ (g = w.heap.size) := by omega
  have q6 : ¬ (g = w.heap.size + 1) := by omega
  have q7 : ¬ (g = w.heap.size + 1 + 1) := by omega
  have q8 : ¬ (g = w.heap.size + 2) := by omega
  have hfz2 := h.rn.frozen (1 + d)
  have hai : (a : Int) < 64 := by omega
  have hdi : (d : Int) < 64 := by omega
  have n1 : ¬ (1 + d = 67) := by omega
  have n2 : ¬ (67 = 1 + d) := by omega
  obtain ⟨ad, had⟩ : ∃ ad, ad = (rd V a + imm) % 4294967296 := ⟨_, rfl⟩
  have had' : (rd V a + imm) % 4294967296 = ad := had.symm
  obtain ⟨va, hva⟩ : ∃ va, va = rd V (a : Int) := ⟨_, rfl⟩
  rw [← hva] at h3 had'
  rw [← had] at hV
  have had0 : 0 ≤ ad ∧ ad < 4294967296 := by rw [had]; omega
  have HLC := Aside0.mk (fun (W : World) (hm : RefAt W base gx 4096 256 2147483648 128 L) => (show Calls Try.prog 109 #[.pointer (some ⟨gx, 0, none⟩), .int .u32 ad, .int .i64 1] W (fun e w' => e = .returned (.tuple #[.int .u32 lw, .int .i64 t]) ∧ Drawn0 W w') from by
    have := refload_calls base gx 4096 256 2147483648 128 ad 1 L W hm (by omega) (map32 ad had0)
    rw [hV] at this
    exact this))
  have HSX := Aside0.mk hy
  have HR := Aside0.mk h
  have HMA := Aside0.mk (fun (W : World) (hb : Below w.heap.size w W) => h.mm.below hb)
  clear h had hva had0 hV hy
  by_cases ht : t = 0
  · subst ht
    go_enter Try.func89, Try.ntmps89
    go_wp2
    go_quiet (fail)
    go_wp2
    go_quiet (first | (go_at_call 109; (with_reducible refine (HLC.out _ (HMA.out _ ?hbelow)).mono ?_); (case hbelow => repeat (first | exact Below.refl _ _ | apply below_alloc | apply pw_below_drewN | apply below_drew1)); rintro e w' ⟨rfl, ⟨nd, rfl⟩⟩; (try first | exact ⟨rfl, _, World.drewN_drewN _ _ _⟩ | exact ⟨rfl, _, Eq.trans (World.drewN_drewN _ _ _) (congrArg (World.drewN _) (Nat.add_assoc _ _ _))⟩)))
    have hyy := HSX.out
    subst hyy
    go_wp2
    go_region
    go_wp2
    go_end0
    refine ⟨rfl, RQ.setV (RQ.drewT (RQ.setTr (RQ.below HR.out ?_) _) _) d hd _, KeepQ.setT (KeepQ.drewT (KeepQ.setT (KeepQ.below ?_) HR.out.g63 _ _) _) HR.out.g63 _ _, below_setT (pw_below_drewN (below_setT (Below.mono ?_ hbase) HR.out.bg _ _) _) HR.out.bg _ _⟩
    all_goals repeat (first | exact Below.refl _ _ | apply pw_below_drewN | apply below_alloc)
  · have HT := Aside0.mk ht
    simp only [if_neg ht]
    have htb : (t == 0) = false := by simpa using ht
    have htc : (t != 0) = true := by simpa using ht
    go_enter Try.func89, Try.ntmps89
    go_wp2
    go_quiet (fail)
    go_wp2
    go_quiet (first | (go_at_call 109; (with_reducible refine (HLC.out _ (HMA.out _ ?hbelow)).mono ?_); (case hbelow => repeat (first | exact Below.refl _ _ | apply below_alloc | apply pw_below_drewN | apply below_drew1)); rintro e w' ⟨rfl, ⟨nd, rfl⟩⟩; (try first | exact ⟨rfl, _, World.drewN_drewN _ _ _⟩ | exact ⟨rfl, _, Eq.trans (World.drewN_drewN _ _ _) (congrArg (World.drewN _) (Nat.add_assoc _ _ _))⟩)))
    go_wp2
    go_end0
    refine ⟨rfl, RQ.setTr (RQ.below HR.out ?_) _, KeepQ.setT (KeepQ.below ?_) HR.out.g63 _ _, below_setT (Below.mono ?_ hbase) HR.out.bg _ _⟩
    all_goals repeat (first | exact Below.refl _ _ | apply pw_below_drewN | apply below_alloc)
set_option maxRecDepth 100000 in
set_option maxHeartbeats 8000000 in
theorem refmem_load19 (w : World) (base g gx : Nat) (V : List Int) (st fu tr : Int) (L : List S138) (h : RQ w base g gx V st fu tr L) (hL : L.length < 4294967296) (d a : Nat) (hd : d < 64) (ha : a < 64) (B imm : Int) (lw t y : Int) (hV : refLoadV 4096 256 2147483648 128 L ((rd V a + imm) % 4294967296) 2 = (lw, t)) (hy : pintleref01_Sext.f lw 16 = some y) :
    Calls Try.prog 89 #[.pointer (some ⟨g, 0, none⟩), .agg #[.int .i64 19, .int .i64 d, .int .i64 a, .int .i64 B, .int .i32 imm]] w (QTold w base g gx (if t = 0 then V.set d y else V) st fu t L) := by
  have h3 := h.rn.v a ha
  have h4 := h.rn.v d hd
  have h5 := h.rn.m
  have h6 := h.rn.gtr
  have hlt := h.rn.lt
  have hbase : base ≤ w.heap.size := by have := h.bg; omega
  have hfz := h.rn.frozen 67
  have q1 : g < w.heap.size + 1 := by omega
  have q2 : g < w.heap.size + 1 + 1 := by omega
  have q3 : g < w.heap.size + 2 := by omega
  have q4 : g < w.heap.size + 1 + 1 + 1 := by omega
  have q5 : ¬ (g = w.heap.size) := by omega
  have q6 : ¬ (g = w.heap.size + 1) := by omega
  have q7 : ¬ (g = w.heap.size + 1 + 1) := by omega
  have q8 : ¬ (g = w.heap.size + 2) := by omega
  have hfz2 := h.rn.frozen (1 + d)
  have hai : (a : Int) < 64 := by omega
  have hdi : (d : Int) < 64 := by omega
  have n1 : ¬ (1 + d = 67) := by omega
  have n2 : ¬ (67 = 1 + d) := by omega
  obtain ⟨ad, had⟩ : ∃ ad, ad = (rd V a + imm) % 4294967296 := ⟨_, rfl⟩
  have had' : (rd V a + imm) % 4294967296 = ad := had.symm
  obtain ⟨va, hva⟩ : ∃ va, va = rd V (a : Int) := ⟨_, rfl⟩
  rw [← hva] at h3 had'
  rw [← had] at hV
  have had0 : 0 ≤ ad ∧ ad < 4294967296 := by rw [had]; omega
  have HLC := Aside0.mk (fun (W : World) (hm : RefAt W base gx 4096 256 2147483648 128 L) => (show Calls Try.prog 109 #[.pointer (some ⟨gx, 0, none⟩), .int .u32 ad, .int .i64 2] W (fun e w' => e = .returned (.tuple #[.int .u32 lw, .int .i64 t]) ∧ Drawn0 W w') from by
    have := refload_calls base gx 4096 256 2147483648 128 ad 2 L W hm (by omega) (map32 ad had0)
    rw [hV] at this
    exact this))
  have HSX := Aside0.mk hy
  have HR := Aside0.mk h
  have HMA := Aside0.mk (fun (W : World) (hb : Below w.heap.size w W) => h.mm.below hb)
  clear h had hva had0 hV hy
  by_cases ht : t = 0
  · subst ht
    go_enter Try.func89, Try.ntmps89
    go_wp2
    go_quiet (fail)
    go_wp2
    go_quiet (first | (go_at_call 109; (with_reducible refine (HLC.out _ (HMA.out _ ?hbelow)).mono ?_); (case hbelow => repeat (first | exact Below.refl _ _ | apply below_alloc | apply pw_below_drewN | apply below_drew1)); rintro e w' ⟨rfl, ⟨nd, rfl⟩⟩; (try first | exact ⟨rfl, _, World.drewN_drewN _ _ _⟩ | exact ⟨rfl, _, Eq.trans (World.drewN_drewN _ _ _) (congrArg (World.drewN _) (Nat.add_assoc _ _ _))⟩)))
    go_wp2_with (go_at_call 110; (with_reducible refine (pintleref01_Sext.calls _ _ y _ HSX.out).mono ?_); rintro e w7 ⟨rfl, ⟨n7, rfl⟩⟩)
    go_region
    go_wp2
    go_end0
    refine ⟨rfl, RQ.setV (RQ.drewT (RQ.setTr (RQ.below HR.out ?_) _) _) d hd _, KeepQ.setT (KeepQ.drewT (KeepQ.setT (KeepQ.below ?_) HR.out.g63 _ _) _) HR.out.g63 _ _, below_setT (pw_below_drewN (below_setT (Below.mono ?_ hbase) HR.out.bg _ _) _) HR.out.bg _ _⟩
    all_goals repeat (first | exact Below.refl _ _ | apply pw_below_drewN | apply below_alloc)
  · have HT := Aside0.mk ht
    simp only [if_neg ht]
    have htb : (t == 0) = false := by simpa using ht
    have htc : (t != 0) = true := by simpa using ht
    go_enter Try.func89, Try.ntmps89
    go_wp2
    go_quiet (fail)
    go_wp2
    go_quiet (first | (go_at_call 109; (with_reducible refine (HLC.out _ (HMA.out _ ?hbelow)).mono ?_); (case hbelow => repeat (first | exact Below.refl _ _ | apply below_alloc | apply pw_below_drewN | apply below_drew1)); rintro e w' ⟨rfl, ⟨nd, rfl⟩⟩; (try first | exact ⟨rfl, _, World.drewN_drewN _ _ _⟩ | exact ⟨rfl, _, Eq.trans (World.drewN_drewN _ _ _) (congrArg (World.drewN _) (Nat.add_assoc _ _ _))⟩)))
    go_wp2
    go_end0
    refine ⟨rfl, RQ.setTr (RQ.below HR.out ?_) _, KeepQ.setT (KeepQ.below ?_) HR.out.g63 _ _, below_setT (Below.mono ?_ hbase) HR.out.bg _ _⟩
    all_goals repeat (first | exact Below.refl _ _ | apply pw_below_drewN | apply below_alloc)
set_option maxRecDepth 100000 in
set_option maxHeartbeats 8000000 in
theorem refmem_load20 (w : World) (base g gx : Nat) (V : List Int) (st fu tr : Int) (L : List S138) (h : RQ w base g gx V st fu tr L) (hL : L.length < 4294967296) (d a : Nat) (hd : d < 64) (ha : a < 64) (B imm : Int) (lw t y : Int) (hV : refLoadV 4096 256 2147483648 128 L ((rd V a + imm) % 4294967296) 4 = (lw, t)) (hy : y = lw) :
    Calls Try.prog 89 #[.pointer (some ⟨g, 0, none⟩), .agg #[.int .i64 20, .int .i64 d, .int .i64 a, .int .i64 B, .int .i32 imm]] w (QTold w base g gx (if t = 0 then V.set d y else V) st fu t L) := by
  have h3 := h.rn.v a ha
  have h4 := h.rn.v d hd
  have h5 := h.rn.m
  have h6 := h.rn.gtr
  have hlt := h.rn.lt
  have hbase : base ≤ w.heap.size := by have := h.bg; omega
  have hfz := h.rn.frozen 67
  have q1 : g < w.heap.size + 1 := by omega
  have q2 : g < w.heap.size + 1 + 1 := by omega
  have q3 : g < w.heap.size + 2 := by omega
  have q4 : g < w.heap.size + 1 + 1 + 1 := by omega
  have q5 : ¬ (g = w.heap.size) := by omega
  have q6 : ¬ (g = w.heap.size + 1) := by omega
  have q7 : ¬ (g = w.heap.size + 1 + 1) := by omega
  have q8 : ¬ (g = w.heap.size + 2) := by omega
  have hfz2 := h.rn.frozen (1 + d)
  have hai : (a : Int) < 64 := by omega
  have hdi : (d : Int) < 64 := by omega
  have n1 : ¬ (1 + d = 67) := by omega
  have n2 : ¬ (67 = 1 + d) := by omega
  obtain ⟨ad, had⟩ : ∃ ad, ad = (rd V a + imm) % 4294967296 := ⟨_, rfl⟩
  have had' : (rd V a + imm) % 4294967296 = ad := had.symm
  obtain ⟨va, hva⟩ : ∃ va, va = rd V (a : Int) := ⟨_, rfl⟩
  rw [← hva] at h3 had'
  rw [← had] at hV
  have had0 : 0 ≤ ad ∧ ad < 4294967296 := by rw [had]; omega
  have HLC := Aside0.mk (fun (W : World) (hm : RefAt W base gx 4096 256 2147483648 128 L) => (show Calls Try.prog 109 #[.pointer (some ⟨gx, 0, none⟩), .int .u32 ad, .int .i64 4] W (fun e w' => e = .returned (.tuple #[.int .u32 lw, .int .i64 t]) ∧ Drawn0 W w') from by
    have := refload_calls base gx 4096 256 2147483648 128 ad 4 L W hm (by omega) (map32 ad had0)
    rw [hV] at this
    exact this))
  have HSX := Aside0.mk hy
  have HR := Aside0.mk h
  have HMA := Aside0.mk (fun (W : World) (hb : Below w.heap.size w W) => h.mm.below hb)
  clear h had hva had0 hV hy
  by_cases ht : t = 0
  · subst ht
    go_enter Try.func89, Try.ntmps89
    go_wp2
    go_quiet (fail)
    go_wp2
    go_quiet (first | (go_at_call 109; (with_reducible refine (HLC.out _ (HMA.out _ ?hbelow)).mono ?_); (case hbelow => repeat (first | exact Below.refl _ _ | apply below_alloc | apply pw_below_drewN | apply below_drew1)); rintro e w' ⟨rfl, ⟨nd, rfl⟩⟩; (try first | exact ⟨rfl, _, World.drewN_drewN _ _ _⟩ | exact ⟨rfl, _, Eq.trans (World.drewN_drewN _ _ _) (congrArg (World.drewN _) (Nat.add_assoc _ _ _))⟩)))
    have hyy := HSX.out
    subst hyy
    go_wp2
    go_region
    go_wp2
    go_end0
    refine ⟨rfl, RQ.setV (RQ.drewT (RQ.setTr (RQ.below HR.out ?_) _) _) d hd _, KeepQ.setT (KeepQ.drewT (KeepQ.setT (KeepQ.below ?_) HR.out.g63 _ _) _) HR.out.g63 _ _, below_setT (pw_below_drewN (below_setT (Below.mono ?_ hbase) HR.out.bg _ _) _) HR.out.bg _ _⟩
    all_goals repeat (first | exact Below.refl _ _ | apply pw_below_drewN | apply below_alloc)
  · have HT := Aside0.mk ht
    simp only [if_neg ht]
    have htb : (t == 0) = false := by simpa using ht
    have htc : (t != 0) = true := by simpa using ht
    go_enter Try.func89, Try.ntmps89
    go_wp2
    go_quiet (fail)
    go_wp2
    go_quiet (first | (go_at_call 109; (with_reducible refine (HLC.out _ (HMA.out _ ?hbelow)).mono ?_); (case hbelow => repeat (first | exact Below.refl _ _ | apply below_alloc | apply pw_below_drewN | apply below_drew1)); rintro e w' ⟨rfl, ⟨nd, rfl⟩⟩; (try first | exact ⟨rfl, _, World.drewN_drewN _ _ _⟩ | exact ⟨rfl, _, Eq.trans (World.drewN_drewN _ _ _) (congrArg (World.drewN _) (Nat.add_assoc _ _ _))⟩)))
    go_wp2
    go_end0
    refine ⟨rfl, RQ.setTr (RQ.below HR.out ?_) _, KeepQ.setT (KeepQ.below ?_) HR.out.g63 _ _, below_setT (Below.mono ?_ hbase) HR.out.bg _ _⟩
    all_goals repeat (first | exact Below.refl _ _ | apply pw_below_drewN | apply below_alloc)

end Go.Proofs.Ytpeljnnbknnbmaa.PD
end
section
section
namespace Go.Proofs.Ytpeljnnbknnbmaa.PD
open Go.RowKit Go.Proofs.YtpeljnnbknnbmaaW.PrintWords Go.Proofs.YtpeljnnbknnbmaaW.PrintLast Go.Proofs.YtpeljnnbknnbmaaW.PrintMore
set_option linter.unusedVariables false
set_option linter.unusedSimpArgs false
theorem numsext8 (x : Int) (hx : U32 x) : num_Sext.f x 8 = some ((if 128 ≤ x % 256 then x % 256 - 256 else x % 256) % 4294967296) := by
  unfold num_Sext.f
  rw [if_neg (by decide), if_neg (by decide), show wrap64 (32 - 8) = 24 by kernel_rfl, if_pos (by decide), shl_id (by decide) (by decide), shr_id (by decide) (by decide), show ((2 : Int) ^ (24 : Int).toNat) = 16777216 by decide]
  congr 1
  have e : IntKind.u32.wrap (x * 16777216) = x * 16777216 % 4294967296 := by simp [IntKind.wrap, IntKind.bits, IntKind.signed]
  rw [e]
  unfold wrap32
  split <;> omega
theorem numsext16 (x : Int) (hx : U32 x) : num_Sext.f x 16 = some ((if 32768 ≤ x % 65536 then x % 65536 - 65536 else x % 65536) % 4294967296) := by
  unfold num_Sext.f
  rw [if_neg (by decide), if_neg (by decide), show wrap64 (32 - 16) = 16 by kernel_rfl, if_pos (by decide), shl_id (by decide) (by decide), shr_id (by decide) (by decide), show ((2 : Int) ^ (16 : Int).toNat) = 65536 by decide]
  congr 1
  have e : IntKind.u32.wrap (x * 65536) = x * 65536 % 4294967296 := by simp [IntKind.wrap, IntKind.bits, IntKind.signed]
  rw [e]
  unfold wrap32
  split <;> omega
theorem refsext8 (x : Int) (hx : U32 x) : pintleref01_Sext.f x 8 = some ((if 128 ≤ x % 256 then x % 256 - 256 else x % 256) % 4294967296) := by
  obtain ⟨h0, h1⟩ := hx
  have t : Int.tmod x 256 = x % 256 := by rw [Int.tmod_eq_emod_of_nonneg h0]
  unfold pintleref01_Sext.f
  rw [if_neg (by decide), if_neg (by decide), show IntKind.u64.wrap 8 = 8 by kernel_rfl, show wrap64 (8 - 1) = 7 by kernel_rfl, show IntKind.u64.wrap 7 = 7 by kernel_rfl, show shl .i64 1 8 = 256 by kernel_rfl, show shl .i64 1 7 = 128 by kernel_rfl, wrap64_id (by omega), t, if_pos (by decide), if_neg (by decide), if_pos (by decide)]
  simp only [word_eq1, Option.bind_some]
  by_cases h : x % 256 ≥ 128
  · rw [if_pos h, if_pos h, wrap64_id (by omega)]
  · rw [if_neg h, if_neg h]
theorem refsext16 (x : Int) (hx : U32 x) : pintleref01_Sext.f x 16 = some ((if 32768 ≤ x % 65536 then x % 65536 - 65536 else x % 65536) % 4294967296) := by
  obtain ⟨h0, h1⟩ := hx
  have t : Int.tmod x 65536 = x % 65536 := by rw [Int.tmod_eq_emod_of_nonneg h0]
  unfold pintleref01_Sext.f
  rw [if_neg (by decide), if_neg (by decide), show IntKind.u64.wrap 16 = 16 by kernel_rfl, show wrap64 (16 - 1) = 15 by kernel_rfl, show IntKind.u64.wrap 15 = 15 by kernel_rfl, show shl .i64 1 16 = 65536 by kernel_rfl, show shl .i64 1 15 = 32768 by kernel_rfl, wrap64_id (by omega), t, if_pos (by decide), if_neg (by decide), if_pos (by decide)]
  simp only [word_eq1, Option.bind_some]
  by_cases h : x % 65536 ≥ 32768
  · rw [if_pos h, if_pos h, wrap64_id (by omega)]
  · rw [if_neg h, if_neg h]
/-- what the document's memory tells of a step is what the program's tells -/
theorem refmem_some (base g gx : Nat) (V : List Int) (L : List S138) (fl rl : List Int) (hD : Data fl rl L) (hu : ∀ x ∈ V, U32 x) (hl : V.length = 64) (hL : L.length < 4294967296) (x : S49) (hx : MOk x) :
    ∃ L2, Data fl (mL 2147483648 x V rl) L2 ∧ L2.length ≤ L.length + 4 ∧ ∀ (w : World) (st fu tr : Int), RQ w base g gx V st fu tr L → Calls Try.prog 89 #[.pointer (some ⟨g, 0, none⟩), .agg #[.int .i64 x.f0, .int .i64 x.f1, .int .i64 x.f2, .int .i64 x.f3, .int .i32 x.f4]] w (QTold w base g gx (mV 4096 2147483648 fl x V rl) st fu (mTrap 4096 2147483648 fl x V rl) L2) := by
  obtain ⟨⟨ho1, ho2⟩, hd, ha, hb⟩ := hx
  obtain ⟨o, d, a, b, i⟩ := x
  simp only at ho1 ho2 hd ha hb
  obtain ⟨d, rfl⟩ : ∃ n : Nat, d = n := ⟨d.toNat, by omega⟩
  obtain ⟨a, rfl⟩ : ∃ n : Nat, a = n := ⟨a.toNat, by omega⟩
  obtain ⟨b, rfl⟩ : ∃ n : Nat, b = n := ⟨b.toNat, by omega⟩
  have hlu : ∀ ad n, n ≤ 4 → U32 (loadV 4096 2147483648 fl rl ad n).1 := fun ad n hn => loadV_u32 hD.bf hD.br ad n hn
  have hst : ∀ ad sz, storeT 2147483648 rl.length ad sz = refStoreT 2147483648 128 ad sz := fun ad sz => by rw [hD.lr]; exact store_trap _ _ _ _
  rcases (by omega : o = 17 ∨ o = 18 ∨ o = 19 ∨ o = 20 ∨ o = 21 ∨ o = 22) with rfl | rfl | rfl | rfl | rfl | rfl
  · refine ⟨L, hD, by omega, fun w st fu tr h => ?_⟩
    have hv := hD.load ((rd V a + i) % 4294967296) 1
    have hq := hlu ((rd V a + i) % 4294967296) 1 (by decide)
    obtain ⟨lw, t, hlt⟩ : ∃ lw t, loadV 4096 2147483648 fl rl ((rd V a + i) % 4294967296) 1 = (lw, t) := ⟨_, _, rfl⟩
    rw [hlt] at hv hq
    have hw := refmem_load17 w base g gx V st fu tr L h hL d a (by omega) (by omega) b i lw t _ hv.symm (refsext8 lw hq)
    have e : ldV 17 4096 2147483648 fl rl ((rd V a + i) % 4294967296) = if t = 0 then ((if 128 ≤ lw % 256 then lw % 256 - 256 else lw % 256) % 4294967296, 0) else (lw, t) := by
      unfold ldV
      simp only [if_true, hlt]
      by_cases ht : t = 0
      · rw [if_pos ⟨ht, Or.inl trivial⟩, if_pos ht, show (8 * 1 : Int) = 8 by rfl, numsext8 lw hq]; rfl
      · rw [if_neg (fun hh => ht hh.1), if_neg ht]
    unfold mV mTrap mAd
    simp only [e]
    by_cases ht : t = 0
    · subst ht
      simpa using hw
    · simp only [if_neg ht] at hw ⊢
      simpa [ht] using hw
  · refine ⟨L, hD, by omega, fun w st fu tr h => ?_⟩
    have hv := hD.load ((rd V a + i) % 4294967296) 1
    obtain ⟨lw, t, hlt⟩ : ∃ lw t, loadV 4096 2147483648 fl rl ((rd V a + i) % 4294967296) 1 = (lw, t) := ⟨_, _, rfl⟩
    rw [hlt] at hv
    have hw := refmem_load18 w base g gx V st fu tr L h hL d a (by omega) (by omega) b i lw t lw hv.symm rfl
    have e : ldV 18 4096 2147483648 fl rl ((rd V a + i) % 4294967296) = (lw, t) := by
      unfold ldV
      simp [hlt]
    unfold mV mTrap mAd
    simp only [e]
    simpa using hw
  · refine ⟨L, hD, by omega, fun w st fu tr h => ?_⟩
    have hv := hD.load ((rd V a + i) % 4294967296) 2
    have hq := hlu ((rd V a + i) % 4294967296) 2 (by decide)
    obtain ⟨lw, t, hlt⟩ : ∃ lw t, loadV 4096 2147483648 fl rl ((rd V a + i) % 4294967296) 2 = (lw, t) := ⟨_, _, rfl⟩
    rw [hlt] at hv hq
    have hw := refmem_load19 w base g gx V st fu tr L h hL d a (by omega) (by omega) b i lw t _ hv.symm (refsext16 lw hq)
    have e : ldV 19 4096 2147483648 fl rl ((rd V a + i) % 4294967296) = if t = 0 then ((if 32768 ≤ lw % 65536 then lw % 65536 - 65536 else lw % 65536) % 4294967296, 0) else (lw, t) := by
      show (if (loadV 4096 2147483648 fl rl ((rd V a + i) % 4294967296) 2).2 = 0 ∧ ((19 : Int) = 17 ∨ (19 : Int) = 19) then ((num_Sext.f (loadV 4096 2147483648 fl rl ((rd V a + i) % 4294967296) 2).1 (8 * 2)).getD 0, 0) else loadV 4096 2147483648 fl rl ((rd V a + i) % 4294967296) 2) = _
      simp only [hlt]
      by_cases ht : t = 0
      · rw [if_pos ⟨ht, Or.inr trivial⟩, if_pos ht, show (8 * 2 : Int) = 16 by rfl, numsext16 lw hq]; rfl
      · rw [if_neg (fun hh => ht hh.1), if_neg ht]
    unfold mV mTrap mAd
    simp only [e]
    by_cases ht : t = 0
    · subst ht
      simpa using hw
    · simp only [if_neg ht] at hw ⊢
      simpa [ht] using hw
  · refine ⟨L, hD, by omega, fun w st fu tr h => ?_⟩
    have hv := hD.load ((rd V a + i) % 4294967296) 4
    obtain ⟨lw, t, hlt⟩ : ∃ lw t, loadV 4096 2147483648 fl rl ((rd V a + i) % 4294967296) 4 = (lw, t) := ⟨_, _, rfl⟩
    rw [hlt] at hv
    have hw := refmem_load20 w base g gx V st fu tr L h hL d a (by omega) (by omega) b i lw t lw hv.symm rfl
    have e : ldV 20 4096 2147483648 fl rl ((rd V a + i) % 4294967296) = (lw, t) := by
      unfold ldV
      simp [hlt]
    unfold mV mTrap mAd
    simp only [e]
    simpa using hw
  · refine ⟨_, hD.store ((rd V a + i) % 4294967296) 1 (rd V b), ?_, fun w st fu tr h => ?_⟩
    · split
      · rw [List.length_append, refWrites_length]; simp
      · omega
    · have hw := refmem_store8 w base g gx V st fu tr L h hu hl hL a b (by omega) (by omega) d i _ rfl
      have e : mTrap 4096 2147483648 fl ⟨21, d, a, b, i⟩ V rl = refStoreT 2147483648 128 ((rd V a + i) % 4294967296) 1 := by
        unfold mTrap mAd
        simp [hst]
      rw [e]
      exact hw
  · refine ⟨_, hD.store ((rd V a + i) % 4294967296) 4 (rd V b), ?_, fun w st fu tr h => ?_⟩
    · split
      · rw [List.length_append, refWrites_length]; simp
      · omega
    · have hw := refmem_store32 w base g gx V st fu tr L h hu hl hL a b (by omega) (by omega) d i _ rfl
      have e : mTrap 4096 2147483648 fl ⟨22, d, a, b, i⟩ V rl = refStoreT 2147483648 128 ((rd V a + i) % 4294967296) 4 := by
        unfold mTrap mAd
        simp [hst]
      rw [e]
      exact hw

end Go.Proofs.Ytpeljnnbknnbmaa.PD
end
section
section
namespace Go.Proofs.Ytpeljnnbknnbmaa.PD
open Go.RowKit Go.Proofs.YtpeljnnbknnbmaaW.PrintWords Go.Proofs.YtpeljnnbknnbmaaW.PrintLast Go.Proofs.YtpeljnnbknnbmaaW.PrintMore
set_option linter.unusedVariables false
set_option linter.unusedSimpArgs false
set_option maxRecDepth 100000 in
set_option maxHeartbeats 8000000 in
theorem refone_mem (base g gx : Nat) (V : List Int) (L : List S138) (fl rl : List Int) (hD : Data fl rl L) (hu : ∀ x ∈ V, U32 x) (hl : V.length = 64) (hL : L.length < 4294967296) (x : S49) (hx : MOk x) :
    ∃ L2, Data fl (mL 2147483648 x V rl) L2 ∧ L2.length ≤ L.length + 4 ∧ ∀ (w : World) (st fu tr : Int), RQ w base g gx V st fu tr L → 0 ≤ st → st < 9223372036854775807 → Calls Try.prog 66 #[.pointer (some ⟨g, 0, none⟩), .agg #[.int .i64 x.f0, .int .i64 x.f1, .int .i64 x.f2, .int .i64 x.f3, .int .i32 x.f4]] w (QTold w base g gx (mV 4096 2147483648 fl x V rl) (if mTrap 4096 2147483648 fl x V rl = 0 then st + 1 else st) fu (mTrap 4096 2147483648 fl x V rl) L2) := by
  obtain ⟨L2, h1, h2, h3⟩ := refmem_some base g gx V L fl rl hD hu hl hL x hx
  refine ⟨L2, h1, h2, fun w st fu tr h hs0 hs1 => ?_⟩
  obtain ⟨T, hT⟩ : ∃ T, T = mTrap 4096 2147483648 fl x V rl := ⟨_, rfl⟩
  obtain ⟨V2, hV2⟩ : ∃ V2, V2 = mV 4096 2147483648 fl x V rl := ⟨_, rfl⟩
  rw [← hT, ← hV2]
  have HC := Aside0.mk (fun (W : World) (hW : RQ W base g gx V st fu tr L) => h3 W st fu tr hW)
  rw [← hT, ← hV2] at HC
  have HR := Aside0.mk h
  have o17 : 17 ≤ x.f0 := hx.o.1
  have o22 : x.f0 ≤ 22 := hx.o.2
  have hbase : base ≤ w.heap.size := by have := h.bg; have := h.rn.lt; omega
  have hwr : st + 1 < 9223372036854775808 := by omega
  clear h h1 h2 h3 hD hu hl hL hx hT hV2
  by_cases ht : T = 0
  · subst ht
    rw [if_pos rfl]
    go_enter Try.func66, Try.ntmps66
    go_wp2_with (go_at_call 89; go_loud ((with_reducible refine (HC.out _ ?hq).mono ?_); (case hq => exact RQ.below HR.out (by repeat (first | exact Below.refl _ _ | apply pw_below_drewN | apply below_alloc))); rintro e w5 ⟨rfl, hq5, hk5, hb5⟩; have g5 := hq5.rn.gst; have t5 := hq5.rn.gtr; have f5 := hq5.rn.frozen 65; have HQ5 := Aside0.mk hq5; have HK5 := Aside0.mk hk5; have HB5 := Aside0.mk hb5; clear hq5 hk5 hb5))
    go_end0
    refine ⟨rfl, RQ.setSt HQ5.out _, KeepQ.trans (KeepQ.trans (KeepQ.below ?_) HK5.out) (RQ.kset HQ5.out _ _), below_setT ((Below.mono ?_ hbase).trans HB5.out) HR.out.bg _ _⟩
    all_goals repeat (first | exact Below.refl _ _ | apply pw_below_drewN | apply below_alloc)
  · rw [if_neg ht]
    have htb : (T == 0) = false := by simpa using ht
    have htc : (T != 0) = true := by simpa using ht
    go_enter Try.func66, Try.ntmps66
    go_wp2_with (go_at_call 89; go_loud ((with_reducible refine (HC.out _ ?hq).mono ?_); (case hq => exact RQ.below HR.out (by repeat (first | exact Below.refl _ _ | apply pw_below_drewN | apply below_alloc))); rintro e w5 ⟨rfl, hq5, hk5, hb5⟩; have g5 := hq5.rn.gst; have t5 := hq5.rn.gtr; have f5 := hq5.rn.frozen 65; have HQ5 := Aside0.mk hq5; have HK5 := Aside0.mk hk5; have HB5 := Aside0.mk hb5; clear hq5 hk5 hb5))
    go_end0
    refine ⟨rfl, HQ5.out, KeepQ.trans (KeepQ.below ?_) HK5.out, (Below.mono ?_ hbase).trans HB5.out⟩
    all_goals repeat (first | exact Below.refl _ _ | apply pw_below_drewN | apply below_alloc)

end Go.Proofs.Ytpeljnnbknnbmaa.PD
end
section
section
namespace Go.Proofs.Ytpeljnnbknnbmaa.PD
open Go.RowKit Go.Proofs.YtpeljnnbknnbmaaW.PrintWords Go.Proofs.YtpeljnnbknnbmaaW.PrintLast Go.Proofs.YtpeljnnbknnbmaaW.PrintMore
set_option linter.unusedVariables false
set_option linter.unusedSimpArgs false
theorem keep_q {w w' : World} {g : Nat} (hg : ∃ C fr0, w.heap[g]? = some (.cells C 63 fr0)) (h : Keep (· = g) w w') : ∀ (k : Nat) (cs : Array Value) (t : TypeId) (fr : Nat × Nat), w.heap[k]? = some (.cells cs t fr) → t ≠ 63 → w'.heap[k]? = some (.cells cs t fr) := fun k cs t fr hk ht =>
  (h.block k (blk_lt hk) (by rintro rfl; obtain ⟨C, f, hg⟩ := hg; rw [hg] at hk; injection hk with hk; injection hk with _ e _; exact ht e.symm)).trans hk
theorem stepV_pV {x : S49} {V : List Int} (hx : POk x) (h16 : x.f0 ≤ 16) (hV : ∀ y ∈ V, U32 y) (hl : V.length = 64) : stepV x V = pV x V := by
  obtain ⟨ho, hd, ha, hb⟩ := hx
  obtain ⟨o, d, a, b, i⟩ := x
  simp only at ho hd ha hb h16
  unfold stepV pV
  simp only
  by_cases e1 : o = 1
  · rw [if_pos e1, if_pos (Or.inl e1)]
  · have n2 : ¬ (o = 1 ∨ o = 23) := by omega
    rw [if_neg e1, if_neg n2]
    by_cases e2 : o = 2
    · rw [if_pos e2, if_pos e2]
    · rw [if_neg e2, if_neg e2]
      unfold aluS
      obtain ⟨n, rfl⟩ : ∃ n : Nat, o = n := ⟨o.toNat, by omega⟩
      obtain ⟨p, rfl⟩ : ∃ n : Nat, a = n := ⟨a.toNat, by omega⟩
      obtain ⟨q, rfl⟩ : ∃ n : Nat, b = n := ⟨b.toNat, by omega⟩
      rw [aluR_eq (ops_in n (by omega) (by omega)) (rd_u32 hl hV p (by omega)) (by split; exact u32_mod _; exact rd_u32 hl hV q (by omega))]
/-- the document's step without memory, with its memory beside it -/
theorem refone_plain (base g gx : Nat) (V : List Int) (L : List S138) (hu : ∀ x ∈ V, U32 x) (hl : V.length = 64) (x : S49) (hx : POk x) (h16 : x.f0 ≤ 16) (w : World) (st fu : Int) (h : RQ w base g gx V st fu 0 L) (hs0 : 0 ≤ st) (hs1 : st < 9223372036854775807) :
    Calls Try.prog 66 #[.pointer (some ⟨g, 0, none⟩), .agg #[.int .i64 x.f0, .int .i64 x.f1, .int .i64 x.f2, .int .i64 x.f3, .int .i32 x.f4]] w (QTold w base g gx (pV x V) (st + 1) fu 0 L) := by
  have ho : 1 ≤ x.f0 := by rcases hx.o with e | e <;> omega
  refine (one_plain aluAll w g _ V st fu h.rn hu hl hs0 hs1 x ⟨ho, h16, hx.d, hx.a, hx.b⟩).mono ?_
  rintro e w' ⟨rfl, hr, hk⟩
  rw [stepV_pV hx h16 hu hl] at hr
  have hq := keep_q h.g63 hk
  exact ⟨rfl, ⟨hr, h.mm.keepR hq, h.bg⟩, fun k cs t fr h1 h2 _ _ => hq k cs t fr h1 h2, hk.below base (by have := h.bg; have := h.rn.lt; omega) (fun i hi => by subst hi; exact h.bg)⟩

end Go.Proofs.Ytpeljnnbknnbmaa.PD
end
section
section
namespace Go.Proofs.Ytpeljnnbknnbmaa.PD
open Go.RowKit Go.Proofs.YtpeljnnbknnbmaaW.PrintWords Go.Proofs.YtpeljnnbknnbmaaW.PrintLast Go.Proofs.YtpeljnnbknnbmaaW.PrintMore
set_option linter.unusedVariables false
set_option linter.unusedSimpArgs false
/-- between a loop and its end the loop is open -/
theorem pair_between {l : List S49} {f e : Nat} {r : List Nat} (hp : Pair l f e) (hr : stk l f = some r) : ∀ m, f < m → m ≤ e → ∃ p, stk l m = some (p ++ f :: r) := by
  have hn := stk_loop hr hp.2.2.1
  have he : stk l e = some (f :: r) := by
    obtain ⟨_, _, _, _, r2, h5, h6⟩ := hp
    rw [hr] at h5; cases h5
    exact h6
  intro m
  induction m with
  | zero => intro h; omega
  | succ m ih =>
    intro h1 h2
    by_cases em : m = f
    · subst em; exact ⟨[], hn⟩
    · obtain ⟨p, hq⟩ := ih (by omega) (by omega)
      by_cases h23 : (rd_T49 l (m : Int)).f0 = 23
      · exact ⟨m :: p, stk_loop hq h23⟩
      · by_cases h24 : (rd_T49 l (m : Int)).f0 = 24
        · cases p with
          | nil =>
            exfalso
            obtain ⟨s, h7, h8⟩ := stk_mem he List.mem_cons_self (m + 1) (by omega) h2
            rw [stk_end hq h24] at h7
            cases h7
            have := (stk_lt hr f h8).1
            omega
          | cons g p => exact ⟨p, stk_end hq h24⟩
        · exact ⟨p, stk_else hq h23 h24⟩
/-- each loop of a program in order has an end -/
theorem pair_ex {l : List S49} {E : List Int} (g : Good l E) (hl : l.length ≤ 20000) {f : Nat} (hf : f < l.length) (h23 : (rd_T49 l (f : Int)).f0 = 23) : ∃ e, Pair l f e ∧ rd E (e : Int) = f ∧ pintleref15_End.f (2 * l.length + 1) l ((f + 1 : Nat) : Int) = some (e : Int) := by
  obtain ⟨r, hr⟩ := stk_before g.fin (Nat.le_of_lt hf)
  rcases refend_at l hl f (2 * l.length + 1) r hf h23 hr (by omega) with ⟨e, hp, he⟩ | ⟨_, q, hq⟩
  · refine ⟨e, hp, ?_, he⟩
    obtain ⟨_, h2, _, h4, r2, h5, h6⟩ := hp
    exact g.out.fr e h2 h4 f r2 h6
  · rw [g.fin] at hq
    injection hq with hq
    simp at hq

end Go.Proofs.Ytpeljnnbknnbmaa.PD
end
section
namespace Go.Proofs.Ytpeljnnbknnbmaa.PD
open Go.RowKit Go.Proofs.YtpeljnnbknnbmaaW.PrintWords Go.Proofs.YtpeljnnbknnbmaaW.PrintLast Go.Proofs.YtpeljnnbknnbmaaW.PrintMore
set_option linter.unusedVariables false
set_option linter.unusedSimpArgs false
/-- the flat run's step at a loop -/
theorem sStep_loop {l : List S49} {E : List Int} {F R : Int} {fl : List Int} {s : Int × List Int × List Int} (hx : (rd_T49 l s.1).f0 = 23) :
    sStep l E F R fl s = (s.1 + 1, s.2.1.set (rd_T49 l s.1).f1.toNat ((rd_T49 l s.1).f4 % 4294967296), s.2.2) := by
  have hm : ¬ isMem (rd_T49 l s.1) := fun h => by have := h.2; omega
  unfold sStep
  rw [if_neg hm]
  unfold pStep pV
  simp [hx]
/-- at its end -/
theorem sStep_end {l : List S49} {E : List Int} {F R : Int} {fl : List Int} {s : Int × List Int × List Int} {f e : Nat} (hp : Pair l f e) (hE : rd E (e : Int) = f) (hs : s.1 = e) :
    sStep l E F R fl s = ((if (rd s.2.1 (rd_T49 l (f : Int)).f1 - 1) % 4294967296 = 0 then (e : Int) else (f : Int)) + 1, s.2.1.set (rd_T49 l (f : Int)).f1.toNat ((rd s.2.1 (rd_T49 l (f : Int)).f1 - 1) % 4294967296), s.2.2) := by
  obtain ⟨at_, V, rl⟩ := s
  simp only at hs
  subst hs
  have h24 := hp.2.2.2.1
  have hm : ¬ isMem (rd_T49 l (e : Int)) := fun h => by have := h.2; omega
  unfold sStep
  simp only
  rw [if_neg hm]
  unfold pStep
  simp only
  rw [if_pos h24, hE]
theorem sStep_plain {l : List S49} {E : List Int} {F R : Int} {fl : List Int} {s : Int × List Int × List Int} (hm : ¬ isMem (rd_T49 l s.1)) (h24 : (rd_T49 l s.1).f0 ≠ 24) :
    sStep l E F R fl s = (s.1 + 1, pV (rd_T49 l s.1) s.2.1, s.2.2) := by
  unfold sStep
  rw [if_neg hm]
  unfold pStep
  simp [h24]
theorem sStep_memory {l : List S49} {E : List Int} {F R : Int} {fl : List Int} {s : Int × List Int × List Int} (hm : isMem (rd_T49 l s.1)) :
    sStep l E F R fl s = (s.1 + 1, mV F R fl (rd_T49 l s.1) s.2.1 s.2.2, mL R (rd_T49 l s.1) s.2.1 s.2.2) := by
  unfold sStep
  rw [if_pos hm]
/-- the counters of the loops that are open at a place -/
def Kept (l : List S49) (st : List Nat) (V V' : List Int) : Prop := ∀ j ∈ st, rd V' (rd_T49 l (j : Int)).f1 = rd V (rd_T49 l (j : Int)).f1
theorem Kept.refl (l : List S49) (st : List Nat) (V : List Int) : Kept l st V V := fun _ _ => rfl
theorem Kept.trans {l : List S49} {st : List Nat} {V V1 V2 : List Int} (h : Kept l st V V1) (k : Kept l st V1 V2) : Kept l st V V2 := fun j hj => (k j hj).trans (h j hj)
theorem Kept.tail {l : List S49} {st : List Nat} {f : Nat} {V V1 : List Int} (h : Kept l (f :: st) V V1) : Kept l st V V1 := fun j hj => h j (List.mem_cons_of_mem _ hj)
theorem step_dest {F R : Int} {fl : List Int} {x : S49} {V rl : List Int} (hm : isMem x) : mV F R fl x V rl = V ∨ ((ofV x.f0).1 = true ∧ ∃ y, mV F R fl x V rl = V.set x.f1.toNat y) := by
  unfold mV
  by_cases h1 : x.f0 = 21
  · rw [if_pos h1]; exact Or.inl rfl
  · rw [if_neg h1]
    by_cases h2 : x.f0 = 22
    · rw [if_pos h2]; exact Or.inl rfl
    · rw [if_neg h2]
      split
      · exact Or.inr ⟨ofV_dest (by have := hm.1; have := hm.2; omega), _, rfl⟩
      · exact Or.inl rfl
theorem plain_dest {x : S49} {V : List Int} (h : POk x) : (ofV x.f0).1 = true ∧ ∃ y, pV x V = V.set x.f1.toNat y := by
  refine ⟨ofV_dest (by have := h.o; omega), ?_⟩
  unfold pV
  split
  · exact ⟨_, rfl⟩
  · split <;> exact ⟨_, rfl⟩
theorem reg_range {l : List S49} {E : List Int} (g : Good l E) {i : Nat} {st : List Nat} (hi : i ≤ l.length) (hst : stk l i = some st) : ∀ j ∈ st, 0 ≤ (rd_T49 l (j : Int)).f1 ∧ (rd_T49 l (j : Int)).f1 < 64 := fun j hj => (can_range (g.can j (by have := (stk_lt hst j hj).1; omega))).2.1
/-- a step that is no end keeps the counters of the loops that are open -/
theorem sStep_keep {l : List S49} {E : List Int} (g : Good l E) {F R : Int} {fl : List Int} {nr : Nat} {s : Int × List Int × List Int} (h : SOn l E nr s) {i : Nat} (hi : s.1 = i) {st : List Nat} (hst : stk l i = some st) (h24 : (rd_T49 l (i : Int)).f0 ≠ 24) :
    Kept l st s.2.1 (sStep l E F R fl s).2.1 := by
  have hil : i < l.length := by have := h.at1; omega
  have hreg := reg_range g (Nat.le_of_lt hil) hst
  have hd := (can_range (g.can i hil)).2.1
  have far : ∀ V', V' = s.2.1 ∨ ((ofV (rd_T49 l (i : Int)).f0).1 = true ∧ ∃ y, V' = s.2.1.set (rd_T49 l (i : Int)).f1.toNat y) → Kept l st s.2.1 V' := by
    rintro V' (rfl | ⟨ho, y, rfl⟩)
    · exact Kept.refl _ _ _
    · intro j hj
      rw [rd_put h.len _ _ y hd (hreg j hj).1, if_neg ((g.kok i hil st hst).1 ho j hj)]
  by_cases hm : isMem (rd_T49 l s.1)
  · rw [sStep_memory hm]
    refine far _ ?_
    have := step_dest (F := F) (R := R) (fl := fl) (V := s.2.1) (rl := s.2.2) hm
    rw [hi] at this ⊢
    exact this
  · have hp := h.ok.2 hm
    rw [sStep_plain hm (by rw [hi]; exact h24)]
    refine far _ (Or.inr ?_)
    have hok : POk (rd_T49 l s.1) := by
      rcases hp.ok with h | h
      · exact h
      · exact absurd h.1 (by show (rd_T49 l s.1).f0 ≠ 24; rw [hi]; exact h24)
    have := plain_dest (V := s.2.1) hok
    rw [hi] at this ⊢
    exact this
/-- at a loop's end the counters of the loops around it stay -/
theorem end_keep {l : List S49} {E : List Int} (g : Good l E) {f : Nat} (hf : f < l.length) (h23 : (rd_T49 l (f : Int)).f0 = 23) {r : List Nat} (hr : stk l f = some r) {V : List Int} (hV : V.length = 64) (x : Int) :
    Kept l r V (V.set (rd_T49 l (f : Int)).f1.toNat x) := by
  intro j hj
  rw [rd_put hV _ _ x (can_range (g.can f hf)).2.1 (reg_range g (Nat.le_of_lt hf) hr j hj).1, if_neg ((g.kok f hf r hr).1 (ofV_dest (Or.inr h23)) j hj)]
theorem loop_imm {l : List S49} {E : List Int} (g : Good l E) {f : Nat} (hf : f < l.length) (h23 : (rd_T49 l (f : Int)).f0 = 23) : 1 ≤ (rd_T49 l (f : Int)).f4 ∧ (rd_T49 l (f : Int)).f4 ≤ 100000 := by
  have h := g.can f hf
  unfold canS canV at h
  rw [h23] at h
  simp only [Bool.and_eq_true] at h
  obtain ⟨_, _, _, _, h1, h2⟩ := h
  have h3 := of_decide_eq_true h1
  have h4 := of_decide_eq_true h2
  have e : ((ofV 23).2.2.2.1 = 1) ∧ ((ofV 23).2.2.2.2.1 = 100000) := ⟨by decide, by decide⟩
  rw [e.1] at h3
  rw [e.2] at h4
  exact ⟨h3, h4⟩

end Go.Proofs.Ytpeljnnbknnbmaa.PD
end
end
end
end
end
end
section
section
section
namespace Go.Proofs.Ytpeljnnbknnbmaa.PD
open Go.RowKit Go.Proofs.YtpeljnnbknnbmaaW.PrintWords Go.Proofs.YtpeljnnbknnbmaaW.PrintLast Go.Proofs.YtpeljnnbknnbmaaW.PrintMore
set_option linter.unusedVariables false
set_option linter.unusedSimpArgs false
theorem C_baseA {w w1 : World} {base : Nat} {A : Option Addr} {n : Nat} {xs : List S49} (h : Kd.C k49 w A n xs) (hb : Below base w w1) (hA : 0 < n → ∀ a, A = some a → a.block < base) : Kd.C k49 w1 A n xs := by
  by_cases hn : 0 < n
  · obtain ⟨ad, rfl, _⟩ := h.2.2 hn
    exact C_flat (fun x cs hx => by rw [k49_open hx]; exact k49_mk w1 x) h (fun _ => hb.block _ (hA hn ad rfl))
  · exact ⟨h.1, h.2.1, fun hh => absurd hh hn⟩
/-- the flat run over the document's memories -/
def fR (l : List S49) (E fl rl0 : List Int) (k : Nat) : Int × List Int × List Int := sRun l E 4096 2147483648 fl rl0 k
theorem fR_next (l : List S49) (E fl rl0 : List Int) (k : Nat) : fR l E fl rl0 (k + 1) = sStep l E 4096 2147483648 fl (fR l E fl rl0 k) := rfl
/-- the document's runner where the flat run is behind k steps; a trap -/
structure HT (l : List S49) (E fl rl0 : List Int) (base g gx L0 : Nat) (fuel : Int) (b : Nat) (w : World) (k : Nat) (t : Int) : Prop where
  ex : ∃ L, RQ w base g gx (fR l E fl rl0 k).2.1 k fuel t L ∧ Data fl (fR l E fl rl0 k).2.2 L ∧ L.length ≤ L0 + 4 * k + b
  on : ∀ j, j < k → SOn l E rl0.length (fR l E fl rl0 j) ∧ sTr l 4096 2147483648 fl (fR l E fl rl0 j) = 0
  inv : SInv l rl0.length (fR l E fl rl0 k)
  le : (k : Int) ≤ fuel ∨ k = 0
/-- it is over: no fuel is left, or a step traps -/
def Over (l : List S49) (E fl rl0 : List Int) (fuel : Int) (k : Nat) (t : Int) : Prop :=
  (fuel ≤ k ∧ t = 0) ∨ ((k : Int) < fuel ∧ SOn l E rl0.length (fR l E fl rl0 k) ∧ sTr l 4096 2147483648 fl (fR l E fl rl0 k) = t ∧ t ≠ 0)
theorem HT.below {l : List S49} {E fl rl0 : List Int} {base g gx L0 : Nat} {fuel : Int} {b : Nat} {w w1 : World} {k : Nat} {t : Int} (h : HT l E fl rl0 base g gx L0 fuel b w k t) (hb : Below w.heap.size w w1) : HT l E fl rl0 base g gx L0 fuel b w1 k t := by
  obtain ⟨L, h1, h2⟩ := h.ex
  exact ⟨⟨L, h1.below hb, h2⟩, h.on, h.inv, h.le⟩
theorem HT.next {l : List S49} {E fl rl0 : List Int} {base g gx L0 : Nat} {fuel : Int} {w w1 : World} {k : Nat} (gd : Good l E) (h : HT l E fl rl0 base g gx L0 fuel 0 w k 0) (hk : (k : Int) < fuel) (hlt : (fR l E fl rl0 k).1 < l.length) (htr : sTr l 4096 2147483648 fl (fR l E fl rl0 k) = 0)
    (hex : ∃ L, RQ w1 base g gx (fR l E fl rl0 (k + 1)).2.1 ((k + 1 : Nat) : Int) fuel 0 L ∧ Data fl (fR l E fl rl0 (k + 1)).2.2 L ∧ L.length ≤ L0 + 4 * (k + 1)) : HT l E fl rl0 base g gx L0 fuel 0 w1 (k + 1) 0 := by
  have hon := good_on gd h.inv hlt
  obtain ⟨_, _, hD, _⟩ := h.ex
  refine ⟨hex, fun j hj => ?_, sStep_inv hD.bf hon, Or.inl (by omega)⟩
  by_cases e : j = k
  · subst e; exact ⟨hon, htr⟩
  · exact h.on j (by omega)
def FourOk (L0 : Nat) (fuel : Int) : Prop := (L0 : Int) + 4 * fuel + 8 < 4294967296
/-- the document's step that is none of a loop, against the flat run's -/
theorem ref_one {l : List S49} {E fl rl0 : List Int} {base g gx L0 : Nat} {fuel : Int} (gd : Good l E) (hB : FourOk L0 fuel) (w : World) (k i : Nat) (h : HT l E fl rl0 base g gx L0 fuel 0 w k 0) (hp : (fR l E fl rl0 k).1 = i) (hi : i < l.length) (hk : (k : Int) < fuel)
    (h23 : (rd_T49 l (i : Int)).f0 ≠ 23) (h24 : (rd_T49 l (i : Int)).f0 ≠ 24) :
    Calls Try.prog 66 #[.pointer (some ⟨g, 0, none⟩), .agg #[.int .i64 (rd_T49 l (i : Int)).f0, .int .i64 (rd_T49 l (i : Int)).f1, .int .i64 (rd_T49 l (i : Int)).f2, .int .i64 (rd_T49 l (i : Int)).f3, .int .i32 (rd_T49 l (i : Int)).f4]] w
      fun e w' => e = .returned (.tuple #[]) ∧ KeepQ w w' ∧ Below base w w' ∧ (HT l E fl rl0 base g gx L0 fuel 0 w' (k + 1) 0 ∨ ∃ t, t ≠ 0 ∧ HT l E fl rl0 base g gx L0 fuel 4 w' k t ∧ Over l E fl rl0 fuel k t) := by
  have hlt : (fR l E fl rl0 k).1 < l.length := by omega
  have hon := good_on gd h.inv hlt
  obtain ⟨L, hR, hD, hL⟩ := h.ex
  unfold FourOk at hB
  have hL1 : L.length < 4294967296 := by omega
  by_cases hm : isMem (rd_T49 l (i : Int))
  · have hmo : MOk (rd_T49 l (i : Int)) := by have := hon.ok.1 (by rw [hp]; exact hm); rw [hp] at this; exact this
    obtain ⟨L2, hD2, hL2, hc⟩ := refone_mem base g gx _ L fl _ hD hon.u hon.len hL1 _ hmo
    have hst : sStep l E 4096 2147483648 fl (fR l E fl rl0 k) = (((i : Nat) : Int) + 1, mV 4096 2147483648 fl (rd_T49 l (i : Int)) (fR l E fl rl0 k).2.1 (fR l E fl rl0 k).2.2, mL 2147483648 (rd_T49 l (i : Int)) (fR l E fl rl0 k).2.1 (fR l E fl rl0 k).2.2) := by
      rw [sStep_memory (by rw [hp]; exact hm), hp]
    have htr : sTr l 4096 2147483648 fl (fR l E fl rl0 k) = mTrap 4096 2147483648 fl (rd_T49 l (i : Int)) (fR l E fl rl0 k).2.1 (fR l E fl rl0 k).2.2 := by
      unfold sTr; rw [hp, if_pos hm]
    refine (hc w k fuel 0 hR (by omega) (by omega)).mono ?_
    rintro e w' ⟨rfl, hq, hkq, hbq⟩
    refine ⟨rfl, hkq, hbq, ?_⟩
    by_cases ht : mTrap 4096 2147483648 fl (rd_T49 l (i : Int)) (fR l E fl rl0 k).2.1 (fR l E fl rl0 k).2.2 = 0
    · rw [if_pos ht, ht] at hq
      refine Or.inl (h.next gd hk hlt (by rw [htr]; exact ht) ⟨L2, ?_⟩)
      rw [fR_next, hst]
      exact ⟨hq, hD2, by omega⟩
    · rw [if_neg ht] at hq
      have hs := mTrap_stays ht
      rw [hs.1] at hq
      rw [hs.2] at hD2
      exact Or.inr ⟨_, ht, ⟨⟨L2, hq, hD2, by omega⟩, h.on, h.inv, h.le⟩, Or.inr ⟨hk, hon, htr, ht⟩⟩
  · have hp0 := hon.ok.2 (by rw [hp]; exact hm)
    have hok : POk (rd_T49 l (i : Int)) := by
      rcases hp0.ok with h1 | h1
      · have : POk (rd_T49 l (fR l E fl rl0 k).1) := h1
        rw [hp] at this; exact this
      · have : (rd_T49 l (fR l E fl rl0 k).1).f0 = 24 := h1.1
        rw [hp] at this; exact absurd this h24
    have hst : sStep l E 4096 2147483648 fl (fR l E fl rl0 k) = (((i : Nat) : Int) + 1, pV (rd_T49 l (i : Int)) (fR l E fl rl0 k).2.1, (fR l E fl rl0 k).2.2) := by
      rw [sStep_plain (by rw [hp]; exact hm) (by rw [hp]; exact h24), hp]
    have htr : sTr l 4096 2147483648 fl (fR l E fl rl0 k) = 0 := by
      unfold sTr; rw [hp, if_neg hm]
    have h16 : (rd_T49 l (i : Int)).f0 ≤ 16 := by rcases hok.o with e | e; exact e.2; exact absurd e h23
    refine (refone_plain base g gx _ L hon.u hon.len _ hok h16 w k fuel hR (by omega) (by omega)).mono ?_
    rintro e w' ⟨rfl, hq, hkq, hbq⟩
    refine ⟨rfl, hkq, hbq, Or.inl (h.next gd hk hlt htr ⟨L, ?_⟩)⟩
    rw [fR_next, hst]
    exact ⟨hq, hD, by omega⟩
theorem HT.place {l : List S49} {E fl rl0 : List Int} {k i : Nat} {x : S49} (hp : (fR l E fl rl0 k).1 = i) (h24 : (rd_T49 l (i : Int)).f0 ≠ 24) : (fR l E fl rl0 (k + 1)).1 = ((i + 1 : Nat) : Int) := by
  rw [fR_next]
  by_cases hm : isMem (rd_T49 l (fR l E fl rl0 k).1)
  · rw [sStep_memory hm, hp]; rfl
  · rw [sStep_plain hm (by rw [hp]; exact h24), hp]; rfl
/-- into a loop -/
theorem HT.into {l : List S49} {E fl rl0 : List Int} {base g gx L0 : Nat} {fuel : Int} {w w1 : World} {k f : Nat} (gd : Good l E) (h : HT l E fl rl0 base g gx L0 fuel 0 w k 0) (hk : (k : Int) < fuel) (hp : (fR l E fl rl0 k).1 = f) (hf : f < l.length) (h23 : (rd_T49 l (f : Int)).f0 = 23)
    (hq : ∀ V L, RQ w base g gx V k fuel 0 L → V = (fR l E fl rl0 k).2.1 → RQ w1 base g gx (V.set (rd_T49 l (f : Int)).f1.toNat ((rd_T49 l (f : Int)).f4 % 4294967296)) ((k + 1 : Nat) : Int) fuel 0 L) :
    HT l E fl rl0 base g gx L0 fuel 0 w1 (k + 1) 0 := by
  obtain ⟨L, hR, hD, hL⟩ := h.ex
  refine h.next gd hk (by omega) ?_ ⟨L, ?_⟩
  · unfold sTr; rw [hp, if_neg (fun hm => by have := hm.2; omega)]
  · rw [fR_next, sStep_loop (by rw [hp]; exact h23), hp]
    exact ⟨hq _ L hR rfl, hD, by omega⟩
/-- at its end -/
theorem HT.round {l : List S49} {E fl rl0 : List Int} {base g gx L0 : Nat} {fuel : Int} {w w1 : World} {k f e : Nat} (gd : Good l E) (h : HT l E fl rl0 base g gx L0 fuel 0 w k 0) (hk : (k : Int) < fuel) (hp : (fR l E fl rl0 k).1 = e) (hpr : Pair l f e) (hE : rd E (e : Int) = f)
    (hq : ∀ V L, RQ w base g gx V k fuel 0 L → V = (fR l E fl rl0 k).2.1 → RQ w1 base g gx (V.set (rd_T49 l (f : Int)).f1.toNat ((rd V (rd_T49 l (f : Int)).f1 - 1) % 4294967296)) ((k + 1 : Nat) : Int) fuel 0 L) :
    HT l E fl rl0 base g gx L0 fuel 0 w1 (k + 1) 0 := by
  obtain ⟨L, hR, hD, hL⟩ := h.ex
  have he := hpr.2.1
  have h24 := hpr.2.2.2.1
  refine h.next gd hk (by omega) ?_ ⟨L, ?_⟩
  · unfold sTr; rw [hp, if_neg (fun hm => by have := hm.2; omega)]
  · rw [fR_next, sStep_end hpr hE hp]
    exact ⟨hq _ L hR rfl, hD, by omega⟩

end Go.Proofs.Ytpeljnnbknnbmaa.PD
end
section
namespace Go.Proofs.Ytpeljnnbknnbmaa.PD
open Go.RowKit Go.Proofs.YtpeljnnbknnbmaaW.PrintWords Go.Proofs.YtpeljnnbknnbmaaW.PrintLast Go.Proofs.YtpeljnnbknnbmaaW.PrintMore
set_option linter.unusedVariables false
set_option linter.unusedSimpArgs false
/-- how far it is: on its way at a place, or over -/
def Goes (l : List S49) (E fl rl0 : List Int) (base g gx L0 : Nat) (fuel : Int) (wr : World) (k0 : Nat) (V0 : List Int) (iv : Nat) (st : List Nat) : Prop :=
  ∃ k, k0 ≤ k ∧ ((HT l E fl rl0 base g gx L0 fuel 0 wr k 0 ∧ (fR l E fl rl0 k).1 = (iv : Int) ∧ Kept l st V0 (fR l E fl rl0 k).2.1) ∨
      ∃ t, HT l E fl rl0 base g gx L0 fuel 4 wr k t ∧ Over l E fl rl0 fuel k t)
/-- what Does leaves -/
def DoesTold (l : List S49) (E fl rl0 : List Int) (base g gx L0 : Nat) (fuel : Int) (w : World) (k0 : Nat) (V0 : List Int) (til : Nat) (st : List Nat) (e : Ending) (w' : World) : Prop :=
  e = .returned (.tuple #[]) ∧ KeepQ w w' ∧ Below base w w' ∧ Goes l E fl rl0 base g gx L0 fuel w' k0 V0 til st
theorem Goes.split {l : List S49} {E fl rl0 : List Int} {base g gx L0 : Nat} {fuel : Int} {wr : World} {k0 : Nat} {V0 : List Int} {iv : Nat} {st : List Nat} (h : Goes l E fl rl0 base g gx L0 fuel wr k0 V0 iv st) :
    ∃ k V t L, k0 ≤ k ∧ RQ wr base g gx V (k : Nat) fuel t L ∧ (((t ≠ 0 ∨ fuel ≤ k) ∧ ∃ t, HT l E fl rl0 base g gx L0 fuel 4 wr k t ∧ Over l E fl rl0 fuel k t) ∨ (t = 0 ∧ V = (fR l E fl rl0 k).2.1 ∧ (k : Int) < fuel ∧ HT l E fl rl0 base g gx L0 fuel 0 wr k 0 ∧ (fR l E fl rl0 k).1 = (iv : Int) ∧ Kept l st V0 (fR l E fl rl0 k).2.1)) := by
  obtain ⟨k, hk, ⟨h1, h2, h3⟩ | ⟨t, h1, h2⟩⟩ := h
  · obtain ⟨L, hR, hD, hL⟩ := h1.ex
    by_cases hf : fuel ≤ k
    · exact ⟨k, _, _, _, hk, hR, Or.inl ⟨Or.inr hf, 0, ⟨⟨L, hR, hD, by omega⟩, h1.on, h1.inv, h1.le⟩, Or.inl ⟨hf, rfl⟩⟩⟩
    · exact ⟨k, _, _, _, hk, hR, Or.inr ⟨rfl, rfl, by omega, h1, h2, h3⟩⟩
  · obtain ⟨L, hR, _, _⟩ := h1.ex
    refine ⟨k, _, _, _, hk, hR, Or.inl ⟨?_, t, h1, h2⟩⟩
    rcases h2 with h | h
    · exact Or.inr h.1
    · exact Or.inl h.2.2.2
/-- within a loop: the counter, where it is -/
def InL (l : List S49) (E fl rl0 : List Int) (base g gx L0 : Nat) (fuel : Int) (wr : World) (k0 : Nat) (V0 : List Int) (st : List Nat) (iv e nv : Nat) : Prop :=
  ∃ k, k0 ≤ k ∧ HT l E fl rl0 base g gx L0 fuel 0 wr k 0 ∧ Kept l st V0 (fR l E fl rl0 k).2.1 ∧ rd (fR l E fl rl0 k).2.1 (rd_T49 l (iv : Int)).f1 = (nv : Int) ∧ (fR l E fl rl0 k).1 = if nv = 0 then (e : Int) + 1 else (iv : Int) + 1
theorem ends_true (w : World) (g : Nat) (mv : Value) (V : List Int) (st fu tr : Int) (h : RunAt w g mv V st fu tr) (hh : tr ≠ 0 ∨ fu ≤ st) : Calls Try.prog 65 #[.pointer (some ⟨g, 0, none⟩)] w fun e w' => e = .returned (.bool true) ∧ Drawn0 w w' := by
  have := ends_calls w g mv V st fu tr h
  rw [decide_eq_true hh] at this
  exact this
theorem ends_false (w : World) (g : Nat) (mv : Value) (V : List Int) (st fu tr : Int) (h : RunAt w g mv V st fu tr) (hh : tr = 0 ∧ st < fu) : Calls Try.prog 65 #[.pointer (some ⟨g, 0, none⟩)] w fun e w' => e = .returned (.bool false) ∧ Drawn0 w w' := by
  have := ends_calls w g mv V st fu tr h
  rw [decide_eq_false (by omega)] at this
  exact this
theorem not_end {l : List S49} {i : Nat} {st p : List Nat} (h : stk l i = some st) (h1 : stk l (i + 1) = some (p ++ st)) : (rd_T49 l (i : Int)).f0 ≠ 24 := by
  intro h24
  cases st with
  | nil => rw [stk_bad h h24] at h1; cases h1
  | cons f r =>
    rw [stk_end h h24] at h1
    injection h1 with h1
    have := congrArg List.length h1
    simp at this
    omega
theorem below_drewN (base : Nat) (w : World) (n : Nat) : Below base w (w.drewN n) := by
  repeat (first | exact Below.refl _ _ | apply pw_below_drewN | apply below_alloc)
theorem Goes.below {l : List S49} {E fl rl0 : List Int} {base g gx L0 : Nat} {fuel : Int} {wr w1 : World} {k0 : Nat} {V0 : List Int} {iv : Nat} {st : List Nat} (h : Goes l E fl rl0 base g gx L0 fuel wr k0 V0 iv st) (hb : Below wr.heap.size wr w1) : Goes l E fl rl0 base g gx L0 fuel w1 k0 V0 iv st := by
  obtain ⟨k, hk, ⟨h1, h2, h3⟩ | ⟨t, h1, h2⟩⟩ := h
  · exact ⟨k, hk, Or.inl ⟨h1.below hb, h2, h3⟩⟩
  · exact ⟨k, hk, Or.inr ⟨t, h1.below hb, h2⟩⟩
set_option maxRecDepth 100000 in
set_option maxHeartbeats 8000000 in
theorem does_seg (l : List S49) (E fl rl0 : List Int) (base g gx L0 : Nat) (fuel : Int) (gd : Good l E) (hB : FourOk L0 fuel) (hf0 : -9223372036854775808 ≤ fuel) (A : Option Addr) (lc : Nat) (hlc : l.length ≤ lc) (hA : 0 < l.length → ∀ a, A = some a → a.block < base) :
    ∀ (n from_ til k0 : Nat) (st : List Nat) (w : World), til - from_ = n → from_ ≤ til → til ≤ l.length → stk l from_ = some st → stk l til = some st → (∀ m, from_ ≤ m → m ≤ til → ∃ p, stk l m = some (p ++ st)) →
      HT l E fl rl0 base g gx L0 fuel 0 w k0 0 → (fR l E fl rl0 k0).1 = (from_ : Int) → Kd.C k49 w A l.length l →
      Calls Try.prog 33 #[.pointer (some ⟨g, 0, none⟩), .slice A l.length lc, .int .i64 from_, .int .i64 til] w (DoesTold l E fl rl0 base g gx L0 fuel w k0 (fR l E fl rl0 k0).2.1 til st) := by
  intro n
  induction n using Nat.strongRecOn with
  | ind n ih =>
  intro from_ til k0 st w hn hft htl hsf hst hbtw hH hp hC
  have hlen := gd.len
  have IH := Aside0.mk ih
  have HC := Aside0.mk hC
  have HH := Aside0.mk hH
  have HGD := Aside0.mk gd
  have HB := Aside0.mk hB
  have HP := Aside0.mk hp
  have HSF := Aside0.mk hsf
  have HST := Aside0.mk hst
  have HBT := Aside0.mk hbtw
  have HAA := Aside0.mk hA
  have HLC := Aside0.mk hlc
  have HN := Aside0.mk hn
  obtain ⟨V0, hV0⟩ : ∃ V0, V0 = (fR l E fl rl0 k0).2.1 := ⟨_, rfl⟩
  have HV0 := Aside0.mk hV0
  rw [← hV0]
  have HCW := Aside0.mk (fun (W : World) (hW : Below base w W) => C_baseA hC hW hA)
  clear ih hC hH gd hB hp hsf hst hbtw hA hlc hn hV0
  go_enter Try.func33, Try.ntmps33
  go_wp2
  go_loopw [8] (fun i wr => ∃ iv : Nat, from_ ≤ iv ∧ iv ≤ til ∧ i = .int .i64 iv ∧ Aside0 (stk l iv = some st) ∧ Aside0 (Goes l E fl rl0 base g gx L0 fuel wr k0 V0 iv st) ∧ Aside0 (KeepQ w wr ∧ Below base w wr)) (fun i _ => til - (intOf i).toNat)
  case atStart => exact ⟨from_, Nat.le_refl _, hft, rfl, HSF, ⟨k0, Nat.le_refl _, Or.inl ⟨HH.out, HP.out, by rw [HV0.out]; exact Kept.refl _ _ _⟩⟩, ⟨KeepQ.refl _, Below.refl _ _⟩⟩
  case round =>
    obtain ⟨iv, hi0, hi1, rfl, hst, hG, hK⟩ := hrel
    have hwb : base ≤ wr.heap.size := by
      obtain ⟨k, _, ⟨h1, _, _⟩ | ⟨t, h1, _⟩⟩ := hG.out
      all_goals
        obtain ⟨L, hR, _, _⟩ := h1.ex
        have := hR.bg; have := hR.rn.lt; omega
    by_cases hlt : iv < til
    · have hbi : ((iv : Int) < (til : Int)) := by omega
      have hbd : decide ((iv : Int) < (til : Int)) = true := decide_eq_true hbi
      have hil : (iv : Int) < l.length := by omega
      obtain ⟨k, V, t, L, hk0, hR, ⟨hov, t2, hgo⟩ | ⟨rfl, hVk, hkf, h1, h2, h3⟩⟩ := hG.out.split
      · have HE := Aside0.mk (ends_true wr g _ V k fuel t hR.rn hov)
        have HGO := Aside0.mk hgo
        clear hR hov hgo
        go_wp2_with (go_at_call 65; (with_reducible refine HE.out.mono ?_); rintro e w5 ⟨rfl, n5, rfl⟩)
        go_end0
        exact ⟨rfl, hK.out.1.trans (KeepQ.drewT (KeepQ.refl _) _), hK.out.2.trans (below_drewN base wr n5), Goes.below ⟨k, hk0, Or.inr ⟨t2, HGO.out⟩⟩ (below_drewN _ wr n5)⟩
      · have HE := Aside0.mk (ends_false wr g _ V k fuel 0 hR.rn ⟨rfl, hkf⟩)
        have hne : (rd_T49 l (iv : Int)).f0 ≠ 24 := by
          obtain ⟨p, hp⟩ := HBT.out (iv + 1) (by omega) (by omega)
          exact not_end hst.out hp
        obtain ⟨ad, ee, e0, e1, e2, e3, e4⟩ := at_T49 (HCW.out _ hK.out.2) (iv : Int) (by omega) hil
        subst ee
        simp only [Int.toNat_natCast] at e0 e1 e2 e3 e4
        by_cases h23 : (rd_T49 l (iv : Int)).f0 = 23
        · obtain ⟨wo, rfl⟩ : ∃ wo : World, wo = wr := ⟨_, rfl⟩
          have hivl : iv < l.length := by omega
          obtain ⟨e, hpr, hEe, hend⟩ := pair_ex HGD.out hlen hivl h23
          have hse : stk l e = some (iv :: st) := by
            obtain ⟨_, _, _, _, r2, h5, h6⟩ := hpr
            rw [hst.out] at h5; cases h5; exact h6
          have het : e < til := by
            apply Classical.byContradiction
            intro hne2
            obtain ⟨p, hp⟩ := pair_between hpr hst.out til (by omega) (by omega)
            rw [HST.out] at hp
            injection hp with hp
            have := congrArg List.length hp
            simp at this
            omega
          have hie : iv < e := hpr.1
          have himm := loop_imm HGD.out hivl h23
          have hdr := (can_range (HGD.out.can iv hivl)).2.1
          have HPR := Aside0.mk hpr
          have HEE := Aside0.mk hEe
          have HSE := Aside0.mk hse
          have HS1 := Aside0.mk (stk_loop hst.out h23)
          have HS2 := Aside0.mk (stk_end hse hpr.2.2.2.1)
          have HEN := Aside0.mk (fun (n : Nat) => (show Calls Try.prog 67 #[.slice (some ad) l.length lc, .int .i64 ((iv : Int) + 1)] (wo.drewN n) fun x w' => x = .returned (.int .i64 e) ∧ Drawn0 (wo.drewN n) w' from pintleref15_End.calls _ (some ad) lc l _ (e : Int) (wo.drewN n) (HCW.out _ (hK.out.2.trans (below_drewN base wo n))) HLC.out hend))
          have HX := Aside0.mk (And.intro h1 (And.intro h2 h3))
          have HKP := Aside0.mk (show Kept l st V0 (fR l E fl rl0 (k + 1)).2.1 from h3.trans (sStep_keep HGD.out (F := 4096) (R := 2147483648) (fl := fl) (good_on HGD.out h1.inv (by omega)) h2 hst.out hne))
          have HPL := Aside0.mk (HT.place (x := z49) h2 hne)
          have HCT := Aside0.mk (show rd (fR l E fl rl0 (k + 1)).2.1 (rd_T49 l (iv : Int)).f1 = (rd_T49 l (iv : Int)).f4 from by
            rw [fR_next, sStep_loop (by rw [h2]; exact h23), h2]
            show rd ((fR l E fl rl0 k).2.1.set _ _) _ = _
            rw [rd_put h1.inv.len _ _ _ hdr hdr.1, if_pos rfl]
            omega)
          have HH23 := Aside0.mk h23
          obtain ⟨xx, hxx⟩ : ∃ xx, xx = rd_T49 l (iv : Int) := ⟨_, rfl⟩
          have HXX := Aside0.mk hxx
          rw [← hxx] at e0 e1 e2 e3 e4 h23 himm hdr
          have hbq : (xx.f0 != 23) = false := by simpa using h23
          obtain ⟨d, hd⟩ : ∃ d : Nat, xx.f1 = d := ⟨xx.f1.toNat, by omega⟩
          obtain ⟨imm, him⟩ : ∃ n : Nat, xx.f4 = n := ⟨xx.f4.toNat, by omega⟩
          rw [hd] at e1 hdr
          rw [him] at e4 himm
          have HD := Aside0.mk hd
          have HIM := Aside0.mk him
          have hd64 : d < 64 := by omega
          have hdi : (d : Int) < 64 := by omega
          have n1 : ¬ (1 + d = 65) := by omega
          have n2 : ¬ (1 + d = 67) := by omega
          have n3 : ¬ (65 = 1 + d) := by omega
          have n4 : ¬ (67 = 1 + d) := by omega
          have g1 := hR.rn.gst
          have g2 := hR.rn.v d hd64
          have hfz := hR.rn.frozen (1 + d)
          have hfz2 := hR.rn.frozen 65
          have hgl := hR.rn.lt
          have HR := Aside0.mk hR
          have hkw : (k : Int) + 1 < 9223372036854775808 := by have := HB.out; unfold FourOk at this; omega
          have hag : ¬ ((ad.add (iv * 5)).block = g) := by
            have h1 := HAA.out (by omega) ad rfl
            have h2 := hR.bg
            rw [add_blk]
            omega
          have hga : ¬ (g = (ad.add (iv * 5)).block) := fun h => hag h.symm
          clear hxx h1 h2 h3 hne hR hend hpr hEe hse hd him
          go_wp2_with (first | (go_at_call 65; (with_reducible refine HE.out.mono ?_); rintro e w5 ⟨rfl, n5, rfl⟩) | (go_at_call 67; (with_reducible refine (HEN.out n5).mono ?_); rintro e w6 ⟨rfl, n6, rfl⟩))
          go_region
          go_wp2
          go_loopw [10] (fun i wr => ∃ nv : Nat, nv ≤ imm ∧ i = .int .i32 nv ∧ Aside0 (InL l E fl rl0 base g gx L0 fuel wr k0 V0 st iv e nv) ∧ Aside0 (KeepQ w wr ∧ Below base w wr)) (fun i _ => (intOf i).toNat)
          case atStart =>
            refine ⟨imm, Nat.le_refl _, rfl, ⟨k + 1, by omega, ?_, HKP.out, ?_, ?_⟩, ⟨?_, ?_⟩⟩
            · refine HT.into HGD.out HX.out.1 hkf HX.out.2.1 hivl HH23.out (fun V L hR hV => ?_)
              rw [← HXX.out, HD.out, HIM.out, Int.toNat_natCast, show ((imm : Int)) % 4294967296 = imm by omega]
              exact RQ.setSt (RQ.setV (RQ.drewT hR _) d hd64 _) _
            · rw [HCT.out, ← HXX.out, HIM.out]
            · rw [HPL.out, if_neg (by omega)]; rfl
            · exact hK.out.1.trans (KeepQ.setT (KeepQ.setT (KeepQ.drewT (KeepQ.refl wo) _) HR.out.g63 _ _) HR.out.g63 _ _)
            · exact hK.out.2.trans (below_setT (below_setT (below_drewN base wo _) HR.out.bg _ _) HR.out.bg _ _)
          case round =>
            obtain ⟨nv, hnv, rfl, hIn, hK2⟩ := hrel
            by_cases hn0 : nv = 0
            · obtain ⟨k2, hk2, hH2, hKe, hCt, hPl⟩ := hIn.out
              rw [if_pos hn0] at hPl
              have hw9 : e < 20000 := by omega
              have hnp : ¬ ((0 : Int) < nv) := by omega
              have HGo := Aside0.mk (show Goes l E fl rl0 base g gx L0 fuel wr k0 V0 (e + 1) st from ⟨k2, hk2, Or.inl ⟨hH2, hPl, hKe⟩⟩)
              have HALL := Aside0.mk (And.intro hi0 (And.intro hie (And.intro het hlt)))
              clear hH2 hKe hCt hPl g1 g2 hfz hfz2 hgl e0 e1 e2 e3 e4 hft htl hlen hi0 hi1 hlt hil hkf hk0 hie het himm hdr hivl hwb hnv hk2 hkw hf0 hbi hbd hbq h23 hn0 hag hga n1 n2 n3 n4
              go_wp2
              obtain ⟨hi0, hie, het, hlt⟩ := HALL.out
              go_roundw
              case rel => exact ⟨e + 1, by omega, by omega, by go_num, HS2, HGo, hK2⟩
              case measure => simp [intOf]; omega
            · obtain ⟨k2, hk2, hH2, hKe, hCt, hPl⟩ := hIn.out
              rw [if_neg hn0] at hPl
              have HI := Aside0.mk (show Calls Try.prog 33 #[.pointer (some ⟨g, 0, none⟩), .slice (some ad) l.length lc, .int .i64 ((iv : Int) + 1), .int .i64 e] wr (DoesTold l E fl rl0 base g gx L0 fuel wr k2 (fR l E fl rl0 k2).2.1 e (iv :: st)) from
                IH.out (e - (iv + 1)) (by have := HN.out; omega) (iv + 1) e k2 (iv :: st) wr rfl (by omega) (by omega) HS1.out HSE.out (fun m h1 h2 => pair_between HPR.out hst.out m (by omega) h2) hH2 hPl (HCW.out _ hK2.out.2))
              have HKE := Aside0.mk hKe
              have HCU := Aside0.mk hCt
              have hb3 : decide ((nv : Int) > 0) = true := decide_eq_true (by omega)
              have hw9 : iv < 20000 := by omega
              have HALL := Aside0.mk (And.intro hft (And.intro htl (And.intro hlen (And.intro hi0 (And.intro hi1 (And.intro hlt (And.intro hil (And.intro hkf (And.intro hk0 (And.intro hie (And.intro het (And.intro himm (And.intro hdr (And.intro hivl (And.intro hwb (And.intro hnv (And.intro hk2 hkw)))))))))))))))))
              clear hH2 hKe hCt hPl g1 g2 hfz hfz2 hgl e0 e1 e2 e3 e4 hft htl hlen hi0 hi1 hlt hil hkf hk0 hie het himm hdr hivl hwb hnv hk2 hkw hf0 hbi hbd hbq h23 hn0
              have hnp : (0 : Int) < nv := by have := decide_eq_true_eq.mp hb3; omega
              clear hb3
              go_wp2_with (first | (go_at_call 33; (with_reducible refine HI.out.mono ?_); rintro x5 w5 ⟨rfl, hk5, hb5, hg5⟩; obtain ⟨k3, V3, t3, L3, hk3, hR3, hq3⟩ := hg5.split; have HR3 := Aside0.mk hR3; have HK5 := Aside0.mk hk5; have HB5 := Aside0.mk hb5; have hce := hR3.rn; rcases hq3 with ⟨hov3, hgo3⟩ | ⟨rfl, hV3, hkf3, h13, h23, h33⟩) | fail)
              · obtain ⟨t4, hgo4⟩ := hgo3
                have HE5 := Aside0.mk (ends_true w5 g _ V3 k3 fuel t3 hR3.rn hov3)
                have HGO := Aside0.mk hgo4
                clear hR3 hov3 hgo4 hk5 hb5 hce
                go_wp2_with (go_at_call 65; (with_reducible refine HE5.out.mono ?_); rintro x6 w6 ⟨rfl, n7, rfl⟩)
                go_end0
                have hA := HALL.out
                exact ⟨rfl, (hK2.out.1.trans HK5.out).trans (KeepQ.drewT (KeepQ.refl _) _), (hK2.out.2.trans HB5.out).trans (below_drewN base w5 n7), Goes.below ⟨k3, by omega, Or.inr ⟨t4, HGO.out⟩⟩ (below_drewN _ w5 n7)⟩
              · have HE5 := Aside0.mk (ends_false w5 g _ V3 k3 fuel 0 hR3.rn ⟨rfl, hkf3⟩)
                obtain ⟨qft, qtl, qlen, qi0, qi1, qlt, qil, qkf, qk0, qie, qet, qimm, qdr, qivl, qwb, qnv, qk2, qkw⟩ := HALL.out
                have hcv : rd V3 (d : Int) = nv := by
                  have h1 := h33 iv List.mem_cons_self
                  rw [HCU.out, ← HXX.out, HD.out] at h1
                  rw [hV3]; exact h1
                have g1 := hR3.rn.gst
                have g2 := hR3.rn.v d hd64
                rw [hcv] at g2
                have hfz := hR3.rn.frozen (1 + d)
                have hfz2 := hR3.rn.frozen 65
                have hgl := hR3.rn.lt
                obtain ⟨ad2, ee2, _, e1, _, _, _⟩ := at_T49 (HCW.out w5 (hK2.out.2.trans HB5.out)) (iv : Int) (by omega) qil
                injection ee2 with ee2
                subst ee2
                simp only [Int.toNat_natCast] at e1
                rw [← HXX.out, HD.out] at e1
                have HRR := Aside0.mk (And.intro h13 (And.intro h23 (And.intro h33 (And.intro hV3 (And.intro hkf3 (And.intro hcv (And.intro hk3 (And.intro qkw (And.intro qnv (And.intro qimm (And.intro qk2 qk0)))))))))))
                have HW8 := Aside0.mk (show (k3 : Int) + 1 < 9223372036854775808 from by have := HB.out; unfold FourOk at this; omega)
                clear hR3 hk5 hb5 hce h13 h23 h33 hV3 hkf3 hcv hk3 qft qtl qlen qi0 qi1 qlt qkf qk0 qie qet qdr qivl qwb qk2 qkw
                go_wp2_with (go_at_call 65; (with_reducible refine HE5.out.mono ?_); rintro x6 w6 ⟨rfl, n7, rfl⟩)
                have hw8 := HW8.out
                go_region
                go_wp2
                go_roundw
                case rel =>
                  obtain ⟨h13, h23, h33, hV3, hkf3, hcv, hk3, qkw, qnv2, qimm2, qk2, qk0⟩ := HRR.out
                  obtain ⟨qft, qtl, qlen, qi0, qi1, qlt, _, qkf, _, qie, qet, _, qdr, qivl, qwb, _, _, _⟩ := HALL.out
                  have hdr2 := (can_range (HGD.out.can iv qivl)).2.1
                  have hcc : rd (fR l E fl rl0 k3).2.1 (rd_T49 l (iv : Int)).f1 = nv := by rw [← hV3, ← HXX.out, HD.out]; exact hcv
                  have hnx := (fR_next l E fl rl0 k3).trans (sStep_end (s := fR l E fl rl0 k3) HPR.out HEE.out h23)
                  rw [hcc] at hnx
                  refine ⟨nv - 1, by omega, by (congr; omega), ⟨k3 + 1, by omega, ?_, ?_, ?_, ?_⟩, ⟨?_, ?_⟩⟩
                  · refine HT.round HGD.out h13 hkf3 h23 HPR.out HEE.out (fun V L hR hV => ?_)
                    rw [show rd V (rd_T49 l (iv : Int)).f1 = nv by rw [hV]; exact hcc, ← HXX.out, HD.out, Int.toNat_natCast, show ((nv : Int) - 1) % 4294967296 = nv - 1 by omega]
                    exact RQ.setSt (RQ.setV (RQ.drewT hR _) d hd64 _) _
                  · rw [hnx]
                    exact (HKE.out.trans (Kept.tail h33)).trans (end_keep HGD.out qivl HH23.out hst.out h13.inv.len _)
                  · rw [hnx]
                    show rd ((fR l E fl rl0 k3).2.1.set _ _) _ = _
                    rw [rd_put h13.inv.len _ _ _ hdr2 hdr2.1, if_pos rfl]
                    omega
                  · rw [hnx]
                    by_cases h1 : nv - 1 = 0
                    · rw [if_pos h1]
                      show (if ((nv : Int) - 1) % 4294967296 = 0 then (e : Int) else (iv : Int)) + 1 = _
                      rw [if_pos (by omega)]
                    · rw [if_neg h1]
                      show (if ((nv : Int) - 1) % 4294967296 = 0 then (e : Int) else (iv : Int)) + 1 = _
                      rw [if_neg (by omega)]
                  · exact (hK2.out.1.trans HK5.out).trans (KeepQ.setT (KeepQ.setT (KeepQ.drewT (KeepQ.refl w5) _) HR3.out.g63 _ _) HR3.out.g63 _ _)
                  · exact (hK2.out.2.trans HB5.out).trans (below_setT (below_setT (below_drewN base w5 _) HR3.out.bg _ _) HR3.out.bg _ _)
                case measure => simp [intOf]; omega
        · have HO := Aside0.mk (fun (n : Nat) => ref_one HGD.out HB.out (wr.drewN n) k iv (h1.below (below_drewN _ wr n)) h2 (by omega) hkf h23 hne)
          have hpl := HT.place (x := z49) h2 hne
          have hkp := sStep_keep HGD.out (F := 4096) (R := 2147483648) (fl := fl) (good_on HGD.out h1.inv (by omega)) h2 hst.out hne
          have HKP := Aside0.mk (show Kept l st V0 (fR l E fl rl0 (k + 1)).2.1 from h3.trans hkp)
          have HPL := Aside0.mk hpl
          have HS1 := Aside0.mk (stk_else hst.out h23 hne)
          obtain ⟨xx, hxx⟩ : ∃ xx, xx = rd_T49 l (iv : Int) := ⟨_, rfl⟩
          rw [← hxx] at e0 e1 e2 e3 e4 HO h23
          have hbq : (xx.f0 != 23) = true := by simpa using h23
          clear hxx hpl hkp h1 h2 h3 hne hR
          go_wp2_with (first | (go_at_call 65; (with_reducible refine HE.out.mono ?_); rintro e w5 ⟨rfl, n5, rfl⟩) | (go_at_call 66; (with_reducible refine (HO.out n5).mono ?_); rintro e w6 ⟨rfl, hk6, hb6, h6⟩; have HK6 := Aside0.mk hk6; have HB6 := Aside0.mk hb6; have H6 := Aside0.mk h6; clear hk6 hb6 h6))
          go_roundw
          case rel =>
            refine ⟨iv + 1, by omega, by omega, by go_num, HS1, ⟨?_⟩, ⟨?_⟩⟩
            · rcases H6.out with h | ⟨t, _, h, ho⟩
              · exact ⟨k + 1, by omega, Or.inl ⟨h, HPL.out, HKP.out⟩⟩
              · exact ⟨k, hk0, Or.inr ⟨t, h, ho⟩⟩
            · exact ⟨hK.out.1.trans ((KeepQ.drewT (KeepQ.refl wr) n5).trans HK6.out), hK.out.2.trans ((below_drewN base wr n5).trans HB6.out)⟩
          case measure => simp [intOf]; omega
    · obtain rfl : iv = til := by omega
      have hbd : decide ((iv : Int) < (iv : Int)) = false := by simp
      go_wp2
      go_end0
      exact ⟨rfl, hK.out.1, hK.out.2, hG.out⟩

end Go.Proofs.Ytpeljnnbknnbmaa.PD
end
end
section
section
namespace Go.Proofs.Ytpeljnnbknnbmaa.PD
open Go.RowKit Go.Proofs.YtpeljnnbknnbmaaW.PrintWords Go.Proofs.YtpeljnnbknnbmaaW.PrintLast Go.Proofs.YtpeljnnbknnbmaaW.PrintMore
set_option linter.unusedVariables false
set_option linter.unusedSimpArgs false
set_option maxRecDepth 100000 in
set_option maxHeartbeats 16000000 in
/-- the program's runner, with any fuel -/
theorem run_memI (w : World) (la : Addr) (lc : Nat) (l : List S49) (hC : Kd.C k49 w (some la) l.length l) (hlc : l.length ≤ lc) (kc : Nat) (hchk : lir_Check.f kc l = some 0) (E : List Int) (eb : Bool) (hends : lir_Ends.f kc l = some (E, eb)) (hEl : E.length = l.length) (hl0 : 0 < l.length)
    (base gm bf br : Nat) (F R : Int) (fl rl0 : List Int) (hm : MemAt w base gm bf br F R fl rl0) (hF : MemFit F R fl.length rl0.length) (hbf : Bytes fl) (hlabr : la.block ≠ br)
    (N : Nat) (fuel : Int) (hfuel : fuel < 9223372036854775807) (hfuel0 : -9223372036854775808 ≤ fuel) (hlm : (l.length : Int) < 9223372036854775807) (hN : (N : Int) ≤ fuel ∨ N = 0) (t : Int)
    (hon : ∀ k, k < N → SOn l E rl0.length (sRun l E F R fl rl0 k) ∧ sTr l F R fl (sRun l E F R fl rl0 k) = 0) (h0 : 0 ≤ (sRun l E F R fl rl0 N).1)
    (hend : (¬ ((sRun l E F R fl rl0 N).1 < l.length ∧ (N : Int) < fuel) ∧ t = 0) ∨ ((N : Int) < fuel ∧ SOn l E rl0.length (sRun l E F R fl rl0 N) ∧ sTr l F R fl (sRun l E F R fl rl0 N) = t ∧ t ≠ 0)) :
    Calls Try.prog 30 #[.slice (some la) l.length lc, .pointer (some ⟨gm, 0, none⟩), .int .i64 fuel] w fun e w' => ∃ g ev, w.heap.size ≤ g ∧ e = .returned (.tuple #[.slice (some ⟨g, 4, none⟩) 64 64, .int .i64 N, .int .i64 t, .int .i64 0]) ∧ RM w' base g (.slice (some la) l.length lc) ev (sRun l E F R fl rl0 N).1 (sRun l E F R fl rl0 N).2.1 gm bf br F R fl (sRun l E F R fl rl0 N).2.2 ∧ Keep (· = br) w w' := by
  have HC := Aside0.mk hC
  have HCH := Aside0.mk hchk
  have HEN := Aside0.mk hends
  have HON := Aside0.mk hon
  have HEND := Aside0.mk hend
  have HMM := Aside0.mk hm
  have HFF := Aside0.mk hF
  have HBF := Aside0.mk hbf
  have HNE := Aside0.mk hlabr
  clear hC hchk hends hon hend hm hF hbf hlabr
  go_enter Try.func30, Try.ntmps30
  go_wp2_with (first | (go_at_call 50; (with_reducible refine (lir_Check.calls kc _ _ l 0 _ HC.out hlc HCH.out).mono ?_); rintro e w1 ⟨rfl, hb1⟩; have HB1 := Aside0.mk hb1; clear hb1) | (go_at_call 58; (with_reducible refine (lir_Ends.calls kc _ _ l E eb _ (Kd.C_below HC.out HB1.out) hlc HEN.out).mono ?_); rintro e w2 ⟨v0, rfl, hv, hb2⟩; obtain ⟨A0, c0, hA0, hc0, hC2⟩ := Kd.R_reads hv; obtain ⟨inn, hinn⟩ := Kd.R_own hv; have HOB := Aside0.mk (fun k hk => own_base hinn k hk); subst hA0; have HB2 := Aside0.mk hb2; have HC2 := Aside0.mk hC2; clear hb2 hv hC2 hinn) | (refine wpList_built rfl 102 _ rfl #[(0, .slice (some la) l.length lc), (1, .slice A0 E.length c0), (2, .pointer (some ⟨gm, 0, none⟩))] rfl _ (run_build102 _ _ _ _ _ _ _ _) ?_))
  obtain ⟨ea, _, hea, _, _, _⟩ := Kd.C_get HC2.out (0 : Int) 0 (by omega) (by omega)
  subst hea
  have hlw1 : w.heap.size ≤ w1.heap.size := HB1.out.size
  have hlw : w.heap.size ≤ w2.heap.size := (HB1.out.trans (HB2.out.mono HB1.out.size)).size
  have hmlt := HMM.out.lt
  have hmlg := HMM.out.lg
  have HEAB := Aside0.mk (show ea.block ≠ br from by have := HOB.out ea.block rfl; omega)
  have hbb : Below w.heap.size w w2 := HB1.out.trans (HB2.out.mono HB1.out.size)
  have hm2 := HMM.out.below hbb
  have hR0 : RM (w2.alloc (.cells (rnC0 (.slice (some la) l.length lc) (.slice (some ea) l.length c0) (.pointer (some ⟨gm, 0, none⟩))) 102)) base w2.heap.size (.slice (some la) l.length lc) (.slice (some ea) l.length c0) 0 (List.replicate 64 0) gm bf br F R fl rl0 :=
    ⟨⟨_, heap_alloc_new w2 _, rnC0_ok _ _ _⟩, hm2.below (below_alloc (Below.refl _ _) _), by omega, by omega, by omega, by omega⟩
  have HR0 := Aside0.mk hR0
  have HLA := Aside0.mk (show la.block ≠ w2.heap.size from by have := Kd.C_lt HC.out hl0 (by show 0 < 5; omega); omega)
  have HCW := Aside0.mk (fun (W : World) (hW : Keep (· = br) w2 W) => C_keep49 (Kd.C_below HC.out hbb) hW HNE.out)
  have HEW := Aside0.mk (fun (W : World) (hW : Keep (· = br) w2 W) => C_keepi HC2.out hW HEAB.out)
  have HALW := Aside0.mk (Keep.of_below (S := (· = br)) hbb)
  clear hR0 hbb hm2 hmlt hmlg hlw1
  go_loopw [14] (fun i wr => ∃ k : Nat, k ≤ N ∧ i = .int .i64 k ∧ Aside0 (RM wr base w2.heap.size (.slice (some la) l.length lc) (.slice (some ea) l.length c0) (sRun l E F R fl rl0 k).1 (sRun l E F R fl rl0 k).2.1 gm bf br F R fl (sRun l E F R fl rl0 k).2.2) ∧ Aside0 (Keep (· = br) w2 wr)) (fun i _ => N - (intOf i).toNat)
  case atStart => exact ⟨0, by omega, rfl, HR0, ⟨(Keep.refl _ _).alloc _⟩⟩
  case round =>
    obtain ⟨k, hk, rfl, hR, hB⟩ := hrel
    by_cases h1 : k < N
    · obtain ⟨hon, htr⟩ := HON.out k h1
      have g3 := hR.out.rn.ga
      have hlt := hR.out.rn.lt
      have hfz := hR.out.rn.frozen 3
      obtain ⟨s, hs⟩ : ∃ s, s = sRun l E F R fl rl0 k := ⟨_, rfl⟩
      have hnx : sRun l E F R fl rl0 (k + 1) = sStep l E F R fl s := by rw [hs]; rfl
      rw [← hs] at hon htr g3 hR
      have ha0 := hon.at0
      have ha1 := hon.at1
      obtain ⟨ad, ee, e0, e1, e2, e3, e4⟩ := at_T49 (HCW.out _ hB.out) s.1 ha0 ha1
      injection ee with ee
      subst ee
      obtain ⟨at_, hat⟩ : ∃ at_ : Nat, s.1 = at_ := ⟨s.1.toNat, by omega⟩
      have hai : (at_ : Int) < l.length := by omega
      have hkf : (k : Int) < fuel := by omega
      have hb1 : decide ((at_ : Int) < (l.length : Int)) = true := decide_eq_true hai
      have hb2 : decide ((k : Int) < fuel) = true := decide_eq_true hkf
      obtain ⟨xx, hxx⟩ : ∃ xx, xx = rd_T49 l s.1 := ⟨_, rfl⟩
      have HAT := Aside0.mk hat
      have HLM := Aside0.mk hlm
      have HLW := Aside0.mk hlw
      by_cases hmem : isMem xx
      · have hst : sStep l E F R fl s = (s.1 + 1, mV F R fl xx s.2.1 s.2.2, mL R xx s.2.1 s.2.2) := by unfold sStep; rw [← hxx, if_pos hmem]
        have htr' : mTrap F R fl xx s.2.1 s.2.2 = 0 := by have := htr; unfold sTr at this; rw [← hxx, if_pos hmem] at this; exact this
        have HO := Aside0.mk (fun (W : World) (hr : RM W base w2.heap.size (.slice (some la) l.length lc) (.slice (some ea) l.length c0) s.1 s.2.1 gm bf br F R fl s.2.2) => mem_some W base w2.heap.size _ _ s.1 s.2.1 gm bf br F R fl s.2.2 hr (by rw [hon.rlen]; exact HFF.out) HBF.out hon.br hon.u hon.len xx (hxx ▸ hon.ok.1 (hxx ▸ hmem)))
        rw [htr'] at HO
        rw [← hxx] at e0 e1 e2 e3 e4
        rw [hat] at e0 e1 e2 e3 e4 g3
        simp only [Int.toNat_natCast] at e0 e1 e2 e3 e4
        have h17 : 17 ≤ xx.f0 := hmem.1
        have h22 : xx.f0 ≤ 22 := hmem.2
        have HNX := Aside0.mk (hnx.trans hst)
        clear hxx hon htr ha0 ha1 hat hnx hs hst htr' hmem hEl hlw h0 hl0 hN hlc hlm hb1 hb2
        go_wp2_with (go_at_call 59; go_loud ((with_reducible refine (HO.out _ ?h1).mono ?_); (case h1 => exact RM.below hR.out (below_alloc (Below.refl _ _) _)); rintro e w5 ⟨rfl, hr5, hk5⟩; rw [HAT.out] at hr5; have g5 := hr5.rn.ga; have f5 := hr5.rn.frozen 3; have hw5 : (at_ : Int) + 1 < 9223372036854775808 := (by have := HLM.out; omega); have hw6 : (k : Int) + 1 < 9223372036854775808 := (by omega); have HR5 := Aside0.mk hr5; have HK5 := Aside0.mk hk5; clear hr5 hk5))
        go_roundw
        case rel =>
          refine ⟨k + 1, by omega, by go_num, ⟨?_⟩, ⟨?_⟩⟩
          · rw [HNX.out, HAT.out]
            exact RM.setA HR5.out _
          · exact (Keep.shrink (hB.out.alloc _) HK5.out (Nat.le_refl _)).setNew _ (Nat.le_refl _) _
        case measure => simp [intOf]; omega
      · have hst : sStep l E F R fl s = ((pStep l E (s.1, s.2.1)).1, (pStep l E (s.1, s.2.1)).2, s.2.2) := by unfold sStep; rw [← hxx, if_neg hmem]
        have hpon := hon.ok.2 (hxx ▸ hmem)
        have hps := pStep_at hpon
        have HO := Aside0.mk (fun (W : World) (hW : Keep (· = br) w2 W) (hr : RM W base w2.heap.size (.slice (some la) l.length lc) (.slice (some ea) E.length c0) s.1 s.2.1 gm bf br F R fl s.2.2) => plain_rm W base w2.heap.size la ea lc c0 l E (s.1, s.2.1) gm bf br F R fl s.2.2 hpon hEl (HCW.out W hW) (HEW.out W hW) hr HLA.out)
        simp only [← hxx] at HO
        obtain ⟨p5, hp5⟩ : ∃ p5, p5 = pStep l E (s.1, s.2.1) := ⟨_, rfl⟩
        rw [← hp5] at hst hps
        simp only [← hp5] at HO
        have hno : ¬ (17 ≤ xx.f0 ∧ xx.f0 ≤ 22) := hmem
        rw [← hxx] at e0 e1 e2 e3 e4
        rw [hat] at e0 e1 e2 e3 e4 g3
        simp only [Int.toNat_natCast] at e0 e1 e2 e3 e4
        have HNX := Aside0.mk (hnx.trans hst)
        have HST := Aside0.mk hps
        have HEL := Aside0.mk hEl
        clear hxx hon htr ha0 ha1 hat hnx hs hst hmem hpon hps hp5 hEl hlw h0 hl0 hN hlc hlm hb1 hb2
        by_cases h17 : 17 ≤ xx.f0
        all_goals try have h22 : ¬ (xx.f0 ≤ 22) := fun h => hno ⟨h17, h⟩
        all_goals clear hno
        all_goals
          go_wp2_with (go_at_call 60; go_loud ((with_reducible refine (HO.out _ ?h1 ?h2).mono ?_); (case h1 => exact hB.out.alloc _); (case h2 => rw [HEL.out]; exact RM.below hR.out (below_alloc (Below.refl _ _) _)); rintro e w5 ⟨rfl, hr5, hk5⟩; have hz5 := HST.out; obtain ⟨a5, ha5⟩ : ∃ a5 : Nat, p5.1 - 1 = a5 := ⟨(p5.1 - 1).toNat, by omega⟩; rw [ha5] at hr5; have g5 := hr5.rn.ga; have f5 := hr5.rn.frozen 3; have hw5 : (a5 : Int) + 1 < 9223372036854775808 := (by have := HLM.out; omega); have hw6 : (k : Int) + 1 < 9223372036854775808 := (by omega); have HA5 := Aside0.mk ha5; have HR5 := Aside0.mk hr5; have HK5 := Aside0.mk hk5; clear hr5 hk5 hz5 ha5))
          go_roundw
          case rel =>
            refine ⟨k + 1, by omega, by go_num, ⟨?_⟩, ⟨?_⟩⟩
            · rw [HNX.out]
              simp only
              rw [show p5.1 = (a5 : Int) + 1 from by have := HA5.out; omega]
              have hq := RM.setA HR5.out ((a5 : Int) + 1)
              rw [HEL.out] at hq
              exact hq
            · exact (Keep.shrink (hB.out.alloc _) HK5.out (Nat.le_refl _)).setNew _ (Nat.le_refl _) _
          case measure => simp [intOf]; omega
    · obtain rfl : k = N := by omega
      have g3 := hR.out.rn.ga
      have hlt := hR.out.rn.lt
      have hfz := hR.out.rn.frozen 3
      obtain ⟨s, hs⟩ : ∃ s, s = sRun l E F R fl rl0 k := ⟨_, rfl⟩
      have hend := HEND.out
      rw [← hs] at hend g3 hR h0
      have HS := Aside0.mk hs
      have HLW := Aside0.mk hlw
      rcases hend with ⟨hend, rfl⟩ | ⟨hkfu, hon, htr, ht0⟩
      · obtain ⟨at_, hat⟩ : ∃ at_ : Nat, s.1 = at_ := ⟨s.1.toNat, by omega⟩
        rw [hat] at hend g3
        have HAT := Aside0.mk hat
        clear hs hat hEl hlw h0 hl0 hlc hlm HON HEND hN h1
        by_cases hA : (at_ : Int) < l.length
        all_goals try have hB2 : ¬ ((k : Int) < fuel) := (fun h => hend ⟨hA, (by omega)⟩)
        all_goals clear hend
        all_goals
          go_wp2
          rw [← HS.out]
          (try simp only [Exit.inBlock, Exit.then])
          refine bodyPost_ret (results_tmp4 rfl _ _ _) rfl ?_
          first | exact ⟨w2.heap.size, HLW.out, rfl, ⟨_, hR.out⟩, Keep.trans HALW.out hB.out⟩ | exact ⟨w2.heap.size, _, HLW.out, rfl, hR.out, Keep.trans HALW.out hB.out⟩
      · have ha0 := hon.at0
        have ha1 := hon.at1
        obtain ⟨ad, ee, e0, e1, e2, e3, e4⟩ := at_T49 (HCW.out _ hB.out) s.1 ha0 ha1
        injection ee with ee
        subst ee
        obtain ⟨at_, hat⟩ : ∃ at_ : Nat, s.1 = at_ := ⟨s.1.toNat, by omega⟩
        have hai : (at_ : Int) < l.length := by omega
        have hkf : (k : Int) < fuel := by omega
        obtain ⟨xx, hxx⟩ : ∃ xx, xx = rd_T49 l s.1 := ⟨_, rfl⟩
        have HAT := Aside0.mk hat
        have hmem : isMem xx := by
          apply Classical.byContradiction
          intro hno
          unfold sTr at htr
          rw [← hxx, if_neg hno] at htr
          exact ht0 htr.symm
        have htr' : mTrap F R fl xx s.2.1 s.2.2 = t := by have := htr; unfold sTr at this; rw [← hxx, if_pos hmem] at this; exact this
        have hsty := mTrap_stays (F := F) (R := R) (fl := fl) (x := xx) (V := s.2.1) (rl := s.2.2) (by rw [htr']; exact ht0)
        have HO := Aside0.mk (fun (W : World) (hr : RM W base w2.heap.size (.slice (some la) l.length lc) (.slice (some ea) l.length c0) s.1 s.2.1 gm bf br F R fl s.2.2) => mem_some W base w2.heap.size _ _ s.1 s.2.1 gm bf br F R fl s.2.2 hr (by rw [hon.rlen]; exact HFF.out) HBF.out hon.br hon.u hon.len xx (hxx ▸ hon.ok.1 (hxx ▸ hmem)))
        rw [htr', hsty.1, hsty.2] at HO
        rw [← hxx] at e0 e1 e2 e3 e4
        rw [hat] at e0 e1 e2 e3 e4 g3
        simp only [Int.toNat_natCast] at e0 e1 e2 e3 e4
        have h17 : 17 ≤ xx.f0 := hmem.1
        have h22 : xx.f0 ≤ 22 := hmem.2
        have htb : (t != 0) = true := by simpa using ht0
        have htc : (t == 0) = false := by simpa using ht0
        clear hxx hon htr ha0 ha1 hat hs hmem hsty htr' ht0 hEl hlw h0 hl0 hlc hlm HON HEND hN h1
        go_wp2_with (go_at_call 59; go_loud ((with_reducible refine (HO.out _ ?h1).mono ?_); (case h1 => exact RM.below hR.out (below_alloc (Below.refl _ _) _)); rintro e w5 ⟨rfl, hr5, hk5⟩; have HR5 := Aside0.mk hr5; have HK5 := Aside0.mk hk5; clear hr5 hk5))
        rw [← HS.out]
        (try simp only [Exit.inBlock, Exit.then])
        refine bodyPost_ret (results_tmp4 rfl _ _ _) rfl ?_
        first | exact ⟨w2.heap.size, HLW.out, rfl, ⟨_, HR5.out⟩, Keep.trans HALW.out (Keep.shrink (hB.out.alloc _) HK5.out (Nat.le_refl _))⟩ | exact ⟨w2.heap.size, _, HLW.out, rfl, HR5.out, Keep.trans HALW.out (Keep.shrink (hB.out.alloc _) HK5.out (Nat.le_refl _))⟩


end Go.Proofs.Ytpeljnnbknnbmaa.PD
end
section
section
namespace Go.Proofs.Ytpeljnnbknnbmaa.PD
open Go.RowKit Go.Proofs.YtpeljnnbknnbmaaW.PrintWords Go.Proofs.YtpeljnnbknnbmaaW.PrintLast Go.Proofs.YtpeljnnbknnbmaaW.PrintMore
set_option linter.unusedVariables false
set_option linter.unusedSimpArgs false
set_option maxRecDepth 100000 in
set_option maxHeartbeats 8000000 in
/-- an empty program, with any fuel -/
theorem run_emptyI (w : World) (A : Option Addr) (lc : Nat) (l : List S49) (hC : Kd.C k49 w A l.length l) (hlc : l.length ≤ lc) (hl : l = []) (gm : Nat) (fuel : Int) :
    Calls Try.prog 30 #[.slice A l.length lc, .pointer (some ⟨gm, 0, none⟩), .int .i64 fuel] w fun e w' => ∃ g lv ev mv at_, w.heap.size ≤ g ∧ e = .returned (.tuple #[.slice (some ⟨g, 4, none⟩) 64 64, .int .i64 (0 : Nat), .int .i64 0, .int .i64 0]) ∧ RnAt w' g lv ev mv at_ (List.replicate 64 0) ∧ Below w.heap.size w w' := by
  have HC := Aside0.mk hC
  have HCH := Aside0.mk (show lir_Check.f 100 l = some 0 by rw [hl]; kernel_rfl)
  obtain ⟨E, hE⟩ : ∃ E, lir_Ends.f 100 l = some (E, true) := ⟨[], by rw [hl]; kernel_rfl⟩
  have HEN := Aside0.mk hE
  have hno : ¬ ((0 : Int) < (l.length : Int)) := by rw [hl]; decide
  have hnd : decide ((0 : Int) < (l.length : Int)) = false := decide_eq_false hno
  clear hC hE hl
  go_enter Try.func30, Try.ntmps30
  go_wp2_with (first | (go_at_call 50; (with_reducible refine (lir_Check.calls 100 _ _ l 0 _ HC.out hlc HCH.out).mono ?_); rintro e w1 ⟨rfl, hb1⟩; have HB1 := Aside0.mk hb1; clear hb1) | (go_at_call 58; (with_reducible refine (lir_Ends.calls 100 _ _ l E true _ (Kd.C_below HC.out HB1.out) hlc HEN.out).mono ?_); rintro e w2 ⟨v0, rfl, hv, hb2⟩; obtain ⟨A0, c0, hA0, hc0, hC2⟩ := Kd.R_reads hv; subst hA0; have HB2 := Aside0.mk hb2; clear hb2 hv hC2) | (refine wpList_built rfl 102 _ rfl #[(0, .slice A l.length lc), (1, .slice A0 E.length c0), (2, .pointer (some ⟨gm, 0, none⟩))] rfl _ (run_build102 _ _ _ _ _ _ _ _) ?_))
  have hlw : w.heap.size ≤ w2.heap.size := (HB1.out.trans (HB2.out.mono HB1.out.size)).size
  have hbb : Below w.heap.size w w2 := HB1.out.trans (HB2.out.mono HB1.out.size)
  have hR0 : RnAt (w2.alloc (.cells (rnC0 (.slice A l.length lc) (.slice A0 E.length c0) (.pointer (some ⟨gm, 0, none⟩))) 102)) w2.heap.size (.slice A l.length lc) (.slice A0 E.length c0) (.pointer (some ⟨gm, 0, none⟩)) 0 (List.replicate 64 0) := ⟨_, heap_alloc_new w2 _, rnC0_ok _ _ _⟩
  have g3 := hR0.ga
  have hlt := hR0.lt
  have hfz := hR0.frozen 3
  have HR0 := Aside0.mk hR0
  have HLW := Aside0.mk hlw
  have HBB := Aside0.mk (below_alloc hbb (.cells (rnC0 (.slice A l.length lc) (.slice A0 E.length c0) (.pointer (some ⟨gm, 0, none⟩))) 102))
  obtain ⟨W, hW⟩ : ∃ W, W = w2.alloc (.cells (rnC0 (.slice A l.length lc) (.slice A0 E.length c0) (.pointer (some ⟨gm, 0, none⟩))) 102) := ⟨_, rfl⟩
  rw [← hW] at g3 hlt hfz HBB HR0 ⊢
  clear hR0 hbb hlw hW
  go_loopw [14] (fun i wr => i = .int .i64 0 ∧ wr = W) (fun _ _ => 0)
  case atStart => exact ⟨rfl, rfl⟩
  case round =>
    obtain ⟨rfl, rfl⟩ := hrel
    go_wp2
    (try simp only [Exit.inBlock, Exit.then])
    refine bodyPost_ret (results_tmp4 rfl _ _ _) rfl ?_
    exact ⟨_, _, _, _, _, HLW.out, rfl, HR0.out, HBB.out⟩

/-- what the program's runner tells: variables, steps, trap; the memory behind it -/
def RunTold (w : World) (base gm bf br : Nat) (fl rl V : List Int) (N : Nat) (t : Int) (e : Ending) (w' : World) : Prop :=
  ∃ g lv ev mv at_, w.heap.size ≤ g ∧ e = .returned (.tuple #[.slice (some ⟨g, 4, none⟩) 64 64, .int .i64 N, .int .i64 t, .int .i64 0]) ∧ RnAt w' g lv ev mv at_ V ∧ MemAt w' base gm bf br 4096 2147483648 fl rl ∧ Keep (· = br) w w'
def RunsSo (l : List S49) (fl rl rl' V : List Int) (fuel : Int) (N : Nat) (t : Int) : Prop :=
  ∀ (w : World) (A : Option Addr) (lc base gm bf br : Nat), Kd.C k49 w A l.length l → l.length ≤ lc → MemAt w base gm bf br 4096 2147483648 fl rl → (0 < l.length → ∀ a, A = some a → a.block ≠ br) →
    Calls Try.prog 30 #[.slice A l.length lc, .pointer (some ⟨gm, 0, none⟩), .int .i64 fuel] w (RunTold w base gm bf br fl rl' V N t)
theorem runs_so {l : List S49} {E : List Int} (g : Good l E) (hchk : lir_Check.f (3 * l.length + 100) l = some 0) (hends : lir_Ends.f (3 * l.length + 100) l = some (E, true)) {fl rl : List Int} (hF : MemFit 4096 2147483648 fl.length rl.length) (hf : Bytes fl) {fuel : Int} (hfu : fuel < 9223372036854775807) (hfu0 : -9223372036854775808 ≤ fuel) {N : Nat} {t : Int} (hs : Stops l E 4096 2147483648 fl rl fuel.toNat N t) :
    RunsSo l fl rl (fR l E fl rl N).2.2 (fR l E fl rl N).2.1 fuel N t := by
  obtain ⟨a1, a2, a3, a4⟩ := hs
  intro w A lc base gm bf br hC hlc hm hA
  by_cases hl0 : 0 < l.length
  · obtain ⟨la, _, hla, _, _, _⟩ := Kd.C_get hC (z := z49) (0 : Int) (by decide) (by omega)
    subst hla
    refine (run_memI w la lc l hC hlc _ hchk E true hends g.out.len hl0 base gm bf br 4096 2147483648 fl rl hm hF hf (hA hl0 la rfl) N fuel hfu hfu0 (by have := g.len; omega) (by omega) t a2 a3.at0 ?_).mono ?_
    · rcases a4 with ⟨h1, h2⟩ | ⟨h1, h2⟩
      · exact Or.inl ⟨fun h => h1 ⟨h.1, by omega⟩, h2⟩
      · exact Or.inr ⟨by omega, h2⟩
    · rintro e w' ⟨g', ev, hg, rfl, hr, hk⟩
      exact ⟨g', _, _, _, _, hg, rfl, hr.rn, hr.mm, hk⟩
  · have hl : l = [] := List.eq_nil_of_length_eq_zero (by omega)
    have hN : N = 0 := by
      rcases Nat.eq_zero_or_pos N with h | h
      · exact h
      · have := (a2 0 h).1.at1; have h0 := (a2 0 h).1.at0; omega
    have ht : t = 0 := by
      rcases a4 with ⟨_, h2⟩ | ⟨_, h2, _⟩
      · exact h2
      · have := h2.at1; have h0 := h2.at0; omega
    subst hN
    subst ht
    refine (run_emptyI w A lc l hC hlc hl gm fuel).mono ?_
    rintro e w' ⟨g', lv, ev, mv, at_, hg, rfl, hr, hb⟩
    exact ⟨g', lv, ev, mv, at_, hg, rfl, hr, hm.below hb, Keep.of_below hb⟩
/-- a program stops at one place -/
theorem stops_one {l : List S49} {E : List Int} {F R : Int} {fl rl : List Int} {fuel N M : Nat} {t u : Int} (h1 : Stops l E F R fl rl fuel N t) (h2 : Stops l E F R fl rl fuel M u) : N = M ∧ t = u := by
  obtain ⟨a1, a2, a3, a4⟩ := h1
  obtain ⟨b1, b2, b3, b4⟩ := h2
  rcases Nat.lt_trichotomy N M with h | rfl | h
  · exfalso
    have := b2 N h
    rcases a4 with ⟨e, _⟩ | ⟨_, _, e1, e2⟩
    · exact e ⟨this.1.at1, by omega⟩
    · exact e2 (by rw [← e1]; exact this.2)
  · refine ⟨rfl, ?_⟩
    rcases a4 with ⟨e, e0⟩ | ⟨d1, d2, e1, e2⟩ <;> rcases b4 with ⟨f, f0⟩ | ⟨c1, c2, f1, f2⟩
    · rw [e0, f0]
    · exact absurd ⟨c2.at1, c1⟩ e
    · exact absurd ⟨d2.at1, d1⟩ f
    · rw [← e1, ← f1]
  · exfalso
    have := a2 M h
    rcases b4 with ⟨e, _⟩ | ⟨_, _, e1, e2⟩
    · exact e ⟨this.1.at1, by omega⟩
    · exact e2 (by rw [← e1]; exact this.2)
/-- the document's Does over a whole program -/
theorem does_all {l : List S49} {E fl rl : List Int} (gd : Good l E) (base g gx : Nat) (fuel : Int) (L : List S138) (hB : FourOk L.length fuel) (hf0 : -9223372036854775808 ≤ fuel) (hD : Data fl rl L) (A : Option Addr) (lc : Nat) (hlc : l.length ≤ lc) (hA : 0 < l.length → ∀ a, A = some a → a.block < base)
    (w : World) (hR : RQ w base g gx (List.replicate 64 0) 0 fuel 0 L) (hC : Kd.C k49 w A l.length l) {N : Nat} {t : Int} (hs : Stops l E 4096 2147483648 fl rl fuel.toNat N t) :
    Calls Try.prog 33 #[.pointer (some ⟨g, 0, none⟩), .slice A l.length lc, .int .i64 (0 : Nat), .int .i64 l.length] w fun e w' => e = .returned (.tuple #[]) ∧ KeepQ w w' ∧ Below base w w' ∧ ∃ L2, RQ w' base g gx (fR l E fl rl N).2.1 N fuel t L2 ∧ Data fl (fR l E fl rl N).2.2 L2 ∧ L2.length ≤ L.length + 4 * N + 4 := by
  have h0 : HT l E fl rl base g gx L.length fuel 0 w 0 0 := ⟨⟨L, hR, hD, by omega⟩, fun j hj => absurd hj (by omega), sRun_inv0 hD.br, Or.inr rfl⟩
  refine (does_seg l E fl rl base g gx L.length fuel gd hB hf0 A lc hlc hA l.length 0 l.length 0 [] w (by omega) (by omega) (Nat.le_refl _) rfl gd.fin (fun m _ hm => ?_) h0 rfl hC).mono ?_
  · obtain ⟨q, hq⟩ := stk_before gd.fin hm
    exact ⟨q, by rw [List.append_nil]; exact hq⟩
  · rintro e w' ⟨rfl, hk, hb, k, _, hg⟩
    refine ⟨rfl, hk, hb, ?_⟩
    rcases hg with ⟨h1, h2, _⟩ | ⟨u, h1, h2⟩
    · have hst : Stops l E 4096 2147483648 fl rl fuel.toNat k 0 := ⟨by rcases h1.le with h | h <;> omega, h1.on, h1.inv, Or.inl ⟨fun h => by have := h.1; have h3 : (sRun l E 4096 2147483648 fl rl k).1 = l.length := h2; omega, rfl⟩⟩
      obtain ⟨rfl, rfl⟩ := stops_one hs hst
      obtain ⟨L2, a, b, c⟩ := h1.ex
      exact ⟨L2, a, b, by omega⟩
    · have hst : Stops l E 4096 2147483648 fl rl fuel.toNat k u := by
        refine ⟨by rcases h1.le with h | h <;> omega, h1.on, h1.inv, ?_⟩
        rcases h2 with ⟨h3, rfl⟩ | ⟨h3, h4, h5, h6⟩
        · exact Or.inl ⟨fun h => by have := h.2; omega, rfl⟩
        · exact Or.inr ⟨by omega, h4, h5, h6⟩
      obtain ⟨rfl, rfl⟩ := stops_one hs hst
      obtain ⟨L2, a, b, c⟩ := h1.ex
      exact ⟨L2, a, b, by omega⟩

end Go.Proofs.Ytpeljnnbknnbmaa.PD
end
section
namespace Go.Proofs.Ytpeljnnbknnbmaa.PD
open Go.RowKit Go.Proofs.YtpeljnnbknnbmaaW.PrintWords Go.Proofs.YtpeljnnbknnbmaaW.PrintLast Go.Proofs.YtpeljnnbknnbmaaW.PrintMore
set_option linter.unusedVariables false
set_option linter.unusedSimpArgs false
section
variable {P : Program}
/-- part of a block is loaded whole -/
theorem run_load_part (w : World) (g off : Nat) (t ty : TypeId) (C : Array Value) (xs : List Value) (fr : Nat × Nat) (d : TypeDesc) (hg : w.heap[g]? = some (.cells C t fr)) (hx : ∀ j v, xs[j]? = some v → C[off + j]? = some v)
    (hu : P.underlying ty = some d) (hd : (match d with | .struct _ | .array _ _ => true | _ => false) = true) (hi : (P.info? ty).map (·.size) = some xs.length) :
    (loadVar ty ⟨g, off, none⟩).run P w = .ok (.agg xs.toArray) w := by
  have hl : (loadCells ⟨g, off, none⟩ xs.length).run P w = .ok xs.toArray w :=
    run_loadCells_list (P := P) w ⟨g, off, none⟩ xs (fun j v hv => by
      have hadd : (⟨g, off, none⟩ : Addr).add j = ⟨g, off + j, none⟩ := by unfold Addr.add; split <;> simp_all
      rw [hadd, cell_of_row w g (off + j) C t fr hg]
      exact hx j v hv)
  cases hq : P.info? ty with
  | none => simp [hq] at hi
  | some i =>
    have hs : i.size = xs.length := by simpa [hq] using hi
    have hagg : (isAgg ty).run P w = .ok true w := by
      unfold isAgg
      rw [Sem.run_bind, run_underlying hu w]
      cases d <;> simp_all
    simp [loadVar, Sem.run_bind, hagg, sizeOf, typeInfo, hq, hs, hl]
theorem wpList_load_part {ops : Array Oper} {rest : List Oper} {o : Oper} {a : Act} {w : World} {Q : Exit → Act → World → Prop} (hgd : o.guard = none) (ty : TypeId) (x : Operand) (ho : o.op = .load ty x)
    (g off : Nat) (hx : a.eval x = .pointer (some ⟨g, off, none⟩)) (t : TypeId) (C : Array Value) (xs : List Value) (fr : Nat × Nat) (d : TypeDesc) (hg : w.heap[g]? = some (.cells C t fr)) (hc : ∀ j v, xs[j]? = some v → C[off + j]? = some v)
    (hu : P.underlying ty = some d) (hd : (match d with | .struct _ | .array _ _ => true | _ => false) = true) (hi : (P.info? ty).map (·.size) = some xs.length)
    (h : wpList P ops Q rest (a.put o.dst (.agg xs.toArray)) w) : wpList P ops Q (o :: rest) a w :=
  wpList_plain hgd fun _ hK => by
    unfold Oper.wp execOp
    simp only [ho, hx, Instr.loadAt, Instr.sureAddr, Sem.run_bind, Sem.run_pure, Result.andThen_ok, run_load_part w g off t ty C xs fr d hg hc hu hd hi]
    exact hK _ _ h
end
/-- an array of words as a value -/
def arrU (V : List Int) : Array Value := (V.map (Value.int .u32)).toArray
theorem arrU_at (V : List Int) (j : Nat) (h : j < V.length) : (arrU V)[j]? = some (.int .u32 (rd V j)) := by
  simp [arrU, rd, List.getD_eq_getElem?_getD, List.getElem?_eq_getElem h]
theorem zero63_size : Try.zeroCells63.size = 68 := by kernel_rfl
theorem zero63_65 : Try.zeroCells63[65]? = some (.int .i64 0) := by kernel_rfl
theorem zero63_67 : Try.zeroCells63[67]? = some (.int .i64 0) := by kernel_rfl

theorem zero63_v : Try.zeroCells63.toList.drop 1 = List.replicate 64 (.int .u32 0) ++ [.int .i64 0, .int .i64 0, .int .i64 0] := by kernel_rfl
theorem zero63_at (j : Nat) (hj : j < 64) : Try.zeroCells63[1 + j]? = some (.int .u32 0) := by
  have h : (Try.zeroCells63.toList.drop 1)[j]? = some (.int .u32 0) := by rw [zero63_v, List.getElem?_append_left (by simp; omega), List.getElem?_replicate, if_pos hj]
  rw [List.getElem?_drop] at h
  rw [← h, Array.getElem?_toList]
/-- the document's runner as the laws make it -/
noncomputable def runC0 (m : Value) (fu : Int) : Array Value := (Try.zeroCells63.setIfInBounds 0 m).setIfInBounds 66 (.int .i64 fu)
theorem runC0_ok (m : Value) (fu : Int) : RunC (runC0 m fu) m (List.replicate 64 0) 0 fu 0 := by
  have hs : (runC0 m fu).size = 68 := by unfold runC0; simp [zero63_size]
  refine ⟨hs, List.length_replicate, ?_, fun j hj => ?_, ?_, ?_, ?_⟩
  · unfold runC0
    rw [Array.getElem?_setIfInBounds_ne (by omega), Array.getElem?_setIfInBounds_self_of_lt (by simp [zero63_size])]
  · unfold runC0
    rw [Array.getElem?_setIfInBounds_ne (by omega), Array.getElem?_setIfInBounds_ne (by omega), zero63_at j hj]
    have : rd (List.replicate 64 (0 : Int)) (j : Int) = 0 := by
      unfold rd
      rw [Int.toNat_natCast, List.getD_eq_getElem?_getD, List.getElem?_replicate, if_pos hj]; rfl
    rw [this]
  · unfold runC0
    rw [Array.getElem?_setIfInBounds_ne (by omega), Array.getElem?_setIfInBounds_ne (by omega)]; exact zero63_65
  · unfold runC0
    rw [Array.getElem?_setIfInBounds_self_of_lt (by simp [zero63_size])]
  · unfold runC0
    rw [Array.getElem?_setIfInBounds_ne (by omega), Array.getElem?_setIfInBounds_ne (by omega)]; exact zero63_67
theorem run_build63 (p : Option Addr) (fu : Int) (w : World) :
    (Instr.build 63 #[(0, .pointer p), (3, .int .i64 fu)]).run Try.prog w = .ok (.agg (runC0 (.pointer p) fu)) w := by
  have e1 : (Value.pointer p).cells = #[Value.pointer p] := rfl
  have e2 : (Value.int .i64 fu).cells = #[Value.int .i64 fu] := rfl
  have e4 : (Value.agg Try.zeroCells63).cells = Try.zeroCells63 := rfl
  simp [Instr.build, Try.underlying63, Sem.run_bind, Instr.fill, e1, e2, e4, zero63_size, runC0]
set_option maxRecDepth 100000 in
set_option maxHeartbeats 4000000 in
theorem same_calls (w : World) (gv : Nat) (lv ev mv : Value) (at_ : Int) (V : List Int) (hR : RnAt w gv lv ev mv at_ V) (hl : V.length = 64) :
    Calls Try.prog 34 #[.slice (some ⟨gv, 4, none⟩) 64 64, .agg (arrU V)] w fun e w' => e = .returned (.bool true) ∧ Below w.heap.size w w' := by
  have HX := Aside0.mk (show ∀ (W : World) (k : Nat), Below (w.heap.size + 1) (w.alloc (.cells (arrU V) 31)) W → k < 64 → W.cell? ⟨gv, 4 + k, none⟩ = some (.int .u32 (rd V (k : Int))) ∧ W.cell? ⟨w.heap.size, k, none⟩ = some (.int .u32 (rd V (k : Int))) from fun W k hW hk => by
    have hb : Below w.heap.size w W := (below_alloc (Below.refl _ _) _).trans (hW.mono (by omega))
    refine ⟨?_, ?_⟩
    · exact (hR.below hb).gv k hk
    · have h1 : W.heap[w.heap.size]? = some (.cells (arrU V) 31 (0, 0)) := (hW.block _ (by omega)).trans (heap_alloc_new w _)
      rw [cell_of_row W w.heap.size k _ _ _ h1]
      exact arrU_at V k (by omega))
  clear hR
  go_enter Try.func34, Try.ntmps34
  go_wp2
  go_loopw [5] (fun i wr => ∃ k : Nat, k ≤ 64 ∧ i = .int .i64 k ∧ Aside0 (Below (w.heap.size + 1) (w.alloc (.cells (arrU V) 31)) wr)) (fun i _ => 64 - (intOf i).toNat)
  case atStart => exact ⟨0, by omega, rfl, ⟨Below.refl _ _⟩⟩
  case round =>
    obtain ⟨k, hk, rfl, hB⟩ := hrel
    by_cases h1 : k < 64
    · obtain ⟨c1, c2⟩ := HX.out wr k hB.out h1
      obtain ⟨x, hx⟩ : ∃ x, x = rd V (k : Int) := ⟨_, rfl⟩
      rw [← hx] at c1 c2
      have hki : (k : Int) < 64 := by omega
      go_wp2
      go_region
      go_wp2
      go_roundw
      case rel => exact ⟨k + 1, by omega, by go_num, ⟨by repeat (first | exact hB.out | apply pw_below_drewN)⟩⟩
      case measure => simp [intOf]; omega
    · obtain rfl : k = 64 := by omega
      go_wp2
      go_ret
      exact ⟨rfl, (below_alloc (Below.refl _ _) _).trans (hB.out.mono (by omega))⟩
theorem load_byte {fl rl : List Int} {L : List S138} (hD : Data fl rl L) (k : Nat) (hk : k < 128) : loadV 4096 2147483648 fl rl (2147483648 + (k : Int)) 1 = (rd rl (k : Int), 0) := by
  have h1 : sizedP 1 := by unfold sizedP; omega
  have h2 : ¬ inBank 4096 fl.length (2147483648 + (k : Int)) 1 := by rw [hD.lf]; unfold inBank; omega
  have h3 : inBank 2147483648 rl.length (2147483648 + (k : Int)) 1 := by rw [hD.lr]; unfold inBank; omega
  unfold loadV
  rw [if_neg (fun h => h h1), if_neg (by omega), if_neg h2, if_pos h3]
  congr 1
  have := bytesAt_eq hD.sr (2147483648 + (k : Int)) 1 (by omega) (by rw [hD.lr]; omega)
  rw [show (1 : Int).toNat = 1 by rfl, this, hD.sr k (by rw [hD.lr]; exact hk)]
  simp [numL, List.range_succ]
set_option maxRecDepth 100000 in
set_option maxHeartbeats 4000000 in
theorem bytes_calls (w : World) (b1 b2 gm bf br gx : Nat) (fl rl : List Int) (L : List S138) (hm : MemAt w b1 gm bf br 4096 2147483648 fl rl) (hx : RefAt w b2 gx 4096 256 2147483648 128 L) (hD : Data fl rl L) (hL : L.length < 4611686018427387904) :
    Calls Try.prog 35 #[.pointer (some ⟨gm, 0, none⟩), .pointer (some ⟨gx, 0, none⟩)] w fun e w' => e = .returned (.bool true) ∧ Below w.heap.size w w' := by
  have HX := Aside0.mk (show ∀ (W : World) (k : Nat), Below w.heap.size w W → k < 128 → Calls Try.prog 68 #[.pointer (some ⟨gm, 0, none⟩), .int .u32 (2147483648 + (k : Int)), .int .i64 1] W fun e w' => e = .returned (.tuple #[.int .u32 (rd rl (k : Int)), .int .i64 0]) ∧ Below W.heap.size W w' from fun W k hW hk => by
    have := load_calls b1 gm bf br 4096 2147483648 fl rl (2147483648 + (k : Int)) 1 W (hm.below hW) hD.fit hD.bf hD.br (by omega) (by omega) (by decide)
    rw [load_byte hD k hk] at this
    exact this)
  have HY := Aside0.mk (show ∀ (W : World) (k : Nat), Below w.heap.size w W → k < 128 → Calls Try.prog 69 #[.pointer (some ⟨gx, 0, none⟩), .int .u32 (2147483648 + (k : Int))] W fun e w' => e = .returned (.int .u8 (rd rl (k : Int))) ∧ Drawn0 W w' from fun W k hW hk => by
    have := refat_calls b2 gx 4096 256 2147483648 128 (2147483648 + (k : Int)) L W (hx.below hW) hL
    rw [hD.sr k (by rw [hD.lr]; exact hk)]
    exact this)
  have HU := Aside0.mk (show ∀ k : Nat, k < 128 → 0 ≤ rd rl (k : Int) ∧ rd rl (k : Int) < 256 from fun k hk => by
    have : rd rl (k : Int) ∈ rl := by
      unfold rd
      rw [Int.toNat_natCast, List.getD_eq_getElem?_getD, List.getElem?_eq_getElem (by rw [hD.lr]; exact hk)]
      exact List.getElem_mem _
    exact hD.br _ this)
  clear hm hx hD hL
  go_enter Try.func35, Try.ntmps35
  go_wp2
  go_loopw [5] (fun i wr => ∃ k : Nat, k ≤ 128 ∧ i = .int .u32 k ∧ Aside0 (Below w.heap.size w wr)) (fun i _ => 128 - (intOf i).toNat)
  case atStart => exact ⟨0, by omega, rfl, ⟨Below.refl _ _⟩⟩
  case round =>
    obtain ⟨k, hk, rfl, hB⟩ := hrel
    by_cases h1 : k < 128
    · have h2 := HU.out k h1
      have HX2 := Aside0.mk (HX.out wr k hB.out h1)
      have HY2 := Aside0.mk (fun W hW => HY.out W k hW h1)
      obtain ⟨x, hx⟩ : ∃ x, x = rd rl (k : Int) := ⟨_, rfl⟩
      rw [← hx] at h2 HX2 HY2
      have hki : (k : Int) < 128 := by omega
      clear hx
      go_wp2_with (first | (go_at_call 68; (with_reducible refine HX2.out.mono ?_); rintro e w5 ⟨rfl, hb5⟩; have HB5 := Aside0.mk (hB.out.trans (hb5.mono hB.out.size)); clear hb5) | (go_at_call 69; (with_reducible refine (HY2.out _ HB5.out).mono ?_); rintro e w6 ⟨rfl, n6, rfl⟩))
      go_roundw
      case rel => exact ⟨k + 1, by omega, by go_num, ⟨by repeat (first | exact HB5.out | apply pw_below_drewN)⟩⟩
      case measure => simp [intOf]; omega
    · obtain rfl : k = 128 := by omega
      go_wp2
      go_ret
      exact ⟨rfl, hB.out⟩

end Go.Proofs.Ytpeljnnbknnbmaa.PD
end
end
end
end
