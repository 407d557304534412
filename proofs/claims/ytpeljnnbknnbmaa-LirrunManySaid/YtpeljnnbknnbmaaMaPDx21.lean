import Derived.Test.YtpeljnnbknnbmaaMaPDx0
import Derived.Test.YtpeljnnbknnbmaaMaPDx8
import Derived.Test.YtpeljnnbknnbmaaMaPDx20
import Derived.Outline
import Derived.Deep.RegionHeld3
import Derived.Deep.OwnRows
-- Written by pr.py, a driver around the kit's printer, for this seat. Not trusted: Lean checks it.
namespace Go.Proofs.Ytpeljnnbknnbmaa.PD
open Go.RowKit Go.Proofs.YtpeljnnbknnbmaaW.PrintWords Go.Proofs.YtpeljnnbknnbmaaW.PrintLast Go.Proofs.YtpeljnnbknnbmaaW.PrintMore
attribute [local go_sem] max2_int min2_int max_two min_two max_three min_three max_four min_four   -- for this text's walks alone
set_option linter.unusedVariables false
set_option linter.unusedSimpArgs false

--BREAK Derived.Outline,Derived.Deep.RegionHeld3,Derived.Deep.OwnRows
/-! ### pintleref05_Memory_Store: function 108 -/
def RefAt (w : World) (base g : Nat) (F FS R RS : Int) (L : List S138) : Prop := ∃ A c, w.heap[g]? = some (.cells #[.int .u32 F, .int .u32 FS, .int .u32 R, .int .u32 RS, .slice A L.length c] 85 (0, 0)) ∧ base ≤ g ∧ Kd.R k138 138 w base (fun k => k ≠ g) (.slice A L.length c) L
theorem RefAt.below {w w' : World} {base g : Nat} {F FS R RS : Int} {L : List S138} (h : RefAt w base g F FS R RS L) (hb : Below w.heap.size w w') : RefAt w' base g F FS R RS L := by
  obtain ⟨A, c, h1, h2, h3⟩ := h
  exact ⟨A, c, (hb.block _ (blk_lt h1)).trans h1, h2, Kd.R_below h3 hb⟩
theorem RefAt.drewN {w : World} {base g : Nat} {F FS R RS : Int} {L : List S138} (h : RefAt w base g F FS R RS L) (n : Nat) : RefAt (w.drewN n) base g F FS R RS L := h
def inR (base size addr n : Int) : Bool := decide (0 ≤ n) && (decide (base ≤ addr) && decide (n ≤ base + size - addr))
theorem in_eq {base size addr n : Int} (hb : 0 ≤ base ∧ base < 4294967296) (hs : 0 ≤ size ∧ size < 4294967296) (ha : 0 ≤ addr ∧ addr < 4294967296) : pintleref05_in.f base size addr n = some (inR base size addr n) := by
  unfold pintleref05_in.f inR
  have e1 : wrap64 addr = addr := by unfold wrap64; omega
  have e2 : wrap64 base = base := by unfold wrap64; omega
  have e3 : wrap64 (wrap64 (wrap64 base + wrap64 size) - addr) = base + size - addr := by unfold wrap64; omega
  rw [e1, e2] 
  rw [e2] at e3
  rw [e3]
  by_cases h : 0 ≤ n
  · by_cases h2 : base ≤ addr
    · simp [h, h2]
    · simp [h, h2]
  · simp [h]
set_option maxHeartbeats 4000000 in
theorem refram_calls (base g : Nat) (F FS R RS a n : Int) (L : List S138) (w : World) (hm : RefAt w base g F FS R RS L) (hb : 0 ≤ R ∧ R < 4294967296) (hs : 0 ≤ RS ∧ RS < 4294967296) (ha : 0 ≤ a ∧ a < 4294967296) :
    Calls Try.prog 107 #[.pointer (some ⟨g, 0, none⟩), .int .u32 a, .int .i64 n] w fun e w' => e = .returned (.bool (inR R RS a n)) ∧ Drawn0 w w' := by
  obtain ⟨A, c, hblk, _, _⟩ := hm
  have HI := Aside0.mk (in_eq (n := n) hb hs ha)
  have q2 := blk_cell hblk 2
  have q3 := blk_cell hblk 3
  clear hb hs ha hblk
  go_enter Try.func107, Try.ntmps107
  go_wp2_with (first | (go_at_call 118; (with_reducible refine (pintleref05_in.calls R RS a n _ _ HI.out).mono ?_); rintro e w' ⟨rfl, ⟨nd, rfl⟩⟩; (try first | exact ⟨rfl, _, World.drewN_drewN _ _ _⟩ | exact ⟨rfl, _, Eq.trans (World.drewN_drewN _ _ _) (congrArg (World.drewN _) (Nat.add_assoc _ _ _))⟩)))
  repeat (go_quiet (first | (go_at_call 118; (with_reducible refine (pintleref05_in.calls R RS a n _ _ HI.out).mono ?_); rintro e w' ⟨rfl, ⟨nd, rfl⟩⟩; (try first | exact ⟨rfl, _, World.drewN_drewN _ _ _⟩ | exact ⟨rfl, _, Eq.trans (World.drewN_drewN _ _ _) (congrArg (World.drewN _) (Nat.add_assoc _ _ _))⟩))); try go_wp2_with (first | (go_at_call 118; (with_reducible refine (pintleref05_in.calls R RS a n _ _ HI.out).mono ?_); rintro e w' ⟨rfl, ⟨nd, rfl⟩⟩; (try first | exact ⟨rfl, _, World.drewN_drewN _ _ _⟩ | exact ⟨rfl, _, Eq.trans (World.drewN_drewN _ _ _) (congrArg (World.drewN _) (Nat.add_assoc _ _ _))⟩))))
  go_ret
  exact ⟨rfl, by repeat (first | exact Drawn0.refl _ | apply Drawn0.step)⟩
set_option maxHeartbeats 4000000 in
theorem refflash_calls (base g : Nat) (F FS R RS a n : Int) (L : List S138) (w : World) (hm : RefAt w base g F FS R RS L) (hb : 0 ≤ F ∧ F < 4294967296) (hs : 0 ≤ FS ∧ FS < 4294967296) (ha : 0 ≤ a ∧ a < 4294967296) :
    Calls Try.prog 106 #[.pointer (some ⟨g, 0, none⟩), .int .u32 a, .int .i64 n] w fun e w' => e = .returned (.bool (inR F FS a n)) ∧ Drawn0 w w' := by
  obtain ⟨A, c, hblk, _, _⟩ := hm
  have HI := Aside0.mk (in_eq (n := n) hb hs ha)
  have q2 := blk_cell hblk 0
  have q3 := blk_cell hblk 1
  clear hb hs ha hblk
  go_enter Try.func106, Try.ntmps106
  go_wp2_with (first | (go_at_call 118; (with_reducible refine (pintleref05_in.calls F FS a n _ _ HI.out).mono ?_); rintro e w' ⟨rfl, ⟨nd, rfl⟩⟩; (try first | exact ⟨rfl, _, World.drewN_drewN _ _ _⟩ | exact ⟨rfl, _, Eq.trans (World.drewN_drewN _ _ _) (congrArg (World.drewN _) (Nat.add_assoc _ _ _))⟩)))
  repeat (go_quiet (first | (go_at_call 118; (with_reducible refine (pintleref05_in.calls F FS a n _ _ HI.out).mono ?_); rintro e w' ⟨rfl, ⟨nd, rfl⟩⟩; (try first | exact ⟨rfl, _, World.drewN_drewN _ _ _⟩ | exact ⟨rfl, _, Eq.trans (World.drewN_drewN _ _ _) (congrArg (World.drewN _) (Nat.add_assoc _ _ _))⟩))); try go_wp2_with (first | (go_at_call 118; (with_reducible refine (pintleref05_in.calls F FS a n _ _ HI.out).mono ?_); rintro e w' ⟨rfl, ⟨nd, rfl⟩⟩; (try first | exact ⟨rfl, _, World.drewN_drewN _ _ _⟩ | exact ⟨rfl, _, Eq.trans (World.drewN_drewN _ _ _) (congrArg (World.drewN _) (Nat.add_assoc _ _ _))⟩))))
  go_ret
  exact ⟨rfl, by repeat (first | exact Drawn0.refl _ | apply Drawn0.step)⟩
structure Fits32 (F FS R RS a : Int) : Prop where
  f : 0 ≤ F ∧ F < 4294967296
  fs : 0 ≤ FS ∧ FS < 4294967296
  r : 0 ≤ R ∧ R < 4294967296
  rs : 0 ≤ RS ∧ RS < 4294967296
  a : 0 ≤ a ∧ a < 4294967296
def hasR (F FS R RS a n : Int) : Bool := inR F FS a n || inR R RS a n
set_option maxHeartbeats 4000000 in
theorem refhas_calls (base g : Nat) (F FS R RS a n : Int) (L : List S138) (w : World) (hm : RefAt w base g F FS R RS L) (hf : Fits32 F FS R RS a) :
    Calls Try.prog 88 #[.pointer (some ⟨g, 0, none⟩), .int .u32 a, .int .i64 n] w fun e w' => e = .returned (.bool (hasR F FS R RS a n)) ∧ Drawn0 w w' := by
  have HM := Aside0.mk hm
  obtain ⟨r, hr⟩ : ∃ r, r = hasR F FS R RS a n := ⟨_, rfl⟩
  rw [← hr]
  unfold hasR at hr
  have HRM := Aside0.mk (fun W hM => refram_calls base g F FS R RS a n L W hM hf.r hf.rs hf.a)
  have HFL := Aside0.mk (fun W hM => refflash_calls base g F FS R RS a n L W hM hf.f hf.fs hf.a)
  cases h1 : inR F FS a n
  · rw [h1] at hr HFL
    obtain ⟨b, hb⟩ : ∃ b, b = inR R RS a n := ⟨_, rfl⟩
    rw [← hb] at hr HRM
    obtain rfl : r = b := hr
    clear hm hb h1 hf
    go_enter Try.func88, Try.ntmps88
    go_wp2_with (first | (go_at_call 106; (with_reducible refine (HFL.out _ (by first | exact HM.out | exact HM.out.drewN _)).mono ?_); rintro e w' ⟨rfl, ⟨nd, rfl⟩⟩; (try first | exact ⟨rfl, _, World.drewN_drewN _ _ _⟩ | exact ⟨rfl, _, Eq.trans (World.drewN_drewN _ _ _) (congrArg (World.drewN _) (Nat.add_assoc _ _ _))⟩)) | (go_at_call 107; (with_reducible refine (HRM.out _ (by first | exact HM.out | exact HM.out.drewN _)).mono ?_); rintro e w' ⟨rfl, ⟨nd, rfl⟩⟩; (try first | exact ⟨rfl, _, World.drewN_drewN _ _ _⟩ | exact ⟨rfl, _, Eq.trans (World.drewN_drewN _ _ _) (congrArg (World.drewN _) (Nat.add_assoc _ _ _))⟩)))
    repeat (go_quiet (first | (go_at_call 106; (with_reducible refine (HFL.out _ (by first | exact HM.out | exact HM.out.drewN _)).mono ?_); rintro e w' ⟨rfl, ⟨nd, rfl⟩⟩; (try first | exact ⟨rfl, _, World.drewN_drewN _ _ _⟩ | exact ⟨rfl, _, Eq.trans (World.drewN_drewN _ _ _) (congrArg (World.drewN _) (Nat.add_assoc _ _ _))⟩)) | (go_at_call 107; (with_reducible refine (HRM.out _ (by first | exact HM.out | exact HM.out.drewN _)).mono ?_); rintro e w' ⟨rfl, ⟨nd, rfl⟩⟩; (try first | exact ⟨rfl, _, World.drewN_drewN _ _ _⟩ | exact ⟨rfl, _, Eq.trans (World.drewN_drewN _ _ _) (congrArg (World.drewN _) (Nat.add_assoc _ _ _))⟩))); try go_wp2_with (first | (go_at_call 106; (with_reducible refine (HFL.out _ (by first | exact HM.out | exact HM.out.drewN _)).mono ?_); rintro e w' ⟨rfl, ⟨nd, rfl⟩⟩; (try first | exact ⟨rfl, _, World.drewN_drewN _ _ _⟩ | exact ⟨rfl, _, Eq.trans (World.drewN_drewN _ _ _) (congrArg (World.drewN _) (Nat.add_assoc _ _ _))⟩)) | (go_at_call 107; (with_reducible refine (HRM.out _ (by first | exact HM.out | exact HM.out.drewN _)).mono ?_); rintro e w' ⟨rfl, ⟨nd, rfl⟩⟩; (try first | exact ⟨rfl, _, World.drewN_drewN _ _ _⟩ | exact ⟨rfl, _, Eq.trans (World.drewN_drewN _ _ _) (congrArg (World.drewN _) (Nat.add_assoc _ _ _))⟩))))
    go_ret
    exact ⟨rfl, by repeat (first | exact Drawn0.refl _ | apply Drawn0.step)⟩
  · rw [h1] at hr HFL
    obtain rfl : r = true := hr
    clear hm h1 hf
    go_enter Try.func88, Try.ntmps88
    go_wp2_with (first | (go_at_call 106; (with_reducible refine (HFL.out _ (by first | exact HM.out | exact HM.out.drewN _)).mono ?_); rintro e w' ⟨rfl, ⟨nd, rfl⟩⟩; (try first | exact ⟨rfl, _, World.drewN_drewN _ _ _⟩ | exact ⟨rfl, _, Eq.trans (World.drewN_drewN _ _ _) (congrArg (World.drewN _) (Nat.add_assoc _ _ _))⟩)))
    repeat (go_quiet (first | (go_at_call 106; (with_reducible refine (HFL.out _ (by first | exact HM.out | exact HM.out.drewN _)).mono ?_); rintro e w' ⟨rfl, ⟨nd, rfl⟩⟩; (try first | exact ⟨rfl, _, World.drewN_drewN _ _ _⟩ | exact ⟨rfl, _, Eq.trans (World.drewN_drewN _ _ _) (congrArg (World.drewN _) (Nat.add_assoc _ _ _))⟩))); try go_wp2_with (first | (go_at_call 106; (with_reducible refine (HFL.out _ (by first | exact HM.out | exact HM.out.drewN _)).mono ?_); rintro e w' ⟨rfl, ⟨nd, rfl⟩⟩; (try first | exact ⟨rfl, _, World.drewN_drewN _ _ _⟩ | exact ⟨rfl, _, Eq.trans (World.drewN_drewN _ _ _) (congrArg (World.drewN _) (Nat.add_assoc _ _ _))⟩))))
    go_ret
    exact ⟨rfl, by repeat (first | exact Drawn0.refl _ | apply Drawn0.step)⟩

def KeepT (w w' : World) : Prop := ∀ (k : Nat) (cs : Array Value) (t : TypeId) (fr : Nat × Nat), w.heap[k]? = some (.cells cs t fr) → t ≠ 85 → t ≠ 138 → w'.heap[k]? = some (.cells cs t fr)
theorem KeepT.refl (w : World) : KeepT w w := fun _ _ _ _ h _ _ => h
theorem KeepT.trans {w w1 w2 : World} (h1 : KeepT w w1) (h2 : KeepT w1 w2) : KeepT w w2 := fun k cs t fr h a b => h2 k cs t fr (h1 k cs t fr h a b) a b
theorem KeepT.below {w w' : World} (h : Below w.heap.size w w') : KeepT w w' := fun k cs t fr hk _ _ => (h.block _ (blk_lt hk)).trans hk
def RefTold (w : World) (base g : Nat) (F FS R RS : Int) (L : List S138) (v : Value) (e : Ending) (w' : World) : Prop :=
  e = .returned v ∧ RefAt w' base g F FS R RS L ∧ KeepT w w' ∧ Below base w w'
theorem info138 : (Try.prog.info? 138).map (fun i => (i.zero, i.size, i.bytes)) = some (some (.agg #[(.int .u32 0), (.int .u8 0)]), 2, 8) := by kernel_rfl
theorem RefAt.put {w w1 : World} {base g : Nat} {F FS R RS : Int} {L : List S138} {A : Option Addr} {c : Nat} {v1 : Value} {p : S138}
    (hblk : w.heap[g]? = some (.cells #[.int .u32 F, .int .u32 FS, .int .u32 R, .int .u32 RS, .slice A L.length c] 85 (0, 0))) (hg : base ≤ g)
    (hO : Kd.R k138 138 w base (fun k => k ≠ g) (.slice A L.length c) L)
    (ho : Kd.R k138 138 w1 base (fun k => k ≠ g) v1 (L ++ [p])) (hgr : w.grownBy w1 (Value.slice A L.length c).ownBlock) :
    RefAt (w1.setCell ⟨g, 4, none⟩ v1) base g F FS R RS (L ++ [p]) ∧ KeepT w (w1.setCell ⟨g, 4, none⟩ v1) := by
  obtain ⟨A1, c1, rfl⟩ := Kd.R_slice ho
  have hne : some g ≠ (Value.slice A L.length c).ownBlock := Kd.R_ne hO hblk (by decide)
  have hb1 : w1.heap[g]? = _ := (hgr.block g (blk_lt hblk) hne).trans hblk
  refine ⟨⟨A1, c1, ?_, hg, ?_⟩, ?_⟩
  · exact heap_setCell_same w1 g 4 _ _ _ hb1
  · exact Kd.R_far ho (fun k hk => hk) _
  · intro k cs t fr hk h34 h62
    have hkg : k ≠ g := by
      rintro rfl
      rw [hblk] at hk
      injection hk with hk
      injection hk with _ h _
      exact h34 h.symm
    rw [heap_setCell_other _ _ _ _ hkg]
    refine (hgr.block k (blk_lt hk) ?_).trans hk
    intro he
    obtain ⟨cells, hc⟩ := Kd.R_typed hO k he.symm
    rw [hc] at hk
    injection hk with hk
    injection hk with _ h _
    exact h62 h.symm
def putWrites (a : Int) (l : List Int) : Nat → List S138
  | 0 => []
  | k + 1 => putWrites a l k ++ [⟨a + (k : Int), rd l k⟩]
theorem putWrites_length (a : Int) (l : List Int) : ∀ n, (putWrites a l n).length = n
  | 0 => rfl
  | k + 1 => by unfold putWrites; rw [List.length_append, putWrites_length a l k]; rfl

end Go.Proofs.Ytpeljnnbknnbmaa.PD
