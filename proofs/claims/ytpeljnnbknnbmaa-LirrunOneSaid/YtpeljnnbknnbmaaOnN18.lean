import Derived.Test.YtpeljnnbknnbmaaOnPDx0
import Derived.Test.YtpeljnnbknnbmaaOnN17
import Derived.Test.YtpeljnnbknnbmaaOnN10
import Derived.Outline
namespace Go.Proofs.Ytpeljnnbknnbmaa.PD
open Go.RowKit Go.Proofs.YtpeljnnbknnbmaaW.PrintWords Go.Proofs.YtpeljnnbknnbmaaW.PrintLast Go.Proofs.YtpeljnnbknnbmaaW.PrintMore
set_option linter.unusedVariables false
set_option linter.unusedSimpArgs false
/-- an operation's shape -/
def ofV (op : Int) : Bool × Bool × Bool × Int × Int × Bool :=
  if op < 1 ∨ 24 < op then (false, false, false, 0, 0, false)
  else if op = 1 then (true, false, false, -2147483648, 2147483647, true)
  else if op = 2 then (true, true, false, 0, 0, true)
  else if op ≤ 12 then (true, true, true, 0, 0, true)
  else if op = 13 ∨ (17 ≤ op ∧ op ≤ 20) then (true, true, false, -2147483648, 2147483647, true)
  else if op ≤ 16 then (true, true, false, 0, 31, true)
  else if op ≤ 22 then (false, true, true, -2147483648, 2147483647, true)
  else if op = 23 then (true, false, false, 1, 100000, true)
  else (false, false, false, 0, 0, true)
theorem of_eq (k : Nat) (op : Int) : lir_of.f (k + 2) op = some (ofV op) := by
  have j1 : ∀ b, lir_of.j1 (k + 1) op b = if b = true then some (true, true, false, -2147483648, 2147483647, true) else if op ≤ 16 then some (true, true, false, 0, 31, true) else if op ≤ 22 then some (false, true, true, -2147483648, 2147483647, true) else if op = 23 then some (true, false, false, 1, 100000, true) else some (false, false, false, 0, 0, true) := fun b => by
    simp only [lir_of.j1]
  unfold lir_of.f ofV
  by_cases h1 : op < 1
  · rw [if_pos h1, if_pos (Or.inl h1)]; simp [lir_of.j0]
  · rw [if_neg h1]
    simp only [lir_of.j0, j1]
    by_cases h2 : op > 24
    · rw [if_pos (by simpa using h2), if_pos (Or.inr h2)]
    · rw [if_neg (by simpa using h2), if_neg (show ¬ (op < 1 ∨ 24 < op) by omega)]
      by_cases e1 : op = 1
      · rw [if_pos e1, if_pos e1]
      · rw [if_neg e1, if_neg e1]
        by_cases e2 : op = 2
        · rw [if_pos e2, if_pos e2]
        · rw [if_neg e2, if_neg e2]
          by_cases e3 : op ≤ 12
          · rw [if_pos e3, if_pos e3]
          · rw [if_neg e3, if_neg e3]
            by_cases e4 : op = 13
            · subst e4; simp
            · rw [if_neg e4]
              by_cases e5 : op ≥ 17
              · rw [if_pos e5]
                by_cases e6 : op ≤ 20
                · rw [if_pos (by simpa using e6), if_pos (show op = 13 ∨ (17 ≤ op ∧ op ≤ 20) by omega)]
                · rw [if_neg (by simpa using e6), if_neg (show ¬ (op = 13 ∨ (17 ≤ op ∧ op ≤ 20)) by omega)]
                  split
                  · rfl
                  · split
                    · rfl
                    · split <;> rfl
              · rw [if_neg e5, if_neg (by decide), if_neg (show ¬ (op = 13 ∨ (17 ≤ op ∧ op ≤ 20)) by omega)]
                split
                · rfl
                · split
                  · rfl
                  · split <;> rfl
def fitsV (v : Int) (has : Bool) : Bool := decide (v = 0 ∨ (has = true ∧ 0 < v ∧ v < 64))
theorem fits_eq (v : Int) (has : Bool) : lir_fits.f v has = some (fitsV v has) := by
  unfold lir_fits.f fitsV
  by_cases h1 : v = 0
  · rw [if_pos h1]; simp [h1]
  · rw [if_neg h1]
    cases has
    · simp [h1]
    · rw [if_pos rfl]
      by_cases h2 : v > 0
      · rw [if_pos h2]; congr 1; rw [Bool.eq_iff_iff]; simp; omega
      · rw [if_neg h2]; congr 1; symm; apply decide_eq_false; simp; omega
/-- a step that may be -/
def canV (o d a b i : Int) : Bool := (ofV o).2.2.2.2.2 && (fitsV d (ofV o).1 && (fitsV a (ofV o).2.1 && (fitsV b (ofV o).2.2.1 && (decide (i ≥ (ofV o).2.2.2.1) && decide (i ≤ (ofV o).2.2.2.2.1)))))
theorem can_eq (k : Nat) (o d a b i : Int) : lir_can.f (k + 2) o d a b i = some ((ofV o).1, (ofV o).2.1, (ofV o).2.2.1, (ofV o).2.2.2.1, (ofV o).2.2.2.2.1, canV o d a b i) := by
  unfold lir_can.f canV
  simp only [of_eq, fits_eq, Option.bind_some]
  cases h1 : (ofV o).2.2.2.2.2
  · simp
  · cases h2 : fitsV d (ofV o).1
    · simp
    · cases h3 : fitsV a (ofV o).2.1
      · simp
      · cases h4 : fitsV b (ofV o).2.2.1
        · simp
        · by_cases h5 : i ≥ (ofV o).2.2.2.1
          · simp [h5]
          · simp [h5]

/-- the loops that are open behind so many steps, the last one first; none: an end had no loop -/
def stk (l : List S49) : Nat → Option (List Nat)
  | 0 => some []
  | i + 1 => match stk l i with
    | none => none
    | some st => if (rd_T49 l (i : Int)).f0 = 23 then some (i :: st) else if (rd_T49 l (i : Int)).f0 = 24 then (match st with | [] => none | _ :: r => some r) else some st
theorem stk_loop {l : List S49} {i : Nat} {st : List Nat} (h : stk l i = some st) (hx : (rd_T49 l (i : Int)).f0 = 23) : stk l (i + 1) = some (i :: st) := by
  show (match stk l i with | none => none | some st => if (rd_T49 l (i : Int)).f0 = 23 then some (i :: st) else if (rd_T49 l (i : Int)).f0 = 24 then (match st with | [] => none | _ :: r => some r) else some st) = _
  rw [h]; simp only; rw [if_pos hx]
theorem stk_end {l : List S49} {i fr : Nat} {st : List Nat} (h : stk l i = some (fr :: st)) (hx : (rd_T49 l (i : Int)).f0 = 24) : stk l (i + 1) = some st := by
  show (match stk l i with | none => none | some st => if (rd_T49 l (i : Int)).f0 = 23 then some (i :: st) else if (rd_T49 l (i : Int)).f0 = 24 then (match st with | [] => none | _ :: r => some r) else some st) = _
  rw [h]; simp only; rw [if_neg (by omega), if_pos hx]
theorem stk_bad {l : List S49} {i : Nat} (h : stk l i = some []) (hx : (rd_T49 l (i : Int)).f0 = 24) : stk l (i + 1) = none := by
  show (match stk l i with | none => none | some st => if (rd_T49 l (i : Int)).f0 = 23 then some (i :: st) else if (rd_T49 l (i : Int)).f0 = 24 then (match st with | [] => none | _ :: r => some r) else some st) = _
  rw [h]; simp only; rw [if_neg (by omega), if_pos hx]
theorem stk_else {l : List S49} {i : Nat} {st : List Nat} (h : stk l i = some st) (h1 : (rd_T49 l (i : Int)).f0 ≠ 23) (h2 : (rd_T49 l (i : Int)).f0 ≠ 24) : stk l (i + 1) = some st := by
  show (match stk l i with | none => none | some st => if (rd_T49 l (i : Int)).f0 = 23 then some (i :: st) else if (rd_T49 l (i : Int)).f0 = 24 then (match st with | [] => none | _ :: r => some r) else some st) = _
  rw [h]; simp only; rw [if_neg h1, if_neg h2]
theorem stk_none {l : List S49} {i : Nat} (h : stk l i = none) (d : Nat) : stk l (i + d) = none := by
  induction d with
  | zero => exact h
  | succ d ih =>
    show (match stk l (i + d) with | none => none | some st => _) = none
    rw [ih]
theorem stk_before {l : List S49} {n : Nat} {st : List Nat} (h : stk l n = some st) {i : Nat} (hi : i ≤ n) : ∃ st', stk l i = some st' := by
  cases hs : stk l i with
  | some st' => exact ⟨st', rfl⟩
  | none =>
    have := stk_none hs (n - i)
    rw [show i + (n - i) = n by omega, h] at this
    cases this
/-- what is open are loops that stand ahead -/
theorem stk_lt {l : List S49} : ∀ {i : Nat} {st : List Nat}, stk l i = some st → ∀ j ∈ st, j < i ∧ (rd_T49 l (j : Int)).f0 = 23 := by
  intro i
  induction i with
  | zero => intro st h j hj; cases h; cases hj
  | succ i ih =>
    intro st h j hj
    obtain ⟨st', hs⟩ := stk_before h (Nat.le_succ i)
    by_cases h1 : (rd_T49 l (i : Int)).f0 = 23
    · rw [stk_loop hs h1] at h
      cases h
      rcases List.mem_cons.1 hj with rfl | hj
      · exact ⟨by omega, h1⟩
      · have := ih hs j hj; exact ⟨by omega, this.2⟩
    · by_cases h2 : (rd_T49 l (i : Int)).f0 = 24
      · cases st' with
        | nil => rw [stk_bad hs h2] at h; cases h
        | cons fr r =>
          rw [stk_end hs h2] at h
          cases h
          have := ih hs j (List.mem_cons_of_mem _ hj); exact ⟨by omega, this.2⟩
      · rw [stk_else hs h1 h2] at h
        cases h
        have := ih hs j hj; exact ⟨by omega, this.2⟩
theorem stk_len {l : List S49} : ∀ {i : Nat} {st : List Nat}, stk l i = some st → st.length ≤ i := by
  intro i
  induction i with
  | zero => intro st h; cases h; simp
  | succ i ih =>
    intro st h
    obtain ⟨st', hs⟩ := stk_before h (Nat.le_succ i)
    have := ih hs
    by_cases h1 : (rd_T49 l (i : Int)).f0 = 23
    · rw [stk_loop hs h1] at h; cases h; simp; omega
    · by_cases h2 : (rd_T49 l (i : Int)).f0 = 24
      · cases st' with
        | nil => rw [stk_bad hs h2] at h; cases h
        | cons fr r => rw [stk_end hs h2] at h; cases h; simp at this; omega
      · rw [stk_else hs h1 h2] at h; cases h; omega
def opn (st : List Nat) : List Int := (st.map fun j : Nat => (j : Int)).reverse
theorem opn_len (st : List Nat) : (opn st).length = st.length := by simp [opn]
theorem opn_last (fr : Nat) (st : List Nat) : rd (opn (fr :: st)) (st.length : Int) = fr := by
  unfold rd opn
  rw [Int.toNat_natCast, List.map_cons, List.reverse_cons, List.getD_eq_getElem?_getD, List.getElem?_append_right (by simp)]
  simp
theorem opn_take (fr : Nat) (st : List Nat) : (opn (fr :: st)).take st.length = opn st := by
  unfold opn
  rw [List.map_cons, List.reverse_cons, List.take_left' (by simp)]
/-- where the ends behind so many steps go back to -/
structure OutOk (l : List S49) (i : Nat) (out : List Int) : Prop where
  len : out.length = l.length
  fr : ∀ j, j < i → (rd_T49 l (j : Int)).f0 = 24 → ∀ fr st, stk l j = some (fr :: st) → rd out (j : Int) = fr
theorem wrap_small (x : Int) (h0 : -1 ≤ x) (h : x ≤ 1000000) : wrap64 x = x := by unfold wrap64; omega
theorem ends_from (l : List S49) (hl : l.length ≤ 20000) : ∀ (d i k : Nat) (st : List Nat) (out : List Int), i + d = l.length → d < k → stk l i = some st → OutOk l i out →
    (∃ E, lir_ends.l0 k out (opn st) l (l.length : Int) (i : Int) = some (E, true) ∧ OutOk l l.length E ∧ stk l l.length = some []) ∨ (lir_ends.l0 k out (opn st) l (l.length : Int) (i : Int) = some ([], false) ∧ stk l l.length ≠ some []) := by
  intro d
  induction d with
  | zero =>
    intro i k st out hid hk hst ho
    obtain ⟨k, rfl⟩ : ∃ m, k = m + 1 := ⟨k - 1, by omega⟩
    obtain rfl : i = l.length := by omega
    simp only [lir_ends.l0]
    rw [if_neg (by omega)]
    cases st with
    | nil => rw [if_neg (by simp [opn])]; exact Or.inl ⟨out, rfl, ho, hst⟩
    | cons fr r => rw [if_pos (by rw [opn_len]; simp)]; exact Or.inr ⟨rfl, by rw [hst]; simp⟩
  | succ d ih =>
    intro i k st out hid hk hst ho
    obtain ⟨k, rfl⟩ : ∃ m, k = m + 1 := ⟨k - 1, by omega⟩
    have hw : wrap64 ((i : Int) + 1) = ((i + 1 : Nat) : Int) := by rw [wrap_small _ (by omega) (by omega)]; omega
    have hsl := stk_len hst
    simp only [lir_ends.l0]
    rw [if_pos (by omega), if_pos (by omega), if_pos (by omega), if_pos (by rw [ho.len]; omega), hw]
    simp only [Option.bind_some, Int.toNat_natCast]
    by_cases h1 : (rd_T49 l (i : Int)).f0 = 23
    · rw [if_pos h1, if_pos (by rw [opn_len]; omega)]
      have := ih (i + 1) k (i :: st) (out.set i (-1)) (by omega) (by omega) (stk_loop hst h1) ⟨by rw [List.length_set]; exact ho.len, fun j hj hx fr r hs => by
        by_cases e : j = i
        · subst e; omega
        · rw [rd_far i j _ (by rw [ho.len]; omega) (by omega)]; exact ho.fr j (by omega) hx fr r hs⟩
      simpa [opn] using this
    · rw [if_neg h1]
      by_cases h2 : (rd_T49 l (i : Int)).f0 = 24
      · rw [if_pos h2]
        cases st with
        | nil =>
          rw [if_pos (by simp [opn])]
          refine Or.inr ⟨rfl, ?_⟩
          have := stk_none (stk_bad hst h2) d
          rw [show i + 1 + d = l.length by omega] at this
          rw [this]; simp
        | cons fr r =>
          have hfr := stk_lt hst fr List.mem_cons_self
          have hol : ((opn (fr :: r)).length : Int) = (r.length : Int) + 1 := by rw [opn_len]; simp
          rw [if_neg (by rw [hol]; omega), hol, show (r.length : Int) + 1 - 1 = r.length by omega, wrap_small _ (by omega) (by simp at hsl; omega), opn_last]
          rw [if_pos (by omega), if_pos (by omega), if_pos (by omega), if_pos (by omega), if_pos (by rw [ho.len]; omega)]
          simp only [Int.toNat_natCast]
          rw [opn_take]
          exact ih (i + 1) k r (((out.set i (-1)).set i (fr : Int)).set fr (i : Int)) (by omega) (by omega) (stk_end hst h2) ⟨by simp only [List.length_set]; exact ho.len, fun j hj hx fr' r' hs => by
            have hne : fr ≠ j := by intro e; rw [← e] at hx; omega
            rw [rd_far fr j _ (by simp only [List.length_set]; rw [ho.len]; omega) hne]
            by_cases e : j = i
            · subst e
              rw [hst] at hs
              cases hs
              rw [rd_at _ _ (by rw [List.length_set, ho.len]; omega)]
            · rw [rd_far i j _ (by rw [List.length_set, ho.len]; omega) (by omega), rd_far i j _ (by rw [ho.len]; omega) (by omega)]
              exact ho.fr j (by omega) hx fr' r' hs⟩
      · rw [if_neg h2]
        exact ih (i + 1) k st (out.set i (-1)) (by omega) (by omega) (stk_else hst h1 h2) ⟨by rw [List.length_set]; exact ho.len, fun j hj hx fr r hs => by
          by_cases e : j = i
          · subst e; exact absurd hx h2
          · rw [rd_far i j _ (by rw [ho.len]; omega) (by omega)]; exact ho.fr j (by omega) hx fr r hs⟩
theorem ends_all (l : List S49) (hl : l.length ≤ 20000) (k : Nat) (hk : l.length < k) :
    (∃ E, lir_ends.f k l = some (E, true) ∧ OutOk l l.length E ∧ stk l l.length = some []) ∨ (lir_ends.f k l = some ([], false) ∧ stk l l.length ≠ some []) := by
  unfold lir_ends.f
  rw [if_pos (by omega), Int.toNat_natCast, if_pos (by omega)]
  have h := ends_from l hl l.length 0 k [] (List.replicate l.length 0) (by omega) hk rfl ⟨by simp, fun j hj => absurd hj (by omega)⟩
  exact h
/-- the counters of the loops that are open -/
def cnts (l : List S49) (st : List Nat) : List Int := (st.map fun j : Nat => (rd_T49 l (j : Int)).f1).reverse
/-- a step does not set an open loop's counter, and loops are not too deep -/
def KOk (l : List S49) (i : Nat) : Prop := ∀ st, stk l i = some st → ((ofV (rd_T49 l (i : Int)).f0).1 = true → ∀ j ∈ st, (rd_T49 l (i : Int)).f1 ≠ (rd_T49 l (j : Int)).f1) ∧ ∀ st', stk l (i + 1) = some st' → st'.length ≤ 10
theorem index_from (C : List Int) (x : Int) (hl : C.length ≤ 100) : ∀ (d i k : Nat), i + d = C.length → d < k → ∃ r, slices_Index_int_int.l0 k C x (C.length : Int) (i : Int) = some r ∧ (r ≥ 0 ↔ x ∈ C.drop i) := by
  intro d
  induction d with
  | zero =>
    intro i k hid hk
    obtain ⟨k, rfl⟩ : ∃ m, k = m + 1 := ⟨k - 1, by omega⟩
    simp only [slices_Index_int_int.l0]
    rw [if_neg (by omega), List.drop_eq_nil_of_le (by omega)]
    exact ⟨-1, rfl, by simp⟩
  | succ d ih =>
    intro i k hid hk
    obtain ⟨k, rfl⟩ : ∃ m, k = m + 1 := ⟨k - 1, by omega⟩
    have hi : i < C.length := by omega
    have hr : rd C (i : Int) = C[i] := by unfold rd; rw [Int.toNat_natCast, List.getD_eq_getElem?_getD, List.getElem?_eq_getElem hi]; rfl
    simp only [slices_Index_int_int.l0]
    have hdr : C.drop i = C[i] :: C.drop (i + 1) := List.drop_eq_getElem_cons hi
    rw [if_pos (by omega), if_pos (by omega), if_pos (by omega), hr]
    by_cases e : x = C[i]
    · rw [if_pos e]
      exact ⟨i, rfl, ⟨fun _ => by rw [hdr, e]; exact List.mem_cons_self, fun _ => by omega⟩⟩
    · rw [if_neg e, wrap_small _ (by omega) (by omega), show (i : Int) + 1 = ((i + 1 : Nat) : Int) by omega]
      obtain ⟨r, h1, h2⟩ := ih (i + 1) k (by omega) (by omega)
      exact ⟨r, h1, h2.trans ⟨fun h => by rw [hdr]; exact List.mem_cons_of_mem _ h, fun h => by rw [hdr] at h; exact (List.mem_cons.1 h).resolve_left e⟩⟩
theorem contains_all (C : List Int) (x : Int) (hl : C.length ≤ 100) (k : Nat) (hk : C.length < k) : slices_Contains_int_int.f k C x = some (decide (x ∈ C)) := by
  obtain ⟨r, h1, h2⟩ := index_from C x hl C.length 0 k (by omega) hk
  unfold slices_Contains_int_int.f slices_Index_int_int.f
  rw [show (0 : Int) = ((0 : Nat) : Int) from rfl, h1]
  simp only [Option.bind_some]
  show some (decide (r ≥ 0)) = _
  congr 1
  rw [List.drop_zero] at h2
  by_cases e : x ∈ C
  · rw [decide_eq_true e, decide_eq_true (h2.2 e)]
  · rw [decide_eq_false e, decide_eq_false (fun h => e (h2.1 h))]
theorem kept_from (l : List S49) (hl : l.length ≤ 20000) (hfin : ∃ st, stk l l.length = some st) : ∀ (d i k : Nat) (st : List Nat), i + d = l.length → 2 * d + 30 < k → stk l i = some st → st.length ≤ 10 →
    (lir_kept.l0 k (cnts l st) l (l.length : Int) (i : Int) = some true ∧ ∀ j, i ≤ j → j < l.length → KOk l j) ∨ (lir_kept.l0 k (cnts l st) l (l.length : Int) (i : Int) = some false ∧ ∃ j, i ≤ j ∧ j < l.length ∧ ¬ KOk l j) := by
  have hcl : ∀ st, (cnts l st).length = st.length := fun st => by simp [cnts]
  intro d
  induction d with
  | zero =>
    intro i k st hid hk hst h10
    obtain ⟨k, rfl⟩ : ∃ m, k = m + 1 := ⟨k - 1, by omega⟩
    simp only [lir_kept.l0]
    rw [if_neg (by omega)]
    exact Or.inl ⟨rfl, fun j h1 h2 => absurd h2 (by omega)⟩
  | succ d ih =>
    intro i k st hid hk hst h10
    obtain ⟨k, rfl⟩ : ∃ m, k = m + 1 + 1 := ⟨k - 2, by omega⟩
    have hw : wrap64 ((i : Int) + 1) = ((i + 1 : Nat) : Int) := by rw [wrap_small _ (by omega) (by omega)]; omega
    simp only [lir_kept.l0]
    rw [if_pos (by omega), if_pos (by omega), if_pos (by omega)]
    obtain ⟨k2, hk2⟩ : ∃ m, k + 1 = m + 2 := ⟨k - 1, by omega⟩
    rw [hk2, of_eq, ← hk2]
    simp only [Option.bind_some]
    have hcon := contains_all (cnts l st) (rd_T49 l (i : Int)).f1 (by rw [hcl]; omega) (k + 1) (by rw [hcl]; omega)
    have hmem : (rd_T49 l (i : Int)).f1 ∈ cnts l st ↔ ∃ j ∈ st, (rd_T49 l (i : Int)).f1 = (rd_T49 l (j : Int)).f1 := by
      simp only [cnts, List.mem_reverse, List.mem_map]
      constructor
      · rintro ⟨j, h1, h2⟩; exact ⟨j, h1, h2.symm⟩
      · rintro ⟨j, h1, h2⟩; exact ⟨j, h1, h2.symm⟩
    -- what stands behind the test
    have rest : ((ofV (rd_T49 l (i : Int)).f0).1 = true → ∀ j ∈ st, (rd_T49 l (i : Int)).f1 ≠ (rd_T49 l (j : Int)).f1) →
        (lir_kept.j1 (k + 1) (cnts l st) l (l.length : Int) (i : Int) false (rd_T49 l (i : Int)).f0 (rd_T49 l (i : Int)).f1 (rd_T49 l (i : Int)).f2 (rd_T49 l (i : Int)).f3 (rd_T49 l (i : Int)).f4 = some true ∧ ∀ j, i ≤ j → j < l.length → KOk l j) ∨
        (lir_kept.j1 (k + 1) (cnts l st) l (l.length : Int) (i : Int) false (rd_T49 l (i : Int)).f0 (rd_T49 l (i : Int)).f1 (rd_T49 l (i : Int)).f2 (rd_T49 l (i : Int)).f3 (rd_T49 l (i : Int)).f4 = some false ∧ ∃ j, i ≤ j ∧ j < l.length ∧ ¬ KOk l j) := by
      intro hno
      have go : ∀ st', stk l (i + 1) = some st' → st'.length ≤ 10 →
          (lir_kept.l0 k (cnts l st') l (l.length : Int) ((i + 1 : Nat) : Int) = some true ∧ ∀ j, i ≤ j → j < l.length → KOk l j) ∨ (lir_kept.l0 k (cnts l st') l (l.length : Int) ((i + 1 : Nat) : Int) = some false ∧ ∃ j, i ≤ j ∧ j < l.length ∧ ¬ KOk l j) := by
        intro st' hs' h10'
        rcases ih (i + 1) k st' (by omega) (by omega) hs' h10' with ⟨h1, h2⟩ | ⟨h1, j, hj1, hj2, hj3⟩
        · refine Or.inl ⟨h1, fun j hj hjl => ?_⟩
          by_cases e : j = i
          · subst e
            intro s2 hs2
            rw [hst] at hs2; cases hs2
            refine ⟨hno, fun s3 hs3 => ?_⟩
            rw [hs'] at hs3; cases hs3; exact h10'
          · exact h2 j (by omega) hjl
        · exact Or.inr ⟨h1, j, by omega, hj2, hj3⟩
      have deep : ∀ st', stk l (i + 1) = some st' → ¬ st'.length ≤ 10 → ∃ j, i ≤ j ∧ j < l.length ∧ ¬ KOk l j := fun st' hs' h => ⟨i, Nat.le_refl _, by omega, fun hk => h ((hk st hst).2 st' hs')⟩
      simp only [lir_kept.j1]
      rw [if_neg (by simp)]
      by_cases h1 : (rd_T49 l (i : Int)).f0 = 23
      · rw [if_pos h1, if_pos (by rw [hcl]; omega)]
        simp only [Option.bind_some]
        have he : cnts l st ++ [(rd_T49 l (i : Int)).f1] = cnts l (i :: st) := by simp [cnts]
        rw [he, hw]
        by_cases h : (i :: st).length ≤ 10
        · rw [if_neg (by rw [hcl]; omega)]; exact go _ (stk_loop hst h1) h
        · rw [if_pos (by rw [hcl]; omega)]; exact Or.inr ⟨rfl, deep _ (stk_loop hst h1) h⟩
      · rw [if_neg h1]
        by_cases h2 : (rd_T49 l (i : Int)).f0 = 24
        · rw [if_pos h2]
          cases st with
          | nil =>
            exfalso
            obtain ⟨sf, hsf⟩ := hfin
            have := stk_none (stk_bad hst h2) d
            rw [show i + 1 + d = l.length by omega, hsf] at this
            cases this
          | cons fr r =>
            have hcl1 : ((cnts l (fr :: r)).length : Int) - 1 = r.length := by rw [hcl]; simp
            rw [hcl1, wrap_small _ (by omega) (by simp at h10; omega), if_pos (by omega), if_pos (by rw [hcl]; simp only [List.length_cons]; omega), Int.toNat_natCast]
            simp only [Option.bind_some]
            have he : (cnts l (fr :: r)).take r.length = cnts l r := by
              simp only [cnts, List.map_cons, List.reverse_cons]
              rw [List.take_left' (by simp)]
            rw [he, hw, if_neg (by rw [hcl]; simp at h10; omega)]
            exact go _ (stk_end hst h2) (by simp at h10; omega)
        · rw [if_neg h2, hw, if_neg (by rw [hcl]; omega)]
          exact go _ (stk_else hst h1 h2) h10
    by_cases hd : (ofV (rd_T49 l (i : Int)).f0).1 = true
    · rw [if_pos hd, hcon]
      simp only [Option.bind_some]
      by_cases hc : (rd_T49 l (i : Int)).f1 ∈ cnts l st
      · rw [decide_eq_true hc]
        simp only [lir_kept.j1]
        rw [if_pos trivial]
        refine Or.inr ⟨rfl, i, Nat.le_refl _, by omega, fun hk => ?_⟩
        obtain ⟨j, hj, he⟩ := hmem.1 hc
        exact (hk st hst).1 hd j hj he
      · rw [decide_eq_false hc]
        exact rest (fun _ j hj he => hc (hmem.2 ⟨j, hj, he⟩))
    · rw [if_neg hd]
      exact rest (fun h => absurd h hd)
theorem kept_all (l : List S49) (hl : l.length ≤ 20000) (hfin : ∃ st, stk l l.length = some st) (k : Nat) (hk : 2 * l.length + 30 < k) :
    (lir_kept.f k l = some true ∧ ∀ j, j < l.length → KOk l j) ∨ (lir_kept.f k l = some false ∧ ∃ j, j < l.length ∧ ¬ KOk l j) := by
  unfold lir_kept.f
  rcases kept_from l hl hfin l.length 0 k [] (by omega) hk rfl (by simp) with ⟨h1, h2⟩ | ⟨h1, j, _, h3, h4⟩
  · exact Or.inl ⟨h1, fun j hj => h2 j (by omega) hj⟩
  · exact Or.inr ⟨h1, j, h3, h4⟩
/-- a step that can be -/
def canS (x : S49) : Bool := canV x.f0 x.f1 x.f2 x.f3 x.f4
theorem check_from (l : List S49) (hl : l.length ≤ 20000) : ∀ (d i k : Nat), i + d = l.length → d + 2 * l.length + 60 < k →
    (lir_Check.l0 k l l (l.length : Int) (i : Int) = lir_Check.l0 (k - d) l l (l.length : Int) (l.length : Int) ∧ ∀ j, i ≤ j → j < l.length → canS (rd_T49 l (j : Int)) = true) ∨ (lir_Check.l0 k l l (l.length : Int) (i : Int) = some 1 ∧ ∃ j, i ≤ j ∧ j < l.length ∧ canS (rd_T49 l (j : Int)) = false) := by
  intro d
  induction d with
  | zero =>
    intro i k hid hk
    obtain rfl : i = l.length := by omega
    exact Or.inl ⟨rfl, fun j h1 h2 => absurd h2 (by omega)⟩
  | succ d ih =>
    intro i k hid hk
    obtain ⟨k, rfl⟩ : ∃ m, k = m + 1 := ⟨k - 1, by omega⟩
    have hw : wrap64 ((i : Int) + 1) = ((i + 1 : Nat) : Int) := by rw [wrap_small _ (by omega) (by omega)]; omega
    have e : lir_Check.l0 (k + 1) l l (l.length : Int) (i : Int) = if canS (rd_T49 l (i : Int)) = true then lir_Check.l0 k l l (l.length : Int) ((i + 1 : Nat) : Int) else some 1 := by
      simp only [lir_Check.l0]
      rw [if_pos (by omega), if_pos (by omega), if_pos (by omega), hw]
      obtain ⟨k2, rfl⟩ : ∃ m, k = m + 2 := ⟨k - 2, by omega⟩
      rw [can_eq]
      rfl
    by_cases hc : canS (rd_T49 l (i : Int)) = true
    · rw [e, if_pos hc]
      rcases ih (i + 1) k (by omega) (by omega) with ⟨h2, h3⟩ | ⟨h1, j, hj1, hj2, hj3⟩
      · refine Or.inl ⟨by rw [h2, show k + 1 - (d + 1) = k - d by omega], fun j hj hjl => ?_⟩
        by_cases ej : j = i
        · subst ej; exact hc
        · exact h3 j (by omega) hjl
      · exact Or.inr ⟨h1, j, by omega, hj2, hj3⟩
    · rw [e, if_neg hc]
      exact Or.inr ⟨rfl, i, Nat.le_refl _, by omega, by simpa using hc⟩
/-- what a program that passes is -/
structure Good (l : List S49) (E : List Int) : Prop where
  len : l.length ≤ 20000
  can : ∀ j, j < l.length → canS (rd_T49 l (j : Int)) = true
  fin : stk l l.length = some []
  kok : ∀ j, j < l.length → KOk l j
  out : OutOk l l.length E
end Go.Proofs.Ytpeljnnbknnbmaa.PD
