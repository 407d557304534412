import Derived.Test.YtpeljnnbknnbmaaRuWWords
import Derived.Deep.Slices
import Derived.SizedLaws
import Derived.WideShapes
import Derived.ChangeArms
import Derived.OpenShut
import Derived.ProofKit
/- How arguments' data are opened: a struct, an array, a slice of whatever can be opened reads as a value of its own kind. Plain theorems over the kit's words; no conditions. -/
namespace Go.Proofs.Ytpeljnnbknnbmaa.Opens
open Go.RowKit Go.Proofs.YtpeljnnbknnbmaaW.PrintWords Go.ChangeShapes Go.WideShapes Go.Deep
variable {P : Program}
set_option linter.unusedVariables false
/-- What a reading of t's cells tells: they are some a, which is good. -/
structure Opens (P : Program) (t : TypeId) {α : Type} (K : World → α → List Value → Prop) (good : α → Prop) : Prop where
  get : ∀ {H : Type} {enc : TypeId × Value → H} {w : World} {base : Nat} {spare : Nat → Bool} {held : Bool} {fuel : Nat} {cs : List Value} {x : DataW H × List MemPlace},
    DataW.trod enc P w base spare held fuel t cs = some x → (x.1.weights P t).all (· ≤ reachBytes) = true → ∃ a, K w a cs ∧ good a
theorem opens_int {t : TypeId} {k : IntKind} (ht : P.underlying t = some (.int k)) : Opens P t (Kd.int k).K (fun n => (Lit.int k n).wf = true) := by
  constructor
  intro H enc w base spare held fuel cs x h _
  obtain ⟨n, rfl, _, hw⟩ := DataW.trod_int ht h
  exact ⟨n, rfl, hw⟩
theorem all_weights {H : Type} {e : TypeId} {p : Nat → Bool} : ∀ {l : List (DataW H)}, (DataW.weightsAll P e l).all p = true → ∀ d ∈ l, (d.weights P e).all p = true
  | [], _, d, hd => by simp at hd
  | a :: l, h, d, hd => by
    simp only [DataW.weightsAll, List.all_append, Bool.and_eq_true] at h
    rcases List.mem_cons.1 hd with rfl | hd
    · exact h.1
    · exact all_weights h.2 d hd
theorem list_of {α : Type} {Q : Nat → α → Prop} : ∀ (n : Nat), (∀ i, i < n → ∃ a, Q i a) → ∃ xs : List α, xs.length = n ∧ ∀ i a, xs[i]? = some a → Q i a
  | 0, _ => ⟨[], rfl, by simp⟩
  | n + 1, h => by
    obtain ⟨xs, hl, hx⟩ := list_of n (fun i hi => h i (by omega))
    obtain ⟨a, ha⟩ := h n (by omega)
    refine ⟨xs ++ [a], by simp [hl], fun i b hb => ?_⟩
    rw [List.getElem?_append] at hb
    split at hb
    · exact hx i b hb
    · rename_i hi
      have : i - xs.length = 0 := by
        have := (List.getElem?_eq_some_iff.1 hb).1
        simp at this
        omega
      rw [this] at hb
      simp at hb
      subst hb
      have : i = n := by omega
      subst this
      exact ha
theorem opens_slice {t e : TypeId} {α : Type} {d : Kd α} {good : α → Prop} {B : Nat} (ht : P.underlying t = some (.slice e)) (he : P.cellsOf e = d.sz) (hb : P.bytesOf e = B) (ho : Opens P e d.K good) :
    Opens P t (Kd.slice e d).K (fun xs => xs.length * B ≤ 140737488351232 ∧ xs.length ≤ maxLen ∧ ∀ x ∈ xs, good x) := by
  constructor
  intro H enc w base spare held fuel cs x h hw
  rcases open_slice ht h with ⟨rfl, rfl⟩ | ⟨a, len, cap, m, n, D, Pl, rfl, hbase, hl, hcap, hmm, rfl, hel⟩
  · exact ⟨[], ⟨none, 0, rfl, Nat.le_refl _, Kd.C_nil d w⟩, by simp, by simp [maxLen], by simp⟩
  · have hlm : len ≤ m := by rw [hmm]; split <;> omega
    simp only [DataW.weights, ht, List.all_cons, List.all_append, Bool.and_eq_true, decide_eq_true_eq, List.length_map, List.length_range, hb] at hw
    have hall := all_weights hw.2.1
    obtain ⟨xs, hxl, hx⟩ := list_of (Q := fun i (a' : α) => ∃ cs', w.cells? base (a.add (i * P.cellsOf e)) (P.cellsOf e) = some cs' ∧ d.K w a' cs' ∧ good a') len (fun i hi => by
      obtain ⟨cs', hc, hd⟩ := hel i (by omega)
      obtain ⟨a', hk, hg⟩ := ho.get hd (hall _ (List.mem_map.2 ⟨i, List.mem_range.2 hi, rfl⟩))
      exact ⟨a', cs', hc, hk, hg⟩)
    subst hxl
    refine ⟨xs, ⟨some a, cap, rfl, hl, rfl, by unfold maxLen at hcap; omega, fun _ => ⟨a, rfl, fun j p hj => ?_⟩⟩, ?_, by omega, fun y hy => ?_⟩
    · obtain ⟨cs', hc, hk, _⟩ := hx j p hj
      obtain ⟨_, hcl, hcc⟩ := World.cells?_some hc
      refine ⟨cs', by rw [hcl, he], hk, fun i u hu => ?_⟩
      have hi : i < P.cellsOf e := by
        have := (List.getElem?_eq_some_iff.1 hu).1
        omega
      have := hcc i hi
      rw [Addr.add_add, he] at this
      rw [this, hu]
    · unfold reachBytes at hw
      exact Nat.le_trans (Nat.mul_le_mul_right _ (by omega)) hw.1
    · obtain ⟨j, hj, rfl⟩ := List.getElem_of_mem hy
      obtain ⟨_, _, _, hg⟩ := hx j _ (List.getElem?_eq_getElem hj)
      exact hg
/-- Fields, one behind the other, from an offset on. -/
structure OpensF (P : Program) (fs : List Field) (off : Nat) {α : Type} (K : World → α → List Value → Prop) (sz : Nat) (good : α → Prop) : Prop where
  get : ∀ {H : Type} {enc : TypeId × Value → H} {w : World} {base : Nat} {spare : Nat → Bool} {held : Bool} {n : Nat} {CS : List Value} {xs : List (DataW H × List MemPlace)},
    CS.length = off + sz → xs.length = fs.length → (∀ (i : Nat) (f : Field), fs[i]? = some f → DataW.trod enc P w base spare held n f.type ((CS.drop f.offset).take (P.cellsOf f.type)) = xs[i]?) →
    (DataW.weightsEach P (fs.map (·.type)) (xs.map (·.1))).all (· ≤ reachBytes) = true → ∃ a, K w a (CS.drop off) ∧ good a
theorem opensF_one {f : Field} {off : Nat} {α : Type} {d : Kd α} {good : α → Prop} (ho : f.offset = off) (hs : P.cellsOf f.type = d.sz) (h : Opens P f.type d.K good) : OpensF P [f] off d.K d.sz good := by
  constructor
  intro H enc w base spare held n CS xs hl hx ht hw
  match xs, hx with
  | [x], _ =>
    have h0 := ht 0 f rfl
    rw [ho, hs, List.take_of_length_le (by rw [List.length_drop]; omega)] at h0
    simp only [List.map_cons, List.map_nil, DataW.weightsEach, List.append_nil] at hw
    exact h.get h0 hw
theorem opensF_cons {f : Field} {fs : List Field} {off : Nat} {α β : Type} {a : Kd α} {b : Kd β} {ga : α → Prop} {gb : β → Prop} (ho : f.offset = off) (hs : P.cellsOf f.type = a.sz) (h : Opens P f.type a.K ga)
    (hr : OpensF P fs (off + a.sz) b.K b.sz gb) : OpensF P (f :: fs) off (Kd.pair a b).K (Kd.pair a b).sz (fun x => ga x.1 ∧ gb x.2) := by
  constructor
  intro H enc w base spare held n CS xs hl hx ht hw
  match xs, hx with
  | x :: xs, hx =>
    have h0 := ht 0 f rfl
    rw [ho, hs] at h0
    simp only [List.map_cons, DataW.weightsEach, List.all_append, Bool.and_eq_true] at hw
    obtain ⟨y, hy, gy⟩ := h.get h0 hw.1
    have hl' : CS.length = off + (a.sz + b.sz) := hl
    obtain ⟨z, hz, gz⟩ := hr.get (CS := CS) (xs := xs) (by omega) (by simpa using hx) (fun i f' hf => ht (i + 1) f' hf) hw.2
    refine ⟨(y, z), ⟨(CS.drop off).take a.sz, CS.drop (off + a.sz), ?_, hy, hz⟩, gy, gz⟩
    rw [← List.drop_drop, List.take_append_drop]
theorem opens_struct {t : TypeId} {fs : Array Field} {α β : Type} {d : Kd α} {f : β → α} {g : α → β} {good : α → Prop} (ht : P.underlying t = some (.struct fs)) (hc : P.cellsOf t = d.sz) (hfg : ∀ a, f (g a) = a)
    (ho : OpensF P fs.toList 0 d.K d.sz good) : Opens P t (Kd.iso d f).K (fun x => good (f x)) := by
  constructor
  intro H enc w base spare held fuel cs x h hw
  obtain ⟨xs, n, rfl, rfl, hl, hxl, hx⟩ := DataW.trod_struct ht h
  simp only [DataW.weights, ht] at hw
  obtain ⟨a, ha, hg⟩ := ho.get (CS := cs) (xs := xs) (by omega) (by simpa using hxl) (fun i f' hf => hx i f' (by simpa using hf)) hw
  exact ⟨g a, by rw [List.drop_zero] at ha; show d.K w (f (g a)) cs; rw [hfg]; exact ha, by show good (f (g a)); rw [hfg]; exact hg⟩
theorem each_weights {H : Type} {ts : List TypeId} {ds : List (DataW H)} (h : (DataW.weightsEach P ts ds).all (· ≤ reachBytes) = true) {j : Nat} {t : TypeId} {d : DataW H} (ht : ts[j]? = some t) (hd : ds[j]? = some d) :
    (d.weights P t).all (· ≤ reachBytes) = true :=
  List.all_eq_true.2 fun x hx => List.all_eq_true.1 h _ (DataW.weights_mem_each ht hd x hx)
end Go.Proofs.Ytpeljnnbknnbmaa.Opens
