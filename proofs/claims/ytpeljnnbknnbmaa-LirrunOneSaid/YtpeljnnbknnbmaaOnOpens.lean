import Derived.Test.YtpeljnnbknnbmaaOnWWords
import Derived.Deep.Slices
import Derived.SizedLaws
import Derived.WideShapes
import Derived.ChangeArms
import Derived.OpenShut
import Derived.ProofKit
/- How arguments' data are opened: a struct, an array, a slice of whatever can be opened reads as a value of its own kind. Plain theorems over the kit's words; no conditions. -/
namespace Go.Proofs.Ytpeljnnbknnbmaa.Opens
open Go.RowKit Go.Proofs.YtpeljnnbknnbmaaW.PrintWords Go.ChangeShapes Go.WideShapes Go.Deep
variable {P : Program}
set_option linter.unusedVariables false
/-- What a reading of t's cells tells: they are some a, which is good. -/
structure Opens (P : Program) (t : TypeId) {α : Type} (K : World → α → List Value → Prop) (good : α → Prop) : Prop where
  get : ∀ {H : Type} {enc : TypeId × Value → H} {w : World} {base : Nat} {spare : Nat → Bool} {held : Bool} {fuel : Nat} {cs : List Value} {x : DataW H × List MemPlace},
    DataW.trod enc P w base spare held fuel t cs = some x → (x.1.weights P t).all (· ≤ reachBytes) = true → ∃ a, K w a cs ∧ good a
theorem opens_int {t : TypeId} {k : IntKind} (ht : P.underlying t = some (.int k)) : Opens P t (Kd.int k).K (fun n => (Lit.int k n).wf = true) := by
  constructor
  intro H enc w base spare held fuel cs x h _
  obtain ⟨n, rfl, _, hw⟩ := DataW.trod_int ht h
  exact ⟨n, rfl, hw⟩
/-- Fields, one behind the other, from an offset on. -/
structure OpensF (P : Program) (fs : List Field) (off : Nat) {α : Type} (K : World → α → List Value → Prop) (sz : Nat) (good : α → Prop) : Prop where
  get : ∀ {H : Type} {enc : TypeId × Value → H} {w : World} {base : Nat} {spare : Nat → Bool} {held : Bool} {n : Nat} {CS : List Value} {xs : List (DataW H × List MemPlace)},
    CS.length = off + sz → xs.length = fs.length → (∀ (i : Nat) (f : Field), fs[i]? = some f → DataW.trod enc P w base spare held n f.type ((CS.drop f.offset).take (P.cellsOf f.type)) = xs[i]?) →
    (DataW.weightsEach P (fs.map (·.type)) (xs.map (·.1))).all (· ≤ reachBytes) = true → ∃ a, K w a (CS.drop off) ∧ good a
theorem opensF_one {f : Field} {off : Nat} {α : Type} {d : Kd α} {good : α → Prop} (ho : f.offset = off) (hs : P.cellsOf f.type = d.sz) (h : Opens P f.type d.K good) : OpensF P [f] off d.K d.sz good := by
  constructor
  intro H enc w base spare held n CS xs hl hx ht hw
  match xs, hx with
  | [x], _ =>
    have h0 := ht 0 f rfl
    rw [ho, hs, List.take_of_length_le (by rw [List.length_drop]; omega)] at h0
    simp only [List.map_cons, List.map_nil, DataW.weightsEach, List.append_nil] at hw
    exact h.get h0 hw
theorem opensF_cons {f : Field} {fs : List Field} {off : Nat} {α β : Type} {a : Kd α} {b : Kd β} {ga : α → Prop} {gb : β → Prop} (ho : f.offset = off) (hs : P.cellsOf f.type = a.sz) (h : Opens P f.type a.K ga)
    (hr : OpensF P fs (off + a.sz) b.K b.sz gb) : OpensF P (f :: fs) off (Kd.pair a b).K (Kd.pair a b).sz (fun x => ga x.1 ∧ gb x.2) := by
  constructor
  intro H enc w base spare held n CS xs hl hx ht hw
  match xs, hx with
  | x :: xs, hx =>
    have h0 := ht 0 f rfl
    rw [ho, hs] at h0
    simp only [List.map_cons, DataW.weightsEach, List.all_append, Bool.and_eq_true] at hw
    obtain ⟨y, hy, gy⟩ := h.get h0 hw.1
    have hl' : CS.length = off + (a.sz + b.sz) := hl
    obtain ⟨z, hz, gz⟩ := hr.get (CS := CS) (xs := xs) (by omega) (by simpa using hx) (fun i f' hf => ht (i + 1) f' hf) hw.2
    refine ⟨(y, z), ⟨(CS.drop off).take a.sz, CS.drop (off + a.sz), ?_, hy, hz⟩, gy, gz⟩
    rw [← List.drop_drop, List.take_append_drop]
theorem opens_struct {t : TypeId} {fs : Array Field} {α β : Type} {d : Kd α} {f : β → α} {g : α → β} {good : α → Prop} (ht : P.underlying t = some (.struct fs)) (hc : P.cellsOf t = d.sz) (hfg : ∀ a, f (g a) = a)
    (ho : OpensF P fs.toList 0 d.K d.sz good) : Opens P t (Kd.iso d f).K (fun x => good (f x)) := by
  constructor
  intro H enc w base spare held fuel cs x h hw
  obtain ⟨xs, n, rfl, rfl, hl, hxl, hx⟩ := DataW.trod_struct ht h
  simp only [DataW.weights, ht] at hw
  obtain ⟨a, ha, hg⟩ := ho.get (CS := cs) (xs := xs) (by omega) (by simpa using hxl) (fun i f' hf => hx i f' (by simpa using hf)) hw
  exact ⟨g a, by rw [List.drop_zero] at ha; show d.K w (f (g a)) cs; rw [hfg]; exact ha, by show good (f (g a)); rw [hfg]; exact hg⟩
theorem each_weights {H : Type} {ts : List TypeId} {ds : List (DataW H)} (h : (DataW.weightsEach P ts ds).all (· ≤ reachBytes) = true) {j : Nat} {t : TypeId} {d : DataW H} (ht : ts[j]? = some t) (hd : ds[j]? = some d) :
    (d.weights P t).all (· ≤ reachBytes) = true :=
  List.all_eq_true.2 fun x hx => List.all_eq_true.1 h _ (DataW.weights_mem_each ht hd x hx)
end Go.Proofs.Ytpeljnnbknnbmaa.Opens
