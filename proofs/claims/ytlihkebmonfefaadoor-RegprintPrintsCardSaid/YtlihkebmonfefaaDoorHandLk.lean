/- What a law's argument reads as: a kind's value, out of the row's datum. No condition. -/
import Derived.Test.YtlihkebmonfefaaDoorWWords
import Derived.OpenShut
import Derived.DataElems
import Derived.DataReads
import Derived.WideShapes
import Derived.SizedLaws
namespace Go.Proofs.YtlihkebmonfefaaDoor.Lk
open Go Go.Proofs.YtlihkebmonfefaaDoorW.PrintWords
def Reads (P : Program) (t : TypeId) {α : Type} (d : Kd α) (wf : α → Prop) : Prop :=
 ∀ (H : Type) (enc : TypeId × Value → H) (W : World) (base : Nat) (sp : Nat → Bool) (held : Bool) (fuel : Nat) (cs : List Value) (x : DataW H) (p : List MemPlace),
  DataW.trod enc P W base sp held fuel t cs = some (x, p) → (x.weights P t).all (· ≤ reachBytes) = true → ∃ v, d.K W v cs ∧ wf v
theorem reads_int {P : Program} {t : TypeId} {k : IntKind} (ht : P.underlying t = some (.int k)) : Reads P t (Kd.int k) (fun n => (Lit.int k n).wf = true) := by
 intro H enc W base sp held fuel cs x p h _
 obtain ⟨n, rfl, _, hw⟩ := DataW.trod_int ht h
 exact ⟨n, rfl, hw⟩
theorem weightsAll_mem {H : Type} {P : Program} {e : TypeId} {q : Nat → Bool} : ∀ {l : List (DataW H)}, (DataW.weightsAll P e l).all q = true → ∀ d ∈ l, (d.weights P e).all q = true
 | [], _, _, h => by cases h
 | a :: l, h, d, hd => by
  simp only [DataW.weightsAll, List.all_append, Bool.and_eq_true] at h
  rcases List.mem_cons.1 hd with rfl | hd
  ·exact h.1
  ·exact weightsAll_mem h.2 d hd
theorem reads_each {P : Program} {e : TypeId} {α : Type} {d : Kd α} {wf : α → Prop} (he : Reads P e d wf) {H : Type} {enc : TypeId × Value → H} {W : World} {base : Nat} {sp : Nat → Bool} {held : Bool} {fuel : Nat}
  (row : Nat → Option (List Value)) : ∀ (elems : List (DataW H × List MemPlace)), (∀ i, i < elems.length → (row i).bind (DataW.trod enc P W base sp held fuel e) = elems[i]?) →
   (∀ y ∈ elems, (y.1.weights P e).all (· ≤ reachBytes) = true) → ∃ xs : List α, xs.length = elems.length ∧ (∀ x ∈ xs, wf x) ∧ ∀ (j : Nat) (x : α), xs[j]? = some x → ∃ c, row j = some c ∧ d.K W x c := by
 intro elems
 induction elems generalizing row with
 | nil => intro _ _; exact ⟨[], rfl, by simp, by simp⟩
 | cons y r ih =>
  intro h hw
  have h0 := h 0 (by simp)
  simp only [List.getElem?_cons_zero, Option.bind_eq_some_iff] at h0
  obtain ⟨c, hc, ht⟩ := h0
  obtain ⟨v, hv, hwf⟩ := he H enc W base sp held fuel c y.1 y.2 ht (hw y (by simp))
  obtain ⟨xs, h1, h2, h3⟩ := ih (fun i => row (i + 1)) (fun i hi => by have := h (i + 1) (by simp; omega); simpa using this) (fun z hz => hw z (by simp [hz]))
  refine ⟨v :: xs, by simp [h1], ?_, ?_⟩
  ·intro x hx
   rcases List.mem_cons.1 hx with rfl | hx
   ·exact hwf
   ·exact h2 x hx
  ·intro j x hj
   cases j with
   | zero => simp at hj; subst hj; exact ⟨c, hc, hv⟩
   | succ j => exact h3 j x (by simpa using hj)
theorem reads_slice {P : Program} {t e : TypeId} {α : Type} {d : Kd α} {wf : α → Prop} (ht : P.underlying t = some (.slice e)) (hc : P.cellsOf e = d.sz) (he : Reads P e d wf) :
  Reads P t (Kd.slice e d) (fun l => (∀ x ∈ l, wf x) ∧ l.length * P.bytesOf e ≤ 140737488351232 ∧ l.length ≤ maxLen) := by
 intro H enc W base sp held fuel cs x p h hw
 rcases DataW.trod_slice ht h with ⟨rfl, hx⟩ | ⟨a, len, cap, elems, rest, n, rfl, rfl, hx, hb, hl, hcap, hlen, hel, _, _⟩
 ·exact ⟨[], ⟨none, 0, rfl, Nat.le_refl _, rfl, by simp, by simp⟩, by simp, by simp, by simp⟩
 ·simp only [Prod.mk.injEq] at hx
  rw [hx.1] at hw
  simp only [DataW.weights, ht, List.all_cons, List.all_append, Bool.and_eq_true, decide_eq_true_eq, List.length_map] at hw
  obtain ⟨xs, h1, h2, h3⟩ := reads_each he (fun i => W.cells? base (a.add (i * P.cellsOf e)) (P.cellsOf e)) elems (fun i hi => hel i (by omega)) (fun y hy => weightsAll_mem hw.2.1 y.1 (List.mem_map_of_mem hy))
  refine ⟨xs, ⟨some a, cap, by rw [h1, hlen], by omega, rfl, by simp only [maxLen] at hcap; omega, fun _ => ⟨a, rfl, fun j x hj => ?_⟩⟩, h2, ?_, by omega⟩
  ·obtain ⟨c, hrow, hK⟩ := h3 j x hj
   obtain ⟨_, hlc, hcell⟩ := World.cells?_some hrow
   refine ⟨c, by rw [hlc, hc], hK, fun i u hi => ?_⟩
   have := hcell i (by rw [← hlc]; exact (List.getElem?_eq_some_iff.1 hi).1)
   rw [hi, Addr.add_add, hc] at this
   exact this
  ·have : xs.length * P.bytesOf e ≤ (elems.length + rest.length) * P.bytesOf e := Nat.mul_le_mul_right _ (by omega)
   exact Nat.le_trans this hw.1
def ReadsFs (P : Program) (ts : List TypeId) {α : Type} (d : Kd α) (wf : α → Prop) : Prop :=
 ∀ (H : Type) (enc : TypeId × Value → H) (W : World) (base : Nat) (sp : Nat → Bool) (held : Bool) (fuel : Nat) (cs : List Value) (xs : List (DataW H × List MemPlace)),
  cs.length = (ts.map P.cellsOf).sum → xs.length = ts.length →
  (∀ (i : Nat) (t : TypeId), ts[i]? = some t → DataW.trod enc P W base sp held fuel t ((cs.drop ((ts.take i).map P.cellsOf).sum).take (P.cellsOf t)) = xs[i]?) →
  (DataW.weightsEach P ts (xs.map (·.1))).all (· ≤ reachBytes) = true → ∃ v, d.K W v cs ∧ wf v
theorem readsFs_one {P : Program} {t : TypeId} {α : Type} {d : Kd α} {wf : α → Prop} (h : Reads P t d wf) : ReadsFs P [t] d wf := by
 intro H enc W base sp held fuel cs xs hl hx ht hw
 match xs, hx with
 | [y], _ =>
  have := ht 0 t rfl
  simp only [List.map_cons, List.map_nil, List.sum_cons, List.sum_nil, Nat.add_zero] at hl
  simp only [List.take_zero, List.map_nil, List.sum_nil, List.drop_zero, List.getElem?_cons_zero] at this
  rw [List.take_of_length_le (by omega)] at this
  simp only [List.map_cons, List.map_nil, DataW.weightsEach, List.append_nil] at hw
  exact h H enc W base sp held fuel cs y.1 y.2 this hw
theorem readsFs_cons {P : Program} {t : TypeId} {ts : List TypeId} {α β : Type} {d : Kd α} {wf : α → Prop} {d2 : Kd β} {wf2 : β → Prop} (h : Reads P t d wf) (h2 : ReadsFs P ts d2 wf2) :
  ReadsFs P (t :: ts) (Kd.pair d d2) (fun x => wf x.1 ∧ wf2 x.2) := by
 intro H enc W base sp held fuel cs xs hl hx ht hw
 match xs, hx with
 | y :: ys, hx =>
  have h0 := ht 0 t rfl
  simp only [List.map_cons, List.sum_cons] at hl
  simp only [List.take_zero, List.map_nil, List.sum_nil, List.drop_zero, List.getElem?_cons_zero] at h0
  simp only [List.map_cons, DataW.weightsEach, List.all_append, Bool.and_eq_true] at hw
  obtain ⟨v, hv, hwf⟩ := h H enc W base sp held fuel _ y.1 y.2 h0 hw.1
  obtain ⟨v2, hv2, hwf2⟩ := h2 H enc W base sp held fuel (cs.drop (P.cellsOf t)) ys (by rw [List.length_drop]; omega) (by simpa using hx) (fun i u hu => by
   have := ht (i + 1) u (by simpa using hu)
   simp only [List.take_succ_cons, List.map_cons, List.sum_cons, List.getElem?_cons_succ] at this
   rw [List.drop_drop]
   exact this) hw.2
  exact ⟨(v, v2), ⟨_, _, (List.take_append_drop (P.cellsOf t) cs).symm, hv, hv2⟩, hwf, hwf2⟩
theorem reads_struct {P : Program} {t : TypeId} {fs : Array Field} (ts : List TypeId) {α : Type} {d : Kd α} {wf : α → Prop} (ht : P.underlying t = some (.struct fs)) (hts : fs.toList.map (·.type) = ts) (hc : P.cellsOf t = (ts.map P.cellsOf).sum)
  (ho : fs.toList.map (·.offset) = (List.range fs.size).map fun i => ((ts.take i).map P.cellsOf).sum) (h : ReadsFs P ts d wf) : Reads P t d wf := by
 intro H enc W base sp held fuel cs x p hd hw
 obtain ⟨xs, n, rfl, hx, hl, hxl, hall⟩ := DataW.trod_struct ht hd
 simp only [Prod.mk.injEq] at hx
 rw [hx.1] at hw
 simp only [DataW.weights, ht] at hw
 rw [show (fs.toList.map fun x => x.type) = ts from hts] at hw
 have hsz : ts.length = fs.size := by rw [← hts]; simp
 refine h H enc W base sp held n cs xs (by rw [hl, hc]) (by rw [hxl, hsz]) (fun i u hu => ?_) hw
 have hi : i < fs.size := by rw [← hsz]; exact (List.getElem?_eq_some_iff.1 hu).1
 have hf : fs[i]? = some fs[i] := Array.getElem?_eq_getElem hi
 have h1 := hall i fs[i] hf
 have h2 : fs[i].type = u := by
  have := congrArg (·[i]?) hts
  simp only [List.getElem?_map, Array.getElem?_toList, hf, Option.map_some, hu, Option.some.injEq] at this
  exact this
 have h3 : fs[i].offset = ((ts.take i).map P.cellsOf).sum := by
  have := congrArg (·[i]?) ho
  simp only [List.getElem?_map, Array.getElem?_toList, hf, Option.map_some, List.getElem?_range hi, Option.some.injEq] at this
  exact this
 rw [h2, h3] at h1
 exact h1
theorem reads_iso {P : Program} {t : TypeId} {α β : Type} {d : Kd α} {wf : α → Prop} (f : β → α) (g : α → β) (hg : ∀ a, f (g a) = a) (h : Reads P t d wf) : Reads P t (Kd.iso d f) (fun b => wf (f b)) := by
 intro H enc W base sp held fuel cs x p hd hw
 obtain ⟨v, hv, hwf⟩ := h H enc W base sp held fuel cs x p hd hw
 exact ⟨g v, by show d.K W (f (g v)) cs; rw [hg]; exact hv, by show wf (f (g v)); rw [hg]; exact hwf⟩
theorem reads_imp {P : Program} {t : TypeId} {α : Type} {d : Kd α} {wf wf2 : α → Prop} (h : Reads P t d wf) (hi : ∀ a, wf a → wf2 a) : Reads P t d wf2 := by
 intro H enc W base sp held fuel cs x p hd hw
 obtain ⟨v, hv, hwf⟩ := h H enc W base sp held fuel cs x p hd hw
 exact ⟨v, hv, hi v hwf⟩
theorem open_agg {P : Program} {t : TypeId} {α : Type} {d : Kd α} {wf : α → Prop} (ht : (match P.underlying t with | some (.struct _) | some (.array _ _) => true | _ => false) = true) (h : Reads P t d wf) {H : Type} {enc : TypeId × Value → H} {W : World} {r : Reach} {b0 base : Nat} {sp : Nat → Bool} {held : Bool} {v : Value} {x : DataW H} {p : List MemPlace}
  (hv : Value.okWide P W r b0 t v) (hd : DataW.Trod enc P W base sp held t v x p) (hw : (x.weights P t).all (· ≤ reachBytes) = true) :
  ∃ (cs : List Value) (y : α), v = .agg cs.toArray ∧ d.K W y cs ∧ wf y := by
 have hv2 : ∃ cs, v = .agg cs := by
  unfold Value.okWide at hv
  split at hv
  ·obtain ⟨cs, h1, _⟩ := hv; exact ⟨cs, h1⟩
  ·obtain ⟨cs, h1, _⟩ := hv; exact ⟨cs, h1⟩
  ·rename_i h1 h2
   split at ht
   ·rename_i e; exact absurd e (h1 _)
   ·rename_i e; exact absurd e (h2 _ _)
   ·cases ht
 obtain ⟨cs, rfl⟩ := hv2
 obtain ⟨fuel, hf⟩ := hd
 obtain ⟨y, hK, hwf⟩ := h H enc W base sp held fuel _ x p hf hw
 exact ⟨cs.toList, y, by simp, hK, hwf⟩
end Go.Proofs.YtlihkebmonfefaaDoor.Lk
