/- What a law's argument reads as: a kind's value, out of the row's datum. No condition. -/
import Derived.Test.YtkfijbmplllmlaaDoorWWords
import Derived.OpenShut
import Derived.DataElems
import Derived.DataReads
import Derived.WideShapes
import Derived.SizedLaws
namespace Go.Proofs.YtkfijbmplllmlaaDoor.Lk
open Go Go.Proofs.YtkfijbmplllmlaaDoorW.PrintWords

/-- What reads as a datum of this type is of this kind, and within these bounds. -/
def Reads (P : Program) (t : TypeId) {α : Type} (d : Kd α) (wf : α → Prop) : Prop :=
  ∀ (H : Type) (enc : TypeId × Value → H) (W : World) (base : Nat) (sp : Nat → Bool) (held : Bool) (fuel : Nat) (cs : List Value) (x : DataW H) (p : List MemPlace),
    DataW.trod enc P W base sp held fuel t cs = some (x, p) → (x.weights P t).all (· ≤ reachBytes) = true → ∃ v, d.K W v cs ∧ wf v
theorem reads_string {P : Program} {t : TypeId} (ht : P.underlying t = some .string) : Reads P t Kd.string (fun s => s.size ≤ 140737488351232) := by
  intro H enc W base sp held fuel cs x p h hw
  obtain ⟨s, rfl, hx, _⟩ := DataW.trod_string ht h
  simp only [Prod.mk.injEq] at hx
  refine ⟨s, rfl, ?_⟩
  rw [hx.1] at hw
  simp only [DataW.weights, List.all_cons, List.all_nil, Bool.and_true, decide_eq_true_eq, Array.length_toList] at hw
  exact hw
theorem weightsAll_mem {H : Type} {P : Program} {e : TypeId} {q : Nat → Bool} : ∀ {l : List (DataW H)}, (DataW.weightsAll P e l).all q = true → ∀ d ∈ l, (d.weights P e).all q = true
  | [], _, _, h => by cases h
  | a :: l, h, d, hd => by
    simp only [DataW.weightsAll, List.all_append, Bool.and_eq_true] at h
    rcases List.mem_cons.1 hd with rfl | hd
    · exact h.1
    · exact weightsAll_mem h.2 d hd
theorem reads_each {P : Program} {e : TypeId} {α : Type} {d : Kd α} {wf : α → Prop} (he : Reads P e d wf) {H : Type} {enc : TypeId × Value → H} {W : World} {base : Nat} {sp : Nat → Bool} {held : Bool} {fuel : Nat}
    (row : Nat → Option (List Value)) : ∀ (elems : List (DataW H × List MemPlace)), (∀ i, i < elems.length → (row i).bind (DataW.trod enc P W base sp held fuel e) = elems[i]?) →
      (∀ y ∈ elems, (y.1.weights P e).all (· ≤ reachBytes) = true) → ∃ xs : List α, xs.length = elems.length ∧ (∀ x ∈ xs, wf x) ∧ ∀ (j : Nat) (x : α), xs[j]? = some x → ∃ c, row j = some c ∧ d.K W x c := by
  intro elems
  induction elems generalizing row with
  | nil => intro _ _; exact ⟨[], rfl, by simp, by simp⟩
  | cons y r ih =>
    intro h hw
    have h0 := h 0 (by simp)
    simp only [List.getElem?_cons_zero, Option.bind_eq_some_iff] at h0
    obtain ⟨c, hc, ht⟩ := h0
    obtain ⟨v, hv, hwf⟩ := he H enc W base sp held fuel c y.1 y.2 ht (hw y (by simp))
    obtain ⟨xs, h1, h2, h3⟩ := ih (fun i => row (i + 1)) (fun i hi => by have := h (i + 1) (by simp; omega); simpa using this) (fun z hz => hw z (by simp [hz]))
    refine ⟨v :: xs, by simp [h1], ?_, ?_⟩
    · intro x hx
      rcases List.mem_cons.1 hx with rfl | hx
      · exact hwf
      · exact h2 x hx
    · intro j x hj
      cases j with
      | zero => simp at hj; subst hj; exact ⟨c, hc, hv⟩
      | succ j => exact h3 j x (by simpa using hj)
theorem reads_slice {P : Program} {t e : TypeId} {α : Type} {d : Kd α} {wf : α → Prop} (ht : P.underlying t = some (.slice e)) (hc : P.cellsOf e = d.sz) (he : Reads P e d wf) :
    Reads P t (Kd.slice e d) (fun l => (∀ x ∈ l, wf x) ∧ l.length * P.bytesOf e ≤ 140737488351232 ∧ l.length ≤ maxLen) := by
  intro H enc W base sp held fuel cs x p h hw
  rcases DataW.trod_slice ht h with ⟨rfl, hx⟩ | ⟨a, len, cap, elems, rest, n, rfl, rfl, hx, hb, hl, hcap, hlen, hel, _, _⟩
  · exact ⟨[], ⟨none, 0, rfl, Nat.le_refl _, rfl, by simp, by simp⟩, by simp, by simp, by simp⟩
  · simp only [Prod.mk.injEq] at hx
    rw [hx.1] at hw
    simp only [DataW.weights, ht, List.all_cons, List.all_append, Bool.and_eq_true, decide_eq_true_eq, List.length_map] at hw
    obtain ⟨xs, h1, h2, h3⟩ := reads_each he (fun i => W.cells? base (a.add (i * P.cellsOf e)) (P.cellsOf e)) elems (fun i hi => hel i (by omega)) (fun y hy => weightsAll_mem hw.2.1 y.1 (List.mem_map_of_mem hy))
    refine ⟨xs, ⟨some a, cap, by rw [h1, hlen], by omega, rfl, by simp only [maxLen] at hcap; omega, fun _ => ⟨a, rfl, fun j x hj => ?_⟩⟩, h2, ?_, by omega⟩
    · obtain ⟨c, hrow, hK⟩ := h3 j x hj
      obtain ⟨_, hlc, hcell⟩ := World.cells?_some hrow
      refine ⟨c, by rw [hlc, hc], hK, fun i u hi => ?_⟩
      have := hcell i (by rw [← hlc]; exact (List.getElem?_eq_some_iff.1 hi).1)
      rw [hi, Addr.add_add, hc] at this
      exact this
    · have : xs.length * P.bytesOf e ≤ (elems.length + rest.length) * P.bytesOf e := Nat.mul_le_mul_right _ (by omega)
      exact Nat.le_trans this hw.1
/-! ### records -/
theorem reads_imp {P : Program} {t : TypeId} {α : Type} {d : Kd α} {wf wf2 : α → Prop} (h : Reads P t d wf) (hi : ∀ a, wf a → wf2 a) : Reads P t d wf2 := by
  intro H enc W base sp held fuel cs x p hd hw
  obtain ⟨v, hv, hwf⟩ := h H enc W base sp held fuel cs x p hd hw
  exact ⟨v, hv, hi v hwf⟩
/-! ### arguments -/
theorem open_slice {P : Program} {t e : TypeId} {α : Type} {d : Kd α} {wf : List α → Prop} (ht : P.underlying t = some (.slice e)) (h : Reads P t (Kd.slice e d) wf) {H : Type} {enc : TypeId × Value → H} {W : World} {r : Reach} {b0 base : Nat} {sp : Nat → Bool} {held : Bool} {v : Value} {x : DataW H} {p : List MemPlace}
    (hv : Value.okWide P W r b0 t v) (hd : DataW.Trod enc P W base sp held t v x p) (hw : (x.weights P t).all (· ≤ reachBytes) = true) :
    ∃ (A : Option Addr) (c : Nat) (l : List α), v = .slice A l.length c ∧ l.length ≤ c ∧ Kd.C d W A l.length l ∧ wf l := by
  obtain ⟨a, len, cap, rfl⟩ := Go.WideShapes.okWide_slice ht hv
  obtain ⟨fuel, hf⟩ := hd
  obtain ⟨l, ⟨A, c, e1, hle, hC⟩, hwf⟩ := h H enc W base sp held fuel _ x p hf hw
  simp [Value.cells] at e1
  obtain ⟨rfl, rfl, rfl⟩ := e1
  exact ⟨_, _, l, rfl, hle, hC, hwf⟩
end Go.Proofs.YtkfijbmplllmlaaDoor.Lk
