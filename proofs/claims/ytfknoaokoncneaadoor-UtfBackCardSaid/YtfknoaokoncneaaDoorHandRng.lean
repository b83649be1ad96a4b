/- A loop over the code points of a text. No condition beyond a bound on the text's length. -/
import Derived.Test.YtfknoaokoncneaaDoorHandPts
set_option linter.unusedSimpArgs false
set_option linter.unusedVariables false
namespace Go.Proofs.YtfknoaokoncneaaDoor.HandPts
open Go.RowKit Go.Shelf Go.Proofs.YtfknoaokoncneaaDoorW.PrintWords Go.Proofs.YtfknoaokoncneaaDoorW.PrintLast Go.Proofs.YtfknoaokoncneaaDoorW.PrintMore Go.Proofs.YtfknoaokoncneaaDoor.PU Go.Proofs.YtfknoaokoncneaaDoor.PlU
/-- How a round may be left. -/
def roundEnds (B Bs : Nat) (I X : List Int → World → Prop) (xs : List Int) (W : World) : Exit → Act → World → Prop
  | .normal, _, W' => KeepsFrom B W W' ∧ KeepsB Bs W W' ∧ I xs W'
  | .ret, _, W' => KeepsFrom B W W' ∧ X xs W'
  | _, _, _ => False
theorem far_put {W : World} {k Bs : Nat} {o o' : Obj} {t : TypeId} {v : Value} (h : Boxed W Bs t v) (hk : W.heap[k]? = some o) (ho : o.isCells = false) : Boxed (W.putObj k o') Bs t v := by
  have hne : Bs ≠ k := by
    rintro rfl
    rw [show W.heap[Bs]? = _ from h] at hk
    cases hk
    cases ho
  exact (World.putObj_heap_other hne).trans h
theorem obj_set {W : World} {k Bs : Nat} {o : Obj} {t : TypeId} {v : Value} (u : Value) (h : Boxed W Bs t v) (hk : W.heap[k]? = some o) (ho : o.isCells = false) : (W.setCell ⟨Bs, 0, none⟩ u).heap[k]? = some o := by
  have hne : k ≠ Bs := by
    rintro rfl
    rw [show W.heap[k]? = _ from h] at hk
    cases hk
    cases ho
  rw [Below.heap_setCell _ _ _ _ hne]
  exact hk
set_option maxRecDepth 100000 in
theorem range60 {ps : Array Tmp} {assign body : Code} {Q : Exit → Act → World → Prop} {a : Act} {w : World} {g : Operand} (m : Nat) (hm : 2 ≤ m) (Bs : Nat) (s0 : ByteArray) (hs : s0.size ≤ 1000000)
    (hg : a.eval g = .func (.func 60) #[] #[.pointer (some ⟨Bs, 0, none⟩)]) (hps : ps.size = 1) (hc : Boxed w Bs 9 (.string s0)) (I X : List Int → World → Prop)
    (hIT : ∀ pre W, I pre W → Tabs W) (hIb : ∀ pre W W', I pre W → Below W.heap.size W W' → I pre W')
    (hIs : ∀ pre W (t u : ByteArray), I pre W → Boxed W Bs 9 (.string t) → I pre (W.setCell ⟨Bs, 0, none⟩ (.string u)))
    (hIp : ∀ pre W k o o', I pre W → w.heap.size ≤ k → W.heap[k]? = some o → o.isCells = false → I pre (W.putObj k o'))
    (hXp : ∀ pre W k o o', X pre W → w.heap.size ≤ k → W.heap[k]? = some o → o.isCells = false → X pre (W.putObj k o'))
    (h0 : I [] w) (a₁ : Int → Act)
    (hassign : ∀ (l : Nat) (x : Int) (W : World) (K : Act → World → Prop), K (a₁ x) W → assign.wpIn (Fence.wide.inRound l) (m - 1 - 1) Tryd.prog (Exit.then K (fun _ _ _ => False)) { tmps := (ps.zip #[.int .i64 x]).foldl (fun t (p, v) => t.setIfInBounds p v) a.tmps, defers := [] } W)
    (hbody : ∀ (l : Nat) (pre : List Int) (x : Int) (W : World), I pre W → pre.length < s0.size → body.wpIn (Fence.wide.inRound l) (m - 1 - 1) Tryd.prog (roundEnds w.heap.size Bs I X (pre ++ [x]) W) (a₁ x) W)
    (hdone : ∀ (D : Nat) (W : World), w.heap.size ≤ D → I (allU s0) W → W.heap[D]? = some (.deferred (some [])) → Q .normal { a with defers := { target := .collected D, args := #[] } :: a.defers } W)
    (hstop : ∀ (D : Nat) (pre rest : List Int) (W : World), w.heap.size ≤ D → pre ++ rest = allU s0 → X pre W → W.heap[D]? = some (.deferred (some [])) → Code.ret.wpIn Fence.wide m Tryd.prog Q { a with defers := { target := .collected D, args := #[] } :: a.defers } W) :
    (Code.rangeFunc g ps assign body).wpIn Fence.wide m Tryd.prog Q a w := by
  refine wpIn_rangeFunc fun fn hfn => ?_
  -- the record of the loop
  obtain ⟨rc, hrc⟩ : ∃ rc : LoopState → Option Code → Loop, rc = fun st pe => { state := st, pending := pe, fn, tmps := a.tmps, params := ps, assign, body, defers := w.heap.size } := ⟨_, rfl⟩
  have hst : ∀ st pe, (rc st pe).state = st := fun st pe => by rw [hrc]
  have hpd : ∀ st pe, (rc st pe).pending = pe := fun st pe => by rw [hrc]
  have hup : ∀ st pe st' pe', ({ rc st pe with state := st', pending := pe' } : Loop) = rc st' pe' := fun st pe st' pe' => by rw [hrc]
  have hup1 : ∀ st pe st', ({ rc st pe with state := st' } : Loop) = rc st' pe := fun st pe st' => by rw [hrc]
  -- the world behind its laying
  have hlay : Below w.heap.size w ((w.alloc (.deferred (some []))).alloc (.loop (rc .ready none))) := ((Below.refl _ w).alloc (Nat.le_refl _) _).alloc (by simp) _
  have hlp : ((w.alloc (.deferred (some []))).alloc (.loop (rc .ready none))).heap[w.heap.size + 1]? = some (.loop (rc .ready none)) := by
    have e := World.alloc_heap_new (w.alloc (.deferred (some []))) (.loop (rc .ready none))
    rwa [World.size_alloc] at e
  have hdf : ((w.alloc (.deferred (some []))).alloc (.loop (rc .ready none))).heap[w.heap.size]? = some (.deferred (some [])) :=
    (Below.heap_alloc _ _ _ (by simp)).trans (World.alloc_heap_new w _)
  have henter := run_enterLoop_outer (P := Tryd.prog) (w := w) fn a.tmps ps assign body
  rw [show ({ state := .ready, pending := none, fn, tmps := a.tmps, params := ps, assign, body, defers := w.heap.size } : Loop) = rc .ready none by rw [hrc]] at henter
  generalize (w.alloc (.deferred (some []))).alloc (.loop (rc .ready none)) = W1 at hlay hlp hdf henter
  refine ⟨w.heap.size + 1, [{ target := .collected w.heap.size, args := #[] }], W1, { target := .fn (.func 60) #[.pointer (some ⟨Bs, 0, none⟩)], args := #[.func (.yield (w.heap.size + 1)) #[] #[]] }, W1, 60,
    #[.func (.yield (w.heap.size + 1)) #[] #[], .pointer (some ⟨Bs, 0, none⟩)], W1, henter, ?_, fun _ _ => trivial, ?_, fun _ => by omega, ?_⟩
  · simp only [resolve, hg]
    simp [go_sem]
  · have e60 := enters_of Tryd.func60 (by kernel_rfl) rfl
    simp [invoke, go_sem, e60]
  · refine (each1_in (m - 1) (by omega) (w.heap.size + 1) Bs s0 hs
      (fun pre W => I pre W ∧ W.heap[w.heap.size + 1]? = some (.loop (rc .ready none)) ∧ W.heap[w.heap.size]? = some (.deferred (some [])))
      (fun pre W => X pre W ∧ W.heap[w.heap.size + 1]? = some (.loop (rc .done (some .ret))) ∧ W.heap[w.heap.size]? = some (.deferred (some [])))
      (fun pre W h => hIT pre W h.1)
      (fun pre W W' h hb => ⟨hIb pre W W' h.1 hb, (hb.block _ (Array.getElem?_eq_some_iff.1 h.2.1).1).trans h.2.1, (hb.block _ (Array.getElem?_eq_some_iff.1 h.2.2).1).trans h.2.2⟩)
      (fun pre W t u h hb => ⟨hIs pre W t u h.1 hb, obj_set _ hb h.2.1 rfl, obj_set _ hb h.2.2 rfl⟩)
      ?_ W1 (box_under hc hlay) ⟨hIb _ _ _ h0 hlay, hlp, hdf⟩).mono ?_
    · rintro pre x W ⟨hi, hl, hd⟩ hlen
      have hlt := (Array.getElem?_eq_some_iff.1 hl).1
      have hy := run_yield (P := Tryd.prog) (args := #[.int .i64 x]) hl (by rw [hrc]; exact hps.symm)
      rw [hrc] at hy
      refine ⟨fn, _, assign, body, hy, roundIn_of_wpIn hfn (hassign _ x W _ ⟨_, run_beginRound hl (hst _ _), ?_⟩)⟩
      rw [hup1]
      have hl2 : (W.putObj (w.heap.size + 1) (.loop (rc .busy none))).heap[w.heap.size + 1]? = some (.loop (rc .busy none)) := World.putObj_heap_same hlt
      have hd2 : (W.putObj (w.heap.size + 1) (.loop (rc .busy none))).heap[w.heap.size]? = some (.deferred (some [])) := (World.putObj_heap_other (by omega)).trans hd
      refine wpIn_mono (hbody _ pre x _ (hIp _ _ _ _ _ hi (by omega) hl rfl) hlen) ?_
      intro e a3 W3 hp
      cases e with
      | normal =>
        obtain ⟨k1, k2, k3⟩ := hp
        have hl3 := k1.same _ _ (by omega) hl2 rfl
        have hd3 := k1.same _ _ (Nat.le_refl _) hd2 rfl
        have hend := run_endRound (P := Tryd.prog) none hl3
        rw [hup] at hend
        exact ⟨_, _, hend, .inl ⟨rfl, ⟨hIp _ _ _ _ _ k3 (by omega) hl3 rfl, World.putObj_heap_same (Array.getElem?_eq_some_iff.1 hl3).1, (World.putObj_heap_other (by omega)).trans hd3⟩,
          fun t ht => far_put (k2 t (far_put ht hl rfl)) hl3 rfl⟩⟩
      | ret =>
        obtain ⟨k1, k3⟩ := hp
        have hl3 := k1.same _ _ (by omega) hl2 rfl
        have hd3 := k1.same _ _ (Nat.le_refl _) hd2 rfl
        have hend := run_endRound (P := Tryd.prog) (some .ret) hl3
        rw [hup] at hend
        exact ⟨_, _, hend, .inr ⟨rfl, hXp _ _ _ _ _ k3 (by omega) hl3 rfl, World.putObj_heap_same (Array.getElem?_eq_some_iff.1 hl3).1, (World.putObj_heap_other (by omega)).trans hd3⟩⟩
      | exit id => exact hp.elim
      | goto t => exact hp.elim
      | panic ch => exact hp.elim
      | outgrown => exact hp.elim
    · rintro e W2 ⟨⟨v, rfl⟩, (⟨hi, hl, hd⟩ | ⟨pre, rest, hpr, hx, hl, hd⟩)⟩
      · have hend := run_endLoop (P := Tryd.prog) hl (by rw [hst]; simp)
        rw [hpd] at hend
        exact ⟨none, _, hend, hdone _ _ (Nat.le_refl _) (hIp _ _ _ _ _ hi (by omega) hl rfl) ((World.putObj_heap_other (by omega)).trans hd)⟩
      · have hend := run_endLoop (P := Tryd.prog) hl (by rw [hst]; simp)
        rw [hpd] at hend
        exact ⟨some .ret, _, hend, hstop _ pre rest _ (Nat.le_refl _) hpr (hXp _ _ _ _ _ hx (by omega) hl rfl) ((World.putObj_heap_other (by omega)).trans hd)⟩
end Go.Proofs.YtfknoaokoncneaaDoor.HandPts
