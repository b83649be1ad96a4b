import Derived.Test.YtlihkebmonfefaaDoorWWords
import Derived.Lib.LaidU8
import Derived.FnData
import Derived.OpenShut
namespace Go.Proofs.YtlihkebmonfefaaDoor.Tabs
open Go Go.Lib Go.Proofs.YtlihkebmonfefaaDoorW.PrintWords
theorem tab_of_reads {α : Type} (d : Kd α) (dat : α → DataW Unit) {P : Program} {w : World} {name : String} {g n : Nat} {t e : TypeId} (hn : P.globalNamed name = some g)
    (hy : (P.globals[g]?).map (·.type) = some t) (ht : P.underlying t = some (.array n e)) (hc : P.cellsOf e = d.sz)
    (hK : ∀ m cs x p, DataW.trod (fun _ => ()) P w 0 (fun _ => true) false m e cs = some (dat x, p) → d.K w x cs) {xs : List α} {N : Nat} (hN : xs.length = N) (hb : N ≤ 9223372036854775807)
    {D : DataW Unit} (hD : D = .agg (xs.map dat)) (h : VarReads P w name D) : Kd.C d w (some ⟨g, 0, none⟩) N xs := by
  subst hD; subst hN
  obtain ⟨g', t', cs, fuel, p, h1, h2, h3, h4⟩ := h
  obtain rfl := Option.some.inj (hn.symm.trans h1)
  obtain rfl := Option.some.inj (hy.symm.trans h2)
  obtain ⟨ys, m, rfl, hx, hl, hyl, hall⟩ := DataW.trod_array ht h4
  have hys : ys.map (·.1) = xs.map dat := by
    have := congrArg Prod.fst hx
    simpa using this.symm
  have hlen : xs.length = n := by
    have := congrArg List.length hys
    simp at this
    omega
  refine ⟨rfl, hb, fun _ => ⟨⟨g, 0, none⟩, rfl, fun j x hj => ?_⟩⟩
  have hjl : j < n := by rw [← hlen]; exact (List.getElem?_eq_some_iff.1 hj).1
  have hj2 := hall j hjl
  obtain ⟨y, hy1⟩ : ∃ y, ys[j]? = some y := ⟨ys[j]'(by omega), List.getElem?_eq_getElem (by omega)⟩
  have hyx : y.1 = dat x := by
    have := congrArg (·[j]?) hys
    simp only [List.getElem?_map, hy1, hj, Option.map_some, Option.some.injEq] at this
    exact this
  rw [hy1] at hj2
  have hk := hK m _ x y.2 (by rw [hj2]; exact congrArg some (Prod.ext hyx rfl))
  refine ⟨_, d.K_len hk, hk, fun i u hi => ?_⟩
  have hil : i < d.sz := by
    have := (List.getElem?_eq_some_iff.1 hi).1
    rwa [d.K_len hk] at this
  have hc2 := World.var?_cell hn h3 (j * d.sz + i)
  simp only [List.getElem?_take, hc, List.getElem?_drop, if_pos hil] at hi
  have hz : (Addr.add ⟨g, 0, none⟩ (j * d.sz + i)) = ⟨g, j * d.sz + i, none⟩ := by
    simp only [Addr.add, Nat.zero_add]
    split
    · rename_i h0; rw [h0]
    · rfl
  rw [hz, hc2, ← hi, Array.getElem?_toList]
theorem tab_int {k : IntKind} {P : Program} {w : World} {name : String} {g n : Nat} {t e : TypeId} (hn : P.globalNamed name = some g)
    (hy : (P.globals[g]?).map (·.type) = some t) (ht : P.underlying t = some (.array n e)) (he : P.underlying e = some (.int k)) (hc : P.cellsOf e = 1)
    {xs : List Int} {N : Nat} (hN : xs.length = N) (hb : N ≤ 9223372036854775807) {D : DataW Unit} (hD : D = .agg (xs.map fun z => .lit (.int k z))) (h : VarReads P w name D) : Kd.C (Kd.int k) w (some ⟨g, 0, none⟩) N xs := by
  refine tab_of_reads (Kd.int k) (fun z => .lit (.int k z)) hn hy ht hc ?_ hN hb hD h
  intro m cs x p hp
  obtain ⟨n, rfl, hx, _⟩ := DataW.trod_int he hp
  simp only [Prod.mk.injEq, DataW.lit.injEq, Lit.int.injEq] at hx
  rw [hx.1.2]
  rfl
end Go.Proofs.YtlihkebmonfefaaDoor.Tabs
