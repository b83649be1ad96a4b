/- A text and its code points, to and fro: the law, plainly. -/
import Derived.Test.YtfknoaokoncneaaDoorPlV
namespace Go.Proofs.YtfknoaokoncneaaDoor.Pure
open Go.RowKit Go.Proofs.YtfknoaokoncneaaDoor.PU Go.Proofs.YtfknoaokoncneaaDoorW.PrintWords Go.Proofs.YtfknoaokoncneaaDoorW.PrintLast Go.Proofs.YtfknoaokoncneaaDoor.PlV Go.Proofs.YtfknoaokoncneaaDoor.PlU Go.Proofs.YtfknoaokoncneaaDoor.PlD Go.Proofs.YtfknoaokoncneaaDoor.HandPts Go.Proofs.YtfknoaokoncneaaDoor.HandAll
theorem UtfBack : spoollaw02_UtfBack.Pure := by
  intro a0 a1 hs hl
  refine ⟨600, ?_⟩
  unfold spoollaw02_UtfBack.f
  have away : spoollaw02_UtfBack.j0 600 a0 a1 true = some true := by
    rw [spoollaw02_UtfBack.j0, if_pos rfl, alive_k _ (by omega)]; rfl
  by_cases h : (a0.size : Int) > 300
  · rw [if_pos h]; exact away
  · rw [if_neg h]
    by_cases h2 : (a1.length : Int) > 100
    · rw [decide_eq_true h2]; exact away
    · rw [decide_eq_false h2]
      have hz := jn_size a1
      have fin : spoollaw02_UtfBack.j1 599 a1 false = some true := by
        rw [spoollaw02_UtfBack.j1, if_neg (by decide), Join_k _ (by omega) _ (by omega), Option.bind_some, RJoin_k _ (by omega) _ (by omega), Option.bind_some, if_pos rfl, Valid_k _ (by omega), Option.bind_some, decide_eq_true (jn_valid a1), if_pos rfl, alive_k _ (by omega)]
        rfl
      rw [spoollaw02_UtfBack.j0, if_neg (by decide), Valid_k _ (by omega), Option.bind_some]
      by_cases hv : ∀ x ∈ allU a0, 0 ≤ x
      · have hal := allU_len a0.size a0 (Nat.le_refl _)
        have e : jn (allU a0) = a0 := by
          apply L_inj'
          rw [L_jn, joinL_allU a0.size a0 (Nat.le_refl _) hv]
        rw [decide_eq_true hv, if_pos rfl, All_k _ (by omega), Option.bind_some, Join_k _ (by omega) _ (by omega), Option.bind_some, e, bne_self_eq_false]
        exact fin
      · rw [decide_eq_false hv, if_neg (by decide)]
        exact fin
end Go.Proofs.YtfknoaokoncneaaDoor.Pure
