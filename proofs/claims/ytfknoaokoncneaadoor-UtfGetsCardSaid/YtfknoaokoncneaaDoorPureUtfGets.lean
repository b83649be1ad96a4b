/- A text's code points: the law, plainly. -/
import Derived.Test.YtfknoaokoncneaaDoorPlV
namespace Go.Proofs.YtfknoaokoncneaaDoor.Pure
open Go.RowKit Go.Proofs.YtfknoaokoncneaaDoor.PU Go.Proofs.YtfknoaokoncneaaDoorW.PrintWords Go.Proofs.YtfknoaokoncneaaDoorW.PrintLast Go.Proofs.YtfknoaokoncneaaDoor.PlV Go.Proofs.YtfknoaokoncneaaDoor.PlU Go.Proofs.YtfknoaokoncneaaDoor.PlD Go.Proofs.YtfknoaokoncneaaDoor.HandPts Go.Proofs.YtfknoaokoncneaaDoor.HandAll
theorem UtfGets : spoollaw02_UtfGets.Pure := by
  intro a0 hs
  refine ⟨400, ?_⟩
  unfold spoollaw02_UtfGets.f
  by_cases h : (a0.size : Int) > 300
  · rw [if_pos h, alive_k _ (by omega)]; rfl
  · have hl := allU_len a0.size a0 (Nat.le_refl _)
    rw [if_neg h, Get_k _ _ (by omega), Option.bind_some, RGet_k _ _ (by omega), Option.bind_some, if_pos rfl, if_pos rfl, All_k _ (by omega), Option.bind_some, RAll_k _ (by omega) _ (by omega), Option.bind_some, Same_k _ (by omega) _ (by omega), Option.bind_some, if_pos rfl,
      Valid_k _ (by omega), Option.bind_some, RValid_k _ (by omega) _ (by omega), Option.bind_some, beq_self_eq_true, if_pos rfl, alive_k _ (by omega)]
    rfl
end Go.Proofs.YtfknoaokoncneaaDoor.Pure
