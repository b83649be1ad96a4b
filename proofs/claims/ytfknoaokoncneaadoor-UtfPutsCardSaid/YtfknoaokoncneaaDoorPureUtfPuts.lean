/- A number's bytes: the law, plainly. -/
import Derived.Test.YtfknoaokoncneaaDoorPlV
namespace Go.Proofs.YtfknoaokoncneaaDoor.Pure
open Go.RowKit Go.Proofs.YtfknoaokoncneaaDoor.PU Go.Proofs.YtfknoaokoncneaaDoorW.PrintWords Go.Proofs.YtfknoaokoncneaaDoorW.PrintLast Go.Proofs.YtfknoaokoncneaaDoor.PlV Go.Proofs.YtfknoaokoncneaaDoor.PlU Go.Proofs.YtfknoaokoncneaaDoor.PlD Go.Proofs.YtfknoaokoncneaaDoor.HandPts Go.Proofs.YtfknoaokoncneaaDoor.HandAll
theorem UtfPuts : spoollaw02_UtfPuts.Pure := by
  intro a0 a1 hw hs
  refine ⟨20, ?_⟩
  unfold spoollaw02_UtfPuts.f
  by_cases h : (a1.size : Int) > 100
  · rw [if_pos h, alive_k 20 (by omega)]; rfl
  · have z := encU_len a0
    have zs := enc_size a0
    rw [if_neg h, Put_k _ _ (by omega), Option.bind_some, RPut_f, Option.bind_some, if_pos rfl, Scalar_f, Option.bind_some, RScalar_f, Option.bind_some, if_neg (by simp), Length_k _ _ (by omega), Option.bind_some, enc_size, bne_self_eq_false,
      spoollaw02_UtfPuts.j0, if_neg (by decide), RScalar_f, Option.bind_some]
    by_cases c : sc a0 = true
    · have hg : getU (strOfNums (encU a0) ++ a1) = (a0, ((encU a0).length : Int)) := by rw [getU_L, L_append, L_enc, getL_enc a0 c]
      rw [if_pos c, if_pos (by omega), Get_k _ _ (by omega), Option.bind_some, hg, if_pos rfl, if_pos (by rw [enc_size]), alive_k _ (by omega)]
      rfl
    · rw [if_neg c, alive_k _ (by omega)]
      rfl
end Go.Proofs.YtfknoaokoncneaaDoor.Pure
