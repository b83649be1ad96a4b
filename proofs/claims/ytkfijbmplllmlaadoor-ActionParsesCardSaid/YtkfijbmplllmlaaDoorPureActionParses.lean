/- ActionParses, over plain functions: any text, with any modes, is read alike by the program and by the reference. No condition beyond the statement's own. -/
import Derived.Test.YtkfijbmplllmlaaDoorPAx8
import Derived.Test.YtkfijbmplllmlaaDoorPfR
import Derived.Test.YtkfijbmplllmlaaDoorPfA
set_option linter.unusedSimpArgs false
set_option linter.unusedVariables false
namespace Go.Proofs.YtkfijbmplllmlaaDoor.Pure
open Go.RowKit Go.Proofs.YtkfijbmplllmlaaDoor.PA Go.Proofs.YtkfijbmplllmlaaDoorW.PrintWords Go.Proofs.YtkfijbmplllmlaaDoorW.PrintLast Go.Proofs.YtkfijbmplllmlaaDoor.HandParse Go.Proofs.YtkfijbmplllmlaaDoor.PfP Go.Proofs.YtkfijbmplllmlaaDoor.PfR Go.Proofs.YtkfijbmplllmlaaDoor.PfA
theorem ActionParses : spoollaw17_ActionParses.Pure := by
  intro s l hs hl
  have hlen : l.length ≤ 8796093022208 := by omega
  refine ⟨l.length + 2000, ?_⟩
  unfold spoollaw17_ActionParses.f
  have hT : ∀ K, 100 ≤ K → spoollaw17_ActionParses.j0 K s l true = some true := by
    intro K hK
    obtain ⟨k, rfl⟩ : ∃ m, K = m + 1 := ⟨K - 1, by omega⟩
    simp only [spoollaw17_ActionParses.j0]
    rw [if_pos trivial, alive_f k (by omega)]
    rfl
  by_cases h2 : (s.size : Int) > 200
  · rw [if_pos h2]
    exact hT _ (by omega)
  · rw [if_neg h2]
    obtain ⟨b, g1, g2⟩ := Far_f l hlen (l.length + 2000) (by omega)
    rw [g1, Option.bind_some]
    cases b with
    | true => exact hT _ (by omega)
    | false =>
      have h20 := g2 rfl
      show spoollaw17_ActionParses.j0 ((l.length + 1999) + 1) s l false = some true
      simp only [spoollaw17_ActionParses.j0]
      rw [if_neg Bool.false_ne_true, parse_p s (by omega) l (by omega) _ (by omega), parse_r s (by omega) l (by omega) _ (by omega), Option.bind_some, Option.bind_some, if_pos (by simp), if_pos (by simp), alive_f _ (by omega)]
      rfl
end Go.Proofs.YtkfijbmplllmlaaDoor.Pure
