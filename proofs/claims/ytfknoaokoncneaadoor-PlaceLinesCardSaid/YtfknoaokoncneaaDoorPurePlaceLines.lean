/- PlaceLines, over plain functions: a text's lines are told alike by the program and by the reference, and together are the text. No condition beyond the statement's own. -/
import Derived.Test.YtfknoaokoncneaaDoorPDx9
import Derived.Test.YtfknoaokoncneaaDoorPfL
namespace Go.Proofs.YtfknoaokoncneaaDoor.Pure
open Go.RowKit Go.Proofs.YtfknoaokoncneaaDoor.PD Go.Proofs.YtfknoaokoncneaaDoorW.PrintWords Go.Proofs.YtfknoaokoncneaaDoorW.PrintLast Go.Proofs.YtfknoaokoncneaaDoor.PlD Go.Proofs.YtfknoaokoncneaaDoor.PfD Go.Proofs.YtfknoaokoncneaaDoor.PfP Go.Proofs.YtfknoaokoncneaaDoor.PfL

theorem PlaceLines_K (s : ByteArray) : ∀ K, 3000 ≤ K → spoollaw03_PlaceLines.f K s = some true := by
  intro K hK
  unfold spoollaw03_PlaceLines.f
  rw [alive3_t K (by omega)]
  by_cases hs : (s.size : Int) > 1000
  · rw [if_pos hs, Option.bind_some]
  · rw [if_neg hs, Lines_f s (by omega), rLines_f s (by omega) K (by omega)]
    simp only [Option.bind_some]
    rw [if_pos trivial, List.length_map]
    exact lines_law s (by omega) K hK
theorem PlaceLines : spoollaw03_PlaceLines.Pure := fun a0 _ => ⟨3000, PlaceLines_K a0 3000 (Nat.le_refl _)⟩
end Go.Proofs.YtfknoaokoncneaaDoor.Pure
