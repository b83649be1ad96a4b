/- PlaceTells, over plain functions: a fault is told alike by the program and by the reference. No condition beyond the statement's own. -/
import Derived.Test.YtfknoaokoncneaaDoorPDx7
import Derived.Test.YtfknoaokoncneaaDoorPfP
namespace Go.Proofs.YtfknoaokoncneaaDoor.Pure
open Go.RowKit Go.Proofs.YtfknoaokoncneaaDoor.PD Go.Proofs.YtfknoaokoncneaaDoorW.PrintWords Go.Proofs.YtfknoaokoncneaaDoorW.PrintLast Go.Proofs.YtfknoaokoncneaaDoor.PlD Go.Proofs.YtfknoaokoncneaaDoor.PfD Go.Proofs.YtfknoaokoncneaaDoor.PfP

theorem PlaceTells_K (s : ByteArray) (h : s.size ≤ 140737488351232) (e a : Int) : ∀ K, 3000 ≤ K → spoollaw03_PlaceTells.f K s e a = some true := by
  intro K hK
  unfold spoollaw03_PlaceTells.f
  rw [alive3_t K (by omega)]
  by_cases hs : (s.size : Int) > 1000
  · rw [if_pos hs, Option.bind_some]
  · obtain ⟨r1, e1, l1⟩ := Tell_f s h e a K (by omega)
    obtain ⟨r2, e2, l2⟩ := rTell_f s h e a K (by omega)
    rw [if_neg hs, e1, e2, Word_f, rWord_f]
    simp only [Option.bind_some]
    rw [if_pos (L_inj.2 (by rw [l1, l2])), if_pos trivial]
theorem PlaceTells : spoollaw03_PlaceTells.Pure := fun a0 a1 h _ => ⟨3000, PlaceTells_K a0 h a1.f0 a1.f1 3000 (Nat.le_refl _)⟩
end Go.Proofs.YtfknoaokoncneaaDoor.Pure
