/- FoldTexts, plain: the law's answer is true for any two texts. No condition. -/
import Derived.Test.YtfknoaokoncneabDoorPFx13
import Derived.Test.YtfknoaokoncneabDoorPfF
namespace Go.Proofs.YtfknoaokoncneabDoor.Pure
open Go.RowKit Go.Proofs.YtfknoaokoncneabDoor.PF Go.Proofs.YtfknoaokoncneabDoorW.PrintWords Go.Proofs.YtfknoaokoncneabDoorW.PrintLast Go.Proofs.YtfknoaokoncneabDoor.PlF Go.Proofs.YtfknoaokoncneabDoor.PfF
theorem FoldTexts_all (a b : ByteArray) (K : Nat) (hK : 1000 ≤ K) : spoollaw06_FoldTexts.f K a b = some true := by
  obtain ⟨k, rfl⟩ : ∃ k', K = k' + 1 := ⟨K - 1, by omega⟩
  unfold spoollaw06_FoldTexts.f
  have hT : spoollaw06_FoldTexts.j0 (k + 1) a b true = some true := by rw [spoollaw06_FoldTexts.j0, if_pos rfl, alive_f]; rfl
  by_cases h : (a.size : Int) > 300
  · rw [if_pos h, hT]
  · rw [if_neg h]
    by_cases h2 : (b.size : Int) > 300
    · rw [decide_eq_true h2, hT]
    · obtain ⟨r, h3, h4, _⟩ := same_f a b (by omega) k (by omega)
      obtain ⟨r', h5, _, h6⟩ := same_f a a (by omega) k (by omega)
      obtain rfl := h6 rfl
      rw [decide_eq_false h2, spoollaw06_FoldTexts.j0, if_neg (by decide), h3, h4, h5, alive_f]
      simp only [Option.bind_some]
      rw [if_pos (by simp), if_pos trivial]
theorem FoldTexts : spoollaw06_FoldTexts.Pure := fun a b _ _ => ⟨1000, FoldTexts_all a b 1000 (Nat.le_refl _)⟩
end Go.Proofs.YtfknoaokoncneabDoor.Pure
