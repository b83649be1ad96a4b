/- RangesOf, plain: the law's answer is true for all ranges, and any number. No condition. -/
import Derived.Test.YtfknoaokoncneabPRx8
import Derived.Test.YtfknoaokoncneabPfR
namespace Go.Proofs.Ytfknoaokoncneab.Pure
open Go.RowKit Go.Proofs.Ytfknoaokoncneab.PR Go.Proofs.YtfknoaokoncneabW.PrintWords Go.Proofs.YtfknoaokoncneabW.PrintLast Go.Proofs.Ytfknoaokoncneab.Sets Go.Proofs.Ytfknoaokoncneab.PfR Go.Proofs.Ytfknoaokoncneab.HandHas
theorem RangesOf_all (l : List S35) (c : Int) : ∀ K : Nat, 1000 ≤ K → spoollaw05_RangesOf.f K l c = some true := by
  intro K hK
  unfold spoollaw05_RangesOf.f
  by_cases h : (l.length : Int) > 60
  · rw [if_pos h, alive_f K (by omega)]
    rfl
  · have h1 := ofL_len l
    rw [if_neg h, Of_f l (by omega), Set0_f l (by omega) K (by omega)]
    simp only [Option.bind_some]
    rw [Same_f (ofL l) (ofL l) (by omega) K (by omega)]
    simp only [Option.bind_some]
    rw [if_pos ((sameL_iff _ _).mpr rfl), Right_f l (by omega) K (by omega), RRight_f l (by omega) K (by omega)]
    simp only [Option.bind_some]
    rw [if_pos (beq_self_eq_true _), show ranges_Has.f l c = some (hasL l c) from rfl, Has_f l c (by omega) K (by omega)]
    simp only [Option.bind_some]
    rw [if_pos (beq_self_eq_true _), Count_f l (by omega) K (by omega), RCount_f l (by omega) K (by omega)]
    simp only [Option.bind_some]
    rw [if_pos trivial, alive_f K (by omega)]
    rfl
theorem RangesOf : spoollaw05_RangesOf.Pure := by
  intro a0 a1 _ _
  exact ⟨1000, RangesOf_all a0 a1 1000 (Nat.le_refl _)⟩
end Go.Proofs.Ytfknoaokoncneab.Pure
