/- FoldPairs, plain: the law's answer is true for any number. No condition. -/
import Derived.Test.YtfknoaokoncneabDoorPFx7
import Derived.Test.YtfknoaokoncneabDoorPfF
namespace Go.Proofs.YtfknoaokoncneabDoor.Pure
open Go.RowKit Go.Proofs.YtfknoaokoncneabDoor.PF Go.Proofs.YtfknoaokoncneabDoorW.PrintWords Go.Proofs.YtfknoaokoncneabDoorW.PrintLast Go.Proofs.YtfknoaokoncneabDoor.PlF Go.Proofs.YtfknoaokoncneabDoor.PfF Go.Proofs.YtfknoaokoncneabDoor.HandOther
theorem FoldPairs_all (c : Int) (K : Nat) (hK : 10 ≤ K) : spoollaw06_FoldPairs.f K c = some true := by
  obtain ⟨k, rfl⟩ : ∃ k', K = k' + 1 := ⟨K - 1, by omega⟩
  unfold spoollaw06_FoldPairs.f
  rw [show fold_Other.f c = some ((otherL c).getD 0, (otherL c).isSome) from rfl, ROther_f (k + 1) (by omega), Small_f, RSmall_f (k + 1) (by omega)]
  simp only [Option.bind_some]
  rw [if_pos trivial, if_neg (by simp), show (smallL c != smallL c) = false by simp, spoollaw06_FoldPairs.j0, if_neg (by decide)]
  cases h : otherL c with
  | none =>
    simp only [Option.isSome_none, Bool.false_eq_true, if_false, alive_f, Option.bind_some]
  | some x =>
    obtain ⟨h1, _⟩ := other_pair c x h
    simp only [Option.isSome_some, if_true, Option.getD_some]
    rw [show fold_Other.f x = some ((otherL x).getD 0, (otherL x).isSome) from rfl, h1, Small_f, Small_f]
    simp only [Option.bind_some, Option.isSome_some, if_true, Option.getD_some]
    rw [show smallL x = smallL c by unfold smallL; rw [h, h1]; exact Int.max_comm _ _, if_pos rfl, alive_f]
    rfl
theorem FoldPairs : spoollaw06_FoldPairs.Pure := fun c _ => ⟨10, FoldPairs_all c 10 (Nat.le_refl _)⟩
end Go.Proofs.YtfknoaokoncneabDoor.Pure
