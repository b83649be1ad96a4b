/- FoldSets, plain: the law's answer is true for any ranges, and any number. No condition. -/
import Derived.Test.YtfknoaokoncneabDoorPFx0
import Derived.Test.YtfknoaokoncneabDoorPFx12
import Derived.Test.YtfknoaokoncneabDoorPfF
namespace Go.Proofs.YtfknoaokoncneabDoor.Pure
open Go.RowKit Go.Proofs.YtfknoaokoncneabDoor.PF Go.Proofs.YtfknoaokoncneabDoorW.PrintWords Go.Proofs.YtfknoaokoncneabDoorW.PrintLast Go.Proofs.YtfknoaokoncneabDoor.PlF Go.Proofs.YtfknoaokoncneabDoor.PfF Go.Proofs.YtfknoaokoncneabDoor.PfR Go.Proofs.YtfknoaokoncneabDoor.Sets
theorem FoldSets_all (l : List S33) (c : Int) : ∀ K : Nat, 50000 ≤ K → spoollaw06_FoldSets.f K l c = some true := by
  intro K hK
  unfold spoollaw06_FoldSets.f
  by_cases h : (l.length : Int) > 30
  · rw [if_pos h, alive_f]
    rfl
  · have h1 := foldL_len l
    rw [if_neg h, PfF.Set_f l (by omega), RSet_f l (by omega) K (by omega)]
    simp only [Option.bind_some]
    rw [Same_f _ _ (by omega) K (by omega), (sameL_iff _ _).mpr rfl]
    simp only [Option.bind_some, if_true]
    rw [PfF.Set_f _ (by omega)]
    simp only [Option.bind_some]
    rw [foldL_again, Same_f _ _ (by omega) K (by omega), (sameL_iff _ _).mpr rfl]
    simp only [Option.bind_some]
    obtain ⟨k, rfl⟩ : ∃ k', K = k' + 1 := ⟨K - 1, by omega⟩
    rw [spoollaw06_FoldSets.j0, if_neg (by decide), ROther_f k (by omega)]
    simp only [Option.bind_some]
    have hj : ∀ k : Nat, 1000 ≤ k → spoollaw06_FoldSets.j1 k l c (foldL l) false = some true := by
      intro k hk
      obtain ⟨k, rfl⟩ : ∃ k', k = k' + 1 := ⟨k - 1, by omega⟩
      rw [spoollaw06_FoldSets.j1, if_neg (by decide), Has_f l c (by omega) k (by omega), Has_f (foldL l) c (by omega) k (by omega), alive_f]
      simp only [Option.bind_some]
      by_cases hh : hasL l c = true
      · obtain ⟨c0, c1, c2⟩ := (hasL_iff l c).mp hh
        rw [if_pos hh, if_pos ((hasL_iff _ c).mpr ⟨c0, c1, foldL_of l c c0 c1 c2⟩)]
      · rw [if_neg hh]
    cases ho : otherL c with
    | none =>
      simp only [Option.isSome_none, Bool.false_eq_true, if_false]
      exact hj k (by omega)
    | some x =>
      obtain ⟨_, p1, p2, p3, p4⟩ := other_pair c x ho
      simp only [Option.isSome_some, if_true, Option.getD_some]
      rw [Has_f (foldL l) c (by omega) k (by omega), Has_f (foldL l) x (by omega) k (by omega)]
      simp only [Option.bind_some]
      have e : hasL (foldL l) c = hasL (foldL l) x := by
        rw [Bool.eq_iff_iff, hasL_iff, hasL_iff, foldL_pair l c x ho]
        constructor
        · rintro ⟨_, _, h⟩; exact ⟨by omega, by omega, h⟩
        · rintro ⟨_, _, h⟩; exact ⟨by omega, by omega, h⟩
      rw [e, show (hasL (foldL l) x != hasL (foldL l) x) = false by simp]
      exact hj k (by omega)
theorem FoldSets : spoollaw06_FoldSets.Pure := fun a0 a1 _ _ => ⟨50000, FoldSets_all a0 a1 50000 (Nat.le_refl _)⟩
end Go.Proofs.YtfknoaokoncneabDoor.Pure
