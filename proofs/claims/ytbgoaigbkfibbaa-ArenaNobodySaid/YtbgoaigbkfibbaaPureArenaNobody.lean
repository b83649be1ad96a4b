/- ArenaNobody, in plain words: whether a tree is too great is always told. No condition. -/
import Derived.Test.YtbgoaigbkfibbaaPAx9
import Derived.Test.YtbgoaigbkfibbaaPfF
namespace Go.Proofs.Ytbgoaigbkfibbaa.Pure
open Go.RowKit Go.Proofs.Ytbgoaigbkfibbaa.PA Go.Proofs.YtbgoaigbkfibbaaW.PrintWords Go.Proofs.YtbgoaigbkfibbaaW.PrintLast Go.Proofs.Ytbgoaigbkfibbaa.PfF
theorem ArenaNobody : spoollaw10_ArenaNobody.Pure := by
  intro a0 _
  obtain ⟨b, hb, _⟩ := far_f a0.f5.f0 a0.f5.f1 a0.f5.f2 400 (Nat.le_refl _)
  refine ⟨400, ?_⟩
  unfold spoollaw10_ArenaNobody.f
  split
  · rfl
  · rw [hb]
    rfl
end Go.Proofs.Ytbgoaigbkfibbaa.Pure
