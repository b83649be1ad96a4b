-- WRITTEN BY A PROGRAM OF THIS SESSION (patchprint.py over the kit's print)
import Derived.Test.YtbgoaigbkfibbaaHandBuilt
import Derived.Test.YtbgoaigbkfibbaaPAx0
namespace Go.Proofs.Ytbgoaigbkfibbaa.PA
open Go.RowKit Go.Proofs.YtbgoaigbkfibbaaW.PrintWords Go.Proofs.YtbgoaigbkfibbaaW.PrintLast Go.Proofs.YtbgoaigbkfibbaaW.PrintMore
attribute [local go_sem] max2_int min2_int max_two min_two max_three min_three max_four min_four   -- for this text's walks alone
set_option linter.unusedVariables false
set_option linter.unusedSimpArgs false

open Go.Proofs.Ytbgoaigbkfibbaa.PA
def spoollaw10_ArenaBuilds.Pure : Prop := ∀ (a0 : List (S39)) (a1 : Int), ((∀ y10_0 ∈ a0, ((Lit.int .i64 y10_0.f0).wf = true ∧ ((Lit.int .i64 y10_0.f1).wf = true ∧ ((Lit.int .i64 y10_0.f2).wf = true ∧ ((Lit.int .i64 y10_0.f3).wf = true ∧ (((∀ y10_1 ∈ y10_0.f4, ((Lit.int .i64 y10_1.f0).wf = true ∧ (Lit.int .i64 y10_1.f1).wf = true)) ∧ y10_0.f4.length * 16 ≤ 140737488351232 ∧ y10_0.f4.length ≤ maxLen) ∧ (((∀ y10_1 ∈ y10_0.f5.f0, ((Lit.int .i64 y10_1.f0).wf = true ∧ ((Lit.int .i64 y10_1.f1).wf = true ∧ ((Lit.int .i64 y10_1.f2).wf = true ∧ ((Lit.int .i64 y10_1.f3).wf = true ∧ ((Lit.int .i64 y10_1.f4).wf = true ∧ (Lit.int .i64 y10_1.f5).wf = true)))))) ∧ y10_0.f5.f0.length * 48 ≤ 140737488351232 ∧ y10_0.f5.f0.length ≤ maxLen) ∧ (((∀ y15_1 ∈ y10_0.f5.f1, ((∀ y10_2 ∈ y15_1, ((Lit.int .i64 y10_2.f0).wf = true ∧ (Lit.int .i64 y10_2.f1).wf = true)) ∧ y15_1.length * 16 ≤ 140737488351232 ∧ y15_1.length ≤ maxLen)) ∧ y10_0.f5.f1.length * 24 ≤ 140737488351232 ∧ y10_0.f5.f1.length ≤ maxLen) ∧ (Lit.int .i64 y10_0.f5.f2).wf = true)))))))) ∧ a0.length * 112 ≤ 140737488351232 ∧ a0.length ≤ maxLen) → (Lit.int .i64 a1).wf = true → ∃ k, spoollaw10_ArenaBuilds.f k a0 a1 = some true

end Go.Proofs.Ytbgoaigbkfibbaa.PA
