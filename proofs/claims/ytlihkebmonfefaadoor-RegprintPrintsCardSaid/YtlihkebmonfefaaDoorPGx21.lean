-- WRITTEN BY A PROGRAM OF THIS SESSION (patchprint.py over the kit's print)
import Derived.Test.YtlihkebmonfefaaDoorHandLaw
import Derived.Test.YtlihkebmonfefaaDoorPGx0
namespace Go.Proofs.YtlihkebmonfefaaDoor.PG
open Go.RowKit Go.Proofs.YtlihkebmonfefaaDoorW.PrintWords Go.Proofs.YtlihkebmonfefaaDoorW.PrintLast Go.Proofs.YtlihkebmonfefaaDoorW.PrintMore
attribute [local go_sem] max2_int min2_int max_two min_two max_three min_three max_four min_four   -- for this text's walks alone
set_option linter.unusedVariables false
set_option linter.unusedSimpArgs false
open Go.Proofs.YtlihkebmonfefaaDoor.PG
def spoollaw14_RegprintPrints.Pure : Prop := ∀ (a0 : S25), (((∀ y10 ∈ a0.f0, ((Lit.int .i64 y10.f0).wf = true ∧ ((Lit.int .i64 y10.f1).wf = true ∧ ((Lit.int .i64 y10.f2).wf = true ∧ ((Lit.int .i64 y10.f3).wf = true ∧ ((Lit.int .i64 y10.f4).wf = true ∧ (Lit.int .i64 y10.f5).wf = true)))))) ∧ a0.f0.length * 48 ≤ 140737488351232 ∧ a0.f0.length ≤ maxLen) ∧ (((∀ y15 ∈ a0.f1, ((∀ y10 ∈ y15, ((Lit.int .i64 y10.f0).wf = true ∧ (Lit.int .i64 y10.f1).wf = true)) ∧ y15.length * 16 ≤ 140737488351232 ∧ y15.length ≤ maxLen)) ∧ a0.f1.length * 24 ≤ 140737488351232 ∧ a0.f1.length ≤ maxLen) ∧ (Lit.int .i64 a0.f2).wf = true)) → ∃ k, spoollaw14_RegprintPrints.f k a0.f0 a0.f1 a0.f2 = some true
end Go.Proofs.YtlihkebmonfefaaDoor.PG
