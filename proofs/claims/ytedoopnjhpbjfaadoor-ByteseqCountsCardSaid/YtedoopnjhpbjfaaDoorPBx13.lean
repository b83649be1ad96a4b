-- WRITTEN BY A PROGRAM OF THIS SESSION (patchprint.py over the kit's print)
import Derived.Test.YtedoopnjhpbjfaaDoorHandCounted
import Derived.Test.YtedoopnjhpbjfaaDoorPBx0
namespace Go.Proofs.YtedoopnjhpbjfaaDoor.PB
open Go.RowKit Go.Proofs.YtedoopnjhpbjfaaDoorW.PrintWords Go.Proofs.YtedoopnjhpbjfaaDoorW.PrintLast Go.Proofs.YtedoopnjhpbjfaaDoorW.PrintMore
attribute [local go_sem] arrI39_0 arrI39_1
attribute [local go_sem] max2_int min2_int max_two min_two max_three min_three max_four min_four   -- for this text's walks alone
set_option linter.unusedVariables false
set_option linter.unusedSimpArgs false

open Go.Proofs.YtedoopnjhpbjfaaDoor.PB
def spoollaw08_ByteseqCounts.Pure : Prop := ∀ (a0 : List (S35)), ((∀ y10 ∈ a0, ((Lit.int .i64 y10.f0).wf = true ∧ (Lit.int .i64 y10.f1).wf = true)) ∧ a0.length * 16 ≤ 140737488351232 ∧ a0.length ≤ maxLen) → ∃ k, spoollaw08_ByteseqCounts.f k a0 = some true

end Go.Proofs.YtedoopnjhpbjfaaDoor.PB
