/- A builder that is none: it takes nothing, and has no tree. No condition. -/
import Derived.Test.YtbgoaigbkfibbaaPAx2
import Derived.Laws.Pointers
set_option linter.unusedSimpArgs false
set_option linter.unusedVariables false
namespace Go.Proofs.Ytbgoaigbkfibbaa.HandNil
open Go.RowKit Go.Proofs.YtbgoaigbkfibbaaW.PrintWords Go.Proofs.YtbgoaigbkfibbaaW.PrintLast Go.Proofs.YtbgoaigbkfibbaaW.PrintMore Go.Proofs.Ytbgoaigbkfibbaa.PA
theorem eqP (w : World) : (binOp .eql 35 (.pointer none) (.pointer none)).run Try.prog w = .ok (.bool true) w := run_eql_pointer_nil w 35 none (by kernel_rfl)
attribute [local go_sem high] eqP
end Go.Proofs.Ytbgoaigbkfibbaa.HandNil
