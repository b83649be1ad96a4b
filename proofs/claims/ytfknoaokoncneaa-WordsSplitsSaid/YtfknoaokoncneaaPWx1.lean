-- WRITTEN BY A PROGRAM OF THIS SESSION (patchprint.py over the kit's print)
import Derived.Test.YtfknoaokoncneaaPWx0
namespace Go.Proofs.Ytfknoaokoncneaa.PW
open Go.RowKit Go.Proofs.YtfknoaokoncneaaW.PrintWords Go.Proofs.YtfknoaokoncneaaW.PrintLast Go.Proofs.YtfknoaokoncneaaW.PrintMore
attribute [local go_sem] arrI29_0 arrI29_1
attribute [local go_sem] max2_int min2_int max_two min_two max_three min_three max_four min_four   -- for this text's walks alone
set_option linter.unusedVariables false
set_option linter.unusedSimpArgs false

theorem eqA29 (d : Nat) (w : World) (x0 y0 : Int) (x1 y1 : Int) :
    (Op.equalIn (d + 2) 29 (.agg #[.int .i64 x0, .int .i64 x1]) (.agg #[.int .i64 y0, .int .i64 y1])).run Try.prog w = .ok (x0 == y0 && (x1 == y1)) w := by
  refine eqA_arr Try.underlying29 Try.underlying3 (c := 1) (by kernel_rfl) ?_
  rw [show List.range 2 = [0, 1] from rfl]
  refine eqi_cons (by go_simp; rfl) (by go_simp; rfl) (by go_simp) ?_
  exact eqi_last (by go_simp; rfl) (by go_simp; rfl) (by go_simp)
end Go.Proofs.Ytfknoaokoncneaa.PW
