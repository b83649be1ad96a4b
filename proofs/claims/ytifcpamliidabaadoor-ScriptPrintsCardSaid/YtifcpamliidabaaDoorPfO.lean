/- What reading a number, an operation and a line tells: the program and the reference at one. -/
import Derived.Test.YtifcpamliidabaaDoorPfU
import Derived.Test.YtifcpamliidabaaDoorPfW
import Derived.Test.YtifcpamliidabaaDoorPSx0
import Derived.Test.YtifcpamliidabaaDoorPSx14
import Derived.Test.YtifcpamliidabaaDoorHandParse
set_option linter.unusedSimpArgs false
set_option linter.unusedVariables false
namespace Go.Proofs.YtifcpamliidabaaDoor.PfO
open Go.RowKit Go.Proofs.YtifcpamliidabaaDoor.PS Go.Proofs.YtifcpamliidabaaDoorW.PrintWords Go.Proofs.YtifcpamliidabaaDoorW.PrintLast Go.Proofs.YtifcpamliidabaaDoor.PlD Go.Proofs.YtifcpamliidabaaDoor.PfD Go.Proofs.YtifcpamliidabaaDoor.PfU Go.Proofs.YtifcpamliidabaaDoor.Pl Go.Proofs.YtifcpamliidabaaDoor.PfW Go.Proofs.YtifcpamliidabaaDoor.HandKind Go.Proofs.YtifcpamliidabaaDoor.HandRd Go.Proofs.YtifcpamliidabaaDoor.HandOpM Go.Proofs.YtifcpamliidabaaDoor.HandItem Go.Proofs.YtifcpamliidabaaDoor.HandParse
/-! ### kinds -/
theorem Numbered_f (k : Int) : spoolref48_Numbered.f k = script_numbered.f k := by
  unfold spoolref48_Numbered.f script_numbered.f
  split; rfl; split; rfl; split; rfl
  split
  · rename_i h; rw [h]; rfl
  · rename_i h; rw [beq_eq_false_iff_ne.mpr h]
/-! ### lines -/
end Go.Proofs.YtifcpamliidabaaDoor.PfO
