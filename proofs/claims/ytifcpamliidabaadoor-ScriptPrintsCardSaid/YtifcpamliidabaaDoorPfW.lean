/- What the functions on words tell, by the plain words of a line. -/
import Derived.Test.YtifcpamliidabaaDoorPlD
import Derived.Test.YtifcpamliidabaaDoorPSx4
import Derived.Test.YtifcpamliidabaaDoorPSx0
set_option linter.unusedSimpArgs false
set_option linter.unusedVariables false
namespace Go.Proofs.YtifcpamliidabaaDoor.PfW
open Go.RowKit Go.Proofs.YtifcpamliidabaaDoor.PS Go.Proofs.YtifcpamliidabaaDoorW.PrintWords Go.Proofs.YtifcpamliidabaaDoorW.PrintLast Go.Proofs.YtifcpamliidabaaDoor.Pl
theorem wrap_in {i : Int} (h0 : -9223372036854775808 ≤ i) (h1 : i ≤ 9223372036854775807) : wrap64 i = i := by
  unfold wrap64
  omega
end Go.Proofs.YtifcpamliidabaaDoor.PfW
