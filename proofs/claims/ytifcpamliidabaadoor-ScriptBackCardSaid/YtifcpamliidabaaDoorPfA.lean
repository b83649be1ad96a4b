/- The document's example holds. -/
import Derived.Test.YtifcpamliidabaaDoorPSx11
namespace Go.Proofs.YtifcpamliidabaaDoor.PfA
open Go.RowKit Go.Proofs.YtifcpamliidabaaDoor.PS Go.Proofs.YtifcpamliidabaaDoorW.PrintWords Go.Proofs.YtifcpamliidabaaDoorW.PrintLast
set_option maxRecDepth 100000 in
theorem alive_40 : spoollaw48_alive.f 40 = some true := by decide +kernel
theorem alive_f (K : Nat) (hK : 40 ≤ K) : spoollaw48_alive.f K = some true := by
  obtain ⟨d, rfl⟩ : ∃ d, K = 40 + d := ⟨K - 40, by omega⟩
  clear hK
  induction d with
  | zero => exact alive_40
  | succ d ih => exact spoollaw48_alive.mono _ _ ih
end Go.Proofs.YtifcpamliidabaaDoor.PfA
