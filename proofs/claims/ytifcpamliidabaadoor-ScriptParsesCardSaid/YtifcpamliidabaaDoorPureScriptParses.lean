/- ScriptParses, over plain functions: any text is read alike by the program and by the reference. No condition beyond the statement's own. -/
import Derived.Test.YtifcpamliidabaaDoorPSx18
import Derived.Test.YtifcpamliidabaaDoorPfP
namespace Go.Proofs.YtifcpamliidabaaDoor.Pure
open Go.RowKit Go.Proofs.YtifcpamliidabaaDoor.PS Go.Proofs.YtifcpamliidabaaDoorW.PrintWords Go.Proofs.YtifcpamliidabaaDoorW.PrintLast Go.Proofs.YtifcpamliidabaaDoor.PfA Go.Proofs.YtifcpamliidabaaDoor.PfP Go.Proofs.YtifcpamliidabaaDoor.HandParse
theorem ScriptParses_K (s : ByteArray) : ∀ K, 1100000 ≤ K → spoollaw48_ScriptParses.f K s = some true := by
  intro K hK
  unfold spoollaw48_ScriptParses.f
  rw [alive_f K (by omega)]
  by_cases hs : (s.size : Int) > 400
  · rw [if_pos hs, Option.bind_some]
  · rw [if_neg hs]
    obtain ⟨r, E, A, h1, h2⟩ := parse_f s (by omega) K (by omega)
    have hl := parse_len s K r E A h2
    rw [h1, h2]
    simp only [Option.bind_some]
    rw [if_pos (by simp), Same_f r (by omega) K (by omega)]
    simp only [Option.bind_some]
    rw [if_pos trivial]
theorem ScriptParses : spoollaw48_ScriptParses.Pure := fun a0 _ => ⟨1100000, ScriptParses_K a0 1100000 (Nat.le_refl _)⟩
end Go.Proofs.YtifcpamliidabaaDoor.Pure
