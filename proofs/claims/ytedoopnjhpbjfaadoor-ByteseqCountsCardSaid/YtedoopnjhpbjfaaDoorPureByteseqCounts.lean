/- ByteseqCounts, in plain words: nothing is left to show. -/
import Derived.Test.YtedoopnjhpbjfaaDoorPBx13
namespace Go.Proofs.YtedoopnjhpbjfaaDoor.Pure
open Go.RowKit Go.Proofs.YtedoopnjhpbjfaaDoor.PB
theorem ByteseqCounts : spoollaw08_ByteseqCounts.Pure := by
  intro a0 _
  exact ⟨1200000, if_pos (Nat.le_refl _)⟩
end Go.Proofs.YtedoopnjhpbjfaaDoor.Pure
