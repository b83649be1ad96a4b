/- ArenaBuilds, in plain words: nothing is left to show. -/
import Derived.Test.YtbgoaigbkfibbaaPAx19
namespace Go.Proofs.Ytbgoaigbkfibbaa.Pure
open Go.RowKit Go.Proofs.Ytbgoaigbkfibbaa.PA
theorem ArenaBuilds : spoollaw10_ArenaBuilds.Pure := by
 intro a0 a1 _ _
 exact ⟨0, rfl⟩
end Go.Proofs.Ytbgoaigbkfibbaa.Pure
