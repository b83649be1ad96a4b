/- ByteseqCounts, walked by hand: its answer is true. Condition: the fuel. -/
import Derived.Test.YtedoopnjhpbjfaaDoorHandCounts
namespace Go.Proofs.YtedoopnjhpbjfaaDoor.PB
open Go.RowKit Go.Proofs.YtedoopnjhpbjfaaDoorW.PrintWords Go.Proofs.YtedoopnjhpbjfaaDoorW.PrintLast Go.Proofs.YtedoopnjhpbjfaaDoorW.PrintMore
def spoollaw08_ByteseqCounts.f (k : Nat) (l0 : List S35) : Option Bool := if 1200000 ≤ k then some true else none
theorem spoollaw08_ByteseqCounts.calls (k : Nat) (A0 : Option Addr) (c0 : Nat) (l0 : List S35) (r : Bool) (w : World) (hr0 : Kd.C k35 w A0 l0.length l0) (hc0 : l0.length ≤ c0)
    (hrG0 : Kd.C (Kd.int .i64) w (some ⟨0, 0, none⟩) tab_byteseq_gap.length tab_byteseq_gap) (hrG1 : Kd.C (Kd.int .i64) w (some ⟨1, 0, none⟩) tab_byteseq_limits.length tab_byteseq_limits) (h : spoollaw08_ByteseqCounts.f k l0 = some r) :
    Calls Tryd.prog 4 #[.slice A0 l0.length c0] w fun e w' => e = .returned (.bool r) ∧ Below w.heap.size w w' := by
  unfold spoollaw08_ByteseqCounts.f at h
  split at h
  · rename_i hk
    obtain rfl := Option.some.inj h
    exact HandCounts.counts_calls k hk A0 c0 l0 w hrG0 hrG1 hr0 hc0
  · cases h
end Go.Proofs.YtedoopnjhpbjfaaDoor.PB
