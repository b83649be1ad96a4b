/-
  No cell of these rows narrows 'for every input' (looked for: loops, veiled, ifaces, maps, wideKeys, modest, calm, conditions, laid).
  DERIVED. THE GIVEN ROWS OF THIS SEAT. 3 by the template 'for every input the law returns true; each argument reads behind the call as it read before'; 0 by the template 'total and deterministic' (their statements: YtbgoaigbkfibbaaTotals.lean).
  GIVEN WITH THE SEED: the statements are not yours to turn. If you find one false, say at which input.
  Laid BY PROGRAM, IN A SANDBOX (cutbox-rows.mjs): the forced cells as the released guide's own fill.sh prints them over the translation 5af7e3c12f889f14… (all of the seat's roots in one cut). By AI agents, Wed Nov 11 2026. No macro, syntax, notation, axiom, sorry.
-/
import Derived.Test.YtbgoaigbkfibbaaChecked
import GoSem.Claim
import GoSem.ClaimJoined
import GoSem.ClaimMapViews
import Derived.JoinedTies
import Derived.KernelRfl
namespace Go.Proofs.Ytbgoaigbkfibbaa
/- THE CELL 'sum', in the pinned program and in every row, IS THE sha256 OF THE DUMP (.gsa) THAT YtbgoaigbkfibbaaProg.lean LOADS. Nothing in Lean hashes anything: it is a label: what it is worth is what the hold of that sum in a sandbox is worth. -/
noncomputable def Try.pinned : Pinned := { name := "ytbgoaigbkfibbaa", sum := "5af7e3c12f889f14d02f67d108a9e05cb230b776caa65f5f9b7bb926a38415a5", checked := Try.checked }
namespace Rows
def none {H : Type} : Left H := { results := [], args := [] }

/-- 'spoollaw10.ArenaChecks': WHATEVER THE INPUT: true; the input reads as it did. -/
def arenaChecksSpec : ChangeSpec := { name := "arenaChecks", fn := fun _ => fun
  | [d1, d2] => { results := [.lit (.bool true)], args := [d1, d2] }
  | _ => none }
def arenaChecksRow : OpenClaim := { program := "ytbgoaigbkfibbaa", sum := "5af7e3c12f889f14d02f67d108a9e05cb230b776caa65f5f9b7bb926a38415a5", func := "spool/spoollaw10.ArenaChecks", spec := "arenaChecks", unfollowed := true, recurses := true, plainKeys := false, apart := false }
def ArenaChecksSaid : Prop := arenaChecksRow.holds Try.pinned (OpenSpec.ofChange arenaChecksSpec)

/-- ITS FALSE NEIGHBOUR: 'it returns false'. Refute it at one input. -/
def arenaChecksWrong : ChangeSpec := { name := "arenaChecks", fn := fun _ => fun
  | [d1, d2] => { results := [.lit (.bool false)], args := [d1, d2] }
  | _ => none }
def ArenaChecksWrongFalsely : Prop := arenaChecksRow.holds Try.pinned (OpenSpec.ofChange arenaChecksWrong)

/-- 'spoollaw10.ArenaBuilds': WHATEVER THE INPUT: true; the input reads as it did. -/
def arenaBuildsSpec : ChangeSpec := { name := "arenaBuilds", fn := fun _ => fun
  | [d1, d2] => { results := [.lit (.bool true)], args := [d1, d2] }
  | _ => none }
def arenaBuildsRow : OpenClaim := { program := "ytbgoaigbkfibbaa", sum := "5af7e3c12f889f14d02f67d108a9e05cb230b776caa65f5f9b7bb926a38415a5", func := "spool/spoollaw10.ArenaBuilds", spec := "arenaBuilds", unfollowed := true, recurses := true, plainKeys := false, apart := false }
def ArenaBuildsSaid : Prop := arenaBuildsRow.holds Try.pinned (OpenSpec.ofChange arenaBuildsSpec)

/-- ITS FALSE NEIGHBOUR: 'it returns false'. Refute it at one input. -/
def arenaBuildsWrong : ChangeSpec := { name := "arenaBuilds", fn := fun _ => fun
  | [d1, d2] => { results := [.lit (.bool false)], args := [d1, d2] }
  | _ => none }
def ArenaBuildsWrongFalsely : Prop := arenaBuildsRow.holds Try.pinned (OpenSpec.ofChange arenaBuildsWrong)

/-- 'spoollaw10.ArenaNobody': WHATEVER THE INPUT: true; the input reads as it did. -/
def arenaNobodySpec : ChangeSpec := { name := "arenaNobody", fn := fun _ => fun
  | [d] => { results := [.lit (.bool true)], args := [d] }
  | _ => none }
def arenaNobodyRow : OpenClaim := { program := "ytbgoaigbkfibbaa", sum := "5af7e3c12f889f14d02f67d108a9e05cb230b776caa65f5f9b7bb926a38415a5", func := "spool/spoollaw10.ArenaNobody", spec := "arenaNobody", unfollowed := true, recurses := true, plainKeys := false, apart := false }
def ArenaNobodySaid : Prop := arenaNobodyRow.holds Try.pinned (OpenSpec.ofChange arenaNobodySpec)

/-- ITS FALSE NEIGHBOUR: 'it returns false'. Refute it at one input. -/
def arenaNobodyWrong : ChangeSpec := { name := "arenaNobody", fn := fun _ => fun
  | [d] => { results := [.lit (.bool false)], args := [d] }
  | _ => none }
def ArenaNobodyWrongFalsely : Prop := arenaNobodyRow.holds Try.pinned (OpenSpec.ofChange arenaNobodyWrong)

/- THE SECOND FORM. 'bulk': how many values and letters a reading holds, each counted each time it is reached (what is shared counts as often as it is met; a slice's spare places count too). A statement '..UptoSaid' is the law's where the arguments, and the package variables that the reading takes, are together of bulk at most 1048576: NARROWER than '..Said'. Prove '..Said' where nothing that the law and all that it calls make is longer than what came in: it says more and counts as full. Else prove '..UptoSaid'. A law counts once. -/
mutual
def uptoBulk {H : Type} : DataW H → Nat
  | .lit (.string bytes) => bytes.length + 1
  | .lit _ => 1
  | .nil => 1
  | .ptr d => uptoBulk d + 1
  | .slice elems spare => uptoBulkAll elems + uptoBulkAll spare + 1
  | .agg parts => uptoBulkAll parts + 1
  | .iface _ d => uptoBulk d + 1
  | .map entries => uptoBulkEntries entries + 1
  | .held _ => 1
def uptoBulkAll {H : Type} : List (DataW H) → Nat
  | [] => 0
  | d :: r => uptoBulk d + uptoBulkAll r
def uptoBulkEntries {H : Type} : List (Lit × DataW H) → Nat
  | [] => 0
  | x :: r => uptoBulkEntry x + uptoBulkEntries r
def uptoBulkEntry {H : Type} : Lit × DataW H → Nat
  | (.string bytes, d) => bytes.length + uptoBulk d + 1
  | (_, d) => uptoBulk d + 1
 end
def uptoSmall : (H : Type) → List (DataW H) → Bool := fun _ ds => decide (uptoBulkAll ds ≤ 1048576)
def OpenSpec.upto (s : _root_.Go.ChangeSpec) : _root_.Go.OpenSpec := { _root_.Go.OpenSpec.ofChange s with cond := some uptoSmall }

/-- 'spoollaw10.ArenaChecks', WHERE WHAT IT READS IS OF BULK AT MOST 1048576: true; the input reads as it did. -/
def arenaChecksUptoRow : OpenClaim := { program := "ytbgoaigbkfibbaa", sum := "5af7e3c12f889f14d02f67d108a9e05cb230b776caa65f5f9b7bb926a38415a5", func := "spool/spoollaw10.ArenaChecks", spec := "arenaChecks", unfollowed := true, recurses := true, plainKeys := false, apart := false, narrowed := true }
def ArenaChecksUptoSaid : Prop := arenaChecksUptoRow.holds Try.pinned (OpenSpec.upto arenaChecksSpec)

/-- 'spoollaw10.ArenaBuilds', WHERE WHAT IT READS IS OF BULK AT MOST 1048576: true; the input reads as it did. -/
def arenaBuildsUptoRow : OpenClaim := { program := "ytbgoaigbkfibbaa", sum := "5af7e3c12f889f14d02f67d108a9e05cb230b776caa65f5f9b7bb926a38415a5", func := "spool/spoollaw10.ArenaBuilds", spec := "arenaBuilds", unfollowed := true, recurses := true, plainKeys := false, apart := false, narrowed := true }
def ArenaBuildsUptoSaid : Prop := arenaBuildsUptoRow.holds Try.pinned (OpenSpec.upto arenaBuildsSpec)

/-- 'spoollaw10.ArenaNobody', WHERE WHAT IT READS IS OF BULK AT MOST 1048576: true; the input reads as it did. -/
def arenaNobodyUptoRow : OpenClaim := { program := "ytbgoaigbkfibbaa", sum := "5af7e3c12f889f14d02f67d108a9e05cb230b776caa65f5f9b7bb926a38415a5", func := "spool/spoollaw10.ArenaNobody", spec := "arenaNobody", unfollowed := true, recurses := true, plainKeys := false, apart := false, narrowed := true }
def ArenaNobodyUptoSaid : Prop := arenaNobodyUptoRow.holds Try.pinned (OpenSpec.upto arenaNobodySpec)

end Rows
end Go.Proofs.Ytbgoaigbkfibbaa
