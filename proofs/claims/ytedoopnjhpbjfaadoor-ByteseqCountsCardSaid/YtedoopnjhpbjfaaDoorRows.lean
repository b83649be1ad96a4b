/-
  NARROWER THAN 'FOR EVERY INPUT', by the rows' own cells (each row's printed sentence says how): ByteseqMatches: laid · ByteseqCounts: laid.
  DERIVED. THE GIVEN ROWS OF THIS SEAT. 2 by the template 'for every input the law returns true; each argument reads behind the call as it read before'; 0 by the template 'total and deterministic' (their statements: YtedoopnjhpbjfaaDoorTotals.lean).
  GIVEN WITH THE SEED: the statements are not yours to turn. If you find one false, say at which input.
  Laid BY PROGRAM, IN A SANDBOX (cutbox-rows.mjs): the forced cells as the released guide's own fill.sh prints them over the translation 3357ddbf4fffde75… (all of the seat's roots in one cut). By AI agents, Wed Nov 11 2026. No macro, syntax, notation, axiom, sorry.
-/
import Derived.Test.YtedoopnjhpbjfaaDoorChecked
import GoSem.Claim
import GoSem.ClaimJoined
import GoSem.ClaimMapViews
import Derived.JoinedTies
import Derived.KernelRfl
namespace Go.Proofs.YtedoopnjhpbjfaaDoor
/- THE CELL 'sum', in the pinned program and in every row, IS THE sha256 OF THE DUMP (.gsa) THAT YtedoopnjhpbjfaaDoorProg.lean LOADS. Nothing in Lean hashes anything: it is a label: what it is worth is what the hold of that sum in a sandbox is worth. -/
noncomputable def Tryd.pinned : Pinned := { name := "ytedoopnjhpbjfaadoor", sum := "3357ddbf4fffde7556c2a13e6ceaf91f1455b2ffadf622bc2d695da64e8c8825", checked := Tryd.checked }
namespace Rows
def none {H : Type} : Left H := { results := [], args := [] }

/- WHAT THE LISTED PACKAGE-LEVEL VARIABLES READ AS WHEN THE CALL BEGINS. Each datum BY PROGRAM (the guide's laid-datum.mjs) off the statement by which the dump's own 'gosem.cut.vars' lays the variable. In a bare row this is a premise. The card (YtedoopnjhpbjfaaDoorCards.lean) ties it to the program's text. -/
def laid_spool_byteseq_limits {H : Type} : DataW H := .agg [.lit (.int .i64 127), .lit (.int .i64 2047), .lit (.int .i64 65535), .lit (.int .i64 1114111)]
def laid_spool_byteseq_gap {H : Type} : DataW H := .agg [.lit (.int .i64 55296), .lit (.int .i64 57343)]

/-- 'spoollaw08.ByteseqMatches': WHATEVER THE INPUT: true; the input reads as it did. -/
def byteseqMatchesSpec : ChangeSpec := { name := "byteseqMatches", fn := fun _ => fun
  | [d1, d2, d3] => { results := [.lit (.bool true)], args := [d1, d2, d3] }
  | _ => none }
def byteseqMatchesRow : OpenClaim := { program := "ytedoopnjhpbjfaadoor", sum := "3357ddbf4fffde7556c2a13e6ceaf91f1455b2ffadf622bc2d695da64e8c8825", func := "spool/spoollaw08.ByteseqMatches", spec := "byteseqMatches", unfollowed := true, recurses := true, named := ["spool/byteseq.gap", "spool/byteseq.limits"], apart := false, laid := [("spool/byteseq.limits", laid_spool_byteseq_limits), ("spool/byteseq.gap", laid_spool_byteseq_gap)] }
def ByteseqMatchesSaid : Prop := byteseqMatchesRow.holds Tryd.pinned (OpenSpec.ofChange byteseqMatchesSpec)

/-- ITS FALSE NEIGHBOUR: 'it returns false'. Refute it at one input. -/
def byteseqMatchesWrong : ChangeSpec := { name := "byteseqMatches", fn := fun _ => fun
  | [d1, d2, d3] => { results := [.lit (.bool false)], args := [d1, d2, d3] }
  | _ => none }
def ByteseqMatchesWrongFalsely : Prop := byteseqMatchesRow.holds Tryd.pinned (OpenSpec.ofChange byteseqMatchesWrong)

/-- 'spoollaw08.ByteseqCounts': WHATEVER THE INPUT: true; the input reads as it did. -/
def byteseqCountsSpec : ChangeSpec := { name := "byteseqCounts", fn := fun _ => fun
  | [d] => { results := [.lit (.bool true)], args := [d] }
  | _ => none }
def byteseqCountsRow : OpenClaim := { program := "ytedoopnjhpbjfaadoor", sum := "3357ddbf4fffde7556c2a13e6ceaf91f1455b2ffadf622bc2d695da64e8c8825", func := "spool/spoollaw08.ByteseqCounts", spec := "byteseqCounts", unfollowed := true, recurses := true, named := ["spool/byteseq.gap", "spool/byteseq.limits"], apart := false, laid := [("spool/byteseq.limits", laid_spool_byteseq_limits), ("spool/byteseq.gap", laid_spool_byteseq_gap)] }
def ByteseqCountsSaid : Prop := byteseqCountsRow.holds Tryd.pinned (OpenSpec.ofChange byteseqCountsSpec)

/-- ITS FALSE NEIGHBOUR: 'it returns false'. Refute it at one input. -/
def byteseqCountsWrong : ChangeSpec := { name := "byteseqCounts", fn := fun _ => fun
  | [d] => { results := [.lit (.bool false)], args := [d] }
  | _ => none }
def ByteseqCountsWrongFalsely : Prop := byteseqCountsRow.holds Tryd.pinned (OpenSpec.ofChange byteseqCountsWrong)

/- THE SECOND FORM. 'bulk': how many values and letters a reading holds, each counted each time it is reached (what is shared counts as often as it is met; a slice's spare places count too). A statement '..UptoSaid' is the law's where the arguments, and the package variables that the reading takes, are together of bulk at most 1048576: NARROWER than '..Said'. Prove '..Said' where nothing that the law and all that it calls make is longer than what came in: it says more and counts as full. Else prove '..UptoSaid'. A law counts once. -/
mutual
def uptoBulk {H : Type} : DataW H → Nat
  | .lit (.string bytes) => bytes.length + 1
  | .lit _ => 1
  | .nil => 1
  | .ptr d => uptoBulk d + 1
  | .slice elems spare => uptoBulkAll elems + uptoBulkAll spare + 1
  | .agg parts => uptoBulkAll parts + 1
  | .iface _ d => uptoBulk d + 1
  | .map entries => uptoBulkEntries entries + 1
  | .held _ => 1
def uptoBulkAll {H : Type} : List (DataW H) → Nat
  | [] => 0
  | d :: r => uptoBulk d + uptoBulkAll r
def uptoBulkEntries {H : Type} : List (Lit × DataW H) → Nat
  | [] => 0
  | x :: r => uptoBulkEntry x + uptoBulkEntries r
def uptoBulkEntry {H : Type} : Lit × DataW H → Nat
  | (.string bytes, d) => bytes.length + uptoBulk d + 1
  | (_, d) => uptoBulk d + 1
 end
def uptoSmall : (H : Type) → List (DataW H) → Bool := fun _ ds => decide (uptoBulkAll ds ≤ 1048576)
def OpenSpec.upto (s : _root_.Go.ChangeSpec) : _root_.Go.OpenSpec := { _root_.Go.OpenSpec.ofChange s with cond := some uptoSmall }

/-- 'spoollaw08.ByteseqMatches', WHERE WHAT IT READS IS OF BULK AT MOST 1048576: true; the input reads as it did. -/
def byteseqMatchesUptoRow : OpenClaim := { program := "ytedoopnjhpbjfaadoor", sum := "3357ddbf4fffde7556c2a13e6ceaf91f1455b2ffadf622bc2d695da64e8c8825", func := "spool/spoollaw08.ByteseqMatches", spec := "byteseqMatches", unfollowed := true, recurses := true, named := ["spool/byteseq.gap", "spool/byteseq.limits"], apart := false, laid := [("spool/byteseq.limits", laid_spool_byteseq_limits), ("spool/byteseq.gap", laid_spool_byteseq_gap)], narrowed := true }
def ByteseqMatchesUptoSaid : Prop := byteseqMatchesUptoRow.holds Tryd.pinned (OpenSpec.upto byteseqMatchesSpec)

/-- 'spoollaw08.ByteseqCounts', WHERE WHAT IT READS IS OF BULK AT MOST 1048576: true; the input reads as it did. -/
def byteseqCountsUptoRow : OpenClaim := { program := "ytedoopnjhpbjfaadoor", sum := "3357ddbf4fffde7556c2a13e6ceaf91f1455b2ffadf622bc2d695da64e8c8825", func := "spool/spoollaw08.ByteseqCounts", spec := "byteseqCounts", unfollowed := true, recurses := true, named := ["spool/byteseq.gap", "spool/byteseq.limits"], apart := false, laid := [("spool/byteseq.limits", laid_spool_byteseq_limits), ("spool/byteseq.gap", laid_spool_byteseq_gap)], narrowed := true }
def ByteseqCountsUptoSaid : Prop := byteseqCountsUptoRow.holds Tryd.pinned (OpenSpec.upto byteseqCountsSpec)

end Rows
end Go.Proofs.YtedoopnjhpbjfaaDoor
