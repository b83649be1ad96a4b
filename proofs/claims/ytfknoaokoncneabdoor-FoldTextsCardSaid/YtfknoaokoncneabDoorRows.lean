/-
  NARROWER THAN 'FOR EVERY INPUT', by the rows' own cells (each row's printed sentence says how): FoldPairs: laid · FoldSets: laid · FoldTexts: laid.
  DERIVED. THE GIVEN ROWS OF THIS SEAT. 3 by the template 'for every input the law returns true; each argument reads behind the call as it read before'; 0 by the template 'total and deterministic' (their statements: YtfknoaokoncneabDoorTotals.lean).
  GIVEN WITH THE SEED: the statements are not yours to turn. If you find one false, say at which input.
  Laid BY PROGRAM, IN A SANDBOX (cutbox-rows.mjs): the forced cells as the released guide's own fill.sh prints them over the translation c2196a86e97e0e52… (all of the seat's roots in one cut). By AI agents, Wed Nov 11 2026. No macro, syntax, notation, axiom, sorry.
-/
import Derived.Test.YtfknoaokoncneabDoorChecked
import GoSem.Claim
import GoSem.ClaimJoined
import GoSem.ClaimMapViews
import Derived.JoinedTies
import Derived.KernelRfl
namespace Go.Proofs.YtfknoaokoncneabDoor
/- THE CELL 'sum', in the pinned program and in every row, IS THE sha256 OF THE DUMP (.gsa) THAT YtfknoaokoncneabDoorProg.lean LOADS. Nothing in Lean hashes anything: it is a label: what it is worth is what the hold of that sum in a sandbox is worth. -/
noncomputable def Tryd.pinned : Pinned := { name := "ytfknoaokoncneabdoor", sum := "c2196a86e97e0e52bcacca458c0b6260942556d3bf5e28bbf9fc992e2b8a6e08", checked := Tryd.checked }
namespace Rows
def none {H : Type} : Left H := { results := [], args := [] }

/- WHAT THE LISTED PACKAGE-LEVEL VARIABLES READ AS WHEN THE CALL BEGINS. Each datum BY PROGRAM (the guide's laid-datum.mjs) off the statement by which the dump's own 'gosem.cut.vars' lays the variable. In a bare row this is a premise. The card (YtfknoaokoncneabDoorCards.lean) ties it to the program's text. -/
def laid_spool_fold_rows {H : Type} : DataW H := .agg [.agg [.lit (.int .i64 65), .lit (.int .i64 90), .lit (.int .i64 32)], .agg [.lit (.int .i64 192), .lit (.int .i64 214), .lit (.int .i64 32)], .agg [.lit (.int .i64 216), .lit (.int .i64 222), .lit (.int .i64 32)], .agg [.lit (.int .i64 913), .lit (.int .i64 929), .lit (.int .i64 32)], .agg [.lit (.int .i64 931), .lit (.int .i64 939), .lit (.int .i64 32)], .agg [.lit (.int .i64 1024), .lit (.int .i64 1039), .lit (.int .i64 80)], .agg [.lit (.int .i64 1040), .lit (.int .i64 1071), .lit (.int .i64 32)]]

/-- 'spoollaw06.FoldPairs': WHATEVER THE INPUT: true; the input reads as it did. -/
def foldPairsSpec : ChangeSpec := { name := "foldPairs", fn := fun _ => fun
  | [d] => { results := [.lit (.bool true)], args := [d] }
  | _ => none }
def foldPairsRow : OpenClaim := { program := "ytfknoaokoncneabdoor", sum := "c2196a86e97e0e52bcacca458c0b6260942556d3bf5e28bbf9fc992e2b8a6e08", func := "spool/spoollaw06.FoldPairs", spec := "foldPairs", unfollowed := true, recurses := true, named := ["spool/fold.rows"], apart := false, laid := [("spool/fold.rows", laid_spool_fold_rows)] }
def FoldPairsSaid : Prop := foldPairsRow.holds Tryd.pinned (OpenSpec.ofChange foldPairsSpec)

/-- ITS FALSE NEIGHBOUR: 'it returns false'. Refute it at one input. -/
def foldPairsWrong : ChangeSpec := { name := "foldPairs", fn := fun _ => fun
  | [d] => { results := [.lit (.bool false)], args := [d] }
  | _ => none }
def FoldPairsWrongFalsely : Prop := foldPairsRow.holds Tryd.pinned (OpenSpec.ofChange foldPairsWrong)

/-- 'spoollaw06.FoldSets': WHATEVER THE INPUT: true; the input reads as it did. -/
def foldSetsSpec : ChangeSpec := { name := "foldSets", fn := fun _ => fun
  | [d1, d2] => { results := [.lit (.bool true)], args := [d1, d2] }
  | _ => none }
def foldSetsRow : OpenClaim := { program := "ytfknoaokoncneabdoor", sum := "c2196a86e97e0e52bcacca458c0b6260942556d3bf5e28bbf9fc992e2b8a6e08", func := "spool/spoollaw06.FoldSets", spec := "foldSets", unfollowed := true, recurses := true, named := ["spool/fold.rows"], apart := false, laid := [("spool/fold.rows", laid_spool_fold_rows)] }
def FoldSetsSaid : Prop := foldSetsRow.holds Tryd.pinned (OpenSpec.ofChange foldSetsSpec)

/-- ITS FALSE NEIGHBOUR: 'it returns false'. Refute it at one input. -/
def foldSetsWrong : ChangeSpec := { name := "foldSets", fn := fun _ => fun
  | [d1, d2] => { results := [.lit (.bool false)], args := [d1, d2] }
  | _ => none }
def FoldSetsWrongFalsely : Prop := foldSetsRow.holds Tryd.pinned (OpenSpec.ofChange foldSetsWrong)

/-- 'spoollaw06.FoldTexts': WHATEVER THE INPUT: true; the input reads as it did. -/
def foldTextsSpec : ChangeSpec := { name := "foldTexts", fn := fun _ => fun
  | [d1, d2] => { results := [.lit (.bool true)], args := [d1, d2] }
  | _ => none }
def foldTextsRow : OpenClaim := { program := "ytfknoaokoncneabdoor", sum := "c2196a86e97e0e52bcacca458c0b6260942556d3bf5e28bbf9fc992e2b8a6e08", func := "spool/spoollaw06.FoldTexts", spec := "foldTexts", unfollowed := true, recurses := true, named := ["spool/fold.rows"], apart := false, laid := [("spool/fold.rows", laid_spool_fold_rows)] }
def FoldTextsSaid : Prop := foldTextsRow.holds Tryd.pinned (OpenSpec.ofChange foldTextsSpec)

/-- ITS FALSE NEIGHBOUR: 'it returns false'. Refute it at one input. -/
def foldTextsWrong : ChangeSpec := { name := "foldTexts", fn := fun _ => fun
  | [d1, d2] => { results := [.lit (.bool false)], args := [d1, d2] }
  | _ => none }
def FoldTextsWrongFalsely : Prop := foldTextsRow.holds Tryd.pinned (OpenSpec.ofChange foldTextsWrong)

/- THE SECOND FORM. 'bulk': how many values and letters a reading holds, each counted each time it is reached (what is shared counts as often as it is met; a slice's spare places count too). A statement '..UptoSaid' is the law's where the arguments, and the package variables that the reading takes, are together of bulk at most 1048576: NARROWER than '..Said'. Prove '..Said' where nothing that the law and all that it calls make is longer than what came in: it says more and counts as full. Else prove '..UptoSaid'. A law counts once. -/
mutual
def uptoBulk {H : Type} : DataW H → Nat
  | .lit (.string bytes) => bytes.length + 1
  | .lit _ => 1
  | .nil => 1
  | .ptr d => uptoBulk d + 1
  | .slice elems spare => uptoBulkAll elems + uptoBulkAll spare + 1
  | .agg parts => uptoBulkAll parts + 1
  | .iface _ d => uptoBulk d + 1
  | .map entries => uptoBulkEntries entries + 1
  | .held _ => 1
def uptoBulkAll {H : Type} : List (DataW H) → Nat
  | [] => 0
  | d :: r => uptoBulk d + uptoBulkAll r
def uptoBulkEntries {H : Type} : List (Lit × DataW H) → Nat
  | [] => 0
  | x :: r => uptoBulkEntry x + uptoBulkEntries r
def uptoBulkEntry {H : Type} : Lit × DataW H → Nat
  | (.string bytes, d) => bytes.length + uptoBulk d + 1
  | (_, d) => uptoBulk d + 1
 end
def uptoSmall : (H : Type) → List (DataW H) → Bool := fun _ ds => decide (uptoBulkAll ds ≤ 1048576)
def OpenSpec.upto (s : _root_.Go.ChangeSpec) : _root_.Go.OpenSpec := { _root_.Go.OpenSpec.ofChange s with cond := some uptoSmall }

/-- 'spoollaw06.FoldPairs', WHERE WHAT IT READS IS OF BULK AT MOST 1048576: true; the input reads as it did. -/
def foldPairsUptoRow : OpenClaim := { program := "ytfknoaokoncneabdoor", sum := "c2196a86e97e0e52bcacca458c0b6260942556d3bf5e28bbf9fc992e2b8a6e08", func := "spool/spoollaw06.FoldPairs", spec := "foldPairs", unfollowed := true, recurses := true, named := ["spool/fold.rows"], apart := false, laid := [("spool/fold.rows", laid_spool_fold_rows)], narrowed := true }
def FoldPairsUptoSaid : Prop := foldPairsUptoRow.holds Tryd.pinned (OpenSpec.upto foldPairsSpec)

/-- 'spoollaw06.FoldSets', WHERE WHAT IT READS IS OF BULK AT MOST 1048576: true; the input reads as it did. -/
def foldSetsUptoRow : OpenClaim := { program := "ytfknoaokoncneabdoor", sum := "c2196a86e97e0e52bcacca458c0b6260942556d3bf5e28bbf9fc992e2b8a6e08", func := "spool/spoollaw06.FoldSets", spec := "foldSets", unfollowed := true, recurses := true, named := ["spool/fold.rows"], apart := false, laid := [("spool/fold.rows", laid_spool_fold_rows)], narrowed := true }
def FoldSetsUptoSaid : Prop := foldSetsUptoRow.holds Tryd.pinned (OpenSpec.upto foldSetsSpec)

/-- 'spoollaw06.FoldTexts', WHERE WHAT IT READS IS OF BULK AT MOST 1048576: true; the input reads as it did. -/
def foldTextsUptoRow : OpenClaim := { program := "ytfknoaokoncneabdoor", sum := "c2196a86e97e0e52bcacca458c0b6260942556d3bf5e28bbf9fc992e2b8a6e08", func := "spool/spoollaw06.FoldTexts", spec := "foldTexts", unfollowed := true, recurses := true, named := ["spool/fold.rows"], apart := false, laid := [("spool/fold.rows", laid_spool_fold_rows)], narrowed := true }
def FoldTextsUptoSaid : Prop := foldTextsUptoRow.holds Tryd.pinned (OpenSpec.upto foldTextsSpec)

end Rows
end Go.Proofs.YtfknoaokoncneabDoor
