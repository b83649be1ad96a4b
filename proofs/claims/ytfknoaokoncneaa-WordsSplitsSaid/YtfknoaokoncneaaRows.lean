/-
  No cell of these rows narrows 'for every input' (looked for: loops, veiled, ifaces, maps, wideKeys, modest, calm, conditions, laid).
  DERIVED. THE GIVEN ROWS OF THIS SEAT. 3 by the template 'for every input the law returns true; each argument reads behind the call as it read before'; 0 by the template 'total and deterministic' (their statements: YtfknoaokoncneaaTotals.lean).
  GIVEN WITH THE SEED: the statements are not yours to turn. If you find one false, say at which input.
  Laid BY PROGRAM, IN A SANDBOX (cutbox-rows.mjs): the forced cells as the released guide's own fill.sh prints them over the translation 8707b8ffa7edc330… (all of the seat's roots in one cut). By AI agents, Wed Nov 11 2026. No macro, syntax, notation, axiom, sorry.
-/
import Derived.Test.YtfknoaokoncneaaChecked
import GoSem.Claim
import GoSem.ClaimJoined
import GoSem.ClaimMapViews
import Derived.JoinedTies
import Derived.KernelRfl
namespace Go.Proofs.Ytfknoaokoncneaa
/- THE CELL 'sum', in the pinned program and in every row, IS THE sha256 OF THE DUMP (.gsa) THAT YtfknoaokoncneaaProg.lean LOADS. Nothing in Lean hashes anything: it is a label: what it is worth is what the hold of that sum in a sandbox is worth. -/
noncomputable def Try.pinned : Pinned := { name := "ytfknoaokoncneaa", sum := "8707b8ffa7edc3307efa208e1d231909da0e7bf50c3eb8200f02f163ece72485", checked := Try.checked }
namespace Rows
def none {H : Type} : Left H := { results := [], args := [] }

/-- 'spoollaw04.WordsNames': WHATEVER THE INPUT: true; the input reads as it did. -/
def wordsNamesSpec : ChangeSpec := { name := "wordsNames", fn := fun _ => fun
  | [d1, d2] => { results := [.lit (.bool true)], args := [d1, d2] }
  | _ => none }
def wordsNamesRow : OpenClaim := { program := "ytfknoaokoncneaa", sum := "8707b8ffa7edc3307efa208e1d231909da0e7bf50c3eb8200f02f163ece72485", func := "spool/spoollaw04.WordsNames", spec := "wordsNames", unfollowed := true, recurses := true, apart := false }
def WordsNamesSaid : Prop := wordsNamesRow.holds Try.pinned (OpenSpec.ofChange wordsNamesSpec)

/-- ITS FALSE NEIGHBOUR: 'it returns false'. Refute it at one input. -/
def wordsNamesWrong : ChangeSpec := { name := "wordsNames", fn := fun _ => fun
  | [d1, d2] => { results := [.lit (.bool false)], args := [d1, d2] }
  | _ => none }
def WordsNamesWrongFalsely : Prop := wordsNamesRow.holds Try.pinned (OpenSpec.ofChange wordsNamesWrong)

/-- 'spoollaw04.WordsApart': WHATEVER THE INPUT: true; the input reads as it did. -/
def wordsApartSpec : ChangeSpec := { name := "wordsApart", fn := fun _ => fun
  | [d] => { results := [.lit (.bool true)], args := [d] }
  | _ => none }
def wordsApartRow : OpenClaim := { program := "ytfknoaokoncneaa", sum := "8707b8ffa7edc3307efa208e1d231909da0e7bf50c3eb8200f02f163ece72485", func := "spool/spoollaw04.WordsApart", spec := "wordsApart", unfollowed := true, recurses := true, apart := false }
def WordsApartSaid : Prop := wordsApartRow.holds Try.pinned (OpenSpec.ofChange wordsApartSpec)

/-- ITS FALSE NEIGHBOUR: 'it returns false'. Refute it at one input. -/
def wordsApartWrong : ChangeSpec := { name := "wordsApart", fn := fun _ => fun
  | [d] => { results := [.lit (.bool false)], args := [d] }
  | _ => none }
def WordsApartWrongFalsely : Prop := wordsApartRow.holds Try.pinned (OpenSpec.ofChange wordsApartWrong)

/-- 'spoollaw04.WordsSplits': WHATEVER THE INPUT: true; the input reads as it did. -/
def wordsSplitsSpec : ChangeSpec := { name := "wordsSplits", fn := fun _ => fun
  | [d1, d2] => { results := [.lit (.bool true)], args := [d1, d2] }
  | _ => none }
def wordsSplitsRow : OpenClaim := { program := "ytfknoaokoncneaa", sum := "8707b8ffa7edc3307efa208e1d231909da0e7bf50c3eb8200f02f163ece72485", func := "spool/spoollaw04.WordsSplits", spec := "wordsSplits", unfollowed := true, recurses := true, apart := false }
def WordsSplitsSaid : Prop := wordsSplitsRow.holds Try.pinned (OpenSpec.ofChange wordsSplitsSpec)

/-- ITS FALSE NEIGHBOUR: 'it returns false'. Refute it at one input. -/
def wordsSplitsWrong : ChangeSpec := { name := "wordsSplits", fn := fun _ => fun
  | [d1, d2] => { results := [.lit (.bool false)], args := [d1, d2] }
  | _ => none }
def WordsSplitsWrongFalsely : Prop := wordsSplitsRow.holds Try.pinned (OpenSpec.ofChange wordsSplitsWrong)

/- THE SECOND FORM. 'bulk': how many values and letters a reading holds, each counted each time it is reached (what is shared counts as often as it is met; a slice's spare places count too). A statement '..UptoSaid' is the law's where the arguments, and the package variables that the reading takes, are together of bulk at most 1048576: NARROWER than '..Said'. Prove '..Said' where nothing that the law and all that it calls make is longer than what came in: it says more and counts as full. Else prove '..UptoSaid'. A law counts once. -/
mutual
def uptoBulk {H : Type} : DataW H → Nat
  | .lit (.string bytes) => bytes.length + 1
  | .lit _ => 1
  | .nil => 1
  | .ptr d => uptoBulk d + 1
  | .slice elems spare => uptoBulkAll elems + uptoBulkAll spare + 1
  | .agg parts => uptoBulkAll parts + 1
  | .iface _ d => uptoBulk d + 1
  | .map entries => uptoBulkEntries entries + 1
  | .held _ => 1
def uptoBulkAll {H : Type} : List (DataW H) → Nat
  | [] => 0
  | d :: r => uptoBulk d + uptoBulkAll r
def uptoBulkEntries {H : Type} : List (Lit × DataW H) → Nat
  | [] => 0
  | x :: r => uptoBulkEntry x + uptoBulkEntries r
def uptoBulkEntry {H : Type} : Lit × DataW H → Nat
  | (.string bytes, d) => bytes.length + uptoBulk d + 1
  | (_, d) => uptoBulk d + 1
 end
def uptoSmall : (H : Type) → List (DataW H) → Bool := fun _ ds => decide (uptoBulkAll ds ≤ 1048576)
def OpenSpec.upto (s : _root_.Go.ChangeSpec) : _root_.Go.OpenSpec := { _root_.Go.OpenSpec.ofChange s with cond := some uptoSmall }

/-- 'spoollaw04.WordsNames', WHERE WHAT IT READS IS OF BULK AT MOST 1048576: true; the input reads as it did. -/
def wordsNamesUptoRow : OpenClaim := { program := "ytfknoaokoncneaa", sum := "8707b8ffa7edc3307efa208e1d231909da0e7bf50c3eb8200f02f163ece72485", func := "spool/spoollaw04.WordsNames", spec := "wordsNames", unfollowed := true, recurses := true, apart := false, narrowed := true }
def WordsNamesUptoSaid : Prop := wordsNamesUptoRow.holds Try.pinned (OpenSpec.upto wordsNamesSpec)

/-- 'spoollaw04.WordsApart', WHERE WHAT IT READS IS OF BULK AT MOST 1048576: true; the input reads as it did. -/
def wordsApartUptoRow : OpenClaim := { program := "ytfknoaokoncneaa", sum := "8707b8ffa7edc3307efa208e1d231909da0e7bf50c3eb8200f02f163ece72485", func := "spool/spoollaw04.WordsApart", spec := "wordsApart", unfollowed := true, recurses := true, apart := false, narrowed := true }
def WordsApartUptoSaid : Prop := wordsApartUptoRow.holds Try.pinned (OpenSpec.upto wordsApartSpec)

/-- 'spoollaw04.WordsSplits', WHERE WHAT IT READS IS OF BULK AT MOST 1048576: true; the input reads as it did. -/
def wordsSplitsUptoRow : OpenClaim := { program := "ytfknoaokoncneaa", sum := "8707b8ffa7edc3307efa208e1d231909da0e7bf50c3eb8200f02f163ece72485", func := "spool/spoollaw04.WordsSplits", spec := "wordsSplits", unfollowed := true, recurses := true, apart := false, narrowed := true }
def WordsSplitsUptoSaid : Prop := wordsSplitsUptoRow.holds Try.pinned (OpenSpec.upto wordsSplitsSpec)

end Rows
end Go.Proofs.Ytfknoaokoncneaa
