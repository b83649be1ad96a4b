/-
  DERIVED. GIVEN WITH THE SEED: THE CARDS: each row of YtfknoaokoncneabDoorRows.lean that lists a variable, with what it lists TIED to the program's text (the seventh form; the later family's looks); each row that meets fmt, with fmt's text TOLD by the authors' own Lean function (tested against real Go, not proved from fmt's source: count such statements apart). THE CARD IS WHAT COUNTS. Prove the row's statement (the work); the ties are given (YtfknoaokoncneabDoorTie.lean); close each card by the builder's one call (the guide's Derived/Test/ToyasCard.lean, 'card_holds'). Laid BY PROGRAM, IN A SANDBOX (cutbox-door.mjs). By AI agents, Wed Nov 11 2026. No macro, syntax, notation, axiom, sorry.
-/
import Derived.Test.YtfknoaokoncneabDoorRows
import GoSem.ClaimSeven
namespace Go.Proofs.YtfknoaokoncneabDoor
namespace Rows

/-- THE TIED CARD OF 'spoollaw06.FoldPairs'. -/
def foldPairsCard : Claim7 := { stood := { row := foldPairsRow, standIns := [], harness := (true, "983ddb95131a0b85e7887bd9a6f875d78cf130914eb4df023147c34ee91bb63a"), looks := true }, kinds := [], alts := [], laidByText := true, laidKinds := [.data], laidTests := true, laidLooks := .later }
def FoldPairsCardSaid : Prop := Claim7.holds Tryd.pinned (.plain (OpenSpec.ofChange foldPairsSpec)) foldPairsCard

/-- THE TIED CARD OF 'spoollaw06.FoldSets'. -/
def foldSetsCard : Claim7 := { stood := { row := foldSetsRow, standIns := [], harness := (true, "983ddb95131a0b85e7887bd9a6f875d78cf130914eb4df023147c34ee91bb63a"), looks := true }, kinds := [], alts := [], laidByText := true, laidKinds := [.data], laidTests := true, laidLooks := .later }
def FoldSetsCardSaid : Prop := Claim7.holds Tryd.pinned (.plain (OpenSpec.ofChange foldSetsSpec)) foldSetsCard

/-- THE TIED CARD OF 'spoollaw06.FoldTexts'. -/
def foldTextsCard : Claim7 := { stood := { row := foldTextsRow, standIns := [], harness := (true, "983ddb95131a0b85e7887bd9a6f875d78cf130914eb4df023147c34ee91bb63a"), looks := true }, kinds := [], alts := [], laidByText := true, laidKinds := [.data], laidTests := true, laidLooks := .later }
def FoldTextsCardSaid : Prop := Claim7.holds Tryd.pinned (.plain (OpenSpec.ofChange foldTextsSpec)) foldTextsCard

/-- THE SECOND FORM's CARD OF 'spoollaw06.FoldPairs'. -/
def foldPairsUptoCard : Claim7 := { stood := { row := foldPairsUptoRow, standIns := [], harness := (true, "983ddb95131a0b85e7887bd9a6f875d78cf130914eb4df023147c34ee91bb63a"), looks := true }, kinds := [], alts := [], laidByText := true, laidKinds := [.data], laidTests := true, laidLooks := .later }
def FoldPairsUptoCardSaid : Prop := Claim7.holds Tryd.pinned (.plain (OpenSpec.upto foldPairsSpec)) foldPairsUptoCard

/-- THE SECOND FORM's CARD OF 'spoollaw06.FoldSets'. -/
def foldSetsUptoCard : Claim7 := { stood := { row := foldSetsUptoRow, standIns := [], harness := (true, "983ddb95131a0b85e7887bd9a6f875d78cf130914eb4df023147c34ee91bb63a"), looks := true }, kinds := [], alts := [], laidByText := true, laidKinds := [.data], laidTests := true, laidLooks := .later }
def FoldSetsUptoCardSaid : Prop := Claim7.holds Tryd.pinned (.plain (OpenSpec.upto foldSetsSpec)) foldSetsUptoCard

/-- THE SECOND FORM's CARD OF 'spoollaw06.FoldTexts'. -/
def foldTextsUptoCard : Claim7 := { stood := { row := foldTextsUptoRow, standIns := [], harness := (true, "983ddb95131a0b85e7887bd9a6f875d78cf130914eb4df023147c34ee91bb63a"), looks := true }, kinds := [], alts := [], laidByText := true, laidKinds := [.data], laidTests := true, laidLooks := .later }
def FoldTextsUptoCardSaid : Prop := Claim7.holds Tryd.pinned (.plain (OpenSpec.upto foldTextsSpec)) foldTextsUptoCard
end Rows
end Go.Proofs.YtfknoaokoncneabDoor
