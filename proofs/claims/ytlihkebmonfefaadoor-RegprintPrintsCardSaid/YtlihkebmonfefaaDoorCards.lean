/-
  DERIVED. GIVEN WITH THE SEED: THE CARDS: each row of YtlihkebmonfefaaDoorRows.lean that lists a variable, with what it lists TIED to the program's text (the seventh form; the later family's looks); each row that meets fmt, with fmt's text TOLD by the authors' own Lean function (tested against real Go, not proved from fmt's source: count such statements apart). THE CARD IS WHAT COUNTS. Prove the row's statement (the work); the ties are given (YtlihkebmonfefaaDoorTie.lean); close each card by the builder's one call (the guide's Derived/Test/ToyasCard.lean, 'card_holds'). Laid BY PROGRAM, IN A SANDBOX (cutbox-door.mjs). By AI agents, Wed Nov 11 2026. No macro, syntax, notation, axiom, sorry.
-/
import Derived.Test.YtlihkebmonfefaaDoorRows
import GoSem.ClaimSeven
namespace Go.Proofs.YtlihkebmonfefaaDoor
namespace Rows

/-- THE TIED CARD OF 'spoollaw14.RegprintPrints'. -/
def regprintPrintsCard : Claim7 := { stood := { row := regprintPrintsRow, standIns := [], harness := (true, "b7445262498c8cc25c158fe2fa426ffbe930ce4c4b2deb95e33b64776c39a611"), looks := true }, kinds := [], alts := [], laidByText := true, laidKinds := [.data], laidTests := true, laidLooks := .later }
def RegprintPrintsCardSaid : Prop := Claim7.holds Tryd.pinned (.plain (OpenSpec.ofChange regprintPrintsSpec)) regprintPrintsCard

/-- THE SECOND FORM's CARD OF 'spoollaw14.RegprintPrints'. -/
def regprintPrintsUptoCard : Claim7 := { stood := { row := regprintPrintsUptoRow, standIns := [], harness := (true, "b7445262498c8cc25c158fe2fa426ffbe930ce4c4b2deb95e33b64776c39a611"), looks := true }, kinds := [], alts := [], laidByText := true, laidKinds := [.data], laidTests := true, laidLooks := .later }
def RegprintPrintsUptoCardSaid : Prop := Claim7.holds Tryd.pinned (.plain (OpenSpec.upto regprintPrintsSpec)) regprintPrintsUptoCard
end Rows
end Go.Proofs.YtlihkebmonfefaaDoor
