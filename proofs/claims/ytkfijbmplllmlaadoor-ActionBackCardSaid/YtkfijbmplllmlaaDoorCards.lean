/-
  DERIVED. GIVEN WITH THE SEED: THE CARDS: each row of YtkfijbmplllmlaaDoorRows.lean that lists a variable, with what it lists TIED to the program's text (the seventh form; the later family's looks); each row that meets fmt, with fmt's text TOLD by the authors' own Lean function (tested against real Go, not proved from fmt's source: count such statements apart). THE CARD IS WHAT COUNTS. Prove the row's statement (the work); the ties are given (YtkfijbmplllmlaaDoorTie.lean); close each card by the builder's one call (the guide's Derived/Test/ToyasCard.lean, 'card_holds'). Laid BY PROGRAM, IN A SANDBOX (cutbox-door.mjs). By AI agents, Wed Nov 11 2026. No macro, syntax, notation, axiom, sorry.
-/
import Derived.Test.YtkfijbmplllmlaaDoorRows
import GoSem.ClaimSeven
namespace Go.Proofs.YtkfijbmplllmlaaDoor
namespace Rows

/-- THE TIED CARD OF 'spoollaw17.ActionParses'. -/
def actionParsesCard : Claim7 := { stood := { row := actionParsesRow, standIns := [], harness := (true, "754692b643b9a4014d5d4899672d46e770579d4e1f8b13c0546b58533489cdb5"), looks := false }, kinds := [], alts := [], laidByText := true, laidKinds := [.data], laidTests := true, laidLooks := .later }
def ActionParsesCardSaid : Prop := Claim7.holds Tryd.pinned (.plain (OpenSpec.ofChange actionParsesSpec)) actionParsesCard

/-- THE TIED CARD OF 'spoollaw17.ActionBack'. -/
def actionBackCard : Claim7 := { stood := { row := actionBackRow, standIns := [], harness := (true, "754692b643b9a4014d5d4899672d46e770579d4e1f8b13c0546b58533489cdb5"), looks := false }, kinds := [], alts := [], laidByText := true, laidKinds := [.data], laidTests := true, laidLooks := .later }
def ActionBackCardSaid : Prop := Claim7.holds Tryd.pinned (.plain (OpenSpec.ofChange actionBackSpec)) actionBackCard

/-- THE SECOND FORM's CARD OF 'spoollaw17.ActionParses'. -/
def actionParsesUptoCard : Claim7 := { stood := { row := actionParsesUptoRow, standIns := [], harness := (true, "754692b643b9a4014d5d4899672d46e770579d4e1f8b13c0546b58533489cdb5"), looks := false }, kinds := [], alts := [], laidByText := true, laidKinds := [.data], laidTests := true, laidLooks := .later }
def ActionParsesUptoCardSaid : Prop := Claim7.holds Tryd.pinned (.plain (OpenSpec.upto actionParsesSpec)) actionParsesUptoCard

/-- THE SECOND FORM's CARD OF 'spoollaw17.ActionBack'. -/
def actionBackUptoCard : Claim7 := { stood := { row := actionBackUptoRow, standIns := [], harness := (true, "754692b643b9a4014d5d4899672d46e770579d4e1f8b13c0546b58533489cdb5"), looks := false }, kinds := [], alts := [], laidByText := true, laidKinds := [.data], laidTests := true, laidLooks := .later }
def ActionBackUptoCardSaid : Prop := Claim7.holds Tryd.pinned (.plain (OpenSpec.upto actionBackSpec)) actionBackUptoCard
end Rows
end Go.Proofs.YtkfijbmplllmlaaDoor
