/-
  DERIVED. GIVEN WITH THE SEED: THE CARDS: each row of YtedoopnjhpbjfaaDoorRows.lean that lists a variable, with what it lists TIED to the program's text (the seventh form; the later family's looks); each row that meets fmt, with fmt's text TOLD by the authors' own Lean function (tested against real Go, not proved from fmt's source: count such statements apart). THE CARD IS WHAT COUNTS. Prove the row's statement (the work); the ties are given (YtedoopnjhpbjfaaDoorTie.lean); close each card by the builder's one call (the guide's Derived/Test/ToyasCard.lean, 'card_holds'). Laid BY PROGRAM, IN A SANDBOX (cutbox-door.mjs). By AI agents, Wed Nov 11 2026. No macro, syntax, notation, axiom, sorry.
-/
import Derived.Test.YtedoopnjhpbjfaaDoorRows
import GoSem.ClaimSeven
namespace Go.Proofs.YtedoopnjhpbjfaaDoor
namespace Rows

/-- THE TIED CARD OF 'spoollaw08.ByteseqMatches'. -/
def byteseqMatchesCard : Claim7 := { stood := { row := byteseqMatchesRow, standIns := [], harness := (true, "aa8976e9e9e76b300c2d9832768f05878c52271c3079001cab8ce0884e4d49c1"), looks := true }, kinds := [], alts := [], laidByText := true, laidKinds := [.data, .data], laidTests := true, laidLooks := .later }
def ByteseqMatchesCardSaid : Prop := Claim7.holds Tryd.pinned (.plain (OpenSpec.ofChange byteseqMatchesSpec)) byteseqMatchesCard

/-- THE TIED CARD OF 'spoollaw08.ByteseqCounts'. -/
def byteseqCountsCard : Claim7 := { stood := { row := byteseqCountsRow, standIns := [], harness := (true, "aa8976e9e9e76b300c2d9832768f05878c52271c3079001cab8ce0884e4d49c1"), looks := true }, kinds := [], alts := [], laidByText := true, laidKinds := [.data, .data], laidTests := true, laidLooks := .later }
def ByteseqCountsCardSaid : Prop := Claim7.holds Tryd.pinned (.plain (OpenSpec.ofChange byteseqCountsSpec)) byteseqCountsCard

/-- THE SECOND FORM's CARD OF 'spoollaw08.ByteseqMatches'. -/
def byteseqMatchesUptoCard : Claim7 := { stood := { row := byteseqMatchesUptoRow, standIns := [], harness := (true, "aa8976e9e9e76b300c2d9832768f05878c52271c3079001cab8ce0884e4d49c1"), looks := true }, kinds := [], alts := [], laidByText := true, laidKinds := [.data, .data], laidTests := true, laidLooks := .later }
def ByteseqMatchesUptoCardSaid : Prop := Claim7.holds Tryd.pinned (.plain (OpenSpec.upto byteseqMatchesSpec)) byteseqMatchesUptoCard

/-- THE SECOND FORM's CARD OF 'spoollaw08.ByteseqCounts'. -/
def byteseqCountsUptoCard : Claim7 := { stood := { row := byteseqCountsUptoRow, standIns := [], harness := (true, "aa8976e9e9e76b300c2d9832768f05878c52271c3079001cab8ce0884e4d49c1"), looks := true }, kinds := [], alts := [], laidByText := true, laidKinds := [.data, .data], laidTests := true, laidLooks := .later }
def ByteseqCountsUptoCardSaid : Prop := Claim7.holds Tryd.pinned (.plain (OpenSpec.upto byteseqCountsSpec)) byteseqCountsUptoCard
end Rows
end Go.Proofs.YtedoopnjhpbjfaaDoor
