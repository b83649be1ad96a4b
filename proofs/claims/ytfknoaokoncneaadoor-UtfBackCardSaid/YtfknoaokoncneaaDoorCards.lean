/-
  DERIVED. GIVEN WITH THE SEED: THE CARDS: each row of YtfknoaokoncneaaDoorRows.lean that lists a variable, with what it lists TIED to the program's text (the seventh form; the later family's looks); each row that meets fmt, with fmt's text TOLD by the authors' own Lean function (tested against real Go, not proved from fmt's source: count such statements apart). THE CARD IS WHAT COUNTS. Prove the row's statement (the work); the ties are given (YtfknoaokoncneaaDoorTie.lean); close each card by the builder's one call (the guide's Derived/Test/ToyasCard.lean, 'card_holds'). Laid BY PROGRAM, IN A SANDBOX (cutbox-door.mjs). By AI agents, Wed Nov 11 2026. No macro, syntax, notation, axiom, sorry.
-/
import Derived.Test.YtfknoaokoncneaaDoorRows
import GoSem.ClaimSeven
namespace Go.Proofs.YtfknoaokoncneaaDoor
namespace Rows

/-- THE TIED CARD OF 'spoollaw03.PlaceTells'. -/
def placeTellsCard : Claim7 := { stood := { row := placeTellsRow, standIns := [], harness := (true, "0f260b81dabd291ba513772d01388746a814351e7f2e3406250d240671b419e0"), looks := false }, kinds := [], alts := [], laidByText := true, laidKinds := [.data, .data], laidTests := true, laidLooks := .later }
def PlaceTellsCardSaid : Prop := Claim7.holds Tryd.pinned (.plain (OpenSpec.ofChange placeTellsSpec)) placeTellsCard

/-- THE TIED CARD OF 'spoollaw03.PlaceLines'. -/
def placeLinesCard : Claim7 := { stood := { row := placeLinesRow, standIns := [], harness := (true, "0f260b81dabd291ba513772d01388746a814351e7f2e3406250d240671b419e0"), looks := false }, kinds := [], alts := [], laidByText := true, laidKinds := [.data, .data], laidTests := true, laidLooks := .later }
def PlaceLinesCardSaid : Prop := Claim7.holds Tryd.pinned (.plain (OpenSpec.ofChange placeLinesSpec)) placeLinesCard

/-- THE TIED CARD OF 'spoollaw03.PlaceOf'. -/
def placeOfCard : Claim7 := { stood := { row := placeOfRow, standIns := [], harness := (true, "0f260b81dabd291ba513772d01388746a814351e7f2e3406250d240671b419e0"), looks := false }, kinds := [], alts := [], laidByText := true, laidKinds := [.data, .data], laidTests := true, laidLooks := .later }
def PlaceOfCardSaid : Prop := Claim7.holds Tryd.pinned (.plain (OpenSpec.ofChange placeOfSpec)) placeOfCard

/-- THE TIED CARD OF 'spoollaw01.DigitParses'. -/
def digitParsesCard : Claim7 := { stood := { row := digitParsesRow, standIns := [], harness := (true, "0f260b81dabd291ba513772d01388746a814351e7f2e3406250d240671b419e0"), looks := false }, kinds := [], alts := [], laidByText := true, laidKinds := [.data], laidTests := true, laidLooks := .later }
def DigitParsesCardSaid : Prop := Claim7.holds Tryd.pinned (.plain (OpenSpec.ofChange digitParsesSpec)) digitParsesCard

/-- THE TIED CARD OF 'spoollaw01.DigitTexts'. -/
def digitTextsCard : Claim7 := { stood := { row := digitTextsRow, standIns := [], harness := (true, "0f260b81dabd291ba513772d01388746a814351e7f2e3406250d240671b419e0"), looks := false }, kinds := [], alts := [], laidByText := true, laidKinds := [.data], laidTests := true, laidLooks := .later }
def DigitTextsCardSaid : Prop := Claim7.holds Tryd.pinned (.plain (OpenSpec.ofChange digitTextsSpec)) digitTextsCard

/-- THE TIED CARD OF 'spoollaw01.DigitBack'. -/
def digitBackCard : Claim7 := { stood := { row := digitBackRow, standIns := [], harness := (true, "0f260b81dabd291ba513772d01388746a814351e7f2e3406250d240671b419e0"), looks := false }, kinds := [], alts := [], laidByText := true, laidKinds := [.data], laidTests := true, laidLooks := .later }
def DigitBackCardSaid : Prop := Claim7.holds Tryd.pinned (.plain (OpenSpec.ofChange digitBackSpec)) digitBackCard

/-- THE TIED CARD OF 'spoollaw02.UtfPuts'. -/
def utfPutsCard : Claim7 := { stood := { row := utfPutsRow, standIns := [], harness := (true, "0f260b81dabd291ba513772d01388746a814351e7f2e3406250d240671b419e0"), looks := false }, kinds := [], alts := [], laidByText := true, laidKinds := [.data, .pinned], laidTests := true, laidLooks := .later }
def UtfPutsCardSaid : Prop := Claim7.holds Tryd.pinned (.plain (OpenSpec.ofChange utfPutsSpec)) utfPutsCard

/-- THE TIED CARD OF 'spoollaw02.UtfGets'. -/
def utfGetsCard : Claim7 := { stood := { row := utfGetsRow, standIns := [], harness := (true, "0f260b81dabd291ba513772d01388746a814351e7f2e3406250d240671b419e0"), looks := false }, kinds := [], alts := [], laidByText := true, laidKinds := [.data, .pinned], laidTests := true, laidLooks := .later }
def UtfGetsCardSaid : Prop := Claim7.holds Tryd.pinned (.plain (OpenSpec.ofChange utfGetsSpec)) utfGetsCard

/-- THE TIED CARD OF 'spoollaw02.UtfBack'. -/
def utfBackCard : Claim7 := { stood := { row := utfBackRow, standIns := [], harness := (true, "0f260b81dabd291ba513772d01388746a814351e7f2e3406250d240671b419e0"), looks := false }, kinds := [], alts := [], laidByText := true, laidKinds := [.data, .pinned], laidTests := true, laidLooks := .later }
def UtfBackCardSaid : Prop := Claim7.holds Tryd.pinned (.plain (OpenSpec.ofChange utfBackSpec)) utfBackCard

/-- THE SECOND FORM's CARD OF 'spoollaw03.PlaceTells'. -/
def placeTellsUptoCard : Claim7 := { stood := { row := placeTellsUptoRow, standIns := [], harness := (true, "0f260b81dabd291ba513772d01388746a814351e7f2e3406250d240671b419e0"), looks := false }, kinds := [], alts := [], laidByText := true, laidKinds := [.data, .data], laidTests := true, laidLooks := .later }
def PlaceTellsUptoCardSaid : Prop := Claim7.holds Tryd.pinned (.plain (OpenSpec.upto placeTellsSpec)) placeTellsUptoCard

/-- THE SECOND FORM's CARD OF 'spoollaw03.PlaceLines'. -/
def placeLinesUptoCard : Claim7 := { stood := { row := placeLinesUptoRow, standIns := [], harness := (true, "0f260b81dabd291ba513772d01388746a814351e7f2e3406250d240671b419e0"), looks := false }, kinds := [], alts := [], laidByText := true, laidKinds := [.data, .data], laidTests := true, laidLooks := .later }
def PlaceLinesUptoCardSaid : Prop := Claim7.holds Tryd.pinned (.plain (OpenSpec.upto placeLinesSpec)) placeLinesUptoCard

/-- THE SECOND FORM's CARD OF 'spoollaw03.PlaceOf'. -/
def placeOfUptoCard : Claim7 := { stood := { row := placeOfUptoRow, standIns := [], harness := (true, "0f260b81dabd291ba513772d01388746a814351e7f2e3406250d240671b419e0"), looks := false }, kinds := [], alts := [], laidByText := true, laidKinds := [.data, .data], laidTests := true, laidLooks := .later }
def PlaceOfUptoCardSaid : Prop := Claim7.holds Tryd.pinned (.plain (OpenSpec.upto placeOfSpec)) placeOfUptoCard

/-- THE SECOND FORM's CARD OF 'spoollaw01.DigitParses'. -/
def digitParsesUptoCard : Claim7 := { stood := { row := digitParsesUptoRow, standIns := [], harness := (true, "0f260b81dabd291ba513772d01388746a814351e7f2e3406250d240671b419e0"), looks := false }, kinds := [], alts := [], laidByText := true, laidKinds := [.data], laidTests := true, laidLooks := .later }
def DigitParsesUptoCardSaid : Prop := Claim7.holds Tryd.pinned (.plain (OpenSpec.upto digitParsesSpec)) digitParsesUptoCard

/-- THE SECOND FORM's CARD OF 'spoollaw01.DigitTexts'. -/
def digitTextsUptoCard : Claim7 := { stood := { row := digitTextsUptoRow, standIns := [], harness := (true, "0f260b81dabd291ba513772d01388746a814351e7f2e3406250d240671b419e0"), looks := false }, kinds := [], alts := [], laidByText := true, laidKinds := [.data], laidTests := true, laidLooks := .later }
def DigitTextsUptoCardSaid : Prop := Claim7.holds Tryd.pinned (.plain (OpenSpec.upto digitTextsSpec)) digitTextsUptoCard

/-- THE SECOND FORM's CARD OF 'spoollaw01.DigitBack'. -/
def digitBackUptoCard : Claim7 := { stood := { row := digitBackUptoRow, standIns := [], harness := (true, "0f260b81dabd291ba513772d01388746a814351e7f2e3406250d240671b419e0"), looks := false }, kinds := [], alts := [], laidByText := true, laidKinds := [.data], laidTests := true, laidLooks := .later }
def DigitBackUptoCardSaid : Prop := Claim7.holds Tryd.pinned (.plain (OpenSpec.upto digitBackSpec)) digitBackUptoCard

/-- THE SECOND FORM's CARD OF 'spoollaw02.UtfPuts'. -/
def utfPutsUptoCard : Claim7 := { stood := { row := utfPutsUptoRow, standIns := [], harness := (true, "0f260b81dabd291ba513772d01388746a814351e7f2e3406250d240671b419e0"), looks := false }, kinds := [], alts := [], laidByText := true, laidKinds := [.data, .pinned], laidTests := true, laidLooks := .later }
def UtfPutsUptoCardSaid : Prop := Claim7.holds Tryd.pinned (.plain (OpenSpec.upto utfPutsSpec)) utfPutsUptoCard

/-- THE SECOND FORM's CARD OF 'spoollaw02.UtfGets'. -/
def utfGetsUptoCard : Claim7 := { stood := { row := utfGetsUptoRow, standIns := [], harness := (true, "0f260b81dabd291ba513772d01388746a814351e7f2e3406250d240671b419e0"), looks := false }, kinds := [], alts := [], laidByText := true, laidKinds := [.data, .pinned], laidTests := true, laidLooks := .later }
def UtfGetsUptoCardSaid : Prop := Claim7.holds Tryd.pinned (.plain (OpenSpec.upto utfGetsSpec)) utfGetsUptoCard

/-- THE SECOND FORM's CARD OF 'spoollaw02.UtfBack'. -/
def utfBackUptoCard : Claim7 := { stood := { row := utfBackUptoRow, standIns := [], harness := (true, "0f260b81dabd291ba513772d01388746a814351e7f2e3406250d240671b419e0"), looks := false }, kinds := [], alts := [], laidByText := true, laidKinds := [.data, .pinned], laidTests := true, laidLooks := .later }
def UtfBackUptoCardSaid : Prop := Claim7.holds Tryd.pinned (.plain (OpenSpec.upto utfBackSpec)) utfBackUptoCard
end Rows
end Go.Proofs.YtfknoaokoncneaaDoor
