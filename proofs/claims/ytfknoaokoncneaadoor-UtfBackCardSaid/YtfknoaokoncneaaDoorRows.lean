/-
  NARROWER THAN 'FOR EVERY INPUT', by the rows' own cells (each row's printed sentence says how): PlaceTells: laid · PlaceLines: laid · PlaceOf: laid · DigitParses: laid · DigitTexts: laid · DigitBack: laid · UtfPuts: laid · UtfGets: laid · UtfBack: laid.
  DERIVED. THE GIVEN ROWS OF THIS SEAT. 9 by the template 'for every input the law returns true; each argument reads behind the call as it read before'; 0 by the template 'total and deterministic' (their statements: YtfknoaokoncneaaDoorTotals.lean).
  GIVEN WITH THE SEED: the statements are not yours to turn. If you find one false, say at which input.
  Laid BY PROGRAM, IN A SANDBOX (cutbox-rows.mjs): the forced cells as the released guide's own fill.sh prints them over the translation 87af18a9bce2dae2… (all of the seat's roots in one cut). By AI agents, Wed Nov 11 2026. No macro, syntax, notation, axiom, sorry.
-/
import Derived.Test.YtfknoaokoncneaaDoorChecked
import GoSem.PinnedTables
import GoSem.Claim
import GoSem.ClaimJoined
import GoSem.ClaimMapViews
import Derived.JoinedTies
import Derived.KernelRfl
namespace Go.Proofs.YtfknoaokoncneaaDoor
/- THE CELL 'sum', in the pinned program and in every row, IS THE sha256 OF THE DUMP (.gsa) THAT YtfknoaokoncneaaDoorProg.lean LOADS. Nothing in Lean hashes anything: it is a label: what it is worth is what the hold of that sum in a sandbox is worth. -/
noncomputable def Tryd.pinned : Pinned := { name := "ytfknoaokoncneaadoor", sum := "87af18a9bce2dae2f43ced21924d6fbe12069496ac5a1ea4a4438838515674d7", checked := Tryd.checked }
namespace Rows
def none {H : Type} : Left H := { results := [], args := [] }

/- WHAT THE LISTED PACKAGE-LEVEL VARIABLES READ AS WHEN THE CALL BEGINS. Each datum BY PROGRAM (the guide's laid-datum.mjs) off the statement by which the dump's own 'gosem.cut.vars' lays the variable. In a bare row this is a premise. The card (YtfknoaokoncneaaDoorCards.lean) ties it to the program's text. -/
def laid_spool_digit_signs {H : Type} : DataW H := .agg [.lit (.int .u8 48), .lit (.int .u8 49), .lit (.int .u8 50), .lit (.int .u8 51), .lit (.int .u8 52), .lit (.int .u8 53), .lit (.int .u8 54), .lit (.int .u8 55), .lit (.int .u8 56), .lit (.int .u8 57), .lit (.int .u8 97), .lit (.int .u8 98), .lit (.int .u8 99), .lit (.int .u8 100), .lit (.int .u8 101), .lit (.int .u8 102)]
def laid_spool_place_words {H : Type} : DataW H := .agg [.lit (.string [111, 107]), .lit (.string [97, 114, 103, 117, 109, 101, 110, 116]), .lit (.string [114, 97, 110, 103, 101]), .lit (.string [102, 111, 114, 109]), .lit (.string [110, 97, 109, 101]), .lit (.string [116, 119, 105, 99, 101]), .lit (.string [98, 105, 103]), .lit (.string [100, 101, 101, 112]), .lit (.string [101, 109, 112, 116, 121]), .lit (.string [117, 110, 115, 117, 112, 112, 111, 114, 116, 101, 100]), .lit (.string [110, 111, 110, 101]), .lit (.string [109, 111, 100, 101]), .lit (.string [109, 97, 114, 107]), .lit (.string [116, 114, 97, 105, 108]), .lit (.string [102, 117, 108, 108]), .lit (.string [115, 116, 97, 114, 118, 101, 100]), .lit (.string [99, 108, 111, 115, 101, 100]), .lit (.string [98, 117, 115, 121]), .lit (.string [115, 116, 97, 116, 101])]
def laid_unicode_utf8_acceptRanges {H : Type} : DataW H := .agg [.agg [.lit (.int .u8 128), .lit (.int .u8 191)], .agg [.lit (.int .u8 160), .lit (.int .u8 191)], .agg [.lit (.int .u8 128), .lit (.int .u8 159)], .agg [.lit (.int .u8 144), .lit (.int .u8 191)], .agg [.lit (.int .u8 128), .lit (.int .u8 143)], .agg [.lit (.int .u8 0), .lit (.int .u8 0)], .agg [.lit (.int .u8 0), .lit (.int .u8 0)], .agg [.lit (.int .u8 0), .lit (.int .u8 0)], .agg [.lit (.int .u8 0), .lit (.int .u8 0)], .agg [.lit (.int .u8 0), .lit (.int .u8 0)], .agg [.lit (.int .u8 0), .lit (.int .u8 0)], .agg [.lit (.int .u8 0), .lit (.int .u8 0)], .agg [.lit (.int .u8 0), .lit (.int .u8 0)], .agg [.lit (.int .u8 0), .lit (.int .u8 0)], .agg [.lit (.int .u8 0), .lit (.int .u8 0)], .agg [.lit (.int .u8 0), .lit (.int .u8 0)]]
/-- One of Go's own tables, pinned by name: the form's constant. -/
def laid_unicode_utf8_first : DataW Unit := Go.Pinned.utf8First

/-- 'spoollaw03.PlaceTells': WHATEVER THE INPUT: true; the input reads as it did. -/
def placeTellsSpec : ChangeSpec := { name := "placeTells", fn := fun _ => fun
  | [d1, d2] => { results := [.lit (.bool true)], args := [d1, d2] }
  | _ => none }
def placeTellsRow : OpenClaim := { program := "ytfknoaokoncneaadoor", sum := "87af18a9bce2dae2f43ced21924d6fbe12069496ac5a1ea4a4438838515674d7", func := "spool/spoollaw03.PlaceTells", spec := "placeTells", recurses := true, named := ["spool/digit.signs", "spool/place.words"], apart := false, laid := [("spool/digit.signs", laid_spool_digit_signs), ("spool/place.words", laid_spool_place_words)] }
def PlaceTellsSaid : Prop := placeTellsRow.holds Tryd.pinned (OpenSpec.ofChange placeTellsSpec)

/-- ITS FALSE NEIGHBOUR: 'it returns false'. Refute it at one input. -/
def placeTellsWrong : ChangeSpec := { name := "placeTells", fn := fun _ => fun
  | [d1, d2] => { results := [.lit (.bool false)], args := [d1, d2] }
  | _ => none }
def PlaceTellsWrongFalsely : Prop := placeTellsRow.holds Tryd.pinned (OpenSpec.ofChange placeTellsWrong)

/-- 'spoollaw03.PlaceLines': WHATEVER THE INPUT: true; the input reads as it did. -/
def placeLinesSpec : ChangeSpec := { name := "placeLines", fn := fun _ => fun
  | [d] => { results := [.lit (.bool true)], args := [d] }
  | _ => none }
def placeLinesRow : OpenClaim := { program := "ytfknoaokoncneaadoor", sum := "87af18a9bce2dae2f43ced21924d6fbe12069496ac5a1ea4a4438838515674d7", func := "spool/spoollaw03.PlaceLines", spec := "placeLines", unfollowed := true, recurses := true, named := ["spool/digit.signs", "spool/place.words"], apart := false, laid := [("spool/digit.signs", laid_spool_digit_signs), ("spool/place.words", laid_spool_place_words)] }
def PlaceLinesSaid : Prop := placeLinesRow.holds Tryd.pinned (OpenSpec.ofChange placeLinesSpec)

/-- ITS FALSE NEIGHBOUR: 'it returns false'. Refute it at one input. -/
def placeLinesWrong : ChangeSpec := { name := "placeLines", fn := fun _ => fun
  | [d] => { results := [.lit (.bool false)], args := [d] }
  | _ => none }
def PlaceLinesWrongFalsely : Prop := placeLinesRow.holds Tryd.pinned (OpenSpec.ofChange placeLinesWrong)

/-- 'spoollaw03.PlaceOf': WHATEVER THE INPUT: true; the input reads as it did. -/
def placeOfSpec : ChangeSpec := { name := "placeOf", fn := fun _ => fun
  | [d1, d2, d3] => { results := [.lit (.bool true)], args := [d1, d2, d3] }
  | _ => none }
def placeOfRow : OpenClaim := { program := "ytfknoaokoncneaadoor", sum := "87af18a9bce2dae2f43ced21924d6fbe12069496ac5a1ea4a4438838515674d7", func := "spool/spoollaw03.PlaceOf", spec := "placeOf", unfollowed := true, recurses := true, named := ["spool/digit.signs", "spool/place.words"], apart := false, laid := [("spool/digit.signs", laid_spool_digit_signs), ("spool/place.words", laid_spool_place_words)] }
def PlaceOfSaid : Prop := placeOfRow.holds Tryd.pinned (OpenSpec.ofChange placeOfSpec)

/-- ITS FALSE NEIGHBOUR: 'it returns false'. Refute it at one input. -/
def placeOfWrong : ChangeSpec := { name := "placeOf", fn := fun _ => fun
  | [d1, d2, d3] => { results := [.lit (.bool false)], args := [d1, d2, d3] }
  | _ => none }
def PlaceOfWrongFalsely : Prop := placeOfRow.holds Tryd.pinned (OpenSpec.ofChange placeOfWrong)

/-- 'spoollaw01.DigitParses': WHATEVER THE INPUT: true; the input reads as it did. -/
def digitParsesSpec : ChangeSpec := { name := "digitParses", fn := fun _ => fun
  | [d] => { results := [.lit (.bool true)], args := [d] }
  | _ => none }
def digitParsesRow : OpenClaim := { program := "ytfknoaokoncneaadoor", sum := "87af18a9bce2dae2f43ced21924d6fbe12069496ac5a1ea4a4438838515674d7", func := "spool/spoollaw01.DigitParses", spec := "digitParses", recurses := true, named := ["spool/digit.signs"], apart := false, laid := [("spool/digit.signs", laid_spool_digit_signs)] }
def DigitParsesSaid : Prop := digitParsesRow.holds Tryd.pinned (OpenSpec.ofChange digitParsesSpec)

/-- ITS FALSE NEIGHBOUR: 'it returns false'. Refute it at one input. -/
def digitParsesWrong : ChangeSpec := { name := "digitParses", fn := fun _ => fun
  | [d] => { results := [.lit (.bool false)], args := [d] }
  | _ => none }
def DigitParsesWrongFalsely : Prop := digitParsesRow.holds Tryd.pinned (OpenSpec.ofChange digitParsesWrong)

/-- 'spoollaw01.DigitTexts': WHATEVER THE INPUT: true; the input reads as it did. -/
def digitTextsSpec : ChangeSpec := { name := "digitTexts", fn := fun _ => fun
  | [d1, d2] => { results := [.lit (.bool true)], args := [d1, d2] }
  | _ => none }
def digitTextsRow : OpenClaim := { program := "ytfknoaokoncneaadoor", sum := "87af18a9bce2dae2f43ced21924d6fbe12069496ac5a1ea4a4438838515674d7", func := "spool/spoollaw01.DigitTexts", spec := "digitTexts", recurses := true, named := ["spool/digit.signs"], apart := false, laid := [("spool/digit.signs", laid_spool_digit_signs)] }
def DigitTextsSaid : Prop := digitTextsRow.holds Tryd.pinned (OpenSpec.ofChange digitTextsSpec)

/-- ITS FALSE NEIGHBOUR: 'it returns false'. Refute it at one input. -/
def digitTextsWrong : ChangeSpec := { name := "digitTexts", fn := fun _ => fun
  | [d1, d2] => { results := [.lit (.bool false)], args := [d1, d2] }
  | _ => none }
def DigitTextsWrongFalsely : Prop := digitTextsRow.holds Tryd.pinned (OpenSpec.ofChange digitTextsWrong)

/-- 'spoollaw01.DigitBack': WHATEVER THE INPUT: true; the input reads as it did. -/
def digitBackSpec : ChangeSpec := { name := "digitBack", fn := fun _ => fun
  | [d1, d2] => { results := [.lit (.bool true)], args := [d1, d2] }
  | _ => none }
def digitBackRow : OpenClaim := { program := "ytfknoaokoncneaadoor", sum := "87af18a9bce2dae2f43ced21924d6fbe12069496ac5a1ea4a4438838515674d7", func := "spool/spoollaw01.DigitBack", spec := "digitBack", named := ["spool/digit.signs"], apart := false, laid := [("spool/digit.signs", laid_spool_digit_signs)] }
def DigitBackSaid : Prop := digitBackRow.holds Tryd.pinned (OpenSpec.ofChange digitBackSpec)

/-- ITS FALSE NEIGHBOUR: 'it returns false'. Refute it at one input. -/
def digitBackWrong : ChangeSpec := { name := "digitBack", fn := fun _ => fun
  | [d1, d2] => { results := [.lit (.bool false)], args := [d1, d2] }
  | _ => none }
def DigitBackWrongFalsely : Prop := digitBackRow.holds Tryd.pinned (OpenSpec.ofChange digitBackWrong)

/-- 'spoollaw02.UtfPuts': WHATEVER THE INPUT: true; the input reads as it did. -/
def utfPutsSpec : ChangeSpec := { name := "utfPuts", fn := fun _ => fun
  | [d1, d2] => { results := [.lit (.bool true)], args := [d1, d2] }
  | _ => none }
def utfPutsRow : OpenClaim := { program := "ytfknoaokoncneaadoor", sum := "87af18a9bce2dae2f43ced21924d6fbe12069496ac5a1ea4a4438838515674d7", func := "spool/spoollaw02.UtfPuts", spec := "utfPuts", unfollowed := true, recurses := true, named := ["unicode/utf8.first", "unicode/utf8.acceptRanges"], apart := false, laid := [("unicode/utf8.acceptRanges", laid_unicode_utf8_acceptRanges), ("unicode/utf8.first", laid_unicode_utf8_first)] }
def UtfPutsSaid : Prop := utfPutsRow.holds Tryd.pinned (OpenSpec.ofChange utfPutsSpec)

/-- ITS FALSE NEIGHBOUR: 'it returns false'. Refute it at one input. -/
def utfPutsWrong : ChangeSpec := { name := "utfPuts", fn := fun _ => fun
  | [d1, d2] => { results := [.lit (.bool false)], args := [d1, d2] }
  | _ => none }
def UtfPutsWrongFalsely : Prop := utfPutsRow.holds Tryd.pinned (OpenSpec.ofChange utfPutsWrong)

/-- 'spoollaw02.UtfGets': WHATEVER THE INPUT: true; the input reads as it did. -/
def utfGetsSpec : ChangeSpec := { name := "utfGets", fn := fun _ => fun
  | [d] => { results := [.lit (.bool true)], args := [d] }
  | _ => none }
def utfGetsRow : OpenClaim := { program := "ytfknoaokoncneaadoor", sum := "87af18a9bce2dae2f43ced21924d6fbe12069496ac5a1ea4a4438838515674d7", func := "spool/spoollaw02.UtfGets", spec := "utfGets", unfollowed := true, recurses := true, named := ["unicode/utf8.first", "unicode/utf8.acceptRanges"], apart := false, laid := [("unicode/utf8.acceptRanges", laid_unicode_utf8_acceptRanges), ("unicode/utf8.first", laid_unicode_utf8_first)] }
def UtfGetsSaid : Prop := utfGetsRow.holds Tryd.pinned (OpenSpec.ofChange utfGetsSpec)

/-- ITS FALSE NEIGHBOUR: 'it returns false'. Refute it at one input. -/
def utfGetsWrong : ChangeSpec := { name := "utfGets", fn := fun _ => fun
  | [d] => { results := [.lit (.bool false)], args := [d] }
  | _ => none }
def UtfGetsWrongFalsely : Prop := utfGetsRow.holds Tryd.pinned (OpenSpec.ofChange utfGetsWrong)

/-- 'spoollaw02.UtfBack': WHATEVER THE INPUT: true; the input reads as it did. -/
def utfBackSpec : ChangeSpec := { name := "utfBack", fn := fun _ => fun
  | [d1, d2] => { results := [.lit (.bool true)], args := [d1, d2] }
  | _ => none }
def utfBackRow : OpenClaim := { program := "ytfknoaokoncneaadoor", sum := "87af18a9bce2dae2f43ced21924d6fbe12069496ac5a1ea4a4438838515674d7", func := "spool/spoollaw02.UtfBack", spec := "utfBack", unfollowed := true, recurses := true, named := ["unicode/utf8.first", "unicode/utf8.acceptRanges"], apart := false, laid := [("unicode/utf8.acceptRanges", laid_unicode_utf8_acceptRanges), ("unicode/utf8.first", laid_unicode_utf8_first)] }
def UtfBackSaid : Prop := utfBackRow.holds Tryd.pinned (OpenSpec.ofChange utfBackSpec)

/-- ITS FALSE NEIGHBOUR: 'it returns false'. Refute it at one input. -/
def utfBackWrong : ChangeSpec := { name := "utfBack", fn := fun _ => fun
  | [d1, d2] => { results := [.lit (.bool false)], args := [d1, d2] }
  | _ => none }
def UtfBackWrongFalsely : Prop := utfBackRow.holds Tryd.pinned (OpenSpec.ofChange utfBackWrong)

/- THE SECOND FORM. 'bulk': how many values and letters a reading holds, each counted each time it is reached (what is shared counts as often as it is met; a slice's spare places count too). A statement '..UptoSaid' is the law's where the arguments, and the package variables that the reading takes, are together of bulk at most 1048576: NARROWER than '..Said'. Prove '..Said' where nothing that the law and all that it calls make is longer than what came in: it says more and counts as full. Else prove '..UptoSaid'. A law counts once. -/
mutual
def uptoBulk {H : Type} : DataW H → Nat
  | .lit (.string bytes) => bytes.length + 1
  | .lit _ => 1
  | .nil => 1
  | .ptr d => uptoBulk d + 1
  | .slice elems spare => uptoBulkAll elems + uptoBulkAll spare + 1
  | .agg parts => uptoBulkAll parts + 1
  | .iface _ d => uptoBulk d + 1
  | .map entries => uptoBulkEntries entries + 1
  | .held _ => 1
def uptoBulkAll {H : Type} : List (DataW H) → Nat
  | [] => 0
  | d :: r => uptoBulk d + uptoBulkAll r
def uptoBulkEntries {H : Type} : List (Lit × DataW H) → Nat
  | [] => 0
  | x :: r => uptoBulkEntry x + uptoBulkEntries r
def uptoBulkEntry {H : Type} : Lit × DataW H → Nat
  | (.string bytes, d) => bytes.length + uptoBulk d + 1
  | (_, d) => uptoBulk d + 1
 end
def uptoSmall : (H : Type) → List (DataW H) → Bool := fun _ ds => decide (uptoBulkAll ds ≤ 1048576)
def OpenSpec.upto (s : _root_.Go.ChangeSpec) : _root_.Go.OpenSpec := { _root_.Go.OpenSpec.ofChange s with cond := some uptoSmall }

/-- 'spoollaw03.PlaceTells', WHERE WHAT IT READS IS OF BULK AT MOST 1048576: true; the input reads as it did. -/
def placeTellsUptoRow : OpenClaim := { program := "ytfknoaokoncneaadoor", sum := "87af18a9bce2dae2f43ced21924d6fbe12069496ac5a1ea4a4438838515674d7", func := "spool/spoollaw03.PlaceTells", spec := "placeTells", recurses := true, named := ["spool/digit.signs", "spool/place.words"], apart := false, laid := [("spool/digit.signs", laid_spool_digit_signs), ("spool/place.words", laid_spool_place_words)], narrowed := true }
def PlaceTellsUptoSaid : Prop := placeTellsUptoRow.holds Tryd.pinned (OpenSpec.upto placeTellsSpec)

/-- 'spoollaw03.PlaceLines', WHERE WHAT IT READS IS OF BULK AT MOST 1048576: true; the input reads as it did. -/
def placeLinesUptoRow : OpenClaim := { program := "ytfknoaokoncneaadoor", sum := "87af18a9bce2dae2f43ced21924d6fbe12069496ac5a1ea4a4438838515674d7", func := "spool/spoollaw03.PlaceLines", spec := "placeLines", unfollowed := true, recurses := true, named := ["spool/digit.signs", "spool/place.words"], apart := false, laid := [("spool/digit.signs", laid_spool_digit_signs), ("spool/place.words", laid_spool_place_words)], narrowed := true }
def PlaceLinesUptoSaid : Prop := placeLinesUptoRow.holds Tryd.pinned (OpenSpec.upto placeLinesSpec)

/-- 'spoollaw03.PlaceOf', WHERE WHAT IT READS IS OF BULK AT MOST 1048576: true; the input reads as it did. -/
def placeOfUptoRow : OpenClaim := { program := "ytfknoaokoncneaadoor", sum := "87af18a9bce2dae2f43ced21924d6fbe12069496ac5a1ea4a4438838515674d7", func := "spool/spoollaw03.PlaceOf", spec := "placeOf", unfollowed := true, recurses := true, named := ["spool/digit.signs", "spool/place.words"], apart := false, laid := [("spool/digit.signs", laid_spool_digit_signs), ("spool/place.words", laid_spool_place_words)], narrowed := true }
def PlaceOfUptoSaid : Prop := placeOfUptoRow.holds Tryd.pinned (OpenSpec.upto placeOfSpec)

/-- 'spoollaw01.DigitParses', WHERE WHAT IT READS IS OF BULK AT MOST 1048576: true; the input reads as it did. -/
def digitParsesUptoRow : OpenClaim := { program := "ytfknoaokoncneaadoor", sum := "87af18a9bce2dae2f43ced21924d6fbe12069496ac5a1ea4a4438838515674d7", func := "spool/spoollaw01.DigitParses", spec := "digitParses", recurses := true, named := ["spool/digit.signs"], apart := false, laid := [("spool/digit.signs", laid_spool_digit_signs)], narrowed := true }
def DigitParsesUptoSaid : Prop := digitParsesUptoRow.holds Tryd.pinned (OpenSpec.upto digitParsesSpec)

/-- 'spoollaw01.DigitTexts', WHERE WHAT IT READS IS OF BULK AT MOST 1048576: true; the input reads as it did. -/
def digitTextsUptoRow : OpenClaim := { program := "ytfknoaokoncneaadoor", sum := "87af18a9bce2dae2f43ced21924d6fbe12069496ac5a1ea4a4438838515674d7", func := "spool/spoollaw01.DigitTexts", spec := "digitTexts", recurses := true, named := ["spool/digit.signs"], apart := false, laid := [("spool/digit.signs", laid_spool_digit_signs)], narrowed := true }
def DigitTextsUptoSaid : Prop := digitTextsUptoRow.holds Tryd.pinned (OpenSpec.upto digitTextsSpec)

/-- 'spoollaw01.DigitBack', WHERE WHAT IT READS IS OF BULK AT MOST 1048576: true; the input reads as it did. -/
def digitBackUptoRow : OpenClaim := { program := "ytfknoaokoncneaadoor", sum := "87af18a9bce2dae2f43ced21924d6fbe12069496ac5a1ea4a4438838515674d7", func := "spool/spoollaw01.DigitBack", spec := "digitBack", named := ["spool/digit.signs"], apart := false, laid := [("spool/digit.signs", laid_spool_digit_signs)], narrowed := true }
def DigitBackUptoSaid : Prop := digitBackUptoRow.holds Tryd.pinned (OpenSpec.upto digitBackSpec)

/-- 'spoollaw02.UtfPuts', WHERE WHAT IT READS IS OF BULK AT MOST 1048576: true; the input reads as it did. -/
def utfPutsUptoRow : OpenClaim := { program := "ytfknoaokoncneaadoor", sum := "87af18a9bce2dae2f43ced21924d6fbe12069496ac5a1ea4a4438838515674d7", func := "spool/spoollaw02.UtfPuts", spec := "utfPuts", unfollowed := true, recurses := true, named := ["unicode/utf8.first", "unicode/utf8.acceptRanges"], apart := false, laid := [("unicode/utf8.acceptRanges", laid_unicode_utf8_acceptRanges), ("unicode/utf8.first", laid_unicode_utf8_first)], narrowed := true }
def UtfPutsUptoSaid : Prop := utfPutsUptoRow.holds Tryd.pinned (OpenSpec.upto utfPutsSpec)

/-- 'spoollaw02.UtfGets', WHERE WHAT IT READS IS OF BULK AT MOST 1048576: true; the input reads as it did. -/
def utfGetsUptoRow : OpenClaim := { program := "ytfknoaokoncneaadoor", sum := "87af18a9bce2dae2f43ced21924d6fbe12069496ac5a1ea4a4438838515674d7", func := "spool/spoollaw02.UtfGets", spec := "utfGets", unfollowed := true, recurses := true, named := ["unicode/utf8.first", "unicode/utf8.acceptRanges"], apart := false, laid := [("unicode/utf8.acceptRanges", laid_unicode_utf8_acceptRanges), ("unicode/utf8.first", laid_unicode_utf8_first)], narrowed := true }
def UtfGetsUptoSaid : Prop := utfGetsUptoRow.holds Tryd.pinned (OpenSpec.upto utfGetsSpec)

/-- 'spoollaw02.UtfBack', WHERE WHAT IT READS IS OF BULK AT MOST 1048576: true; the input reads as it did. -/
def utfBackUptoRow : OpenClaim := { program := "ytfknoaokoncneaadoor", sum := "87af18a9bce2dae2f43ced21924d6fbe12069496ac5a1ea4a4438838515674d7", func := "spool/spoollaw02.UtfBack", spec := "utfBack", unfollowed := true, recurses := true, named := ["unicode/utf8.first", "unicode/utf8.acceptRanges"], apart := false, laid := [("unicode/utf8.acceptRanges", laid_unicode_utf8_acceptRanges), ("unicode/utf8.first", laid_unicode_utf8_first)], narrowed := true }
def UtfBackUptoSaid : Prop := utfBackUptoRow.holds Tryd.pinned (OpenSpec.upto utfBackSpec)

end Rows
end Go.Proofs.YtfknoaokoncneaaDoor
