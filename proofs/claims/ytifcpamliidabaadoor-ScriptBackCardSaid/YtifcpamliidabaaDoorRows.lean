/-
  NARROWER THAN 'FOR EVERY INPUT', by the rows' own cells (each row's printed sentence says how): ScriptParses: laid · ScriptBack: laid · ScriptQuotes: laid · ScriptOps: laid · ScriptPrints: laid.
  DERIVED. THE GIVEN ROWS OF THIS SEAT. 5 by the template 'for every input the law returns true; each argument reads behind the call as it read before'; 0 by the template 'total and deterministic' (their statements: YtifcpamliidabaaDoorTotals.lean).
  GIVEN WITH THE SEED: the statements are not yours to turn. If you find one false, say at which input.
  Laid BY PROGRAM, IN A SANDBOX (cutbox-rows.mjs): the forced cells as the released guide's own fill.sh prints them over the translation f1d4812c0d8b020c… (all of the seat's roots in one cut). By AI agents, Wed Nov 11 2026. No macro, syntax, notation, axiom, sorry.
-/
import Derived.Test.YtifcpamliidabaaDoorChecked
import GoSem.Claim
import GoSem.ClaimJoined
import GoSem.ClaimMapViews
import Derived.JoinedTies
import Derived.KernelRfl
namespace Go.Proofs.YtifcpamliidabaaDoor
/- THE CELL 'sum', in the pinned program and in every row, IS THE sha256 OF THE DUMP (.gsa) THAT YtifcpamliidabaaDoorProg.lean LOADS. Nothing in Lean hashes anything: it is a label: what it is worth is what the hold of that sum in a sandbox is worth. -/
noncomputable def Tryd.pinned : Pinned := { name := "ytifcpamliidabaadoor", sum := "f1d4812c0d8b020c339af2264719c26c50df2446c271e75061e5de23906368c2", checked := Tryd.checked }
namespace Rows
def none {H : Type} : Left H := { results := [], args := [] }

/- WHAT THE LISTED PACKAGE-LEVEL VARIABLES READ AS WHEN THE CALL BEGINS. Each datum BY PROGRAM (the guide's laid-datum.mjs) off the statement by which the dump's own 'gosem.cut.vars' lays the variable. In a bare row this is a premise. The card (YtifcpamliidabaaDoorCards.lean) ties it to the program's text. -/
def laid_spool_digit_signs {H : Type} : DataW H := .agg [.lit (.int .u8 48), .lit (.int .u8 49), .lit (.int .u8 50), .lit (.int .u8 51), .lit (.int .u8 52), .lit (.int .u8 53), .lit (.int .u8 54), .lit (.int .u8 55), .lit (.int .u8 56), .lit (.int .u8 57), .lit (.int .u8 97), .lit (.int .u8 98), .lit (.int .u8 99), .lit (.int .u8 100), .lit (.int .u8 101), .lit (.int .u8 102)]
def laid_spool_script_names {H : Type} : DataW H := .agg [.lit (.string []), .lit (.string [102, 101, 101, 100]), .lit (.string [99, 108, 111, 115, 101]), .lit (.string [112, 101, 101, 107]), .lit (.string [116, 97, 107, 101]), .lit (.string [112, 117, 115, 104, 98, 97, 99, 107]), .lit (.string [109, 97, 114, 107]), .lit (.string [114, 101, 119, 105, 110, 100]), .lit (.string [114, 101, 108, 101, 97, 115, 101]), .lit (.string [109, 111, 100, 101])]
def laid_spool_script_heads {H : Type} : DataW H := .agg [.lit (.string []), .lit (.string [105, 110, 118, 111, 107, 101]), .lit (.string [99, 108, 105, 101, 110, 116]), .lit (.string [115, 101, 114, 118, 101, 114]), .lit (.string [115, 99, 97, 110, 110, 101, 114]), .lit (.string [114, 101, 99, 108, 97, 105, 109])]

/-- 'spoollaw48.ScriptParses': WHATEVER THE INPUT: true; the input reads as it did. -/
def scriptParsesSpec : ChangeSpec := { name := "scriptParses", fn := fun _ => fun
  | [d] => { results := [.lit (.bool true)], args := [d] }
  | _ => none }
def scriptParsesRow : OpenClaim := { program := "ytifcpamliidabaadoor", sum := "f1d4812c0d8b020c339af2264719c26c50df2446c271e75061e5de23906368c2", func := "spool/spoollaw48.ScriptParses", spec := "scriptParses", inPlace := ["internal/bytealg.IndexByteString"], unfollowed := true, recurses := true, named := ["spool/script.heads", "spool/script.names", "spool/digit.signs"], apart := false, laid := [("spool/digit.signs", laid_spool_digit_signs), ("spool/script.names", laid_spool_script_names), ("spool/script.heads", laid_spool_script_heads)] }
def ScriptParsesSaid : Prop := scriptParsesRow.holds Tryd.pinned (OpenSpec.ofChange scriptParsesSpec)

/-- ITS FALSE NEIGHBOUR: 'it returns false'. Refute it at one input. -/
def scriptParsesWrong : ChangeSpec := { name := "scriptParses", fn := fun _ => fun
  | [d] => { results := [.lit (.bool false)], args := [d] }
  | _ => none }
def ScriptParsesWrongFalsely : Prop := scriptParsesRow.holds Tryd.pinned (OpenSpec.ofChange scriptParsesWrong)

/-- 'spoollaw48.ScriptBack': WHATEVER THE INPUT: true; the input reads as it did. -/
def scriptBackSpec : ChangeSpec := { name := "scriptBack", fn := fun _ => fun
  | [d1, d2] => { results := [.lit (.bool true)], args := [d1, d2] }
  | _ => none }
def scriptBackRow : OpenClaim := { program := "ytifcpamliidabaadoor", sum := "f1d4812c0d8b020c339af2264719c26c50df2446c271e75061e5de23906368c2", func := "spool/spoollaw48.ScriptBack", spec := "scriptBack", inPlace := ["internal/bytealg.IndexByteString"], unfollowed := true, recurses := true, named := ["spool/script.heads", "spool/script.names", "spool/digit.signs"], apart := false, laid := [("spool/digit.signs", laid_spool_digit_signs), ("spool/script.names", laid_spool_script_names), ("spool/script.heads", laid_spool_script_heads)] }
def ScriptBackSaid : Prop := scriptBackRow.holds Tryd.pinned (OpenSpec.ofChange scriptBackSpec)

/-- ITS FALSE NEIGHBOUR: 'it returns false'. Refute it at one input. -/
def scriptBackWrong : ChangeSpec := { name := "scriptBack", fn := fun _ => fun
  | [d1, d2] => { results := [.lit (.bool false)], args := [d1, d2] }
  | _ => none }
def ScriptBackWrongFalsely : Prop := scriptBackRow.holds Tryd.pinned (OpenSpec.ofChange scriptBackWrong)

/-- 'spoollaw48.ScriptQuotes': WHATEVER THE INPUT: true; the input reads as it did. -/
def scriptQuotesSpec : ChangeSpec := { name := "scriptQuotes", fn := fun _ => fun
  | [d1, d2, d3] => { results := [.lit (.bool true)], args := [d1, d2, d3] }
  | _ => none }
def scriptQuotesRow : OpenClaim := { program := "ytifcpamliidabaadoor", sum := "f1d4812c0d8b020c339af2264719c26c50df2446c271e75061e5de23906368c2", func := "spool/spoollaw48.ScriptQuotes", spec := "scriptQuotes", inPlace := ["internal/bytealg.IndexByteString"], unfollowed := true, recurses := true, named := ["spool/script.heads", "spool/script.names", "spool/digit.signs"], apart := false, laid := [("spool/digit.signs", laid_spool_digit_signs), ("spool/script.names", laid_spool_script_names), ("spool/script.heads", laid_spool_script_heads)] }
def ScriptQuotesSaid : Prop := scriptQuotesRow.holds Tryd.pinned (OpenSpec.ofChange scriptQuotesSpec)

/-- ITS FALSE NEIGHBOUR: 'it returns false'. Refute it at one input. -/
def scriptQuotesWrong : ChangeSpec := { name := "scriptQuotes", fn := fun _ => fun
  | [d1, d2, d3] => { results := [.lit (.bool false)], args := [d1, d2, d3] }
  | _ => none }
def ScriptQuotesWrongFalsely : Prop := scriptQuotesRow.holds Tryd.pinned (OpenSpec.ofChange scriptQuotesWrong)

/-- 'spoollaw48.ScriptOps': WHATEVER THE INPUT: true; the input reads as it did. -/
def scriptOpsSpec : ChangeSpec := { name := "scriptOps", fn := fun _ => fun
  | [d1, d2, d3] => { results := [.lit (.bool true)], args := [d1, d2, d3] }
  | _ => none }
def scriptOpsRow : OpenClaim := { program := "ytifcpamliidabaadoor", sum := "f1d4812c0d8b020c339af2264719c26c50df2446c271e75061e5de23906368c2", func := "spool/spoollaw48.ScriptOps", spec := "scriptOps", inPlace := ["internal/bytealg.IndexByteString"], unfollowed := true, recurses := true, named := ["spool/script.heads", "spool/script.names", "spool/digit.signs"], apart := false, laid := [("spool/digit.signs", laid_spool_digit_signs), ("spool/script.names", laid_spool_script_names), ("spool/script.heads", laid_spool_script_heads)] }
def ScriptOpsSaid : Prop := scriptOpsRow.holds Tryd.pinned (OpenSpec.ofChange scriptOpsSpec)

/-- ITS FALSE NEIGHBOUR: 'it returns false'. Refute it at one input. -/
def scriptOpsWrong : ChangeSpec := { name := "scriptOps", fn := fun _ => fun
  | [d1, d2, d3] => { results := [.lit (.bool false)], args := [d1, d2, d3] }
  | _ => none }
def ScriptOpsWrongFalsely : Prop := scriptOpsRow.holds Tryd.pinned (OpenSpec.ofChange scriptOpsWrong)

/-- 'spoollaw48.ScriptPrints': WHATEVER THE INPUT: true; the input reads as it did. -/
def scriptPrintsSpec : ChangeSpec := { name := "scriptPrints", fn := fun _ => fun
  | [d] => { results := [.lit (.bool true)], args := [d] }
  | _ => none }
def scriptPrintsRow : OpenClaim := { program := "ytifcpamliidabaadoor", sum := "f1d4812c0d8b020c339af2264719c26c50df2446c271e75061e5de23906368c2", func := "spool/spoollaw48.ScriptPrints", spec := "scriptPrints", inPlace := ["internal/bytealg.IndexByteString"], unfollowed := true, recurses := true, named := ["spool/script.heads", "spool/script.names", "spool/digit.signs"], apart := false, laid := [("spool/digit.signs", laid_spool_digit_signs), ("spool/script.names", laid_spool_script_names), ("spool/script.heads", laid_spool_script_heads)] }
def ScriptPrintsSaid : Prop := scriptPrintsRow.holds Tryd.pinned (OpenSpec.ofChange scriptPrintsSpec)

/-- ITS FALSE NEIGHBOUR: 'it returns false'. Refute it at one input. -/
def scriptPrintsWrong : ChangeSpec := { name := "scriptPrints", fn := fun _ => fun
  | [d] => { results := [.lit (.bool false)], args := [d] }
  | _ => none }
def ScriptPrintsWrongFalsely : Prop := scriptPrintsRow.holds Tryd.pinned (OpenSpec.ofChange scriptPrintsWrong)

/- THE SECOND FORM. 'bulk': how many values and letters a reading holds, each counted each time it is reached (what is shared counts as often as it is met; a slice's spare places count too). A statement '..UptoSaid' is the law's where the arguments, and the package variables that the reading takes, are together of bulk at most 1048576: NARROWER than '..Said'. Prove '..Said' where nothing that the law and all that it calls make is longer than what came in: it says more and counts as full. Else prove '..UptoSaid'. A law counts once. -/
mutual
def uptoBulk {H : Type} : DataW H → Nat
  | .lit (.string bytes) => bytes.length + 1
  | .lit _ => 1
  | .nil => 1
  | .ptr d => uptoBulk d + 1
  | .slice elems spare => uptoBulkAll elems + uptoBulkAll spare + 1
  | .agg parts => uptoBulkAll parts + 1
  | .iface _ d => uptoBulk d + 1
  | .map entries => uptoBulkEntries entries + 1
  | .held _ => 1
def uptoBulkAll {H : Type} : List (DataW H) → Nat
  | [] => 0
  | d :: r => uptoBulk d + uptoBulkAll r
def uptoBulkEntries {H : Type} : List (Lit × DataW H) → Nat
  | [] => 0
  | x :: r => uptoBulkEntry x + uptoBulkEntries r
def uptoBulkEntry {H : Type} : Lit × DataW H → Nat
  | (.string bytes, d) => bytes.length + uptoBulk d + 1
  | (_, d) => uptoBulk d + 1
 end
def uptoSmall : (H : Type) → List (DataW H) → Bool := fun _ ds => decide (uptoBulkAll ds ≤ 1048576)
def OpenSpec.upto (s : _root_.Go.ChangeSpec) : _root_.Go.OpenSpec := { _root_.Go.OpenSpec.ofChange s with cond := some uptoSmall }

/-- 'spoollaw48.ScriptParses', WHERE WHAT IT READS IS OF BULK AT MOST 1048576: true; the input reads as it did. -/
def scriptParsesUptoRow : OpenClaim := { program := "ytifcpamliidabaadoor", sum := "f1d4812c0d8b020c339af2264719c26c50df2446c271e75061e5de23906368c2", func := "spool/spoollaw48.ScriptParses", spec := "scriptParses", inPlace := ["internal/bytealg.IndexByteString"], unfollowed := true, recurses := true, named := ["spool/script.heads", "spool/script.names", "spool/digit.signs"], apart := false, laid := [("spool/digit.signs", laid_spool_digit_signs), ("spool/script.names", laid_spool_script_names), ("spool/script.heads", laid_spool_script_heads)], narrowed := true }
def ScriptParsesUptoSaid : Prop := scriptParsesUptoRow.holds Tryd.pinned (OpenSpec.upto scriptParsesSpec)

/-- 'spoollaw48.ScriptBack', WHERE WHAT IT READS IS OF BULK AT MOST 1048576: true; the input reads as it did. -/
def scriptBackUptoRow : OpenClaim := { program := "ytifcpamliidabaadoor", sum := "f1d4812c0d8b020c339af2264719c26c50df2446c271e75061e5de23906368c2", func := "spool/spoollaw48.ScriptBack", spec := "scriptBack", inPlace := ["internal/bytealg.IndexByteString"], unfollowed := true, recurses := true, named := ["spool/script.heads", "spool/script.names", "spool/digit.signs"], apart := false, laid := [("spool/digit.signs", laid_spool_digit_signs), ("spool/script.names", laid_spool_script_names), ("spool/script.heads", laid_spool_script_heads)], narrowed := true }
def ScriptBackUptoSaid : Prop := scriptBackUptoRow.holds Tryd.pinned (OpenSpec.upto scriptBackSpec)

/-- 'spoollaw48.ScriptQuotes', WHERE WHAT IT READS IS OF BULK AT MOST 1048576: true; the input reads as it did. -/
def scriptQuotesUptoRow : OpenClaim := { program := "ytifcpamliidabaadoor", sum := "f1d4812c0d8b020c339af2264719c26c50df2446c271e75061e5de23906368c2", func := "spool/spoollaw48.ScriptQuotes", spec := "scriptQuotes", inPlace := ["internal/bytealg.IndexByteString"], unfollowed := true, recurses := true, named := ["spool/script.heads", "spool/script.names", "spool/digit.signs"], apart := false, laid := [("spool/digit.signs", laid_spool_digit_signs), ("spool/script.names", laid_spool_script_names), ("spool/script.heads", laid_spool_script_heads)], narrowed := true }
def ScriptQuotesUptoSaid : Prop := scriptQuotesUptoRow.holds Tryd.pinned (OpenSpec.upto scriptQuotesSpec)

/-- 'spoollaw48.ScriptOps', WHERE WHAT IT READS IS OF BULK AT MOST 1048576: true; the input reads as it did. -/
def scriptOpsUptoRow : OpenClaim := { program := "ytifcpamliidabaadoor", sum := "f1d4812c0d8b020c339af2264719c26c50df2446c271e75061e5de23906368c2", func := "spool/spoollaw48.ScriptOps", spec := "scriptOps", inPlace := ["internal/bytealg.IndexByteString"], unfollowed := true, recurses := true, named := ["spool/script.heads", "spool/script.names", "spool/digit.signs"], apart := false, laid := [("spool/digit.signs", laid_spool_digit_signs), ("spool/script.names", laid_spool_script_names), ("spool/script.heads", laid_spool_script_heads)], narrowed := true }
def ScriptOpsUptoSaid : Prop := scriptOpsUptoRow.holds Tryd.pinned (OpenSpec.upto scriptOpsSpec)

/-- 'spoollaw48.ScriptPrints', WHERE WHAT IT READS IS OF BULK AT MOST 1048576: true; the input reads as it did. -/
def scriptPrintsUptoRow : OpenClaim := { program := "ytifcpamliidabaadoor", sum := "f1d4812c0d8b020c339af2264719c26c50df2446c271e75061e5de23906368c2", func := "spool/spoollaw48.ScriptPrints", spec := "scriptPrints", inPlace := ["internal/bytealg.IndexByteString"], unfollowed := true, recurses := true, named := ["spool/script.heads", "spool/script.names", "spool/digit.signs"], apart := false, laid := [("spool/digit.signs", laid_spool_digit_signs), ("spool/script.names", laid_spool_script_names), ("spool/script.heads", laid_spool_script_heads)], narrowed := true }
def ScriptPrintsUptoSaid : Prop := scriptPrintsUptoRow.holds Tryd.pinned (OpenSpec.upto scriptPrintsSpec)

end Rows
end Go.Proofs.YtifcpamliidabaaDoor
