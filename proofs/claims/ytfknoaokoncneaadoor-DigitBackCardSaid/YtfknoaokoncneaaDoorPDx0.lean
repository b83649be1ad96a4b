-- WRITTEN BY A PROGRAM OF THIS SESSION (patchprint.py over the kit's print)
import Derived.Test.YtfknoaokoncneaaDoorProg
import Derived.Below
import Derived.Deep.Draws
import Derived.Deep.AppendLies
import Derived.Maps.AppendAt
import Derived.OwnWalk
import Derived.Laws.BytesArg
import Derived.Laws.MakeOwn
import Derived.Laws.OwnMore
import Derived.Deep.OwnRows
import Derived.Tactics
import Derived.Lib.ConvBytes
import Derived.Laws.Slices
import Derived.WalkKit
import Derived.KernelRfl
import Derived.RowKit3
import Derived.Deep.LoopGhost
import Derived.Deep.QuietTactic
import Derived.BigQuiet
import Derived.WideLaws
import Derived.Deep.DeepCutAuto
import Derived.Deep.CutBlock
import Derived.Deep.RegionHeld3
import Derived.Laws.Rows
import Derived.Lib.AppendStr
import Derived.ArgAppend
import Derived.Laws.IdiomCopy
import Derived.OrdersHeld
import Derived.Laws.BitsLemmas
import Derived.RowKit
import Derived.Test.YtfknoaokoncneaaDoorWWords
import Derived.Test.YtfknoaokoncneaaDoorWLast
import Derived.Test.YtfknoaokoncneaaDoorWTab
import Derived.Test.YtfknoaokoncneaaDoorWFour
import Derived.Test.YtfknoaokoncneaaDoorWQPut
import Derived.Test.YtfknoaokoncneaaDoorWApart
import Derived.Test.YtfknoaokoncneaaDoorWArr
import Derived.Test.YtfknoaokoncneaaDoorWZeros
import Derived.Test.YtfknoaokoncneaaDoorWFoot
import Derived.Test.YtfknoaokoncneaaDoorWKept
import Derived.Test.YtfknoaokoncneaaDoorWShare
import Derived.Test.YtfknoaokoncneaaDoorWN
import Derived.Test.YtfknoaokoncneaaDoorWFootNe
import Derived.Test.YtfknoaokoncneaaDoorWAt
import Derived.Test.YtfknoaokoncneaaDoorWEqStruct
import Derived.Test.YtfknoaokoncneaaDoorWRepsOne
import Derived.Test.YtfknoaokoncneaaDoorWInv
import Derived.Test.YtfknoaokoncneaaDoorWInvWords
import Derived.Test.YtfknoaokoncneaaDoorWGuard
import Derived.Test.YtfknoaokoncneaaDoorWNEv
import Derived.Test.YtfknoaokoncneaaDoorWMore
namespace Go.Proofs.YtfknoaokoncneaaDoor.PD
open Go.RowKit Go.Proofs.YtfknoaokoncneaaDoorW.PrintWords Go.Proofs.YtfknoaokoncneaaDoorW.PrintLast Go.Proofs.YtfknoaokoncneaaDoorW.PrintMore
attribute [local go_sem] max2_int min2_int max_two min_two max_three min_three max_four min_four   -- for this text's walks alone
set_option linter.unusedVariables false
set_option linter.unusedSimpArgs false



def errW : Option Int → Value
  | none => .nilIface
  | some c => .iface 0 (.int .i64 c)
theorem errW_none : errW none = .nilIface := rfl
theorem errW_some (c : Int) : errW (some c) = .iface 0 (.int .i64 c) := rfl

def tab_digit_signs : List Int := [(48 : Int), (49 : Int), (50 : Int), (51 : Int), (52 : Int), (53 : Int), (54 : Int), (55 : Int), (56 : Int), (57 : Int), (97 : Int), (98 : Int), (99 : Int), (100 : Int), (101 : Int), (102 : Int)]
theorem info5 : (Tryd.prog.info? 5).map (fun i => (i.zero, i.size, i.bytes)) = some (some (.int .u8 0), 1, 1) := by kernel_rfl
-- the values' own types

end Go.Proofs.YtfknoaokoncneaaDoor.PD
