-- printed by this session's wip/hyb/hyb.py out of the kit's printer; Lean checks it
import Derived.Test.YtmjgbngmkkeoiaaDoorProg
import Derived.Below
import Derived.Deep.Draws
import Derived.Deep.AppendLies
import Derived.Maps.AppendAt
import Derived.OwnWalk
import Derived.Laws.BytesArg
import Derived.Laws.MakeOwn
import Derived.Laws.OwnMore
import Derived.Deep.OwnRows
import Derived.Tactics
import Derived.Lib.ConvBytes
import Derived.Laws.Slices
import Derived.WalkKit
import Derived.KernelRfl
import Derived.RowKit3
import Derived.Deep.LoopGhost
import Derived.Deep.QuietTactic
import Derived.BigQuiet
import Derived.WideLaws
import Derived.Deep.DeepCutAuto
import Derived.Deep.CutBlock
import Derived.Deep.RegionHeld3
import Derived.Laws.Rows
import Derived.Lib.AppendStr
import Derived.ArgAppend
import Derived.Laws.IdiomCopy
import Derived.OrdersHeld
import Derived.Laws.BitsLemmas
import Derived.RowKit
import Derived.Test.YtmjgbngmkkeoiaaDoorHead
import Derived.Test.YtmjgbngmkkeoiaaDoorWWords
import Derived.Test.YtmjgbngmkkeoiaaDoorWLast
import Derived.Test.YtmjgbngmkkeoiaaDoorWTab
import Derived.Test.YtmjgbngmkkeoiaaDoorWFour
import Derived.Test.YtmjgbngmkkeoiaaDoorWQPut
import Derived.Test.YtmjgbngmkkeoiaaDoorWApart
import Derived.Test.YtmjgbngmkkeoiaaDoorWArr
import Derived.Test.YtmjgbngmkkeoiaaDoorWZeros
import Derived.Test.YtmjgbngmkkeoiaaDoorWFoot
import Derived.Test.YtmjgbngmkkeoiaaDoorWKept
import Derived.Test.YtmjgbngmkkeoiaaDoorWShare
import Derived.Test.YtmjgbngmkkeoiaaDoorWN
import Derived.Test.YtmjgbngmkkeoiaaDoorWFootNe
import Derived.Test.YtmjgbngmkkeoiaaDoorWAt
import Derived.Test.YtmjgbngmkkeoiaaDoorWEqStruct
import Derived.Test.YtmjgbngmkkeoiaaDoorWRepsOne
import Derived.Test.YtmjgbngmkkeoiaaDoorWInv
import Derived.Test.YtmjgbngmkkeoiaaDoorWInvWords
import Derived.Test.YtmjgbngmkkeoiaaDoorWGuard
import Derived.Test.YtmjgbngmkkeoiaaDoorWNEv
import Derived.Test.YtmjgbngmkkeoiaaDoorWMore
namespace Go.Proofs.YtmjgbngmkkeoiaaDoor.H
open Go.RowKit Go.Proofs.YtmjgbngmkkeoiaaDoor.Ext Go.Proofs.YtmjgbngmkkeoiaaDoor.G Go.Proofs.YtmjgbngmkkeoiaaDoorW.PrintWords Go.Proofs.YtmjgbngmkkeoiaaDoorW.PrintLast Go.Proofs.YtmjgbngmkkeoiaaDoorW.PrintMore
attribute [local go_sem] max2_int min2_int max_two min_two max_three min_three max_four min_four   -- for this text's walks alone
set_option linter.unusedVariables false
set_option linter.unusedSimpArgs false



def errW : Option Int → Value
  | none => .nilIface
  | some c => .iface 0 (.int .i64 c)
theorem errW_none : errW none = .nilIface := rfl
theorem errW_some (c : Int) : errW (some c) = .iface 0 (.int .i64 c) := rfl

-- the values' own types

end Go.Proofs.YtmjgbngmkkeoiaaDoor.H
