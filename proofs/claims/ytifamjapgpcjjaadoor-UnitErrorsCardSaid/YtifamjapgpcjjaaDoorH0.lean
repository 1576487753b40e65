-- printed by this session's wip/hyb/hyb.py out of the kit's printer; Lean checks it
import Derived.Test.YtifamjapgpcjjaaDoorProg
import Derived.Below
import Derived.Deep.Draws
import Derived.Deep.AppendLies
import Derived.Maps.AppendAt
import Derived.OwnWalk
import Derived.Laws.BytesArg
import Derived.Laws.MakeOwn
import Derived.Laws.OwnMore
import Derived.Deep.OwnRows
import Derived.Tactics
import Derived.Lib.ConvBytes
import Derived.Laws.Slices
import Derived.WalkKit
import Derived.KernelRfl
import Derived.RowKit3
import Derived.Deep.LoopGhost
import Derived.Deep.QuietTactic
import Derived.BigQuiet
import Derived.WideLaws
import Derived.Deep.DeepCutAuto
import Derived.Deep.CutBlock
import Derived.Deep.RegionHeld3
import Derived.Laws.Rows
import Derived.Lib.AppendStr
import Derived.ArgAppend
import Derived.Laws.IdiomCopy
import Derived.OrdersHeld
import Derived.Laws.BitsLemmas
import Derived.RowKit
import Derived.Test.YtifamjapgpcjjaaDoorUnitG
import Derived.Test.YtifamjapgpcjjaaDoorWWords
import Derived.Test.YtifamjapgpcjjaaDoorWLast
import Derived.Test.YtifamjapgpcjjaaDoorWTab
import Derived.Test.YtifamjapgpcjjaaDoorWFour
import Derived.Test.YtifamjapgpcjjaaDoorWQPut
import Derived.Test.YtifamjapgpcjjaaDoorWApart
import Derived.Test.YtifamjapgpcjjaaDoorWArr
import Derived.Test.YtifamjapgpcjjaaDoorWZeros
import Derived.Test.YtifamjapgpcjjaaDoorWFoot
import Derived.Test.YtifamjapgpcjjaaDoorWKept
import Derived.Test.YtifamjapgpcjjaaDoorWShare
import Derived.Test.YtifamjapgpcjjaaDoorWN
import Derived.Test.YtifamjapgpcjjaaDoorWFootNe
import Derived.Test.YtifamjapgpcjjaaDoorWAt
import Derived.Test.YtifamjapgpcjjaaDoorWEqStruct
import Derived.Test.YtifamjapgpcjjaaDoorWRepsOne
import Derived.Test.YtifamjapgpcjjaaDoorWInv
import Derived.Test.YtifamjapgpcjjaaDoorWInvWords
import Derived.Test.YtifamjapgpcjjaaDoorWGuard
import Derived.Test.YtifamjapgpcjjaaDoorWNEv
import Derived.Test.YtifamjapgpcjjaaDoorWMore
namespace Go.Proofs.YtifamjapgpcjjaaDoor.H
open Go.RowKit Go.Proofs.YtifamjapgpcjjaaDoor.Ext Go.Proofs.YtifamjapgpcjjaaDoorW.PrintWords Go.Proofs.YtifamjapgpcjjaaDoorW.PrintLast Go.Proofs.YtifamjapgpcjjaaDoorW.PrintMore
attribute [local go_sem] max2_int min2_int max_two min_two max_three min_three max_four min_four   -- for this text's walks alone
set_option linter.unusedVariables false
set_option linter.unusedSimpArgs false



def errW : Option Int → Value
  | none => .nilIface
  | some c => .iface 0 (.int .i64 c)
theorem errW_none : errW none = .nilIface := rfl
theorem errW_some (c : Int) : errW (some c) = .iface 0 (.int .i64 c) := rfl

-- the values' own types

end Go.Proofs.YtifamjapgpcjjaaDoor.H
