-- printed by this session's wip/hyb/hyb.py out of the kit's printer; Lean checks it
import Derived.Test.YtamabdijeklgjaaDoorProg
import Derived.Below
import Derived.Deep.Draws
import Derived.Deep.AppendLies
import Derived.Maps.AppendAt
import Derived.OwnWalk
import Derived.Laws.BytesArg
import Derived.Laws.MakeOwn
import Derived.Laws.OwnMore
import Derived.Deep.OwnRows
import Derived.Tactics
import Derived.Lib.ConvBytes
import Derived.Laws.Slices
import Derived.WalkKit
import Derived.KernelRfl
import Derived.RowKit3
import Derived.Deep.LoopGhost
import Derived.Deep.QuietTactic
import Derived.BigQuiet
import Derived.WideLaws
import Derived.Deep.DeepCutAuto
import Derived.Deep.CutBlock
import Derived.Deep.RegionHeld3
import Derived.Laws.Rows
import Derived.Lib.AppendStr
import Derived.ArgAppend
import Derived.Laws.IdiomCopy
import Derived.OrdersHeld
import Derived.Laws.BitsLemmas
import Derived.RowKit
import Derived.Test.YtamabdijeklgjaaDoorLexSpec
import Derived.Test.YtamabdijeklgjaaDoorWWords
import Derived.Test.YtamabdijeklgjaaDoorWLast
import Derived.Test.YtamabdijeklgjaaDoorWTab
import Derived.Test.YtamabdijeklgjaaDoorWFour
import Derived.Test.YtamabdijeklgjaaDoorWQPut
import Derived.Test.YtamabdijeklgjaaDoorWApart
import Derived.Test.YtamabdijeklgjaaDoorWArr
import Derived.Test.YtamabdijeklgjaaDoorWZeros
import Derived.Test.YtamabdijeklgjaaDoorWFoot
import Derived.Test.YtamabdijeklgjaaDoorWKept
import Derived.Test.YtamabdijeklgjaaDoorWShare
import Derived.Test.YtamabdijeklgjaaDoorWN
import Derived.Test.YtamabdijeklgjaaDoorWFootNe
import Derived.Test.YtamabdijeklgjaaDoorWAt
import Derived.Test.YtamabdijeklgjaaDoorWEqStruct
import Derived.Test.YtamabdijeklgjaaDoorWRepsOne
import Derived.Test.YtamabdijeklgjaaDoorWInv
import Derived.Test.YtamabdijeklgjaaDoorWInvWords
import Derived.Test.YtamabdijeklgjaaDoorWGuard
import Derived.Test.YtamabdijeklgjaaDoorWNEv
import Derived.Test.YtamabdijeklgjaaDoorWMore
namespace Go.Proofs.YtamabdijeklgjaaDoor.P
open Go.RowKit Go.Proofs.YtamabdijeklgjaaDoor.Ext Go.Proofs.YtamabdijeklgjaaDoorW.PrintWords Go.Proofs.YtamabdijeklgjaaDoorW.PrintLast Go.Proofs.YtamabdijeklgjaaDoorW.PrintMore
attribute [local go_sem] max2_int min2_int max_two min_two max_three min_three max_four min_four   -- for this text's walks alone
set_option linter.unusedVariables false
set_option linter.unusedSimpArgs false



def errW : Option Int → Value
  | none => .nilIface
  | some c => .iface 0 (.int .i64 c)
theorem errW_none : errW none = .nilIface := rfl
theorem errW_some (c : Int) : errW (some c) = .iface 0 (.int .i64 c) := rfl

-- the values' own types

end Go.Proofs.YtamabdijeklgjaaDoor.P
