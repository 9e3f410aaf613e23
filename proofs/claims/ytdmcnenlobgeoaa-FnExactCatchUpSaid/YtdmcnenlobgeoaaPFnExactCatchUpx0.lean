-- Written by wip/gen/mp.py of this repo (the kit's printer with our own parts): functions and their contracts.
import Derived.Test.YtdmcnenlobgeoaaProg
import Derived.Below
import Derived.Deep.Draws
import Derived.Deep.AppendLies
import Derived.Maps.AppendAt
import Derived.OwnWalk
import Derived.Laws.BytesArg
import Derived.Laws.MakeOwn
import Derived.Laws.OwnMore
import Derived.Deep.OwnRows
import Derived.Tactics
import Derived.Lib.ConvBytes
import Derived.Laws.Slices
import Derived.WalkKit
import Derived.KernelRfl
import Derived.RowKit3
import Derived.Deep.LoopGhost
import Derived.Deep.QuietTactic
import Derived.BigQuiet
import Derived.WideLaws
import Derived.Deep.DeepCutAuto
import Derived.Deep.CutBlock
import Derived.Deep.RegionHeld3
import Derived.Laws.Rows
import Derived.Lib.AppendStr
import Derived.ArgAppend
import Derived.Laws.IdiomCopy
import Derived.OrdersHeld
import Derived.Laws.BitsLemmas
import Derived.RowKit
import Derived.Lib.SliceRun
import Derived.Test.YtdmcnenlobgeoaaWWords
import Derived.Test.YtdmcnenlobgeoaaWLast
import Derived.Test.YtdmcnenlobgeoaaWTab
import Derived.Test.YtdmcnenlobgeoaaWFour
import Derived.Test.YtdmcnenlobgeoaaWQPut
import Derived.Test.YtdmcnenlobgeoaaWApart
import Derived.Test.YtdmcnenlobgeoaaWArr
import Derived.Test.YtdmcnenlobgeoaaWZeros
import Derived.Test.YtdmcnenlobgeoaaWFoot
import Derived.Test.YtdmcnenlobgeoaaWKept
import Derived.Test.YtdmcnenlobgeoaaWShare
import Derived.Test.YtdmcnenlobgeoaaWN
import Derived.Test.YtdmcnenlobgeoaaWFootNe
import Derived.Test.YtdmcnenlobgeoaaWAt
import Derived.Test.YtdmcnenlobgeoaaWEqStruct
import Derived.Test.YtdmcnenlobgeoaaWRepsOne
import Derived.Test.YtdmcnenlobgeoaaWInv
import Derived.Test.YtdmcnenlobgeoaaWInvWords
import Derived.Test.YtdmcnenlobgeoaaWGuard
import Derived.Test.YtdmcnenlobgeoaaWNEv
import Derived.Test.YtdmcnenlobgeoaaWMore
namespace Go.Proofs.Ytdmcnenlobgeoaa.PFnExactCatchUp
open Go.RowKit Go.Proofs.YtdmcnenlobgeoaaW.PrintWords Go.Proofs.YtdmcnenlobgeoaaW.PrintLast Go.Proofs.YtdmcnenlobgeoaaW.PrintMore
attribute [local go_sem] max2_int min2_int max_two min_two max_three min_three max_four min_four   -- for this text's walks alone
set_option linter.unusedVariables false
set_option linter.unusedSimpArgs false



def errW : Option Int → Value
  | none => .nilIface
  | some c => .iface 0 (.int .i64 c)
theorem errW_none : errW none = .nilIface := rfl
theorem errW_some (c : Int) : errW (some c) = .iface 0 (.int .i64 c) := rfl

-- the values' own types

end Go.Proofs.Ytdmcnenlobgeoaa.PFnExactCatchUp
