-- Written by wip/gen/mp.py of this repo (the kit's printer with our own parts): functions and their contracts.
import Derived.Test.YtmonnbbihmpedaaDoorProg
import Derived.Below
import Derived.Deep.Draws
import Derived.Deep.AppendLies
import Derived.Maps.AppendAt
import Derived.OwnWalk
import Derived.Laws.BytesArg
import Derived.Laws.MakeOwn
import Derived.Laws.OwnMore
import Derived.Deep.OwnRows
import Derived.Tactics
import Derived.Lib.ConvBytes
import Derived.Laws.Slices
import Derived.WalkKit
import Derived.KernelRfl
import Derived.RowKit3
import Derived.Deep.LoopGhost
import Derived.Deep.QuietTactic
import Derived.BigQuiet
import Derived.WideLaws
import Derived.Deep.DeepCutAuto
import Derived.Deep.CutBlock
import Derived.Deep.RegionHeld3
import Derived.Laws.Rows
import Derived.Lib.AppendStr
import Derived.ArgAppend
import Derived.Laws.IdiomCopy
import Derived.OrdersHeld
import Derived.Laws.BitsLemmas
import Derived.RowKit
import Derived.Lib.SliceRun
import Derived.Test.YtmonnbbihmpedaaDoorShelf
import Derived.Test.YtmonnbbihmpedaaDoorWWords
import Derived.Test.YtmonnbbihmpedaaDoorWLast
import Derived.Test.YtmonnbbihmpedaaDoorWTab
import Derived.Test.YtmonnbbihmpedaaDoorWFour
import Derived.Test.YtmonnbbihmpedaaDoorWQPut
import Derived.Test.YtmonnbbihmpedaaDoorWApart
import Derived.Test.YtmonnbbihmpedaaDoorWArr
import Derived.Test.YtmonnbbihmpedaaDoorWZeros
import Derived.Test.YtmonnbbihmpedaaDoorWFoot
import Derived.Test.YtmonnbbihmpedaaDoorWKept
import Derived.Test.YtmonnbbihmpedaaDoorWShare
import Derived.Test.YtmonnbbihmpedaaDoorWN
import Derived.Test.YtmonnbbihmpedaaDoorWFootNe
import Derived.Test.YtmonnbbihmpedaaDoorWAt
import Derived.Test.YtmonnbbihmpedaaDoorWEqStruct
import Derived.Test.YtmonnbbihmpedaaDoorWRepsOne
import Derived.Test.YtmonnbbihmpedaaDoorWInv
import Derived.Test.YtmonnbbihmpedaaDoorWInvWords
import Derived.Test.YtmonnbbihmpedaaDoorWGuard
import Derived.Test.YtmonnbbihmpedaaDoorWNEv
import Derived.Test.YtmonnbbihmpedaaDoorWMore
namespace Go.Proofs.YtmonnbbihmpedaaDoor.PFnExactParseStairs
open Go.RowKit Go.Proofs.YtmonnbbihmpedaaDoorW.PrintWords Go.Proofs.YtmonnbbihmpedaaDoorW.PrintLast Go.Proofs.YtmonnbbihmpedaaDoorW.PrintMore
attribute [local go_sem] max2_int min2_int max_two min_two max_three min_three max_four min_four   -- for this text's walks alone
set_option linter.unusedVariables false
set_option linter.unusedSimpArgs false



def errW : Option Int → Value
  | none => .nilIface
  | some c => .iface 0 (.int .i64 c)
theorem errW_none : errW none = .nilIface := rfl
theorem errW_some (c : Int) : errW (some c) = .iface 0 (.int .i64 c) := rfl

theorem info3 : (Tryd.prog.info? 3).map (fun i => (i.zero, i.size, i.bytes)) = some (some (.int .i64 0), 1, 8) := by kernel_rfl
theorem info9 : (Tryd.prog.info? 9).map (fun i => (i.zero, i.size, i.bytes)) = some (some (.string ⟨#[]⟩), 1, 16) := by kernel_rfl
-- the values' own types

end Go.Proofs.YtmonnbbihmpedaaDoor.PFnExactParseStairs
