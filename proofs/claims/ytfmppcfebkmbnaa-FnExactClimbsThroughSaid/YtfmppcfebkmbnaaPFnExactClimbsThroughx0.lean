-- Written by wip/gen/mp.py of this repo (the kit's printer with our own parts): functions and their contracts.
import Derived.Test.YtfmppcfebkmbnaaProg
import Derived.Below
import Derived.Deep.Draws
import Derived.Deep.AppendLies
import Derived.Maps.AppendAt
import Derived.OwnWalk
import Derived.Laws.BytesArg
import Derived.Laws.MakeOwn
import Derived.Laws.OwnMore
import Derived.Deep.OwnRows
import Derived.Tactics
import Derived.Lib.ConvBytes
import Derived.Laws.Slices
import Derived.WalkKit
import Derived.KernelRfl
import Derived.RowKit3
import Derived.Deep.LoopGhost
import Derived.Deep.QuietTactic
import Derived.BigQuiet
import Derived.WideLaws
import Derived.Deep.DeepCutAuto
import Derived.Deep.CutBlock
import Derived.Deep.RegionHeld3
import Derived.Laws.Rows
import Derived.Lib.AppendStr
import Derived.ArgAppend
import Derived.Laws.IdiomCopy
import Derived.OrdersHeld
import Derived.Laws.BitsLemmas
import Derived.RowKit
import Derived.Lib.SliceRun
import Derived.Laws.CopyOwn
import Derived.OwnWalk
import Derived.Deep.RegionLaw
import Derived.Test.YtfmppcfebkmbnaaWWords
import Derived.Test.YtfmppcfebkmbnaaWLast
import Derived.Test.YtfmppcfebkmbnaaWTab
import Derived.Test.YtfmppcfebkmbnaaWFour
import Derived.Test.YtfmppcfebkmbnaaWQPut
import Derived.Test.YtfmppcfebkmbnaaWApart
import Derived.Test.YtfmppcfebkmbnaaWArr
import Derived.Test.YtfmppcfebkmbnaaWZeros
import Derived.Test.YtfmppcfebkmbnaaWFoot
import Derived.Test.YtfmppcfebkmbnaaWKept
import Derived.Test.YtfmppcfebkmbnaaWShare
import Derived.Test.YtfmppcfebkmbnaaWN
import Derived.Test.YtfmppcfebkmbnaaWFootNe
import Derived.Test.YtfmppcfebkmbnaaWAt
import Derived.Test.YtfmppcfebkmbnaaWEqStruct
import Derived.Test.YtfmppcfebkmbnaaWRepsOne
import Derived.Test.YtfmppcfebkmbnaaWInv
import Derived.Test.YtfmppcfebkmbnaaWInvWords
import Derived.Test.YtfmppcfebkmbnaaWGuard
import Derived.Test.YtfmppcfebkmbnaaWNEv
import Derived.Test.YtfmppcfebkmbnaaWMore
namespace Go.Proofs.Ytfmppcfebkmbnaa.PFnExactClimbsThrough
open Go.RowKit Go.Proofs.YtfmppcfebkmbnaaW.PrintWords Go.Proofs.YtfmppcfebkmbnaaW.PrintLast Go.Proofs.YtfmppcfebkmbnaaW.PrintMore
attribute [local go_sem] max2_int min2_int max_two min_two max_three min_three max_four min_four   -- for this text's walks alone
set_option linter.unusedVariables false
set_option linter.unusedSimpArgs false



def errW : Option Int → Value
  | none => .nilIface
  | some c => .iface 0 (.int .i64 c)
theorem errW_none : errW none = .nilIface := rfl
theorem errW_some (c : Int) : errW (some c) = .iface 0 (.int .i64 c) := rfl

theorem info3 : (Try.prog.info? 3).map (fun i => (i.zero, i.size, i.bytes)) = some (some (.int .i64 0), 1, 8) := by kernel_rfl
-- the values' own types

end Go.Proofs.Ytfmppcfebkmbnaa.PFnExactClimbsThrough
