-- Written by wip/gen/mp.py of this repo (the kit's printer with our own parts): functions and their contracts.
import Derived.Test.YtoahaemnhgieoaaProg
import Derived.Below
import Derived.Deep.Draws
import Derived.Deep.AppendLies
import Derived.Maps.AppendAt
import Derived.OwnWalk
import Derived.Laws.BytesArg
import Derived.Laws.MakeOwn
import Derived.Laws.OwnMore
import Derived.Deep.OwnRows
import Derived.Tactics
import Derived.Lib.ConvBytes
import Derived.Laws.Slices
import Derived.WalkKit
import Derived.KernelRfl
import Derived.RowKit3
import Derived.Deep.LoopGhost
import Derived.Deep.QuietTactic
import Derived.BigQuiet
import Derived.WideLaws
import Derived.Deep.DeepCutAuto
import Derived.Deep.CutBlock
import Derived.Deep.RegionHeld3
import Derived.Laws.Rows
import Derived.Lib.AppendStr
import Derived.ArgAppend
import Derived.Laws.IdiomCopy
import Derived.OrdersHeld
import Derived.Laws.BitsLemmas
import Derived.RowKit
import Derived.Test.YtoahaemnhgieoaaWWords
import Derived.Test.YtoahaemnhgieoaaWLast
import Derived.Test.YtoahaemnhgieoaaWTab
import Derived.Test.YtoahaemnhgieoaaWFour
import Derived.Test.YtoahaemnhgieoaaWQPut
import Derived.Test.YtoahaemnhgieoaaWApart
import Derived.Test.YtoahaemnhgieoaaWArr
import Derived.Test.YtoahaemnhgieoaaWZeros
import Derived.Test.YtoahaemnhgieoaaWFoot
import Derived.Test.YtoahaemnhgieoaaWKept
import Derived.Test.YtoahaemnhgieoaaWShare
import Derived.Test.YtoahaemnhgieoaaWN
import Derived.Test.YtoahaemnhgieoaaWFootNe
import Derived.Test.YtoahaemnhgieoaaWAt
import Derived.Test.YtoahaemnhgieoaaWEqStruct
import Derived.Test.YtoahaemnhgieoaaWRepsOne
import Derived.Test.YtoahaemnhgieoaaWInv
import Derived.Test.YtoahaemnhgieoaaWInvWords
import Derived.Test.YtoahaemnhgieoaaWGuard
import Derived.Test.YtoahaemnhgieoaaWNEv
import Derived.Test.YtoahaemnhgieoaaWMore
namespace Go.Proofs.Ytoahaemnhgieoaa.PFnExactAreBears
open Go.RowKit Go.Proofs.YtoahaemnhgieoaaW.PrintWords Go.Proofs.YtoahaemnhgieoaaW.PrintLast Go.Proofs.YtoahaemnhgieoaaW.PrintMore
attribute [local go_sem] max2_int min2_int max_two min_two max_three min_three max_four min_four   -- for this text's walks alone
set_option linter.unusedVariables false
set_option linter.unusedSimpArgs false



def errW : Option Int → Value
  | none => .nilIface
  | some c => .iface 0 (.int .i64 c)
theorem errW_none : errW none = .nilIface := rfl
theorem errW_some (c : Int) : errW (some c) = .iface 0 (.int .i64 c) := rfl

theorem info3 : (Try.prog.info? 3).map (fun i => (i.zero, i.size, i.bytes)) = some (some (.int .i64 0), 1, 8) := by kernel_rfl
-- the values' own types

end Go.Proofs.Ytoahaemnhgieoaa.PFnExactAreBears
