-- Written by wip/gen/mp.py of this repo (the kit's printer with our own parts): functions and their contracts.
import Derived.Test.YtfmppcfebkmbnaaPFnExactClimbsThroughx0
import Derived.Test.YtfmppcfebkmbnaaPFnExactClimbsThroughx1
import Derived.Test.YtfmppcfebkmbnaaPFnExactClimbsThroughx2
import Derived.Test.YtfmppcfebkmbnaaPFnExactClimbsThroughx3
import Derived.Test.YtfmppcfebkmbnaaPFnExactClimbsThroughx4
import Derived.Test.YtfmppcfebkmbnaaPFnExactClimbsThroughx5
import Derived.Test.YtfmppcfebkmbnaaPFnExactClimbsThroughx6
import Derived.Test.YtfmppcfebkmbnaaPFnExactClimbsThroughx7
namespace Go.Proofs.Ytfmppcfebkmbnaa.PFnExactClimbsThrough
open Go.RowKit Go.Proofs.YtfmppcfebkmbnaaW.PrintWords Go.Proofs.YtfmppcfebkmbnaaW.PrintLast Go.Proofs.YtfmppcfebkmbnaaW.PrintMore
attribute [local go_sem] max2_int min2_int max_two min_two max_three min_three max_four min_four   -- for this text's walks alone
set_option linter.unusedVariables false
set_option linter.unusedSimpArgs false

end Go.Proofs.Ytfmppcfebkmbnaa.PFnExactClimbsThrough
