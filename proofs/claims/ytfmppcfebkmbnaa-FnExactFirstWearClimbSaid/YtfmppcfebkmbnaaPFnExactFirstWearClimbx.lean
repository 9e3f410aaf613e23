-- Written by wip/gen/mp.py of this repo (the kit's printer with our own parts): functions and their contracts.
import Derived.Test.YtfmppcfebkmbnaaPFnExactFirstWearClimbx0
import Derived.Test.YtfmppcfebkmbnaaPFnExactFirstWearClimbx1
import Derived.Test.YtfmppcfebkmbnaaPFnExactFirstWearClimbx2
import Derived.Test.YtfmppcfebkmbnaaPFnExactFirstWearClimbx3
import Derived.Test.YtfmppcfebkmbnaaPFnExactFirstWearClimbx4
import Derived.Test.YtfmppcfebkmbnaaPFnExactFirstWearClimbx5
namespace Go.Proofs.Ytfmppcfebkmbnaa.PFnExactFirstWearClimb
open Go.RowKit Go.Proofs.YtfmppcfebkmbnaaW.PrintWords Go.Proofs.YtfmppcfebkmbnaaW.PrintLast Go.Proofs.YtfmppcfebkmbnaaW.PrintMore
attribute [local go_sem] max2_int min2_int max_two min_two max_three min_three max_four min_four   -- for this text's walks alone
set_option linter.unusedVariables false
set_option linter.unusedSimpArgs false

end Go.Proofs.Ytfmppcfebkmbnaa.PFnExactFirstWearClimb
