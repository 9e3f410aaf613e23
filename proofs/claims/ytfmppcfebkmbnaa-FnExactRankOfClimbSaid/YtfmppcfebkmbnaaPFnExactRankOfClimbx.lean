-- Written by wip/gen/mp.py of this repo (the kit's printer with our own parts): functions and their contracts.
import Derived.Test.YtfmppcfebkmbnaaPFnExactRankOfClimbx0
import Derived.Test.YtfmppcfebkmbnaaPFnExactRankOfClimbx1
import Derived.Test.YtfmppcfebkmbnaaPFnExactRankOfClimbx2
import Derived.Test.YtfmppcfebkmbnaaPFnExactRankOfClimbx3
import Derived.Test.YtfmppcfebkmbnaaPFnExactRankOfClimbx4
import Derived.Test.YtfmppcfebkmbnaaPFnExactRankOfClimbx5
import Derived.Test.YtfmppcfebkmbnaaPFnExactRankOfClimbx6
import Derived.Test.YtfmppcfebkmbnaaPFnExactRankOfClimbx7
namespace Go.Proofs.Ytfmppcfebkmbnaa.PFnExactRankOfClimb
open Go.RowKit Go.Proofs.YtfmppcfebkmbnaaW.PrintWords Go.Proofs.YtfmppcfebkmbnaaW.PrintLast Go.Proofs.YtfmppcfebkmbnaaW.PrintMore
attribute [local go_sem] max2_int min2_int max_two min_two max_three min_three max_four min_four   -- for this text's walks alone
set_option linter.unusedVariables false
set_option linter.unusedSimpArgs false

end Go.Proofs.Ytfmppcfebkmbnaa.PFnExactRankOfClimb
