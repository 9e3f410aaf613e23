-- Written by wip/gen/mp.py of this repo (the kit's printer with our own parts): functions and their contracts.
import Derived.Test.YtfmppcfebkmbnaaPFnExactWorstToBreakx0
import Derived.Test.YtfmppcfebkmbnaaPFnExactWorstToBreakx1
import Derived.Test.YtfmppcfebkmbnaaPFnExactWorstToBreakx2
import Derived.Test.YtfmppcfebkmbnaaPFnExactWorstToBreakx3
import Derived.Test.YtfmppcfebkmbnaaPFnExactWorstToBreakx4
import Derived.Test.YtfmppcfebkmbnaaPFnExactWorstToBreakx5
import Derived.Test.YtfmppcfebkmbnaaPFnExactWorstToBreakx6
import Derived.Test.YtfmppcfebkmbnaaPFnExactWorstToBreakx7
import Derived.Test.YtfmppcfebkmbnaaPFnExactWorstToBreakx8
import Derived.Test.YtfmppcfebkmbnaaPFnExactWorstToBreakx9
namespace Go.Proofs.Ytfmppcfebkmbnaa.PFnExactWorstToBreak
open Go.RowKit Go.Proofs.YtfmppcfebkmbnaaW.PrintWords Go.Proofs.YtfmppcfebkmbnaaW.PrintLast Go.Proofs.YtfmppcfebkmbnaaW.PrintMore
attribute [local go_sem] max2_int min2_int max_two min_two max_three min_three max_four min_four   -- for this text's walks alone
set_option linter.unusedVariables false
set_option linter.unusedSimpArgs false

end Go.Proofs.Ytfmppcfebkmbnaa.PFnExactWorstToBreak
