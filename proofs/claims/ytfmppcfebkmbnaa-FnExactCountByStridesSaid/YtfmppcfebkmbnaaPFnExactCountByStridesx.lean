-- Written by wip/gen/mp.py of this repo (the kit's printer with our own parts): functions and their contracts.
import Derived.Test.YtfmppcfebkmbnaaPFnExactCountByStridesx0
import Derived.Test.YtfmppcfebkmbnaaPFnExactCountByStridesx1
import Derived.Test.YtfmppcfebkmbnaaPFnExactCountByStridesx2
import Derived.Test.YtfmppcfebkmbnaaPFnExactCountByStridesx3
import Derived.Test.YtfmppcfebkmbnaaPFnExactCountByStridesx4
import Derived.Test.YtfmppcfebkmbnaaPFnExactCountByStridesx5
import Derived.Test.YtfmppcfebkmbnaaPFnExactCountByStridesx6
import Derived.Test.YtfmppcfebkmbnaaPFnExactCountByStridesx7
namespace Go.Proofs.Ytfmppcfebkmbnaa.PFnExactCountByStrides
open Go.RowKit Go.Proofs.YtfmppcfebkmbnaaW.PrintWords Go.Proofs.YtfmppcfebkmbnaaW.PrintLast Go.Proofs.YtfmppcfebkmbnaaW.PrintMore
attribute [local go_sem] max2_int min2_int max_two min_two max_three min_three max_four min_four   -- for this text's walks alone
set_option linter.unusedVariables false
set_option linter.unusedSimpArgs false

end Go.Proofs.Ytfmppcfebkmbnaa.PFnExactCountByStrides
