-- Written by wip/gen/mp.py of this repo (the kit's printer with our own parts): functions and their contracts.
import Derived.Test.YtdmcnenlobgeoaaPFnExactWholeTimesx0
import Derived.Test.YtdmcnenlobgeoaaPFnExactWholeTimesx1
import Derived.Test.YtdmcnenlobgeoaaPFnExactWholeTimesx2
namespace Go.Proofs.Ytdmcnenlobgeoaa.PFnExactWholeTimes
open Go.RowKit Go.Proofs.YtdmcnenlobgeoaaW.PrintWords Go.Proofs.YtdmcnenlobgeoaaW.PrintLast Go.Proofs.YtdmcnenlobgeoaaW.PrintMore
attribute [local go_sem] max2_int min2_int max_two min_two max_three min_three max_four min_four   -- for this text's walks alone
set_option linter.unusedVariables false
set_option linter.unusedSimpArgs false

end Go.Proofs.Ytdmcnenlobgeoaa.PFnExactWholeTimes
