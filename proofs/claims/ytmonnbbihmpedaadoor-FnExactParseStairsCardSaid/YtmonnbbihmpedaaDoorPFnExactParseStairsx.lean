-- Written by wip/gen/mp.py of this repo (the kit's printer with our own parts): functions and their contracts.
import Derived.Test.YtmonnbbihmpedaaDoorPFnExactParseStairsx0
import Derived.Test.YtmonnbbihmpedaaDoorPFnExactParseStairsx1
import Derived.Test.YtmonnbbihmpedaaDoorPFnExactParseStairsx2
import Derived.Test.YtmonnbbihmpedaaDoorPFnExactParseStairsx3
import Derived.Test.YtmonnbbihmpedaaDoorPFnExactParseStairsx4
import Derived.Test.YtmonnbbihmpedaaDoorPFnExactParseStairsx5
namespace Go.Proofs.YtmonnbbihmpedaaDoor.PFnExactParseStairs
open Go.RowKit Go.Proofs.YtmonnbbihmpedaaDoorW.PrintWords Go.Proofs.YtmonnbbihmpedaaDoorW.PrintLast Go.Proofs.YtmonnbbihmpedaaDoorW.PrintMore
attribute [local go_sem] max2_int min2_int max_two min_two max_three min_three max_four min_four   -- for this text's walks alone
set_option linter.unusedVariables false
set_option linter.unusedSimpArgs false

end Go.Proofs.YtmonnbbihmpedaaDoor.PFnExactParseStairs
