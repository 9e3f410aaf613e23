-- Written by wip/gen/mp.py of this repo (the kit's printer with our own parts): functions and their contracts.
import Derived.Test.YtmonnbbihmpedaaDoorPFnExactParseBearsx0
import Derived.Test.YtmonnbbihmpedaaDoorPFnExactParseBearsx1
import Derived.Test.YtmonnbbihmpedaaDoorPFnExactParseBearsx2
import Derived.Test.YtmonnbbihmpedaaDoorPFnExactParseBearsx3
import Derived.Test.YtmonnbbihmpedaaDoorPFnExactParseBearsx4
namespace Go.Proofs.YtmonnbbihmpedaaDoor.PFnExactParseBears
open Go.RowKit Go.Proofs.YtmonnbbihmpedaaDoorW.PrintWords Go.Proofs.YtmonnbbihmpedaaDoorW.PrintLast Go.Proofs.YtmonnbbihmpedaaDoorW.PrintMore
attribute [local go_sem] max2_int min2_int max_two min_two max_three min_three max_four min_four   -- for this text's walks alone
set_option linter.unusedVariables false
set_option linter.unusedSimpArgs false

end Go.Proofs.YtmonnbbihmpedaaDoor.PFnExactParseBears
