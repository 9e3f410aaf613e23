-- Written by wip/gen/mp.py of this repo (the kit's printer with our own parts): functions and their contracts.
import Derived.Test.YtbeokaghdagabaaPFnStepsMendedOfAllx0
import Derived.Test.YtbeokaghdagabaaPFnStepsMendedOfAllx1
import Derived.Test.YtbeokaghdagabaaPFnStepsMendedOfAllx2
import Derived.Test.YtbeokaghdagabaaPFnStepsMendedOfAllx3
import Derived.Test.YtbeokaghdagabaaPFnStepsMendedOfAllx4
import Derived.Test.YtbeokaghdagabaaPFnStepsMendedOfAllx5
import Derived.Test.YtbeokaghdagabaaPFnStepsMendedOfAllx6
import Derived.Test.YtbeokaghdagabaaPFnStepsMendedOfAllx7
import Derived.Test.YtbeokaghdagabaaPFnStepsMendedOfAllx8
import Derived.Test.YtbeokaghdagabaaPFnStepsMendedOfAllx9
import Derived.Test.YtbeokaghdagabaaPFnStepsMendedOfAllx10
import Derived.Test.YtbeokaghdagabaaPFnStepsMendedOfAllx11
namespace Go.Proofs.Ytbeokaghdagabaa.PFnStepsMendedOfAll
open Go.RowKit Go.Proofs.YtbeokaghdagabaaW.PrintWords Go.Proofs.YtbeokaghdagabaaW.PrintLast Go.Proofs.YtbeokaghdagabaaW.PrintMore
attribute [local go_sem] max2_int min2_int max_two min_two max_three min_three max_four min_four   -- for this text's walks alone
set_option linter.unusedVariables false
set_option linter.unusedSimpArgs false

end Go.Proofs.Ytbeokaghdagabaa.PFnStepsMendedOfAll
