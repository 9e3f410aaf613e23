-- Written by wip/gen/mp.py of this repo (the kit's printer with our own parts): functions and their contracts.
import Derived.Test.YtbeokaghdagabaaPFnExactNextClimbx0
import Derived.Test.YtbeokaghdagabaaPFnExactNextClimbx1
import Derived.Test.YtbeokaghdagabaaPFnExactNextClimbx2
import Derived.Test.YtbeokaghdagabaaPFnExactNextClimbx3
import Derived.Test.YtbeokaghdagabaaPFnExactNextClimbx4
import Derived.Test.YtbeokaghdagabaaPFnExactNextClimbx5
import Derived.Test.YtbeokaghdagabaaPFnExactNextClimbx6
import Derived.Test.YtbeokaghdagabaaPFnExactNextClimbx7
import Derived.Test.YtbeokaghdagabaaPFnExactNextClimbx8
import Derived.Test.YtbeokaghdagabaaPFnExactNextClimbx9
namespace Go.Proofs.Ytbeokaghdagabaa.PFnExactNextClimb
open Go.RowKit Go.Proofs.YtbeokaghdagabaaW.PrintWords Go.Proofs.YtbeokaghdagabaaW.PrintLast Go.Proofs.YtbeokaghdagabaaW.PrintMore
attribute [local go_sem] max2_int min2_int max_two min_two max_three min_three max_four min_four   -- for this text's walks alone
set_option linter.unusedVariables false
set_option linter.unusedSimpArgs false

end Go.Proofs.Ytbeokaghdagabaa.PFnExactNextClimb
