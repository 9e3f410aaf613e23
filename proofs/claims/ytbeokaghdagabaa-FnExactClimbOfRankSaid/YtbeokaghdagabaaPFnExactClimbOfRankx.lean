-- Written by wip/gen/mp.py of this repo (the kit's printer with our own parts): functions and their contracts.
import Derived.Test.YtbeokaghdagabaaPFnExactClimbOfRankx0
import Derived.Test.YtbeokaghdagabaaPFnExactClimbOfRankx1
import Derived.Test.YtbeokaghdagabaaPFnExactClimbOfRankx2
import Derived.Test.YtbeokaghdagabaaPFnExactClimbOfRankx3
import Derived.Test.YtbeokaghdagabaaPFnExactClimbOfRankx4
import Derived.Test.YtbeokaghdagabaaPFnExactClimbOfRankx5
import Derived.Test.YtbeokaghdagabaaPFnExactClimbOfRankx6
import Derived.Test.YtbeokaghdagabaaPFnExactClimbOfRankx7
namespace Go.Proofs.Ytbeokaghdagabaa.PFnExactClimbOfRank
open Go.RowKit Go.Proofs.YtbeokaghdagabaaW.PrintWords Go.Proofs.YtbeokaghdagabaaW.PrintLast Go.Proofs.YtbeokaghdagabaaW.PrintMore
attribute [local go_sem] max2_int min2_int max_two min_two max_three min_three max_four min_four   -- for this text's walks alone
set_option linter.unusedVariables false
set_option linter.unusedSimpArgs false

end Go.Proofs.Ytbeokaghdagabaa.PFnExactClimbOfRank
