-- Written by wip/gen/mp.py of this repo (the kit's printer with our own parts): functions and their contracts.
import Derived.Test.YtfmjkephbibddaaPFnExactWearAllx0
import Derived.Test.YtfmjkephbibddaaPFnExactWearAllx1
import Derived.Test.YtfmjkephbibddaaPFnExactWearAllx2
import Derived.Test.YtfmjkephbibddaaPFnExactWearAllx3
import Derived.Test.YtfmjkephbibddaaPFnExactWearAllx4
import Derived.Test.YtfmjkephbibddaaPFnExactWearAllx5
namespace Go.Proofs.Ytfmjkephbibddaa.PFnExactWearAll
open Go.RowKit Go.Proofs.YtfmjkephbibddaaW.PrintWords Go.Proofs.YtfmjkephbibddaaW.PrintLast Go.Proofs.YtfmjkephbibddaaW.PrintMore
attribute [local go_sem] max2_int min2_int max_two min_two max_three min_three max_four min_four   -- for this text's walks alone
set_option linter.unusedVariables false
set_option linter.unusedSimpArgs false

end Go.Proofs.Ytfmjkephbibddaa.PFnExactWearAll
