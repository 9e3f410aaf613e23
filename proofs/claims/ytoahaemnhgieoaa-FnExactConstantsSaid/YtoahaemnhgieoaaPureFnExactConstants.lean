/- The pure statement of FnExactConstants: the printed function returns true for all arguments within their kinds; no other condition. -/
import Derived.Test.YtoahaemnhgieoaaPFnExactConstantsx
namespace Go.Proofs.Ytoahaemnhgieoaa.Pure
open Go.RowKit Go.Proofs.Ytoahaemnhgieoaa.PFnExactConstants Go.Proofs.YtoahaemnhgieoaaW.PrintWords Go.Proofs.YtoahaemnhgieoaaW.PrintLast Go.Proofs.YtoahaemnhgieoaaW.PrintMore
set_option linter.unusedVariables false
set_option linter.unusedSimpArgs false
/-- Yours: laws_FnExactConstants.f  = some true -/
theorem FnExactConstants : laws_FnExactConstants.f = some true := by
  simp [laws_FnExactConstants.f]

end Go.Proofs.Ytoahaemnhgieoaa.Pure
