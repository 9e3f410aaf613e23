-- Written by wip/gen/mp.py of this repo (the kit's printer with our own parts): functions and their contracts.
import Derived.Test.YtmonnbbihmpedaaGreatDoorPFnStepsWornOfAllx0
import Derived.Test.YtmonnbbihmpedaaGreatDoorPFnStepsWornOfAllx1
import Derived.Test.YtmonnbbihmpedaaGreatDoorPFnStepsWornOfAllx2
import Derived.Test.YtmonnbbihmpedaaGreatDoorPFnStepsWornOfAllx3
import Derived.Test.YtmonnbbihmpedaaGreatDoorPFnStepsWornOfAllx4
import Derived.Test.YtmonnbbihmpedaaGreatDoorPFnStepsWornOfAllx5
import Derived.Test.YtmonnbbihmpedaaGreatDoorPFnStepsWornOfAllx6
import Derived.Test.YtmonnbbihmpedaaGreatDoorPFnStepsWornOfAllx7
import Derived.Test.YtmonnbbihmpedaaGreatDoorPFnStepsWornOfAllx8
import Derived.Test.YtmonnbbihmpedaaGreatDoorPFnStepsWornOfAllx9
namespace Go.Proofs.YtmonnbbihmpedaaGreatDoor.PFnStepsWornOfAll
open Go.RowKit Go.Proofs.YtmonnbbihmpedaaGreatDoorW.PrintWords Go.Proofs.YtmonnbbihmpedaaGreatDoorW.PrintLast Go.Proofs.YtmonnbbihmpedaaGreatDoorW.PrintMore
attribute [local go_sem] yielded_undef max2_int min2_int max_two min_two max_three min_three max_four min_four   -- for this text's walks alone
set_option linter.unusedVariables false
set_option linter.unusedSimpArgs false

/-! ### laws_FnStepsWornOfAll: function 3 -/
mutual
def laws_FnStepsWornOfAll.j0 : Nat → List Int → Int → List Int → List Int → Int → List Int → Int → List (List Int) → List Int → Int → Int → ByteArray → Bool → Option (Bool)
 | 0, _, _, _, _, _, _, _, _, _, _, _, _, _ => none
 | k + 1, x0, x1, x2, x3, x4, x5, x6, x7, x8, x9, x10, x11, x128 => if x128 = true then (some true) else ((impl_WearBy.f k x0 x1 x2).bind fun bt324 => ((spec_WearBy.f k x0 x1 x2).bind fun bt328 => ((impl_IsWearClimb.f k x0 x1 x2).bind fun bt332 => ((spec_IsWearClimb.f k x0 x1 x2).bind fun bt334 => ((impl_MostWears.f k x0 x1).bind fun bt336 => ((spec_MostWears.f k x0 x1).bind fun bt338 => (if (bt324.2 != bt328.2) = true then (laws_FnStepsWornOfAll.j1 k x0 x1 x2 x3 x4 x5 x6 x7 x8 x9 x10 x11 bt324.1 bt324.2 bt336.1 bt336.2 true) else ((laws_wSame.f k bt324.1 bt328.1).bind fun t340 => (if t340 = true then (if (bt332.2 != bt334.2) = true then (laws_FnStepsWornOfAll.j1 k x0 x1 x2 x3 x4 x5 x6 x7 x8 x9 x10 x11 bt324.1 bt324.2 bt336.1 bt336.2 true) else (if (bt332.1 != bt334.1) = true then (laws_FnStepsWornOfAll.j1 k x0 x1 x2 x3 x4 x5 x6 x7 x8 x9 x10 x11 bt324.1 bt324.2 bt336.1 bt336.2 true) else (if (bt336.2 != bt338.2) = true then (laws_FnStepsWornOfAll.j1 k x0 x1 x2 x3 x4 x5 x6 x7 x8 x9 x10 x11 bt324.1 bt324.2 bt336.1 bt336.2 true) else (if bt336.1 = bt338.1 then (if bt332.2 = true then (if (bt324.2 != bt332.1) = true then (laws_FnStepsWornOfAll.j1 k x0 x1 x2 x3 x4 x5 x6 x7 x8 x9 x10 x11 bt324.1 bt324.2 bt336.1 bt336.2 true) else ((impl_AreBears.f k x0).bind fun t341 => (if t341 = true then ((impl_AreBears.f k x0).bind fun t342 => ((spec_AreBears.f k x0).bind fun t343 => (if (t342 != t343) = true then (laws_FnStepsWornOfAll.j1 k x0 x1 x2 x3 x4 x5 x6 x7 x8 x9 x10 x11 bt324.1 bt324.2 bt336.1 bt336.2 true) else (laws_FnStepsWornOfAll.j1 k x0 x1 x2 x3 x4 x5 x6 x7 x8 x9 x10 x11 bt324.1 bt324.2 bt336.1 bt336.2 (bt336.2 != (decide (x1 ≤ (x0.length : Int)))))))) else (laws_FnStepsWornOfAll.j1 k x0 x1 x2 x3 x4 x5 x6 x7 x8 x9 x10 x11 bt324.1 bt324.2 bt336.1 bt336.2 true)))) else (if (bt324.2 != false) = true then (laws_FnStepsWornOfAll.j1 k x0 x1 x2 x3 x4 x5 x6 x7 x8 x9 x10 x11 bt324.1 bt324.2 bt336.1 bt336.2 true) else ((impl_AreBears.f k x0).bind fun t344 => ((spec_AreBears.f k x0).bind fun t345 => (if (t344 != t345) = true then (laws_FnStepsWornOfAll.j1 k x0 x1 x2 x3 x4 x5 x6 x7 x8 x9 x10 x11 bt324.1 bt324.2 bt336.1 bt336.2 true) else (laws_FnStepsWornOfAll.j1 k x0 x1 x2 x3 x4 x5 x6 x7 x8 x9 x10 x11 bt324.1 bt324.2 bt336.1 bt336.2 (bt336.2 != false))))))) else (laws_FnStepsWornOfAll.j1 k x0 x1 x2 x3 x4 x5 x6 x7 x8 x9 x10 x11 bt324.1 bt324.2 bt336.1 bt336.2 true))))) else (laws_FnStepsWornOfAll.j1 k x0 x1 x2 x3 x4 x5 x6 x7 x8 x9 x10 x11 bt324.1 bt324.2 bt336.1 bt336.2 true))))))))))
def laws_FnStepsWornOfAll.j1 : Nat → List Int → Int → List Int → List Int → Int → List Int → Int → List (List Int) → List Int → Int → Int → ByteArray → List Int → Bool → Int → Bool → Bool → Option (Bool)
 | 0, _, _, _, _, _, _, _, _, _, _, _, _, _, _, _, _, _ => none
 | k + 1, x0, x1, x2, x3, x4, x5, x6, x7, x8, x9, x10, x11, x25, x26, x33, x34, x231 => if x231 = true then (some false) else (if x26 = true then (if (x25.length : Int) = (x0.length : Int) then ((impl_AreBears.f k x25).bind fun t346 => (if t346 = true then ((laws_wRises.f k x2).bind fun t347 => (laws_FnStepsWornOfAll.j2 k x0 x1 x2 x3 x4 x5 x6 x7 x8 x9 x10 x11 x25 x33 x34 (!t347))) else (laws_FnStepsWornOfAll.j2 k x0 x1 x2 x3 x4 x5 x6 x7 x8 x9 x10 x11 x25 x33 x34 true))) else (laws_FnStepsWornOfAll.j2 k x0 x1 x2 x3 x4 x5 x6 x7 x8 x9 x10 x11 x25 x33 x34 true)) else (laws_FnStepsWornOfAll.j4 k x3 x4 x5 x6 x7 x8 x9 x10 x11))
def laws_FnStepsWornOfAll.j4 : Nat → List Int → Int → List Int → Int → List (List Int) → List Int → Int → Int → ByteArray → Option (Bool)
 | 0, _, _, _, _, _, _, _, _, _ => none
 | k + 1, x3, x4, x5, x6, x7, x8, x9, x10, x11 => (impl_WeakestPart.f k x3 x4).bind fun bt357 => ((spec_WeakestPart.f k x3 x4).bind fun bt360 => ((impl_PartsOfBears.f k x3 x4).bind fun bt363 => ((spec_PartsOfBears.f k x3 x4).bind fun bt367 => ((impl_WearAll.f k x5 x6 x7).bind fun bt371 => ((spec_WearAll.f k x5 x6 x7).bind fun bt375 => ((impl_DaysOfWear.f k x8 x9 x10).bind fun bt379 => ((spec_DaysOfWear.f k x8 x9 x10).bind fun bt382 => ((impl_StrongestStep.f k x3).bind fun bt385 => ((spec_StrongestStep.f k x3).bind fun bt387 => ((impl_BearsText.f k x3).bind fun bt389 => ((spec_BearsText.f k x3).bind fun bt391 => ((impl_TurnBears.f k x3).bind fun bt393 => ((spec_TurnBears.f k x3).bind fun bt397 => ((impl_ParseBears.f k x11).bind fun bt401 => ((spec_ParseBears.f k x11).bind fun bt405 => (if (bt357.2.2 != bt360.2.2) = true then (laws_FnStepsWornOfAll.j5 k x3 x4 x5 x6 x7 x8 x9 x10 x11 bt357.1 bt357.2.1 bt357.2.2 bt363.1 bt371.1 bt371.2 bt379.1 bt379.2.1 bt379.2.2 bt385.1 bt389.1 bt389.2 bt393.1 bt401.1 bt401.2 true) else (if bt357.1 = bt360.1 then (if bt357.2.1 = bt360.2.1 then (if (bt363.2 != bt367.2) = true then (laws_FnStepsWornOfAll.j5 k x3 x4 x5 x6 x7 x8 x9 x10 x11 bt357.1 bt357.2.1 bt357.2.2 bt363.1 bt371.1 bt371.2 bt379.1 bt379.2.1 bt379.2.2 bt385.1 bt389.1 bt389.2 bt393.1 bt401.1 bt401.2 true) else ((laws_wSame.f k bt363.1 bt367.1).bind fun t409 => (if t409 = true then (if (bt371.2 != bt375.2) = true then (laws_FnStepsWornOfAll.j5 k x3 x4 x5 x6 x7 x8 x9 x10 x11 bt357.1 bt357.2.1 bt357.2.2 bt363.1 bt371.1 bt371.2 bt379.1 bt379.2.1 bt379.2.2 bt385.1 bt389.1 bt389.2 bt393.1 bt401.1 bt401.2 true) else ((laws_wSame.f k bt371.1 bt375.1).bind fun t410 => (if t410 = true then (if (bt379.2.2 != bt382.2.2) = true then (laws_FnStepsWornOfAll.j5 k x3 x4 x5 x6 x7 x8 x9 x10 x11 bt357.1 bt357.2.1 bt357.2.2 bt363.1 bt371.1 bt371.2 bt379.1 bt379.2.1 bt379.2.2 bt385.1 bt389.1 bt389.2 bt393.1 bt401.1 bt401.2 true) else (if bt379.1 = bt382.1 then (if bt379.2.1 = bt382.2.1 then (if (bt385.2 != bt387.2) = true then (laws_FnStepsWornOfAll.j5 k x3 x4 x5 x6 x7 x8 x9 x10 x11 bt357.1 bt357.2.1 bt357.2.2 bt363.1 bt371.1 bt371.2 bt379.1 bt379.2.1 bt379.2.2 bt385.1 bt389.1 bt389.2 bt393.1 bt401.1 bt401.2 true) else (if bt385.1 = bt387.1 then (if (bt389.2 != bt391.2) = true then (laws_FnStepsWornOfAll.j5 k x3 x4 x5 x6 x7 x8 x9 x10 x11 bt357.1 bt357.2.1 bt357.2.2 bt363.1 bt371.1 bt371.2 bt379.1 bt379.2.1 bt379.2.2 bt385.1 bt389.1 bt389.2 bt393.1 bt401.1 bt401.2 true) else (if bt389.1.toList = bt391.1.toList then (if (bt393.2 != bt397.2) = true then (laws_FnStepsWornOfAll.j5 k x3 x4 x5 x6 x7 x8 x9 x10 x11 bt357.1 bt357.2.1 bt357.2.2 bt363.1 bt371.1 bt371.2 bt379.1 bt379.2.1 bt379.2.2 bt385.1 bt389.1 bt389.2 bt393.1 bt401.1 bt401.2 true) else ((laws_wSame.f k bt393.1 bt397.1).bind fun t411 => (if t411 = true then (if (bt401.2 != bt405.2) = true then (laws_FnStepsWornOfAll.j5 k x3 x4 x5 x6 x7 x8 x9 x10 x11 bt357.1 bt357.2.1 bt357.2.2 bt363.1 bt371.1 bt371.2 bt379.1 bt379.2.1 bt379.2.2 bt385.1 bt389.1 bt389.2 bt393.1 bt401.1 bt401.2 true) else ((laws_wSame.f k bt401.1 bt405.1).bind fun t412 => (if t412 = true then (if (bt363.2 != bt357.2.2) = true then (laws_FnStepsWornOfAll.j5 k x3 x4 x5 x6 x7 x8 x9 x10 x11 bt357.1 bt357.2.1 bt357.2.2 bt363.1 bt371.1 bt371.2 bt379.1 bt379.2.1 bt379.2.2 bt385.1 bt389.1 bt389.2 bt393.1 bt401.1 bt401.2 true) else (if (bt385.2 != bt389.2) = true then (laws_FnStepsWornOfAll.j5 k x3 x4 x5 x6 x7 x8 x9 x10 x11 bt357.1 bt357.2.1 bt357.2.2 bt363.1 bt371.1 bt371.2 bt379.1 bt379.2.1 bt379.2.2 bt385.1 bt389.1 bt389.2 bt393.1 bt401.1 bt401.2 true) else (if (bt393.2 != bt389.2) = true then (laws_FnStepsWornOfAll.j5 k x3 x4 x5 x6 x7 x8 x9 x10 x11 bt357.1 bt357.2.1 bt357.2.2 bt363.1 bt371.1 bt371.2 bt379.1 bt379.2.1 bt379.2.2 bt385.1 bt389.1 bt389.2 bt393.1 bt401.1 bt401.2 true) else ((impl_AreBears.f k x3).bind fun t413 => (laws_FnStepsWornOfAll.j5 k x3 x4 x5 x6 x7 x8 x9 x10 x11 bt357.1 bt357.2.1 bt357.2.2 bt363.1 bt371.1 bt371.2 bt379.1 bt379.2.1 bt379.2.2 bt385.1 bt389.1 bt389.2 bt393.1 bt401.1 bt401.2 (bt389.2 != t413)))))) else (laws_FnStepsWornOfAll.j5 k x3 x4 x5 x6 x7 x8 x9 x10 x11 bt357.1 bt357.2.1 bt357.2.2 bt363.1 bt371.1 bt371.2 bt379.1 bt379.2.1 bt379.2.2 bt385.1 bt389.1 bt389.2 bt393.1 bt401.1 bt401.2 true)))) else (laws_FnStepsWornOfAll.j5 k x3 x4 x5 x6 x7 x8 x9 x10 x11 bt357.1 bt357.2.1 bt357.2.2 bt363.1 bt371.1 bt371.2 bt379.1 bt379.2.1 bt379.2.2 bt385.1 bt389.1 bt389.2 bt393.1 bt401.1 bt401.2 true)))) else (laws_FnStepsWornOfAll.j5 k x3 x4 x5 x6 x7 x8 x9 x10 x11 bt357.1 bt357.2.1 bt357.2.2 bt363.1 bt371.1 bt371.2 bt379.1 bt379.2.1 bt379.2.2 bt385.1 bt389.1 bt389.2 bt393.1 bt401.1 bt401.2 true))) else (laws_FnStepsWornOfAll.j5 k x3 x4 x5 x6 x7 x8 x9 x10 x11 bt357.1 bt357.2.1 bt357.2.2 bt363.1 bt371.1 bt371.2 bt379.1 bt379.2.1 bt379.2.2 bt385.1 bt389.1 bt389.2 bt393.1 bt401.1 bt401.2 true))) else (laws_FnStepsWornOfAll.j5 k x3 x4 x5 x6 x7 x8 x9 x10 x11 bt357.1 bt357.2.1 bt357.2.2 bt363.1 bt371.1 bt371.2 bt379.1 bt379.2.1 bt379.2.2 bt385.1 bt389.1 bt389.2 bt393.1 bt401.1 bt401.2 true)) else (laws_FnStepsWornOfAll.j5 k x3 x4 x5 x6 x7 x8 x9 x10 x11 bt357.1 bt357.2.1 bt357.2.2 bt363.1 bt371.1 bt371.2 bt379.1 bt379.2.1 bt379.2.2 bt385.1 bt389.1 bt389.2 bt393.1 bt401.1 bt401.2 true))) else (laws_FnStepsWornOfAll.j5 k x3 x4 x5 x6 x7 x8 x9 x10 x11 bt357.1 bt357.2.1 bt357.2.2 bt363.1 bt371.1 bt371.2 bt379.1 bt379.2.1 bt379.2.2 bt385.1 bt389.1 bt389.2 bt393.1 bt401.1 bt401.2 true)))) else (laws_FnStepsWornOfAll.j5 k x3 x4 x5 x6 x7 x8 x9 x10 x11 bt357.1 bt357.2.1 bt357.2.2 bt363.1 bt371.1 bt371.2 bt379.1 bt379.2.1 bt379.2.2 bt385.1 bt389.1 bt389.2 bt393.1 bt401.1 bt401.2 true)))) else (laws_FnStepsWornOfAll.j5 k x3 x4 x5 x6 x7 x8 x9 x10 x11 bt357.1 bt357.2.1 bt357.2.2 bt363.1 bt371.1 bt371.2 bt379.1 bt379.2.1 bt379.2.2 bt385.1 bt389.1 bt389.2 bt393.1 bt401.1 bt401.2 true)) else (laws_FnStepsWornOfAll.j5 k x3 x4 x5 x6 x7 x8 x9 x10 x11 bt357.1 bt357.2.1 bt357.2.2 bt363.1 bt371.1 bt371.2 bt379.1 bt379.2.1 bt379.2.2 bt385.1 bt389.1 bt389.2 bt393.1 bt401.1 bt401.2 true))))))))))))))))))
def laws_FnStepsWornOfAll.j5 : Nat → List Int → Int → List Int → Int → List (List Int) → List Int → Int → Int → ByteArray → Int → Int → Bool → List Int → List Int → Bool → Int → Int → Bool → Int → ByteArray → Bool → List Int → List Int → Bool → Bool → Option (Bool)
 | 0, _, _, _, _, _, _, _, _, _, _, _, _, _, _, _, _, _, _, _, _, _, _, _, _, _ => none
 | k + 1, x3, x4, x5, x6, x7, x8, x9, x10, x11, x41, x42, x43, x47, x51, x52, x55, x56, x57, x61, x65, x66, x69, x73, x74, x506 => if x506 = true then (some false) else (if x43 = true then ((impl_MostWears.f k x3 x4).bind fun bt414 => ((impl_MostWears.f k x69 x4).bind fun bt416 => (if bt414.2 = true then (if bt414.1 = x42 then (if bt416.2 = true then (if bt416.1 = bt414.1 then (if (x47.length : Int) = (wrap64 ((wrap64 ((x3.length : Int) - x4)) + 1)) then (if x41 < 1 then (laws_FnStepsWornOfAll.j6 k x3 x4 x5 x6 x7 x8 x9 x10 x11 x41 x42 x47 x51 x52 x55 x56 x57 x61 x65 x66 x73 x74 true) else (if x41 > (x47.length : Int) then (laws_FnStepsWornOfAll.j6 k x3 x4 x5 x6 x7 x8 x9 x10 x11 x41 x42 x47 x51 x52 x55 x56 x57 x61 x65 x66 x73 x74 true) else (if 0 ≤ (wrap64 (x41 - 1)) then (if (wrap64 (x41 - 1)) < (x47.length : Int) then (laws_FnStepsWornOfAll.j6 k x3 x4 x5 x6 x7 x8 x9 x10 x11 x41 x42 x47 x51 x52 x55 x56 x57 x61 x65 x66 x73 x74 ((rd x47 (wrap64 (x41 - 1))) != x42)) else (none)) else (none)))) else (laws_FnStepsWornOfAll.j6 k x3 x4 x5 x6 x7 x8 x9 x10 x11 x41 x42 x47 x51 x52 x55 x56 x57 x61 x65 x66 x73 x74 true)) else (laws_FnStepsWornOfAll.j6 k x3 x4 x5 x6 x7 x8 x9 x10 x11 x41 x42 x47 x51 x52 x55 x56 x57 x61 x65 x66 x73 x74 true)) else (laws_FnStepsWornOfAll.j6 k x3 x4 x5 x6 x7 x8 x9 x10 x11 x41 x42 x47 x51 x52 x55 x56 x57 x61 x65 x66 x73 x74 true)) else (laws_FnStepsWornOfAll.j6 k x3 x4 x5 x6 x7 x8 x9 x10 x11 x41 x42 x47 x51 x52 x55 x56 x57 x61 x65 x66 x73 x74 true)) else (laws_FnStepsWornOfAll.j6 k x3 x4 x5 x6 x7 x8 x9 x10 x11 x41 x42 x47 x51 x52 x55 x56 x57 x61 x65 x66 x73 x74 true)))) else (laws_FnStepsWornOfAll.j8 k x3 x5 x6 x7 x8 x9 x10 x11 x51 x52 x55 x56 x57 x61 x65 x66 x73 x74))
def laws_FnStepsWornOfAll.j8 : Nat → List Int → List Int → Int → List (List Int) → List Int → Int → Int → ByteArray → List Int → Bool → Int → Int → Bool → Int → ByteArray → Bool → List Int → Bool → Option (Bool)
 | 0, _, _, _, _, _, _, _, _, _, _, _, _, _, _, _, _, _, _ => none
 | k + 1, x3, x5, x6, x7, x8, x9, x10, x11, x51, x52, x55, x56, x57, x61, x65, x66, x73, x74 => if x52 = true then (laws_FnStepsWornOfAll.l2 k x3 x6 x8 x9 x10 x11 x51 x55 x56 x57 x61 x65 x66 x73 x74 x5 x7 (x7.length : Int) 0) else (laws_FnStepsWornOfAll.j10 k x3 x8 x9 x10 x11 x55 x56 x57 x61 x65 x66 x73 x74)
def laws_FnStepsWornOfAll.j10 : Nat → List Int → List Int → Int → Int → ByteArray → Int → Int → Bool → Int → ByteArray → Bool → List Int → Bool → Option (Bool)
 | 0, _, _, _, _, _, _, _, _, _, _, _, _, _ => none
 | k + 1, x3, x8, x9, x10, x11, x55, x56, x57, x61, x65, x66, x73, x74 => if x57 = true then ((impl_MostWears.f k x8 x9).bind fun bt431 => (if bt431.2 = true then (if x55 < 0 then (some false) else (if x56 < 0 then (some false) else (if x56 ≥ x10 then (some false) else (if (wrap64 ((wrap64 (x55 * x10)) + x56)) = bt431.1 then (laws_FnStepsWornOfAll.j11 k x3 x11 x61 x65 x66 x73 x74) else (some false))))) else (some false))) else (laws_FnStepsWornOfAll.j11 k x3 x11 x61 x65 x66 x73 x74)
def laws_FnStepsWornOfAll.j11 : Nat → List Int → ByteArray → Int → ByteArray → Bool → List Int → Bool → Option (Bool)
 | 0, _, _, _, _, _, _, _ => none
 | k + 1, x3, x11, x61, x65, x66, x73, x74 => if x66 = true then ((impl_ParseBears.f k x65).bind fun bt433 => (if bt433.2 = true then ((laws_wSame.f k bt433.1 x3).bind fun t437 => (laws_FnStepsWornOfAll.j12 k x3 x11 x61 x73 x74 (!t437))) else (laws_FnStepsWornOfAll.j12 k x3 x11 x61 x73 x74 true))) else (if x74 = true then ((impl_BearsText.f k x73).bind fun bt443 => (if bt443.2 = true then (some (bt443.1.toList == x11.toList)) else (some false))) else (some true))
def laws_FnStepsWornOfAll.j12 : Nat → List Int → ByteArray → Int → List Int → Bool → Bool → Option (Bool)
 | 0, _, _, _, _, _, _ => none
 | k + 1, x3, x11, x61, x73, x74, x665 => if x665 = true then (some false) else (laws_FnStepsWornOfAll.l3 k x3 x11 x61 x73 x74 x3 (x3.length : Int) 0)
def laws_FnStepsWornOfAll.l3 : Nat → List Int → ByteArray → Int → List Int → Bool → List Int → Int → Int → Option (Bool)
 | 0, _, _, _, _, _, _, _, _ => none
 | k + 1, x3, x11, x61, x73, x74, x666, x667, x668 => if x668 < x667 then (if 0 ≤ x668 then (if x668 < (x666.length : Int) then (if 0 ≤ (wrap64 (x61 - 1)) then (if (wrap64 (x61 - 1)) < (x3.length : Int) then (if (rd x666 x668) > (rd x3 (wrap64 (x61 - 1))) then (some false) else (if (rd x666 x668) = (rd x3 (wrap64 (x61 - 1))) then (if (wrap64 (x668 + 1)) < x61 then (some false) else (laws_FnStepsWornOfAll.l3 k x3 x11 x61 x73 x74 x666 x667 (wrap64 (x668 + 1)))) else (laws_FnStepsWornOfAll.l3 k x3 x11 x61 x73 x74 x666 x667 (wrap64 (x668 + 1))))) else (none)) else (none)) else (none)) else (none)) else (if x74 = true then ((impl_BearsText.f k x73).bind fun bt441 => (if bt441.2 = true then (some (bt441.1.toList == x11.toList)) else (some false))) else (some true))
def laws_FnStepsWornOfAll.l2 : Nat → List Int → Int → List Int → Int → Int → ByteArray → List Int → Int → Int → Bool → Int → ByteArray → Bool → List Int → Bool → List Int → List (List Int) → Int → Int → Option (Bool)
 | 0, _, _, _, _, _, _, _, _, _, _, _, _, _, _, _, _, _, _, _ => none
 | k + 1, x3, x6, x8, x9, x10, x11, x51, x55, x56, x57, x61, x65, x66, x73, x74, x83, x600, x601, x602 => if x602 < x601 then (if 0 ≤ x602 then (if x602 < (x600.length : Int) then ((impl_WearBy.f k x83 x6 (rd_L1 x600 x602)).bind fun bt426 => (if bt426.2 = true then (laws_FnStepsWornOfAll.l2 k x3 x6 x8 x9 x10 x11 x51 x55 x56 x57 x61 x65 x66 x73 x74 bt426.1 x600 x601 (wrap64 (x602 + 1))) else (some false))) else (none)) else (none)) else ((laws_wSame.f k x83 x51).bind fun t430 => (if t430 = true then (laws_FnStepsWornOfAll.j10 k x3 x8 x9 x10 x11 x55 x56 x57 x61 x65 x66 x73 x74) else (some false)))
def laws_FnStepsWornOfAll.j6 : Nat → List Int → Int → List Int → Int → List (List Int) → List Int → Int → Int → ByteArray → Int → Int → List Int → List Int → Bool → Int → Int → Bool → Int → ByteArray → Bool → List Int → Bool → Bool → Option (Bool)
 | 0, _, _, _, _, _, _, _, _, _, _, _, _, _, _, _, _, _, _, _, _, _, _, _ => none
 | k + 1, x3, x4, x5, x6, x7, x8, x9, x10, x11, x41, x42, x47, x51, x52, x55, x56, x57, x61, x65, x66, x73, x74, x564 => if x564 = true then (some false) else (laws_FnStepsWornOfAll.l1 k x3 x4 x5 x6 x7 x8 x9 x10 x11 x41 x42 x51 x52 x55 x56 x57 x61 x65 x66 x73 x74 x47 (x47.length : Int) 0)
def laws_FnStepsWornOfAll.l1 : Nat → List Int → Int → List Int → Int → List (List Int) → List Int → Int → Int → ByteArray → Int → Int → List Int → Bool → Int → Int → Bool → Int → ByteArray → Bool → List Int → Bool → List Int → Int → Int → Option (Bool)
 | 0, _, _, _, _, _, _, _, _, _, _, _, _, _, _, _, _, _, _, _, _, _, _, _, _ => none
 | k + 1, x3, x4, x5, x6, x7, x8, x9, x10, x11, x41, x42, x51, x52, x55, x56, x57, x61, x65, x66, x73, x74, x565, x566, x567 => if x567 < x566 then (if 0 ≤ x567 then (if x567 < (x565.length : Int) then (if x567 ≤ (wrap64 (x567 + x4)) then (if (wrap64 (x567 + x4)) ≤ (x3.length : Int) then ((laws_wSum.f k ((x3.take ((wrap64 (x567 + x4)) : Int).toNat).drop (x567 : Int).toNat)).bind fun t424 => (if (rd x565 x567) = t424 then (if (rd x565 x567) < x42 then (some false) else (if (rd x565 x567) = x42 then (if (wrap64 (x567 + 1)) < x41 then (some false) else (laws_FnStepsWornOfAll.l1 k x3 x4 x5 x6 x7 x8 x9 x10 x11 x41 x42 x51 x52 x55 x56 x57 x61 x65 x66 x73 x74 x565 x566 (wrap64 (x567 + 1)))) else (laws_FnStepsWornOfAll.l1 k x3 x4 x5 x6 x7 x8 x9 x10 x11 x41 x42 x51 x52 x55 x56 x57 x61 x65 x66 x73 x74 x565 x566 (wrap64 (x567 + 1))))) else (some false))) else (none)) else (none)) else (none)) else (none)) else (laws_FnStepsWornOfAll.j8 k x3 x5 x6 x7 x8 x9 x10 x11 x51 x52 x55 x56 x57 x61 x65 x66 x73 x74)
def laws_FnStepsWornOfAll.j2 : Nat → List Int → Int → List Int → List Int → Int → List Int → Int → List (List Int) → List Int → Int → Int → ByteArray → List Int → Int → Bool → Bool → Option (Bool)
 | 0, _, _, _, _, _, _, _, _, _, _, _, _, _, _, _, _ => none
 | k + 1, x0, x1, x2, x3, x4, x5, x6, x7, x8, x9, x10, x11, x25, x33, x34, x247 => if x247 = true then (some false) else (laws_FnStepsWornOfAll.l0 k x1 x2 x3 x4 x5 x6 x7 x8 x9 x10 x11 x25 x33 x34 x0 (x0.length : Int) 0)
def laws_FnStepsWornOfAll.l0 : Nat → Int → List Int → List Int → Int → List Int → Int → List (List Int) → List Int → Int → Int → ByteArray → List Int → Int → Bool → List Int → Int → Int → Option (Bool)
 | 0, _, _, _, _, _, _, _, _, _, _, _, _, _, _, _, _, _ => none
 | k + 1, x1, x2, x3, x4, x5, x6, x7, x8, x9, x10, x11, x25, x33, x34, x248, x249, x250 => if x250 < x249 then (if 0 ≤ x250 then (if x250 < (x248.length : Int) then ((laws_wHas.f k x2 (wrap64 (x250 + 1))).bind fun t349 => (if t349 = true then (if x250 < (x25.length : Int) then (if (rd x25 x250) = (wrap64 ((rd x248 x250) - 1)) then ((laws_wHas.f k x2 (wrap64 (x250 + 1))).bind fun t351 => (if t351 = true then (laws_FnStepsWornOfAll.l0 k x1 x2 x3 x4 x5 x6 x7 x8 x9 x10 x11 x25 x33 x34 x248 x249 (wrap64 (x250 + 1))) else (if (rd x25 x250) = (rd x248 x250) then (laws_FnStepsWornOfAll.l0 k x1 x2 x3 x4 x5 x6 x7 x8 x9 x10 x11 x25 x33 x34 x248 x249 (wrap64 (x250 + 1))) else (some false)))) else (some false)) else (none)) else ((laws_wHas.f k x2 (wrap64 (x250 + 1))).bind fun t353 => (if t353 = true then (laws_FnStepsWornOfAll.l0 k x1 x2 x3 x4 x5 x6 x7 x8 x9 x10 x11 x25 x33 x34 x248 x249 (wrap64 (x250 + 1))) else (if x250 < (x25.length : Int) then (if (rd x25 x250) = (rd x248 x250) then (laws_FnStepsWornOfAll.l0 k x1 x2 x3 x4 x5 x6 x7 x8 x9 x10 x11 x25 x33 x34 x248 x249 (wrap64 (x250 + 1))) else (some false)) else (none)))))) else (none)) else (none)) else (if x34 = true then ((impl_MostWears.f k x25 x1).bind fun bt355 => (if bt355.2 = true then (if bt355.1 ≥ x33 then (some false) else (laws_FnStepsWornOfAll.j4 k x3 x4 x5 x6 x7 x8 x9 x10 x11)) else (some false))) else (laws_FnStepsWornOfAll.j4 k x3 x4 x5 x6 x7 x8 x9 x10 x11))
end
def laws_FnStepsWornOfAll.f (k : Nat) (l0 : List Int) (a1 : Int) (l2 : List Int) (l3 : List Int) (a4 : Int) (l5 : List Int) (a6 : Int) (l7 : List (List Int)) (l8 : List Int) (a9 : Int) (a10 : Int) (a11 : ByteArray) : Option (Bool) := if (l0.length : Int) > 10000 then (laws_FnStepsWornOfAll.j0 k l0 a1 l2 l3 a4 l5 a6 l7 l8 a9 a10 a11 true) else (if (l2.length : Int) > 10000 then (laws_FnStepsWornOfAll.j0 k l0 a1 l2 l3 a4 l5 a6 l7 l8 a9 a10 a11 true) else (if (l3.length : Int) > 10000 then (laws_FnStepsWornOfAll.j0 k l0 a1 l2 l3 a4 l5 a6 l7 l8 a9 a10 a11 true) else (if (l5.length : Int) > 10000 then (laws_FnStepsWornOfAll.j0 k l0 a1 l2 l3 a4 l5 a6 l7 l8 a9 a10 a11 true) else (if (l7.length : Int) > 10000 then (laws_FnStepsWornOfAll.j0 k l0 a1 l2 l3 a4 l5 a6 l7 l8 a9 a10 a11 true) else (if (l8.length : Int) > 10000 then (laws_FnStepsWornOfAll.j0 k l0 a1 l2 l3 a4 l5 a6 l7 l8 a9 a10 a11 true) else (laws_FnStepsWornOfAll.j0 k l0 a1 l2 l3 a4 l5 a6 l7 l8 a9 a10 a11 (decide ((a11.size : Int) > 1048576))))))))
/-- What follows a statement. -/
def second_ : Code → Code
  | .seq _ b => b
  | c => c
/-- A function's text. -/
def body_ (f : Func) : Code :=
  match f.body with
  | some c => c
  | none => .skip
/-- The statement itself. -/
def first_ : Code → Code
  | .seq a _ => a
  | c => c
/-- What a slot behind the deciding one holds: 0: nothing, else: true. -/
def tlV : Nat → Value
  | 0 => undef
  | _ => .bool true
def tlAt (s : Nat) (done : List Nat) (n : Nat) : Option Nat := if s ≤ n then done[n - s]? else none
/-- One operation behind a deciding slot that holds true: it is passed over, or hands on true. -/
def tlStep (ops : Array Oper) (s : Nat) (o : Oper) (done : List Nat) (v : Nat) : Bool :=
  match o.guard with
  | some (j, b) => (v == 0) && (match (ops[j]?).bind (·.dst) with
    | some d => (match tlAt s done d with
      | some 0 => true
      | some _ => !b
      | none => false)
    | none => false)
  | none => (v == 1) && (match o.op with
    | .move (.tmp c) => tlAt s done c == some 1
    | .pick (.tmp c) (.const (.bool true)) _ => tlAt s done c == some 1
    | _ => false)
def tlOk (ops : Array Oper) (s : Nat) : List Oper → List Nat → List Nat → Bool
  | [], _, [] => true
  | o :: rest, done, v :: out => (o.dst == some (s + done.length)) && (tlStep ops s o done v && tlOk ops s rest (done ++ [v]) out)
  | _, _, _ => false
theorem tl_get {A bs : List Value} {done : List Nat} {s n v : Nat} (hA : A.length = s) (h : tlAt s done n = some v) : (A ++ done.map tlV ++ bs)[n]? = some (tlV v) := by
  unfold tlAt at h
  split at h
  · rename_i hs
    have hl : n - s < done.length := (List.getElem?_eq_some_iff.1 h).1
    rw [List.append_assoc, List.getElem?_append_right (by omega), List.getElem?_append_left (by rw [List.length_map, hA]; exact hl), hA, List.getElem?_map, h]
    rfl
  · cases h
theorem tl_set {A bs : List Value} {done : List Nat} {s : Nat} {b v : Value} (hA : A.length = s) : (A ++ done.map tlV ++ b :: bs).set (s + done.length) v = A ++ done.map tlV ++ v :: bs := by
  have : s + done.length = (A ++ done.map tlV).length := by simp [hA]
  rw [this, List.set_append_right _ _ (Nat.le_refl _), Nat.sub_self]
  rfl
theorem tl_run {P : Program} {Q : Exit → Act → World → Prop} {ds : List Deferred} {w : World} (ops : Array Oper) (s : Nat) (A : List Value) (hA : A.length = s) : ∀ (rest : List Oper) (done out : List Nat) (bs : List Value), tlOk ops s rest done out = true → rest.length ≤ bs.length →
    Q .normal ⟨(A ++ (done ++ out).map tlV ++ bs.drop rest.length).toArray, ds⟩ w → wpList P ops Q rest ⟨(A ++ done.map tlV ++ bs).toArray, ds⟩ w := by
  intro rest
  induction rest with
  | nil =>
    intro done out bs h _ hq
    cases out with
    | nil =>
      rw [List.append_nil] at hq
      exact hq
    | cons v out => cases h
  | cons o rest ih =>
    intro done out bs h hb hq
    cases out with
    | nil => cases h
    | cons v out =>
    cases bs with
    | nil => simp at hb
    | cons b bs =>
      simp only [tlOk, Bool.and_eq_true, beq_iff_eq] at h
      obtain ⟨hd, hs, hr⟩ := h
      have key : wpList P ops Q rest ⟨((A ++ done.map tlV ++ b :: bs).set (s + done.length) (tlV v)).toArray, ds⟩ w := by
        rw [tl_set hA]
        have := ih (done ++ [v]) out bs hr (by simpa using hb) (by
          rw [show done ++ [v] ++ out = done ++ (v :: out) by simp]
          exact hq)
        rw [List.map_append, List.map_singleton, List.append_assoc A, List.append_assoc, List.singleton_append] at this
        rw [List.append_assoc]
        exact this
      have hput : ∀ x : Value, (Act.put ⟨(A ++ done.map tlV ++ b :: bs).toArray, ds⟩ o.dst x) = ⟨((A ++ done.map tlV ++ b :: bs).set (s + done.length) x).toArray, ds⟩ := by
        intro x
        rw [hd]
        simp [Act.put]
      cases hg : o.guard with
      | some g =>
        obtain ⟨j, gb⟩ := g
        simp only [tlStep, hg, Bool.and_eq_true, beq_iff_eq] at hs
        obtain ⟨rfl, hs⟩ := hs
        have hw : Region.wanted o (yielded ops (A ++ done.map tlV ++ b :: bs).toArray) = false := by
          simp only [Region.wanted, hg, yielded]
          split at hs
          · rename_i d hd2
            rw [hd2]
            simp only [Option.bind_some, List.getElem?_toArray]
            split at hs
            · rename_i h0
              rw [tl_get hA h0]
              rfl
            · rename_i m hne h0
              rw [tl_get hA h0]
              cases m with
              | zero => exact absurd rfl (hne)
              | succ m =>
                cases gb with
                | true => cases hs
                | false => rfl
            · cases hs
          · cases hs
        unfold wpList
        simp only [hw, Bool.false_eq_true, if_false]
        rw [hput]
        exact key
      | none =>
        simp only [tlStep, hg, Bool.and_eq_true, beq_iff_eq] at hs
        obtain ⟨rfl, hs⟩ := hs
        have hw : Region.wanted o (yielded ops (A ++ done.map tlV ++ b :: bs).toArray) = true := by simp [Region.wanted, hg]
        unfold wpList
        simp only [hw, if_true]
        refine Or.inl ?_
        have hv : ∀ c, tlAt s done c = some 1 → Act.eval ⟨(A ++ done.map tlV ++ b :: bs).toArray, ds⟩ (.tmp c) = .bool true := by
          intro c hc
          have := tl_get (bs := b :: bs) hA hc
          simp only [Act.eval]
          rw [Array.getD_eq_getD_getElem?, List.getElem?_toArray, this]
          rfl
        unfold Oper.wp
        split at hs
        · rename_i c ho
          have he : (execOp (Act.eval ⟨(A ++ done.map tlV ++ b :: bs).toArray, ds⟩) o).run P w = .ok (.value (.bool true)) w := by
            simp only [execOp, ho]
            rw [hv c (by simpa using hs)]
            rfl
          rw [he]
          simp only [Oper.upon]
          rw [hput]
          exact key
        · rename_i c x ho
          have he : (execOp (Act.eval ⟨(A ++ done.map tlV ++ b :: bs).toArray, ds⟩) o).run P w = .ok (.value (.bool true)) w := by
            simp only [execOp, ho]
            rw [hv c (by simpa using hs)]
            rfl
          rw [he]
          simp only [Oper.upon]
          rw [hput]
          exact key
        · cases hs
/-- Behind a deciding slot that holds true: all that is left of a region, at once. -/
theorem tl_of {P : Program} {Q : Exit → Act → World → Prop} {ds : List Deferred} {w : World} {ops : Array Oper} {rest : List Oper} {L : List Value} (s : Nat) (out : List Nat) (h1 : L[s]? = some (.bool true)) (h2 : tlOk ops s rest [1] out = true) (h3 : Nat.ble (s + 1 + rest.length) L.length = true)
    (hq : Q .normal ⟨(L.take s ++ (1 :: out).map tlV ++ L.drop (s + 1 + rest.length)).toArray, ds⟩ w) : wpList P ops Q rest ⟨L.toArray, ds⟩ w := by
  have hl := Nat.le_of_ble_eq_true h3
  have e : L = L.take s ++ [1].map tlV ++ L.drop (s + 1) := by
    have := List.take_append_drop s L
    have h4 := List.drop_eq_getElem_cons (l := L) (i := s) (by omega)
    have h5 : L[s]'(by omega) = .bool true := by
      have := List.getElem?_eq_getElem (l := L) (i := s) (by omega)
      rw [h1] at this
      exact (Option.some.inj this).symm
    rw [h5] at h4
    rw [List.append_assoc]
    show L = L.take s ++ (tlV 1 :: L.drop (s + 1))
    show L = L.take s ++ (Value.bool true :: L.drop (s + 1))
    rw [← h4]
    exact this.symm
  have hd : (L.drop (s + 1)).drop rest.length = L.drop (s + 1 + rest.length) := by rw [List.drop_drop]
  have := tl_run (P := P) (Q := Q) (ds := ds) (w := w) ops s (L.take s) (by rw [List.length_take]; omega) rest [1] out (L.drop (s + 1)) h2 (by rw [List.length_drop]; omega) (by rw [hd]; exact hq)
  rw [← e] at this
  exact this
end Go.Proofs.YtmonnbbihmpedaaGreatDoor.PFnStepsWornOfAll
