/-
  No cell of these rows narrows 'for every input' (looked for: loops, veiled, ifaces, maps, wideKeys, modest, calm, conditions, laid).
  DERIVED. THE GIVEN ROWS OF THIS SEAT. 12 by the template 'for every input the law returns true; each argument reads behind the call as it read before'; 0 by the template 'total and deterministic' (their statements: YtoahaemnhgieoaaTotals.lean).
  GIVEN WITH THE SEED: the statements are not yours to turn. If you find one false, say at which input.
  Laid BY PROGRAM, IN A SANDBOX (cutbox-rows.mjs): the forced cells as the released guide's own fill.sh prints them over the translation e3e9350b24a2f8d8… (all of the seat's roots in one cut). By AI agents, Wed Nov 11 2026. No macro, syntax, notation, axiom, sorry.
-/
import Derived.Test.YtoahaemnhgieoaaChecked
import GoSem.Claim
import GoSem.ClaimJoined
import GoSem.ClaimMapViews
import Derived.JoinedTies
import Derived.KernelRfl
namespace Go.Proofs.Ytoahaemnhgieoaa
/- THE CELL 'sum', in the pinned program and in every row, IS THE sha256 OF THE DUMP (.gsa) THAT YtoahaemnhgieoaaProg.lean LOADS. Nothing in Lean hashes anything: it is a label: what it is worth is what the hold of that sum in a sandbox is worth. -/
noncomputable def Try.pinned : Pinned := { name := "ytoahaemnhgieoaa", sum := "e3e9350b24a2f8d8a0f29c98fc36d4c7628e7d5b748963b9b0cfb5671b0ea33b", checked := Try.checked }
namespace Rows
def none {H : Type} : Left H := { results := [], args := [] }

/-- 'laws.FnExactConstants': WHATEVER THE INPUT: true; the input reads as it did. -/
def fnExactConstantsSpec : ChangeSpec := { name := "fnExactConstants", fn := fun _ => fun
  | [] => { results := [.lit (.bool true)], args := [] }
  | _ => none }
def fnExactConstantsRow : OpenClaim := { program := "ytoahaemnhgieoaa", sum := "e3e9350b24a2f8d8a0f29c98fc36d4c7628e7d5b748963b9b0cfb5671b0ea33b", func := "loop.example/g01374/laws.FnExactConstants", spec := "fnExactConstants", apart := false }
def FnExactConstantsSaid : Prop := fnExactConstantsRow.holds Try.pinned (OpenSpec.ofChange fnExactConstantsSpec)

/-- ITS FALSE NEIGHBOUR: 'it returns false'. Refute it at one input. -/
def fnExactConstantsWrong : ChangeSpec := { name := "fnExactConstants", fn := fun _ => fun
  | [] => { results := [.lit (.bool false)], args := [] }
  | _ => none }
def FnExactConstantsWrongFalsely : Prop := fnExactConstantsRow.holds Try.pinned (OpenSpec.ofChange fnExactConstantsWrong)

/-- 'laws.FnExactIsMoving': WHATEVER THE INPUT: true; the input reads as it did. -/
def fnExactIsMovingSpec : ChangeSpec := { name := "fnExactIsMoving", fn := fun _ => fun
  | [d] => { results := [.lit (.bool true)], args := [d] }
  | _ => none }
def fnExactIsMovingRow : OpenClaim := { program := "ytoahaemnhgieoaa", sum := "e3e9350b24a2f8d8a0f29c98fc36d4c7628e7d5b748963b9b0cfb5671b0ea33b", func := "loop.example/g01374/laws.FnExactIsMoving", spec := "fnExactIsMoving", apart := false }
def FnExactIsMovingSaid : Prop := fnExactIsMovingRow.holds Try.pinned (OpenSpec.ofChange fnExactIsMovingSpec)

/-- ITS FALSE NEIGHBOUR: 'it returns false'. Refute it at one input. -/
def fnExactIsMovingWrong : ChangeSpec := { name := "fnExactIsMoving", fn := fun _ => fun
  | [d] => { results := [.lit (.bool false)], args := [d] }
  | _ => none }
def FnExactIsMovingWrongFalsely : Prop := fnExactIsMovingRow.holds Try.pinned (OpenSpec.ofChange fnExactIsMovingWrong)

/-- 'laws.FnExactPlaceAt': WHATEVER THE INPUT: true; the input reads as it did. -/
def fnExactPlaceAtSpec : ChangeSpec := { name := "fnExactPlaceAt", fn := fun _ => fun
  | [d1, d2, d3] => { results := [.lit (.bool true)], args := [d1, d2, d3] }
  | _ => none }
def fnExactPlaceAtRow : OpenClaim := { program := "ytoahaemnhgieoaa", sum := "e3e9350b24a2f8d8a0f29c98fc36d4c7628e7d5b748963b9b0cfb5671b0ea33b", func := "loop.example/g01374/laws.FnExactPlaceAt", spec := "fnExactPlaceAt", apart := false }
def FnExactPlaceAtSaid : Prop := fnExactPlaceAtRow.holds Try.pinned (OpenSpec.ofChange fnExactPlaceAtSpec)

/-- ITS FALSE NEIGHBOUR: 'it returns false'. Refute it at one input. -/
def fnExactPlaceAtWrong : ChangeSpec := { name := "fnExactPlaceAt", fn := fun _ => fun
  | [d1, d2, d3] => { results := [.lit (.bool false)], args := [d1, d2, d3] }
  | _ => none }
def FnExactPlaceAtWrongFalsely : Prop := fnExactPlaceAtRow.holds Try.pinned (OpenSpec.ofChange fnExactPlaceAtWrong)

/-- 'laws.FnExactVisibleFromBoth': WHATEVER THE INPUT: true; the input reads as it did. -/
def fnExactVisibleFromBothSpec : ChangeSpec := { name := "fnExactVisibleFromBoth", fn := fun _ => fun
  | [d1, d2, d3] => { results := [.lit (.bool true)], args := [d1, d2, d3] }
  | _ => none }
def fnExactVisibleFromBothRow : OpenClaim := { program := "ytoahaemnhgieoaa", sum := "e3e9350b24a2f8d8a0f29c98fc36d4c7628e7d5b748963b9b0cfb5671b0ea33b", func := "loop.example/g01374/laws.FnExactVisibleFromBoth", spec := "fnExactVisibleFromBoth", apart := false }
def FnExactVisibleFromBothSaid : Prop := fnExactVisibleFromBothRow.holds Try.pinned (OpenSpec.ofChange fnExactVisibleFromBothSpec)

/-- ITS FALSE NEIGHBOUR: 'it returns false'. Refute it at one input. -/
def fnExactVisibleFromBothWrong : ChangeSpec := { name := "fnExactVisibleFromBoth", fn := fun _ => fun
  | [d1, d2, d3] => { results := [.lit (.bool false)], args := [d1, d2, d3] }
  | _ => none }
def FnExactVisibleFromBothWrongFalsely : Prop := fnExactVisibleFromBothRow.holds Try.pinned (OpenSpec.ofChange fnExactVisibleFromBothWrong)

/-- 'laws.FnExactFullHouse': WHATEVER THE INPUT: true; the input reads as it did. -/
def fnExactFullHouseSpec : ChangeSpec := { name := "fnExactFullHouse", fn := fun _ => fun
  | [d1, d2] => { results := [.lit (.bool true)], args := [d1, d2] }
  | _ => none }
def fnExactFullHouseRow : OpenClaim := { program := "ytoahaemnhgieoaa", sum := "e3e9350b24a2f8d8a0f29c98fc36d4c7628e7d5b748963b9b0cfb5671b0ea33b", func := "loop.example/g01374/laws.FnExactFullHouse", spec := "fnExactFullHouse", apart := false }
def FnExactFullHouseSaid : Prop := fnExactFullHouseRow.holds Try.pinned (OpenSpec.ofChange fnExactFullHouseSpec)

/-- ITS FALSE NEIGHBOUR: 'it returns false'. Refute it at one input. -/
def fnExactFullHouseWrong : ChangeSpec := { name := "fnExactFullHouse", fn := fun _ => fun
  | [d1, d2] => { results := [.lit (.bool false)], args := [d1, d2] }
  | _ => none }
def FnExactFullHouseWrongFalsely : Prop := fnExactFullHouseRow.holds Try.pinned (OpenSpec.ofChange fnExactFullHouseWrong)

/-- 'laws.FnExactPaceForSteps': WHATEVER THE INPUT: true; the input reads as it did. -/
def fnExactPaceForStepsSpec : ChangeSpec := { name := "fnExactPaceForSteps", fn := fun _ => fun
  | [d1, d2] => { results := [.lit (.bool true)], args := [d1, d2] }
  | _ => none }
def fnExactPaceForStepsRow : OpenClaim := { program := "ytoahaemnhgieoaa", sum := "e3e9350b24a2f8d8a0f29c98fc36d4c7628e7d5b748963b9b0cfb5671b0ea33b", func := "loop.example/g01374/laws.FnExactPaceForSteps", spec := "fnExactPaceForSteps", apart := false }
def FnExactPaceForStepsSaid : Prop := fnExactPaceForStepsRow.holds Try.pinned (OpenSpec.ofChange fnExactPaceForStepsSpec)

/-- ITS FALSE NEIGHBOUR: 'it returns false'. Refute it at one input. -/
def fnExactPaceForStepsWrong : ChangeSpec := { name := "fnExactPaceForSteps", fn := fun _ => fun
  | [d1, d2] => { results := [.lit (.bool false)], args := [d1, d2] }
  | _ => none }
def FnExactPaceForStepsWrongFalsely : Prop := fnExactPaceForStepsRow.holds Try.pinned (OpenSpec.ofChange fnExactPaceForStepsWrong)

/-- 'laws.FnExactAreBears': WHATEVER THE INPUT: true; the input reads as it did. -/
def fnExactAreBearsSpec : ChangeSpec := { name := "fnExactAreBears", fn := fun _ => fun
  | [d] => { results := [.lit (.bool true)], args := [d] }
  | _ => none }
def fnExactAreBearsRow : OpenClaim := { program := "ytoahaemnhgieoaa", sum := "e3e9350b24a2f8d8a0f29c98fc36d4c7628e7d5b748963b9b0cfb5671b0ea33b", func := "loop.example/g01374/laws.FnExactAreBears", spec := "fnExactAreBears", unfollowed := true, recurses := true, apart := false }
def FnExactAreBearsSaid : Prop := fnExactAreBearsRow.holds Try.pinned (OpenSpec.ofChange fnExactAreBearsSpec)

/-- ITS FALSE NEIGHBOUR: 'it returns false'. Refute it at one input. -/
def fnExactAreBearsWrong : ChangeSpec := { name := "fnExactAreBears", fn := fun _ => fun
  | [d] => { results := [.lit (.bool false)], args := [d] }
  | _ => none }
def FnExactAreBearsWrongFalsely : Prop := fnExactAreBearsRow.holds Try.pinned (OpenSpec.ofChange fnExactAreBearsWrong)

/-- 'laws.FnExactMeetStep': WHATEVER THE INPUT: true; the input reads as it did. -/
def fnExactMeetStepSpec : ChangeSpec := { name := "fnExactMeetStep", fn := fun _ => fun
  | [d1, d2, d3] => { results := [.lit (.bool true)], args := [d1, d2, d3] }
  | _ => none }
def fnExactMeetStepRow : OpenClaim := { program := "ytoahaemnhgieoaa", sum := "e3e9350b24a2f8d8a0f29c98fc36d4c7628e7d5b748963b9b0cfb5671b0ea33b", func := "loop.example/g01374/laws.FnExactMeetStep", spec := "fnExactMeetStep", apart := false }
def FnExactMeetStepSaid : Prop := fnExactMeetStepRow.holds Try.pinned (OpenSpec.ofChange fnExactMeetStepSpec)

/-- ITS FALSE NEIGHBOUR: 'it returns false'. Refute it at one input. -/
def fnExactMeetStepWrong : ChangeSpec := { name := "fnExactMeetStep", fn := fun _ => fun
  | [d1, d2, d3] => { results := [.lit (.bool false)], args := [d1, d2, d3] }
  | _ => none }
def FnExactMeetStepWrongFalsely : Prop := fnExactMeetStepRow.holds Try.pinned (OpenSpec.ofChange fnExactMeetStepWrong)

/-- 'laws.FnExactMeetTime': WHATEVER THE INPUT: true; the input reads as it did. -/
def fnExactMeetTimeSpec : ChangeSpec := { name := "fnExactMeetTime", fn := fun _ => fun
  | [d1, d2, d3] => { results := [.lit (.bool true)], args := [d1, d2, d3] }
  | _ => none }
def fnExactMeetTimeRow : OpenClaim := { program := "ytoahaemnhgieoaa", sum := "e3e9350b24a2f8d8a0f29c98fc36d4c7628e7d5b748963b9b0cfb5671b0ea33b", func := "loop.example/g01374/laws.FnExactMeetTime", spec := "fnExactMeetTime", apart := false }
def FnExactMeetTimeSaid : Prop := fnExactMeetTimeRow.holds Try.pinned (OpenSpec.ofChange fnExactMeetTimeSpec)

/-- ITS FALSE NEIGHBOUR: 'it returns false'. Refute it at one input. -/
def fnExactMeetTimeWrong : ChangeSpec := { name := "fnExactMeetTime", fn := fun _ => fun
  | [d1, d2, d3] => { results := [.lit (.bool false)], args := [d1, d2, d3] }
  | _ => none }
def FnExactMeetTimeWrongFalsely : Prop := fnExactMeetTimeRow.holds Try.pinned (OpenSpec.ofChange fnExactMeetTimeWrong)

/-- 'laws.FnExactRailLead': WHATEVER THE INPUT: true; the input reads as it did. -/
def fnExactRailLeadSpec : ChangeSpec := { name := "fnExactRailLead", fn := fun _ => fun
  | [d1, d2, d3] => { results := [.lit (.bool true)], args := [d1, d2, d3] }
  | _ => none }
def fnExactRailLeadRow : OpenClaim := { program := "ytoahaemnhgieoaa", sum := "e3e9350b24a2f8d8a0f29c98fc36d4c7628e7d5b748963b9b0cfb5671b0ea33b", func := "loop.example/g01374/laws.FnExactRailLead", spec := "fnExactRailLead", apart := false }
def FnExactRailLeadSaid : Prop := fnExactRailLeadRow.holds Try.pinned (OpenSpec.ofChange fnExactRailLeadSpec)

/-- ITS FALSE NEIGHBOUR: 'it returns false'. Refute it at one input. -/
def fnExactRailLeadWrong : ChangeSpec := { name := "fnExactRailLead", fn := fun _ => fun
  | [d1, d2, d3] => { results := [.lit (.bool false)], args := [d1, d2, d3] }
  | _ => none }
def FnExactRailLeadWrongFalsely : Prop := fnExactRailLeadRow.holds Try.pinned (OpenSpec.ofChange fnExactRailLeadWrong)

/-- 'laws.FnExactRoundTrip': WHATEVER THE INPUT: true; the input reads as it did. -/
def fnExactRoundTripSpec : ChangeSpec := { name := "fnExactRoundTrip", fn := fun _ => fun
  | [d1, d2] => { results := [.lit (.bool true)], args := [d1, d2] }
  | _ => none }
def fnExactRoundTripRow : OpenClaim := { program := "ytoahaemnhgieoaa", sum := "e3e9350b24a2f8d8a0f29c98fc36d4c7628e7d5b748963b9b0cfb5671b0ea33b", func := "loop.example/g01374/laws.FnExactRoundTrip", spec := "fnExactRoundTrip", apart := false }
def FnExactRoundTripSaid : Prop := fnExactRoundTripRow.holds Try.pinned (OpenSpec.ofChange fnExactRoundTripSpec)

/-- ITS FALSE NEIGHBOUR: 'it returns false'. Refute it at one input. -/
def fnExactRoundTripWrong : ChangeSpec := { name := "fnExactRoundTrip", fn := fun _ => fun
  | [d1, d2] => { results := [.lit (.bool false)], args := [d1, d2] }
  | _ => none }
def FnExactRoundTripWrongFalsely : Prop := fnExactRoundTripRow.holds Try.pinned (OpenSpec.ofChange fnExactRoundTripWrong)

/-- 'laws.FnExactStepsAgainst': WHATEVER THE INPUT: true; the input reads as it did. -/
def fnExactStepsAgainstSpec : ChangeSpec := { name := "fnExactStepsAgainst", fn := fun _ => fun
  | [d1, d2] => { results := [.lit (.bool true)], args := [d1, d2] }
  | _ => none }
def fnExactStepsAgainstRow : OpenClaim := { program := "ytoahaemnhgieoaa", sum := "e3e9350b24a2f8d8a0f29c98fc36d4c7628e7d5b748963b9b0cfb5671b0ea33b", func := "loop.example/g01374/laws.FnExactStepsAgainst", spec := "fnExactStepsAgainst", apart := false }
def FnExactStepsAgainstSaid : Prop := fnExactStepsAgainstRow.holds Try.pinned (OpenSpec.ofChange fnExactStepsAgainstSpec)

/-- ITS FALSE NEIGHBOUR: 'it returns false'. Refute it at one input. -/
def fnExactStepsAgainstWrong : ChangeSpec := { name := "fnExactStepsAgainst", fn := fun _ => fun
  | [d1, d2] => { results := [.lit (.bool false)], args := [d1, d2] }
  | _ => none }
def FnExactStepsAgainstWrongFalsely : Prop := fnExactStepsAgainstRow.holds Try.pinned (OpenSpec.ofChange fnExactStepsAgainstWrong)

/- THE SECOND FORM. 'bulk': how many values and letters a reading holds, each counted each time it is reached (what is shared counts as often as it is met; a slice's spare places count too). A statement '..UptoSaid' is the law's where the arguments, and the package variables that the reading takes, are together of bulk at most 1048576: NARROWER than '..Said'. Prove '..Said' where nothing that the law and all that it calls make is longer than what came in: it says more and counts as full. Else prove '..UptoSaid'. A law counts once. -/
mutual
def uptoBulk {H : Type} : DataW H → Nat
  | .lit (.string bytes) => bytes.length + 1
  | .lit _ => 1
  | .nil => 1
  | .ptr d => uptoBulk d + 1
  | .slice elems spare => uptoBulkAll elems + uptoBulkAll spare + 1
  | .agg parts => uptoBulkAll parts + 1
  | .iface _ d => uptoBulk d + 1
  | .map entries => uptoBulkEntries entries + 1
  | .held _ => 1
def uptoBulkAll {H : Type} : List (DataW H) → Nat
  | [] => 0
  | d :: r => uptoBulk d + uptoBulkAll r
def uptoBulkEntries {H : Type} : List (Lit × DataW H) → Nat
  | [] => 0
  | x :: r => uptoBulkEntry x + uptoBulkEntries r
def uptoBulkEntry {H : Type} : Lit × DataW H → Nat
  | (.string bytes, d) => bytes.length + uptoBulk d + 1
  | (_, d) => uptoBulk d + 1
 end
def uptoSmall : (H : Type) → List (DataW H) → Bool := fun _ ds => decide (uptoBulkAll ds ≤ 1048576)
def OpenSpec.upto (s : _root_.Go.ChangeSpec) : _root_.Go.OpenSpec := { _root_.Go.OpenSpec.ofChange s with cond := some uptoSmall }

/-- 'laws.FnExactConstants', WHERE WHAT IT READS IS OF BULK AT MOST 1048576: true; the input reads as it did. -/
def fnExactConstantsUptoRow : OpenClaim := { program := "ytoahaemnhgieoaa", sum := "e3e9350b24a2f8d8a0f29c98fc36d4c7628e7d5b748963b9b0cfb5671b0ea33b", func := "loop.example/g01374/laws.FnExactConstants", spec := "fnExactConstants", apart := false, narrowed := true }
def FnExactConstantsUptoSaid : Prop := fnExactConstantsUptoRow.holds Try.pinned (OpenSpec.upto fnExactConstantsSpec)

/-- 'laws.FnExactIsMoving', WHERE WHAT IT READS IS OF BULK AT MOST 1048576: true; the input reads as it did. -/
def fnExactIsMovingUptoRow : OpenClaim := { program := "ytoahaemnhgieoaa", sum := "e3e9350b24a2f8d8a0f29c98fc36d4c7628e7d5b748963b9b0cfb5671b0ea33b", func := "loop.example/g01374/laws.FnExactIsMoving", spec := "fnExactIsMoving", apart := false, narrowed := true }
def FnExactIsMovingUptoSaid : Prop := fnExactIsMovingUptoRow.holds Try.pinned (OpenSpec.upto fnExactIsMovingSpec)

/-- 'laws.FnExactPlaceAt', WHERE WHAT IT READS IS OF BULK AT MOST 1048576: true; the input reads as it did. -/
def fnExactPlaceAtUptoRow : OpenClaim := { program := "ytoahaemnhgieoaa", sum := "e3e9350b24a2f8d8a0f29c98fc36d4c7628e7d5b748963b9b0cfb5671b0ea33b", func := "loop.example/g01374/laws.FnExactPlaceAt", spec := "fnExactPlaceAt", apart := false, narrowed := true }
def FnExactPlaceAtUptoSaid : Prop := fnExactPlaceAtUptoRow.holds Try.pinned (OpenSpec.upto fnExactPlaceAtSpec)

/-- 'laws.FnExactVisibleFromBoth', WHERE WHAT IT READS IS OF BULK AT MOST 1048576: true; the input reads as it did. -/
def fnExactVisibleFromBothUptoRow : OpenClaim := { program := "ytoahaemnhgieoaa", sum := "e3e9350b24a2f8d8a0f29c98fc36d4c7628e7d5b748963b9b0cfb5671b0ea33b", func := "loop.example/g01374/laws.FnExactVisibleFromBoth", spec := "fnExactVisibleFromBoth", apart := false, narrowed := true }
def FnExactVisibleFromBothUptoSaid : Prop := fnExactVisibleFromBothUptoRow.holds Try.pinned (OpenSpec.upto fnExactVisibleFromBothSpec)

/-- 'laws.FnExactFullHouse', WHERE WHAT IT READS IS OF BULK AT MOST 1048576: true; the input reads as it did. -/
def fnExactFullHouseUptoRow : OpenClaim := { program := "ytoahaemnhgieoaa", sum := "e3e9350b24a2f8d8a0f29c98fc36d4c7628e7d5b748963b9b0cfb5671b0ea33b", func := "loop.example/g01374/laws.FnExactFullHouse", spec := "fnExactFullHouse", apart := false, narrowed := true }
def FnExactFullHouseUptoSaid : Prop := fnExactFullHouseUptoRow.holds Try.pinned (OpenSpec.upto fnExactFullHouseSpec)

/-- 'laws.FnExactPaceForSteps', WHERE WHAT IT READS IS OF BULK AT MOST 1048576: true; the input reads as it did. -/
def fnExactPaceForStepsUptoRow : OpenClaim := { program := "ytoahaemnhgieoaa", sum := "e3e9350b24a2f8d8a0f29c98fc36d4c7628e7d5b748963b9b0cfb5671b0ea33b", func := "loop.example/g01374/laws.FnExactPaceForSteps", spec := "fnExactPaceForSteps", apart := false, narrowed := true }
def FnExactPaceForStepsUptoSaid : Prop := fnExactPaceForStepsUptoRow.holds Try.pinned (OpenSpec.upto fnExactPaceForStepsSpec)

/-- 'laws.FnExactAreBears', WHERE WHAT IT READS IS OF BULK AT MOST 1048576: true; the input reads as it did. -/
def fnExactAreBearsUptoRow : OpenClaim := { program := "ytoahaemnhgieoaa", sum := "e3e9350b24a2f8d8a0f29c98fc36d4c7628e7d5b748963b9b0cfb5671b0ea33b", func := "loop.example/g01374/laws.FnExactAreBears", spec := "fnExactAreBears", unfollowed := true, recurses := true, apart := false, narrowed := true }
def FnExactAreBearsUptoSaid : Prop := fnExactAreBearsUptoRow.holds Try.pinned (OpenSpec.upto fnExactAreBearsSpec)

/-- 'laws.FnExactMeetStep', WHERE WHAT IT READS IS OF BULK AT MOST 1048576: true; the input reads as it did. -/
def fnExactMeetStepUptoRow : OpenClaim := { program := "ytoahaemnhgieoaa", sum := "e3e9350b24a2f8d8a0f29c98fc36d4c7628e7d5b748963b9b0cfb5671b0ea33b", func := "loop.example/g01374/laws.FnExactMeetStep", spec := "fnExactMeetStep", apart := false, narrowed := true }
def FnExactMeetStepUptoSaid : Prop := fnExactMeetStepUptoRow.holds Try.pinned (OpenSpec.upto fnExactMeetStepSpec)

/-- 'laws.FnExactMeetTime', WHERE WHAT IT READS IS OF BULK AT MOST 1048576: true; the input reads as it did. -/
def fnExactMeetTimeUptoRow : OpenClaim := { program := "ytoahaemnhgieoaa", sum := "e3e9350b24a2f8d8a0f29c98fc36d4c7628e7d5b748963b9b0cfb5671b0ea33b", func := "loop.example/g01374/laws.FnExactMeetTime", spec := "fnExactMeetTime", apart := false, narrowed := true }
def FnExactMeetTimeUptoSaid : Prop := fnExactMeetTimeUptoRow.holds Try.pinned (OpenSpec.upto fnExactMeetTimeSpec)

/-- 'laws.FnExactRailLead', WHERE WHAT IT READS IS OF BULK AT MOST 1048576: true; the input reads as it did. -/
def fnExactRailLeadUptoRow : OpenClaim := { program := "ytoahaemnhgieoaa", sum := "e3e9350b24a2f8d8a0f29c98fc36d4c7628e7d5b748963b9b0cfb5671b0ea33b", func := "loop.example/g01374/laws.FnExactRailLead", spec := "fnExactRailLead", apart := false, narrowed := true }
def FnExactRailLeadUptoSaid : Prop := fnExactRailLeadUptoRow.holds Try.pinned (OpenSpec.upto fnExactRailLeadSpec)

/-- 'laws.FnExactRoundTrip', WHERE WHAT IT READS IS OF BULK AT MOST 1048576: true; the input reads as it did. -/
def fnExactRoundTripUptoRow : OpenClaim := { program := "ytoahaemnhgieoaa", sum := "e3e9350b24a2f8d8a0f29c98fc36d4c7628e7d5b748963b9b0cfb5671b0ea33b", func := "loop.example/g01374/laws.FnExactRoundTrip", spec := "fnExactRoundTrip", apart := false, narrowed := true }
def FnExactRoundTripUptoSaid : Prop := fnExactRoundTripUptoRow.holds Try.pinned (OpenSpec.upto fnExactRoundTripSpec)

/-- 'laws.FnExactStepsAgainst', WHERE WHAT IT READS IS OF BULK AT MOST 1048576: true; the input reads as it did. -/
def fnExactStepsAgainstUptoRow : OpenClaim := { program := "ytoahaemnhgieoaa", sum := "e3e9350b24a2f8d8a0f29c98fc36d4c7628e7d5b748963b9b0cfb5671b0ea33b", func := "loop.example/g01374/laws.FnExactStepsAgainst", spec := "fnExactStepsAgainst", apart := false, narrowed := true }
def FnExactStepsAgainstUptoSaid : Prop := fnExactStepsAgainstUptoRow.holds Try.pinned (OpenSpec.upto fnExactStepsAgainstSpec)

end Rows
end Go.Proofs.Ytoahaemnhgieoaa
