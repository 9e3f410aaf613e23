/-
  No cell of these rows narrows 'for every input' (looked for: loops, veiled, ifaces, maps, wideKeys, modest, calm, conditions, laid).
  DERIVED. THE GIVEN ROWS OF THIS SEAT. 12 by the template 'for every input the law returns true; each argument reads behind the call as it read before'; 0 by the template 'total and deterministic' (their statements: YtfmjkephbibddaaTotals.lean).
  GIVEN WITH THE SEED: the statements are not yours to turn. If you find one false, say at which input.
  Laid BY PROGRAM, IN A SANDBOX (cutbox-rows.mjs): the forced cells as the released guide's own fill.sh prints them over the translation 36ae9d946a2e0d03… (all of the seat's roots in one cut). By AI agents, Wed Nov 11 2026. No macro, syntax, notation, axiom, sorry.
-/
import Derived.Test.YtfmjkephbibddaaChecked
import GoSem.Claim
import GoSem.ClaimJoined
import GoSem.ClaimMapViews
import Derived.JoinedTies
import Derived.KernelRfl
namespace Go.Proofs.Ytfmjkephbibddaa
/- THE CELL 'sum', in the pinned program and in every row, IS THE sha256 OF THE DUMP (.gsa) THAT YtfmjkephbibddaaProg.lean LOADS. Nothing in Lean hashes anything: it is a label: what it is worth is what the hold of that sum in a sandbox is worth. -/
noncomputable def Try.pinned : Pinned := { name := "ytfmjkephbibddaa", sum := "36ae9d946a2e0d03b415f495596bc5a2e4005a8aa13db682d652f3a125634043", checked := Try.checked }
namespace Rows
def none {H : Type} : Left H := { results := [], args := [] }

/-- 'laws.FnExactMendSum': WHATEVER THE INPUT: true; the input reads as it did. -/
def fnExactMendSumSpec : ChangeSpec := { name := "fnExactMendSum", fn := fun _ => fun
  | [d1, d2, d3] => { results := [.lit (.bool true)], args := [d1, d2, d3] }
  | _ => none }
def fnExactMendSumRow : OpenClaim := { program := "ytfmjkephbibddaa", sum := "36ae9d946a2e0d03b415f495596bc5a2e4005a8aa13db682d652f3a125634043", func := "loop.example/g01374/laws.FnExactMendSum", spec := "fnExactMendSum", unfollowed := true, recurses := true, apart := false }
def FnExactMendSumSaid : Prop := fnExactMendSumRow.holds Try.pinned (OpenSpec.ofChange fnExactMendSumSpec)

/-- ITS FALSE NEIGHBOUR: 'it returns false'. Refute it at one input. -/
def fnExactMendSumWrong : ChangeSpec := { name := "fnExactMendSum", fn := fun _ => fun
  | [d1, d2, d3] => { results := [.lit (.bool false)], args := [d1, d2, d3] }
  | _ => none }
def FnExactMendSumWrongFalsely : Prop := fnExactMendSumRow.holds Try.pinned (OpenSpec.ofChange fnExactMendSumWrong)

/-- 'laws.FnExactMostWears': WHATEVER THE INPUT: true; the input reads as it did. -/
def fnExactMostWearsSpec : ChangeSpec := { name := "fnExactMostWears", fn := fun _ => fun
  | [d1, d2] => { results := [.lit (.bool true)], args := [d1, d2] }
  | _ => none }
def fnExactMostWearsRow : OpenClaim := { program := "ytfmjkephbibddaa", sum := "36ae9d946a2e0d03b415f495596bc5a2e4005a8aa13db682d652f3a125634043", func := "loop.example/g01374/laws.FnExactMostWears", spec := "fnExactMostWears", unfollowed := true, recurses := true, apart := false }
def FnExactMostWearsSaid : Prop := fnExactMostWearsRow.holds Try.pinned (OpenSpec.ofChange fnExactMostWearsSpec)

/-- ITS FALSE NEIGHBOUR: 'it returns false'. Refute it at one input. -/
def fnExactMostWearsWrong : ChangeSpec := { name := "fnExactMostWears", fn := fun _ => fun
  | [d1, d2] => { results := [.lit (.bool false)], args := [d1, d2] }
  | _ => none }
def FnExactMostWearsWrongFalsely : Prop := fnExactMostWearsRow.holds Try.pinned (OpenSpec.ofChange fnExactMostWearsWrong)

/-- 'laws.FnExactDaysOfWear': WHATEVER THE INPUT: true; the input reads as it did. -/
def fnExactDaysOfWearSpec : ChangeSpec := { name := "fnExactDaysOfWear", fn := fun _ => fun
  | [d1, d2, d3] => { results := [.lit (.bool true)], args := [d1, d2, d3] }
  | _ => none }
def fnExactDaysOfWearRow : OpenClaim := { program := "ytfmjkephbibddaa", sum := "36ae9d946a2e0d03b415f495596bc5a2e4005a8aa13db682d652f3a125634043", func := "loop.example/g01374/laws.FnExactDaysOfWear", spec := "fnExactDaysOfWear", unfollowed := true, recurses := true, apart := false }
def FnExactDaysOfWearSaid : Prop := fnExactDaysOfWearRow.holds Try.pinned (OpenSpec.ofChange fnExactDaysOfWearSpec)

/-- ITS FALSE NEIGHBOUR: 'it returns false'. Refute it at one input. -/
def fnExactDaysOfWearWrong : ChangeSpec := { name := "fnExactDaysOfWear", fn := fun _ => fun
  | [d1, d2, d3] => { results := [.lit (.bool false)], args := [d1, d2, d3] }
  | _ => none }
def FnExactDaysOfWearWrongFalsely : Prop := fnExactDaysOfWearRow.holds Try.pinned (OpenSpec.ofChange fnExactDaysOfWearWrong)

/-- 'laws.FnExactReachForWears': WHATEVER THE INPUT: true; the input reads as it did. -/
def fnExactReachForWearsSpec : ChangeSpec := { name := "fnExactReachForWears", fn := fun _ => fun
  | [d1, d2] => { results := [.lit (.bool true)], args := [d1, d2] }
  | _ => none }
def fnExactReachForWearsRow : OpenClaim := { program := "ytfmjkephbibddaa", sum := "36ae9d946a2e0d03b415f495596bc5a2e4005a8aa13db682d652f3a125634043", func := "loop.example/g01374/laws.FnExactReachForWears", spec := "fnExactReachForWears", unfollowed := true, recurses := true, apart := false }
def FnExactReachForWearsSaid : Prop := fnExactReachForWearsRow.holds Try.pinned (OpenSpec.ofChange fnExactReachForWearsSpec)

/-- ITS FALSE NEIGHBOUR: 'it returns false'. Refute it at one input. -/
def fnExactReachForWearsWrong : ChangeSpec := { name := "fnExactReachForWears", fn := fun _ => fun
  | [d1, d2] => { results := [.lit (.bool false)], args := [d1, d2] }
  | _ => none }
def FnExactReachForWearsWrongFalsely : Prop := fnExactReachForWearsRow.holds Try.pinned (OpenSpec.ofChange fnExactReachForWearsWrong)

/-- 'laws.FnExactLateMend': WHATEVER THE INPUT: true; the input reads as it did. -/
def fnExactLateMendSpec : ChangeSpec := { name := "fnExactLateMend", fn := fun _ => fun
  | [d1, d2, d3] => { results := [.lit (.bool true)], args := [d1, d2, d3] }
  | _ => none }
def fnExactLateMendRow : OpenClaim := { program := "ytfmjkephbibddaa", sum := "36ae9d946a2e0d03b415f495596bc5a2e4005a8aa13db682d652f3a125634043", func := "loop.example/g01374/laws.FnExactLateMend", spec := "fnExactLateMend", unfollowed := true, recurses := true, apart := false }
def FnExactLateMendSaid : Prop := fnExactLateMendRow.holds Try.pinned (OpenSpec.ofChange fnExactLateMendSpec)

/-- ITS FALSE NEIGHBOUR: 'it returns false'. Refute it at one input. -/
def fnExactLateMendWrong : ChangeSpec := { name := "fnExactLateMend", fn := fun _ => fun
  | [d1, d2, d3] => { results := [.lit (.bool false)], args := [d1, d2, d3] }
  | _ => none }
def FnExactLateMendWrongFalsely : Prop := fnExactLateMendRow.holds Try.pinned (OpenSpec.ofChange fnExactLateMendWrong)

/-- 'laws.FnExactWeakestPart': WHATEVER THE INPUT: true; the input reads as it did. -/
def fnExactWeakestPartSpec : ChangeSpec := { name := "fnExactWeakestPart", fn := fun _ => fun
  | [d1, d2] => { results := [.lit (.bool true)], args := [d1, d2] }
  | _ => none }
def fnExactWeakestPartRow : OpenClaim := { program := "ytfmjkephbibddaa", sum := "36ae9d946a2e0d03b415f495596bc5a2e4005a8aa13db682d652f3a125634043", func := "loop.example/g01374/laws.FnExactWeakestPart", spec := "fnExactWeakestPart", unfollowed := true, recurses := true, apart := false }
def FnExactWeakestPartSaid : Prop := fnExactWeakestPartRow.holds Try.pinned (OpenSpec.ofChange fnExactWeakestPartSpec)

/-- ITS FALSE NEIGHBOUR: 'it returns false'. Refute it at one input. -/
def fnExactWeakestPartWrong : ChangeSpec := { name := "fnExactWeakestPart", fn := fun _ => fun
  | [d1, d2] => { results := [.lit (.bool false)], args := [d1, d2] }
  | _ => none }
def FnExactWeakestPartWrongFalsely : Prop := fnExactWeakestPartRow.holds Try.pinned (OpenSpec.ofChange fnExactWeakestPartWrong)

/-- 'laws.FnExactWearBy': WHATEVER THE INPUT: true; the input reads as it did. -/
def fnExactWearBySpec : ChangeSpec := { name := "fnExactWearBy", fn := fun _ => fun
  | [d1, d2, d3] => { results := [.lit (.bool true)], args := [d1, d2, d3] }
  | _ => none }
def fnExactWearByRow : OpenClaim := { program := "ytfmjkephbibddaa", sum := "36ae9d946a2e0d03b415f495596bc5a2e4005a8aa13db682d652f3a125634043", func := "loop.example/g01374/laws.FnExactWearBy", spec := "fnExactWearBy", unfollowed := true, recurses := true, apart := false }
def FnExactWearBySaid : Prop := fnExactWearByRow.holds Try.pinned (OpenSpec.ofChange fnExactWearBySpec)

/-- ITS FALSE NEIGHBOUR: 'it returns false'. Refute it at one input. -/
def fnExactWearByWrong : ChangeSpec := { name := "fnExactWearBy", fn := fun _ => fun
  | [d1, d2, d3] => { results := [.lit (.bool false)], args := [d1, d2, d3] }
  | _ => none }
def FnExactWearByWrongFalsely : Prop := fnExactWearByRow.holds Try.pinned (OpenSpec.ofChange fnExactWearByWrong)

/-- 'laws.FnExactWorstStepToLose': WHATEVER THE INPUT: true; the input reads as it did. -/
def fnExactWorstStepToLoseSpec : ChangeSpec := { name := "fnExactWorstStepToLose", fn := fun _ => fun
  | [d1, d2] => { results := [.lit (.bool true)], args := [d1, d2] }
  | _ => none }
def fnExactWorstStepToLoseRow : OpenClaim := { program := "ytfmjkephbibddaa", sum := "36ae9d946a2e0d03b415f495596bc5a2e4005a8aa13db682d652f3a125634043", func := "loop.example/g01374/laws.FnExactWorstStepToLose", spec := "fnExactWorstStepToLose", unfollowed := true, recurses := true, apart := false }
def FnExactWorstStepToLoseSaid : Prop := fnExactWorstStepToLoseRow.holds Try.pinned (OpenSpec.ofChange fnExactWorstStepToLoseSpec)

/-- ITS FALSE NEIGHBOUR: 'it returns false'. Refute it at one input. -/
def fnExactWorstStepToLoseWrong : ChangeSpec := { name := "fnExactWorstStepToLose", fn := fun _ => fun
  | [d1, d2] => { results := [.lit (.bool false)], args := [d1, d2] }
  | _ => none }
def FnExactWorstStepToLoseWrongFalsely : Prop := fnExactWorstStepToLoseRow.holds Try.pinned (OpenSpec.ofChange fnExactWorstStepToLoseWrong)

/-- 'laws.FnExactCountWearClimbs': WHATEVER THE INPUT: true; the input reads as it did. -/
def fnExactCountWearClimbsSpec : ChangeSpec := { name := "fnExactCountWearClimbs", fn := fun _ => fun
  | [d1, d2] => { results := [.lit (.bool true)], args := [d1, d2] }
  | _ => none }
def fnExactCountWearClimbsRow : OpenClaim := { program := "ytfmjkephbibddaa", sum := "36ae9d946a2e0d03b415f495596bc5a2e4005a8aa13db682d652f3a125634043", func := "loop.example/g01374/laws.FnExactCountWearClimbs", spec := "fnExactCountWearClimbs", unfollowed := true, recurses := true, apart := false }
def FnExactCountWearClimbsSaid : Prop := fnExactCountWearClimbsRow.holds Try.pinned (OpenSpec.ofChange fnExactCountWearClimbsSpec)

/-- ITS FALSE NEIGHBOUR: 'it returns false'. Refute it at one input. -/
def fnExactCountWearClimbsWrong : ChangeSpec := { name := "fnExactCountWearClimbs", fn := fun _ => fun
  | [d1, d2] => { results := [.lit (.bool false)], args := [d1, d2] }
  | _ => none }
def FnExactCountWearClimbsWrongFalsely : Prop := fnExactCountWearClimbsRow.holds Try.pinned (OpenSpec.ofChange fnExactCountWearClimbsWrong)

/-- 'laws.FnExactIdleBears': WHATEVER THE INPUT: true; the input reads as it did. -/
def fnExactIdleBearsSpec : ChangeSpec := { name := "fnExactIdleBears", fn := fun _ => fun
  | [d1, d2] => { results := [.lit (.bool true)], args := [d1, d2] }
  | _ => none }
def fnExactIdleBearsRow : OpenClaim := { program := "ytfmjkephbibddaa", sum := "36ae9d946a2e0d03b415f495596bc5a2e4005a8aa13db682d652f3a125634043", func := "loop.example/g01374/laws.FnExactIdleBears", spec := "fnExactIdleBears", unfollowed := true, recurses := true, apart := false }
def FnExactIdleBearsSaid : Prop := fnExactIdleBearsRow.holds Try.pinned (OpenSpec.ofChange fnExactIdleBearsSpec)

/-- ITS FALSE NEIGHBOUR: 'it returns false'. Refute it at one input. -/
def fnExactIdleBearsWrong : ChangeSpec := { name := "fnExactIdleBears", fn := fun _ => fun
  | [d1, d2] => { results := [.lit (.bool false)], args := [d1, d2] }
  | _ => none }
def FnExactIdleBearsWrongFalsely : Prop := fnExactIdleBearsRow.holds Try.pinned (OpenSpec.ofChange fnExactIdleBearsWrong)

/-- 'laws.FnExactFewestOnWear': WHATEVER THE INPUT: true; the input reads as it did. -/
def fnExactFewestOnWearSpec : ChangeSpec := { name := "fnExactFewestOnWear", fn := fun _ => fun
  | [d1, d2] => { results := [.lit (.bool true)], args := [d1, d2] }
  | _ => none }
def fnExactFewestOnWearRow : OpenClaim := { program := "ytfmjkephbibddaa", sum := "36ae9d946a2e0d03b415f495596bc5a2e4005a8aa13db682d652f3a125634043", func := "loop.example/g01374/laws.FnExactFewestOnWear", spec := "fnExactFewestOnWear", unfollowed := true, recurses := true, apart := false }
def FnExactFewestOnWearSaid : Prop := fnExactFewestOnWearRow.holds Try.pinned (OpenSpec.ofChange fnExactFewestOnWearSpec)

/-- ITS FALSE NEIGHBOUR: 'it returns false'. Refute it at one input. -/
def fnExactFewestOnWearWrong : ChangeSpec := { name := "fnExactFewestOnWear", fn := fun _ => fun
  | [d1, d2] => { results := [.lit (.bool false)], args := [d1, d2] }
  | _ => none }
def FnExactFewestOnWearWrongFalsely : Prop := fnExactFewestOnWearRow.holds Try.pinned (OpenSpec.ofChange fnExactFewestOnWearWrong)

/-- 'laws.FnExactWearAll': WHATEVER THE INPUT: true; the input reads as it did. -/
def fnExactWearAllSpec : ChangeSpec := { name := "fnExactWearAll", fn := fun _ => fun
  | [d1, d2, d3] => { results := [.lit (.bool true)], args := [d1, d2, d3] }
  | _ => none }
def fnExactWearAllRow : OpenClaim := { program := "ytfmjkephbibddaa", sum := "36ae9d946a2e0d03b415f495596bc5a2e4005a8aa13db682d652f3a125634043", func := "loop.example/g01374/laws.FnExactWearAll", spec := "fnExactWearAll", unfollowed := true, recurses := true, apart := false }
def FnExactWearAllSaid : Prop := fnExactWearAllRow.holds Try.pinned (OpenSpec.ofChange fnExactWearAllSpec)

/-- ITS FALSE NEIGHBOUR: 'it returns false'. Refute it at one input. -/
def fnExactWearAllWrong : ChangeSpec := { name := "fnExactWearAll", fn := fun _ => fun
  | [d1, d2, d3] => { results := [.lit (.bool false)], args := [d1, d2, d3] }
  | _ => none }
def FnExactWearAllWrongFalsely : Prop := fnExactWearAllRow.holds Try.pinned (OpenSpec.ofChange fnExactWearAllWrong)

/- THE SECOND FORM. 'bulk': how many values and letters a reading holds, each counted each time it is reached (what is shared counts as often as it is met; a slice's spare places count too). A statement '..UptoSaid' is the law's where the arguments, and the package variables that the reading takes, are together of bulk at most 1048576: NARROWER than '..Said'. Prove '..Said' where nothing that the law and all that it calls make is longer than what came in: it says more and counts as full. Else prove '..UptoSaid'. A law counts once. -/
mutual
def uptoBulk {H : Type} : DataW H → Nat
  | .lit (.string bytes) => bytes.length + 1
  | .lit _ => 1
  | .nil => 1
  | .ptr d => uptoBulk d + 1
  | .slice elems spare => uptoBulkAll elems + uptoBulkAll spare + 1
  | .agg parts => uptoBulkAll parts + 1
  | .iface _ d => uptoBulk d + 1
  | .map entries => uptoBulkEntries entries + 1
  | .held _ => 1
def uptoBulkAll {H : Type} : List (DataW H) → Nat
  | [] => 0
  | d :: r => uptoBulk d + uptoBulkAll r
def uptoBulkEntries {H : Type} : List (Lit × DataW H) → Nat
  | [] => 0
  | x :: r => uptoBulkEntry x + uptoBulkEntries r
def uptoBulkEntry {H : Type} : Lit × DataW H → Nat
  | (.string bytes, d) => bytes.length + uptoBulk d + 1
  | (_, d) => uptoBulk d + 1
 end
def uptoSmall : (H : Type) → List (DataW H) → Bool := fun _ ds => decide (uptoBulkAll ds ≤ 1048576)
def OpenSpec.upto (s : _root_.Go.ChangeSpec) : _root_.Go.OpenSpec := { _root_.Go.OpenSpec.ofChange s with cond := some uptoSmall }

/-- 'laws.FnExactMendSum', WHERE WHAT IT READS IS OF BULK AT MOST 1048576: true; the input reads as it did. -/
def fnExactMendSumUptoRow : OpenClaim := { program := "ytfmjkephbibddaa", sum := "36ae9d946a2e0d03b415f495596bc5a2e4005a8aa13db682d652f3a125634043", func := "loop.example/g01374/laws.FnExactMendSum", spec := "fnExactMendSum", unfollowed := true, recurses := true, apart := false, narrowed := true }
def FnExactMendSumUptoSaid : Prop := fnExactMendSumUptoRow.holds Try.pinned (OpenSpec.upto fnExactMendSumSpec)

/-- 'laws.FnExactMostWears', WHERE WHAT IT READS IS OF BULK AT MOST 1048576: true; the input reads as it did. -/
def fnExactMostWearsUptoRow : OpenClaim := { program := "ytfmjkephbibddaa", sum := "36ae9d946a2e0d03b415f495596bc5a2e4005a8aa13db682d652f3a125634043", func := "loop.example/g01374/laws.FnExactMostWears", spec := "fnExactMostWears", unfollowed := true, recurses := true, apart := false, narrowed := true }
def FnExactMostWearsUptoSaid : Prop := fnExactMostWearsUptoRow.holds Try.pinned (OpenSpec.upto fnExactMostWearsSpec)

/-- 'laws.FnExactDaysOfWear', WHERE WHAT IT READS IS OF BULK AT MOST 1048576: true; the input reads as it did. -/
def fnExactDaysOfWearUptoRow : OpenClaim := { program := "ytfmjkephbibddaa", sum := "36ae9d946a2e0d03b415f495596bc5a2e4005a8aa13db682d652f3a125634043", func := "loop.example/g01374/laws.FnExactDaysOfWear", spec := "fnExactDaysOfWear", unfollowed := true, recurses := true, apart := false, narrowed := true }
def FnExactDaysOfWearUptoSaid : Prop := fnExactDaysOfWearUptoRow.holds Try.pinned (OpenSpec.upto fnExactDaysOfWearSpec)

/-- 'laws.FnExactReachForWears', WHERE WHAT IT READS IS OF BULK AT MOST 1048576: true; the input reads as it did. -/
def fnExactReachForWearsUptoRow : OpenClaim := { program := "ytfmjkephbibddaa", sum := "36ae9d946a2e0d03b415f495596bc5a2e4005a8aa13db682d652f3a125634043", func := "loop.example/g01374/laws.FnExactReachForWears", spec := "fnExactReachForWears", unfollowed := true, recurses := true, apart := false, narrowed := true }
def FnExactReachForWearsUptoSaid : Prop := fnExactReachForWearsUptoRow.holds Try.pinned (OpenSpec.upto fnExactReachForWearsSpec)

/-- 'laws.FnExactLateMend', WHERE WHAT IT READS IS OF BULK AT MOST 1048576: true; the input reads as it did. -/
def fnExactLateMendUptoRow : OpenClaim := { program := "ytfmjkephbibddaa", sum := "36ae9d946a2e0d03b415f495596bc5a2e4005a8aa13db682d652f3a125634043", func := "loop.example/g01374/laws.FnExactLateMend", spec := "fnExactLateMend", unfollowed := true, recurses := true, apart := false, narrowed := true }
def FnExactLateMendUptoSaid : Prop := fnExactLateMendUptoRow.holds Try.pinned (OpenSpec.upto fnExactLateMendSpec)

/-- 'laws.FnExactWeakestPart', WHERE WHAT IT READS IS OF BULK AT MOST 1048576: true; the input reads as it did. -/
def fnExactWeakestPartUptoRow : OpenClaim := { program := "ytfmjkephbibddaa", sum := "36ae9d946a2e0d03b415f495596bc5a2e4005a8aa13db682d652f3a125634043", func := "loop.example/g01374/laws.FnExactWeakestPart", spec := "fnExactWeakestPart", unfollowed := true, recurses := true, apart := false, narrowed := true }
def FnExactWeakestPartUptoSaid : Prop := fnExactWeakestPartUptoRow.holds Try.pinned (OpenSpec.upto fnExactWeakestPartSpec)

/-- 'laws.FnExactWearBy', WHERE WHAT IT READS IS OF BULK AT MOST 1048576: true; the input reads as it did. -/
def fnExactWearByUptoRow : OpenClaim := { program := "ytfmjkephbibddaa", sum := "36ae9d946a2e0d03b415f495596bc5a2e4005a8aa13db682d652f3a125634043", func := "loop.example/g01374/laws.FnExactWearBy", spec := "fnExactWearBy", unfollowed := true, recurses := true, apart := false, narrowed := true }
def FnExactWearByUptoSaid : Prop := fnExactWearByUptoRow.holds Try.pinned (OpenSpec.upto fnExactWearBySpec)

/-- 'laws.FnExactWorstStepToLose', WHERE WHAT IT READS IS OF BULK AT MOST 1048576: true; the input reads as it did. -/
def fnExactWorstStepToLoseUptoRow : OpenClaim := { program := "ytfmjkephbibddaa", sum := "36ae9d946a2e0d03b415f495596bc5a2e4005a8aa13db682d652f3a125634043", func := "loop.example/g01374/laws.FnExactWorstStepToLose", spec := "fnExactWorstStepToLose", unfollowed := true, recurses := true, apart := false, narrowed := true }
def FnExactWorstStepToLoseUptoSaid : Prop := fnExactWorstStepToLoseUptoRow.holds Try.pinned (OpenSpec.upto fnExactWorstStepToLoseSpec)

/-- 'laws.FnExactCountWearClimbs', WHERE WHAT IT READS IS OF BULK AT MOST 1048576: true; the input reads as it did. -/
def fnExactCountWearClimbsUptoRow : OpenClaim := { program := "ytfmjkephbibddaa", sum := "36ae9d946a2e0d03b415f495596bc5a2e4005a8aa13db682d652f3a125634043", func := "loop.example/g01374/laws.FnExactCountWearClimbs", spec := "fnExactCountWearClimbs", unfollowed := true, recurses := true, apart := false, narrowed := true }
def FnExactCountWearClimbsUptoSaid : Prop := fnExactCountWearClimbsUptoRow.holds Try.pinned (OpenSpec.upto fnExactCountWearClimbsSpec)

/-- 'laws.FnExactIdleBears', WHERE WHAT IT READS IS OF BULK AT MOST 1048576: true; the input reads as it did. -/
def fnExactIdleBearsUptoRow : OpenClaim := { program := "ytfmjkephbibddaa", sum := "36ae9d946a2e0d03b415f495596bc5a2e4005a8aa13db682d652f3a125634043", func := "loop.example/g01374/laws.FnExactIdleBears", spec := "fnExactIdleBears", unfollowed := true, recurses := true, apart := false, narrowed := true }
def FnExactIdleBearsUptoSaid : Prop := fnExactIdleBearsUptoRow.holds Try.pinned (OpenSpec.upto fnExactIdleBearsSpec)

/-- 'laws.FnExactFewestOnWear', WHERE WHAT IT READS IS OF BULK AT MOST 1048576: true; the input reads as it did. -/
def fnExactFewestOnWearUptoRow : OpenClaim := { program := "ytfmjkephbibddaa", sum := "36ae9d946a2e0d03b415f495596bc5a2e4005a8aa13db682d652f3a125634043", func := "loop.example/g01374/laws.FnExactFewestOnWear", spec := "fnExactFewestOnWear", unfollowed := true, recurses := true, apart := false, narrowed := true }
def FnExactFewestOnWearUptoSaid : Prop := fnExactFewestOnWearUptoRow.holds Try.pinned (OpenSpec.upto fnExactFewestOnWearSpec)

/-- 'laws.FnExactWearAll', WHERE WHAT IT READS IS OF BULK AT MOST 1048576: true; the input reads as it did. -/
def fnExactWearAllUptoRow : OpenClaim := { program := "ytfmjkephbibddaa", sum := "36ae9d946a2e0d03b415f495596bc5a2e4005a8aa13db682d652f3a125634043", func := "loop.example/g01374/laws.FnExactWearAll", spec := "fnExactWearAll", unfollowed := true, recurses := true, apart := false, narrowed := true }
def FnExactWearAllUptoSaid : Prop := fnExactWearAllUptoRow.holds Try.pinned (OpenSpec.upto fnExactWearAllSpec)

end Rows
end Go.Proofs.Ytfmjkephbibddaa
