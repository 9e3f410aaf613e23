/-
  No cell of these rows narrows 'for every input' (looked for: loops, veiled, ifaces, maps, wideKeys, modest, calm, conditions, laid).
  DERIVED. THE GIVEN ROWS OF THIS SEAT. 12 by the template 'for every input the law returns true; each argument reads behind the call as it read before'; 0 by the template 'total and deterministic' (their statements: YtdmcnenlobgeoaaTotals.lean).
  GIVEN WITH THE SEED: the statements are not yours to turn. If you find one false, say at which input.
  Laid BY PROGRAM, IN A SANDBOX (cutbox-rows.mjs): the forced cells as the released guide's own fill.sh prints them over the translation fbd5ea525d8d3248… (all of the seat's roots in one cut). By AI agents, Wed Nov 11 2026. No macro, syntax, notation, axiom, sorry.
-/
import Derived.Test.YtdmcnenlobgeoaaChecked
import GoSem.Claim
import GoSem.ClaimJoined
import GoSem.ClaimMapViews
import Derived.JoinedTies
import Derived.KernelRfl
namespace Go.Proofs.Ytdmcnenlobgeoaa
/- THE CELL 'sum', in the pinned program and in every row, IS THE sha256 OF THE DUMP (.gsa) THAT YtdmcnenlobgeoaaProg.lean LOADS. Nothing in Lean hashes anything: it is a label: what it is worth is what the hold of that sum in a sandbox is worth. -/
noncomputable def Try.pinned : Pinned := { name := "ytdmcnenlobgeoaa", sum := "fbd5ea525d8d3248f2b9318a5152c1cc9439abdca32b97eb4a8077d6257f2851", checked := Try.checked }
namespace Rows
def none {H : Type} : Left H := { results := [], args := [] }

/-- 'laws.FnExactStepsWith': WHATEVER THE INPUT: true; the input reads as it did. -/
def fnExactStepsWithSpec : ChangeSpec := { name := "fnExactStepsWith", fn := fun _ => fun
  | [d1, d2] => { results := [.lit (.bool true)], args := [d1, d2] }
  | _ => none }
def fnExactStepsWithRow : OpenClaim := { program := "ytdmcnenlobgeoaa", sum := "fbd5ea525d8d3248f2b9318a5152c1cc9439abdca32b97eb4a8077d6257f2851", func := "loop.example/g01374/laws.FnExactStepsWith", spec := "fnExactStepsWith", apart := false }
def FnExactStepsWithSaid : Prop := fnExactStepsWithRow.holds Try.pinned (OpenSpec.ofChange fnExactStepsWithSpec)

/-- ITS FALSE NEIGHBOUR: 'it returns false'. Refute it at one input. -/
def fnExactStepsWithWrong : ChangeSpec := { name := "fnExactStepsWith", fn := fun _ => fun
  | [d1, d2] => { results := [.lit (.bool false)], args := [d1, d2] }
  | _ => none }
def FnExactStepsWithWrongFalsely : Prop := fnExactStepsWithRow.holds Try.pinned (OpenSpec.ofChange fnExactStepsWithWrong)

/-- 'laws.FnExactTimeAgainst': WHATEVER THE INPUT: true; the input reads as it did. -/
def fnExactTimeAgainstSpec : ChangeSpec := { name := "fnExactTimeAgainst", fn := fun _ => fun
  | [d1, d2] => { results := [.lit (.bool true)], args := [d1, d2] }
  | _ => none }
def fnExactTimeAgainstRow : OpenClaim := { program := "ytdmcnenlobgeoaa", sum := "fbd5ea525d8d3248f2b9318a5152c1cc9439abdca32b97eb4a8077d6257f2851", func := "loop.example/g01374/laws.FnExactTimeAgainst", spec := "fnExactTimeAgainst", apart := false }
def FnExactTimeAgainstSaid : Prop := fnExactTimeAgainstRow.holds Try.pinned (OpenSpec.ofChange fnExactTimeAgainstSpec)

/-- ITS FALSE NEIGHBOUR: 'it returns false'. Refute it at one input. -/
def fnExactTimeAgainstWrong : ChangeSpec := { name := "fnExactTimeAgainst", fn := fun _ => fun
  | [d1, d2] => { results := [.lit (.bool false)], args := [d1, d2] }
  | _ => none }
def FnExactTimeAgainstWrongFalsely : Prop := fnExactTimeAgainstRow.holds Try.pinned (OpenSpec.ofChange fnExactTimeAgainstWrong)

/-- 'laws.FnExactTimeWith': WHATEVER THE INPUT: true; the input reads as it did. -/
def fnExactTimeWithSpec : ChangeSpec := { name := "fnExactTimeWith", fn := fun _ => fun
  | [d1, d2] => { results := [.lit (.bool true)], args := [d1, d2] }
  | _ => none }
def fnExactTimeWithRow : OpenClaim := { program := "ytdmcnenlobgeoaa", sum := "fbd5ea525d8d3248f2b9318a5152c1cc9439abdca32b97eb4a8077d6257f2851", func := "loop.example/g01374/laws.FnExactTimeWith", spec := "fnExactTimeWith", apart := false }
def FnExactTimeWithSaid : Prop := fnExactTimeWithRow.holds Try.pinned (OpenSpec.ofChange fnExactTimeWithSpec)

/-- ITS FALSE NEIGHBOUR: 'it returns false'. Refute it at one input. -/
def fnExactTimeWithWrong : ChangeSpec := { name := "fnExactTimeWith", fn := fun _ => fun
  | [d1, d2] => { results := [.lit (.bool false)], args := [d1, d2] }
  | _ => none }
def FnExactTimeWithWrongFalsely : Prop := fnExactTimeWithRow.holds Try.pinned (OpenSpec.ofChange fnExactTimeWithWrong)

/-- 'laws.FnExactSpeedFromTwo': WHATEVER THE INPUT: true; the input reads as it did. -/
def fnExactSpeedFromTwoSpec : ChangeSpec := { name := "fnExactSpeedFromTwo", fn := fun _ => fun
  | [d1, d2, d3, d4] => { results := [.lit (.bool true)], args := [d1, d2, d3, d4] }
  | _ => none }
def fnExactSpeedFromTwoRow : OpenClaim := { program := "ytdmcnenlobgeoaa", sum := "fbd5ea525d8d3248f2b9318a5152c1cc9439abdca32b97eb4a8077d6257f2851", func := "loop.example/g01374/laws.FnExactSpeedFromTwo", spec := "fnExactSpeedFromTwo", apart := false }
def FnExactSpeedFromTwoSaid : Prop := fnExactSpeedFromTwoRow.holds Try.pinned (OpenSpec.ofChange fnExactSpeedFromTwoSpec)

/-- ITS FALSE NEIGHBOUR: 'it returns false'. Refute it at one input. -/
def fnExactSpeedFromTwoWrong : ChangeSpec := { name := "fnExactSpeedFromTwo", fn := fun _ => fun
  | [d1, d2, d3, d4] => { results := [.lit (.bool false)], args := [d1, d2, d3, d4] }
  | _ => none }
def FnExactSpeedFromTwoWrongFalsely : Prop := fnExactSpeedFromTwoRow.holds Try.pinned (OpenSpec.ofChange fnExactSpeedFromTwoWrong)

/-- 'laws.FnExactVisibleFromTwo': WHATEVER THE INPUT: true; the input reads as it did. -/
def fnExactVisibleFromTwoSpec : ChangeSpec := { name := "fnExactVisibleFromTwo", fn := fun _ => fun
  | [d1, d2, d3, d4] => { results := [.lit (.bool true)], args := [d1, d2, d3, d4] }
  | _ => none }
def fnExactVisibleFromTwoRow : OpenClaim := { program := "ytdmcnenlobgeoaa", sum := "fbd5ea525d8d3248f2b9318a5152c1cc9439abdca32b97eb4a8077d6257f2851", func := "loop.example/g01374/laws.FnExactVisibleFromTwo", spec := "fnExactVisibleFromTwo", apart := false }
def FnExactVisibleFromTwoSaid : Prop := fnExactVisibleFromTwoRow.holds Try.pinned (OpenSpec.ofChange fnExactVisibleFromTwoSpec)

/-- ITS FALSE NEIGHBOUR: 'it returns false'. Refute it at one input. -/
def fnExactVisibleFromTwoWrong : ChangeSpec := { name := "fnExactVisibleFromTwo", fn := fun _ => fun
  | [d1, d2, d3, d4] => { results := [.lit (.bool false)], args := [d1, d2, d3, d4] }
  | _ => none }
def FnExactVisibleFromTwoWrongFalsely : Prop := fnExactVisibleFromTwoRow.holds Try.pinned (OpenSpec.ofChange fnExactVisibleFromTwoWrong)

/-- 'laws.FnExactCatchUp': WHATEVER THE INPUT: true; the input reads as it did. -/
def fnExactCatchUpSpec : ChangeSpec := { name := "fnExactCatchUp", fn := fun _ => fun
  | [d1, d2, d3, d4] => { results := [.lit (.bool true)], args := [d1, d2, d3, d4] }
  | _ => none }
def fnExactCatchUpRow : OpenClaim := { program := "ytdmcnenlobgeoaa", sum := "fbd5ea525d8d3248f2b9318a5152c1cc9439abdca32b97eb4a8077d6257f2851", func := "loop.example/g01374/laws.FnExactCatchUp", spec := "fnExactCatchUp", apart := false }
def FnExactCatchUpSaid : Prop := fnExactCatchUpRow.holds Try.pinned (OpenSpec.ofChange fnExactCatchUpSpec)

/-- ITS FALSE NEIGHBOUR: 'it returns false'. Refute it at one input. -/
def fnExactCatchUpWrong : ChangeSpec := { name := "fnExactCatchUp", fn := fun _ => fun
  | [d1, d2, d3, d4] => { results := [.lit (.bool false)], args := [d1, d2, d3, d4] }
  | _ => none }
def FnExactCatchUpWrongFalsely : Prop := fnExactCatchUpRow.holds Try.pinned (OpenSpec.ofChange fnExactCatchUpWrong)

/-- 'laws.FnExactWholeTimes': WHATEVER THE INPUT: true; the input reads as it did. -/
def fnExactWholeTimesSpec : ChangeSpec := { name := "fnExactWholeTimes", fn := fun _ => fun
  | [d] => { results := [.lit (.bool true)], args := [d] }
  | _ => none }
def fnExactWholeTimesRow : OpenClaim := { program := "ytdmcnenlobgeoaa", sum := "fbd5ea525d8d3248f2b9318a5152c1cc9439abdca32b97eb4a8077d6257f2851", func := "loop.example/g01374/laws.FnExactWholeTimes", spec := "fnExactWholeTimes", apart := false }
def FnExactWholeTimesSaid : Prop := fnExactWholeTimesRow.holds Try.pinned (OpenSpec.ofChange fnExactWholeTimesSpec)

/-- ITS FALSE NEIGHBOUR: 'it returns false'. Refute it at one input. -/
def fnExactWholeTimesWrong : ChangeSpec := { name := "fnExactWholeTimes", fn := fun _ => fun
  | [d] => { results := [.lit (.bool false)], args := [d] }
  | _ => none }
def FnExactWholeTimesWrongFalsely : Prop := fnExactWholeTimesRow.holds Try.pinned (OpenSpec.ofChange fnExactWholeTimesWrong)

/-- 'laws.FnExactAreStairs': WHATEVER THE INPUT: true; the input reads as it did. -/
def fnExactAreStairsSpec : ChangeSpec := { name := "fnExactAreStairs", fn := fun _ => fun
  | [d] => { results := [.lit (.bool true)], args := [d] }
  | _ => none }
def fnExactAreStairsRow : OpenClaim := { program := "ytdmcnenlobgeoaa", sum := "fbd5ea525d8d3248f2b9318a5152c1cc9439abdca32b97eb4a8077d6257f2851", func := "loop.example/g01374/laws.FnExactAreStairs", spec := "fnExactAreStairs", apart := false }
def FnExactAreStairsSaid : Prop := fnExactAreStairsRow.holds Try.pinned (OpenSpec.ofChange fnExactAreStairsSpec)

/-- ITS FALSE NEIGHBOUR: 'it returns false'. Refute it at one input. -/
def fnExactAreStairsWrong : ChangeSpec := { name := "fnExactAreStairs", fn := fun _ => fun
  | [d] => { results := [.lit (.bool false)], args := [d] }
  | _ => none }
def FnExactAreStairsWrongFalsely : Prop := fnExactAreStairsRow.holds Try.pinned (OpenSpec.ofChange fnExactAreStairsWrong)

/-- 'laws.FnExactStrongestStep': WHATEVER THE INPUT: true; the input reads as it did. -/
def fnExactStrongestStepSpec : ChangeSpec := { name := "fnExactStrongestStep", fn := fun _ => fun
  | [d] => { results := [.lit (.bool true)], args := [d] }
  | _ => none }
def fnExactStrongestStepRow : OpenClaim := { program := "ytdmcnenlobgeoaa", sum := "fbd5ea525d8d3248f2b9318a5152c1cc9439abdca32b97eb4a8077d6257f2851", func := "loop.example/g01374/laws.FnExactStrongestStep", spec := "fnExactStrongestStep", unfollowed := true, recurses := true, apart := false }
def FnExactStrongestStepSaid : Prop := fnExactStrongestStepRow.holds Try.pinned (OpenSpec.ofChange fnExactStrongestStepSpec)

/-- ITS FALSE NEIGHBOUR: 'it returns false'. Refute it at one input. -/
def fnExactStrongestStepWrong : ChangeSpec := { name := "fnExactStrongestStep", fn := fun _ => fun
  | [d] => { results := [.lit (.bool false)], args := [d] }
  | _ => none }
def FnExactStrongestStepWrongFalsely : Prop := fnExactStrongestStepRow.holds Try.pinned (OpenSpec.ofChange fnExactStrongestStepWrong)

/-- 'laws.FnExactIsWearClimb': WHATEVER THE INPUT: true; the input reads as it did. -/
def fnExactIsWearClimbSpec : ChangeSpec := { name := "fnExactIsWearClimb", fn := fun _ => fun
  | [d1, d2, d3] => { results := [.lit (.bool true)], args := [d1, d2, d3] }
  | _ => none }
def fnExactIsWearClimbRow : OpenClaim := { program := "ytdmcnenlobgeoaa", sum := "fbd5ea525d8d3248f2b9318a5152c1cc9439abdca32b97eb4a8077d6257f2851", func := "loop.example/g01374/laws.FnExactIsWearClimb", spec := "fnExactIsWearClimb", unfollowed := true, recurses := true, apart := false }
def FnExactIsWearClimbSaid : Prop := fnExactIsWearClimbRow.holds Try.pinned (OpenSpec.ofChange fnExactIsWearClimbSpec)

/-- ITS FALSE NEIGHBOUR: 'it returns false'. Refute it at one input. -/
def fnExactIsWearClimbWrong : ChangeSpec := { name := "fnExactIsWearClimb", fn := fun _ => fun
  | [d1, d2, d3] => { results := [.lit (.bool false)], args := [d1, d2, d3] }
  | _ => none }
def FnExactIsWearClimbWrongFalsely : Prop := fnExactIsWearClimbRow.holds Try.pinned (OpenSpec.ofChange fnExactIsWearClimbWrong)

/-- 'laws.FnExactTurnBears': WHATEVER THE INPUT: true; the input reads as it did. -/
def fnExactTurnBearsSpec : ChangeSpec := { name := "fnExactTurnBears", fn := fun _ => fun
  | [d] => { results := [.lit (.bool true)], args := [d] }
  | _ => none }
def fnExactTurnBearsRow : OpenClaim := { program := "ytdmcnenlobgeoaa", sum := "fbd5ea525d8d3248f2b9318a5152c1cc9439abdca32b97eb4a8077d6257f2851", func := "loop.example/g01374/laws.FnExactTurnBears", spec := "fnExactTurnBears", unfollowed := true, recurses := true, apart := false }
def FnExactTurnBearsSaid : Prop := fnExactTurnBearsRow.holds Try.pinned (OpenSpec.ofChange fnExactTurnBearsSpec)

/-- ITS FALSE NEIGHBOUR: 'it returns false'. Refute it at one input. -/
def fnExactTurnBearsWrong : ChangeSpec := { name := "fnExactTurnBears", fn := fun _ => fun
  | [d] => { results := [.lit (.bool false)], args := [d] }
  | _ => none }
def FnExactTurnBearsWrongFalsely : Prop := fnExactTurnBearsRow.holds Try.pinned (OpenSpec.ofChange fnExactTurnBearsWrong)

/-- 'laws.FnExactPartsOfBears': WHATEVER THE INPUT: true; the input reads as it did. -/
def fnExactPartsOfBearsSpec : ChangeSpec := { name := "fnExactPartsOfBears", fn := fun _ => fun
  | [d1, d2] => { results := [.lit (.bool true)], args := [d1, d2] }
  | _ => none }
def fnExactPartsOfBearsRow : OpenClaim := { program := "ytdmcnenlobgeoaa", sum := "fbd5ea525d8d3248f2b9318a5152c1cc9439abdca32b97eb4a8077d6257f2851", func := "loop.example/g01374/laws.FnExactPartsOfBears", spec := "fnExactPartsOfBears", unfollowed := true, recurses := true, apart := false }
def FnExactPartsOfBearsSaid : Prop := fnExactPartsOfBearsRow.holds Try.pinned (OpenSpec.ofChange fnExactPartsOfBearsSpec)

/-- ITS FALSE NEIGHBOUR: 'it returns false'. Refute it at one input. -/
def fnExactPartsOfBearsWrong : ChangeSpec := { name := "fnExactPartsOfBears", fn := fun _ => fun
  | [d1, d2] => { results := [.lit (.bool false)], args := [d1, d2] }
  | _ => none }
def FnExactPartsOfBearsWrongFalsely : Prop := fnExactPartsOfBearsRow.holds Try.pinned (OpenSpec.ofChange fnExactPartsOfBearsWrong)

/- THE SECOND FORM. 'bulk': how many values and letters a reading holds, each counted each time it is reached (what is shared counts as often as it is met; a slice's spare places count too). A statement '..UptoSaid' is the law's where the arguments, and the package variables that the reading takes, are together of bulk at most 1048576: NARROWER than '..Said'. Prove '..Said' where nothing that the law and all that it calls make is longer than what came in: it says more and counts as full. Else prove '..UptoSaid'. A law counts once. -/
mutual
def uptoBulk {H : Type} : DataW H → Nat
  | .lit (.string bytes) => bytes.length + 1
  | .lit _ => 1
  | .nil => 1
  | .ptr d => uptoBulk d + 1
  | .slice elems spare => uptoBulkAll elems + uptoBulkAll spare + 1
  | .agg parts => uptoBulkAll parts + 1
  | .iface _ d => uptoBulk d + 1
  | .map entries => uptoBulkEntries entries + 1
  | .held _ => 1
def uptoBulkAll {H : Type} : List (DataW H) → Nat
  | [] => 0
  | d :: r => uptoBulk d + uptoBulkAll r
def uptoBulkEntries {H : Type} : List (Lit × DataW H) → Nat
  | [] => 0
  | x :: r => uptoBulkEntry x + uptoBulkEntries r
def uptoBulkEntry {H : Type} : Lit × DataW H → Nat
  | (.string bytes, d) => bytes.length + uptoBulk d + 1
  | (_, d) => uptoBulk d + 1
 end
def uptoSmall : (H : Type) → List (DataW H) → Bool := fun _ ds => decide (uptoBulkAll ds ≤ 1048576)
def OpenSpec.upto (s : _root_.Go.ChangeSpec) : _root_.Go.OpenSpec := { _root_.Go.OpenSpec.ofChange s with cond := some uptoSmall }

/-- 'laws.FnExactStepsWith', WHERE WHAT IT READS IS OF BULK AT MOST 1048576: true; the input reads as it did. -/
def fnExactStepsWithUptoRow : OpenClaim := { program := "ytdmcnenlobgeoaa", sum := "fbd5ea525d8d3248f2b9318a5152c1cc9439abdca32b97eb4a8077d6257f2851", func := "loop.example/g01374/laws.FnExactStepsWith", spec := "fnExactStepsWith", apart := false, narrowed := true }
def FnExactStepsWithUptoSaid : Prop := fnExactStepsWithUptoRow.holds Try.pinned (OpenSpec.upto fnExactStepsWithSpec)

/-- 'laws.FnExactTimeAgainst', WHERE WHAT IT READS IS OF BULK AT MOST 1048576: true; the input reads as it did. -/
def fnExactTimeAgainstUptoRow : OpenClaim := { program := "ytdmcnenlobgeoaa", sum := "fbd5ea525d8d3248f2b9318a5152c1cc9439abdca32b97eb4a8077d6257f2851", func := "loop.example/g01374/laws.FnExactTimeAgainst", spec := "fnExactTimeAgainst", apart := false, narrowed := true }
def FnExactTimeAgainstUptoSaid : Prop := fnExactTimeAgainstUptoRow.holds Try.pinned (OpenSpec.upto fnExactTimeAgainstSpec)

/-- 'laws.FnExactTimeWith', WHERE WHAT IT READS IS OF BULK AT MOST 1048576: true; the input reads as it did. -/
def fnExactTimeWithUptoRow : OpenClaim := { program := "ytdmcnenlobgeoaa", sum := "fbd5ea525d8d3248f2b9318a5152c1cc9439abdca32b97eb4a8077d6257f2851", func := "loop.example/g01374/laws.FnExactTimeWith", spec := "fnExactTimeWith", apart := false, narrowed := true }
def FnExactTimeWithUptoSaid : Prop := fnExactTimeWithUptoRow.holds Try.pinned (OpenSpec.upto fnExactTimeWithSpec)

/-- 'laws.FnExactSpeedFromTwo', WHERE WHAT IT READS IS OF BULK AT MOST 1048576: true; the input reads as it did. -/
def fnExactSpeedFromTwoUptoRow : OpenClaim := { program := "ytdmcnenlobgeoaa", sum := "fbd5ea525d8d3248f2b9318a5152c1cc9439abdca32b97eb4a8077d6257f2851", func := "loop.example/g01374/laws.FnExactSpeedFromTwo", spec := "fnExactSpeedFromTwo", apart := false, narrowed := true }
def FnExactSpeedFromTwoUptoSaid : Prop := fnExactSpeedFromTwoUptoRow.holds Try.pinned (OpenSpec.upto fnExactSpeedFromTwoSpec)

/-- 'laws.FnExactVisibleFromTwo', WHERE WHAT IT READS IS OF BULK AT MOST 1048576: true; the input reads as it did. -/
def fnExactVisibleFromTwoUptoRow : OpenClaim := { program := "ytdmcnenlobgeoaa", sum := "fbd5ea525d8d3248f2b9318a5152c1cc9439abdca32b97eb4a8077d6257f2851", func := "loop.example/g01374/laws.FnExactVisibleFromTwo", spec := "fnExactVisibleFromTwo", apart := false, narrowed := true }
def FnExactVisibleFromTwoUptoSaid : Prop := fnExactVisibleFromTwoUptoRow.holds Try.pinned (OpenSpec.upto fnExactVisibleFromTwoSpec)

/-- 'laws.FnExactCatchUp', WHERE WHAT IT READS IS OF BULK AT MOST 1048576: true; the input reads as it did. -/
def fnExactCatchUpUptoRow : OpenClaim := { program := "ytdmcnenlobgeoaa", sum := "fbd5ea525d8d3248f2b9318a5152c1cc9439abdca32b97eb4a8077d6257f2851", func := "loop.example/g01374/laws.FnExactCatchUp", spec := "fnExactCatchUp", apart := false, narrowed := true }
def FnExactCatchUpUptoSaid : Prop := fnExactCatchUpUptoRow.holds Try.pinned (OpenSpec.upto fnExactCatchUpSpec)

/-- 'laws.FnExactWholeTimes', WHERE WHAT IT READS IS OF BULK AT MOST 1048576: true; the input reads as it did. -/
def fnExactWholeTimesUptoRow : OpenClaim := { program := "ytdmcnenlobgeoaa", sum := "fbd5ea525d8d3248f2b9318a5152c1cc9439abdca32b97eb4a8077d6257f2851", func := "loop.example/g01374/laws.FnExactWholeTimes", spec := "fnExactWholeTimes", apart := false, narrowed := true }
def FnExactWholeTimesUptoSaid : Prop := fnExactWholeTimesUptoRow.holds Try.pinned (OpenSpec.upto fnExactWholeTimesSpec)

/-- 'laws.FnExactAreStairs', WHERE WHAT IT READS IS OF BULK AT MOST 1048576: true; the input reads as it did. -/
def fnExactAreStairsUptoRow : OpenClaim := { program := "ytdmcnenlobgeoaa", sum := "fbd5ea525d8d3248f2b9318a5152c1cc9439abdca32b97eb4a8077d6257f2851", func := "loop.example/g01374/laws.FnExactAreStairs", spec := "fnExactAreStairs", apart := false, narrowed := true }
def FnExactAreStairsUptoSaid : Prop := fnExactAreStairsUptoRow.holds Try.pinned (OpenSpec.upto fnExactAreStairsSpec)

/-- 'laws.FnExactStrongestStep', WHERE WHAT IT READS IS OF BULK AT MOST 1048576: true; the input reads as it did. -/
def fnExactStrongestStepUptoRow : OpenClaim := { program := "ytdmcnenlobgeoaa", sum := "fbd5ea525d8d3248f2b9318a5152c1cc9439abdca32b97eb4a8077d6257f2851", func := "loop.example/g01374/laws.FnExactStrongestStep", spec := "fnExactStrongestStep", unfollowed := true, recurses := true, apart := false, narrowed := true }
def FnExactStrongestStepUptoSaid : Prop := fnExactStrongestStepUptoRow.holds Try.pinned (OpenSpec.upto fnExactStrongestStepSpec)

/-- 'laws.FnExactIsWearClimb', WHERE WHAT IT READS IS OF BULK AT MOST 1048576: true; the input reads as it did. -/
def fnExactIsWearClimbUptoRow : OpenClaim := { program := "ytdmcnenlobgeoaa", sum := "fbd5ea525d8d3248f2b9318a5152c1cc9439abdca32b97eb4a8077d6257f2851", func := "loop.example/g01374/laws.FnExactIsWearClimb", spec := "fnExactIsWearClimb", unfollowed := true, recurses := true, apart := false, narrowed := true }
def FnExactIsWearClimbUptoSaid : Prop := fnExactIsWearClimbUptoRow.holds Try.pinned (OpenSpec.upto fnExactIsWearClimbSpec)

/-- 'laws.FnExactTurnBears', WHERE WHAT IT READS IS OF BULK AT MOST 1048576: true; the input reads as it did. -/
def fnExactTurnBearsUptoRow : OpenClaim := { program := "ytdmcnenlobgeoaa", sum := "fbd5ea525d8d3248f2b9318a5152c1cc9439abdca32b97eb4a8077d6257f2851", func := "loop.example/g01374/laws.FnExactTurnBears", spec := "fnExactTurnBears", unfollowed := true, recurses := true, apart := false, narrowed := true }
def FnExactTurnBearsUptoSaid : Prop := fnExactTurnBearsUptoRow.holds Try.pinned (OpenSpec.upto fnExactTurnBearsSpec)

/-- 'laws.FnExactPartsOfBears', WHERE WHAT IT READS IS OF BULK AT MOST 1048576: true; the input reads as it did. -/
def fnExactPartsOfBearsUptoRow : OpenClaim := { program := "ytdmcnenlobgeoaa", sum := "fbd5ea525d8d3248f2b9318a5152c1cc9439abdca32b97eb4a8077d6257f2851", func := "loop.example/g01374/laws.FnExactPartsOfBears", spec := "fnExactPartsOfBears", unfollowed := true, recurses := true, apart := false, narrowed := true }
def FnExactPartsOfBearsUptoSaid : Prop := fnExactPartsOfBearsUptoRow.holds Try.pinned (OpenSpec.upto fnExactPartsOfBearsSpec)

end Rows
end Go.Proofs.Ytdmcnenlobgeoaa
