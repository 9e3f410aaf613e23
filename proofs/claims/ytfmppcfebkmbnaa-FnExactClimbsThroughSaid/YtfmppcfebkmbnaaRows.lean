/-
  No cell of these rows narrows 'for every input' (looked for: loops, veiled, ifaces, maps, wideKeys, modest, calm, conditions, laid).
  DERIVED. THE GIVEN ROWS OF THIS SEAT. 12 by the template 'for every input the law returns true; each argument reads behind the call as it read before'; 0 by the template 'total and deterministic' (their statements: YtfmppcfebkmbnaaTotals.lean).
  GIVEN WITH THE SEED: the statements are not yours to turn. If you find one false, say at which input.
  Laid BY PROGRAM, IN A SANDBOX (cutbox-rows.mjs): the forced cells as the released guide's own fill.sh prints them over the translation 8a1616fa252768a2… (all of the seat's roots in one cut). By AI agents, Wed Nov 11 2026. No macro, syntax, notation, axiom, sorry.
-/
import Derived.Test.YtfmppcfebkmbnaaChecked
import GoSem.Claim
import GoSem.ClaimJoined
import GoSem.ClaimMapViews
import Derived.JoinedTies
import Derived.KernelRfl
namespace Go.Proofs.Ytfmppcfebkmbnaa
/- THE CELL 'sum', in the pinned program and in every row, IS THE sha256 OF THE DUMP (.gsa) THAT YtfmppcfebkmbnaaProg.lean LOADS. Nothing in Lean hashes anything: it is a label: what it is worth is what the hold of that sum in a sandbox is worth. -/
noncomputable def Try.pinned : Pinned := { name := "ytfmppcfebkmbnaa", sum := "8a1616fa252768a2f3bd076dca767bfc0747888b084608f132409c6eeaf354c1", checked := Try.checked }
namespace Rows
def none {H : Type} : Left H := { results := [], args := [] }

/-- 'laws.FnExactIsClimb': WHATEVER THE INPUT: true; the input reads as it did. -/
def fnExactIsClimbSpec : ChangeSpec := { name := "fnExactIsClimb", fn := fun _ => fun
  | [d1, d2] => { results := [.lit (.bool true)], args := [d1, d2] }
  | _ => none }
def fnExactIsClimbRow : OpenClaim := { program := "ytfmppcfebkmbnaa", sum := "8a1616fa252768a2f3bd076dca767bfc0747888b084608f132409c6eeaf354c1", func := "loop.example/g01374/laws.FnExactIsClimb", spec := "fnExactIsClimb", apart := false }
def FnExactIsClimbSaid : Prop := fnExactIsClimbRow.holds Try.pinned (OpenSpec.ofChange fnExactIsClimbSpec)

/-- ITS FALSE NEIGHBOUR: 'it returns false'. Refute it at one input. -/
def fnExactIsClimbWrong : ChangeSpec := { name := "fnExactIsClimb", fn := fun _ => fun
  | [d1, d2] => { results := [.lit (.bool false)], args := [d1, d2] }
  | _ => none }
def FnExactIsClimbWrongFalsely : Prop := fnExactIsClimbRow.holds Try.pinned (OpenSpec.ofChange fnExactIsClimbWrong)

/-- 'laws.FnExactCountClimbs': WHATEVER THE INPUT: true; the input reads as it did. -/
def fnExactCountClimbsSpec : ChangeSpec := { name := "fnExactCountClimbs", fn := fun _ => fun
  | [d] => { results := [.lit (.bool true)], args := [d] }
  | _ => none }
def fnExactCountClimbsRow : OpenClaim := { program := "ytfmppcfebkmbnaa", sum := "8a1616fa252768a2f3bd076dca767bfc0747888b084608f132409c6eeaf354c1", func := "loop.example/g01374/laws.FnExactCountClimbs", spec := "fnExactCountClimbs", apart := false }
def FnExactCountClimbsSaid : Prop := fnExactCountClimbsRow.holds Try.pinned (OpenSpec.ofChange fnExactCountClimbsSpec)

/-- ITS FALSE NEIGHBOUR: 'it returns false'. Refute it at one input. -/
def fnExactCountClimbsWrong : ChangeSpec := { name := "fnExactCountClimbs", fn := fun _ => fun
  | [d] => { results := [.lit (.bool false)], args := [d] }
  | _ => none }
def FnExactCountClimbsWrongFalsely : Prop := fnExactCountClimbsRow.holds Try.pinned (OpenSpec.ofChange fnExactCountClimbsWrong)

/-- 'laws.FnExactMostStrides': WHATEVER THE INPUT: true; the input reads as it did. -/
def fnExactMostStridesSpec : ChangeSpec := { name := "fnExactMostStrides", fn := fun _ => fun
  | [d] => { results := [.lit (.bool true)], args := [d] }
  | _ => none }
def fnExactMostStridesRow : OpenClaim := { program := "ytfmppcfebkmbnaa", sum := "8a1616fa252768a2f3bd076dca767bfc0747888b084608f132409c6eeaf354c1", func := "loop.example/g01374/laws.FnExactMostStrides", spec := "fnExactMostStrides", apart := false }
def FnExactMostStridesSaid : Prop := fnExactMostStridesRow.holds Try.pinned (OpenSpec.ofChange fnExactMostStridesSpec)

/-- ITS FALSE NEIGHBOUR: 'it returns false'. Refute it at one input. -/
def fnExactMostStridesWrong : ChangeSpec := { name := "fnExactMostStrides", fn := fun _ => fun
  | [d] => { results := [.lit (.bool false)], args := [d] }
  | _ => none }
def FnExactMostStridesWrongFalsely : Prop := fnExactMostStridesRow.holds Try.pinned (OpenSpec.ofChange fnExactMostStridesWrong)

/-- 'laws.FnExactFewestStrides': WHATEVER THE INPUT: true; the input reads as it did. -/
def fnExactFewestStridesSpec : ChangeSpec := { name := "fnExactFewestStrides", fn := fun _ => fun
  | [d] => { results := [.lit (.bool true)], args := [d] }
  | _ => none }
def fnExactFewestStridesRow : OpenClaim := { program := "ytfmppcfebkmbnaa", sum := "8a1616fa252768a2f3bd076dca767bfc0747888b084608f132409c6eeaf354c1", func := "loop.example/g01374/laws.FnExactFewestStrides", spec := "fnExactFewestStrides", unfollowed := true, recurses := true, apart := false }
def FnExactFewestStridesSaid : Prop := fnExactFewestStridesRow.holds Try.pinned (OpenSpec.ofChange fnExactFewestStridesSpec)

/-- ITS FALSE NEIGHBOUR: 'it returns false'. Refute it at one input. -/
def fnExactFewestStridesWrong : ChangeSpec := { name := "fnExactFewestStrides", fn := fun _ => fun
  | [d] => { results := [.lit (.bool false)], args := [d] }
  | _ => none }
def FnExactFewestStridesWrongFalsely : Prop := fnExactFewestStridesRow.holds Try.pinned (OpenSpec.ofChange fnExactFewestStridesWrong)

/-- 'laws.FnExactStepsOfClimb': WHATEVER THE INPUT: true; the input reads as it did. -/
def fnExactStepsOfClimbSpec : ChangeSpec := { name := "fnExactStepsOfClimb", fn := fun _ => fun
  | [d1, d2] => { results := [.lit (.bool true)], args := [d1, d2] }
  | _ => none }
def fnExactStepsOfClimbRow : OpenClaim := { program := "ytfmppcfebkmbnaa", sum := "8a1616fa252768a2f3bd076dca767bfc0747888b084608f132409c6eeaf354c1", func := "loop.example/g01374/laws.FnExactStepsOfClimb", spec := "fnExactStepsOfClimb", apart := false }
def FnExactStepsOfClimbSaid : Prop := fnExactStepsOfClimbRow.holds Try.pinned (OpenSpec.ofChange fnExactStepsOfClimbSpec)

/-- ITS FALSE NEIGHBOUR: 'it returns false'. Refute it at one input. -/
def fnExactStepsOfClimbWrong : ChangeSpec := { name := "fnExactStepsOfClimb", fn := fun _ => fun
  | [d1, d2] => { results := [.lit (.bool false)], args := [d1, d2] }
  | _ => none }
def FnExactStepsOfClimbWrongFalsely : Prop := fnExactStepsOfClimbRow.holds Try.pinned (OpenSpec.ofChange fnExactStepsOfClimbWrong)

/-- 'laws.FnExactFirstWearClimb': WHATEVER THE INPUT: true; the input reads as it did. -/
def fnExactFirstWearClimbSpec : ChangeSpec := { name := "fnExactFirstWearClimb", fn := fun _ => fun
  | [d1, d2] => { results := [.lit (.bool true)], args := [d1, d2] }
  | _ => none }
def fnExactFirstWearClimbRow : OpenClaim := { program := "ytfmppcfebkmbnaa", sum := "8a1616fa252768a2f3bd076dca767bfc0747888b084608f132409c6eeaf354c1", func := "loop.example/g01374/laws.FnExactFirstWearClimb", spec := "fnExactFirstWearClimb", unfollowed := true, recurses := true, apart := false }
def FnExactFirstWearClimbSaid : Prop := fnExactFirstWearClimbRow.holds Try.pinned (OpenSpec.ofChange fnExactFirstWearClimbSpec)

/-- ITS FALSE NEIGHBOUR: 'it returns false'. Refute it at one input. -/
def fnExactFirstWearClimbWrong : ChangeSpec := { name := "fnExactFirstWearClimb", fn := fun _ => fun
  | [d1, d2] => { results := [.lit (.bool false)], args := [d1, d2] }
  | _ => none }
def FnExactFirstWearClimbWrongFalsely : Prop := fnExactFirstWearClimbRow.holds Try.pinned (OpenSpec.ofChange fnExactFirstWearClimbWrong)

/-- 'laws.FnExactFirstFewest': WHATEVER THE INPUT: true; the input reads as it did. -/
def fnExactFirstFewestSpec : ChangeSpec := { name := "fnExactFirstFewest", fn := fun _ => fun
  | [d] => { results := [.lit (.bool true)], args := [d] }
  | _ => none }
def fnExactFirstFewestRow : OpenClaim := { program := "ytfmppcfebkmbnaa", sum := "8a1616fa252768a2f3bd076dca767bfc0747888b084608f132409c6eeaf354c1", func := "loop.example/g01374/laws.FnExactFirstFewest", spec := "fnExactFirstFewest", apart := false }
def FnExactFirstFewestSaid : Prop := fnExactFirstFewestRow.holds Try.pinned (OpenSpec.ofChange fnExactFirstFewestSpec)

/-- ITS FALSE NEIGHBOUR: 'it returns false'. Refute it at one input. -/
def fnExactFirstFewestWrong : ChangeSpec := { name := "fnExactFirstFewest", fn := fun _ => fun
  | [d] => { results := [.lit (.bool false)], args := [d] }
  | _ => none }
def FnExactFirstFewestWrongFalsely : Prop := fnExactFirstFewestRow.holds Try.pinned (OpenSpec.ofChange fnExactFirstFewestWrong)

/-- 'laws.FnExactClimbsThrough': WHATEVER THE INPUT: true; the input reads as it did. -/
def fnExactClimbsThroughSpec : ChangeSpec := { name := "fnExactClimbsThrough", fn := fun _ => fun
  | [d1, d2] => { results := [.lit (.bool true)], args := [d1, d2] }
  | _ => none }
def fnExactClimbsThroughRow : OpenClaim := { program := "ytfmppcfebkmbnaa", sum := "8a1616fa252768a2f3bd076dca767bfc0747888b084608f132409c6eeaf354c1", func := "loop.example/g01374/laws.FnExactClimbsThrough", spec := "fnExactClimbsThrough", apart := false }
def FnExactClimbsThroughSaid : Prop := fnExactClimbsThroughRow.holds Try.pinned (OpenSpec.ofChange fnExactClimbsThroughSpec)

/-- ITS FALSE NEIGHBOUR: 'it returns false'. Refute it at one input. -/
def fnExactClimbsThroughWrong : ChangeSpec := { name := "fnExactClimbsThrough", fn := fun _ => fun
  | [d1, d2] => { results := [.lit (.bool false)], args := [d1, d2] }
  | _ => none }
def FnExactClimbsThroughWrongFalsely : Prop := fnExactClimbsThroughRow.holds Try.pinned (OpenSpec.ofChange fnExactClimbsThroughWrong)

/-- 'laws.FnExactCountByStrides': WHATEVER THE INPUT: true; the input reads as it did. -/
def fnExactCountByStridesSpec : ChangeSpec := { name := "fnExactCountByStrides", fn := fun _ => fun
  | [d1, d2] => { results := [.lit (.bool true)], args := [d1, d2] }
  | _ => none }
def fnExactCountByStridesRow : OpenClaim := { program := "ytfmppcfebkmbnaa", sum := "8a1616fa252768a2f3bd076dca767bfc0747888b084608f132409c6eeaf354c1", func := "loop.example/g01374/laws.FnExactCountByStrides", spec := "fnExactCountByStrides", apart := false }
def FnExactCountByStridesSaid : Prop := fnExactCountByStridesRow.holds Try.pinned (OpenSpec.ofChange fnExactCountByStridesSpec)

/-- ITS FALSE NEIGHBOUR: 'it returns false'. Refute it at one input. -/
def fnExactCountByStridesWrong : ChangeSpec := { name := "fnExactCountByStrides", fn := fun _ => fun
  | [d1, d2] => { results := [.lit (.bool false)], args := [d1, d2] }
  | _ => none }
def FnExactCountByStridesWrongFalsely : Prop := fnExactCountByStridesRow.holds Try.pinned (OpenSpec.ofChange fnExactCountByStridesWrong)

/-- 'laws.FnExactFirstClimb': WHATEVER THE INPUT: true; the input reads as it did. -/
def fnExactFirstClimbSpec : ChangeSpec := { name := "fnExactFirstClimb", fn := fun _ => fun
  | [d] => { results := [.lit (.bool true)], args := [d] }
  | _ => none }
def fnExactFirstClimbRow : OpenClaim := { program := "ytfmppcfebkmbnaa", sum := "8a1616fa252768a2f3bd076dca767bfc0747888b084608f132409c6eeaf354c1", func := "loop.example/g01374/laws.FnExactFirstClimb", spec := "fnExactFirstClimb", apart := false }
def FnExactFirstClimbSaid : Prop := fnExactFirstClimbRow.holds Try.pinned (OpenSpec.ofChange fnExactFirstClimbSpec)

/-- ITS FALSE NEIGHBOUR: 'it returns false'. Refute it at one input. -/
def fnExactFirstClimbWrong : ChangeSpec := { name := "fnExactFirstClimb", fn := fun _ => fun
  | [d] => { results := [.lit (.bool false)], args := [d] }
  | _ => none }
def FnExactFirstClimbWrongFalsely : Prop := fnExactFirstClimbRow.holds Try.pinned (OpenSpec.ofChange fnExactFirstClimbWrong)

/-- 'laws.FnExactRankOfClimb': WHATEVER THE INPUT: true; the input reads as it did. -/
def fnExactRankOfClimbSpec : ChangeSpec := { name := "fnExactRankOfClimb", fn := fun _ => fun
  | [d1, d2] => { results := [.lit (.bool true)], args := [d1, d2] }
  | _ => none }
def fnExactRankOfClimbRow : OpenClaim := { program := "ytfmppcfebkmbnaa", sum := "8a1616fa252768a2f3bd076dca767bfc0747888b084608f132409c6eeaf354c1", func := "loop.example/g01374/laws.FnExactRankOfClimb", spec := "fnExactRankOfClimb", apart := false }
def FnExactRankOfClimbSaid : Prop := fnExactRankOfClimbRow.holds Try.pinned (OpenSpec.ofChange fnExactRankOfClimbSpec)

/-- ITS FALSE NEIGHBOUR: 'it returns false'. Refute it at one input. -/
def fnExactRankOfClimbWrong : ChangeSpec := { name := "fnExactRankOfClimb", fn := fun _ => fun
  | [d1, d2] => { results := [.lit (.bool false)], args := [d1, d2] }
  | _ => none }
def FnExactRankOfClimbWrongFalsely : Prop := fnExactRankOfClimbRow.holds Try.pinned (OpenSpec.ofChange fnExactRankOfClimbWrong)

/-- 'laws.FnExactWorstToBreak': WHATEVER THE INPUT: true; the input reads as it did. -/
def fnExactWorstToBreakSpec : ChangeSpec := { name := "fnExactWorstToBreak", fn := fun _ => fun
  | [d] => { results := [.lit (.bool true)], args := [d] }
  | _ => none }
def fnExactWorstToBreakRow : OpenClaim := { program := "ytfmppcfebkmbnaa", sum := "8a1616fa252768a2f3bd076dca767bfc0747888b084608f132409c6eeaf354c1", func := "loop.example/g01374/laws.FnExactWorstToBreak", spec := "fnExactWorstToBreak", apart := false }
def FnExactWorstToBreakSaid : Prop := fnExactWorstToBreakRow.holds Try.pinned (OpenSpec.ofChange fnExactWorstToBreakSpec)

/-- ITS FALSE NEIGHBOUR: 'it returns false'. Refute it at one input. -/
def fnExactWorstToBreakWrong : ChangeSpec := { name := "fnExactWorstToBreak", fn := fun _ => fun
  | [d] => { results := [.lit (.bool false)], args := [d] }
  | _ => none }
def FnExactWorstToBreakWrongFalsely : Prop := fnExactWorstToBreakRow.holds Try.pinned (OpenSpec.ofChange fnExactWorstToBreakWrong)

/- THE SECOND FORM. 'bulk': how many values and letters a reading holds, each counted each time it is reached (what is shared counts as often as it is met; a slice's spare places count too). A statement '..UptoSaid' is the law's where the arguments, and the package variables that the reading takes, are together of bulk at most 1048576: NARROWER than '..Said'. Prove '..Said' where nothing that the law and all that it calls make is longer than what came in: it says more and counts as full. Else prove '..UptoSaid'. A law counts once. -/
mutual
def uptoBulk {H : Type} : DataW H → Nat
  | .lit (.string bytes) => bytes.length + 1
  | .lit _ => 1
  | .nil => 1
  | .ptr d => uptoBulk d + 1
  | .slice elems spare => uptoBulkAll elems + uptoBulkAll spare + 1
  | .agg parts => uptoBulkAll parts + 1
  | .iface _ d => uptoBulk d + 1
  | .map entries => uptoBulkEntries entries + 1
  | .held _ => 1
def uptoBulkAll {H : Type} : List (DataW H) → Nat
  | [] => 0
  | d :: r => uptoBulk d + uptoBulkAll r
def uptoBulkEntries {H : Type} : List (Lit × DataW H) → Nat
  | [] => 0
  | x :: r => uptoBulkEntry x + uptoBulkEntries r
def uptoBulkEntry {H : Type} : Lit × DataW H → Nat
  | (.string bytes, d) => bytes.length + uptoBulk d + 1
  | (_, d) => uptoBulk d + 1
 end
def uptoSmall : (H : Type) → List (DataW H) → Bool := fun _ ds => decide (uptoBulkAll ds ≤ 1048576)
def OpenSpec.upto (s : _root_.Go.ChangeSpec) : _root_.Go.OpenSpec := { _root_.Go.OpenSpec.ofChange s with cond := some uptoSmall }

/-- 'laws.FnExactIsClimb', WHERE WHAT IT READS IS OF BULK AT MOST 1048576: true; the input reads as it did. -/
def fnExactIsClimbUptoRow : OpenClaim := { program := "ytfmppcfebkmbnaa", sum := "8a1616fa252768a2f3bd076dca767bfc0747888b084608f132409c6eeaf354c1", func := "loop.example/g01374/laws.FnExactIsClimb", spec := "fnExactIsClimb", apart := false, narrowed := true }
def FnExactIsClimbUptoSaid : Prop := fnExactIsClimbUptoRow.holds Try.pinned (OpenSpec.upto fnExactIsClimbSpec)

/-- 'laws.FnExactCountClimbs', WHERE WHAT IT READS IS OF BULK AT MOST 1048576: true; the input reads as it did. -/
def fnExactCountClimbsUptoRow : OpenClaim := { program := "ytfmppcfebkmbnaa", sum := "8a1616fa252768a2f3bd076dca767bfc0747888b084608f132409c6eeaf354c1", func := "loop.example/g01374/laws.FnExactCountClimbs", spec := "fnExactCountClimbs", apart := false, narrowed := true }
def FnExactCountClimbsUptoSaid : Prop := fnExactCountClimbsUptoRow.holds Try.pinned (OpenSpec.upto fnExactCountClimbsSpec)

/-- 'laws.FnExactMostStrides', WHERE WHAT IT READS IS OF BULK AT MOST 1048576: true; the input reads as it did. -/
def fnExactMostStridesUptoRow : OpenClaim := { program := "ytfmppcfebkmbnaa", sum := "8a1616fa252768a2f3bd076dca767bfc0747888b084608f132409c6eeaf354c1", func := "loop.example/g01374/laws.FnExactMostStrides", spec := "fnExactMostStrides", apart := false, narrowed := true }
def FnExactMostStridesUptoSaid : Prop := fnExactMostStridesUptoRow.holds Try.pinned (OpenSpec.upto fnExactMostStridesSpec)

/-- 'laws.FnExactFewestStrides', WHERE WHAT IT READS IS OF BULK AT MOST 1048576: true; the input reads as it did. -/
def fnExactFewestStridesUptoRow : OpenClaim := { program := "ytfmppcfebkmbnaa", sum := "8a1616fa252768a2f3bd076dca767bfc0747888b084608f132409c6eeaf354c1", func := "loop.example/g01374/laws.FnExactFewestStrides", spec := "fnExactFewestStrides", unfollowed := true, recurses := true, apart := false, narrowed := true }
def FnExactFewestStridesUptoSaid : Prop := fnExactFewestStridesUptoRow.holds Try.pinned (OpenSpec.upto fnExactFewestStridesSpec)

/-- 'laws.FnExactStepsOfClimb', WHERE WHAT IT READS IS OF BULK AT MOST 1048576: true; the input reads as it did. -/
def fnExactStepsOfClimbUptoRow : OpenClaim := { program := "ytfmppcfebkmbnaa", sum := "8a1616fa252768a2f3bd076dca767bfc0747888b084608f132409c6eeaf354c1", func := "loop.example/g01374/laws.FnExactStepsOfClimb", spec := "fnExactStepsOfClimb", apart := false, narrowed := true }
def FnExactStepsOfClimbUptoSaid : Prop := fnExactStepsOfClimbUptoRow.holds Try.pinned (OpenSpec.upto fnExactStepsOfClimbSpec)

/-- 'laws.FnExactFirstWearClimb', WHERE WHAT IT READS IS OF BULK AT MOST 1048576: true; the input reads as it did. -/
def fnExactFirstWearClimbUptoRow : OpenClaim := { program := "ytfmppcfebkmbnaa", sum := "8a1616fa252768a2f3bd076dca767bfc0747888b084608f132409c6eeaf354c1", func := "loop.example/g01374/laws.FnExactFirstWearClimb", spec := "fnExactFirstWearClimb", unfollowed := true, recurses := true, apart := false, narrowed := true }
def FnExactFirstWearClimbUptoSaid : Prop := fnExactFirstWearClimbUptoRow.holds Try.pinned (OpenSpec.upto fnExactFirstWearClimbSpec)

/-- 'laws.FnExactFirstFewest', WHERE WHAT IT READS IS OF BULK AT MOST 1048576: true; the input reads as it did. -/
def fnExactFirstFewestUptoRow : OpenClaim := { program := "ytfmppcfebkmbnaa", sum := "8a1616fa252768a2f3bd076dca767bfc0747888b084608f132409c6eeaf354c1", func := "loop.example/g01374/laws.FnExactFirstFewest", spec := "fnExactFirstFewest", apart := false, narrowed := true }
def FnExactFirstFewestUptoSaid : Prop := fnExactFirstFewestUptoRow.holds Try.pinned (OpenSpec.upto fnExactFirstFewestSpec)

/-- 'laws.FnExactClimbsThrough', WHERE WHAT IT READS IS OF BULK AT MOST 1048576: true; the input reads as it did. -/
def fnExactClimbsThroughUptoRow : OpenClaim := { program := "ytfmppcfebkmbnaa", sum := "8a1616fa252768a2f3bd076dca767bfc0747888b084608f132409c6eeaf354c1", func := "loop.example/g01374/laws.FnExactClimbsThrough", spec := "fnExactClimbsThrough", apart := false, narrowed := true }
def FnExactClimbsThroughUptoSaid : Prop := fnExactClimbsThroughUptoRow.holds Try.pinned (OpenSpec.upto fnExactClimbsThroughSpec)

/-- 'laws.FnExactCountByStrides', WHERE WHAT IT READS IS OF BULK AT MOST 1048576: true; the input reads as it did. -/
def fnExactCountByStridesUptoRow : OpenClaim := { program := "ytfmppcfebkmbnaa", sum := "8a1616fa252768a2f3bd076dca767bfc0747888b084608f132409c6eeaf354c1", func := "loop.example/g01374/laws.FnExactCountByStrides", spec := "fnExactCountByStrides", apart := false, narrowed := true }
def FnExactCountByStridesUptoSaid : Prop := fnExactCountByStridesUptoRow.holds Try.pinned (OpenSpec.upto fnExactCountByStridesSpec)

/-- 'laws.FnExactFirstClimb', WHERE WHAT IT READS IS OF BULK AT MOST 1048576: true; the input reads as it did. -/
def fnExactFirstClimbUptoRow : OpenClaim := { program := "ytfmppcfebkmbnaa", sum := "8a1616fa252768a2f3bd076dca767bfc0747888b084608f132409c6eeaf354c1", func := "loop.example/g01374/laws.FnExactFirstClimb", spec := "fnExactFirstClimb", apart := false, narrowed := true }
def FnExactFirstClimbUptoSaid : Prop := fnExactFirstClimbUptoRow.holds Try.pinned (OpenSpec.upto fnExactFirstClimbSpec)

/-- 'laws.FnExactRankOfClimb', WHERE WHAT IT READS IS OF BULK AT MOST 1048576: true; the input reads as it did. -/
def fnExactRankOfClimbUptoRow : OpenClaim := { program := "ytfmppcfebkmbnaa", sum := "8a1616fa252768a2f3bd076dca767bfc0747888b084608f132409c6eeaf354c1", func := "loop.example/g01374/laws.FnExactRankOfClimb", spec := "fnExactRankOfClimb", apart := false, narrowed := true }
def FnExactRankOfClimbUptoSaid : Prop := fnExactRankOfClimbUptoRow.holds Try.pinned (OpenSpec.upto fnExactRankOfClimbSpec)

/-- 'laws.FnExactWorstToBreak', WHERE WHAT IT READS IS OF BULK AT MOST 1048576: true; the input reads as it did. -/
def fnExactWorstToBreakUptoRow : OpenClaim := { program := "ytfmppcfebkmbnaa", sum := "8a1616fa252768a2f3bd076dca767bfc0747888b084608f132409c6eeaf354c1", func := "loop.example/g01374/laws.FnExactWorstToBreak", spec := "fnExactWorstToBreak", apart := false, narrowed := true }
def FnExactWorstToBreakUptoSaid : Prop := fnExactWorstToBreakUptoRow.holds Try.pinned (OpenSpec.upto fnExactWorstToBreakSpec)

end Rows
end Go.Proofs.Ytfmppcfebkmbnaa
