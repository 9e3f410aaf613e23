/-
  No cell of these rows narrows 'for every input' (looked for: loops, veiled, ifaces, maps, wideKeys, modest, calm, conditions, laid).
  DERIVED. THE GIVEN ROWS OF THIS SEAT. 3 by the template 'for every input the law returns true; each argument reads behind the call as it read before'; 0 by the template 'total and deterministic' (their statements: YtbeokaghdagabaaTotals.lean).
  GIVEN WITH THE SEED: the statements are not yours to turn. If you find one false, say at which input.
  Laid BY PROGRAM, IN A SANDBOX (cutbox-rows.mjs): the forced cells as the released guide's own fill.sh prints them over the translation 0dc07d80e55994b5… (all of the seat's roots in one cut). By AI agents, Wed Nov 11 2026. No macro, syntax, notation, axiom, sorry.
-/
import Derived.Test.YtbeokaghdagabaaChecked
import GoSem.Claim
import GoSem.ClaimJoined
import GoSem.ClaimMapViews
import Derived.JoinedTies
import Derived.KernelRfl
namespace Go.Proofs.Ytbeokaghdagabaa
/- THE CELL 'sum', in the pinned program and in every row, IS THE sha256 OF THE DUMP (.gsa) THAT YtbeokaghdagabaaProg.lean LOADS. Nothing in Lean hashes anything: it is a label: what it is worth is what the hold of that sum in a sandbox is worth. -/
noncomputable def Try.pinned : Pinned := { name := "ytbeokaghdagabaa", sum := "0dc07d80e55994b5c15420097ccbc58940a56ce3e6803ec3d56dfc32c1d67d0b", checked := Try.checked }
namespace Rows
def none {H : Type} : Left H := { results := [], args := [] }

/-- 'laws.FnExactClimbOfRank': WHATEVER THE INPUT: true; the input reads as it did. -/
def fnExactClimbOfRankSpec : ChangeSpec := { name := "fnExactClimbOfRank", fn := fun _ => fun
  | [d1, d2] => { results := [.lit (.bool true)], args := [d1, d2] }
  | _ => none }
def fnExactClimbOfRankRow : OpenClaim := { program := "ytbeokaghdagabaa", sum := "0dc07d80e55994b5c15420097ccbc58940a56ce3e6803ec3d56dfc32c1d67d0b", func := "loop.example/g01374/laws.FnExactClimbOfRank", spec := "fnExactClimbOfRank", apart := false }
def FnExactClimbOfRankSaid : Prop := fnExactClimbOfRankRow.holds Try.pinned (OpenSpec.ofChange fnExactClimbOfRankSpec)

/-- ITS FALSE NEIGHBOUR: 'it returns false'. Refute it at one input. -/
def fnExactClimbOfRankWrong : ChangeSpec := { name := "fnExactClimbOfRank", fn := fun _ => fun
  | [d1, d2] => { results := [.lit (.bool false)], args := [d1, d2] }
  | _ => none }
def FnExactClimbOfRankWrongFalsely : Prop := fnExactClimbOfRankRow.holds Try.pinned (OpenSpec.ofChange fnExactClimbOfRankWrong)

/-- 'laws.FnExactNextClimb': WHATEVER THE INPUT: true; the input reads as it did. -/
def fnExactNextClimbSpec : ChangeSpec := { name := "fnExactNextClimb", fn := fun _ => fun
  | [d1, d2] => { results := [.lit (.bool true)], args := [d1, d2] }
  | _ => none }
def fnExactNextClimbRow : OpenClaim := { program := "ytbeokaghdagabaa", sum := "0dc07d80e55994b5c15420097ccbc58940a56ce3e6803ec3d56dfc32c1d67d0b", func := "loop.example/g01374/laws.FnExactNextClimb", spec := "fnExactNextClimb", apart := false }
def FnExactNextClimbSaid : Prop := fnExactNextClimbRow.holds Try.pinned (OpenSpec.ofChange fnExactNextClimbSpec)

/-- ITS FALSE NEIGHBOUR: 'it returns false'. Refute it at one input. -/
def fnExactNextClimbWrong : ChangeSpec := { name := "fnExactNextClimb", fn := fun _ => fun
  | [d1, d2] => { results := [.lit (.bool false)], args := [d1, d2] }
  | _ => none }
def FnExactNextClimbWrongFalsely : Prop := fnExactNextClimbRow.holds Try.pinned (OpenSpec.ofChange fnExactNextClimbWrong)

/-- 'laws.FnStepsMendedOfAll': WHATEVER THE INPUT: true; the input reads as it did. -/
def fnStepsMendedOfAllSpec : ChangeSpec := { name := "fnStepsMendedOfAll", fn := fun _ => fun
  | [d1, d2, d3, d4, d5, d6, d7] => { results := [.lit (.bool true)], args := [d1, d2, d3, d4, d5, d6, d7] }
  | _ => none }
def fnStepsMendedOfAllRow : OpenClaim := { program := "ytbeokaghdagabaa", sum := "0dc07d80e55994b5c15420097ccbc58940a56ce3e6803ec3d56dfc32c1d67d0b", func := "loop.example/g01374/laws.FnStepsMendedOfAll", spec := "fnStepsMendedOfAll", unfollowed := true, recurses := true, apart := false }
def FnStepsMendedOfAllSaid : Prop := fnStepsMendedOfAllRow.holds Try.pinned (OpenSpec.ofChange fnStepsMendedOfAllSpec)

/-- ITS FALSE NEIGHBOUR: 'it returns false'. Refute it at one input. -/
def fnStepsMendedOfAllWrong : ChangeSpec := { name := "fnStepsMendedOfAll", fn := fun _ => fun
  | [d1, d2, d3, d4, d5, d6, d7] => { results := [.lit (.bool false)], args := [d1, d2, d3, d4, d5, d6, d7] }
  | _ => none }
def FnStepsMendedOfAllWrongFalsely : Prop := fnStepsMendedOfAllRow.holds Try.pinned (OpenSpec.ofChange fnStepsMendedOfAllWrong)

/- THE SECOND FORM. 'bulk': how many values and letters a reading holds, each counted each time it is reached (what is shared counts as often as it is met; a slice's spare places count too). A statement '..UptoSaid' is the law's where the arguments, and the package variables that the reading takes, are together of bulk at most 1048576: NARROWER than '..Said'. Prove '..Said' where nothing that the law and all that it calls make is longer than what came in: it says more and counts as full. Else prove '..UptoSaid'. A law counts once. -/
mutual
def uptoBulk {H : Type} : DataW H → Nat
  | .lit (.string bytes) => bytes.length + 1
  | .lit _ => 1
  | .nil => 1
  | .ptr d => uptoBulk d + 1
  | .slice elems spare => uptoBulkAll elems + uptoBulkAll spare + 1
  | .agg parts => uptoBulkAll parts + 1
  | .iface _ d => uptoBulk d + 1
  | .map entries => uptoBulkEntries entries + 1
  | .held _ => 1
def uptoBulkAll {H : Type} : List (DataW H) → Nat
  | [] => 0
  | d :: r => uptoBulk d + uptoBulkAll r
def uptoBulkEntries {H : Type} : List (Lit × DataW H) → Nat
  | [] => 0
  | x :: r => uptoBulkEntry x + uptoBulkEntries r
def uptoBulkEntry {H : Type} : Lit × DataW H → Nat
  | (.string bytes, d) => bytes.length + uptoBulk d + 1
  | (_, d) => uptoBulk d + 1
 end
def uptoSmall : (H : Type) → List (DataW H) → Bool := fun _ ds => decide (uptoBulkAll ds ≤ 1048576)
def OpenSpec.upto (s : _root_.Go.ChangeSpec) : _root_.Go.OpenSpec := { _root_.Go.OpenSpec.ofChange s with cond := some uptoSmall }

/-- 'laws.FnExactClimbOfRank', WHERE WHAT IT READS IS OF BULK AT MOST 1048576: true; the input reads as it did. -/
def fnExactClimbOfRankUptoRow : OpenClaim := { program := "ytbeokaghdagabaa", sum := "0dc07d80e55994b5c15420097ccbc58940a56ce3e6803ec3d56dfc32c1d67d0b", func := "loop.example/g01374/laws.FnExactClimbOfRank", spec := "fnExactClimbOfRank", apart := false, narrowed := true }
def FnExactClimbOfRankUptoSaid : Prop := fnExactClimbOfRankUptoRow.holds Try.pinned (OpenSpec.upto fnExactClimbOfRankSpec)

/-- 'laws.FnExactNextClimb', WHERE WHAT IT READS IS OF BULK AT MOST 1048576: true; the input reads as it did. -/
def fnExactNextClimbUptoRow : OpenClaim := { program := "ytbeokaghdagabaa", sum := "0dc07d80e55994b5c15420097ccbc58940a56ce3e6803ec3d56dfc32c1d67d0b", func := "loop.example/g01374/laws.FnExactNextClimb", spec := "fnExactNextClimb", apart := false, narrowed := true }
def FnExactNextClimbUptoSaid : Prop := fnExactNextClimbUptoRow.holds Try.pinned (OpenSpec.upto fnExactNextClimbSpec)

/-- 'laws.FnStepsMendedOfAll', WHERE WHAT IT READS IS OF BULK AT MOST 1048576: true; the input reads as it did. -/
def fnStepsMendedOfAllUptoRow : OpenClaim := { program := "ytbeokaghdagabaa", sum := "0dc07d80e55994b5c15420097ccbc58940a56ce3e6803ec3d56dfc32c1d67d0b", func := "loop.example/g01374/laws.FnStepsMendedOfAll", spec := "fnStepsMendedOfAll", unfollowed := true, recurses := true, apart := false, narrowed := true }
def FnStepsMendedOfAllUptoSaid : Prop := fnStepsMendedOfAllUptoRow.holds Try.pinned (OpenSpec.upto fnStepsMendedOfAllSpec)

end Rows
end Go.Proofs.Ytbeokaghdagabaa
