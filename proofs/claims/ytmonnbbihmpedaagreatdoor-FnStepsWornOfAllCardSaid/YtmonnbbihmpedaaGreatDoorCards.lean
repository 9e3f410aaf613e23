/-
  DERIVED. GIVEN WITH THE SEED: THE CARDS: each row of YtmonnbbihmpedaaGreatDoorRows.lean that lists a variable, with what it lists TIED to the program's text (the seventh form; the later family's looks); each row that meets fmt, with fmt's text TOLD by the authors' own Lean function (tested against real Go, not proved from fmt's source: count such statements apart). THE CARD IS WHAT COUNTS. Prove the row's statement (the work); the ties are given (YtmonnbbihmpedaaGreatDoorTie.lean); close each card by the builder's one call (the guide's Derived/Test/ToyasCard.lean, 'card_holds'). Laid BY PROGRAM, IN A SANDBOX (cutbox-door.mjs). By AI agents, Wed Nov 11 2026. No macro, syntax, notation, axiom, sorry.
-/
import Derived.Test.YtmonnbbihmpedaaGreatDoorRows
import GoSem.ClaimSeven
namespace Go.Proofs.YtmonnbbihmpedaaGreatDoor
namespace Rows

/-- THE TIED CARD OF 'laws.FnStepsWornOfAll'. -/
def fnStepsWornOfAllCard : Claim7 := { stood := { row := fnStepsWornOfAllRow, standIns := [], harness := (true, "73b6996c0d62f0b0322f7faca04920623756e2cc4349b2f2bbb16a1abc7715ab"), looks := true }, kinds := [], alts := [], laidByText := true, laidKinds := [.data, .data, .data, .data, .sentinel, .sentinel, .pinned], laidTests := true, laidLooks := .later }
def FnStepsWornOfAllCardSaid : Prop := Claim7.holds Tryz.pinned (.plain (OpenSpec.ofChange fnStepsWornOfAllSpec)) fnStepsWornOfAllCard

/-- THE SECOND FORM's CARD OF 'laws.FnStepsWornOfAll'. -/
def fnStepsWornOfAllUptoCard : Claim7 := { stood := { row := fnStepsWornOfAllUptoRow, standIns := [], harness := (true, "73b6996c0d62f0b0322f7faca04920623756e2cc4349b2f2bbb16a1abc7715ab"), looks := true }, kinds := [], alts := [], laidByText := true, laidKinds := [.data, .data, .data, .data, .sentinel, .sentinel, .pinned], laidTests := true, laidLooks := .later }
def FnStepsWornOfAllUptoCardSaid : Prop := Claim7.holds Tryz.pinned (.plain (OpenSpec.upto fnStepsWornOfAllSpec)) fnStepsWornOfAllUptoCard
end Rows
end Go.Proofs.YtmonnbbihmpedaaGreatDoor
