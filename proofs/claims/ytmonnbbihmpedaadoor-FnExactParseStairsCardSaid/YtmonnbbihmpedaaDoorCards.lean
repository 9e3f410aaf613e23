/-
  DERIVED. GIVEN WITH THE SEED: THE CARDS: each row of YtmonnbbihmpedaaDoorRows.lean that lists a variable, with what it lists TIED to the program's text (the seventh form; the later family's looks); each row that meets fmt, with fmt's text TOLD by the authors' own Lean function (tested against real Go, not proved from fmt's source: count such statements apart). THE CARD IS WHAT COUNTS. Prove the row's statement (the work); the ties are given (YtmonnbbihmpedaaDoorTie.lean); close each card by the builder's one call (the guide's Derived/Test/ToyasCard.lean, 'card_holds'). Laid BY PROGRAM, IN A SANDBOX (cutbox-door.mjs). By AI agents, Wed Nov 11 2026. No macro, syntax, notation, axiom, sorry.
-/
import Derived.Test.YtmonnbbihmpedaaDoorRows
import GoSem.ClaimSeven
namespace Go.Proofs.YtmonnbbihmpedaaDoor
namespace Rows

/-- THE TIED CARD OF 'laws.FnExactParseBears'. -/
def fnExactParseBearsCard : Claim7 := { stood := { row := fnExactParseBearsRow, standIns := [], harness := (true, "064bb68196f5260208fc04deab3c76f8e5e61f448039346ba6e8fb47306534cf"), looks := true }, kinds := [], alts := [], laidByText := true, laidKinds := [.data, .data, .data, .data, .sentinel, .sentinel, .pinned], laidTests := true, laidLooks := .later }
def FnExactParseBearsCardSaid : Prop := Claim7.holds Tryd.pinned (.plain (OpenSpec.ofChange fnExactParseBearsSpec)) fnExactParseBearsCard

/-- THE TIED CARD OF 'laws.FnExactParseStairs'. -/
def fnExactParseStairsCard : Claim7 := { stood := { row := fnExactParseStairsRow, standIns := [], harness := (true, "064bb68196f5260208fc04deab3c76f8e5e61f448039346ba6e8fb47306534cf"), looks := true }, kinds := [], alts := [], laidByText := true, laidKinds := [.data, .data, .data, .data, .sentinel, .sentinel, .pinned], laidTests := true, laidLooks := .later }
def FnExactParseStairsCardSaid : Prop := Claim7.holds Tryd.pinned (.plain (OpenSpec.ofChange fnExactParseStairsSpec)) fnExactParseStairsCard

/-- THE TIED CARD OF 'laws.FnExactBearsText'. -/
def fnExactBearsTextCard : Claim7 := { stood := { row := fnExactBearsTextRow, standIns := [], harness := (true, "064bb68196f5260208fc04deab3c76f8e5e61f448039346ba6e8fb47306534cf"), looks := true }, kinds := [], alts := [], laidByText := true, laidKinds := [.data, .data, .data], laidTests := true, laidLooks := .later }
def FnExactBearsTextCardSaid : Prop := Claim7.holds Tryd.pinned (.plain (OpenSpec.ofChange fnExactBearsTextSpec)) fnExactBearsTextCard

/-- THE TIED CARD OF 'laws.FnExactStairsText'. -/
def fnExactStairsTextCard : Claim7 := { stood := { row := fnExactStairsTextRow, standIns := [], harness := (true, "064bb68196f5260208fc04deab3c76f8e5e61f448039346ba6e8fb47306534cf"), looks := true }, kinds := [], alts := [], laidByText := true, laidKinds := [.data, .data, .data], laidTests := true, laidLooks := .later }
def FnExactStairsTextCardSaid : Prop := Claim7.holds Tryd.pinned (.plain (OpenSpec.ofChange fnExactStairsTextSpec)) fnExactStairsTextCard

/-- THE SECOND FORM's CARD OF 'laws.FnExactParseBears'. -/
def fnExactParseBearsUptoCard : Claim7 := { stood := { row := fnExactParseBearsUptoRow, standIns := [], harness := (true, "064bb68196f5260208fc04deab3c76f8e5e61f448039346ba6e8fb47306534cf"), looks := true }, kinds := [], alts := [], laidByText := true, laidKinds := [.data, .data, .data, .data, .sentinel, .sentinel, .pinned], laidTests := true, laidLooks := .later }
def FnExactParseBearsUptoCardSaid : Prop := Claim7.holds Tryd.pinned (.plain (OpenSpec.upto fnExactParseBearsSpec)) fnExactParseBearsUptoCard

/-- THE SECOND FORM's CARD OF 'laws.FnExactParseStairs'. -/
def fnExactParseStairsUptoCard : Claim7 := { stood := { row := fnExactParseStairsUptoRow, standIns := [], harness := (true, "064bb68196f5260208fc04deab3c76f8e5e61f448039346ba6e8fb47306534cf"), looks := true }, kinds := [], alts := [], laidByText := true, laidKinds := [.data, .data, .data, .data, .sentinel, .sentinel, .pinned], laidTests := true, laidLooks := .later }
def FnExactParseStairsUptoCardSaid : Prop := Claim7.holds Tryd.pinned (.plain (OpenSpec.upto fnExactParseStairsSpec)) fnExactParseStairsUptoCard

/-- THE SECOND FORM's CARD OF 'laws.FnExactBearsText'. -/
def fnExactBearsTextUptoCard : Claim7 := { stood := { row := fnExactBearsTextUptoRow, standIns := [], harness := (true, "064bb68196f5260208fc04deab3c76f8e5e61f448039346ba6e8fb47306534cf"), looks := true }, kinds := [], alts := [], laidByText := true, laidKinds := [.data, .data, .data], laidTests := true, laidLooks := .later }
def FnExactBearsTextUptoCardSaid : Prop := Claim7.holds Tryd.pinned (.plain (OpenSpec.upto fnExactBearsTextSpec)) fnExactBearsTextUptoCard

/-- THE SECOND FORM's CARD OF 'laws.FnExactStairsText'. -/
def fnExactStairsTextUptoCard : Claim7 := { stood := { row := fnExactStairsTextUptoRow, standIns := [], harness := (true, "064bb68196f5260208fc04deab3c76f8e5e61f448039346ba6e8fb47306534cf"), looks := true }, kinds := [], alts := [], laidByText := true, laidKinds := [.data, .data, .data], laidTests := true, laidLooks := .later }
def FnExactStairsTextUptoCardSaid : Prop := Claim7.holds Tryd.pinned (.plain (OpenSpec.upto fnExactStairsTextSpec)) fnExactStairsTextUptoCard
end Rows
end Go.Proofs.YtmonnbbihmpedaaDoor
