/-
  DERIVED. GIVEN WITH THE SEED: THE CARDS: each row of YtdpajapkhembcaaGreatDoorRows.lean that lists a variable, with what it lists TIED to the program's text (the seventh form; the later family's looks); each row that meets fmt, with fmt's text TOLD by the authors' own Lean function (tested against real Go, not proved from fmt's source: count such statements apart). THE CARD IS WHAT COUNTS. Prove the row's statement (the work); the ties are given (YtdpajapkhembcaaGreatDoorTie.lean); close each card by the builder's one call (the guide's Derived/Test/ToyasCard.lean, 'card_holds'). Laid BY PROGRAM, IN A SANDBOX (cutbox-door.mjs). By AI agents, Wed Nov 11 2026. No macro, syntax, notation, axiom, sorry.
-/
import Derived.Test.YtdpajapkhembcaaGreatDoorRows
import GoSem.ClaimSeven
namespace Go.Proofs.YtdpajapkhembcaaGreatDoor
namespace Rows

/-- THE TIED CARD OF 'skylanternlaw45.WeatherHolds'. -/
def weatherHoldsCard : Claim7 := { stood := { row := weatherHoldsRow, standIns := [], harness := (true, "c7115e6304f0fa0f18af87394c4f05a174a62606756e53fc84daa577d3943521"), looks := false }, kinds := [], alts := [], laidByText := true, laidKinds := [.data, .data], laidTests := true, laidLooks := .later }
def WeatherHoldsCardSaid : Prop := Claim7.holds Tryz.pinned (.plain (OpenSpec.ofChange weatherHoldsSpec)) weatherHoldsCard

/-- THE TIED CARD OF 'skylanternlaw45.WeatherMoves'. -/
def weatherMovesCard : Claim7 := { stood := { row := weatherMovesRow, standIns := [], harness := (true, "c7115e6304f0fa0f18af87394c4f05a174a62606756e53fc84daa577d3943521"), looks := false }, kinds := [], alts := [], laidByText := true, laidKinds := [.data, .data], laidTests := true, laidLooks := .later }
def WeatherMovesCardSaid : Prop := Claim7.holds Tryz.pinned (.plain (OpenSpec.ofChange weatherMovesSpec)) weatherMovesCard

/-- THE TIED CARD OF 'skylanternlaw45.WeatherWorst'. -/
def weatherWorstCard : Claim7 := { stood := { row := weatherWorstRow, standIns := [], harness := (true, "c7115e6304f0fa0f18af87394c4f05a174a62606756e53fc84daa577d3943521"), looks := false }, kinds := [], alts := [], laidByText := true, laidKinds := [.data, .data], laidTests := true, laidLooks := .later }
def WeatherWorstCardSaid : Prop := Claim7.holds Tryz.pinned (.plain (OpenSpec.ofChange weatherWorstSpec)) weatherWorstCard

/-- THE TIED CARD OF 'skylanternlaw45.WeatherDecides'. -/
def weatherDecidesCard : Claim7 := { stood := { row := weatherDecidesRow, standIns := [], harness := (true, "c7115e6304f0fa0f18af87394c4f05a174a62606756e53fc84daa577d3943521"), looks := false }, kinds := [], alts := [], laidByText := true, laidKinds := [.data, .data], laidTests := true, laidLooks := .later }
def WeatherDecidesCardSaid : Prop := Claim7.holds Tryz.pinned (.plain (OpenSpec.ofChange weatherDecidesSpec)) weatherDecidesCard

/-- THE TIED CARD OF 'skylanternlaw45.WeatherTables'. -/
def weatherTablesCard : Claim7 := { stood := { row := weatherTablesRow, standIns := [], harness := (true, "c7115e6304f0fa0f18af87394c4f05a174a62606756e53fc84daa577d3943521"), looks := false }, kinds := [], alts := [], laidByText := true, laidKinds := [.data, .data], laidTests := true, laidLooks := .later }
def WeatherTablesCardSaid : Prop := Claim7.holds Tryz.pinned (.plain (OpenSpec.ofChange weatherTablesSpec)) weatherTablesCard

/-- THE SECOND FORM's CARD OF 'skylanternlaw45.WeatherHolds'. -/
def weatherHoldsUptoCard : Claim7 := { stood := { row := weatherHoldsUptoRow, standIns := [], harness := (true, "c7115e6304f0fa0f18af87394c4f05a174a62606756e53fc84daa577d3943521"), looks := false }, kinds := [], alts := [], laidByText := true, laidKinds := [.data, .data], laidTests := true, laidLooks := .later }
def WeatherHoldsUptoCardSaid : Prop := Claim7.holds Tryz.pinned (.plain (OpenSpec.upto weatherHoldsSpec)) weatherHoldsUptoCard

/-- THE SECOND FORM's CARD OF 'skylanternlaw45.WeatherMoves'. -/
def weatherMovesUptoCard : Claim7 := { stood := { row := weatherMovesUptoRow, standIns := [], harness := (true, "c7115e6304f0fa0f18af87394c4f05a174a62606756e53fc84daa577d3943521"), looks := false }, kinds := [], alts := [], laidByText := true, laidKinds := [.data, .data], laidTests := true, laidLooks := .later }
def WeatherMovesUptoCardSaid : Prop := Claim7.holds Tryz.pinned (.plain (OpenSpec.upto weatherMovesSpec)) weatherMovesUptoCard

/-- THE SECOND FORM's CARD OF 'skylanternlaw45.WeatherWorst'. -/
def weatherWorstUptoCard : Claim7 := { stood := { row := weatherWorstUptoRow, standIns := [], harness := (true, "c7115e6304f0fa0f18af87394c4f05a174a62606756e53fc84daa577d3943521"), looks := false }, kinds := [], alts := [], laidByText := true, laidKinds := [.data, .data], laidTests := true, laidLooks := .later }
def WeatherWorstUptoCardSaid : Prop := Claim7.holds Tryz.pinned (.plain (OpenSpec.upto weatherWorstSpec)) weatherWorstUptoCard

/-- THE SECOND FORM's CARD OF 'skylanternlaw45.WeatherDecides'. -/
def weatherDecidesUptoCard : Claim7 := { stood := { row := weatherDecidesUptoRow, standIns := [], harness := (true, "c7115e6304f0fa0f18af87394c4f05a174a62606756e53fc84daa577d3943521"), looks := false }, kinds := [], alts := [], laidByText := true, laidKinds := [.data, .data], laidTests := true, laidLooks := .later }
def WeatherDecidesUptoCardSaid : Prop := Claim7.holds Tryz.pinned (.plain (OpenSpec.upto weatherDecidesSpec)) weatherDecidesUptoCard

/-- THE SECOND FORM's CARD OF 'skylanternlaw45.WeatherTables'. -/
def weatherTablesUptoCard : Claim7 := { stood := { row := weatherTablesUptoRow, standIns := [], harness := (true, "c7115e6304f0fa0f18af87394c4f05a174a62606756e53fc84daa577d3943521"), looks := false }, kinds := [], alts := [], laidByText := true, laidKinds := [.data, .data], laidTests := true, laidLooks := .later }
def WeatherTablesUptoCardSaid : Prop := Claim7.holds Tryz.pinned (.plain (OpenSpec.upto weatherTablesSpec)) weatherTablesUptoCard
end Rows
end Go.Proofs.YtdpajapkhembcaaGreatDoor
