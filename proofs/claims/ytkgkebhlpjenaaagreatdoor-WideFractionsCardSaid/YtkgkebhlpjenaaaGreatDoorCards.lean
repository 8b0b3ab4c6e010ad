/-
  DERIVED. GIVEN WITH THE SEED: THE CARDS: each row of YtkgkebhlpjenaaaGreatDoorRows.lean that lists a variable, with what it lists TIED to the program's text (the seventh form; the later family's looks); each row that meets fmt, with fmt's text TOLD by the authors' own Lean function (tested against real Go, not proved from fmt's source: count such statements apart). THE CARD IS WHAT COUNTS. Prove the row's statement (the work); the ties are given (YtkgkebhlpjenaaaGreatDoorTie.lean); close each card by the builder's one call (the guide's Derived/Test/ToyasCard.lean, 'card_holds'). Laid BY PROGRAM, IN A SANDBOX (cutbox-door.mjs). By AI agents, Wed Nov 11 2026. No macro, syntax, notation, axiom, sorry.
-/
import Derived.Test.YtkgkebhlpjenaaaGreatDoorRows
import GoSem.ClaimSeven
namespace Go.Proofs.YtkgkebhlpjenaaaGreatDoor
namespace Rows

/-- THE TIED CARD OF 'skylanternlaw01.WideShifts'. -/
def wideShiftsCard : Claim7 := { stood := { row := wideShiftsRow, standIns := [], harness := (true, "05cb10e137691742f13bcec0437ba9cb46ce5491bde8dcc13fd22383c2b9d459"), looks := true }, kinds := [], alts := [], laidByText := true, laidKinds := [.data, .data, .data, .sentinel, .sentinel], laidTests := true, laidLooks := .later }
def WideShiftsCardSaid : Prop := Claim7.holds Tryz.pinned (.plain (OpenSpec.ofChange wideShiftsSpec)) wideShiftsCard

/-- THE TIED CARD OF 'skylanternlaw01.WideRatios'. -/
def wideRatiosCard : Claim7 := { stood := { row := wideRatiosRow, standIns := [], harness := (true, "05cb10e137691742f13bcec0437ba9cb46ce5491bde8dcc13fd22383c2b9d459"), looks := true }, kinds := [], alts := [], laidByText := true, laidKinds := [.data, .data, .data, .sentinel, .sentinel], laidTests := true, laidLooks := .later }
def WideRatiosCardSaid : Prop := Claim7.holds Tryz.pinned (.plain (OpenSpec.ofChange wideRatiosSpec)) wideRatiosCard

/-- THE TIED CARD OF 'skylanternlaw01.WideProducts'. -/
def wideProductsCard : Claim7 := { stood := { row := wideProductsRow, standIns := [], harness := (true, "05cb10e137691742f13bcec0437ba9cb46ce5491bde8dcc13fd22383c2b9d459"), looks := true }, kinds := [], alts := [], laidByText := true, laidKinds := [.data, .data, .data, .sentinel, .sentinel], laidTests := true, laidLooks := .later }
def WideProductsCardSaid : Prop := Claim7.holds Tryz.pinned (.plain (OpenSpec.ofChange wideProductsSpec)) wideProductsCard

/-- THE TIED CARD OF 'skylanternlaw01.WideFractions'. -/
def wideFractionsCard : Claim7 := { stood := { row := wideFractionsRow, standIns := [], harness := (true, "05cb10e137691742f13bcec0437ba9cb46ce5491bde8dcc13fd22383c2b9d459"), looks := true }, kinds := [], alts := [], laidByText := true, laidKinds := [.data, .data, .data, .sentinel, .sentinel], laidTests := true, laidLooks := .later }
def WideFractionsCardSaid : Prop := Claim7.holds Tryz.pinned (.plain (OpenSpec.ofChange wideFractionsSpec)) wideFractionsCard

/-- THE TIED CARD OF 'skylanternlaw01.WideSums'. -/
def wideSumsCard : Claim7 := { stood := { row := wideSumsRow, standIns := [], harness := (true, "05cb10e137691742f13bcec0437ba9cb46ce5491bde8dcc13fd22383c2b9d459"), looks := true }, kinds := [], alts := [], laidByText := true, laidKinds := [.data, .data, .data, .sentinel, .sentinel], laidTests := true, laidLooks := .later }
def WideSumsCardSaid : Prop := Claim7.holds Tryz.pinned (.plain (OpenSpec.ofChange wideSumsSpec)) wideSumsCard

/-- THE TIED CARD OF 'skylanternlaw01.WideTexts'. -/
def wideTextsCard : Claim7 := { stood := { row := wideTextsRow, standIns := [], harness := (true, "05cb10e137691742f13bcec0437ba9cb46ce5491bde8dcc13fd22383c2b9d459"), looks := true }, kinds := [], alts := [], laidByText := true, laidKinds := [.data, .data, .data, .sentinel, .sentinel], laidTests := true, laidLooks := .later }
def WideTextsCardSaid : Prop := Claim7.holds Tryz.pinned (.plain (OpenSpec.ofChange wideTextsSpec)) wideTextsCard

/-- THE TIED CARD OF 'skylanternlaw01.WideLimits'. -/
def wideLimitsCard : Claim7 := { stood := { row := wideLimitsRow, standIns := [], harness := (true, "05cb10e137691742f13bcec0437ba9cb46ce5491bde8dcc13fd22383c2b9d459"), looks := true }, kinds := [], alts := [], laidByText := true, laidKinds := [.data, .data, .data, .sentinel, .sentinel], laidTests := true, laidLooks := .later }
def WideLimitsCardSaid : Prop := Claim7.holds Tryz.pinned (.plain (OpenSpec.ofChange wideLimitsSpec)) wideLimitsCard

/-- THE TIED CARD OF 'skylanternlaw01.WideHolds'. -/
def wideHoldsCard : Claim7 := { stood := { row := wideHoldsRow, standIns := [], harness := (true, "05cb10e137691742f13bcec0437ba9cb46ce5491bde8dcc13fd22383c2b9d459"), looks := true }, kinds := [], alts := [], laidByText := true, laidKinds := [.data, .data, .data, .sentinel, .sentinel], laidTests := true, laidLooks := .later }
def WideHoldsCardSaid : Prop := Claim7.holds Tryz.pinned (.plain (OpenSpec.ofChange wideHoldsSpec)) wideHoldsCard

/-- THE SECOND FORM's CARD OF 'skylanternlaw01.WideShifts'. -/
def wideShiftsUptoCard : Claim7 := { stood := { row := wideShiftsUptoRow, standIns := [], harness := (true, "05cb10e137691742f13bcec0437ba9cb46ce5491bde8dcc13fd22383c2b9d459"), looks := true }, kinds := [], alts := [], laidByText := true, laidKinds := [.data, .data, .data, .sentinel, .sentinel], laidTests := true, laidLooks := .later }
def WideShiftsUptoCardSaid : Prop := Claim7.holds Tryz.pinned (.plain (OpenSpec.upto wideShiftsSpec)) wideShiftsUptoCard

/-- THE SECOND FORM's CARD OF 'skylanternlaw01.WideRatios'. -/
def wideRatiosUptoCard : Claim7 := { stood := { row := wideRatiosUptoRow, standIns := [], harness := (true, "05cb10e137691742f13bcec0437ba9cb46ce5491bde8dcc13fd22383c2b9d459"), looks := true }, kinds := [], alts := [], laidByText := true, laidKinds := [.data, .data, .data, .sentinel, .sentinel], laidTests := true, laidLooks := .later }
def WideRatiosUptoCardSaid : Prop := Claim7.holds Tryz.pinned (.plain (OpenSpec.upto wideRatiosSpec)) wideRatiosUptoCard

/-- THE SECOND FORM's CARD OF 'skylanternlaw01.WideProducts'. -/
def wideProductsUptoCard : Claim7 := { stood := { row := wideProductsUptoRow, standIns := [], harness := (true, "05cb10e137691742f13bcec0437ba9cb46ce5491bde8dcc13fd22383c2b9d459"), looks := true }, kinds := [], alts := [], laidByText := true, laidKinds := [.data, .data, .data, .sentinel, .sentinel], laidTests := true, laidLooks := .later }
def WideProductsUptoCardSaid : Prop := Claim7.holds Tryz.pinned (.plain (OpenSpec.upto wideProductsSpec)) wideProductsUptoCard

/-- THE SECOND FORM's CARD OF 'skylanternlaw01.WideFractions'. -/
def wideFractionsUptoCard : Claim7 := { stood := { row := wideFractionsUptoRow, standIns := [], harness := (true, "05cb10e137691742f13bcec0437ba9cb46ce5491bde8dcc13fd22383c2b9d459"), looks := true }, kinds := [], alts := [], laidByText := true, laidKinds := [.data, .data, .data, .sentinel, .sentinel], laidTests := true, laidLooks := .later }
def WideFractionsUptoCardSaid : Prop := Claim7.holds Tryz.pinned (.plain (OpenSpec.upto wideFractionsSpec)) wideFractionsUptoCard

/-- THE SECOND FORM's CARD OF 'skylanternlaw01.WideSums'. -/
def wideSumsUptoCard : Claim7 := { stood := { row := wideSumsUptoRow, standIns := [], harness := (true, "05cb10e137691742f13bcec0437ba9cb46ce5491bde8dcc13fd22383c2b9d459"), looks := true }, kinds := [], alts := [], laidByText := true, laidKinds := [.data, .data, .data, .sentinel, .sentinel], laidTests := true, laidLooks := .later }
def WideSumsUptoCardSaid : Prop := Claim7.holds Tryz.pinned (.plain (OpenSpec.upto wideSumsSpec)) wideSumsUptoCard

/-- THE SECOND FORM's CARD OF 'skylanternlaw01.WideTexts'. -/
def wideTextsUptoCard : Claim7 := { stood := { row := wideTextsUptoRow, standIns := [], harness := (true, "05cb10e137691742f13bcec0437ba9cb46ce5491bde8dcc13fd22383c2b9d459"), looks := true }, kinds := [], alts := [], laidByText := true, laidKinds := [.data, .data, .data, .sentinel, .sentinel], laidTests := true, laidLooks := .later }
def WideTextsUptoCardSaid : Prop := Claim7.holds Tryz.pinned (.plain (OpenSpec.upto wideTextsSpec)) wideTextsUptoCard

/-- THE SECOND FORM's CARD OF 'skylanternlaw01.WideLimits'. -/
def wideLimitsUptoCard : Claim7 := { stood := { row := wideLimitsUptoRow, standIns := [], harness := (true, "05cb10e137691742f13bcec0437ba9cb46ce5491bde8dcc13fd22383c2b9d459"), looks := true }, kinds := [], alts := [], laidByText := true, laidKinds := [.data, .data, .data, .sentinel, .sentinel], laidTests := true, laidLooks := .later }
def WideLimitsUptoCardSaid : Prop := Claim7.holds Tryz.pinned (.plain (OpenSpec.upto wideLimitsSpec)) wideLimitsUptoCard

/-- THE SECOND FORM's CARD OF 'skylanternlaw01.WideHolds'. -/
def wideHoldsUptoCard : Claim7 := { stood := { row := wideHoldsUptoRow, standIns := [], harness := (true, "05cb10e137691742f13bcec0437ba9cb46ce5491bde8dcc13fd22383c2b9d459"), looks := true }, kinds := [], alts := [], laidByText := true, laidKinds := [.data, .data, .data, .sentinel, .sentinel], laidTests := true, laidLooks := .later }
def WideHoldsUptoCardSaid : Prop := Claim7.holds Tryz.pinned (.plain (OpenSpec.upto wideHoldsSpec)) wideHoldsUptoCard
end Rows
end Go.Proofs.YtkgkebhlpjenaaaGreatDoor
