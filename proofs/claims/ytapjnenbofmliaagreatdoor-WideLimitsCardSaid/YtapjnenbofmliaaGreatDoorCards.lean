/-
  DERIVED. GIVEN WITH THE SEED: THE CARDS: each row of YtapjnenbofmliaaGreatDoorRows.lean that lists a variable, with what it lists TIED to the program's text (the seventh form; the later family's looks); each row that meets fmt, with fmt's text TOLD by the authors' own Lean function (tested against real Go, not proved from fmt's source: count such statements apart). THE CARD IS WHAT COUNTS. Prove the row's statement (the work); the ties are given (YtapjnenbofmliaaGreatDoorTie.lean); close each card by the builder's one call (the guide's Derived/Test/ToyasCard.lean, 'card_holds'). Laid BY PROGRAM, IN A SANDBOX (cutbox-door.mjs). By AI agents, Wed Nov 11 2026. No macro, syntax, notation, axiom, sorry.
-/
import Derived.Test.YtapjnenbofmliaaGreatDoorRows
import GoSem.ClaimSeven
namespace Go.Proofs.YtapjnenbofmliaaGreatDoor
namespace Rows

/-- THE TIED CARD OF 'skylanternlaw01.WideTexts'. -/
def wideTextsCard : Claim7 := { stood := { row := wideTextsRow, standIns := [], harness := (true, "5b3e2a32594106401b5934f6d08eba7a4ed11b629f2f1ded1f742e244509feaa"), looks := true }, kinds := [], alts := [], laidByText := true, laidKinds := [.data, .data, .data, .sentinel, .sentinel], laidTests := true, laidLooks := .later }
def WideTextsCardSaid : Prop := Claim7.holds Tryz.pinned (.plain (OpenSpec.ofChange wideTextsSpec)) wideTextsCard

/-- THE TIED CARD OF 'skylanternlaw01.WideLimits'. -/
def wideLimitsCard : Claim7 := { stood := { row := wideLimitsRow, standIns := [], harness := (true, "5b3e2a32594106401b5934f6d08eba7a4ed11b629f2f1ded1f742e244509feaa"), looks := true }, kinds := [], alts := [], laidByText := true, laidKinds := [.data, .data, .data, .sentinel, .sentinel], laidTests := true, laidLooks := .later }
def WideLimitsCardSaid : Prop := Claim7.holds Tryz.pinned (.plain (OpenSpec.ofChange wideLimitsSpec)) wideLimitsCard

/-- THE TIED CARD OF 'skylanternlaw01.WideHolds'. -/
def wideHoldsCard : Claim7 := { stood := { row := wideHoldsRow, standIns := [], harness := (true, "5b3e2a32594106401b5934f6d08eba7a4ed11b629f2f1ded1f742e244509feaa"), looks := true }, kinds := [], alts := [], laidByText := true, laidKinds := [.data, .data, .data, .sentinel, .sentinel], laidTests := true, laidLooks := .later }
def WideHoldsCardSaid : Prop := Claim7.holds Tryz.pinned (.plain (OpenSpec.ofChange wideHoldsSpec)) wideHoldsCard

/-- THE SECOND FORM's CARD OF 'skylanternlaw01.WideTexts'. -/
def wideTextsUptoCard : Claim7 := { stood := { row := wideTextsUptoRow, standIns := [], harness := (true, "5b3e2a32594106401b5934f6d08eba7a4ed11b629f2f1ded1f742e244509feaa"), looks := true }, kinds := [], alts := [], laidByText := true, laidKinds := [.data, .data, .data, .sentinel, .sentinel], laidTests := true, laidLooks := .later }
def WideTextsUptoCardSaid : Prop := Claim7.holds Tryz.pinned (.plain (OpenSpec.upto wideTextsSpec)) wideTextsUptoCard

/-- THE SECOND FORM's CARD OF 'skylanternlaw01.WideLimits'. -/
def wideLimitsUptoCard : Claim7 := { stood := { row := wideLimitsUptoRow, standIns := [], harness := (true, "5b3e2a32594106401b5934f6d08eba7a4ed11b629f2f1ded1f742e244509feaa"), looks := true }, kinds := [], alts := [], laidByText := true, laidKinds := [.data, .data, .data, .sentinel, .sentinel], laidTests := true, laidLooks := .later }
def WideLimitsUptoCardSaid : Prop := Claim7.holds Tryz.pinned (.plain (OpenSpec.upto wideLimitsSpec)) wideLimitsUptoCard

/-- THE SECOND FORM's CARD OF 'skylanternlaw01.WideHolds'. -/
def wideHoldsUptoCard : Claim7 := { stood := { row := wideHoldsUptoRow, standIns := [], harness := (true, "5b3e2a32594106401b5934f6d08eba7a4ed11b629f2f1ded1f742e244509feaa"), looks := true }, kinds := [], alts := [], laidByText := true, laidKinds := [.data, .data, .data, .sentinel, .sentinel], laidTests := true, laidLooks := .later }
def WideHoldsUptoCardSaid : Prop := Claim7.holds Tryz.pinned (.plain (OpenSpec.upto wideHoldsSpec)) wideHoldsUptoCard
end Rows
end Go.Proofs.YtapjnenbofmliaaGreatDoor
