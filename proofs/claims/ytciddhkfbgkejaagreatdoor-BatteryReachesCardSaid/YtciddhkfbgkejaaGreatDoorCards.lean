/-
  DERIVED. GIVEN WITH THE SEED: THE CARDS: each row of YtciddhkfbgkejaaGreatDoorRows.lean that lists a variable, with what it lists TIED to the program's text (the seventh form; the later family's looks); each row that meets fmt, with fmt's text TOLD by the authors' own Lean function (tested against real Go, not proved from fmt's source: count such statements apart). THE CARD IS WHAT COUNTS. Prove the row's statement (the work); the ties are given (YtciddhkfbgkejaaGreatDoorTie.lean); close each card by the builder's one call (the guide's Derived/Test/ToyasCard.lean, 'card_holds'). Laid BY PROGRAM, IN A SANDBOX (cutbox-door.mjs). By AI agents, Wed Nov 11 2026. No macro, syntax, notation, axiom, sorry.
-/
import Derived.Test.YtciddhkfbgkejaaGreatDoorRows
import GoSem.ClaimSeven
namespace Go.Proofs.YtciddhkfbgkejaaGreatDoor
namespace Rows

/-- THE TIED CARD OF 'skylanternlaw20.WindValid'. -/
def windValidCard : Claim7 := { stood := { row := windValidRow, standIns := [], harness := (true, "187061ddf91d41f0f650930deca635a48c1dbd8ca1bd93a20a3f9822ee6e60b5"), looks := false }, kinds := [], alts := [], laidByText := true, laidKinds := [.data, .data], laidTests := true, laidLooks := .later }
def WindValidCardSaid : Prop := Claim7.holds Tryz.pinned (.plain (OpenSpec.ofChange windValidSpec)) windValidCard

/-- THE TIED CARD OF 'skylanternlaw20.WindAt'. -/
def windAtCard : Claim7 := { stood := { row := windAtRow, standIns := [], harness := (true, "187061ddf91d41f0f650930deca635a48c1dbd8ca1bd93a20a3f9822ee6e60b5"), looks := false }, kinds := [], alts := [], laidByText := true, laidKinds := [.data, .data], laidTests := true, laidLooks := .later }
def WindAtCardSaid : Prop := Claim7.holds Tryz.pinned (.plain (OpenSpec.ofChange windAtSpec)) windAtCard

/-- THE TIED CARD OF 'skylanternlaw20.WindStrongest'. -/
def windStrongestCard : Claim7 := { stood := { row := windStrongestRow, standIns := [], harness := (true, "187061ddf91d41f0f650930deca635a48c1dbd8ca1bd93a20a3f9822ee6e60b5"), looks := false }, kinds := [], alts := [], laidByText := true, laidKinds := [.data, .data], laidTests := true, laidLooks := .later }
def WindStrongestCardSaid : Prop := Claim7.holds Tryz.pinned (.plain (OpenSpec.ofChange windStrongestSpec)) windStrongestCard

/-- THE TIED CARD OF 'skylanternlaw20.WindAlong'. -/
def windAlongCard : Claim7 := { stood := { row := windAlongRow, standIns := [], harness := (true, "187061ddf91d41f0f650930deca635a48c1dbd8ca1bd93a20a3f9822ee6e60b5"), looks := false }, kinds := [], alts := [], laidByText := true, laidKinds := [.data, .data], laidTests := true, laidLooks := .later }
def WindAlongCardSaid : Prop := Claim7.holds Tryz.pinned (.plain (OpenSpec.ofChange windAlongSpec)) windAlongCard

/-- THE TIED CARD OF 'skylanternlaw20.WindHolds'. -/
def windHoldsCard : Claim7 := { stood := { row := windHoldsRow, standIns := [], harness := (true, "187061ddf91d41f0f650930deca635a48c1dbd8ca1bd93a20a3f9822ee6e60b5"), looks := false }, kinds := [], alts := [], laidByText := true, laidKinds := [.data, .data], laidTests := true, laidLooks := .later }
def WindHoldsCardSaid : Prop := Claim7.holds Tryz.pinned (.plain (OpenSpec.ofChange windHoldsSpec)) windHoldsCard

/-- THE TIED CARD OF 'skylanternlaw21.BatteryCosts'. -/
def batteryCostsCard : Claim7 := { stood := { row := batteryCostsRow, standIns := [], harness := (true, "187061ddf91d41f0f650930deca635a48c1dbd8ca1bd93a20a3f9822ee6e60b5"), looks := false }, kinds := [], alts := [], laidByText := true, laidKinds := [.data, .data], laidTests := true, laidLooks := .later }
def BatteryCostsCardSaid : Prop := Claim7.holds Tryz.pinned (.plain (OpenSpec.ofChange batteryCostsSpec)) batteryCostsCard

/-- THE TIED CARD OF 'skylanternlaw21.BatteryEnergies'. -/
def batteryEnergiesCard : Claim7 := { stood := { row := batteryEnergiesRow, standIns := [], harness := (true, "187061ddf91d41f0f650930deca635a48c1dbd8ca1bd93a20a3f9822ee6e60b5"), looks := false }, kinds := [], alts := [], laidByText := true, laidKinds := [.data, .data], laidTests := true, laidLooks := .later }
def BatteryEnergiesCardSaid : Prop := Claim7.holds Tryz.pinned (.plain (OpenSpec.ofChange batteryEnergiesSpec)) batteryEnergiesCard

/-- THE TIED CARD OF 'skylanternlaw21.BatteryReaches'. -/
def batteryReachesCard : Claim7 := { stood := { row := batteryReachesRow, standIns := [], harness := (true, "187061ddf91d41f0f650930deca635a48c1dbd8ca1bd93a20a3f9822ee6e60b5"), looks := false }, kinds := [], alts := [], laidByText := true, laidKinds := [.data, .data], laidTests := true, laidLooks := .later }
def BatteryReachesCardSaid : Prop := Claim7.holds Tryz.pinned (.plain (OpenSpec.ofChange batteryReachesSpec)) batteryReachesCard

/-- THE TIED CARD OF 'skylanternlaw21.BatteryHolds'. -/
def batteryHoldsCard : Claim7 := { stood := { row := batteryHoldsRow, standIns := [], harness := (true, "187061ddf91d41f0f650930deca635a48c1dbd8ca1bd93a20a3f9822ee6e60b5"), looks := false }, kinds := [], alts := [], laidByText := true, laidKinds := [.data, .data], laidTests := true, laidLooks := .later }
def BatteryHoldsCardSaid : Prop := Claim7.holds Tryz.pinned (.plain (OpenSpec.ofChange batteryHoldsSpec)) batteryHoldsCard

/-- THE SECOND FORM's CARD OF 'skylanternlaw20.WindValid'. -/
def windValidUptoCard : Claim7 := { stood := { row := windValidUptoRow, standIns := [], harness := (true, "187061ddf91d41f0f650930deca635a48c1dbd8ca1bd93a20a3f9822ee6e60b5"), looks := false }, kinds := [], alts := [], laidByText := true, laidKinds := [.data, .data], laidTests := true, laidLooks := .later }
def WindValidUptoCardSaid : Prop := Claim7.holds Tryz.pinned (.plain (OpenSpec.upto windValidSpec)) windValidUptoCard

/-- THE SECOND FORM's CARD OF 'skylanternlaw20.WindAt'. -/
def windAtUptoCard : Claim7 := { stood := { row := windAtUptoRow, standIns := [], harness := (true, "187061ddf91d41f0f650930deca635a48c1dbd8ca1bd93a20a3f9822ee6e60b5"), looks := false }, kinds := [], alts := [], laidByText := true, laidKinds := [.data, .data], laidTests := true, laidLooks := .later }
def WindAtUptoCardSaid : Prop := Claim7.holds Tryz.pinned (.plain (OpenSpec.upto windAtSpec)) windAtUptoCard

/-- THE SECOND FORM's CARD OF 'skylanternlaw20.WindStrongest'. -/
def windStrongestUptoCard : Claim7 := { stood := { row := windStrongestUptoRow, standIns := [], harness := (true, "187061ddf91d41f0f650930deca635a48c1dbd8ca1bd93a20a3f9822ee6e60b5"), looks := false }, kinds := [], alts := [], laidByText := true, laidKinds := [.data, .data], laidTests := true, laidLooks := .later }
def WindStrongestUptoCardSaid : Prop := Claim7.holds Tryz.pinned (.plain (OpenSpec.upto windStrongestSpec)) windStrongestUptoCard

/-- THE SECOND FORM's CARD OF 'skylanternlaw20.WindAlong'. -/
def windAlongUptoCard : Claim7 := { stood := { row := windAlongUptoRow, standIns := [], harness := (true, "187061ddf91d41f0f650930deca635a48c1dbd8ca1bd93a20a3f9822ee6e60b5"), looks := false }, kinds := [], alts := [], laidByText := true, laidKinds := [.data, .data], laidTests := true, laidLooks := .later }
def WindAlongUptoCardSaid : Prop := Claim7.holds Tryz.pinned (.plain (OpenSpec.upto windAlongSpec)) windAlongUptoCard

/-- THE SECOND FORM's CARD OF 'skylanternlaw20.WindHolds'. -/
def windHoldsUptoCard : Claim7 := { stood := { row := windHoldsUptoRow, standIns := [], harness := (true, "187061ddf91d41f0f650930deca635a48c1dbd8ca1bd93a20a3f9822ee6e60b5"), looks := false }, kinds := [], alts := [], laidByText := true, laidKinds := [.data, .data], laidTests := true, laidLooks := .later }
def WindHoldsUptoCardSaid : Prop := Claim7.holds Tryz.pinned (.plain (OpenSpec.upto windHoldsSpec)) windHoldsUptoCard

/-- THE SECOND FORM's CARD OF 'skylanternlaw21.BatteryCosts'. -/
def batteryCostsUptoCard : Claim7 := { stood := { row := batteryCostsUptoRow, standIns := [], harness := (true, "187061ddf91d41f0f650930deca635a48c1dbd8ca1bd93a20a3f9822ee6e60b5"), looks := false }, kinds := [], alts := [], laidByText := true, laidKinds := [.data, .data], laidTests := true, laidLooks := .later }
def BatteryCostsUptoCardSaid : Prop := Claim7.holds Tryz.pinned (.plain (OpenSpec.upto batteryCostsSpec)) batteryCostsUptoCard

/-- THE SECOND FORM's CARD OF 'skylanternlaw21.BatteryEnergies'. -/
def batteryEnergiesUptoCard : Claim7 := { stood := { row := batteryEnergiesUptoRow, standIns := [], harness := (true, "187061ddf91d41f0f650930deca635a48c1dbd8ca1bd93a20a3f9822ee6e60b5"), looks := false }, kinds := [], alts := [], laidByText := true, laidKinds := [.data, .data], laidTests := true, laidLooks := .later }
def BatteryEnergiesUptoCardSaid : Prop := Claim7.holds Tryz.pinned (.plain (OpenSpec.upto batteryEnergiesSpec)) batteryEnergiesUptoCard

/-- THE SECOND FORM's CARD OF 'skylanternlaw21.BatteryReaches'. -/
def batteryReachesUptoCard : Claim7 := { stood := { row := batteryReachesUptoRow, standIns := [], harness := (true, "187061ddf91d41f0f650930deca635a48c1dbd8ca1bd93a20a3f9822ee6e60b5"), looks := false }, kinds := [], alts := [], laidByText := true, laidKinds := [.data, .data], laidTests := true, laidLooks := .later }
def BatteryReachesUptoCardSaid : Prop := Claim7.holds Tryz.pinned (.plain (OpenSpec.upto batteryReachesSpec)) batteryReachesUptoCard

/-- THE SECOND FORM's CARD OF 'skylanternlaw21.BatteryHolds'. -/
def batteryHoldsUptoCard : Claim7 := { stood := { row := batteryHoldsUptoRow, standIns := [], harness := (true, "187061ddf91d41f0f650930deca635a48c1dbd8ca1bd93a20a3f9822ee6e60b5"), looks := false }, kinds := [], alts := [], laidByText := true, laidKinds := [.data, .data], laidTests := true, laidLooks := .later }
def BatteryHoldsUptoCardSaid : Prop := Claim7.holds Tryz.pinned (.plain (OpenSpec.upto batteryHoldsSpec)) batteryHoldsUptoCard
end Rows
end Go.Proofs.YtciddhkfbgkejaaGreatDoor
