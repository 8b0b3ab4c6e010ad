/-
  DERIVED. GIVEN WITH THE SEED: THE CARDS: each row of YtciddhkfbgkejaaDoorRows.lean that lists a variable, with what it lists TIED to the program's text (the seventh form; the later family's looks); each row that meets fmt, with fmt's text TOLD by the authors' own Lean function (tested against real Go, not proved from fmt's source: count such statements apart). THE CARD IS WHAT COUNTS. Prove the row's statement (the work); the ties are given (YtciddhkfbgkejaaDoorTie.lean); close each card by the builder's one call (the guide's Derived/Test/ToyasCard.lean, 'card_holds'). Laid BY PROGRAM, IN A SANDBOX (cutbox-door.mjs). By AI agents, Wed Nov 11 2026. No macro, syntax, notation, axiom, sorry.
-/
import Derived.Test.YtciddhkfbgkejaaDoorRows
import GoSem.ClaimSeven
namespace Go.Proofs.YtciddhkfbgkejaaDoor
namespace Rows

/-- THE TIED CARD OF 'skylanternlaw21.BatteryFull'. -/
def batteryFullCard : Claim7 := { stood := { row := batteryFullRow, standIns := [], harness := (true, "d82aee98d638e9e4d6d503d29ae2f087a5481efa2c13d858816ee60d50946abb"), looks := false }, kinds := [], alts := [], laidByText := true, laidKinds := [.data, .data], laidTests := true, laidLooks := .later }
def BatteryFullCardSaid : Prop := Claim7.holds Tryd.pinned (.plain (OpenSpec.ofChange batteryFullSpec)) batteryFullCard

/-- THE SECOND FORM's CARD OF 'skylanternlaw21.BatteryFull'. -/
def batteryFullUptoCard : Claim7 := { stood := { row := batteryFullUptoRow, standIns := [], harness := (true, "d82aee98d638e9e4d6d503d29ae2f087a5481efa2c13d858816ee60d50946abb"), looks := false }, kinds := [], alts := [], laidByText := true, laidKinds := [.data, .data], laidTests := true, laidLooks := .later }
def BatteryFullUptoCardSaid : Prop := Claim7.holds Tryd.pinned (.plain (OpenSpec.upto batteryFullSpec)) batteryFullUptoCard
end Rows
end Go.Proofs.YtciddhkfbgkejaaDoor
