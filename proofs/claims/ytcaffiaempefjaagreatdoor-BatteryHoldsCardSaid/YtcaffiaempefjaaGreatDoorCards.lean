/-
  DERIVED. GIVEN WITH THE SEED: THE CARDS: each row of YtcaffiaempefjaaGreatDoorRows.lean that lists a variable, with what it lists TIED to the program's text (the seventh form; the later family's looks); each row that meets fmt, with fmt's text TOLD by the authors' own Lean function (tested against real Go, not proved from fmt's source: count such statements apart). THE CARD IS WHAT COUNTS. Prove the row's statement (the work); the ties are given (YtcaffiaempefjaaGreatDoorTie.lean); close each card by the builder's one call (the guide's Derived/Test/ToyasCard.lean, 'card_holds'). Laid BY PROGRAM, IN A SANDBOX (cutbox-door.mjs). By AI agents, Wed Nov 11 2026. No macro, syntax, notation, axiom, sorry.
-/
import Derived.Test.YtcaffiaempefjaaGreatDoorRows
import GoSem.ClaimSeven
namespace Go.Proofs.YtcaffiaempefjaaGreatDoor
namespace Rows

/-- THE TIED CARD OF 'skylanternlaw21.BatteryHolds'. -/
def batteryHoldsCard : Claim7 := { stood := { row := batteryHoldsRow, standIns := [], harness := (true, "e612014129e7ec43560b96c0faa8411f2b5134e7d09344b8b90bb296870d3c60"), looks := false }, kinds := [], alts := [], laidByText := true, laidKinds := [.data, .data], laidTests := true, laidLooks := .later }
def BatteryHoldsCardSaid : Prop := Claim7.holds Tryz.pinned (.plain (OpenSpec.ofChange batteryHoldsSpec)) batteryHoldsCard

/-- THE SECOND FORM's CARD OF 'skylanternlaw21.BatteryHolds'. -/
def batteryHoldsUptoCard : Claim7 := { stood := { row := batteryHoldsUptoRow, standIns := [], harness := (true, "e612014129e7ec43560b96c0faa8411f2b5134e7d09344b8b90bb296870d3c60"), looks := false }, kinds := [], alts := [], laidByText := true, laidKinds := [.data, .data], laidTests := true, laidLooks := .later }
def BatteryHoldsUptoCardSaid : Prop := Claim7.holds Tryz.pinned (.plain (OpenSpec.upto batteryHoldsSpec)) batteryHoldsUptoCard
end Rows
end Go.Proofs.YtcaffiaempefjaaGreatDoor
