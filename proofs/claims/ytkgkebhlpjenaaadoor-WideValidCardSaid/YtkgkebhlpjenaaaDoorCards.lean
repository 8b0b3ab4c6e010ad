/-
  DERIVED. GIVEN WITH THE SEED: THE CARDS: each row of YtkgkebhlpjenaaaDoorRows.lean that lists a variable, with what it lists TIED to the program's text (the seventh form; the later family's looks); each row that meets fmt, with fmt's text TOLD by the authors' own Lean function (tested against real Go, not proved from fmt's source: count such statements apart). THE CARD IS WHAT COUNTS. Prove the row's statement (the work); the ties are given (YtkgkebhlpjenaaaDoorTie.lean); close each card by the builder's one call (the guide's Derived/Test/ToyasCard.lean, 'card_holds'). Laid BY PROGRAM, IN A SANDBOX (cutbox-door.mjs). By AI agents, Wed Nov 11 2026. No macro, syntax, notation, axiom, sorry.
-/
import Derived.Test.YtkgkebhlpjenaaaDoorRows
import GoSem.ClaimSeven
namespace Go.Proofs.YtkgkebhlpjenaaaDoor
namespace Rows

/-- THE TIED CARD OF 'skylanternlaw01.WideInts'. -/
def wideIntsCard : Claim7 := { stood := { row := wideIntsRow, standIns := [], harness := (true, "eb7709c984376c1e5208af47f41a3abd5ff3c357f6270796cec590daaa2989b7"), looks := true }, kinds := [], alts := [], laidByText := true, laidKinds := [.data, .data, .data, .sentinel, .sentinel], laidTests := true, laidLooks := .later }
def WideIntsCardSaid : Prop := Claim7.holds Tryd.pinned (.plain (OpenSpec.ofChange wideIntsSpec)) wideIntsCard

/-- THE TIED CARD OF 'skylanternlaw01.WideValid'. -/
def wideValidCard : Claim7 := { stood := { row := wideValidRow, standIns := [], harness := (true, "eb7709c984376c1e5208af47f41a3abd5ff3c357f6270796cec590daaa2989b7"), looks := true }, kinds := [], alts := [], laidByText := true, laidKinds := [.data, .data, .data, .sentinel, .sentinel], laidTests := true, laidLooks := .later }
def WideValidCardSaid : Prop := Claim7.holds Tryd.pinned (.plain (OpenSpec.ofChange wideValidSpec)) wideValidCard

/-- THE SECOND FORM's CARD OF 'skylanternlaw01.WideInts'. -/
def wideIntsUptoCard : Claim7 := { stood := { row := wideIntsUptoRow, standIns := [], harness := (true, "eb7709c984376c1e5208af47f41a3abd5ff3c357f6270796cec590daaa2989b7"), looks := true }, kinds := [], alts := [], laidByText := true, laidKinds := [.data, .data, .data, .sentinel, .sentinel], laidTests := true, laidLooks := .later }
def WideIntsUptoCardSaid : Prop := Claim7.holds Tryd.pinned (.plain (OpenSpec.upto wideIntsSpec)) wideIntsUptoCard

/-- THE SECOND FORM's CARD OF 'skylanternlaw01.WideValid'. -/
def wideValidUptoCard : Claim7 := { stood := { row := wideValidUptoRow, standIns := [], harness := (true, "eb7709c984376c1e5208af47f41a3abd5ff3c357f6270796cec590daaa2989b7"), looks := true }, kinds := [], alts := [], laidByText := true, laidKinds := [.data, .data, .data, .sentinel, .sentinel], laidTests := true, laidLooks := .later }
def WideValidUptoCardSaid : Prop := Claim7.holds Tryd.pinned (.plain (OpenSpec.upto wideValidSpec)) wideValidUptoCard
end Rows
end Go.Proofs.YtkgkebhlpjenaaaDoor
