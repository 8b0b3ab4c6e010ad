/-
  No cell of these rows narrows 'for every input' (looked for: loops, veiled, ifaces, maps, wideKeys, modest, calm, conditions, laid).
  DERIVED. THE GIVEN ROWS OF THIS SEAT. 5 by the template 'for every input the law returns true; each argument reads behind the call as it read before'; 0 by the template 'total and deterministic' (their statements: YtnpclmmmngmdkaaGreatTotals.lean).
  GIVEN WITH THE SEED: the statements are not yours to turn. If you find one false, say at which input.
  Laid BY PROGRAM, IN A SANDBOX (cutbox-rows.mjs): the forced cells as the released guide's own fill.sh prints them over the translation aa20fd6857bc6ca5… (all of the seat's roots in one cut). By AI agents, Wed Nov 11 2026. No macro, syntax, notation, axiom, sorry.
-/
import Derived.Test.YtnpclmmmngmdkaaGreatChecked
import GoSem.Claim
import GoSem.ClaimJoined
import GoSem.ClaimMapViews
import Derived.JoinedTies
import Derived.KernelRfl
namespace Go.Proofs.YtnpclmmmngmdkaaGreat
/- THE CELL 'sum', in the pinned program and in every row, IS THE sha256 OF THE DUMP (.gsa) THAT YtnpclmmmngmdkaaGreatProg.lean LOADS. Nothing in Lean hashes anything: it is a label: what it is worth is what the hold of that sum in a sandbox is worth. -/
noncomputable def Tryz.pinned : Pinned := { name := "ytnpclmmmngmdkaagreat", sum := "aa20fd6857bc6ca585042ca7bfcbfbff388652c51dfb1f7d02713e74e49c67c8", checked := Tryz.checked }
namespace Rows
def none {H : Type} : Left H := { results := [], args := [] }

/-- 'skylanternlaw05.BernsteinPolys': WHATEVER THE INPUT: true; the input reads as it did. -/
def bernsteinPolysSpec : ChangeSpec := { name := "bernsteinPolys", fn := fun _ => fun
  | [d] => { results := [.lit (.bool true)], args := [d] }
  | _ => none }
def bernsteinPolysRow : OpenClaim := { program := "ytnpclmmmngmdkaagreat", sum := "aa20fd6857bc6ca585042ca7bfcbfbff388652c51dfb1f7d02713e74e49c67c8", func := "skylantern/skylanternlaw05.BernsteinPolys", spec := "bernsteinPolys", inPlace := ["math/bits.Add64", "math/bits.Sub64"], unfollowed := true, recurses := true, named := ["math/bits.divideError", "math/bits.overflowError"], apart := false }
def BernsteinPolysSaid : Prop := bernsteinPolysRow.holds Tryz.pinned (OpenSpec.ofChange bernsteinPolysSpec)

/-- ITS FALSE NEIGHBOUR: 'it returns false'. Refute it at one input. -/
def bernsteinPolysWrong : ChangeSpec := { name := "bernsteinPolys", fn := fun _ => fun
  | [d] => { results := [.lit (.bool false)], args := [d] }
  | _ => none }
def BernsteinPolysWrongFalsely : Prop := bernsteinPolysRow.holds Tryz.pinned (OpenSpec.ofChange bernsteinPolysWrong)

/-- 'skylanternlaw05.BernsteinSplits': WHATEVER THE INPUT: true; the input reads as it did. -/
def bernsteinSplitsSpec : ChangeSpec := { name := "bernsteinSplits", fn := fun _ => fun
  | [d] => { results := [.lit (.bool true)], args := [d] }
  | _ => none }
def bernsteinSplitsRow : OpenClaim := { program := "ytnpclmmmngmdkaagreat", sum := "aa20fd6857bc6ca585042ca7bfcbfbff388652c51dfb1f7d02713e74e49c67c8", func := "skylantern/skylanternlaw05.BernsteinSplits", spec := "bernsteinSplits", inPlace := ["math/bits.Add64", "math/bits.Sub64"], unfollowed := true, recurses := true, named := ["math/bits.divideError", "math/bits.overflowError"], apart := false }
def BernsteinSplitsSaid : Prop := bernsteinSplitsRow.holds Tryz.pinned (OpenSpec.ofChange bernsteinSplitsSpec)

/-- ITS FALSE NEIGHBOUR: 'it returns false'. Refute it at one input. -/
def bernsteinSplitsWrong : ChangeSpec := { name := "bernsteinSplits", fn := fun _ => fun
  | [d] => { results := [.lit (.bool false)], args := [d] }
  | _ => none }
def BernsteinSplitsWrongFalsely : Prop := bernsteinSplitsRow.holds Tryz.pinned (OpenSpec.ofChange bernsteinSplitsWrong)

/-- 'skylanternlaw05.BernsteinEncloses': WHATEVER THE INPUT: true; the input reads as it did. -/
def bernsteinEnclosesSpec : ChangeSpec := { name := "bernsteinEncloses", fn := fun _ => fun
  | [d1, d2] => { results := [.lit (.bool true)], args := [d1, d2] }
  | _ => none }
def bernsteinEnclosesRow : OpenClaim := { program := "ytnpclmmmngmdkaagreat", sum := "aa20fd6857bc6ca585042ca7bfcbfbff388652c51dfb1f7d02713e74e49c67c8", func := "skylantern/skylanternlaw05.BernsteinEncloses", spec := "bernsteinEncloses", inPlace := ["math/bits.Add64", "math/bits.Sub64"], unfollowed := true, recurses := true, named := ["math/bits.divideError", "math/bits.overflowError"], apart := false }
def BernsteinEnclosesSaid : Prop := bernsteinEnclosesRow.holds Tryz.pinned (OpenSpec.ofChange bernsteinEnclosesSpec)

/-- ITS FALSE NEIGHBOUR: 'it returns false'. Refute it at one input. -/
def bernsteinEnclosesWrong : ChangeSpec := { name := "bernsteinEncloses", fn := fun _ => fun
  | [d1, d2] => { results := [.lit (.bool false)], args := [d1, d2] }
  | _ => none }
def BernsteinEnclosesWrongFalsely : Prop := bernsteinEnclosesRow.holds Tryz.pinned (OpenSpec.ofChange bernsteinEnclosesWrong)

/-- 'skylanternlaw05.BernsteinPositives': WHATEVER THE INPUT: true; the input reads as it did. -/
def bernsteinPositivesSpec : ChangeSpec := { name := "bernsteinPositives", fn := fun _ => fun
  | [d1, d2] => { results := [.lit (.bool true)], args := [d1, d2] }
  | _ => none }
def bernsteinPositivesRow : OpenClaim := { program := "ytnpclmmmngmdkaagreat", sum := "aa20fd6857bc6ca585042ca7bfcbfbff388652c51dfb1f7d02713e74e49c67c8", func := "skylantern/skylanternlaw05.BernsteinPositives", spec := "bernsteinPositives", inPlace := ["math/bits.Add64", "math/bits.Sub64"], unfollowed := true, recurses := true, named := ["math/bits.divideError", "math/bits.overflowError"], apart := false }
def BernsteinPositivesSaid : Prop := bernsteinPositivesRow.holds Tryz.pinned (OpenSpec.ofChange bernsteinPositivesSpec)

/-- ITS FALSE NEIGHBOUR: 'it returns false'. Refute it at one input. -/
def bernsteinPositivesWrong : ChangeSpec := { name := "bernsteinPositives", fn := fun _ => fun
  | [d1, d2] => { results := [.lit (.bool false)], args := [d1, d2] }
  | _ => none }
def BernsteinPositivesWrongFalsely : Prop := bernsteinPositivesRow.holds Tryz.pinned (OpenSpec.ofChange bernsteinPositivesWrong)

/-- 'skylanternlaw05.BernsteinHolds': WHATEVER THE INPUT: true; the input reads as it did. -/
def bernsteinHoldsSpec : ChangeSpec := { name := "bernsteinHolds", fn := fun _ => fun
  | [d1, d2, d3, d4, d5] => { results := [.lit (.bool true)], args := [d1, d2, d3, d4, d5] }
  | _ => none }
def bernsteinHoldsRow : OpenClaim := { program := "ytnpclmmmngmdkaagreat", sum := "aa20fd6857bc6ca585042ca7bfcbfbff388652c51dfb1f7d02713e74e49c67c8", func := "skylantern/skylanternlaw05.BernsteinHolds", spec := "bernsteinHolds", inPlace := ["math/bits.Add64", "math/bits.Sub64"], unfollowed := true, recurses := true, named := ["math/bits.divideError", "math/bits.overflowError"], apart := false }
def BernsteinHoldsSaid : Prop := bernsteinHoldsRow.holds Tryz.pinned (OpenSpec.ofChange bernsteinHoldsSpec)

/-- ITS FALSE NEIGHBOUR: 'it returns false'. Refute it at one input. -/
def bernsteinHoldsWrong : ChangeSpec := { name := "bernsteinHolds", fn := fun _ => fun
  | [d1, d2, d3, d4, d5] => { results := [.lit (.bool false)], args := [d1, d2, d3, d4, d5] }
  | _ => none }
def BernsteinHoldsWrongFalsely : Prop := bernsteinHoldsRow.holds Tryz.pinned (OpenSpec.ofChange bernsteinHoldsWrong)

/- THE SECOND FORM. 'bulk': how many values and letters a reading holds, each counted each time it is reached (what is shared counts as often as it is met; a slice's spare places count too). A statement '..UptoSaid' is the law's where the arguments, and the package variables that the reading takes, are together of bulk at most 1048576: NARROWER than '..Said'. Prove '..Said' where nothing that the law and all that it calls make is longer than what came in: it says more and counts as full. Else prove '..UptoSaid'. A law counts once. -/
mutual
def uptoBulk {H : Type} : DataW H → Nat
  | .lit (.string bytes) => bytes.length + 1
  | .lit _ => 1
  | .nil => 1
  | .ptr d => uptoBulk d + 1
  | .slice elems spare => uptoBulkAll elems + uptoBulkAll spare + 1
  | .agg parts => uptoBulkAll parts + 1
  | .iface _ d => uptoBulk d + 1
  | .map entries => uptoBulkEntries entries + 1
  | .held _ => 1
def uptoBulkAll {H : Type} : List (DataW H) → Nat
  | [] => 0
  | d :: r => uptoBulk d + uptoBulkAll r
def uptoBulkEntries {H : Type} : List (Lit × DataW H) → Nat
  | [] => 0
  | x :: r => uptoBulkEntry x + uptoBulkEntries r
def uptoBulkEntry {H : Type} : Lit × DataW H → Nat
  | (.string bytes, d) => bytes.length + uptoBulk d + 1
  | (_, d) => uptoBulk d + 1
 end
def uptoSmall : (H : Type) → List (DataW H) → Bool := fun _ ds => decide (uptoBulkAll ds ≤ 1048576)
def OpenSpec.upto (s : _root_.Go.ChangeSpec) : _root_.Go.OpenSpec := { _root_.Go.OpenSpec.ofChange s with cond := some uptoSmall }

/-- 'skylanternlaw05.BernsteinPolys', WHERE WHAT IT READS IS OF BULK AT MOST 1048576: true; the input reads as it did. -/
def bernsteinPolysUptoRow : OpenClaim := { program := "ytnpclmmmngmdkaagreat", sum := "aa20fd6857bc6ca585042ca7bfcbfbff388652c51dfb1f7d02713e74e49c67c8", func := "skylantern/skylanternlaw05.BernsteinPolys", spec := "bernsteinPolys", inPlace := ["math/bits.Add64", "math/bits.Sub64"], unfollowed := true, recurses := true, named := ["math/bits.divideError", "math/bits.overflowError"], apart := false, narrowed := true }
def BernsteinPolysUptoSaid : Prop := bernsteinPolysUptoRow.holds Tryz.pinned (OpenSpec.upto bernsteinPolysSpec)

/-- 'skylanternlaw05.BernsteinSplits', WHERE WHAT IT READS IS OF BULK AT MOST 1048576: true; the input reads as it did. -/
def bernsteinSplitsUptoRow : OpenClaim := { program := "ytnpclmmmngmdkaagreat", sum := "aa20fd6857bc6ca585042ca7bfcbfbff388652c51dfb1f7d02713e74e49c67c8", func := "skylantern/skylanternlaw05.BernsteinSplits", spec := "bernsteinSplits", inPlace := ["math/bits.Add64", "math/bits.Sub64"], unfollowed := true, recurses := true, named := ["math/bits.divideError", "math/bits.overflowError"], apart := false, narrowed := true }
def BernsteinSplitsUptoSaid : Prop := bernsteinSplitsUptoRow.holds Tryz.pinned (OpenSpec.upto bernsteinSplitsSpec)

/-- 'skylanternlaw05.BernsteinEncloses', WHERE WHAT IT READS IS OF BULK AT MOST 1048576: true; the input reads as it did. -/
def bernsteinEnclosesUptoRow : OpenClaim := { program := "ytnpclmmmngmdkaagreat", sum := "aa20fd6857bc6ca585042ca7bfcbfbff388652c51dfb1f7d02713e74e49c67c8", func := "skylantern/skylanternlaw05.BernsteinEncloses", spec := "bernsteinEncloses", inPlace := ["math/bits.Add64", "math/bits.Sub64"], unfollowed := true, recurses := true, named := ["math/bits.divideError", "math/bits.overflowError"], apart := false, narrowed := true }
def BernsteinEnclosesUptoSaid : Prop := bernsteinEnclosesUptoRow.holds Tryz.pinned (OpenSpec.upto bernsteinEnclosesSpec)

/-- 'skylanternlaw05.BernsteinPositives', WHERE WHAT IT READS IS OF BULK AT MOST 1048576: true; the input reads as it did. -/
def bernsteinPositivesUptoRow : OpenClaim := { program := "ytnpclmmmngmdkaagreat", sum := "aa20fd6857bc6ca585042ca7bfcbfbff388652c51dfb1f7d02713e74e49c67c8", func := "skylantern/skylanternlaw05.BernsteinPositives", spec := "bernsteinPositives", inPlace := ["math/bits.Add64", "math/bits.Sub64"], unfollowed := true, recurses := true, named := ["math/bits.divideError", "math/bits.overflowError"], apart := false, narrowed := true }
def BernsteinPositivesUptoSaid : Prop := bernsteinPositivesUptoRow.holds Tryz.pinned (OpenSpec.upto bernsteinPositivesSpec)

/-- 'skylanternlaw05.BernsteinHolds', WHERE WHAT IT READS IS OF BULK AT MOST 1048576: true; the input reads as it did. -/
def bernsteinHoldsUptoRow : OpenClaim := { program := "ytnpclmmmngmdkaagreat", sum := "aa20fd6857bc6ca585042ca7bfcbfbff388652c51dfb1f7d02713e74e49c67c8", func := "skylantern/skylanternlaw05.BernsteinHolds", spec := "bernsteinHolds", inPlace := ["math/bits.Add64", "math/bits.Sub64"], unfollowed := true, recurses := true, named := ["math/bits.divideError", "math/bits.overflowError"], apart := false, narrowed := true }
def BernsteinHoldsUptoSaid : Prop := bernsteinHoldsUptoRow.holds Tryz.pinned (OpenSpec.upto bernsteinHoldsSpec)

end Rows
end Go.Proofs.YtnpclmmmngmdkaaGreat
