/-
  NARROWER THAN 'FOR EVERY INPUT', by the rows' own cells (each row's printed sentence says how): WeatherHolds: laid · WeatherMoves: laid · WeatherWorst: laid · WeatherDecides: laid · WeatherTables: laid.
  DERIVED. THE GIVEN ROWS OF THIS SEAT. 5 by the template 'for every input the law returns true; each argument reads behind the call as it read before'; 0 by the template 'total and deterministic' (their statements: YtdpajapkhembcaaGreatDoorTotals.lean).
  GIVEN WITH THE SEED: the statements are not yours to turn. If you find one false, say at which input.
  Laid BY PROGRAM, IN A SANDBOX (cutbox-rows.mjs): the forced cells as the released guide's own fill.sh prints them over the translation f5eb1b88e5818777… (all of the seat's roots in one cut). By AI agents, Wed Nov 11 2026. No macro, syntax, notation, axiom, sorry.
-/
import Derived.Test.YtdpajapkhembcaaGreatDoorChecked
import GoSem.Claim
import GoSem.ClaimJoined
import GoSem.ClaimMapViews
import Derived.JoinedTies
import Derived.KernelRfl
namespace Go.Proofs.YtdpajapkhembcaaGreatDoor
/- THE CELL 'sum', in the pinned program and in every row, IS THE sha256 OF THE DUMP (.gsa) THAT YtdpajapkhembcaaGreatDoorProg.lean LOADS. Nothing in Lean hashes anything: it is a label: what it is worth is what the hold of that sum in a sandbox is worth. -/
noncomputable def Tryz.pinned : Pinned := { name := "ytdpajapkhembcaagreatdoor", sum := "f5eb1b88e5818777275dbbd0b0b8291308c0c217619c45094ca6594be1dceff7", checked := Tryz.checked }
namespace Rows
def none {H : Type} : Left H := { results := [], args := [] }

/- WHAT THE LISTED PACKAGE-LEVEL VARIABLES READ AS WHEN THE CALL BEGINS. Each datum BY PROGRAM (the guide's laid-datum.mjs) off the statement by which the dump's own 'gosem.cut.vars' lays the variable. In a bare row this is a premise. The card (YtdpajapkhembcaaGreatDoorCards.lean) ties it to the program's text. -/
def laid_math_bits_deBruijn32tab {H : Type} : DataW H := .agg [.lit (.int .u8 0), .lit (.int .u8 1), .lit (.int .u8 28), .lit (.int .u8 2), .lit (.int .u8 29), .lit (.int .u8 14), .lit (.int .u8 24), .lit (.int .u8 3), .lit (.int .u8 30), .lit (.int .u8 22), .lit (.int .u8 20), .lit (.int .u8 15), .lit (.int .u8 25), .lit (.int .u8 17), .lit (.int .u8 4), .lit (.int .u8 8), .lit (.int .u8 31), .lit (.int .u8 27), .lit (.int .u8 13), .lit (.int .u8 23), .lit (.int .u8 21), .lit (.int .u8 19), .lit (.int .u8 16), .lit (.int .u8 7), .lit (.int .u8 26), .lit (.int .u8 12), .lit (.int .u8 18), .lit (.int .u8 6), .lit (.int .u8 11), .lit (.int .u8 5), .lit (.int .u8 10), .lit (.int .u8 9)]
def laid_math_bits_deBruijn64tab {H : Type} : DataW H := .agg [.lit (.int .u8 0), .lit (.int .u8 1), .lit (.int .u8 56), .lit (.int .u8 2), .lit (.int .u8 57), .lit (.int .u8 49), .lit (.int .u8 28), .lit (.int .u8 3), .lit (.int .u8 61), .lit (.int .u8 58), .lit (.int .u8 42), .lit (.int .u8 50), .lit (.int .u8 38), .lit (.int .u8 29), .lit (.int .u8 17), .lit (.int .u8 4), .lit (.int .u8 62), .lit (.int .u8 47), .lit (.int .u8 59), .lit (.int .u8 36), .lit (.int .u8 45), .lit (.int .u8 43), .lit (.int .u8 51), .lit (.int .u8 22), .lit (.int .u8 53), .lit (.int .u8 39), .lit (.int .u8 33), .lit (.int .u8 30), .lit (.int .u8 24), .lit (.int .u8 18), .lit (.int .u8 12), .lit (.int .u8 5), .lit (.int .u8 63), .lit (.int .u8 55), .lit (.int .u8 48), .lit (.int .u8 27), .lit (.int .u8 60), .lit (.int .u8 41), .lit (.int .u8 37), .lit (.int .u8 16), .lit (.int .u8 46), .lit (.int .u8 35), .lit (.int .u8 44), .lit (.int .u8 21), .lit (.int .u8 52), .lit (.int .u8 32), .lit (.int .u8 23), .lit (.int .u8 11), .lit (.int .u8 54), .lit (.int .u8 26), .lit (.int .u8 40), .lit (.int .u8 15), .lit (.int .u8 34), .lit (.int .u8 20), .lit (.int .u8 31), .lit (.int .u8 10), .lit (.int .u8 25), .lit (.int .u8 14), .lit (.int .u8 19), .lit (.int .u8 9), .lit (.int .u8 13), .lit (.int .u8 8), .lit (.int .u8 7), .lit (.int .u8 6)]

/-- 'skylanternlaw45.WeatherHolds': WHATEVER THE INPUT: true; the input reads as it did. -/
def weatherHoldsSpec : ChangeSpec := { name := "weatherHolds", fn := fun _ => fun
  | [d1, d2, d3, d4, d5, d6, d7, d8] => { results := [.lit (.bool true)], args := [d1, d2, d3, d4, d5, d6, d7, d8] }
  | _ => none }
def weatherHoldsRow : OpenClaim := { program := "ytdpajapkhembcaagreatdoor", sum := "f5eb1b88e5818777275dbbd0b0b8291308c0c217619c45094ca6594be1dceff7", func := "skylantern/skylanternlaw45.WeatherHolds", spec := "weatherHolds", inPlace := ["math/bits.Add64", "math/bits.Sub64"], unfollowed := true, recurses := true, named := ["math/bits.divideError", "math/bits.overflowError", "math/bits.deBruijn32tab", "math/bits.deBruijn64tab"], plainKeys := false, apart := false, laid := [("math/bits.deBruijn32tab", laid_math_bits_deBruijn32tab), ("math/bits.deBruijn64tab", laid_math_bits_deBruijn64tab)] }
def WeatherHoldsSaid : Prop := weatherHoldsRow.holds Tryz.pinned (OpenSpec.ofChange weatherHoldsSpec)

/-- ITS FALSE NEIGHBOUR: 'it returns false'. Refute it at one input. -/
def weatherHoldsWrong : ChangeSpec := { name := "weatherHolds", fn := fun _ => fun
  | [d1, d2, d3, d4, d5, d6, d7, d8] => { results := [.lit (.bool false)], args := [d1, d2, d3, d4, d5, d6, d7, d8] }
  | _ => none }
def WeatherHoldsWrongFalsely : Prop := weatherHoldsRow.holds Tryz.pinned (OpenSpec.ofChange weatherHoldsWrong)

/-- 'skylanternlaw45.WeatherMoves': WHATEVER THE INPUT: true; the input reads as it did. -/
def weatherMovesSpec : ChangeSpec := { name := "weatherMoves", fn := fun _ => fun
  | [d1, d2, d3] => { results := [.lit (.bool true)], args := [d1, d2, d3] }
  | _ => none }
def weatherMovesRow : OpenClaim := { program := "ytdpajapkhembcaagreatdoor", sum := "f5eb1b88e5818777275dbbd0b0b8291308c0c217619c45094ca6594be1dceff7", func := "skylantern/skylanternlaw45.WeatherMoves", spec := "weatherMoves", inPlace := ["math/bits.Add64", "math/bits.Sub64"], unfollowed := true, recurses := true, named := ["math/bits.divideError", "math/bits.overflowError", "math/bits.deBruijn32tab", "math/bits.deBruijn64tab"], plainKeys := false, apart := false, laid := [("math/bits.deBruijn32tab", laid_math_bits_deBruijn32tab), ("math/bits.deBruijn64tab", laid_math_bits_deBruijn64tab)] }
def WeatherMovesSaid : Prop := weatherMovesRow.holds Tryz.pinned (OpenSpec.ofChange weatherMovesSpec)

/-- ITS FALSE NEIGHBOUR: 'it returns false'. Refute it at one input. -/
def weatherMovesWrong : ChangeSpec := { name := "weatherMoves", fn := fun _ => fun
  | [d1, d2, d3] => { results := [.lit (.bool false)], args := [d1, d2, d3] }
  | _ => none }
def WeatherMovesWrongFalsely : Prop := weatherMovesRow.holds Tryz.pinned (OpenSpec.ofChange weatherMovesWrong)

/-- 'skylanternlaw45.WeatherWorst': WHATEVER THE INPUT: true; the input reads as it did. -/
def weatherWorstSpec : ChangeSpec := { name := "weatherWorst", fn := fun _ => fun
  | [d1, d2, d3] => { results := [.lit (.bool true)], args := [d1, d2, d3] }
  | _ => none }
def weatherWorstRow : OpenClaim := { program := "ytdpajapkhembcaagreatdoor", sum := "f5eb1b88e5818777275dbbd0b0b8291308c0c217619c45094ca6594be1dceff7", func := "skylantern/skylanternlaw45.WeatherWorst", spec := "weatherWorst", inPlace := ["math/bits.Add64", "math/bits.Sub64"], unfollowed := true, recurses := true, named := ["math/bits.divideError", "math/bits.overflowError", "math/bits.deBruijn32tab", "math/bits.deBruijn64tab"], plainKeys := false, apart := false, laid := [("math/bits.deBruijn32tab", laid_math_bits_deBruijn32tab), ("math/bits.deBruijn64tab", laid_math_bits_deBruijn64tab)] }
def WeatherWorstSaid : Prop := weatherWorstRow.holds Tryz.pinned (OpenSpec.ofChange weatherWorstSpec)

/-- ITS FALSE NEIGHBOUR: 'it returns false'. Refute it at one input. -/
def weatherWorstWrong : ChangeSpec := { name := "weatherWorst", fn := fun _ => fun
  | [d1, d2, d3] => { results := [.lit (.bool false)], args := [d1, d2, d3] }
  | _ => none }
def WeatherWorstWrongFalsely : Prop := weatherWorstRow.holds Tryz.pinned (OpenSpec.ofChange weatherWorstWrong)

/-- 'skylanternlaw45.WeatherDecides': WHATEVER THE INPUT: true; the input reads as it did. -/
def weatherDecidesSpec : ChangeSpec := { name := "weatherDecides", fn := fun _ => fun
  | [d1, d2, d3, d4] => { results := [.lit (.bool true)], args := [d1, d2, d3, d4] }
  | _ => none }
def weatherDecidesRow : OpenClaim := { program := "ytdpajapkhembcaagreatdoor", sum := "f5eb1b88e5818777275dbbd0b0b8291308c0c217619c45094ca6594be1dceff7", func := "skylantern/skylanternlaw45.WeatherDecides", spec := "weatherDecides", inPlace := ["math/bits.Add64", "math/bits.Sub64"], unfollowed := true, recurses := true, named := ["math/bits.divideError", "math/bits.overflowError", "math/bits.deBruijn32tab", "math/bits.deBruijn64tab"], plainKeys := false, apart := false, laid := [("math/bits.deBruijn32tab", laid_math_bits_deBruijn32tab), ("math/bits.deBruijn64tab", laid_math_bits_deBruijn64tab)] }
def WeatherDecidesSaid : Prop := weatherDecidesRow.holds Tryz.pinned (OpenSpec.ofChange weatherDecidesSpec)

/-- ITS FALSE NEIGHBOUR: 'it returns false'. Refute it at one input. -/
def weatherDecidesWrong : ChangeSpec := { name := "weatherDecides", fn := fun _ => fun
  | [d1, d2, d3, d4] => { results := [.lit (.bool false)], args := [d1, d2, d3, d4] }
  | _ => none }
def WeatherDecidesWrongFalsely : Prop := weatherDecidesRow.holds Tryz.pinned (OpenSpec.ofChange weatherDecidesWrong)

/-- 'skylanternlaw45.WeatherTables': WHATEVER THE INPUT: true; the input reads as it did. -/
def weatherTablesSpec : ChangeSpec := { name := "weatherTables", fn := fun _ => fun
  | [d1, d2, d3, d4, d5, d6] => { results := [.lit (.bool true)], args := [d1, d2, d3, d4, d5, d6] }
  | _ => none }
def weatherTablesRow : OpenClaim := { program := "ytdpajapkhembcaagreatdoor", sum := "f5eb1b88e5818777275dbbd0b0b8291308c0c217619c45094ca6594be1dceff7", func := "skylantern/skylanternlaw45.WeatherTables", spec := "weatherTables", inPlace := ["math/bits.Add64", "math/bits.Sub64"], unfollowed := true, recurses := true, named := ["math/bits.divideError", "math/bits.overflowError", "math/bits.deBruijn32tab", "math/bits.deBruijn64tab"], plainKeys := false, apart := false, laid := [("math/bits.deBruijn32tab", laid_math_bits_deBruijn32tab), ("math/bits.deBruijn64tab", laid_math_bits_deBruijn64tab)] }
def WeatherTablesSaid : Prop := weatherTablesRow.holds Tryz.pinned (OpenSpec.ofChange weatherTablesSpec)

/-- ITS FALSE NEIGHBOUR: 'it returns false'. Refute it at one input. -/
def weatherTablesWrong : ChangeSpec := { name := "weatherTables", fn := fun _ => fun
  | [d1, d2, d3, d4, d5, d6] => { results := [.lit (.bool false)], args := [d1, d2, d3, d4, d5, d6] }
  | _ => none }
def WeatherTablesWrongFalsely : Prop := weatherTablesRow.holds Tryz.pinned (OpenSpec.ofChange weatherTablesWrong)

/- THE SECOND FORM. 'bulk': how many values and letters a reading holds, each counted each time it is reached (what is shared counts as often as it is met; a slice's spare places count too). A statement '..UptoSaid' is the law's where the arguments, and the package variables that the reading takes, are together of bulk at most 1048576: NARROWER than '..Said'. Prove '..Said' where nothing that the law and all that it calls make is longer than what came in: it says more and counts as full. Else prove '..UptoSaid'. A law counts once. -/
mutual
def uptoBulk {H : Type} : DataW H → Nat
  | .lit (.string bytes) => bytes.length + 1
  | .lit _ => 1
  | .nil => 1
  | .ptr d => uptoBulk d + 1
  | .slice elems spare => uptoBulkAll elems + uptoBulkAll spare + 1
  | .agg parts => uptoBulkAll parts + 1
  | .iface _ d => uptoBulk d + 1
  | .map entries => uptoBulkEntries entries + 1
  | .held _ => 1
def uptoBulkAll {H : Type} : List (DataW H) → Nat
  | [] => 0
  | d :: r => uptoBulk d + uptoBulkAll r
def uptoBulkEntries {H : Type} : List (Lit × DataW H) → Nat
  | [] => 0
  | x :: r => uptoBulkEntry x + uptoBulkEntries r
def uptoBulkEntry {H : Type} : Lit × DataW H → Nat
  | (.string bytes, d) => bytes.length + uptoBulk d + 1
  | (_, d) => uptoBulk d + 1
 end
def uptoSmall : (H : Type) → List (DataW H) → Bool := fun _ ds => decide (uptoBulkAll ds ≤ 1048576)
def OpenSpec.upto (s : _root_.Go.ChangeSpec) : _root_.Go.OpenSpec := { _root_.Go.OpenSpec.ofChange s with cond := some uptoSmall }

/-- 'skylanternlaw45.WeatherHolds', WHERE WHAT IT READS IS OF BULK AT MOST 1048576: true; the input reads as it did. -/
def weatherHoldsUptoRow : OpenClaim := { program := "ytdpajapkhembcaagreatdoor", sum := "f5eb1b88e5818777275dbbd0b0b8291308c0c217619c45094ca6594be1dceff7", func := "skylantern/skylanternlaw45.WeatherHolds", spec := "weatherHolds", inPlace := ["math/bits.Add64", "math/bits.Sub64"], unfollowed := true, recurses := true, named := ["math/bits.divideError", "math/bits.overflowError", "math/bits.deBruijn32tab", "math/bits.deBruijn64tab"], plainKeys := false, apart := false, laid := [("math/bits.deBruijn32tab", laid_math_bits_deBruijn32tab), ("math/bits.deBruijn64tab", laid_math_bits_deBruijn64tab)], narrowed := true }
def WeatherHoldsUptoSaid : Prop := weatherHoldsUptoRow.holds Tryz.pinned (OpenSpec.upto weatherHoldsSpec)

/-- 'skylanternlaw45.WeatherMoves', WHERE WHAT IT READS IS OF BULK AT MOST 1048576: true; the input reads as it did. -/
def weatherMovesUptoRow : OpenClaim := { program := "ytdpajapkhembcaagreatdoor", sum := "f5eb1b88e5818777275dbbd0b0b8291308c0c217619c45094ca6594be1dceff7", func := "skylantern/skylanternlaw45.WeatherMoves", spec := "weatherMoves", inPlace := ["math/bits.Add64", "math/bits.Sub64"], unfollowed := true, recurses := true, named := ["math/bits.divideError", "math/bits.overflowError", "math/bits.deBruijn32tab", "math/bits.deBruijn64tab"], plainKeys := false, apart := false, laid := [("math/bits.deBruijn32tab", laid_math_bits_deBruijn32tab), ("math/bits.deBruijn64tab", laid_math_bits_deBruijn64tab)], narrowed := true }
def WeatherMovesUptoSaid : Prop := weatherMovesUptoRow.holds Tryz.pinned (OpenSpec.upto weatherMovesSpec)

/-- 'skylanternlaw45.WeatherWorst', WHERE WHAT IT READS IS OF BULK AT MOST 1048576: true; the input reads as it did. -/
def weatherWorstUptoRow : OpenClaim := { program := "ytdpajapkhembcaagreatdoor", sum := "f5eb1b88e5818777275dbbd0b0b8291308c0c217619c45094ca6594be1dceff7", func := "skylantern/skylanternlaw45.WeatherWorst", spec := "weatherWorst", inPlace := ["math/bits.Add64", "math/bits.Sub64"], unfollowed := true, recurses := true, named := ["math/bits.divideError", "math/bits.overflowError", "math/bits.deBruijn32tab", "math/bits.deBruijn64tab"], plainKeys := false, apart := false, laid := [("math/bits.deBruijn32tab", laid_math_bits_deBruijn32tab), ("math/bits.deBruijn64tab", laid_math_bits_deBruijn64tab)], narrowed := true }
def WeatherWorstUptoSaid : Prop := weatherWorstUptoRow.holds Tryz.pinned (OpenSpec.upto weatherWorstSpec)

/-- 'skylanternlaw45.WeatherDecides', WHERE WHAT IT READS IS OF BULK AT MOST 1048576: true; the input reads as it did. -/
def weatherDecidesUptoRow : OpenClaim := { program := "ytdpajapkhembcaagreatdoor", sum := "f5eb1b88e5818777275dbbd0b0b8291308c0c217619c45094ca6594be1dceff7", func := "skylantern/skylanternlaw45.WeatherDecides", spec := "weatherDecides", inPlace := ["math/bits.Add64", "math/bits.Sub64"], unfollowed := true, recurses := true, named := ["math/bits.divideError", "math/bits.overflowError", "math/bits.deBruijn32tab", "math/bits.deBruijn64tab"], plainKeys := false, apart := false, laid := [("math/bits.deBruijn32tab", laid_math_bits_deBruijn32tab), ("math/bits.deBruijn64tab", laid_math_bits_deBruijn64tab)], narrowed := true }
def WeatherDecidesUptoSaid : Prop := weatherDecidesUptoRow.holds Tryz.pinned (OpenSpec.upto weatherDecidesSpec)

/-- 'skylanternlaw45.WeatherTables', WHERE WHAT IT READS IS OF BULK AT MOST 1048576: true; the input reads as it did. -/
def weatherTablesUptoRow : OpenClaim := { program := "ytdpajapkhembcaagreatdoor", sum := "f5eb1b88e5818777275dbbd0b0b8291308c0c217619c45094ca6594be1dceff7", func := "skylantern/skylanternlaw45.WeatherTables", spec := "weatherTables", inPlace := ["math/bits.Add64", "math/bits.Sub64"], unfollowed := true, recurses := true, named := ["math/bits.divideError", "math/bits.overflowError", "math/bits.deBruijn32tab", "math/bits.deBruijn64tab"], plainKeys := false, apart := false, laid := [("math/bits.deBruijn32tab", laid_math_bits_deBruijn32tab), ("math/bits.deBruijn64tab", laid_math_bits_deBruijn64tab)], narrowed := true }
def WeatherTablesUptoSaid : Prop := weatherTablesUptoRow.holds Tryz.pinned (OpenSpec.upto weatherTablesSpec)

end Rows
end Go.Proofs.YtdpajapkhembcaaGreatDoor
