/-
  No cell of these rows narrows 'for every input' (looked for: loops, veiled, ifaces, maps, wideKeys, modest, calm, conditions, laid).
  DERIVED. THE GIVEN ROWS OF THIS SEAT. 8 by the template 'for every input the law returns true; each argument reads behind the call as it read before'; 0 by the template 'total and deterministic' (their statements: YtlpiamlgibomhaaGreatTotals.lean).
  GIVEN WITH THE SEED: the statements are not yours to turn. If you find one false, say at which input.
  Laid BY PROGRAM, IN A SANDBOX (cutbox-rows.mjs): the forced cells as the released guide's own fill.sh prints them over the translation 372fdb69d2c381b2… (all of the seat's roots in one cut). By AI agents, Wed Nov 11 2026. No macro, syntax, notation, axiom, sorry.
-/
import Derived.Test.YtlpiamlgibomhaaGreatChecked
import GoSem.Claim
import GoSem.ClaimJoined
import GoSem.ClaimMapViews
import Derived.JoinedTies
import Derived.KernelRfl
namespace Go.Proofs.YtlpiamlgibomhaaGreat
/- THE CELL 'sum', in the pinned program and in every row, IS THE sha256 OF THE DUMP (.gsa) THAT YtlpiamlgibomhaaGreatProg.lean LOADS. Nothing in Lean hashes anything: it is a label: what it is worth is what the hold of that sum in a sandbox is worth. -/
noncomputable def Tryz.pinned : Pinned := { name := "ytlpiamlgibomhaagreat", sum := "372fdb69d2c381b2ec2c74f0aa5ff908913a534df88df0d62109a66eae0084fa", checked := Tryz.checked }
namespace Rows
def none {H : Type} : Left H := { results := [], args := [] }

/-- 'skylanternlaw14.SegmentValid': WHATEVER THE INPUT: true; the input reads as it did. -/
def segmentValidSpec : ChangeSpec := { name := "segmentValid", fn := fun _ => fun
  | [d] => { results := [.lit (.bool true)], args := [d] }
  | _ => none }
def segmentValidRow : OpenClaim := { program := "ytlpiamlgibomhaagreat", sum := "372fdb69d2c381b2ec2c74f0aa5ff908913a534df88df0d62109a66eae0084fa", func := "skylantern/skylanternlaw14.SegmentValid", spec := "segmentValid", inPlace := ["math/bits.Add64", "math/bits.Sub64"], unfollowed := true, recurses := true, named := ["math/bits.divideError", "math/bits.overflowError"], apart := false }
def SegmentValidSaid : Prop := segmentValidRow.holds Tryz.pinned (OpenSpec.ofChange segmentValidSpec)

/-- ITS FALSE NEIGHBOUR: 'it returns false'. Refute it at one input. -/
def segmentValidWrong : ChangeSpec := { name := "segmentValid", fn := fun _ => fun
  | [d] => { results := [.lit (.bool false)], args := [d] }
  | _ => none }
def SegmentValidWrongFalsely : Prop := segmentValidRow.holds Tryz.pinned (OpenSpec.ofChange segmentValidWrong)

/-- 'skylanternlaw14.SegmentPlaces': WHATEVER THE INPUT: true; the input reads as it did. -/
def segmentPlacesSpec : ChangeSpec := { name := "segmentPlaces", fn := fun _ => fun
  | [d1, d2] => { results := [.lit (.bool true)], args := [d1, d2] }
  | _ => none }
def segmentPlacesRow : OpenClaim := { program := "ytlpiamlgibomhaagreat", sum := "372fdb69d2c381b2ec2c74f0aa5ff908913a534df88df0d62109a66eae0084fa", func := "skylantern/skylanternlaw14.SegmentPlaces", spec := "segmentPlaces", inPlace := ["math/bits.Add64", "math/bits.Sub64"], unfollowed := true, recurses := true, named := ["math/bits.divideError", "math/bits.overflowError"], apart := false }
def SegmentPlacesSaid : Prop := segmentPlacesRow.holds Tryz.pinned (OpenSpec.ofChange segmentPlacesSpec)

/-- ITS FALSE NEIGHBOUR: 'it returns false'. Refute it at one input. -/
def segmentPlacesWrong : ChangeSpec := { name := "segmentPlaces", fn := fun _ => fun
  | [d1, d2] => { results := [.lit (.bool false)], args := [d1, d2] }
  | _ => none }
def SegmentPlacesWrongFalsely : Prop := segmentPlacesRow.holds Tryz.pinned (OpenSpec.ofChange segmentPlacesWrong)

/-- 'skylanternlaw14.SegmentCuts': WHATEVER THE INPUT: true; the input reads as it did. -/
def segmentCutsSpec : ChangeSpec := { name := "segmentCuts", fn := fun _ => fun
  | [d1, d2, d3] => { results := [.lit (.bool true)], args := [d1, d2, d3] }
  | _ => none }
def segmentCutsRow : OpenClaim := { program := "ytlpiamlgibomhaagreat", sum := "372fdb69d2c381b2ec2c74f0aa5ff908913a534df88df0d62109a66eae0084fa", func := "skylantern/skylanternlaw14.SegmentCuts", spec := "segmentCuts", inPlace := ["math/bits.Add64", "math/bits.Sub64"], unfollowed := true, recurses := true, named := ["math/bits.divideError", "math/bits.overflowError"], apart := false }
def SegmentCutsSaid : Prop := segmentCutsRow.holds Tryz.pinned (OpenSpec.ofChange segmentCutsSpec)

/-- ITS FALSE NEIGHBOUR: 'it returns false'. Refute it at one input. -/
def segmentCutsWrong : ChangeSpec := { name := "segmentCuts", fn := fun _ => fun
  | [d1, d2, d3] => { results := [.lit (.bool false)], args := [d1, d2, d3] }
  | _ => none }
def SegmentCutsWrongFalsely : Prop := segmentCutsRow.holds Tryz.pinned (OpenSpec.ofChange segmentCutsWrong)

/-- 'skylanternlaw14.SegmentAppends': WHATEVER THE INPUT: true; the input reads as it did. -/
def segmentAppendsSpec : ChangeSpec := { name := "segmentAppends", fn := fun _ => fun
  | [d1, d2, d3] => { results := [.lit (.bool true)], args := [d1, d2, d3] }
  | _ => none }
def segmentAppendsRow : OpenClaim := { program := "ytlpiamlgibomhaagreat", sum := "372fdb69d2c381b2ec2c74f0aa5ff908913a534df88df0d62109a66eae0084fa", func := "skylantern/skylanternlaw14.SegmentAppends", spec := "segmentAppends", inPlace := ["math/bits.Add64", "math/bits.Sub64"], unfollowed := true, recurses := true, named := ["math/bits.divideError", "math/bits.overflowError"], apart := false }
def SegmentAppendsSaid : Prop := segmentAppendsRow.holds Tryz.pinned (OpenSpec.ofChange segmentAppendsSpec)

/-- ITS FALSE NEIGHBOUR: 'it returns false'. Refute it at one input. -/
def segmentAppendsWrong : ChangeSpec := { name := "segmentAppends", fn := fun _ => fun
  | [d1, d2, d3] => { results := [.lit (.bool false)], args := [d1, d2, d3] }
  | _ => none }
def SegmentAppendsWrongFalsely : Prop := segmentAppendsRow.holds Tryz.pinned (OpenSpec.ofChange segmentAppendsWrong)

/-- 'skylanternlaw14.SegmentPaths': WHATEVER THE INPUT: true; the input reads as it did. -/
def segmentPathsSpec : ChangeSpec := { name := "segmentPaths", fn := fun _ => fun
  | [d1, d2, d3] => { results := [.lit (.bool true)], args := [d1, d2, d3] }
  | _ => none }
def segmentPathsRow : OpenClaim := { program := "ytlpiamlgibomhaagreat", sum := "372fdb69d2c381b2ec2c74f0aa5ff908913a534df88df0d62109a66eae0084fa", func := "skylantern/skylanternlaw14.SegmentPaths", spec := "segmentPaths", inPlace := ["math/bits.Add64", "math/bits.Sub64"], unfollowed := true, recurses := true, named := ["math/bits.divideError", "math/bits.overflowError"], apart := false }
def SegmentPathsSaid : Prop := segmentPathsRow.holds Tryz.pinned (OpenSpec.ofChange segmentPathsSpec)

/-- ITS FALSE NEIGHBOUR: 'it returns false'. Refute it at one input. -/
def segmentPathsWrong : ChangeSpec := { name := "segmentPaths", fn := fun _ => fun
  | [d1, d2, d3] => { results := [.lit (.bool false)], args := [d1, d2, d3] }
  | _ => none }
def SegmentPathsWrongFalsely : Prop := segmentPathsRow.holds Tryz.pinned (OpenSpec.ofChange segmentPathsWrong)

/-- 'skylanternlaw14.SegmentMoves': WHATEVER THE INPUT: true; the input reads as it did. -/
def segmentMovesSpec : ChangeSpec := { name := "segmentMoves", fn := fun _ => fun
  | [d1, d2, d3] => { results := [.lit (.bool true)], args := [d1, d2, d3] }
  | _ => none }
def segmentMovesRow : OpenClaim := { program := "ytlpiamlgibomhaagreat", sum := "372fdb69d2c381b2ec2c74f0aa5ff908913a534df88df0d62109a66eae0084fa", func := "skylantern/skylanternlaw14.SegmentMoves", spec := "segmentMoves", inPlace := ["math/bits.Add64", "math/bits.Sub64"], unfollowed := true, recurses := true, named := ["math/bits.divideError", "math/bits.overflowError"], apart := false }
def SegmentMovesSaid : Prop := segmentMovesRow.holds Tryz.pinned (OpenSpec.ofChange segmentMovesSpec)

/-- ITS FALSE NEIGHBOUR: 'it returns false'. Refute it at one input. -/
def segmentMovesWrong : ChangeSpec := { name := "segmentMoves", fn := fun _ => fun
  | [d1, d2, d3] => { results := [.lit (.bool false)], args := [d1, d2, d3] }
  | _ => none }
def SegmentMovesWrongFalsely : Prop := segmentMovesRow.holds Tryz.pinned (OpenSpec.ofChange segmentMovesWrong)

/-- 'skylanternlaw14.SegmentCommon': WHATEVER THE INPUT: true; the input reads as it did. -/
def segmentCommonSpec : ChangeSpec := { name := "segmentCommon", fn := fun _ => fun
  | [d1, d2] => { results := [.lit (.bool true)], args := [d1, d2] }
  | _ => none }
def segmentCommonRow : OpenClaim := { program := "ytlpiamlgibomhaagreat", sum := "372fdb69d2c381b2ec2c74f0aa5ff908913a534df88df0d62109a66eae0084fa", func := "skylantern/skylanternlaw14.SegmentCommon", spec := "segmentCommon", inPlace := ["math/bits.Add64", "math/bits.Sub64"], unfollowed := true, recurses := true, named := ["math/bits.divideError", "math/bits.overflowError"], apart := false }
def SegmentCommonSaid : Prop := segmentCommonRow.holds Tryz.pinned (OpenSpec.ofChange segmentCommonSpec)

/-- ITS FALSE NEIGHBOUR: 'it returns false'. Refute it at one input. -/
def segmentCommonWrong : ChangeSpec := { name := "segmentCommon", fn := fun _ => fun
  | [d1, d2] => { results := [.lit (.bool false)], args := [d1, d2] }
  | _ => none }
def SegmentCommonWrongFalsely : Prop := segmentCommonRow.holds Tryz.pinned (OpenSpec.ofChange segmentCommonWrong)

/-- 'skylanternlaw14.SegmentHolds': WHATEVER THE INPUT: true; the input reads as it did. -/
def segmentHoldsSpec : ChangeSpec := { name := "segmentHolds", fn := fun _ => fun
  | [d1, d2, d3, d4, d5] => { results := [.lit (.bool true)], args := [d1, d2, d3, d4, d5] }
  | _ => none }
def segmentHoldsRow : OpenClaim := { program := "ytlpiamlgibomhaagreat", sum := "372fdb69d2c381b2ec2c74f0aa5ff908913a534df88df0d62109a66eae0084fa", func := "skylantern/skylanternlaw14.SegmentHolds", spec := "segmentHolds", inPlace := ["math/bits.Add64", "math/bits.Sub64"], unfollowed := true, recurses := true, named := ["math/bits.divideError", "math/bits.overflowError"], apart := false }
def SegmentHoldsSaid : Prop := segmentHoldsRow.holds Tryz.pinned (OpenSpec.ofChange segmentHoldsSpec)

/-- ITS FALSE NEIGHBOUR: 'it returns false'. Refute it at one input. -/
def segmentHoldsWrong : ChangeSpec := { name := "segmentHolds", fn := fun _ => fun
  | [d1, d2, d3, d4, d5] => { results := [.lit (.bool false)], args := [d1, d2, d3, d4, d5] }
  | _ => none }
def SegmentHoldsWrongFalsely : Prop := segmentHoldsRow.holds Tryz.pinned (OpenSpec.ofChange segmentHoldsWrong)

/- THE SECOND FORM. 'bulk': how many values and letters a reading holds, each counted each time it is reached (what is shared counts as often as it is met; a slice's spare places count too). A statement '..UptoSaid' is the law's where the arguments, and the package variables that the reading takes, are together of bulk at most 1048576: NARROWER than '..Said'. Prove '..Said' where nothing that the law and all that it calls make is longer than what came in: it says more and counts as full. Else prove '..UptoSaid'. A law counts once. -/
mutual
def uptoBulk {H : Type} : DataW H → Nat
  | .lit (.string bytes) => bytes.length + 1
  | .lit _ => 1
  | .nil => 1
  | .ptr d => uptoBulk d + 1
  | .slice elems spare => uptoBulkAll elems + uptoBulkAll spare + 1
  | .agg parts => uptoBulkAll parts + 1
  | .iface _ d => uptoBulk d + 1
  | .map entries => uptoBulkEntries entries + 1
  | .held _ => 1
def uptoBulkAll {H : Type} : List (DataW H) → Nat
  | [] => 0
  | d :: r => uptoBulk d + uptoBulkAll r
def uptoBulkEntries {H : Type} : List (Lit × DataW H) → Nat
  | [] => 0
  | x :: r => uptoBulkEntry x + uptoBulkEntries r
def uptoBulkEntry {H : Type} : Lit × DataW H → Nat
  | (.string bytes, d) => bytes.length + uptoBulk d + 1
  | (_, d) => uptoBulk d + 1
 end
def uptoSmall : (H : Type) → List (DataW H) → Bool := fun _ ds => decide (uptoBulkAll ds ≤ 1048576)
def OpenSpec.upto (s : _root_.Go.ChangeSpec) : _root_.Go.OpenSpec := { _root_.Go.OpenSpec.ofChange s with cond := some uptoSmall }

/-- 'skylanternlaw14.SegmentValid', WHERE WHAT IT READS IS OF BULK AT MOST 1048576: true; the input reads as it did. -/
def segmentValidUptoRow : OpenClaim := { program := "ytlpiamlgibomhaagreat", sum := "372fdb69d2c381b2ec2c74f0aa5ff908913a534df88df0d62109a66eae0084fa", func := "skylantern/skylanternlaw14.SegmentValid", spec := "segmentValid", inPlace := ["math/bits.Add64", "math/bits.Sub64"], unfollowed := true, recurses := true, named := ["math/bits.divideError", "math/bits.overflowError"], apart := false, narrowed := true }
def SegmentValidUptoSaid : Prop := segmentValidUptoRow.holds Tryz.pinned (OpenSpec.upto segmentValidSpec)

/-- 'skylanternlaw14.SegmentPlaces', WHERE WHAT IT READS IS OF BULK AT MOST 1048576: true; the input reads as it did. -/
def segmentPlacesUptoRow : OpenClaim := { program := "ytlpiamlgibomhaagreat", sum := "372fdb69d2c381b2ec2c74f0aa5ff908913a534df88df0d62109a66eae0084fa", func := "skylantern/skylanternlaw14.SegmentPlaces", spec := "segmentPlaces", inPlace := ["math/bits.Add64", "math/bits.Sub64"], unfollowed := true, recurses := true, named := ["math/bits.divideError", "math/bits.overflowError"], apart := false, narrowed := true }
def SegmentPlacesUptoSaid : Prop := segmentPlacesUptoRow.holds Tryz.pinned (OpenSpec.upto segmentPlacesSpec)

/-- 'skylanternlaw14.SegmentCuts', WHERE WHAT IT READS IS OF BULK AT MOST 1048576: true; the input reads as it did. -/
def segmentCutsUptoRow : OpenClaim := { program := "ytlpiamlgibomhaagreat", sum := "372fdb69d2c381b2ec2c74f0aa5ff908913a534df88df0d62109a66eae0084fa", func := "skylantern/skylanternlaw14.SegmentCuts", spec := "segmentCuts", inPlace := ["math/bits.Add64", "math/bits.Sub64"], unfollowed := true, recurses := true, named := ["math/bits.divideError", "math/bits.overflowError"], apart := false, narrowed := true }
def SegmentCutsUptoSaid : Prop := segmentCutsUptoRow.holds Tryz.pinned (OpenSpec.upto segmentCutsSpec)

/-- 'skylanternlaw14.SegmentAppends', WHERE WHAT IT READS IS OF BULK AT MOST 1048576: true; the input reads as it did. -/
def segmentAppendsUptoRow : OpenClaim := { program := "ytlpiamlgibomhaagreat", sum := "372fdb69d2c381b2ec2c74f0aa5ff908913a534df88df0d62109a66eae0084fa", func := "skylantern/skylanternlaw14.SegmentAppends", spec := "segmentAppends", inPlace := ["math/bits.Add64", "math/bits.Sub64"], unfollowed := true, recurses := true, named := ["math/bits.divideError", "math/bits.overflowError"], apart := false, narrowed := true }
def SegmentAppendsUptoSaid : Prop := segmentAppendsUptoRow.holds Tryz.pinned (OpenSpec.upto segmentAppendsSpec)

/-- 'skylanternlaw14.SegmentPaths', WHERE WHAT IT READS IS OF BULK AT MOST 1048576: true; the input reads as it did. -/
def segmentPathsUptoRow : OpenClaim := { program := "ytlpiamlgibomhaagreat", sum := "372fdb69d2c381b2ec2c74f0aa5ff908913a534df88df0d62109a66eae0084fa", func := "skylantern/skylanternlaw14.SegmentPaths", spec := "segmentPaths", inPlace := ["math/bits.Add64", "math/bits.Sub64"], unfollowed := true, recurses := true, named := ["math/bits.divideError", "math/bits.overflowError"], apart := false, narrowed := true }
def SegmentPathsUptoSaid : Prop := segmentPathsUptoRow.holds Tryz.pinned (OpenSpec.upto segmentPathsSpec)

/-- 'skylanternlaw14.SegmentMoves', WHERE WHAT IT READS IS OF BULK AT MOST 1048576: true; the input reads as it did. -/
def segmentMovesUptoRow : OpenClaim := { program := "ytlpiamlgibomhaagreat", sum := "372fdb69d2c381b2ec2c74f0aa5ff908913a534df88df0d62109a66eae0084fa", func := "skylantern/skylanternlaw14.SegmentMoves", spec := "segmentMoves", inPlace := ["math/bits.Add64", "math/bits.Sub64"], unfollowed := true, recurses := true, named := ["math/bits.divideError", "math/bits.overflowError"], apart := false, narrowed := true }
def SegmentMovesUptoSaid : Prop := segmentMovesUptoRow.holds Tryz.pinned (OpenSpec.upto segmentMovesSpec)

/-- 'skylanternlaw14.SegmentCommon', WHERE WHAT IT READS IS OF BULK AT MOST 1048576: true; the input reads as it did. -/
def segmentCommonUptoRow : OpenClaim := { program := "ytlpiamlgibomhaagreat", sum := "372fdb69d2c381b2ec2c74f0aa5ff908913a534df88df0d62109a66eae0084fa", func := "skylantern/skylanternlaw14.SegmentCommon", spec := "segmentCommon", inPlace := ["math/bits.Add64", "math/bits.Sub64"], unfollowed := true, recurses := true, named := ["math/bits.divideError", "math/bits.overflowError"], apart := false, narrowed := true }
def SegmentCommonUptoSaid : Prop := segmentCommonUptoRow.holds Tryz.pinned (OpenSpec.upto segmentCommonSpec)

/-- 'skylanternlaw14.SegmentHolds', WHERE WHAT IT READS IS OF BULK AT MOST 1048576: true; the input reads as it did. -/
def segmentHoldsUptoRow : OpenClaim := { program := "ytlpiamlgibomhaagreat", sum := "372fdb69d2c381b2ec2c74f0aa5ff908913a534df88df0d62109a66eae0084fa", func := "skylantern/skylanternlaw14.SegmentHolds", spec := "segmentHolds", inPlace := ["math/bits.Add64", "math/bits.Sub64"], unfollowed := true, recurses := true, named := ["math/bits.divideError", "math/bits.overflowError"], apart := false, narrowed := true }
def SegmentHoldsUptoSaid : Prop := segmentHoldsUptoRow.holds Tryz.pinned (OpenSpec.upto segmentHoldsSpec)

end Rows
end Go.Proofs.YtlpiamlgibomhaaGreat
