/-
  No cell of these rows narrows 'for every input' (looked for: loops, veiled, ifaces, maps, wideKeys, modest, calm, conditions, laid).
  DERIVED. THE GIVEN ROWS OF THIS SEAT. 6 by the template 'for every input the law returns true; each argument reads behind the call as it read before'; 0 by the template 'total and deterministic' (their statements: YtjlkapdmgjocdaaGreatTotals.lean).
  GIVEN WITH THE SEED: the statements are not yours to turn. If you find one false, say at which input.
  Laid BY PROGRAM, IN A SANDBOX (cutbox-rows.mjs): the forced cells as the released guide's own fill.sh prints them over the translation 2b7fd2ded88c58bf… (all of the seat's roots in one cut). By AI agents, Wed Nov 11 2026. No macro, syntax, notation, axiom, sorry.
-/
import Derived.Test.YtjlkapdmgjocdaaGreatChecked
import GoSem.Claim
import GoSem.ClaimJoined
import GoSem.ClaimMapViews
import Derived.JoinedTies
import Derived.KernelRfl
namespace Go.Proofs.YtjlkapdmgjocdaaGreat
/- THE CELL 'sum', in the pinned program and in every row, IS THE sha256 OF THE DUMP (.gsa) THAT YtjlkapdmgjocdaaGreatProg.lean LOADS. Nothing in Lean hashes anything: it is a label: what it is worth is what the hold of that sum in a sandbox is worth. -/
noncomputable def Tryz.pinned : Pinned := { name := "ytjlkapdmgjocdaagreat", sum := "2b7fd2ded88c58bfbda93e975cb92ff298596c5a991aeb95b5dfc53933ffd785", checked := Tryz.checked }
namespace Rows
def none {H : Type} : Left H := { results := [], args := [] }

/-- 'skylanternlaw40.FailureValid': WHATEVER THE INPUT: true; the input reads as it did. -/
def failureValidSpec : ChangeSpec := { name := "failureValid", fn := fun _ => fun
  | [d1, d2, d3] => { results := [.lit (.bool true)], args := [d1, d2, d3] }
  | _ => none }
def failureValidRow : OpenClaim := { program := "ytjlkapdmgjocdaagreat", sum := "2b7fd2ded88c58bfbda93e975cb92ff298596c5a991aeb95b5dfc53933ffd785", func := "skylantern/skylanternlaw40.FailureValid", spec := "failureValid", inPlace := ["math/bits.Add64", "math/bits.Sub64"], unfollowed := true, recurses := true, named := ["math/bits.divideError", "math/bits.overflowError"], plainKeys := false, apart := false }
def FailureValidSaid : Prop := failureValidRow.holds Tryz.pinned (OpenSpec.ofChange failureValidSpec)

/-- ITS FALSE NEIGHBOUR: 'it returns false'. Refute it at one input. -/
def failureValidWrong : ChangeSpec := { name := "failureValid", fn := fun _ => fun
  | [d1, d2, d3] => { results := [.lit (.bool false)], args := [d1, d2, d3] }
  | _ => none }
def FailureValidWrongFalsely : Prop := failureValidRow.holds Tryz.pinned (OpenSpec.ofChange failureValidWrong)

/-- 'skylanternlaw40.FailureStages': WHATEVER THE INPUT: true; the input reads as it did. -/
def failureStagesSpec : ChangeSpec := { name := "failureStages", fn := fun _ => fun
  | [d1, d2, d3, d4] => { results := [.lit (.bool true)], args := [d1, d2, d3, d4] }
  | _ => none }
def failureStagesRow : OpenClaim := { program := "ytjlkapdmgjocdaagreat", sum := "2b7fd2ded88c58bfbda93e975cb92ff298596c5a991aeb95b5dfc53933ffd785", func := "skylantern/skylanternlaw40.FailureStages", spec := "failureStages", inPlace := ["math/bits.Add64", "math/bits.Sub64"], unfollowed := true, recurses := true, named := ["math/bits.divideError", "math/bits.overflowError"], plainKeys := false, apart := false }
def FailureStagesSaid : Prop := failureStagesRow.holds Tryz.pinned (OpenSpec.ofChange failureStagesSpec)

/-- ITS FALSE NEIGHBOUR: 'it returns false'. Refute it at one input. -/
def failureStagesWrong : ChangeSpec := { name := "failureStages", fn := fun _ => fun
  | [d1, d2, d3, d4] => { results := [.lit (.bool false)], args := [d1, d2, d3, d4] }
  | _ => none }
def FailureStagesWrongFalsely : Prop := failureStagesRow.holds Tryz.pinned (OpenSpec.ofChange failureStagesWrong)

/-- 'skylanternlaw40.FailureCases': WHATEVER THE INPUT: true; the input reads as it did. -/
def failureCasesSpec : ChangeSpec := { name := "failureCases", fn := fun _ => fun
  | [d1, d2] => { results := [.lit (.bool true)], args := [d1, d2] }
  | _ => none }
def failureCasesRow : OpenClaim := { program := "ytjlkapdmgjocdaagreat", sum := "2b7fd2ded88c58bfbda93e975cb92ff298596c5a991aeb95b5dfc53933ffd785", func := "skylantern/skylanternlaw40.FailureCases", spec := "failureCases", inPlace := ["math/bits.Add64", "math/bits.Sub64"], unfollowed := true, recurses := true, named := ["math/bits.divideError", "math/bits.overflowError"], plainKeys := false, apart := false }
def FailureCasesSaid : Prop := failureCasesRow.holds Tryz.pinned (OpenSpec.ofChange failureCasesSpec)

/-- ITS FALSE NEIGHBOUR: 'it returns false'. Refute it at one input. -/
def failureCasesWrong : ChangeSpec := { name := "failureCases", fn := fun _ => fun
  | [d1, d2] => { results := [.lit (.bool false)], args := [d1, d2] }
  | _ => none }
def FailureCasesWrongFalsely : Prop := failureCasesRow.holds Tryz.pinned (OpenSpec.ofChange failureCasesWrong)

/-- 'skylanternlaw40.FailureEnds': WHATEVER THE INPUT: true; the input reads as it did. -/
def failureEndsSpec : ChangeSpec := { name := "failureEnds", fn := fun _ => fun
  | [d1, d2] => { results := [.lit (.bool true)], args := [d1, d2] }
  | _ => none }
def failureEndsRow : OpenClaim := { program := "ytjlkapdmgjocdaagreat", sum := "2b7fd2ded88c58bfbda93e975cb92ff298596c5a991aeb95b5dfc53933ffd785", func := "skylantern/skylanternlaw40.FailureEnds", spec := "failureEnds", inPlace := ["math/bits.Add64", "math/bits.Sub64"], unfollowed := true, recurses := true, named := ["math/bits.divideError", "math/bits.overflowError"], plainKeys := false, apart := false }
def FailureEndsSaid : Prop := failureEndsRow.holds Tryz.pinned (OpenSpec.ofChange failureEndsSpec)

/-- ITS FALSE NEIGHBOUR: 'it returns false'. Refute it at one input. -/
def failureEndsWrong : ChangeSpec := { name := "failureEnds", fn := fun _ => fun
  | [d1, d2] => { results := [.lit (.bool false)], args := [d1, d2] }
  | _ => none }
def FailureEndsWrongFalsely : Prop := failureEndsRow.holds Tryz.pinned (OpenSpec.ofChange failureEndsWrong)

/-- 'skylanternlaw40.FailureHolds': WHATEVER THE INPUT: true; the input reads as it did. -/
def failureHoldsSpec : ChangeSpec := { name := "failureHolds", fn := fun _ => fun
  | [d1, d2, d3, d4] => { results := [.lit (.bool true)], args := [d1, d2, d3, d4] }
  | _ => none }
def failureHoldsRow : OpenClaim := { program := "ytjlkapdmgjocdaagreat", sum := "2b7fd2ded88c58bfbda93e975cb92ff298596c5a991aeb95b5dfc53933ffd785", func := "skylantern/skylanternlaw40.FailureHolds", spec := "failureHolds", inPlace := ["math/bits.Add64", "math/bits.Sub64"], unfollowed := true, recurses := true, named := ["math/bits.divideError", "math/bits.overflowError"], plainKeys := false, apart := false }
def FailureHoldsSaid : Prop := failureHoldsRow.holds Tryz.pinned (OpenSpec.ofChange failureHoldsSpec)

/-- ITS FALSE NEIGHBOUR: 'it returns false'. Refute it at one input. -/
def failureHoldsWrong : ChangeSpec := { name := "failureHolds", fn := fun _ => fun
  | [d1, d2, d3, d4] => { results := [.lit (.bool false)], args := [d1, d2, d3, d4] }
  | _ => none }
def FailureHoldsWrongFalsely : Prop := failureHoldsRow.holds Tryz.pinned (OpenSpec.ofChange failureHoldsWrong)

/-- 'skylanternlaw40.FailurePaths': WHATEVER THE INPUT: true; the input reads as it did. -/
def failurePathsSpec : ChangeSpec := { name := "failurePaths", fn := fun _ => fun
  | [d1, d2] => { results := [.lit (.bool true)], args := [d1, d2] }
  | _ => none }
def failurePathsRow : OpenClaim := { program := "ytjlkapdmgjocdaagreat", sum := "2b7fd2ded88c58bfbda93e975cb92ff298596c5a991aeb95b5dfc53933ffd785", func := "skylantern/skylanternlaw40.FailurePaths", spec := "failurePaths", inPlace := ["math/bits.Add64", "math/bits.Sub64"], unfollowed := true, recurses := true, named := ["math/bits.divideError", "math/bits.overflowError"], plainKeys := false, apart := false }
def FailurePathsSaid : Prop := failurePathsRow.holds Tryz.pinned (OpenSpec.ofChange failurePathsSpec)

/-- ITS FALSE NEIGHBOUR: 'it returns false'. Refute it at one input. -/
def failurePathsWrong : ChangeSpec := { name := "failurePaths", fn := fun _ => fun
  | [d1, d2] => { results := [.lit (.bool false)], args := [d1, d2] }
  | _ => none }
def FailurePathsWrongFalsely : Prop := failurePathsRow.holds Tryz.pinned (OpenSpec.ofChange failurePathsWrong)

/- THE SECOND FORM. 'bulk': how many values and letters a reading holds, each counted each time it is reached (what is shared counts as often as it is met; a slice's spare places count too). A statement '..UptoSaid' is the law's where the arguments, and the package variables that the reading takes, are together of bulk at most 1048576: NARROWER than '..Said'. Prove '..Said' where nothing that the law and all that it calls make is longer than what came in: it says more and counts as full. Else prove '..UptoSaid'. A law counts once. -/
mutual
def uptoBulk {H : Type} : DataW H → Nat
  | .lit (.string bytes) => bytes.length + 1
  | .lit _ => 1
  | .nil => 1
  | .ptr d => uptoBulk d + 1
  | .slice elems spare => uptoBulkAll elems + uptoBulkAll spare + 1
  | .agg parts => uptoBulkAll parts + 1
  | .iface _ d => uptoBulk d + 1
  | .map entries => uptoBulkEntries entries + 1
  | .held _ => 1
def uptoBulkAll {H : Type} : List (DataW H) → Nat
  | [] => 0
  | d :: r => uptoBulk d + uptoBulkAll r
def uptoBulkEntries {H : Type} : List (Lit × DataW H) → Nat
  | [] => 0
  | x :: r => uptoBulkEntry x + uptoBulkEntries r
def uptoBulkEntry {H : Type} : Lit × DataW H → Nat
  | (.string bytes, d) => bytes.length + uptoBulk d + 1
  | (_, d) => uptoBulk d + 1
 end
def uptoSmall : (H : Type) → List (DataW H) → Bool := fun _ ds => decide (uptoBulkAll ds ≤ 1048576)
def OpenSpec.upto (s : _root_.Go.ChangeSpec) : _root_.Go.OpenSpec := { _root_.Go.OpenSpec.ofChange s with cond := some uptoSmall }

/-- 'skylanternlaw40.FailureValid', WHERE WHAT IT READS IS OF BULK AT MOST 1048576: true; the input reads as it did. -/
def failureValidUptoRow : OpenClaim := { program := "ytjlkapdmgjocdaagreat", sum := "2b7fd2ded88c58bfbda93e975cb92ff298596c5a991aeb95b5dfc53933ffd785", func := "skylantern/skylanternlaw40.FailureValid", spec := "failureValid", inPlace := ["math/bits.Add64", "math/bits.Sub64"], unfollowed := true, recurses := true, named := ["math/bits.divideError", "math/bits.overflowError"], plainKeys := false, apart := false, narrowed := true }
def FailureValidUptoSaid : Prop := failureValidUptoRow.holds Tryz.pinned (OpenSpec.upto failureValidSpec)

/-- 'skylanternlaw40.FailureStages', WHERE WHAT IT READS IS OF BULK AT MOST 1048576: true; the input reads as it did. -/
def failureStagesUptoRow : OpenClaim := { program := "ytjlkapdmgjocdaagreat", sum := "2b7fd2ded88c58bfbda93e975cb92ff298596c5a991aeb95b5dfc53933ffd785", func := "skylantern/skylanternlaw40.FailureStages", spec := "failureStages", inPlace := ["math/bits.Add64", "math/bits.Sub64"], unfollowed := true, recurses := true, named := ["math/bits.divideError", "math/bits.overflowError"], plainKeys := false, apart := false, narrowed := true }
def FailureStagesUptoSaid : Prop := failureStagesUptoRow.holds Tryz.pinned (OpenSpec.upto failureStagesSpec)

/-- 'skylanternlaw40.FailureCases', WHERE WHAT IT READS IS OF BULK AT MOST 1048576: true; the input reads as it did. -/
def failureCasesUptoRow : OpenClaim := { program := "ytjlkapdmgjocdaagreat", sum := "2b7fd2ded88c58bfbda93e975cb92ff298596c5a991aeb95b5dfc53933ffd785", func := "skylantern/skylanternlaw40.FailureCases", spec := "failureCases", inPlace := ["math/bits.Add64", "math/bits.Sub64"], unfollowed := true, recurses := true, named := ["math/bits.divideError", "math/bits.overflowError"], plainKeys := false, apart := false, narrowed := true }
def FailureCasesUptoSaid : Prop := failureCasesUptoRow.holds Tryz.pinned (OpenSpec.upto failureCasesSpec)

/-- 'skylanternlaw40.FailureEnds', WHERE WHAT IT READS IS OF BULK AT MOST 1048576: true; the input reads as it did. -/
def failureEndsUptoRow : OpenClaim := { program := "ytjlkapdmgjocdaagreat", sum := "2b7fd2ded88c58bfbda93e975cb92ff298596c5a991aeb95b5dfc53933ffd785", func := "skylantern/skylanternlaw40.FailureEnds", spec := "failureEnds", inPlace := ["math/bits.Add64", "math/bits.Sub64"], unfollowed := true, recurses := true, named := ["math/bits.divideError", "math/bits.overflowError"], plainKeys := false, apart := false, narrowed := true }
def FailureEndsUptoSaid : Prop := failureEndsUptoRow.holds Tryz.pinned (OpenSpec.upto failureEndsSpec)

/-- 'skylanternlaw40.FailureHolds', WHERE WHAT IT READS IS OF BULK AT MOST 1048576: true; the input reads as it did. -/
def failureHoldsUptoRow : OpenClaim := { program := "ytjlkapdmgjocdaagreat", sum := "2b7fd2ded88c58bfbda93e975cb92ff298596c5a991aeb95b5dfc53933ffd785", func := "skylantern/skylanternlaw40.FailureHolds", spec := "failureHolds", inPlace := ["math/bits.Add64", "math/bits.Sub64"], unfollowed := true, recurses := true, named := ["math/bits.divideError", "math/bits.overflowError"], plainKeys := false, apart := false, narrowed := true }
def FailureHoldsUptoSaid : Prop := failureHoldsUptoRow.holds Tryz.pinned (OpenSpec.upto failureHoldsSpec)

/-- 'skylanternlaw40.FailurePaths', WHERE WHAT IT READS IS OF BULK AT MOST 1048576: true; the input reads as it did. -/
def failurePathsUptoRow : OpenClaim := { program := "ytjlkapdmgjocdaagreat", sum := "2b7fd2ded88c58bfbda93e975cb92ff298596c5a991aeb95b5dfc53933ffd785", func := "skylantern/skylanternlaw40.FailurePaths", spec := "failurePaths", inPlace := ["math/bits.Add64", "math/bits.Sub64"], unfollowed := true, recurses := true, named := ["math/bits.divideError", "math/bits.overflowError"], plainKeys := false, apart := false, narrowed := true }
def FailurePathsUptoSaid : Prop := failurePathsUptoRow.holds Tryz.pinned (OpenSpec.upto failurePathsSpec)

end Rows
end Go.Proofs.YtjlkapdmgjocdaaGreat
