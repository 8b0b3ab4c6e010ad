/-
  No cell of these rows narrows 'for every input' (looked for: loops, veiled, ifaces, maps, wideKeys, modest, calm, conditions, laid).
  DERIVED. THE GIVEN ROWS OF THIS SEAT. 4 by the template 'for every input the law returns true; each argument reads behind the call as it read before'; 0 by the template 'total and deterministic' (their statements: YtkajnimlfehmeaaTotals.lean).
  GIVEN WITH THE SEED: the statements are not yours to turn. If you find one false, say at which input.
  Laid BY PROGRAM, IN A SANDBOX (cutbox-rows.mjs): the forced cells as the released guide's own fill.sh prints them over the translation ef16e53b2112cc36… (all of the seat's roots in one cut). By AI agents, Wed Nov 11 2026. No macro, syntax, notation, axiom, sorry.
-/
import Derived.Test.YtkajnimlfehmeaaChecked
import GoSem.Claim
import GoSem.ClaimJoined
import GoSem.ClaimMapViews
import Derived.JoinedTies
import Derived.KernelRfl
namespace Go.Proofs.Ytkajnimlfehmeaa
/- THE CELL 'sum', in the pinned program and in every row, IS THE sha256 OF THE DUMP (.gsa) THAT YtkajnimlfehmeaaProg.lean LOADS. Nothing in Lean hashes anything: it is a label: what it is worth is what the hold of that sum in a sandbox is worth. -/
noncomputable def Try.pinned : Pinned := { name := "ytkajnimlfehmeaa", sum := "ef16e53b2112cc3683d3ce6833bd069a8ebc34abebd7d772fcfeff78d9f08861", checked := Try.checked }
namespace Rows
def none {H : Type} : Left H := { results := [], args := [] }

/-- 'skylanternlaw15.GlideLegs': WHATEVER THE INPUT: true; the input reads as it did. -/
def glideLegsSpec : ChangeSpec := { name := "glideLegs", fn := fun _ => fun
  | [d1, d2, d3, d4] => { results := [.lit (.bool true)], args := [d1, d2, d3, d4] }
  | _ => none }
def glideLegsRow : OpenClaim := { program := "ytkajnimlfehmeaa", sum := "ef16e53b2112cc3683d3ce6833bd069a8ebc34abebd7d772fcfeff78d9f08861", func := "skylantern/skylanternlaw15.GlideLegs", spec := "glideLegs", unfollowed := true, recurses := true, apart := false }
def GlideLegsSaid : Prop := glideLegsRow.holds Try.pinned (OpenSpec.ofChange glideLegsSpec)

/-- ITS FALSE NEIGHBOUR: 'it returns false'. Refute it at one input. -/
def glideLegsWrong : ChangeSpec := { name := "glideLegs", fn := fun _ => fun
  | [d1, d2, d3, d4] => { results := [.lit (.bool false)], args := [d1, d2, d3, d4] }
  | _ => none }
def GlideLegsWrongFalsely : Prop := glideLegsRow.holds Try.pinned (OpenSpec.ofChange glideLegsWrong)

/-- 'skylanternlaw15.GlideTours': WHATEVER THE INPUT: true; the input reads as it did. -/
def glideToursSpec : ChangeSpec := { name := "glideTours", fn := fun _ => fun
  | [d1, d2, d3] => { results := [.lit (.bool true)], args := [d1, d2, d3] }
  | _ => none }
def glideToursRow : OpenClaim := { program := "ytkajnimlfehmeaa", sum := "ef16e53b2112cc3683d3ce6833bd069a8ebc34abebd7d772fcfeff78d9f08861", func := "skylantern/skylanternlaw15.GlideTours", spec := "glideTours", unfollowed := true, recurses := true, apart := false }
def GlideToursSaid : Prop := glideToursRow.holds Try.pinned (OpenSpec.ofChange glideToursSpec)

/-- ITS FALSE NEIGHBOUR: 'it returns false'. Refute it at one input. -/
def glideToursWrong : ChangeSpec := { name := "glideTours", fn := fun _ => fun
  | [d1, d2, d3] => { results := [.lit (.bool false)], args := [d1, d2, d3] }
  | _ => none }
def GlideToursWrongFalsely : Prop := glideToursRow.holds Try.pinned (OpenSpec.ofChange glideToursWrong)

/-- 'skylanternlaw15.GlideArcs': WHATEVER THE INPUT: true; the input reads as it did. -/
def glideArcsSpec : ChangeSpec := { name := "glideArcs", fn := fun _ => fun
  | [d1, d2, d3, d4, d5] => { results := [.lit (.bool true)], args := [d1, d2, d3, d4, d5] }
  | _ => none }
def glideArcsRow : OpenClaim := { program := "ytkajnimlfehmeaa", sum := "ef16e53b2112cc3683d3ce6833bd069a8ebc34abebd7d772fcfeff78d9f08861", func := "skylantern/skylanternlaw15.GlideArcs", spec := "glideArcs", unfollowed := true, recurses := true, apart := false }
def GlideArcsSaid : Prop := glideArcsRow.holds Try.pinned (OpenSpec.ofChange glideArcsSpec)

/-- ITS FALSE NEIGHBOUR: 'it returns false'. Refute it at one input. -/
def glideArcsWrong : ChangeSpec := { name := "glideArcs", fn := fun _ => fun
  | [d1, d2, d3, d4, d5] => { results := [.lit (.bool false)], args := [d1, d2, d3, d4, d5] }
  | _ => none }
def GlideArcsWrongFalsely : Prop := glideArcsRow.holds Try.pinned (OpenSpec.ofChange glideArcsWrong)

/-- 'skylanternlaw15.GlideTimes': WHATEVER THE INPUT: true; the input reads as it did. -/
def glideTimesSpec : ChangeSpec := { name := "glideTimes", fn := fun _ => fun
  | [d1, d2, d3] => { results := [.lit (.bool true)], args := [d1, d2, d3] }
  | _ => none }
def glideTimesRow : OpenClaim := { program := "ytkajnimlfehmeaa", sum := "ef16e53b2112cc3683d3ce6833bd069a8ebc34abebd7d772fcfeff78d9f08861", func := "skylantern/skylanternlaw15.GlideTimes", spec := "glideTimes", unfollowed := true, recurses := true, apart := false }
def GlideTimesSaid : Prop := glideTimesRow.holds Try.pinned (OpenSpec.ofChange glideTimesSpec)

/-- ITS FALSE NEIGHBOUR: 'it returns false'. Refute it at one input. -/
def glideTimesWrong : ChangeSpec := { name := "glideTimes", fn := fun _ => fun
  | [d1, d2, d3] => { results := [.lit (.bool false)], args := [d1, d2, d3] }
  | _ => none }
def GlideTimesWrongFalsely : Prop := glideTimesRow.holds Try.pinned (OpenSpec.ofChange glideTimesWrong)

/- THE SECOND FORM. 'bulk': how many values and letters a reading holds, each counted each time it is reached (what is shared counts as often as it is met; a slice's spare places count too). A statement '..UptoSaid' is the law's where the arguments, and the package variables that the reading takes, are together of bulk at most 1048576: NARROWER than '..Said'. Prove '..Said' where nothing that the law and all that it calls make is longer than what came in: it says more and counts as full. Else prove '..UptoSaid'. A law counts once. -/
mutual
def uptoBulk {H : Type} : DataW H → Nat
  | .lit (.string bytes) => bytes.length + 1
  | .lit _ => 1
  | .nil => 1
  | .ptr d => uptoBulk d + 1
  | .slice elems spare => uptoBulkAll elems + uptoBulkAll spare + 1
  | .agg parts => uptoBulkAll parts + 1
  | .iface _ d => uptoBulk d + 1
  | .map entries => uptoBulkEntries entries + 1
  | .held _ => 1
def uptoBulkAll {H : Type} : List (DataW H) → Nat
  | [] => 0
  | d :: r => uptoBulk d + uptoBulkAll r
def uptoBulkEntries {H : Type} : List (Lit × DataW H) → Nat
  | [] => 0
  | x :: r => uptoBulkEntry x + uptoBulkEntries r
def uptoBulkEntry {H : Type} : Lit × DataW H → Nat
  | (.string bytes, d) => bytes.length + uptoBulk d + 1
  | (_, d) => uptoBulk d + 1
 end
def uptoSmall : (H : Type) → List (DataW H) → Bool := fun _ ds => decide (uptoBulkAll ds ≤ 1048576)
def OpenSpec.upto (s : _root_.Go.ChangeSpec) : _root_.Go.OpenSpec := { _root_.Go.OpenSpec.ofChange s with cond := some uptoSmall }

/-- 'skylanternlaw15.GlideLegs', WHERE WHAT IT READS IS OF BULK AT MOST 1048576: true; the input reads as it did. -/
def glideLegsUptoRow : OpenClaim := { program := "ytkajnimlfehmeaa", sum := "ef16e53b2112cc3683d3ce6833bd069a8ebc34abebd7d772fcfeff78d9f08861", func := "skylantern/skylanternlaw15.GlideLegs", spec := "glideLegs", unfollowed := true, recurses := true, apart := false, narrowed := true }
def GlideLegsUptoSaid : Prop := glideLegsUptoRow.holds Try.pinned (OpenSpec.upto glideLegsSpec)

/-- 'skylanternlaw15.GlideTours', WHERE WHAT IT READS IS OF BULK AT MOST 1048576: true; the input reads as it did. -/
def glideToursUptoRow : OpenClaim := { program := "ytkajnimlfehmeaa", sum := "ef16e53b2112cc3683d3ce6833bd069a8ebc34abebd7d772fcfeff78d9f08861", func := "skylantern/skylanternlaw15.GlideTours", spec := "glideTours", unfollowed := true, recurses := true, apart := false, narrowed := true }
def GlideToursUptoSaid : Prop := glideToursUptoRow.holds Try.pinned (OpenSpec.upto glideToursSpec)

/-- 'skylanternlaw15.GlideArcs', WHERE WHAT IT READS IS OF BULK AT MOST 1048576: true; the input reads as it did. -/
def glideArcsUptoRow : OpenClaim := { program := "ytkajnimlfehmeaa", sum := "ef16e53b2112cc3683d3ce6833bd069a8ebc34abebd7d772fcfeff78d9f08861", func := "skylantern/skylanternlaw15.GlideArcs", spec := "glideArcs", unfollowed := true, recurses := true, apart := false, narrowed := true }
def GlideArcsUptoSaid : Prop := glideArcsUptoRow.holds Try.pinned (OpenSpec.upto glideArcsSpec)

/-- 'skylanternlaw15.GlideTimes', WHERE WHAT IT READS IS OF BULK AT MOST 1048576: true; the input reads as it did. -/
def glideTimesUptoRow : OpenClaim := { program := "ytkajnimlfehmeaa", sum := "ef16e53b2112cc3683d3ce6833bd069a8ebc34abebd7d772fcfeff78d9f08861", func := "skylantern/skylanternlaw15.GlideTimes", spec := "glideTimes", unfollowed := true, recurses := true, apart := false, narrowed := true }
def GlideTimesUptoSaid : Prop := glideTimesUptoRow.holds Try.pinned (OpenSpec.upto glideTimesSpec)

end Rows
end Go.Proofs.Ytkajnimlfehmeaa
