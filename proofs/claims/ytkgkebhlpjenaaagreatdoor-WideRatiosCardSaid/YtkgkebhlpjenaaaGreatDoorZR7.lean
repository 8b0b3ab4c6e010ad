/-
  ZR7 (merged for the claim).
-/
import Derived.Test.YtkgkebhlpjenaaaGreatDoorZL6
import Derived.Test.YtkgkebhlpjenaaaGreatDoorZR1
set_option linter.unusedSimpArgs false
set_option linter.unusedVariables false
namespace Go.Proofs.YtkgkebhlpjenaaaGreatDoor
open Go.Vl Go.RowKit

theorem WideRatios_lifted (os : Os) (started : os.Started) (H : Type) (enc : TypeId × Value → H) :
    ReturnsInHanded {} Tryz.checked os 4 .any (fun w args => (Rows.wideRatiosSpec.pre enc Tryz.prog Tryz.f4 [] false w args ∧ laidMetH Tryz.prog laidL w) ∧ sizedMet enc Tryz.prog Tryz.f4 (OpenSpec.ofChange Rows.wideRatiosSpec) false w args)
      (Rows.wideRatiosSpec.post enc Tryz.prog Tryz.f4 false true false false) := by
  refine law_lifted_laid (C := Tryz.checked) [wideT, wideT, .int .i64, .int .i64] own started (by kernel_rfl) Tryz.func4
    (ChangeSpec.witness_shaped (enc := enc) (C := Tryz.checked) (os := os) (X := fun w _ => laidMetH Tryz.prog laidL w) false (World.doorLaid Tryz.prog 62 os) #[zeroWide, zeroWide, .int .i64 0, .int .i64 0] 8 rfl (World.shaped_of_RefB (by kernel_rfl) (by kernel_rfl)) (by kernel_rfl) (by kernel_rfl) (by kernel_rfl) (door_met os _))
    laidOut rfl (tb := 4) (by kernel_rfl) (by kernel_rfl) (by kernel_rfl) (by kernel_rfl) ?_ (by kernel_rfl) hlay ?_
  · intro ds hd
    match ds, hd with
    | [d1, d2, d3, d4], _ => rfl
  · rintro pvs ⟨c1, _, rfl, h1, c2, _, rfl, h2, c3, _, rfl, h3, c4, _, rfl, h4, rfl⟩
    obtain ⟨n1, s1, e1, _⟩ := wideT_inv h1
    obtain ⟨n2, s2, e2, _⟩ := wideT_inv h2
    obtain ⟨n3, e3, w3⟩ := intT_inv h3
    have b3 := i64_bounds w3
    obtain ⟨n4, e4, w4⟩ := intT_inv h4
    have b4 := i64_bounds w4
    rw [e1, e2, e3, e4]
    exact WideRatios_v n1 n2 s1 s2 n3 n4 b3.1 b3.2 b4.1 b4.2
theorem WideRatios_row : Rows.WideRatiosSaid :=
  OpenClaim.holds_of_wide (p := Tryz.pinned) (s := Rows.wideRatiosSpec) (c := Rows.wideRatiosRow) 4 Tryz.f4 rfl rfl rfl rfl rfl rfl rfl ⟨rfl, rfl, rfl, rfl, rfl⟩ rfl rfl rfl rfl rfl (by kernel_rfl) Tryz.func4 (by kernel_rfl)
    (of_decide_eq_true (by kernel_rfl)) (by unfold Func.isWrapper; first | (rw [if_pos (by decide +kernel)]; kernel_rfl) | (rw [if_neg (by decide +kernel)]; exact ⟨rfl, rfl⟩))
    (fun os started H enc _ => WideRatios_lifted os started H enc)
theorem WideRatios_holds : Rows.WideRatiosCardSaid :=
  Claim7.holds_tied_plain_at .later [] [.data, .data, .data, .sentinel, .sentinel] true (true, "05cb10e137691742f13bcec0437ba9cb46ce5491bde8dcc13fd22383c2b9d459") true
    WideRatios_row (fun _ h => by cases h) (by kernel_rfl) (fun _ h => by cases h) wideRatios_row_tie rfl ⟨rfl, rfl⟩ (by kernel_rfl) rfl
    (fun f fn hf hfn => by
      obtain rfl : f = 4 := Option.some.inj ((show Tryz.prog.funcNamed "skylantern/skylanternlaw01.WideRatios" = some 4 by kernel_rfl).symm.trans hf) |>.symm
      obtain rfl : fn = Tryz.f4 := (Option.some.inj (Tryz.func4.symm.trans hfn)).symm
      exact ⟨by kernel_rfl, fun j t ht => by
        have hp : Tryz.f4.params.toList = [23, 23, 3, 3] := by kernel_rfl
        have hm : t ∈ Tryz.f4.params.toList := by rw [Array.mem_toList_iff]; exact Array.mem_of_getElem? ht
        rw [hp] at hm
        have hall : ([23, 23, 3, 3].all fun u => !Tryz.prog.wantsStandIn u) = true := by kernel_rfl
        exact (show Tryz.prog.wantsStandIn t = false by simpa using List.all_eq_true.1 hall t hm)⟩)
    (by kernel_rfl)
end Go.Proofs.YtkgkebhlpjenaaaGreatDoor
