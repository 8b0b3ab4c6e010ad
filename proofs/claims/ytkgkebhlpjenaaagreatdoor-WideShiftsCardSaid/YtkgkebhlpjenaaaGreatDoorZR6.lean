/-
  ZR6 (merged for the claim).
-/
import Derived.Test.YtkgkebhlpjenaaaGreatDoorZL5
import Derived.Test.YtkgkebhlpjenaaaGreatDoorZR1
set_option linter.unusedSimpArgs false
set_option linter.unusedVariables false
namespace Go.Proofs.YtkgkebhlpjenaaaGreatDoor
open Go.Vl Go.RowKit

theorem WideShifts_lifted (os : Os) (started : os.Started) (H : Type) (enc : TypeId × Value → H) :
    ReturnsInHanded {} Tryz.checked os 3 .any (fun w args => (Rows.wideShiftsSpec.pre enc Tryz.prog Tryz.f3 [] false w args ∧ laidMetH Tryz.prog laidL w) ∧ sizedMet enc Tryz.prog Tryz.f3 (OpenSpec.ofChange Rows.wideShiftsSpec) false w args)
      (Rows.wideShiftsSpec.post enc Tryz.prog Tryz.f3 false true false false) := by
  refine law_lifted_laid (C := Tryz.checked) [wideT, .int .i64] own started (by kernel_rfl) Tryz.func3
    (ChangeSpec.witness_shaped (enc := enc) (C := Tryz.checked) (os := os) (X := fun w _ => laidMetH Tryz.prog laidL w) false (World.doorLaid Tryz.prog 62 os) #[zeroWide, .int .i64 0] 8 rfl (World.shaped_of_RefB (by kernel_rfl) (by kernel_rfl)) (by kernel_rfl) (by kernel_rfl) (by kernel_rfl) (door_met os _))
    laidOut rfl (tb := 4) (by kernel_rfl) (by kernel_rfl) (by kernel_rfl) (by kernel_rfl) ?_ (by kernel_rfl) hlay ?_
  · intro ds hd
    match ds, hd with
    | [d1, d2], _ => rfl
  · rintro pvs ⟨c1, _, rfl, h1, c2, _, rfl, h2, rfl⟩
    obtain ⟨n1, s1, e1, _⟩ := wideT_inv h1
    obtain ⟨n2, e2, w2⟩ := intT_inv h2
    have b2 := i64_bounds w2
    rw [e1, e2]
    exact WideShifts_v n1 s1 n2 b2.1 b2.2
theorem WideShifts_row : Rows.WideShiftsSaid :=
  OpenClaim.holds_of_wide (p := Tryz.pinned) (s := Rows.wideShiftsSpec) (c := Rows.wideShiftsRow) 3 Tryz.f3 rfl rfl rfl rfl rfl rfl rfl ⟨rfl, rfl, rfl, rfl, rfl⟩ rfl rfl rfl rfl rfl (by kernel_rfl) Tryz.func3 (by kernel_rfl)
    (of_decide_eq_true (by kernel_rfl)) (by unfold Func.isWrapper; first | (rw [if_pos (by decide +kernel)]; kernel_rfl) | (rw [if_neg (by decide +kernel)]; exact ⟨rfl, rfl⟩))
    (fun os started H enc _ => WideShifts_lifted os started H enc)
theorem WideShifts_holds : Rows.WideShiftsCardSaid :=
  Claim7.holds_tied_plain_at .later [] [.data, .data, .data, .sentinel, .sentinel] true (true, "05cb10e137691742f13bcec0437ba9cb46ce5491bde8dcc13fd22383c2b9d459") true
    WideShifts_row (fun _ h => by cases h) (by kernel_rfl) (fun _ h => by cases h) wideShifts_row_tie rfl ⟨rfl, rfl⟩ (by kernel_rfl) rfl
    (fun f fn hf hfn => by
      obtain rfl : f = 3 := Option.some.inj ((show Tryz.prog.funcNamed "skylantern/skylanternlaw01.WideShifts" = some 3 by kernel_rfl).symm.trans hf) |>.symm
      obtain rfl : fn = Tryz.f3 := (Option.some.inj (Tryz.func3.symm.trans hfn)).symm
      exact ⟨by kernel_rfl, fun j t ht => by
        have hp : Tryz.f3.params.toList = [23, 3] := by kernel_rfl
        have hm : t ∈ Tryz.f3.params.toList := by rw [Array.mem_toList_iff]; exact Array.mem_of_getElem? ht
        rw [hp] at hm
        have hall : ([23, 3].all fun u => !Tryz.prog.wantsStandIn u) = true := by kernel_rfl
        exact (show Tryz.prog.wantsStandIn t = false by simpa using List.all_eq_true.1 hall t hm)⟩)
    (by kernel_rfl)
end Go.Proofs.YtkgkebhlpjenaaaGreatDoor
