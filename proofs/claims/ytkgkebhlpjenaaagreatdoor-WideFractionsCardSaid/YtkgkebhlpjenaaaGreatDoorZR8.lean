/-
  ZR8 (merged for the claim).
-/
import Derived.Test.YtkgkebhlpjenaaaGreatDoorZR9
set_option linter.unusedSimpArgs false
set_option linter.unusedVariables false
namespace Go.Proofs.YtkgkebhlpjenaaaGreatDoor
open Go.Vl Go.RowKit

theorem WideFractions_lifted (os : Os) (started : os.Started) (H : Type) (enc : TypeId × Value → H) :
    ReturnsInHanded {} Tryz.checked os 6 .any (fun w args => (Rows.wideFractionsSpec.pre enc Tryz.prog Tryz.f6 [] false w args ∧ laidMetH Tryz.prog laidL w) ∧ sizedMet enc Tryz.prog Tryz.f6 (OpenSpec.ofChange Rows.wideFractionsSpec) false w args)
      (Rows.wideFractionsSpec.post enc Tryz.prog Tryz.f6 false true false false) := by
  refine law_lifted_laid (C := Tryz.checked) [ratT, ratT] own started (by kernel_rfl) Tryz.func6
    (ChangeSpec.witness_shaped (enc := enc) (C := Tryz.checked) (os := os) (X := fun w _ => laidMetH Tryz.prog laidL w) false (World.doorLaid Tryz.prog 62 os) #[zeroRatio, zeroRatio] 8 rfl (World.shaped_of_RefB (by kernel_rfl) (by kernel_rfl)) (by kernel_rfl) (by kernel_rfl) (by kernel_rfl) (door_met os _))
    laidOut rfl (tb := 4) (by kernel_rfl) (by kernel_rfl) (by kernel_rfl) (by kernel_rfl) ?_ (by kernel_rfl) hlay ?_
  · intro ds hd
    match ds, hd with
    | [d1, d2], _ => rfl
  · rintro pvs ⟨c1, _, rfl, h1, c2, _, rfl, h2, rfl⟩
    obtain ⟨n1, s1, m1, t1, e1, _⟩ := ratT_inv h1
    obtain ⟨n2, s2, m2, t2, e2, _⟩ := ratT_inv h2
    rw [e1, e2]
    exact WideFractions_v n1 s1 m1 t1 n2 s2 m2 t2
theorem WideFractions_row : Rows.WideFractionsSaid :=
  OpenClaim.holds_of_wide (p := Tryz.pinned) (s := Rows.wideFractionsSpec) (c := Rows.wideFractionsRow) 6 Tryz.f6 rfl rfl rfl rfl rfl rfl rfl ⟨rfl, rfl, rfl, rfl, rfl⟩ rfl rfl rfl rfl rfl (by kernel_rfl) Tryz.func6 (by kernel_rfl)
    (of_decide_eq_true (by kernel_rfl)) (by unfold Func.isWrapper; first | (rw [if_pos (by decide +kernel)]; kernel_rfl) | (rw [if_neg (by decide +kernel)]; exact ⟨rfl, rfl⟩))
    (fun os started H enc _ => WideFractions_lifted os started H enc)
theorem WideFractions_holds : Rows.WideFractionsCardSaid :=
  Claim7.holds_tied_plain_at .later [] [.data, .data, .data, .sentinel, .sentinel] true (true, "05cb10e137691742f13bcec0437ba9cb46ce5491bde8dcc13fd22383c2b9d459") true
    WideFractions_row (fun _ h => by cases h) (by kernel_rfl) (fun _ h => by cases h) wideFractions_row_tie rfl ⟨rfl, rfl⟩ (by kernel_rfl) rfl
    (fun f fn hf hfn => by
      obtain rfl : f = 6 := Option.some.inj ((show Tryz.prog.funcNamed "skylantern/skylanternlaw01.WideFractions" = some 6 by kernel_rfl).symm.trans hf) |>.symm
      obtain rfl : fn = Tryz.f6 := (Option.some.inj (Tryz.func6.symm.trans hfn)).symm
      exact ⟨by kernel_rfl, fun j t ht => by
        have hp : Tryz.f6.params.toList = [42, 42] := by kernel_rfl
        have hm : t ∈ Tryz.f6.params.toList := by rw [Array.mem_toList_iff]; exact Array.mem_of_getElem? ht
        rw [hp] at hm
        have hall : ([42, 42].all fun u => !Tryz.prog.wantsStandIn u) = true := by kernel_rfl
        exact (show Tryz.prog.wantsStandIn t = false by simpa using List.all_eq_true.1 hall t hm)⟩)
    (by kernel_rfl)
end Go.Proofs.YtkgkebhlpjenaaaGreatDoor
