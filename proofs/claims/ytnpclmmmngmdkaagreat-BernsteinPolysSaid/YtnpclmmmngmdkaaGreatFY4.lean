/-
  FY4 (merged for the claim).
-/
import Derived.Test.YtnpclmmmngmdkaaGreatFN11
import Derived.Test.YtnpclmmmngmdkaaGreatFY1
set_option linter.unusedSimpArgs false
set_option linter.unusedVariables false
namespace Go.Proofs.YtnpclmmmngmdkaaGreat
open Go.Vl Go.RowKit

theorem BernsteinPolys_lifted (os : Os) (started : os.Started) (H : Type) (enc : TypeId × Value → H) :
    ReturnsInHanded {} Tryz.checked os 3 .any (Rows.bernsteinPolysSpec.pre6 enc Tryz.prog Tryz.f3 Rows.bernsteinPolysRow.domain false) (Rows.bernsteinPolysSpec.post enc Tryz.prog Tryz.f3 false true false false) := by
  refine law_lifted (C := Tryz.checked) [.slc wideT] own started (by kernel_rfl) Tryz.func3
    (ChangeSpec.witness6 (enc := enc) (C := Tryz.checked) false ⟨#[], #[.slice none 0 0], []⟩ 8 (by kernel_rfl) (by kernel_rfl) (by kernel_rfl) (by kernel_rfl))
    laidOut rfl (tb := 4) (by kernel_rfl) (by kernel_rfl) (by kernel_rfl) (by kernel_rfl) ?_ (by kernel_rfl) (by kernel_rfl) ?_
  · intro ds hd
    match ds, hd with
    | [d1], _ => rfl
  · rintro pvs ⟨d1, _, rfl, h1, rfl⟩
    obtain ⟨n1, e1, b1⟩ := widesT_inv h1
    rw [e1]
    exact BernsteinPolys_v n1 b1
theorem BernsteinPolys_holds : Rows.BernsteinPolysSaid :=
  OpenClaim.holds_of_wide (p := Tryz.pinned) (s := Rows.bernsteinPolysSpec) (c := Rows.bernsteinPolysRow) 3 Tryz.f3 rfl rfl rfl rfl rfl rfl rfl ⟨rfl, rfl, rfl, rfl, rfl⟩ rfl rfl rfl rfl rfl (by kernel_rfl) Tryz.func3 (by kernel_rfl)
    (of_decide_eq_true (by kernel_rfl)) (by unfold Func.isWrapper; first | (rw [if_pos (by decide +kernel)]; kernel_rfl) | (rw [if_neg (by decide +kernel)]; exact ⟨rfl, rfl⟩))
    (fun os started H enc _ => BernsteinPolys_lifted os started H enc)
end Go.Proofs.YtnpclmmmngmdkaaGreat
