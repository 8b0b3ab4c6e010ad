/-
  FY6 (merged for the claim).
-/
import Derived.Test.YtnpclmmmngmdkaaGreatFY1
set_option linter.unusedSimpArgs false
set_option linter.unusedVariables false
namespace Go.Proofs.YtnpclmmmngmdkaaGreat
open Go.Vl Go.RowKit

theorem BernsteinEncloses_lifted (os : Os) (started : os.Started) (H : Type) (enc : TypeId × Value → H) :
    ReturnsInHanded {} Tryz.checked os 5 .any (Rows.bernsteinEnclosesSpec.pre6 enc Tryz.prog Tryz.f5 Rows.bernsteinEnclosesRow.domain false) (Rows.bernsteinEnclosesSpec.post enc Tryz.prog Tryz.f5 false true false false) := by
  refine law_lifted (C := Tryz.checked) [.slc wideT, .int .i64] own started (by kernel_rfl) Tryz.func5
    (ChangeSpec.witness6 (enc := enc) (C := Tryz.checked) false ⟨#[], #[.slice none 0 0, .int .i64 0], []⟩ 8 (by kernel_rfl) (by kernel_rfl) (by kernel_rfl) (by kernel_rfl))
    laidOut rfl (tb := 4) (by kernel_rfl) (by kernel_rfl) (by kernel_rfl) (by kernel_rfl) ?_ (by kernel_rfl) (by kernel_rfl) ?_
  · intro ds hd
    match ds, hd with
    | [d1, d2], _ => rfl
  · rintro pvs ⟨d1, _, rfl, h1, d2, _, rfl, h2, rfl⟩
    obtain ⟨n1, e1, b1⟩ := widesT_inv h1
    obtain ⟨n2, e2, b2, c2⟩ := i64T_inv h2
    rw [e1, e2]
    exact BernsteinEncloses_v n1 n2 b1 b2 c2
theorem BernsteinEncloses_holds : Rows.BernsteinEnclosesSaid :=
  OpenClaim.holds_of_wide (p := Tryz.pinned) (s := Rows.bernsteinEnclosesSpec) (c := Rows.bernsteinEnclosesRow) 5 Tryz.f5 rfl rfl rfl rfl rfl rfl rfl ⟨rfl, rfl, rfl, rfl, rfl⟩ rfl rfl rfl rfl rfl (by kernel_rfl) Tryz.func5 (by kernel_rfl)
    (of_decide_eq_true (by kernel_rfl)) (by unfold Func.isWrapper; first | (rw [if_pos (by decide +kernel)]; kernel_rfl) | (rw [if_neg (by decide +kernel)]; exact ⟨rfl, rfl⟩))
    (fun os started H enc _ => BernsteinEncloses_lifted os started H enc)
end Go.Proofs.YtnpclmmmngmdkaaGreat
