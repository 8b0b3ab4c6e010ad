/-
  FY8 (merged for the claim).
-/
import Derived.Test.YtnpclmmmngmdkaaGreatFY1
set_option linter.unusedSimpArgs false
set_option linter.unusedVariables false
namespace Go.Proofs.YtnpclmmmngmdkaaGreat
open Go.Vl Go.RowKit

theorem BernsteinHolds_lifted (os : Os) (started : os.Started) (H : Type) (enc : TypeId × Value → H) :
    ReturnsInHanded {} Tryz.checked os 7 .any (Rows.bernsteinHoldsSpec.pre6 enc Tryz.prog Tryz.f7 Rows.bernsteinHoldsRow.domain false) (Rows.bernsteinHoldsSpec.post enc Tryz.prog Tryz.f7 false true false false) := by
  refine law_lifted (C := Tryz.checked) [.slc wideT, .int .i64, .int .i64, .int .i64, .int .i64] own started (by kernel_rfl) Tryz.func7
    (ChangeSpec.witness6 (enc := enc) (C := Tryz.checked) false ⟨#[], #[.slice none 0 0, .int .i64 0, .int .i64 0, .int .i64 0, .int .i64 0], []⟩ 8 (by kernel_rfl) (by kernel_rfl) (by kernel_rfl) (by kernel_rfl))
    laidOut rfl (tb := 4) (by kernel_rfl) (by kernel_rfl) (by kernel_rfl) (by kernel_rfl) ?_ (by kernel_rfl) (by kernel_rfl) ?_
  · intro ds hd
    match ds, hd with
    | [d1, d2, d3, d4, d5], _ => rfl
  · rintro pvs ⟨d1, _, rfl, h1, d2, _, rfl, h2, d3, _, rfl, h3, d4, _, rfl, h4, d5, _, rfl, h5, rfl⟩
    obtain ⟨n1, e1, b1⟩ := widesT_inv h1
    obtain ⟨n2, e2, b2, c2⟩ := i64T_inv h2
    obtain ⟨n3, e3, b3, c3⟩ := i64T_inv h3
    obtain ⟨n4, e4, b4, c4⟩ := i64T_inv h4
    obtain ⟨n5, e5, b5, c5⟩ := i64T_inv h5
    rw [e1, e2, e3, e4, e5]
    exact BernsteinHolds_v n1 n2 n3 n4 n5 b1
theorem BernsteinHolds_holds : Rows.BernsteinHoldsSaid :=
  OpenClaim.holds_of_wide (p := Tryz.pinned) (s := Rows.bernsteinHoldsSpec) (c := Rows.bernsteinHoldsRow) 7 Tryz.f7 rfl rfl rfl rfl rfl rfl rfl ⟨rfl, rfl, rfl, rfl, rfl⟩ rfl rfl rfl rfl rfl (by kernel_rfl) Tryz.func7 (by kernel_rfl)
    (of_decide_eq_true (by kernel_rfl)) (by unfold Func.isWrapper; first | (rw [if_pos (by decide +kernel)]; kernel_rfl) | (rw [if_neg (by decide +kernel)]; exact ⟨rfl, rfl⟩))
    (fun os started H enc _ => BernsteinHolds_lifted os started H enc)
end Go.Proofs.YtnpclmmmngmdkaaGreat
