/-
  EY7 (merged for the claim).
-/
import Derived.Test.YtnpclmmmngmdkaaEN20
import Derived.Test.YtnpclmmmngmdkaaEY1
set_option linter.unusedSimpArgs false
set_option linter.unusedVariables false
namespace Go.Proofs.Ytnpclmmmngmdkaa
open Go.Vl Go.RowKit

theorem BernsteinLimits_lifted (os : Os) (started : os.Started) (H : Type) (enc : TypeId × Value → H) :
    ReturnsInHanded {} Try.checked os 4 .any (Rows.bernsteinLimitsSpec.pre6 enc Try.prog Try.f4 Rows.bernsteinLimitsRow.domain false) (Rows.bernsteinLimitsSpec.post enc Try.prog Try.f4 false true false false) := by
  refine law_lifted (C := Try.checked) [.int .i64, .int .i64, .int .i64] own started (by kernel_rfl) Try.func4
    (ChangeSpec.witness6 (enc := enc) (C := Try.checked) false ⟨#[], #[.int .i64 0, .int .i64 0, .int .i64 0], []⟩ 8 (by kernel_rfl) (by kernel_rfl) (by kernel_rfl) (by kernel_rfl))
    laidOut rfl (tb := 4) (by kernel_rfl) (by kernel_rfl) (by kernel_rfl) (by kernel_rfl) ?_ (by kernel_rfl) (by kernel_rfl) ?_
  · intro ds hd
    match ds, hd with
    | [d1, d2, d3], _ => rfl
  · rintro pvs ⟨d1, _, rfl, h1, d2, _, rfl, h2, d3, _, rfl, h3, rfl⟩
    obtain ⟨n1, e1, b1, c1⟩ := i64T_inv h1
    obtain ⟨n2, e2, b2, c2⟩ := i64T_inv h2
    obtain ⟨n3, e3, b3, c3⟩ := i64T_inv h3
    rw [e1, e2, e3]
    exact BernsteinLimits_v n1 n2 n3 b1 c1 b2 c2 b3 c3
theorem BernsteinLimits_holds : Rows.BernsteinLimitsSaid :=
  OpenClaim.holds_of_wide (p := Try.pinned) (s := Rows.bernsteinLimitsSpec) (c := Rows.bernsteinLimitsRow) 4 Try.f4 rfl rfl rfl rfl rfl rfl rfl ⟨rfl, rfl, rfl, rfl, rfl⟩ rfl rfl rfl rfl rfl (by kernel_rfl) Try.func4 (by kernel_rfl)
    (of_decide_eq_true (by kernel_rfl)) (by unfold Func.isWrapper; first | (rw [if_pos (by decide +kernel)]; kernel_rfl) | (rw [if_neg (by decide +kernel)]; exact ⟨rfl, rfl⟩))
    (fun os started H enc _ => BernsteinLimits_lifted os started H enc)
end Go.Proofs.Ytnpclmmmngmdkaa
