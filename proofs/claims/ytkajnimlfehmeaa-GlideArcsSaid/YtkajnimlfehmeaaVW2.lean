/-
  GlideArcs: the row.
-/
import Derived.Test.YtkajnimlfehmeaaVAr
import Derived.Test.YtkajnimlfehmeaaVW1
set_option linter.unusedSimpArgs false
set_option linter.unusedVariables false
namespace Go.Proofs.Ytkajnimlfehmeaa
open Go.Vl Go.RowKit

theorem GlideArcs_lifted (os : Os) (started : os.Started) (H : Type) (enc : TypeId × Value → H) :
    ReturnsInHanded {} Try.checked os 5 .any (Rows.glideArcsSpec.pre6 enc Try.prog Try.f5 Rows.glideArcsRow.domain false) (Rows.glideArcsSpec.post enc Try.prog Try.f5 false true false false) := by
  refine law_lifted (C := Try.checked) [vecT, vecT, .int .i64, .int .i64, .int .i64] own started (by kernel_rfl) Try.func5
    (ChangeSpec.witness6 (enc := enc) (C := Try.checked) false ⟨#[], #[zeroVec, zeroVec, .int .i64 0, .int .i64 0, .int .i64 0], []⟩ 8 (by kernel_rfl) (by kernel_rfl) (by kernel_rfl) (by kernel_rfl))
    laid rfl (tb := 4) (by kernel_rfl) (by kernel_rfl) (by kernel_rfl) (by kernel_rfl) ?_ ?_
  · intro ds hd
    match ds, hd with
    | [d1, d2, d3, d4, d5], _ => rfl
  · rintro pvs ⟨c1, _, rfl, h1, c2, _, rfl, h2, c3, _, rfl, h3, c4, _, rfl, h4, c5, _, rfl, h5, rfl⟩
    obtain ⟨ax, ay, az, e1⟩ := vecT_inv h1
    obtain ⟨bx, by_, bz, e2⟩ := vecT_inv h2
    obtain ⟨r, e3, _⟩ := intT_inv h3
    obtain ⟨t, e4, _⟩ := intT_inv h4
    obtain ⟨u, e5, _⟩ := intT_inv h5
    rw [e1, e2, e3, e4, e5]
    exact GlideArcs_v ax ay az bx by_ bz r t u

theorem GlideArcs_holds : Rows.GlideArcsSaid :=
  OpenClaim.holds_of_wide (p := Try.pinned) (s := Rows.glideArcsSpec) (c := Rows.glideArcsRow) 5 Try.f5 rfl rfl rfl rfl rfl rfl rfl ⟨rfl, rfl, rfl, rfl, rfl⟩ rfl rfl rfl rfl rfl (by kernel_rfl) Try.func5 (by kernel_rfl)
    (of_decide_eq_true (by kernel_rfl)) (by unfold Func.isWrapper; first | (rw [if_pos (by decide +kernel)]; kernel_rfl) | (rw [if_neg (by decide +kernel)]; exact ⟨rfl, rfl⟩))
    (fun os started H enc _ => GlideArcs_lifted os started H enc)
end Go.Proofs.Ytkajnimlfehmeaa
