/-
  GlideLegs: the row.
-/
import Derived.Test.YtkajnimlfehmeaaVL1
import Derived.Test.YtkajnimlfehmeaaVS
import Derived.Test.YtkajnimlfehmeaaRows
set_option linter.unusedSimpArgs false
set_option linter.unusedVariables false
namespace Go.Proofs.Ytkajnimlfehmeaa
open Go.Vl Go.RowKit

theorem own : ownKnob Try.prog.godebug = none := by kernel_rfl
theorem laid : laidOutB Try.prog = true := by kernel_rfl
def vecT : TT := .agg [.int .i64, .int .i64, .int .i64]
theorem vecT_inv {c : List PV} (h : HasTT vecT c) : ∃ x y z, vecT.mk c = vecPV x y z := by
  simp only [vecT, HasTT, HasTTs] at h
  obtain ⟨_, _, rfl, ⟨x, rfl, _⟩, _, _, rfl, ⟨y, rfl, _⟩, _, _, rfl, ⟨z, rfl, _⟩, rfl⟩ := h
  exact ⟨x, y, z, rfl⟩
theorem intT_inv {c : List PV} (h : HasTT (.int .i64) c) : ∃ x, TT.mk (.int .i64) c = .int .i64 x ∧ (Lit.int .i64 x).wf = true := by
  simp only [HasTT] at h
  obtain ⟨x, rfl, hx⟩ := h
  exact ⟨x, rfl, hx⟩
def zeroVec : Value := .agg #[.int .i64 0, .int .i64 0, .int .i64 0]

theorem GlideLegs_lifted (os : Os) (started : os.Started) (H : Type) (enc : TypeId × Value → H) :
    ReturnsInHanded {} Try.checked os 3 .any (Rows.glideLegsSpec.pre6 enc Try.prog Try.f3 Rows.glideLegsRow.domain false) (Rows.glideLegsSpec.post enc Try.prog Try.f3 false true false false) := by
  refine law_lifted (C := Try.checked) [vecT, vecT, .int .i64, .int .i64] own started (by kernel_rfl) Try.func3
    (ChangeSpec.witness6 (enc := enc) (C := Try.checked) false ⟨#[], #[zeroVec, zeroVec, .int .i64 0, .int .i64 0], []⟩ 8 (by kernel_rfl) (by kernel_rfl) (by kernel_rfl) (by kernel_rfl))
    laid rfl (tb := 4) (by kernel_rfl) (by kernel_rfl) (by kernel_rfl) (by kernel_rfl) ?_ ?_
  · intro ds hd
    match ds, hd with
    | [d1, d2, d3, d4], _ => rfl
  · rintro pvs ⟨c1, _, rfl, h1, c2, _, rfl, h2, c3, _, rfl, h3, c4, _, rfl, h4, rfl⟩
    obtain ⟨ax, ay, az, e1⟩ := vecT_inv h1
    obtain ⟨bx, by_, bz, e2⟩ := vecT_inv h2
    obtain ⟨t, e3, _⟩ := intT_inv h3
    obtain ⟨u, e4, _⟩ := intT_inv h4
    rw [e1, e2, e3, e4]
    exact GlideLegs_v ax ay az bx by_ bz t u

theorem GlideLegs_holds : Rows.GlideLegsSaid :=
  OpenClaim.holds_of_wide (p := Try.pinned) (s := Rows.glideLegsSpec) (c := Rows.glideLegsRow) 3 Try.f3 rfl rfl rfl rfl rfl rfl rfl ⟨rfl, rfl, rfl, rfl, rfl⟩ rfl rfl rfl rfl rfl (by kernel_rfl) Try.func3 (by kernel_rfl)
    (of_decide_eq_true (by kernel_rfl)) (by unfold Func.isWrapper; first | (rw [if_pos (by decide +kernel)]; kernel_rfl) | (rw [if_neg (by decide +kernel)]; exact ⟨rfl, rfl⟩))
    (fun os started H enc _ => GlideLegs_lifted os started H enc)
end Go.Proofs.Ytkajnimlfehmeaa
