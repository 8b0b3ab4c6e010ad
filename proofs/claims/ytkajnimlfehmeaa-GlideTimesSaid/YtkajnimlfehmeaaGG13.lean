/-
  GG13 (merged for the claim).
-/
import Derived.Test.YtkajnimlfehmeaaGG12
set_option linter.unusedSimpArgs false
set_option linter.unusedVariables false
namespace Go.Proofs.Ytkajnimlfehmeaa
open Go.Vl Go.RowKit

theorem times_refused (a b : Sky.V3) (s c e : Int) (he : e = 2 ∨ e = 3) (h1 : SoundAt Try.prog 18 [v3PV a, v3PV b, limPV s c] (.tup [.int .i64 0, .int .i64 e])) (h2 : SoundAt Try.prog 19 [v3PV a, v3PV b, limPV s c] (.tup [.int .i64 0, .int .i64 e])) :
    SoundAt Try.prog 6 [v3PV a, v3PV b, limPV s c] (.bool true) := by
  have hne : (e != 0) = true := by rcases he with rfl | rfl <;> rfl
  refine sound_go (tb := []) 58 [.tmp 6] [0, 1, 2, 3, 4, 5, 6, 7, 8, 9, 10, 32] mixed Try.func6 rfl (by kernel_rfl) (by kernel_rfl) (by kernel_rfl) (by kernel_rfl) ?_
  simp -implicitDefEqProofs only [go_sem, Nat.reduceAdd, Nat.reduceMul, Nat.reduceEqDiff, Nat.reduceLT, Nat.reduceLeDiff, Nat.reduceSub, Nat.reduceBEq, reduceIte, reduceCtorEq, Int.reduceEq, Int.reduceNe, Nat.reduceBneDiff, Int.reduceLE, Int.reduceLT, Int.reduceToNat, Int.reduceAdd, Int.reduceSub, Int.reduceMul, Int.reduceNeg, T_ok3, T_agg3, T_isinfo3, T_info3, T_cells3, T_zero3, T_int3, T_ok4, T_agg4, T_isinfo4, T_info4, T_cells4, T_zero4, T_bool4, T_ok23, T_agg23, T_isinfo23, T_info23, T_cells23, T_zero23, T_build23, T_f23_0, T_p23_0, T_f23_1, T_p23_1, T_f23_2, T_p23_2, T_eqs23, T_ok44, T_agg44, T_isinfo44, T_info44, T_cells44, T_zero44, T_build44, T_f44_0, T_p44_0, T_f44_1, T_p44_1, T_eqs44, v3PV, vecPV, limPV]
  refine gcall_intro _ _ _ _ _ _ _ _ _ h1 ?_
  simp -implicitDefEqProofs only [go_sem, Nat.reduceAdd, Nat.reduceMul, Nat.reduceEqDiff, Nat.reduceLT, Nat.reduceLeDiff, Nat.reduceSub, Nat.reduceBEq, reduceIte, reduceCtorEq, Int.reduceEq, Int.reduceNe, Nat.reduceBneDiff, Int.reduceLE, Int.reduceLT, Int.reduceToNat, Int.reduceAdd, Int.reduceSub, Int.reduceMul, Int.reduceNeg, T_ok3, T_agg3, T_isinfo3, T_info3, T_cells3, T_zero3, T_int3, T_ok4, T_agg4, T_isinfo4, T_info4, T_cells4, T_zero4, T_bool4, T_ok23, T_agg23, T_isinfo23, T_info23, T_cells23, T_zero23, T_build23, T_f23_0, T_p23_0, T_f23_1, T_p23_1, T_f23_2, T_p23_2, T_eqs23, T_ok44, T_agg44, T_isinfo44, T_info44, T_cells44, T_zero44, T_build44, T_f44_0, T_p44_0, T_f44_1, T_p44_1, T_eqs44, v3PV, vecPV, limPV]
  refine gcall_intro _ _ _ _ _ _ _ _ _ h2 ?_
  simp -implicitDefEqProofs only [go_sem, Nat.reduceAdd, Nat.reduceMul, Nat.reduceEqDiff, Nat.reduceLT, Nat.reduceLeDiff, Nat.reduceSub, Nat.reduceBEq, reduceIte, reduceCtorEq, Int.reduceEq, Int.reduceNe, Nat.reduceBneDiff, Int.reduceLE, Int.reduceLT, Int.reduceToNat, Int.reduceAdd, Int.reduceSub, Int.reduceMul, Int.reduceNeg, T_ok3, T_agg3, T_isinfo3, T_info3, T_cells3, T_zero3, T_int3, T_ok4, T_agg4, T_isinfo4, T_info4, T_cells4, T_zero4, T_bool4, T_ok23, T_agg23, T_isinfo23, T_info23, T_cells23, T_zero23, T_build23, T_f23_0, T_p23_0, T_f23_1, T_p23_1, T_f23_2, T_p23_2, T_eqs23, T_ok44, T_agg44, T_isinfo44, T_info44, T_cells44, T_zero44, T_build44, T_f44_0, T_p44_0, T_f44_1, T_p44_1, T_eqs44, v3PV, vecPV, limPV, bne_self_eq_false, hne]
  refine gcall_intro _ _ _ _ _ _ _ _ _ known_v ?_
  simp -implicitDefEqProofs only [go_sem, Nat.reduceAdd, Nat.reduceMul, Nat.reduceEqDiff, Nat.reduceLT, Nat.reduceLeDiff, Nat.reduceSub, Nat.reduceBEq, reduceIte, reduceCtorEq, Int.reduceEq, Int.reduceNe, Nat.reduceBneDiff, Int.reduceLE, Int.reduceLT, Int.reduceToNat, Int.reduceAdd, Int.reduceSub, Int.reduceMul, Int.reduceNeg, T_ok3, T_agg3, T_isinfo3, T_info3, T_cells3, T_zero3, T_int3, T_ok4, T_agg4, T_isinfo4, T_info4, T_cells4, T_zero4, T_bool4, T_ok23, T_agg23, T_isinfo23, T_info23, T_cells23, T_zero23, T_build23, T_f23_0, T_p23_0, T_f23_1, T_p23_1, T_f23_2, T_p23_2, T_eqs23, T_ok44, T_agg44, T_isinfo44, T_info44, T_cells44, T_zero44, T_build44, T_f44_0, T_p44_0, T_f44_1, T_p44_1, T_eqs44]

theorem GlideTimes_v (a b : Sky.V3) (s c : Int) : SoundAt Try.prog 6 [v3PV a, v3PV b, limPV s c] (.bool true) := by
  by_cases h : okT a b s c
  · obtain ⟨r, hr⟩ := Bis.exist (keepsT a b s c) 3600000 1 3600000 (by decide)
    have hg := Time_ok a b s c h r hr
    have hw := rTime_ok a b s c h r hr
    obtain ⟨p1, p2, p3, p4⟩ := hr.spec (by decide)
    cases hk : keepsT a b s c 3600000 with
    | false =>
      rw [hk] at hg hw
      exact times_refused a b s c 3 (.inr rfl) hg hw
    | true =>
      rw [hk] at hg hw
      simp only [if_true] at hg hw
      have p3 := p3 hk
      obtain ⟨ha, hb, k1, k2, k3, k4⟩ := h
      unfold keepsT at p3 p4
      clear hr hk
      obtain ⟨s, rfl⟩ : ∃ n : Nat, s = n := ⟨s.toNat, by omega⟩
      obtain ⟨c, rfl⟩ : ∃ n : Nat, c = n := ⟨c.toNat, by omega⟩
      rw [Int.toNat_natCast, Int.toNat_natCast] at p3 p4
      have K := fun (t : Nat) (ht : t ≤ 3600000) => rKeeps_v a b s c t ha hb (by omega) (by omega) ht
      refine sound_go (tb := []) 58 [.tmp 6] [0, 1, 2, 3, 4, 5, 6, 7, 8, 9, 10, 32] mixed Try.func6 rfl (by kernel_rfl) (by kernel_rfl) (by kernel_rfl) (by kernel_rfl) ?_
      simp -implicitDefEqProofs only [go_sem, Nat.reduceAdd, Nat.reduceMul, Nat.reduceEqDiff, Nat.reduceLT, Nat.reduceLeDiff, Nat.reduceSub, Nat.reduceBEq, reduceIte, reduceCtorEq, Int.reduceEq, Int.reduceNe, Nat.reduceBneDiff, Int.reduceLE, Int.reduceLT, Int.reduceToNat, Int.reduceAdd, Int.reduceSub, Int.reduceMul, Int.reduceNeg, T_ok3, T_agg3, T_isinfo3, T_info3, T_cells3, T_zero3, T_int3, T_ok4, T_agg4, T_isinfo4, T_info4, T_cells4, T_zero4, T_bool4, T_ok23, T_agg23, T_isinfo23, T_info23, T_cells23, T_zero23, T_build23, T_f23_0, T_p23_0, T_f23_1, T_p23_1, T_f23_2, T_p23_2, T_eqs23, T_ok44, T_agg44, T_isinfo44, T_info44, T_cells44, T_zero44, T_build44, T_f44_0, T_p44_0, T_f44_1, T_p44_1, T_eqs44, v3PV, vecPV, limPV]
      refine gcall_intro _ _ _ _ _ _ _ _ _ hg ?_
      simp -implicitDefEqProofs only [go_sem, Nat.reduceAdd, Nat.reduceMul, Nat.reduceEqDiff, Nat.reduceLT, Nat.reduceLeDiff, Nat.reduceSub, Nat.reduceBEq, reduceIte, reduceCtorEq, Int.reduceEq, Int.reduceNe, Nat.reduceBneDiff, Int.reduceLE, Int.reduceLT, Int.reduceToNat, Int.reduceAdd, Int.reduceSub, Int.reduceMul, Int.reduceNeg, T_ok3, T_agg3, T_isinfo3, T_info3, T_cells3, T_zero3, T_int3, T_ok4, T_agg4, T_isinfo4, T_info4, T_cells4, T_zero4, T_bool4, T_ok23, T_agg23, T_isinfo23, T_info23, T_cells23, T_zero23, T_build23, T_f23_0, T_p23_0, T_f23_1, T_p23_1, T_f23_2, T_p23_2, T_eqs23, T_ok44, T_agg44, T_isinfo44, T_info44, T_cells44, T_zero44, T_build44, T_f44_0, T_p44_0, T_f44_1, T_p44_1, T_eqs44, v3PV, vecPV, limPV]
      refine gcall_intro _ _ _ _ _ _ _ _ _ hw ?_
      have hz : ((0 : Int) != 0) = false := rfl
      simp -implicitDefEqProofs only [go_sem, Nat.reduceAdd, Nat.reduceMul, Nat.reduceEqDiff, Nat.reduceLT, Nat.reduceLeDiff, Nat.reduceSub, Nat.reduceBEq, reduceIte, reduceCtorEq, Int.reduceEq, Int.reduceNe, Nat.reduceBneDiff, Int.reduceLE, Int.reduceLT, Int.reduceToNat, Int.reduceAdd, Int.reduceSub, Int.reduceMul, Int.reduceNeg, T_ok3, T_agg3, T_isinfo3, T_info3, T_cells3, T_zero3, T_int3, T_ok4, T_agg4, T_isinfo4, T_info4, T_cells4, T_zero4, T_bool4, T_ok23, T_agg23, T_isinfo23, T_info23, T_cells23, T_zero23, T_build23, T_f23_0, T_p23_0, T_f23_1, T_p23_1, T_f23_2, T_p23_2, T_eqs23, T_ok44, T_agg44, T_isinfo44, T_info44, T_cells44, T_zero44, T_build44, T_f44_0, T_p44_0, T_f44_1, T_p44_1, T_eqs44, v3PV, vecPV, limPV, bne_self_eq_false, hz]
      refine gcall_intro _ _ _ _ _ _ _ _ _ (K r p2) ?_
      by_cases h1 : r = 1
      · have h1' : (((r : Nat) : Int) == 1) = true := by rw [h1]; rfl
        simp -implicitDefEqProofs only [go_sem, Nat.reduceAdd, Nat.reduceMul, Nat.reduceEqDiff, Nat.reduceLT, Nat.reduceLeDiff, Nat.reduceSub, Nat.reduceBEq, reduceIte, reduceCtorEq, Int.reduceEq, Int.reduceNe, Nat.reduceBneDiff, Int.reduceLE, Int.reduceLT, Int.reduceToNat, Int.reduceAdd, Int.reduceSub, Int.reduceMul, Int.reduceNeg, T_ok3, T_agg3, T_isinfo3, T_info3, T_cells3, T_zero3, T_int3, T_ok4, T_agg4, T_isinfo4, T_info4, T_cells4, T_zero4, T_bool4, T_ok23, T_agg23, T_isinfo23, T_info23, T_cells23, T_zero23, T_build23, T_f23_0, T_p23_0, T_f23_1, T_p23_1, T_f23_2, T_p23_2, T_eqs23, T_ok44, T_agg44, T_isinfo44, T_info44, T_cells44, T_zero44, T_build44, T_f44_0, T_p44_0, T_f44_1, T_p44_1, T_eqs44, p3, h1']
        refine gcall_intro _ _ _ _ _ _ _ _ _ known_v ?_
        simp -implicitDefEqProofs only [go_sem, Nat.reduceAdd, Nat.reduceMul, Nat.reduceEqDiff, Nat.reduceLT, Nat.reduceLeDiff, Nat.reduceSub, Nat.reduceBEq, reduceIte, reduceCtorEq, Int.reduceEq, Int.reduceNe, Nat.reduceBneDiff, Int.reduceLE, Int.reduceLT, Int.reduceToNat, Int.reduceAdd, Int.reduceSub, Int.reduceMul, Int.reduceNeg, T_ok3, T_agg3, T_isinfo3, T_info3, T_cells3, T_zero3, T_int3, T_ok4, T_agg4, T_isinfo4, T_info4, T_cells4, T_zero4, T_bool4, T_ok23, T_agg23, T_isinfo23, T_info23, T_cells23, T_zero23, T_build23, T_f23_0, T_p23_0, T_f23_1, T_p23_1, T_f23_2, T_p23_2, T_eqs23, T_ok44, T_agg44, T_isinfo44, T_info44, T_cells44, T_zero44, T_build44, T_f44_0, T_p44_0, T_f44_1, T_p44_1, T_eqs44]
      · have h1' : (((r : Nat) : Int) == 1) = false := by simp only [beq_eq_false_iff_ne, ne_eq]; omega
        have hw : IntKind.i64.wrap ((r : Int) - 1) = ((r - 1 : Nat) : Int) := by rw [wrap_i64 (by omega) (by omega)]; omega
        simp -implicitDefEqProofs only [go_sem, Nat.reduceAdd, Nat.reduceMul, Nat.reduceEqDiff, Nat.reduceLT, Nat.reduceLeDiff, Nat.reduceSub, Nat.reduceBEq, reduceIte, reduceCtorEq, Int.reduceEq, Int.reduceNe, Nat.reduceBneDiff, Int.reduceLE, Int.reduceLT, Int.reduceToNat, Int.reduceAdd, Int.reduceSub, Int.reduceMul, Int.reduceNeg, T_ok3, T_agg3, T_isinfo3, T_info3, T_cells3, T_zero3, T_int3, T_ok4, T_agg4, T_isinfo4, T_info4, T_cells4, T_zero4, T_bool4, T_ok23, T_agg23, T_isinfo23, T_info23, T_cells23, T_zero23, T_build23, T_f23_0, T_p23_0, T_f23_1, T_p23_1, T_f23_2, T_p23_2, T_eqs23, T_ok44, T_agg44, T_isinfo44, T_info44, T_cells44, T_zero44, T_build44, T_f44_0, T_p44_0, T_f44_1, T_p44_1, T_eqs44, v3PV, vecPV, limPV, p3, h1', hw]
        refine gcall_intro _ _ _ _ _ _ _ _ _ (K (r - 1) (by omega)) ?_
        have p5 := p4.resolve_left h1
        simp -implicitDefEqProofs only [go_sem, Nat.reduceAdd, Nat.reduceMul, Nat.reduceEqDiff, Nat.reduceLT, Nat.reduceLeDiff, Nat.reduceSub, Nat.reduceBEq, reduceIte, reduceCtorEq, Int.reduceEq, Int.reduceNe, Nat.reduceBneDiff, Int.reduceLE, Int.reduceLT, Int.reduceToNat, Int.reduceAdd, Int.reduceSub, Int.reduceMul, Int.reduceNeg, T_ok3, T_agg3, T_isinfo3, T_info3, T_cells3, T_zero3, T_int3, T_ok4, T_agg4, T_isinfo4, T_info4, T_cells4, T_zero4, T_bool4, T_ok23, T_agg23, T_isinfo23, T_info23, T_cells23, T_zero23, T_build23, T_f23_0, T_p23_0, T_f23_1, T_p23_1, T_f23_2, T_p23_2, T_eqs23, T_ok44, T_agg44, T_isinfo44, T_info44, T_cells44, T_zero44, T_build44, T_f44_0, T_p44_0, T_f44_1, T_p44_1, T_eqs44, p5]
        refine gcall_intro _ _ _ _ _ _ _ _ _ known_v ?_
        simp -implicitDefEqProofs only [go_sem, Nat.reduceAdd, Nat.reduceMul, Nat.reduceEqDiff, Nat.reduceLT, Nat.reduceLeDiff, Nat.reduceSub, Nat.reduceBEq, reduceIte, reduceCtorEq, Int.reduceEq, Int.reduceNe, Nat.reduceBneDiff, Int.reduceLE, Int.reduceLT, Int.reduceToNat, Int.reduceAdd, Int.reduceSub, Int.reduceMul, Int.reduceNeg, T_ok3, T_agg3, T_isinfo3, T_info3, T_cells3, T_zero3, T_int3, T_ok4, T_agg4, T_isinfo4, T_info4, T_cells4, T_zero4, T_bool4, T_ok23, T_agg23, T_isinfo23, T_info23, T_cells23, T_zero23, T_build23, T_f23_0, T_p23_0, T_f23_1, T_p23_1, T_f23_2, T_p23_2, T_eqs23, T_ok44, T_agg44, T_isinfo44, T_info44, T_cells44, T_zero44, T_build44, T_f44_0, T_p44_0, T_f44_1, T_p44_1, T_eqs44]
  · exact times_refused a b s c 2 (.inl rfl) (Time_bad a b s c h) (rTime_bad a b s c h)

def limT : TT := .agg [.int .i64, .int .i64]
theorem limT_inv {c : List PV} (h : HasTT limT c) : ∃ x y, limT.mk c = limPV x y := by
  simp only [limT, HasTT, HasTTs] at h
  obtain ⟨_, _, rfl, ⟨x, rfl, _⟩, _, _, rfl, ⟨y, rfl, _⟩, rfl⟩ := h
  exact ⟨x, y, rfl⟩
def zeroVec : Value := .agg #[.int .i64 0, .int .i64 0, .int .i64 0]
theorem GlideTimes_lifted (os : Os) (started : os.Started) (H : Type) (enc : TypeId × Value → H) :
    ReturnsInHanded {} Try.checked os 6 .any (Rows.glideTimesSpec.pre6 enc Try.prog Try.f6 Rows.glideTimesRow.domain false) (Rows.glideTimesSpec.post enc Try.prog Try.f6 false true false false) := by
  refine law_lifted (C := Try.checked) [vecT, vecT, limT] own started (by kernel_rfl) Try.func6
    (ChangeSpec.witness6 (enc := enc) (C := Try.checked) false ⟨#[], #[zeroVec, zeroVec, .agg #[.int .i64 0, .int .i64 0]], []⟩ 8 (by kernel_rfl) (by kernel_rfl) (by kernel_rfl) (by kernel_rfl))
    laid rfl (tb := 4) (by kernel_rfl) (by kernel_rfl) (by kernel_rfl) (by kernel_rfl) ?_ ?_
  · intro ds hd
    match ds, hd with
    | [d1, d2, d3], _ => rfl
  · rintro pvs ⟨c1, _, rfl, h1, c2, _, rfl, h2, c3, _, rfl, h3, rfl⟩
    obtain ⟨a, e1⟩ := vecT_inv h1
    obtain ⟨b, e2⟩ := vecT_inv h2
    obtain ⟨s, c, e3⟩ := limT_inv h3
    rw [e1, e2, e3]
    exact GlideTimes_v a b s c

theorem GlideTimes_holds : Rows.GlideTimesSaid :=
  OpenClaim.holds_of_wide (p := Try.pinned) (s := Rows.glideTimesSpec) (c := Rows.glideTimesRow) 6 Try.f6 rfl rfl rfl rfl rfl rfl rfl ⟨rfl, rfl, rfl, rfl, rfl⟩ rfl rfl rfl rfl rfl (by kernel_rfl) Try.func6 (by kernel_rfl)
    (of_decide_eq_true (by kernel_rfl)) (by unfold Func.isWrapper; first | (rw [if_pos (by decide +kernel)]; kernel_rfl) | (rw [if_neg (by decide +kernel)]; exact ⟨rfl, rfl⟩))
    (fun os started H enc _ => GlideTimes_lifted os started H enc)
end Go.Proofs.Ytkajnimlfehmeaa
