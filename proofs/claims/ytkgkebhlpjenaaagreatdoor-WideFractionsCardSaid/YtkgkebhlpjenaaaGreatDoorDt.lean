/-
  ZA6, Bx, ZA7, ZA8, Dt (merged for the claim).
-/
import Derived.Test.YtkgkebhlpjenaaaGreatDoorUW
set_option linter.unusedSimpArgs false
set_option linter.unusedVariables false
namespace Go.Proofs.YtkgkebhlpjenaaaGreatDoor
open Go.Vl Go.RowKit Go.Dg

theorem L_mono {a b : Nat} (h : a ≤ b) : (digs E9 a).length ≤ (digs E9 b).length :=
  (digs_len_le E9_2 a _).2 (Nat.lt_of_le_of_lt h (lt_pow_len E9_2 b))
theorem L_pos {m : Nat} (h : m ≠ 0) : 0 < (digs E9 m).length := List.length_pos_iff.2 (mt (digs_eq_nil E9_2).1 h)

theorem rneg_v (n : Int) : SoundAt Tryz.prog 47 [rI n] (rI (-n)) := by
  refine sound_go (tb := []) 9 [.cell 2 31] [0, 1, 2] mixed Tryz.func47 rfl (by kernel_rfl) (by kernel_rfl) (by kernel_rfl) (by kernel_rfl) ?_
  simp -implicitDefEqProofs only [go_sem, Nat.reduceAdd, Nat.reduceMul, Nat.reduceEqDiff, Nat.reduceLT, Nat.reduceLeDiff, Nat.reduceSub, Nat.reduceBEq, reduceIte, reduceCtorEq, Int.reduceEq, Int.reduceNe, Nat.reduceBneDiff, Int.reduceLE, Int.reduceLT, Int.reduceToNat, Int.reduceAdd, Int.reduceSub, Int.reduceMul, Int.reduceNeg, T_ok3, T_agg3, T_isinfo3, T_info3, T_cells3, T_zero3, T_int3, T_ok4, T_agg4, T_isinfo4, T_info4, T_cells4, T_zero4, T_bool4, T_ok29, T_agg29, T_isinfo29, T_info29, T_cells29, T_zero29, T_elem29, T_under29, T_len29s, T_len29n, T_len29b, T_ok31, T_agg31, T_isinfo31, T_info31, T_cells31, T_zero31, T_build31, T_f31_0, T_p31_0, T_f31_1, T_p31_1, rI, di]
  refine gcall_intro _ _ _ _ _ _ _ _ _ (rmade_v _ n.natAbs) ?_
  have e : (if (!decide (n < 0)) = true then -(n.natAbs : Int) else (n.natAbs : Int)) = -n := by
    by_cases h : n < 0
    · simp [h]; omega
    · simp [h]; omega
  rw [e]
  simp -implicitDefEqProofs only [go_sem, Nat.reduceAdd, Nat.reduceMul, Nat.reduceEqDiff, Nat.reduceLT, Nat.reduceLeDiff, Nat.reduceSub, Nat.reduceBEq, reduceIte, reduceCtorEq, Int.reduceEq, Int.reduceNe, Nat.reduceBneDiff, Int.reduceLE, Int.reduceLT, Int.reduceToNat, Int.reduceAdd, Int.reduceSub, Int.reduceMul, Int.reduceNeg, T_ok3, T_agg3, T_isinfo3, T_info3, T_cells3, T_zero3, T_int3, T_ok4, T_agg4, T_isinfo4, T_info4, T_cells4, T_zero4, T_bool4, T_ok29, T_agg29, T_isinfo29, T_info29, T_cells29, T_zero29, T_elem29, T_under29, T_len29s, T_len29n, T_len29b, T_ok31, T_agg31, T_isinfo31, T_info31, T_cells31, T_zero31, T_build31, T_f31_0, T_p31_0, T_f31_1, T_p31_1, rI, di]

theorem rsign_v (n : Int) : SoundAt Tryz.prog 20 [rI n] (.int .i64 n.sign) := by
  refine sound_go (tb := []) 9 [.tmp 2] [0, 1, 2, 6, 8] mixed Tryz.func20 rfl (by kernel_rfl) (by kernel_rfl) (by kernel_rfl) (by kernel_rfl) ?_
  by_cases h0 : n = 0
  · subst h0
    have hz : (((0 : Nat) : Int) == 0) = true := rfl
    simp -implicitDefEqProofs only [go_sem, Nat.reduceAdd, Nat.reduceMul, Nat.reduceEqDiff, Nat.reduceLT, Nat.reduceLeDiff, Nat.reduceSub, Nat.reduceBEq, reduceIte, reduceCtorEq, Int.reduceEq, Int.reduceNe, Nat.reduceBneDiff, Int.reduceLE, Int.reduceLT, Int.reduceToNat, Int.reduceAdd, Int.reduceSub, Int.reduceMul, Int.reduceNeg, T_ok3, T_agg3, T_isinfo3, T_info3, T_cells3, T_zero3, T_int3, T_ok4, T_agg4, T_isinfo4, T_info4, T_cells4, T_zero4, T_bool4, T_ok29, T_agg29, T_isinfo29, T_info29, T_cells29, T_zero29, T_elem29, T_under29, T_len29s, T_len29n, T_len29b, T_ok31, T_agg31, T_isinfo31, T_info31, T_cells31, T_zero31, T_build31, T_f31_0, T_p31_0, T_f31_1, T_p31_1, rI, di, Int.natAbs_zero, digs_zero, List.map_nil, List.length_nil, hz]
    rfl
  · have h1 : (((digs E9 n.natAbs).length : Int) == 0) = false := by
      have := L_pos (show n.natAbs ≠ 0 by omega)
      simp only [beq_eq_false_iff_ne, ne_eq]; omega
    by_cases h : n < 0
    · have hd : decide (n < 0) = true := by simp [h]
      simp -implicitDefEqProofs only [go_sem, Nat.reduceAdd, Nat.reduceMul, Nat.reduceEqDiff, Nat.reduceLT, Nat.reduceLeDiff, Nat.reduceSub, Nat.reduceBEq, reduceIte, reduceCtorEq, Int.reduceEq, Int.reduceNe, Nat.reduceBneDiff, Int.reduceLE, Int.reduceLT, Int.reduceToNat, Int.reduceAdd, Int.reduceSub, Int.reduceMul, Int.reduceNeg, T_ok3, T_agg3, T_isinfo3, T_info3, T_cells3, T_zero3, T_int3, T_ok4, T_agg4, T_isinfo4, T_info4, T_cells4, T_zero4, T_bool4, T_ok29, T_agg29, T_isinfo29, T_info29, T_cells29, T_zero29, T_elem29, T_under29, T_len29s, T_len29n, T_len29b, T_ok31, T_agg31, T_isinfo31, T_info31, T_cells31, T_zero31, T_build31, T_f31_0, T_p31_0, T_f31_1, T_p31_1, rI, di, List.length_map, h1, hd]
      rw [Int.sign_eq_neg_one_of_neg h]
    · have hd : decide (n < 0) = false := by simp [h]
      simp -implicitDefEqProofs only [go_sem, Nat.reduceAdd, Nat.reduceMul, Nat.reduceEqDiff, Nat.reduceLT, Nat.reduceLeDiff, Nat.reduceSub, Nat.reduceBEq, reduceIte, reduceCtorEq, Int.reduceEq, Int.reduceNe, Nat.reduceBneDiff, Int.reduceLE, Int.reduceLT, Int.reduceToNat, Int.reduceAdd, Int.reduceSub, Int.reduceMul, Int.reduceNeg, T_ok3, T_agg3, T_isinfo3, T_info3, T_cells3, T_zero3, T_int3, T_ok4, T_agg4, T_isinfo4, T_info4, T_cells4, T_zero4, T_bool4, T_ok29, T_agg29, T_isinfo29, T_info29, T_cells29, T_zero29, T_elem29, T_under29, T_len29s, T_len29n, T_len29b, T_ok31, T_agg31, T_isinfo31, T_info31, T_cells31, T_zero31, T_build31, T_f31_0, T_p31_0, T_f31_1, T_p31_1, rI, di, List.length_map, h1, hd]
      rw [Int.sign_eq_one_of_pos (by omega)]

theorem radd_v (x y : Int) (hl : (digs E9 (x.natAbs + y.natAbs)).length ≤ 1000000000) : SoundAt Tryz.prog 48 [rI x, rI y] (rI (x + y)) := by
  have hx : (digs E9 x.natAbs).length ≤ 1000000000 := Nat.le_trans (L_mono (Nat.le_add_right _ _)) hl
  have hy : (digs E9 y.natAbs).length ≤ 1000000000 := Nat.le_trans (L_mono (Nat.le_add_left _ _)) hl
  refine sound_go (tb := []) 40 [.cell 4 31] [0, 1, 2, 3, 4, 9, 23] mixed Tryz.func48 rfl (by kernel_rfl) (by kernel_rfl) (by kernel_rfl) (by kernel_rfl) ?_
  cases hs : (decide (x < 0) == decide (y < 0)) with
  | true =>
    simp -implicitDefEqProofs only [go_sem, Nat.reduceAdd, Nat.reduceMul, Nat.reduceEqDiff, Nat.reduceLT, Nat.reduceLeDiff, Nat.reduceSub, Nat.reduceBEq, reduceIte, reduceCtorEq, Int.reduceEq, Int.reduceNe, Nat.reduceBneDiff, Int.reduceLE, Int.reduceLT, Int.reduceToNat, Int.reduceAdd, Int.reduceSub, Int.reduceMul, Int.reduceNeg, T_ok3, T_agg3, T_isinfo3, T_info3, T_cells3, T_zero3, T_int3, T_ok4, T_agg4, T_isinfo4, T_info4, T_cells4, T_zero4, T_bool4, T_ok29, T_agg29, T_isinfo29, T_info29, T_cells29, T_zero29, T_elem29, T_under29, T_len29s, T_len29n, T_len29b, T_ok31, T_agg31, T_isinfo31, T_info31, T_cells31, T_zero31, T_build31, T_f31_0, T_p31_0, T_f31_1, T_p31_1, rI, di, hs]
    refine gcall_intro _ _ _ _ _ _ _ _ _ (rplus_v _ _ hl) ?_
    simp -implicitDefEqProofs only [go_sem, Nat.reduceAdd, Nat.reduceMul, Nat.reduceEqDiff, Nat.reduceLT, Nat.reduceLeDiff, Nat.reduceSub, Nat.reduceBEq, reduceIte, reduceCtorEq, Int.reduceEq, Int.reduceNe, Nat.reduceBneDiff, Int.reduceLE, Int.reduceLT, Int.reduceToNat, Int.reduceAdd, Int.reduceSub, Int.reduceMul, Int.reduceNeg, T_ok3, T_agg3, T_isinfo3, T_info3, T_cells3, T_zero3, T_int3, T_ok4, T_agg4, T_isinfo4, T_info4, T_cells4, T_zero4, T_bool4, T_ok29, T_agg29, T_isinfo29, T_info29, T_cells29, T_zero29, T_elem29, T_under29, T_len29s, T_len29n, T_len29b, T_ok31, T_agg31, T_isinfo31, T_info31, T_cells31, T_zero31, T_build31, T_f31_0, T_p31_0, T_f31_1, T_p31_1, rI, di]
    refine gcall_intro _ _ _ _ _ _ _ _ _ (rmade_v _ _) ?_
    have e : (if decide (x < 0) = true then -((x.natAbs + y.natAbs : Nat) : Int) else ((x.natAbs + y.natAbs : Nat) : Int)) = x + y := by
      by_cases h : x < 0 <;> by_cases h' : y < 0 <;> simp [h, h'] at hs ⊢ <;> omega
    rw [e]
    simp -implicitDefEqProofs only [go_sem, Nat.reduceAdd, Nat.reduceMul, Nat.reduceEqDiff, Nat.reduceLT, Nat.reduceLeDiff, Nat.reduceSub, Nat.reduceBEq, reduceIte, reduceCtorEq, Int.reduceEq, Int.reduceNe, Nat.reduceBneDiff, Int.reduceLE, Int.reduceLT, Int.reduceToNat, Int.reduceAdd, Int.reduceSub, Int.reduceMul, Int.reduceNeg, T_ok3, T_agg3, T_isinfo3, T_info3, T_cells3, T_zero3, T_int3, T_ok4, T_agg4, T_isinfo4, T_info4, T_cells4, T_zero4, T_bool4, T_ok29, T_agg29, T_isinfo29, T_info29, T_cells29, T_zero29, T_elem29, T_under29, T_len29s, T_len29n, T_len29b, T_ok31, T_agg31, T_isinfo31, T_info31, T_cells31, T_zero31, T_build31, T_f31_0, T_p31_0, T_f31_1, T_p31_1, rI, di]
    exact drawQ_true _ _ (by kernel_rfl)
  | false =>
    simp -implicitDefEqProofs only [go_sem, Nat.reduceAdd, Nat.reduceMul, Nat.reduceEqDiff, Nat.reduceLT, Nat.reduceLeDiff, Nat.reduceSub, Nat.reduceBEq, reduceIte, reduceCtorEq, Int.reduceEq, Int.reduceNe, Nat.reduceBneDiff, Int.reduceLE, Int.reduceLT, Int.reduceToNat, Int.reduceAdd, Int.reduceSub, Int.reduceMul, Int.reduceNeg, T_ok3, T_agg3, T_isinfo3, T_info3, T_cells3, T_zero3, T_int3, T_ok4, T_agg4, T_isinfo4, T_info4, T_cells4, T_zero4, T_bool4, T_ok29, T_agg29, T_isinfo29, T_info29, T_cells29, T_zero29, T_elem29, T_under29, T_len29s, T_len29n, T_len29b, T_ok31, T_agg31, T_isinfo31, T_info31, T_cells31, T_zero31, T_build31, T_f31_0, T_p31_0, T_f31_1, T_p31_1, rI, di, hs]
    refine gcall_intro _ _ _ _ _ _ _ _ _ (rorder_v _ _ hx) ?_
    by_cases hc : y.natAbs ≤ x.natAbs
    · have hc' : (0 ≤ cmpN x.natAbs y.natAbs) = True := by simp [cmpN]; omega
      simp -implicitDefEqProofs only [go_sem, Nat.reduceAdd, Nat.reduceMul, Nat.reduceEqDiff, Nat.reduceLT, Nat.reduceLeDiff, Nat.reduceSub, Nat.reduceBEq, reduceIte, reduceCtorEq, Int.reduceEq, Int.reduceNe, Nat.reduceBneDiff, Int.reduceLE, Int.reduceLT, Int.reduceToNat, Int.reduceAdd, Int.reduceSub, Int.reduceMul, Int.reduceNeg, T_ok3, T_agg3, T_isinfo3, T_info3, T_cells3, T_zero3, T_int3, T_ok4, T_agg4, T_isinfo4, T_info4, T_cells4, T_zero4, T_bool4, T_ok29, T_agg29, T_isinfo29, T_info29, T_cells29, T_zero29, T_elem29, T_under29, T_len29s, T_len29n, T_len29b, T_ok31, T_agg31, T_isinfo31, T_info31, T_cells31, T_zero31, T_build31, T_f31_0, T_p31_0, T_f31_1, T_p31_1, hc']
      refine gcall_intro _ _ _ _ _ _ _ _ _ (rminus_v _ _ hc hx) ?_
      simp -implicitDefEqProofs only [go_sem, Nat.reduceAdd, Nat.reduceMul, Nat.reduceEqDiff, Nat.reduceLT, Nat.reduceLeDiff, Nat.reduceSub, Nat.reduceBEq, reduceIte, reduceCtorEq, Int.reduceEq, Int.reduceNe, Nat.reduceBneDiff, Int.reduceLE, Int.reduceLT, Int.reduceToNat, Int.reduceAdd, Int.reduceSub, Int.reduceMul, Int.reduceNeg, T_ok3, T_agg3, T_isinfo3, T_info3, T_cells3, T_zero3, T_int3, T_ok4, T_agg4, T_isinfo4, T_info4, T_cells4, T_zero4, T_bool4, T_ok29, T_agg29, T_isinfo29, T_info29, T_cells29, T_zero29, T_elem29, T_under29, T_len29s, T_len29n, T_len29b, T_ok31, T_agg31, T_isinfo31, T_info31, T_cells31, T_zero31, T_build31, T_f31_0, T_p31_0, T_f31_1, T_p31_1, di]
      refine gcall_intro _ _ _ _ _ _ _ _ _ (rmade_v _ _) ?_
      have e : (if decide (x < 0) = true then -((x.natAbs - y.natAbs : Nat) : Int) else ((x.natAbs - y.natAbs : Nat) : Int)) = x + y := by
        by_cases h : x < 0 <;> by_cases h' : y < 0 <;> simp [h, h'] at hs ⊢ <;> omega
      rw [e]
      simp -implicitDefEqProofs only [go_sem, Nat.reduceAdd, Nat.reduceMul, Nat.reduceEqDiff, Nat.reduceLT, Nat.reduceLeDiff, Nat.reduceSub, Nat.reduceBEq, reduceIte, reduceCtorEq, Int.reduceEq, Int.reduceNe, Nat.reduceBneDiff, Int.reduceLE, Int.reduceLT, Int.reduceToNat, Int.reduceAdd, Int.reduceSub, Int.reduceMul, Int.reduceNeg, T_ok3, T_agg3, T_isinfo3, T_info3, T_cells3, T_zero3, T_int3, T_ok4, T_agg4, T_isinfo4, T_info4, T_cells4, T_zero4, T_bool4, T_ok29, T_agg29, T_isinfo29, T_info29, T_cells29, T_zero29, T_elem29, T_under29, T_len29s, T_len29n, T_len29b, T_ok31, T_agg31, T_isinfo31, T_info31, T_cells31, T_zero31, T_build31, T_f31_0, T_p31_0, T_f31_1, T_p31_1, rI, di]
      exact drawQ_true _ _ (by kernel_rfl)
    · have hc' : (0 ≤ cmpN x.natAbs y.natAbs) = False := by simp [cmpN]; omega
      simp -implicitDefEqProofs only [go_sem, Nat.reduceAdd, Nat.reduceMul, Nat.reduceEqDiff, Nat.reduceLT, Nat.reduceLeDiff, Nat.reduceSub, Nat.reduceBEq, reduceIte, reduceCtorEq, Int.reduceEq, Int.reduceNe, Nat.reduceBneDiff, Int.reduceLE, Int.reduceLT, Int.reduceToNat, Int.reduceAdd, Int.reduceSub, Int.reduceMul, Int.reduceNeg, T_ok3, T_agg3, T_isinfo3, T_info3, T_cells3, T_zero3, T_int3, T_ok4, T_agg4, T_isinfo4, T_info4, T_cells4, T_zero4, T_bool4, T_ok29, T_agg29, T_isinfo29, T_info29, T_cells29, T_zero29, T_elem29, T_under29, T_len29s, T_len29n, T_len29b, T_ok31, T_agg31, T_isinfo31, T_info31, T_cells31, T_zero31, T_build31, T_f31_0, T_p31_0, T_f31_1, T_p31_1, hc']
      refine gcall_intro _ _ _ _ _ _ _ _ _ (rminus_v _ _ (Nat.le_of_lt (Nat.lt_of_not_le hc)) hy) ?_
      simp -implicitDefEqProofs only [go_sem, Nat.reduceAdd, Nat.reduceMul, Nat.reduceEqDiff, Nat.reduceLT, Nat.reduceLeDiff, Nat.reduceSub, Nat.reduceBEq, reduceIte, reduceCtorEq, Int.reduceEq, Int.reduceNe, Nat.reduceBneDiff, Int.reduceLE, Int.reduceLT, Int.reduceToNat, Int.reduceAdd, Int.reduceSub, Int.reduceMul, Int.reduceNeg, T_ok3, T_agg3, T_isinfo3, T_info3, T_cells3, T_zero3, T_int3, T_ok4, T_agg4, T_isinfo4, T_info4, T_cells4, T_zero4, T_bool4, T_ok29, T_agg29, T_isinfo29, T_info29, T_cells29, T_zero29, T_elem29, T_under29, T_len29s, T_len29n, T_len29b, T_ok31, T_agg31, T_isinfo31, T_info31, T_cells31, T_zero31, T_build31, T_f31_0, T_p31_0, T_f31_1, T_p31_1, di]
      refine gcall_intro _ _ _ _ _ _ _ _ _ (rmade_v _ _) ?_
      have e : (if decide (y < 0) = true then -((y.natAbs - x.natAbs : Nat) : Int) else ((y.natAbs - x.natAbs : Nat) : Int)) = x + y := by
        by_cases h : x < 0 <;> by_cases h' : y < 0 <;> simp [h, h'] at hs ⊢ <;> omega
      rw [e]
      simp -implicitDefEqProofs only [go_sem, Nat.reduceAdd, Nat.reduceMul, Nat.reduceEqDiff, Nat.reduceLT, Nat.reduceLeDiff, Nat.reduceSub, Nat.reduceBEq, reduceIte, reduceCtorEq, Int.reduceEq, Int.reduceNe, Nat.reduceBneDiff, Int.reduceLE, Int.reduceLT, Int.reduceToNat, Int.reduceAdd, Int.reduceSub, Int.reduceMul, Int.reduceNeg, T_ok3, T_agg3, T_isinfo3, T_info3, T_cells3, T_zero3, T_int3, T_ok4, T_agg4, T_isinfo4, T_info4, T_cells4, T_zero4, T_bool4, T_ok29, T_agg29, T_isinfo29, T_info29, T_cells29, T_zero29, T_elem29, T_under29, T_len29s, T_len29n, T_len29b, T_ok31, T_agg31, T_isinfo31, T_info31, T_cells31, T_zero31, T_build31, T_f31_0, T_p31_0, T_f31_1, T_p31_1, rI, di]
      exact drawQ_true _ _ (by kernel_rfl)

theorem rsub_v (x y : Int) (hl : (digs E9 (x.natAbs + y.natAbs)).length ≤ 1000000000) : SoundAt Tryz.prog 49 [rI x, rI y] (rI (x - y)) := by
  refine sound_go (tb := []) 9 [.cell 4 31] [0, 1, 2, 3, 4] mixed Tryz.func49 rfl (by kernel_rfl) (by kernel_rfl) (by kernel_rfl) (by kernel_rfl) ?_
  simp -implicitDefEqProofs only [go_sem, Nat.reduceAdd, Nat.reduceMul, Nat.reduceEqDiff, Nat.reduceLT, Nat.reduceLeDiff, Nat.reduceSub, Nat.reduceBEq, reduceIte, reduceCtorEq, Int.reduceEq, Int.reduceNe, Nat.reduceBneDiff, Int.reduceLE, Int.reduceLT, Int.reduceToNat, Int.reduceAdd, Int.reduceSub, Int.reduceMul, Int.reduceNeg, T_ok3, T_agg3, T_isinfo3, T_info3, T_cells3, T_zero3, T_int3, T_ok4, T_agg4, T_isinfo4, T_info4, T_cells4, T_zero4, T_bool4, T_ok29, T_agg29, T_isinfo29, T_info29, T_cells29, T_zero29, T_elem29, T_under29, T_len29s, T_len29n, T_len29b, T_ok31, T_agg31, T_isinfo31, T_info31, T_cells31, T_zero31, T_build31, T_f31_0, T_p31_0, T_f31_1, T_p31_1, rI, di]
  refine gcall_intro _ _ _ _ _ _ _ _ _ (rneg_v y) ?_
  simp -implicitDefEqProofs only [go_sem, Nat.reduceAdd, Nat.reduceMul, Nat.reduceEqDiff, Nat.reduceLT, Nat.reduceLeDiff, Nat.reduceSub, Nat.reduceBEq, reduceIte, reduceCtorEq, Int.reduceEq, Int.reduceNe, Nat.reduceBneDiff, Int.reduceLE, Int.reduceLT, Int.reduceToNat, Int.reduceAdd, Int.reduceSub, Int.reduceMul, Int.reduceNeg, T_ok3, T_agg3, T_isinfo3, T_info3, T_cells3, T_zero3, T_int3, T_ok4, T_agg4, T_isinfo4, T_info4, T_cells4, T_zero4, T_bool4, T_ok29, T_agg29, T_isinfo29, T_info29, T_cells29, T_zero29, T_elem29, T_under29, T_len29s, T_len29n, T_len29b, T_ok31, T_agg31, T_isinfo31, T_info31, T_cells31, T_zero31, T_build31, T_f31_0, T_p31_0, T_f31_1, T_p31_1, rI, di]
  refine gcall_intro _ _ _ _ _ _ _ _ _ (radd_v x (-y) (by rw [Int.natAbs_neg]; exact hl)) ?_
  simp -implicitDefEqProofs only [go_sem, Nat.reduceAdd, Nat.reduceMul, Nat.reduceEqDiff, Nat.reduceLT, Nat.reduceLeDiff, Nat.reduceSub, Nat.reduceBEq, reduceIte, reduceCtorEq, Int.reduceEq, Int.reduceNe, Nat.reduceBneDiff, Int.reduceLE, Int.reduceLT, Int.reduceToNat, Int.reduceAdd, Int.reduceSub, Int.reduceMul, Int.reduceNeg, T_ok3, T_agg3, T_isinfo3, T_info3, T_cells3, T_zero3, T_int3, T_ok4, T_agg4, T_isinfo4, T_info4, T_cells4, T_zero4, T_bool4, T_ok29, T_agg29, T_isinfo29, T_info29, T_cells29, T_zero29, T_elem29, T_under29, T_len29s, T_len29n, T_len29b, T_ok31, T_agg31, T_isinfo31, T_info31, T_cells31, T_zero31, T_build31, T_f31_0, T_p31_0, T_f31_1, T_p31_1, rI, di, Int.sub_eq_add_neg]
  exact drawQ_true _ _ (by kernel_rfl)

theorem rmul_v (x y : Int) (hl : (digs E9 x.natAbs).length + (digs E9 y.natAbs).length ≤ 1000000000) : SoundAt Tryz.prog 22 [rI x, rI y] (rI (x * y)) := by
  refine sound_go (tb := []) 16 [.cell 4 31] [0, 1, 2, 3, 4] mixed Tryz.func22 rfl (by kernel_rfl) (by kernel_rfl) (by kernel_rfl) (by kernel_rfl) ?_
  simp -implicitDefEqProofs only [go_sem, Nat.reduceAdd, Nat.reduceMul, Nat.reduceEqDiff, Nat.reduceLT, Nat.reduceLeDiff, Nat.reduceSub, Nat.reduceBEq, reduceIte, reduceCtorEq, Int.reduceEq, Int.reduceNe, Nat.reduceBneDiff, Int.reduceLE, Int.reduceLT, Int.reduceToNat, Int.reduceAdd, Int.reduceSub, Int.reduceMul, Int.reduceNeg, T_ok3, T_agg3, T_isinfo3, T_info3, T_cells3, T_zero3, T_int3, T_ok4, T_agg4, T_isinfo4, T_info4, T_cells4, T_zero4, T_bool4, T_ok29, T_agg29, T_isinfo29, T_info29, T_cells29, T_zero29, T_elem29, T_under29, T_len29s, T_len29n, T_len29b, T_ok31, T_agg31, T_isinfo31, T_info31, T_cells31, T_zero31, T_build31, T_f31_0, T_p31_0, T_f31_1, T_p31_1, rI, di]
  refine gcall_intro _ _ _ _ _ _ _ _ _ (rtimes_v _ _ hl) ?_
  simp -implicitDefEqProofs only [go_sem, Nat.reduceAdd, Nat.reduceMul, Nat.reduceEqDiff, Nat.reduceLT, Nat.reduceLeDiff, Nat.reduceSub, Nat.reduceBEq, reduceIte, reduceCtorEq, Int.reduceEq, Int.reduceNe, Nat.reduceBneDiff, Int.reduceLE, Int.reduceLT, Int.reduceToNat, Int.reduceAdd, Int.reduceSub, Int.reduceMul, Int.reduceNeg, T_ok3, T_agg3, T_isinfo3, T_info3, T_cells3, T_zero3, T_int3, T_ok4, T_agg4, T_isinfo4, T_info4, T_cells4, T_zero4, T_bool4, T_ok29, T_agg29, T_isinfo29, T_info29, T_cells29, T_zero29, T_elem29, T_under29, T_len29s, T_len29n, T_len29b, T_ok31, T_agg31, T_isinfo31, T_info31, T_cells31, T_zero31, T_build31, T_f31_0, T_p31_0, T_f31_1, T_p31_1, di]
  refine gcall_intro _ _ _ _ _ _ _ _ _ (rmade_v _ _) ?_
  have e : (if (!decide (x < 0) == decide (y < 0)) = true then -((x.natAbs * y.natAbs : Nat) : Int) else ((x.natAbs * y.natAbs : Nat) : Int)) = x * y := by
    rw [Int.natCast_mul]
    by_cases h : x < 0 <;> by_cases h' : y < 0
    · simp [h, h', Int.neg_mul, Int.mul_neg, Int.ofNat_natAbs_of_nonpos (Int.le_of_lt h), Int.ofNat_natAbs_of_nonpos (Int.le_of_lt h')]
    · simp [h, h', Int.neg_mul, Int.mul_neg, Int.ofNat_natAbs_of_nonpos (Int.le_of_lt h), Int.natAbs_of_nonneg (Int.not_lt.1 h')]
    · simp [h, h', Int.neg_mul, Int.mul_neg, Int.natAbs_of_nonneg (Int.not_lt.1 h), Int.ofNat_natAbs_of_nonpos (Int.le_of_lt h')]
    · simp [h, h', Int.natAbs_of_nonneg (Int.not_lt.1 h), Int.natAbs_of_nonneg (Int.not_lt.1 h')]
  rw [e]
  simp -implicitDefEqProofs only [go_sem, Nat.reduceAdd, Nat.reduceMul, Nat.reduceEqDiff, Nat.reduceLT, Nat.reduceLeDiff, Nat.reduceSub, Nat.reduceBEq, reduceIte, reduceCtorEq, Int.reduceEq, Int.reduceNe, Nat.reduceBneDiff, Int.reduceLE, Int.reduceLT, Int.reduceToNat, Int.reduceAdd, Int.reduceSub, Int.reduceMul, Int.reduceNeg, T_ok3, T_agg3, T_isinfo3, T_info3, T_cells3, T_zero3, T_int3, T_ok4, T_agg4, T_isinfo4, T_info4, T_cells4, T_zero4, T_bool4, T_ok29, T_agg29, T_isinfo29, T_info29, T_cells29, T_zero29, T_elem29, T_under29, T_len29s, T_len29n, T_len29b, T_ok31, T_agg31, T_isinfo31, T_info31, T_cells31, T_zero31, T_build31, T_f31_0, T_p31_0, T_f31_1, T_p31_1, rI, di]
  exact drawQ_true _ _ (by kernel_rfl)
theorem rcompare_v (x y : Int) (hl : (digs E9 (x.natAbs + y.natAbs)).length ≤ 1000000000) : SoundAt Tryz.prog 86 [rI x, rI y] (.int .i64 (x - y).sign) := by
  refine sound_go (tb := []) 9 [.tmp 4] [0, 1, 2, 3, 4] mixed Tryz.func86 rfl (by kernel_rfl) (by kernel_rfl) (by kernel_rfl) (by kernel_rfl) ?_
  simp -implicitDefEqProofs only [go_sem, Nat.reduceAdd, Nat.reduceMul, Nat.reduceEqDiff, Nat.reduceLT, Nat.reduceLeDiff, Nat.reduceSub, Nat.reduceBEq, reduceIte, reduceCtorEq, Int.reduceEq, Int.reduceNe, Nat.reduceBneDiff, Int.reduceLE, Int.reduceLT, Int.reduceToNat, Int.reduceAdd, Int.reduceSub, Int.reduceMul, Int.reduceNeg, T_ok3, T_agg3, T_isinfo3, T_info3, T_cells3, T_zero3, T_int3, T_ok4, T_agg4, T_isinfo4, T_info4, T_cells4, T_zero4, T_bool4, T_ok29, T_agg29, T_isinfo29, T_info29, T_cells29, T_zero29, T_elem29, T_under29, T_len29s, T_len29n, T_len29b, T_ok31, T_agg31, T_isinfo31, T_info31, T_cells31, T_zero31, T_build31, T_f31_0, T_p31_0, T_f31_1, T_p31_1, rI, di]
  refine gcall_intro _ _ _ _ _ _ _ _ _ (rsub_v x y hl) ?_
  simp -implicitDefEqProofs only [go_sem, Nat.reduceAdd, Nat.reduceMul, Nat.reduceEqDiff, Nat.reduceLT, Nat.reduceLeDiff, Nat.reduceSub, Nat.reduceBEq, reduceIte, reduceCtorEq, Int.reduceEq, Int.reduceNe, Nat.reduceBneDiff, Int.reduceLE, Int.reduceLT, Int.reduceToNat, Int.reduceAdd, Int.reduceSub, Int.reduceMul, Int.reduceNeg, T_ok3, T_agg3, T_isinfo3, T_info3, T_cells3, T_zero3, T_int3, T_ok4, T_agg4, T_isinfo4, T_info4, T_cells4, T_zero4, T_bool4, T_ok29, T_agg29, T_isinfo29, T_info29, T_cells29, T_zero29, T_elem29, T_under29, T_len29s, T_len29n, T_len29b, T_ok31, T_agg31, T_isinfo31, T_info31, T_cells31, T_zero31, T_build31, T_f31_0, T_p31_0, T_f31_1, T_p31_1, rI, di]
  refine gcall_intro _ _ _ _ _ _ _ _ _ (rsign_v (x - y)) ?_
  simp -implicitDefEqProofs only [go_sem, Nat.reduceAdd, Nat.reduceMul, Nat.reduceEqDiff, Nat.reduceLT, Nat.reduceLeDiff, Nat.reduceSub, Nat.reduceBEq, reduceIte, reduceCtorEq, Int.reduceEq, Int.reduceNe, Nat.reduceBneDiff, Int.reduceLE, Int.reduceLT, Int.reduceToNat, Int.reduceAdd, Int.reduceSub, Int.reduceMul, Int.reduceNeg, T_ok3, T_agg3, T_isinfo3, T_info3, T_cells3, T_zero3, T_int3, T_ok4, T_agg4, T_isinfo4, T_info4, T_cells4, T_zero4, T_bool4, T_ok29, T_agg29, T_isinfo29, T_info29, T_cells29, T_zero29, T_elem29, T_under29, T_len29s, T_len29n, T_len29b, T_ok31, T_agg31, T_isinfo31, T_info31, T_cells31, T_zero31, T_build31, T_f31_0, T_p31_0, T_f31_1, T_p31_1]

/-! an int as an integer -/
theorem lows3 (n : Nat) (h : n < 9223372036854775809) : trimZ [n % E9, n / E9 % E9, n / E9 / E9] = digs E9 n := by
  have e : [n % E9, n / E9 % E9, n / E9 / E9] = lows E9 n 3 := by
    have h3 : n / E9 / E9 = n / E9 ^ 2 % E9 := by
      rw [Nat.div_div_eq_div_mul, show E9 * E9 = E9 ^ 2 from rfl]
      exact (Nat.mod_eq_of_lt (Nat.div_lt_of_lt_mul (Nat.lt_trans h (by decide)))).symm
    rw [h3]
    simp [lows, List.range_succ]
  rw [e, trimZ_lows E9_2, Nat.mod_eq_of_lt (Nat.lt_trans h (by decide))]
theorem L_small {n : Nat} (h : n < 9223372036854775809) : (digs E9 n).length ≤ 3 := (digs_len_le E9_2 n 3).2 (Nat.lt_trans h (by decide))
theorem rI_zero : rI 0 = .agg [.bool false, .slc []] := by simp [rI, di, digs_zero]
theorem natAbs_rI (m : Nat) : rI (m : Int) = .agg [.bool false, di (digs E9 m)] := by
  simp [rI]
theorem rnum_v (n : Int) (h1 : -9223372036854775808 ≤ n) (h2 : n ≤ 9223372036854775807) : SoundAt Tryz.prog 30 [.int .i64 n] (rI n) := by
  refine sound_go (tb := []) 32 [.cell 2 31] [0, 2, 4] mixed Tryz.func30 rfl (by kernel_rfl) (by kernel_rfl) (by kernel_rfl) (by kernel_rfl) ?_
  by_cases hn : 0 ≤ n
  · obtain ⟨m, rfl⟩ : ∃ m : Nat, n = m := ⟨n.toNat, by omega⟩
    have h0 : ((m : Int) ≥ 0) = True := by simp
    have e1 := wrapn (n := m / 1000000000) (by omega)
    have e2 := wrapn (n := m / 1000000000 / 1000000000) (by omega)
    simp -implicitDefEqProofs only [go_sem, Nat.reduceAdd, Nat.reduceMul, Nat.reduceEqDiff, Nat.reduceLT, Nat.reduceLeDiff, Nat.reduceSub, Nat.reduceBEq, reduceIte, reduceCtorEq, Int.reduceEq, Int.reduceNe, Nat.reduceBneDiff, Int.reduceLE, Int.reduceLT, Int.reduceToNat, Int.reduceAdd, Int.reduceSub, Int.reduceMul, Int.reduceNeg, T_ok3, T_agg3, T_isinfo3, T_info3, T_cells3, T_zero3, T_int3, T_ok4, T_agg4, T_isinfo4, T_info4, T_cells4, T_zero4, T_bool4, T_ok29, T_agg29, T_isinfo29, T_info29, T_cells29, T_zero29, T_elem29, T_under29, T_len29s, T_len29n, T_len29b, T_ok31, T_agg31, T_isinfo31, T_info31, T_cells31, T_zero31, T_build31, T_f31_0, T_p31_0, T_f31_1, T_p31_1, h0, tmod9, tdiv9, e1, e2]
    refine gcall_intro _ _ _ _ _ _ _ _ _ (rtrim_v [m % E9, m / E9 % E9, m / E9 / E9] (by simp [maxLen])) ?_
    rw [lows3 m (by omega)]
    simp -implicitDefEqProofs only [go_sem, Nat.reduceAdd, Nat.reduceMul, Nat.reduceEqDiff, Nat.reduceLT, Nat.reduceLeDiff, Nat.reduceSub, Nat.reduceBEq, reduceIte, reduceCtorEq, Int.reduceEq, Int.reduceNe, Nat.reduceBneDiff, Int.reduceLE, Int.reduceLT, Int.reduceToNat, Int.reduceAdd, Int.reduceSub, Int.reduceMul, Int.reduceNeg, T_ok3, T_agg3, T_isinfo3, T_info3, T_cells3, T_zero3, T_int3, T_ok4, T_agg4, T_isinfo4, T_info4, T_cells4, T_zero4, T_bool4, T_ok29, T_agg29, T_isinfo29, T_info29, T_cells29, T_zero29, T_elem29, T_under29, T_len29s, T_len29n, T_len29b, T_ok31, T_agg31, T_isinfo31, T_info31, T_cells31, T_zero31, T_build31, T_f31_0, T_p31_0, T_f31_1, T_p31_1, di]
    refine gcall_intro _ _ _ _ _ _ _ _ _ (rmade_v _ m) ?_
    simp -implicitDefEqProofs only [go_sem, Nat.reduceAdd, Nat.reduceMul, Nat.reduceEqDiff, Nat.reduceLT, Nat.reduceLeDiff, Nat.reduceSub, Nat.reduceBEq, reduceIte, reduceCtorEq, Int.reduceEq, Int.reduceNe, Nat.reduceBneDiff, Int.reduceLE, Int.reduceLT, Int.reduceToNat, Int.reduceAdd, Int.reduceSub, Int.reduceMul, Int.reduceNeg, T_ok3, T_agg3, T_isinfo3, T_info3, T_cells3, T_zero3, T_int3, T_ok4, T_agg4, T_isinfo4, T_info4, T_cells4, T_zero4, T_bool4, T_ok29, T_agg29, T_isinfo29, T_info29, T_cells29, T_zero29, T_elem29, T_under29, T_len29s, T_len29n, T_len29b, T_ok31, T_agg31, T_isinfo31, T_info31, T_cells31, T_zero31, T_build31, T_f31_0, T_p31_0, T_f31_1, T_p31_1, rI, di]
  · obtain ⟨m, rfl⟩ : ∃ m : Nat, n = -m := ⟨n.natAbs, by omega⟩
    have h0 : (0 ≤ -(m : Int)) = False := by simp; omega
    have q1 : Int.tmod (-(m : Int)) 1000000000 = -((m % 1000000000 : Nat) : Int) := by rw [Int.neg_tmod, tmod9]
    have q2 : Int.tdiv (-(m : Int)) 1000000000 = -((m / 1000000000 : Nat) : Int) := by rw [Int.neg_tdiv, tdiv9]
    have q3 : Int.tmod (-((m / 1000000000 : Nat) : Int)) 1000000000 = -((m / 1000000000 % 1000000000 : Nat) : Int) := by rw [Int.neg_tmod, tmod9]
    have q4 : Int.tdiv (-((m / 1000000000 : Nat) : Int)) 1000000000 = -((m / 1000000000 / 1000000000 : Nat) : Int) := by rw [Int.neg_tdiv, tdiv9]
    have e1 : IntKind.i64.wrap (-((m / 1000000000 : Nat) : Int)) = -((m / 1000000000 : Nat) : Int) := wrap_i64 (by omega) (by omega)
    have e2 : IntKind.i64.wrap (-((m / 1000000000 / 1000000000 : Nat) : Int)) = -((m / 1000000000 / 1000000000 : Nat) : Int) := wrap_i64 (by omega) (by omega)
    have n1 : IntKind.i64.wrap (0 - -((m % 1000000000 : Nat) : Int)) = ((m % 1000000000 : Nat) : Int) := by rw [wrap_i64 (by omega) (by omega)]; omega
    have n2 : IntKind.i64.wrap (0 - -((m / 1000000000 % 1000000000 : Nat) : Int)) = ((m / 1000000000 % 1000000000 : Nat) : Int) := by rw [wrap_i64 (by omega) (by omega)]; omega
    have n3 : IntKind.i64.wrap (0 - -((m / 1000000000 / 1000000000 : Nat) : Int)) = ((m / 1000000000 / 1000000000 : Nat) : Int) := by rw [wrap_i64 (by omega) (by omega)]; omega
    simp -implicitDefEqProofs only [go_sem, Nat.reduceAdd, Nat.reduceMul, Nat.reduceEqDiff, Nat.reduceLT, Nat.reduceLeDiff, Nat.reduceSub, Nat.reduceBEq, reduceIte, reduceCtorEq, Int.reduceEq, Int.reduceNe, Nat.reduceBneDiff, Int.reduceLE, Int.reduceLT, Int.reduceToNat, Int.reduceAdd, Int.reduceSub, Int.reduceMul, Int.reduceNeg, T_ok3, T_agg3, T_isinfo3, T_info3, T_cells3, T_zero3, T_int3, T_ok4, T_agg4, T_isinfo4, T_info4, T_cells4, T_zero4, T_bool4, T_ok29, T_agg29, T_isinfo29, T_info29, T_cells29, T_zero29, T_elem29, T_under29, T_len29s, T_len29n, T_len29b, T_ok31, T_agg31, T_isinfo31, T_info31, T_cells31, T_zero31, T_build31, T_f31_0, T_p31_0, T_f31_1, T_p31_1, h0, q1, q2, e1, q3, q4, e2, n1, n2, n3]
    refine gcall_intro _ _ _ _ _ _ _ _ _ (rtrim_v [m % E9, m / E9 % E9, m / E9 / E9] (by simp [maxLen])) ?_
    rw [lows3 m (by omega)]
    simp -implicitDefEqProofs only [go_sem, Nat.reduceAdd, Nat.reduceMul, Nat.reduceEqDiff, Nat.reduceLT, Nat.reduceLeDiff, Nat.reduceSub, Nat.reduceBEq, reduceIte, reduceCtorEq, Int.reduceEq, Int.reduceNe, Nat.reduceBneDiff, Int.reduceLE, Int.reduceLT, Int.reduceToNat, Int.reduceAdd, Int.reduceSub, Int.reduceMul, Int.reduceNeg, T_ok3, T_agg3, T_isinfo3, T_info3, T_cells3, T_zero3, T_int3, T_ok4, T_agg4, T_isinfo4, T_info4, T_cells4, T_zero4, T_bool4, T_ok29, T_agg29, T_isinfo29, T_info29, T_cells29, T_zero29, T_elem29, T_under29, T_len29s, T_len29n, T_len29b, T_ok31, T_agg31, T_isinfo31, T_info31, T_cells31, T_zero31, T_build31, T_f31_0, T_p31_0, T_f31_1, T_p31_1, di]
    refine gcall_intro _ _ _ _ _ _ _ _ _ (rmade_v _ m) ?_
    simp -implicitDefEqProofs only [go_sem, Nat.reduceAdd, Nat.reduceMul, Nat.reduceEqDiff, Nat.reduceLT, Nat.reduceLeDiff, Nat.reduceSub, Nat.reduceBEq, reduceIte, reduceCtorEq, Int.reduceEq, Int.reduceNe, Nat.reduceBneDiff, Int.reduceLE, Int.reduceLT, Int.reduceToNat, Int.reduceAdd, Int.reduceSub, Int.reduceMul, Int.reduceNeg, T_ok3, T_agg3, T_isinfo3, T_info3, T_cells3, T_zero3, T_int3, T_ok4, T_agg4, T_isinfo4, T_info4, T_cells4, T_zero4, T_bool4, T_ok29, T_agg29, T_isinfo29, T_info29, T_cells29, T_zero29, T_elem29, T_under29, T_len29s, T_len29n, T_len29b, T_ok31, T_agg31, T_isinfo31, T_info31, T_cells31, T_zero31, T_build31, T_f31_0, T_p31_0, T_f31_1, T_p31_1, rI, di]
    have hsub := rsub_v (-(m : Int)) 0 (by simp; exact Nat.le_trans (L_small (by omega)) (by decide))
    rw [Int.sub_zero, rI_zero] at hsub
    refine gcall_intro _ _ _ _ _ _ _ _ _ hsub ?_
    simp -implicitDefEqProofs only [go_sem, Nat.reduceAdd, Nat.reduceMul, Nat.reduceEqDiff, Nat.reduceLT, Nat.reduceLeDiff, Nat.reduceSub, Nat.reduceBEq, reduceIte, reduceCtorEq, Int.reduceEq, Int.reduceNe, Nat.reduceBneDiff, Int.reduceLE, Int.reduceLT, Int.reduceToNat, Int.reduceAdd, Int.reduceSub, Int.reduceMul, Int.reduceNeg, T_ok3, T_agg3, T_isinfo3, T_info3, T_cells3, T_zero3, T_int3, T_ok4, T_agg4, T_isinfo4, T_info4, T_cells4, T_zero4, T_bool4, T_ok29, T_agg29, T_isinfo29, T_info29, T_cells29, T_zero29, T_elem29, T_under29, T_len29s, T_len29n, T_len29b, T_ok31, T_agg31, T_isinfo31, T_info31, T_cells31, T_zero31, T_build31, T_f31_0, T_p31_0, T_f31_1, T_p31_1, rI, di]
end Go.Proofs.YtkgkebhlpjenaaaGreatDoor

namespace Go.Vl
open Go.RowKit

theorem le_slc0 {st : St} {t : Nat} (ht : st.var t = some .nilS) : Le st (st.setVar t (.slc [])) := by
  rintro C a w ⟨ρ, im, h⟩
  have hv := (h.var t _ ht).nilS_inv
  refine ⟨ρ, im, h.root, h.nt, h.dfr, h.imc, ?_, h.rho, h.box, h.inj⟩
  intro t' v' hv'
  simp only [St.setVar, upd] at hv'
  split at hv'
  · rename_i e
    cases hv'
    subst e
    rw [hv]
    exact .ext _ _ (.slcNil 0 (Nat.zero_le _))
  · exact h.var t' v' hv'
theorem le_slc0G {vs : List (Nat × PV)} {bs : List (Nat × Box)} {o : List (List PV)} {y : Option (Nat × Nat)} (t : Nat) (ht : lkp vs t = some .nilS) :
    Le (St.ofG vs bs o y) (St.ofG ((t, .slc []) :: vs) bs o y) := le_slc0 (st := St.ofG vs bs o y) ht

theorem o_callT (P : Program) (p : Nat × List (Nat × Nat) × List (Nat × Nat)) (tb : Tab) (id : Nat) (bx : Bx) (fo : Operand) (as0 : Array Operand) (ts : Array TypeId) (f : FuncId) (first cap args : List PV) : opVal P (p :: tb) id (.call ⟨.value fo, as0, ts⟩) (.fn f first cap :: args) bx =
    (match lkp (p :: tb) id with
      | none => M.bind (escCL first) (fun x => .bind (esc1L args) fun y => .bind (escCL cap) fun z => .pure (.call f (x.1 ++ y.1 ++ z.1) (x.2 ++ y.2 ++ z.2))) bx
      | some t => lendCall t.1 t.2 f (first ++ args ++ cap) bx) := by
  cases h : lkp (p :: tb) id with
  | none => rw [o_call (h := h)]
  | some t => obtain ⟨θ, ν⟩ := t; rw [o_lend (h := h)]
theorem ble6 : Nat.ble 1000000 1000000 = true := rfl
theorem ble6b : Nat.ble 1000000 1000001 = true := rfl
attribute [go_sem] o_callT ble6 ble6b
theorem b_seq (P : Program) (t : TypeId) (x y : ByteArray) : binPV .eql t P (.str x) (.str y) = some (.bool (x.data.toList == y.data.toList)) := by
  rw [b_str, ← Go.ByteArray.toList_eq x, ← Go.ByteArray.toList_eq y]; rfl
theorem b_sne (P : Program) (t : TypeId) (x y : ByteArray) : binPV .neq t P (.str x) (.str y) = some (.bool !(x.data.toList == y.data.toList)) := by
  rw [b_str, ← Go.ByteArray.toList_eq x, ← Go.ByteArray.toList_eq y]; rfl
attribute [go_sem high] b_seq b_sne
/-- The number of big-endian bytes. -/
def bnum (l : List UInt8) : Nat := l.foldl (fun n b => n * 256 + b.toNat) 0
theorem bnum_snoc (l : List UInt8) (b : UInt8) : bnum (l ++ [b]) = bnum l * 256 + b.toNat := by simp [bnum]
theorem bnum_lt : ∀ (n : Nat) (l : List UInt8), l.length = n → bnum l < 256 ^ n
  | 0, l, h => by obtain rfl := List.length_eq_zero_iff.1 h; simp [bnum]
  | n + 1, l, h => by
    have hne : l ≠ [] := by intro e; rw [e] at h; simp at h
    have e := List.dropLast_concat_getLast hne
    have ih := bnum_lt n l.dropLast (by simp [h])
    rw [← e, bnum_snoc, Nat.pow_succ]
    have := (l.getLast hne).toNat_lt
    omega
theorem ba_size (s : ByteArray) : s.size = s.data.toList.length := rfl
theorem ba_get (s : ByteArray) (k : Nat) (h : k < s.data.toList.length) : s[k]? = some s.data.toList[k] := by
  have h' : k < s.size := h
  rw [getElem?_pos s k h']
  rfl
end Go.Vl

namespace Go.Proofs.YtkgkebhlpjenaaaGreatDoor
open Go.Vl Go.RowKit Go.Dg

theorem trim_one {d : Nat} (h : d < E9) : trimZ [d] = digs E9 d := by
  rw [trimZ_eq E9_2 [d] (by simpa using h)]
  simp [val]
theorem rfrom_v (neg : Bool) (s : ByteArray) (hs : s.size ≤ 1000000) : SoundAt Tryz.prog 15 [.agg [.bool neg, .str s]] (rI (if neg then -(bnum s.data.toList : Int) else bnum s.data.toList)) := by
  rw [ba_size] at hs
  refine sound_go (tb := []) 26 [.cell 2 31] [0, 1, 2, 3, 4, 9] mixed Tryz.func15 rfl (by kernel_rfl) (by kernel_rfl) (by kernel_rfl) (by kernel_rfl) ?_
  simp -implicitDefEqProofs only [go_sem, Nat.reduceAdd, Nat.reduceMul, Nat.reduceEqDiff, Nat.reduceLT, Nat.reduceLeDiff, Nat.reduceSub, Nat.reduceBEq, reduceIte, reduceCtorEq, Int.reduceEq, Int.reduceNe, Nat.reduceBneDiff, Int.reduceLE, Int.reduceLT, Int.reduceToNat, Int.reduceAdd, Int.reduceSub, Int.reduceMul, Int.reduceNeg, T_ok3, T_agg3, T_isinfo3, T_info3, T_cells3, T_zero3, T_int3, T_ok4, T_agg4, T_isinfo4, T_info4, T_cells4, T_zero4, T_bool4, T_ok5, T_agg5, T_isinfo5, T_info5, T_cells5, T_zero5, T_int5, T_ok9, T_agg9, T_isinfo9, T_info9, T_cells9, T_zero9, T_str9, T_len9t, T_ok23, T_agg23, T_isinfo23, T_info23, T_cells23, T_zero23, T_build23, T_f23_0, T_p23_0, T_f23_1, T_p23_1, T_eqs23, T_ok29, T_agg29, T_isinfo29, T_info29, T_cells29, T_zero29, T_elem29, T_under29, T_len29s, T_len29n, T_len29b, T_ok31, T_agg31, T_isinfo31, T_info31, T_cells31, T_zero31, T_build31, T_f31_0, T_p31_0, T_f31_1, T_p31_1]
  generalize hl : s.data.toList = l at *
  refine g_loop mixed (fun k : { k : Nat // k ≤ l.length } => St.of [(1, .bp 0 2 0 0), (2, .bp 1 2 0 0), (3, di (digs E9 (bnum (l.take k.1)))), (4, .int .i64 (k.1 : Int))]
      [(0, { els := [.agg [.bool neg, .str s]], esz := 2, ety := 23, fro := 0, live := true, arr := false }), (1, { els := [.agg [.bool false, .nilS]], esz := 2, ety := 31, fro := 0, live := true, arr := false })]) (fun k => l.length - k.1) ⟨0, Nat.zero_le _⟩ ?_ ?_
  · refine Le.trans (le_slc0G 3 rfl) (le_of (θ := [(0, 0), (1, 1)]) rfl ?_ ?_)
    · simp [varsLe, lkp, ren1, ren0, di, bnum, digs_zero]
    · simp [boxesLe, lkp, Box.renames]
      exact ⟨⟨rfl, rfl⟩, rfl, rfl⟩
  · rintro ⟨k, hk⟩
    by_cases hlt : k < l.length
    · have h1 : ((k : Int) < (s.size : Int)) = True := by rw [ba_size, hl]; simp; omega
      have h0 : (0 ≤ (k : Int)) = True := by simp
      have hg : s[k]? = some l[k] := by rw [ba_get s k (by rw [hl]; exact hlt)]; simp only [hl]
      have hwk : IntKind.i64.wrap ((k : Int) + 1) = ((k + 1 : Nat) : Int) := by rw [wrap_i64 (by omega) (by omega)]; omega
      have hb : l[k].toNat < 256 := l[k].toNat_lt
      have hwb : IntKind.i64.wrap ((l[k].toNat : Nat) : Int) = ((l[k].toNat : Nat) : Int) := wrapn (by omega)
      have hnk := bnum_lt k (l.take k) (by simp; omega)
      have hL : (digs E9 (bnum (l.take k))).length ≤ k := (digs_len_le E9_2 _ _).2 (Nat.lt_of_lt_of_le hnk (Nat.pow_le_pow_left (by decide) k))
      have htk : l.take (k + 1) = l.take k ++ [l[k]] := by rw [List.take_add_one]; simp [hlt]
      have hnk1 := bnum_lt (k + 1) (l.take (k + 1)) (by simp; omega)
      have hL1 : (digs E9 (bnum (l.take (k + 1)))).length ≤ k + 1 := (digs_len_le E9_2 _ _).2 (Nat.lt_of_lt_of_le hnk1 (Nat.pow_le_pow_left (by decide) (k + 1)))
      rw [htk, bnum_snoc] at hL1
      simp -implicitDefEqProofs only [go_sem, Nat.reduceAdd, Nat.reduceMul, Nat.reduceEqDiff, Nat.reduceLT, Nat.reduceLeDiff, Nat.reduceSub, Nat.reduceBEq, reduceIte, reduceCtorEq, Int.reduceEq, Int.reduceNe, Nat.reduceBneDiff, Int.reduceLE, Int.reduceLT, Int.reduceToNat, Int.reduceAdd, Int.reduceSub, Int.reduceMul, Int.reduceNeg, T_ok3, T_agg3, T_isinfo3, T_info3, T_cells3, T_zero3, T_int3, T_ok4, T_agg4, T_isinfo4, T_info4, T_cells4, T_zero4, T_bool4, T_ok5, T_agg5, T_isinfo5, T_info5, T_cells5, T_zero5, T_int5, T_ok9, T_agg9, T_isinfo9, T_info9, T_cells9, T_zero9, T_str9, T_len9t, T_ok23, T_agg23, T_isinfo23, T_info23, T_cells23, T_zero23, T_build23, T_f23_0, T_p23_0, T_f23_1, T_p23_1, T_eqs23, T_ok29, T_agg29, T_isinfo29, T_info29, T_cells29, T_zero29, T_elem29, T_under29, T_len29s, T_len29n, T_len29b, T_ok31, T_agg31, T_isinfo31, T_info31, T_cells31, T_zero31, T_build31, T_f31_0, T_p31_0, T_f31_1, T_p31_1, di, h1]
      refine gcall_intro _ _ _ _ _ _ _ _ _ (rsmall_v (bnum (l.take k)) 256 (by decide) (by omega)) ?_
      simp -implicitDefEqProofs only [go_sem, Nat.reduceAdd, Nat.reduceMul, Nat.reduceEqDiff, Nat.reduceLT, Nat.reduceLeDiff, Nat.reduceSub, Nat.reduceBEq, reduceIte, reduceCtorEq, Int.reduceEq, Int.reduceNe, Nat.reduceBneDiff, Int.reduceLE, Int.reduceLT, Int.reduceToNat, Int.reduceAdd, Int.reduceSub, Int.reduceMul, Int.reduceNeg, T_ok3, T_agg3, T_isinfo3, T_info3, T_cells3, T_zero3, T_int3, T_ok4, T_agg4, T_isinfo4, T_info4, T_cells4, T_zero4, T_bool4, T_ok5, T_agg5, T_isinfo5, T_info5, T_cells5, T_zero5, T_int5, T_ok9, T_agg9, T_isinfo9, T_info9, T_cells9, T_zero9, T_str9, T_len9t, T_ok23, T_agg23, T_isinfo23, T_info23, T_cells23, T_zero23, T_build23, T_f23_0, T_p23_0, T_f23_1, T_p23_1, T_eqs23, T_ok29, T_agg29, T_isinfo29, T_info29, T_cells29, T_zero29, T_elem29, T_under29, T_len29s, T_len29n, T_len29b, T_ok31, T_agg31, T_isinfo31, T_info31, T_cells31, T_zero31, T_build31, T_f31_0, T_p31_0, T_f31_1, T_p31_1, di, h0, hg, Int.toNat_natCast, hwb]
      refine gcall_intro _ _ _ _ _ _ _ _ _ (rtrim_v [l[k].toNat] (by simp [maxLen])) ?_
      rw [trim_one (Nat.lt_trans hb (by decide))]
      simp -implicitDefEqProofs only [go_sem, Nat.reduceAdd, Nat.reduceMul, Nat.reduceEqDiff, Nat.reduceLT, Nat.reduceLeDiff, Nat.reduceSub, Nat.reduceBEq, reduceIte, reduceCtorEq, Int.reduceEq, Int.reduceNe, Nat.reduceBneDiff, Int.reduceLE, Int.reduceLT, Int.reduceToNat, Int.reduceAdd, Int.reduceSub, Int.reduceMul, Int.reduceNeg, T_ok3, T_agg3, T_isinfo3, T_info3, T_cells3, T_zero3, T_int3, T_ok4, T_agg4, T_isinfo4, T_info4, T_cells4, T_zero4, T_bool4, T_ok5, T_agg5, T_isinfo5, T_info5, T_cells5, T_zero5, T_int5, T_ok9, T_agg9, T_isinfo9, T_info9, T_cells9, T_zero9, T_str9, T_len9t, T_ok23, T_agg23, T_isinfo23, T_info23, T_cells23, T_zero23, T_build23, T_f23_0, T_p23_0, T_f23_1, T_p23_1, T_eqs23, T_ok29, T_agg29, T_isinfo29, T_info29, T_cells29, T_zero29, T_elem29, T_under29, T_len29s, T_len29n, T_len29b, T_ok31, T_agg31, T_isinfo31, T_info31, T_cells31, T_zero31, T_build31, T_f31_0, T_p31_0, T_f31_1, T_p31_1, di]
      refine gcall_intro _ _ _ _ _ _ _ _ _ (rplus_v (bnum (l.take k) * 256) l[k].toNat (by omega)) ?_
      simp -implicitDefEqProofs only [go_sem, Nat.reduceAdd, Nat.reduceMul, Nat.reduceEqDiff, Nat.reduceLT, Nat.reduceLeDiff, Nat.reduceSub, Nat.reduceBEq, reduceIte, reduceCtorEq, Int.reduceEq, Int.reduceNe, Nat.reduceBneDiff, Int.reduceLE, Int.reduceLT, Int.reduceToNat, Int.reduceAdd, Int.reduceSub, Int.reduceMul, Int.reduceNeg, T_ok3, T_agg3, T_isinfo3, T_info3, T_cells3, T_zero3, T_int3, T_ok4, T_agg4, T_isinfo4, T_info4, T_cells4, T_zero4, T_bool4, T_ok5, T_agg5, T_isinfo5, T_info5, T_cells5, T_zero5, T_int5, T_ok9, T_agg9, T_isinfo9, T_info9, T_cells9, T_zero9, T_str9, T_len9t, T_ok23, T_agg23, T_isinfo23, T_info23, T_cells23, T_zero23, T_build23, T_f23_0, T_p23_0, T_f23_1, T_p23_1, T_eqs23, T_ok29, T_agg29, T_isinfo29, T_info29, T_cells29, T_zero29, T_elem29, T_under29, T_len29s, T_len29n, T_len29b, T_ok31, T_agg31, T_isinfo31, T_info31, T_cells31, T_zero31, T_build31, T_f31_0, T_p31_0, T_f31_1, T_p31_1, di, hwk]
      refine ⟨drawQ_true _ _ (by kernel_rfl), ⟨k + 1, hlt⟩, by simp only; omega, ?_⟩
      refine le_of (θ := [(0, 0), (1, 1)]) rfl ?_ ?_
      · simp only [htk, bnum_snoc]
        simp [varsLe, lkp, ren1, ren0, di]
      · simp [boxesLe, lkp, Box.renames]
        exact ⟨⟨rfl, rfl⟩, rfl, rfl⟩
    · have h1 : ((k : Int) < (s.size : Int)) = False := by rw [ba_size, hl]; simp; omega
      have htk : l.take k = l := List.take_of_length_le (by omega)
      rw [htk]
      simp -implicitDefEqProofs only [go_sem, Nat.reduceAdd, Nat.reduceMul, Nat.reduceEqDiff, Nat.reduceLT, Nat.reduceLeDiff, Nat.reduceSub, Nat.reduceBEq, reduceIte, reduceCtorEq, Int.reduceEq, Int.reduceNe, Nat.reduceBneDiff, Int.reduceLE, Int.reduceLT, Int.reduceToNat, Int.reduceAdd, Int.reduceSub, Int.reduceMul, Int.reduceNeg, T_ok3, T_agg3, T_isinfo3, T_info3, T_cells3, T_zero3, T_int3, T_ok4, T_agg4, T_isinfo4, T_info4, T_cells4, T_zero4, T_bool4, T_ok5, T_agg5, T_isinfo5, T_info5, T_cells5, T_zero5, T_int5, T_ok9, T_agg9, T_isinfo9, T_info9, T_cells9, T_zero9, T_str9, T_len9t, T_ok23, T_agg23, T_isinfo23, T_info23, T_cells23, T_zero23, T_build23, T_f23_0, T_p23_0, T_f23_1, T_p23_1, T_eqs23, T_ok29, T_agg29, T_isinfo29, T_info29, T_cells29, T_zero29, T_elem29, T_under29, T_len29s, T_len29n, T_len29b, T_ok31, T_agg31, T_isinfo31, T_info31, T_cells31, T_zero31, T_build31, T_f31_0, T_p31_0, T_f31_1, T_p31_1, di, h1]
      skip
      refine gcall_intro _ _ _ _ _ _ _ _ _ (rmade_v neg (bnum l)) ?_
      simp -implicitDefEqProofs only [go_sem, Nat.reduceAdd, Nat.reduceMul, Nat.reduceEqDiff, Nat.reduceLT, Nat.reduceLeDiff, Nat.reduceSub, Nat.reduceBEq, reduceIte, reduceCtorEq, Int.reduceEq, Int.reduceNe, Nat.reduceBneDiff, Int.reduceLE, Int.reduceLT, Int.reduceToNat, Int.reduceAdd, Int.reduceSub, Int.reduceMul, Int.reduceNeg, T_ok3, T_agg3, T_isinfo3, T_info3, T_cells3, T_zero3, T_int3, T_ok4, T_agg4, T_isinfo4, T_info4, T_cells4, T_zero4, T_bool4, T_ok5, T_agg5, T_isinfo5, T_info5, T_cells5, T_zero5, T_int5, T_ok9, T_agg9, T_isinfo9, T_info9, T_cells9, T_zero9, T_str9, T_len9t, T_ok23, T_agg23, T_isinfo23, T_info23, T_cells23, T_zero23, T_build23, T_f23_0, T_p23_0, T_f23_1, T_p23_1, T_eqs23, T_ok29, T_agg29, T_isinfo29, T_info29, T_cells29, T_zero29, T_elem29, T_under29, T_len29s, T_len29n, T_len29b, T_ok31, T_agg31, T_isinfo31, T_info31, T_cells31, T_zero31, T_build31, T_f31_0, T_p31_0, T_f31_1, T_p31_1, rI, di]
end Go.Proofs.YtkgkebhlpjenaaaGreatDoor

namespace Go.Proofs.YtkgkebhlpjenaaaGreatDoor
open Go.Vl Go.RowKit Go.Dg

theorem trimZ_prefix (l : List Nat) : trimZ l = l.take (trimZ l).length := by
  unfold trimZ
  have h : (l.reverse.dropWhile (· == 0)).reverse <+: l := by
    have := List.dropWhile_suffix (l := l.reverse) (· == 0)
    have := List.reverse_prefix.2 this
    simpa using this
  exact List.prefix_iff_eq_take.1 h
abbrev rB (E : List Nat) : Box := { els := E.map fI, esz := 1, ety := 3, fro := 0, live := true, arr := true }
theorem rtrimB_v (E : List Nat) (n : Nat) (hn : n ≤ E.length) (hE : E.length ≤ maxLen) :
    SoundB Tryz.prog 69 [.bs 1000000 1 0 n] [(1000000, rB E)] (.bs 1000000 1 0 (trimZ (E.take n)).length) [(1000000, rB E)] := by
  have hm := maxLen_lt
  refine soundB_go (tb := []) 21 [.tmp 2] [0, 2, 14] mixed Tryz.func69 rfl (by kernel_rfl) (by kernel_rfl) (by kernel_rfl) (by kernel_rfl) (by rfl) ?_
  simp -implicitDefEqProofs only [go_sem, Nat.reduceAdd, Nat.reduceMul, Nat.reduceEqDiff, Nat.reduceLT, Nat.reduceLeDiff, Nat.reduceSub, Nat.reduceBEq, reduceIte, reduceCtorEq, Int.reduceEq, Int.reduceNe, Nat.reduceBneDiff, Int.reduceLE, Int.reduceLT, Int.reduceToNat, Int.reduceAdd, Int.reduceSub, Int.reduceMul, Int.reduceNeg, T_ok3, T_agg3, T_isinfo3, T_info3, T_cells3, T_zero3, T_int3, T_ok29, T_agg29, T_isinfo29, T_info29, T_cells29, T_zero29, T_elem29, T_under29, T_len29s, T_len29n, T_len29b]
  refine g_loop mixed (fun k : { k : Nat // k ≤ n ∧ trimZ (E.take k) = trimZ (E.take n) } => St.of [(0, .bs 1000000 1 0 k.1), (2, .nilS)] [(1000000, rB E)]) (fun k => k.1) ⟨n, Nat.le_refl _, rfl⟩ ?_ ?_
  · refine le_of (θ := [(1000000, 1000000)]) rfl ?_ ?_
    · simp [varsLe, lkp, ren1, ren0]
    · simp [boxesLe, lkp, Box.renames]
  · rintro ⟨k, hk, ht⟩
    cases k with
    | zero =>
      have h1 : ((0 : Int) < ((0 : Nat) : Int)) = False := by simp
      simp -implicitDefEqProofs only [go_sem, Nat.reduceAdd, Nat.reduceMul, Nat.reduceEqDiff, Nat.reduceLT, Nat.reduceLeDiff, Nat.reduceSub, Nat.reduceBEq, reduceIte, reduceCtorEq, Int.reduceEq, Int.reduceNe, Nat.reduceBneDiff, Int.reduceLE, Int.reduceLT, Int.reduceToNat, Int.reduceAdd, Int.reduceSub, Int.reduceMul, Int.reduceNeg, T_ok3, T_agg3, T_isinfo3, T_info3, T_cells3, T_zero3, T_int3, T_ok29, T_agg29, T_isinfo29, T_info29, T_cells29, T_zero29, T_elem29, T_under29, T_len29s, T_len29n, T_len29b, h1]
      rw [← ht]
      refine vretB_back (.inl rfl) ?_
      simp -implicitDefEqProofs only [go_sem, Nat.reduceAdd, Nat.reduceMul, Nat.reduceEqDiff, Nat.reduceLT, Nat.reduceLeDiff, Nat.reduceSub, Nat.reduceBEq, reduceIte, reduceCtorEq, Int.reduceEq, Int.reduceNe, Nat.reduceBneDiff, Int.reduceLE, Int.reduceLT, Int.reduceToNat, Int.reduceAdd, Int.reduceSub, Int.reduceMul, Int.reduceNeg, T_ok3, T_agg3, T_isinfo3, T_info3, T_cells3, T_zero3, T_int3, T_ok29, T_agg29, T_isinfo29, T_info29, T_cells29, T_zero29, T_elem29, T_under29, T_len29s, T_len29n, T_len29b]
      refine le_of (θ := [(1000000, 1000000)]) rfl ?_ ?_
      · simp [varsLe, lkp, ren1, ren0, trimZ]
      · simp [boxesLe, lkp, Box.renames]
    | succ k =>
      have h1 : ((0 : Int) < ((k + 1 : Nat) : Int)) = True := by simp
      have h2 : (0 ≤ (k : Int)) = True := by simp
      have hw := wrap_sub1 (n := k) (by omega)
      have hlt : k < E.length := by omega
      have hget : (E.map fI)[k]? = some (.int .i64 (E[k] : Int)) := by simp [hlt]
      have hcut : E.take (k + 1) = E.take k ++ [E[k]] := by rw [List.take_add_one]; simp [hlt]
      have h4 : ((k : Int) < ((k + 1 : Nat) : Int)) = True := by simp; omega
      cases hd : ((E[k] : Int) == 0) with
      | true =>
        have hd0 : E[k] = 0 := by simpa using hd
        have h3 : ((k : Int) ≤ ((k + 1 : Nat) : Int)) = True := by simp; omega
        simp -implicitDefEqProofs only [go_sem, Nat.reduceAdd, Nat.reduceMul, Nat.reduceEqDiff, Nat.reduceLT, Nat.reduceLeDiff, Nat.reduceSub, Nat.reduceBEq, reduceIte, reduceCtorEq, Int.reduceEq, Int.reduceNe, Nat.reduceBneDiff, Int.reduceLE, Int.reduceLT, Int.reduceToNat, Int.reduceAdd, Int.reduceSub, Int.reduceMul, Int.reduceNeg, T_ok3, T_agg3, T_isinfo3, T_info3, T_cells3, T_zero3, T_int3, T_ok29, T_agg29, T_isinfo29, T_info29, T_cells29, T_zero29, T_elem29, T_under29, T_len29s, T_len29n, T_len29b, h1, h2, hw, hget, hd, Int.toNat_natCast, h3, h4, rB]
        refine ⟨⟨k, by omega, ?_⟩, by simp, ?_⟩
        · rw [← ht, hcut, hd0, trimZ_snoc_zero]
        · refine le_of (θ := [(1000000, 1000000)]) rfl ?_ ?_
          · simp [varsLe, lkp, ren1, ren0]
          · simp [boxesLe, lkp, Box.renames]
      | false =>
        have hd0 : E[k] ≠ 0 := by simpa using hd
        simp -implicitDefEqProofs only [go_sem, Nat.reduceAdd, Nat.reduceMul, Nat.reduceEqDiff, Nat.reduceLT, Nat.reduceLeDiff, Nat.reduceSub, Nat.reduceBEq, reduceIte, reduceCtorEq, Int.reduceEq, Int.reduceNe, Nat.reduceBneDiff, Int.reduceLE, Int.reduceLT, Int.reduceToNat, Int.reduceAdd, Int.reduceSub, Int.reduceMul, Int.reduceNeg, T_ok3, T_agg3, T_isinfo3, T_info3, T_cells3, T_zero3, T_int3, T_ok29, T_agg29, T_isinfo29, T_info29, T_cells29, T_zero29, T_elem29, T_under29, T_len29s, T_len29n, T_len29b, h1, h2, hw, hget, hd, Int.toNat_natCast, h4, rB]
        rw [← ht, hcut, trimZ_snoc _ hd0]
        refine vretB_back (.inl rfl) ?_
        simp -implicitDefEqProofs only [go_sem, Nat.reduceAdd, Nat.reduceMul, Nat.reduceEqDiff, Nat.reduceLT, Nat.reduceLeDiff, Nat.reduceSub, Nat.reduceBEq, reduceIte, reduceCtorEq, Int.reduceEq, Int.reduceNe, Nat.reduceBneDiff, Int.reduceLE, Int.reduceLT, Int.reduceToNat, Int.reduceAdd, Int.reduceSub, Int.reduceMul, Int.reduceNeg, T_ok3, T_agg3, T_isinfo3, T_info3, T_cells3, T_zero3, T_int3, T_ok29, T_agg29, T_isinfo29, T_info29, T_cells29, T_zero29, T_elem29, T_under29, T_len29s, T_len29n, T_len29b]
        refine le_of (θ := [(1000000, 1000000)]) rfl ?_ ?_
        · simp [varsLe, lkp, ren1, ren0]; omega
        · simp [boxesLe, lkp, Box.renames]
end Go.Proofs.YtkgkebhlpjenaaaGreatDoor

namespace Go.Dg
variable {B : Nat}

theorem byte_step (v A x : Nat) (b : Nat) (hx : x < b) (h : v = A * b + x) : (A % 256 * b + x) / 256 = v / 256 % b ∧ (A % 256 * b + x) % 256 = v % 256 := by
  subst h
  have e : A * b + x = (A / 256 * b) * 256 + (A % 256 * b + x) := by
    have : A = A / 256 * 256 + A % 256 := by omega
    conv => lhs; rw [this]
    rw [Nat.add_mul, Nat.mul_right_comm]
    omega
  have hr : A % 256 * b + x < 256 * b := by
    have h1 : A % 256 ≤ 255 := by omega
    have := Nat.mul_le_mul_right b h1
    omega
  rw [e]
  generalize hR : A % 256 * b + x = R at *
  constructor
  · rw [Nat.add_comm, Nat.add_mul_div_right _ _ (by decide), Nat.add_comm, Nat.mul_comm (A / 256) b, Nat.mul_add_mod]
    exact (Nat.mod_eq_of_lt (Nat.div_lt_of_lt_mul hr)).symm
  · omega
theorem div_swap (v i : Nat) : v / 256 / B ^ i = v / B ^ i / 256 := by rw [Nat.div_div_eq_div_mul, Nat.mul_comm, ← Nat.div_div_eq_div_mul]
theorem mix_down {V S N i d : Nat} (hi : i < N) (hd : S / B ^ i % B = d) : (mix B V S N (i + 1)).set i d = mix B V S N i := by
  apply List.ext_getElem?
  intro j
  rw [List.getElem?_set]
  by_cases hj : j < N
  · rw [mix_get _ _ _ _ _ hj, mix_get _ _ _ _ _ hj, mix_length]
    by_cases e : i = j
    · subst e; simp [hj, hd]
    · simp only [e, if_false]
      by_cases hlt : j < i
      · rw [if_pos (by omega), if_pos hlt]
      · rw [if_neg (by omega), if_neg hlt]
  · rw [List.getElem?_eq_none (by rw [mix_length]; omega), List.getElem?_eq_none (by rw [mix_length]; omega), mix_length]
    simp; omega
theorem lows_take (v N n : Nat) (h : n ≤ N) : (lows B v N).take n = lows B v n := by
  apply List.ext_getElem?
  intro j
  by_cases hj : j < n
  · rw [List.getElem?_take_of_lt hj, lows_get _ _ _ (by omega), lows_get _ _ _ hj]
  · rw [List.getElem?_eq_none (by rw [List.length_take, lows_length]; omega), List.getElem?_eq_none (by rw [lows_length]; omega)]
end Go.Dg
