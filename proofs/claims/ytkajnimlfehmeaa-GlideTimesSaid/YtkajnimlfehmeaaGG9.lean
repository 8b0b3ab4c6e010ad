/-
  GA6, GG8, Bw, GG9 (merged for the claim).
-/
import Derived.Test.YtkajnimlfehmeaaGA5
import Derived.Test.YtkajnimlfehmeaaUW
import Derived.Test.YtkajnimlfehmeaaDg
set_option linter.unusedSimpArgs false
set_option linter.unusedVariables false
namespace Go.Proofs.Ytkajnimlfehmeaa
open Go.Vl Go.RowKit Go.Dg

theorem L_mono {a b : Nat} (h : a ≤ b) : (digs E9 a).length ≤ (digs E9 b).length :=
  (digs_len_le E9_2 a _).2 (Nat.lt_of_le_of_lt h (lt_pow_len E9_2 b))
theorem L_pos {m : Nat} (h : m ≠ 0) : 0 < (digs E9 m).length := List.length_pos_iff.2 (mt (digs_eq_nil E9_2).1 h)

theorem rneg_v (n : Int) : SoundAt Try.prog 59 [rI n] (rI (-n)) := by
  refine sound_go (tb := []) 9 [.cell 2 74] [0, 1, 2] mixed Try.func59 rfl (by kernel_rfl) (by kernel_rfl) (by kernel_rfl) (by kernel_rfl) ?_
  simp -implicitDefEqProofs only [go_sem, Nat.reduceAdd, Nat.reduceMul, Nat.reduceEqDiff, Nat.reduceLT, Nat.reduceLeDiff, Nat.reduceSub, Nat.reduceBEq, reduceIte, reduceCtorEq, Int.reduceEq, Int.reduceNe, Nat.reduceBneDiff, Int.reduceLE, Int.reduceLT, Int.reduceToNat, Int.reduceAdd, Int.reduceSub, Int.reduceMul, Int.reduceNeg, T_ok3, T_agg3, T_isinfo3, T_info3, T_cells3, T_zero3, T_int3, T_ok4, T_agg4, T_isinfo4, T_info4, T_cells4, T_zero4, T_bool4, T_ok36, T_agg36, T_isinfo36, T_info36, T_cells36, T_zero36, T_elem36, T_under36, T_len36s, T_len36n, T_len36b, T_ok74, T_agg74, T_isinfo74, T_info74, T_cells74, T_zero74, T_build74, T_f74_0, T_p74_0, T_f74_1, T_p74_1, rI, di]
  refine gcall_intro _ _ _ _ _ _ _ _ _ (rmade_v _ n.natAbs) ?_
  have e : (if (!decide (n < 0)) = true then -(n.natAbs : Int) else (n.natAbs : Int)) = -n := by
    by_cases h : n < 0
    · simp [h]; omega
    · simp [h]; omega
  rw [e]
  simp -implicitDefEqProofs only [go_sem, Nat.reduceAdd, Nat.reduceMul, Nat.reduceEqDiff, Nat.reduceLT, Nat.reduceLeDiff, Nat.reduceSub, Nat.reduceBEq, reduceIte, reduceCtorEq, Int.reduceEq, Int.reduceNe, Nat.reduceBneDiff, Int.reduceLE, Int.reduceLT, Int.reduceToNat, Int.reduceAdd, Int.reduceSub, Int.reduceMul, Int.reduceNeg, T_ok3, T_agg3, T_isinfo3, T_info3, T_cells3, T_zero3, T_int3, T_ok4, T_agg4, T_isinfo4, T_info4, T_cells4, T_zero4, T_bool4, T_ok36, T_agg36, T_isinfo36, T_info36, T_cells36, T_zero36, T_elem36, T_under36, T_len36s, T_len36n, T_len36b, T_ok74, T_agg74, T_isinfo74, T_info74, T_cells74, T_zero74, T_build74, T_f74_0, T_p74_0, T_f74_1, T_p74_1, rI, di]

theorem rsign_v (n : Int) : SoundAt Try.prog 54 [rI n] (.int .i64 n.sign) := by
  refine sound_go (tb := []) 9 [.tmp 2] [0, 1, 2, 6, 8] mixed Try.func54 rfl (by kernel_rfl) (by kernel_rfl) (by kernel_rfl) (by kernel_rfl) ?_
  by_cases h0 : n = 0
  · subst h0
    have hz : (((0 : Nat) : Int) == 0) = true := rfl
    simp -implicitDefEqProofs only [go_sem, Nat.reduceAdd, Nat.reduceMul, Nat.reduceEqDiff, Nat.reduceLT, Nat.reduceLeDiff, Nat.reduceSub, Nat.reduceBEq, reduceIte, reduceCtorEq, Int.reduceEq, Int.reduceNe, Nat.reduceBneDiff, Int.reduceLE, Int.reduceLT, Int.reduceToNat, Int.reduceAdd, Int.reduceSub, Int.reduceMul, Int.reduceNeg, T_ok3, T_agg3, T_isinfo3, T_info3, T_cells3, T_zero3, T_int3, T_ok4, T_agg4, T_isinfo4, T_info4, T_cells4, T_zero4, T_bool4, T_ok36, T_agg36, T_isinfo36, T_info36, T_cells36, T_zero36, T_elem36, T_under36, T_len36s, T_len36n, T_len36b, T_ok74, T_agg74, T_isinfo74, T_info74, T_cells74, T_zero74, T_build74, T_f74_0, T_p74_0, T_f74_1, T_p74_1, rI, di, Int.natAbs_zero, digs_zero, List.map_nil, List.length_nil, hz]
    rfl
  · have h1 : (((digs E9 n.natAbs).length : Int) == 0) = false := by
      have := L_pos (show n.natAbs ≠ 0 by omega)
      simp only [beq_eq_false_iff_ne, ne_eq]; omega
    by_cases h : n < 0
    · have hd : decide (n < 0) = true := by simp [h]
      simp -implicitDefEqProofs only [go_sem, Nat.reduceAdd, Nat.reduceMul, Nat.reduceEqDiff, Nat.reduceLT, Nat.reduceLeDiff, Nat.reduceSub, Nat.reduceBEq, reduceIte, reduceCtorEq, Int.reduceEq, Int.reduceNe, Nat.reduceBneDiff, Int.reduceLE, Int.reduceLT, Int.reduceToNat, Int.reduceAdd, Int.reduceSub, Int.reduceMul, Int.reduceNeg, T_ok3, T_agg3, T_isinfo3, T_info3, T_cells3, T_zero3, T_int3, T_ok4, T_agg4, T_isinfo4, T_info4, T_cells4, T_zero4, T_bool4, T_ok36, T_agg36, T_isinfo36, T_info36, T_cells36, T_zero36, T_elem36, T_under36, T_len36s, T_len36n, T_len36b, T_ok74, T_agg74, T_isinfo74, T_info74, T_cells74, T_zero74, T_build74, T_f74_0, T_p74_0, T_f74_1, T_p74_1, rI, di, List.length_map, h1, hd]
      rw [Int.sign_eq_neg_one_of_neg h]
    · have hd : decide (n < 0) = false := by simp [h]
      simp -implicitDefEqProofs only [go_sem, Nat.reduceAdd, Nat.reduceMul, Nat.reduceEqDiff, Nat.reduceLT, Nat.reduceLeDiff, Nat.reduceSub, Nat.reduceBEq, reduceIte, reduceCtorEq, Int.reduceEq, Int.reduceNe, Nat.reduceBneDiff, Int.reduceLE, Int.reduceLT, Int.reduceToNat, Int.reduceAdd, Int.reduceSub, Int.reduceMul, Int.reduceNeg, T_ok3, T_agg3, T_isinfo3, T_info3, T_cells3, T_zero3, T_int3, T_ok4, T_agg4, T_isinfo4, T_info4, T_cells4, T_zero4, T_bool4, T_ok36, T_agg36, T_isinfo36, T_info36, T_cells36, T_zero36, T_elem36, T_under36, T_len36s, T_len36n, T_len36b, T_ok74, T_agg74, T_isinfo74, T_info74, T_cells74, T_zero74, T_build74, T_f74_0, T_p74_0, T_f74_1, T_p74_1, rI, di, List.length_map, h1, hd]
      rw [Int.sign_eq_one_of_pos (by omega)]

theorem radd_v (x y : Int) (hl : (digs E9 (x.natAbs + y.natAbs)).length ≤ 1000000000) : SoundAt Try.prog 58 [rI x, rI y] (rI (x + y)) := by
  have hx : (digs E9 x.natAbs).length ≤ 1000000000 := Nat.le_trans (L_mono (Nat.le_add_right _ _)) hl
  have hy : (digs E9 y.natAbs).length ≤ 1000000000 := Nat.le_trans (L_mono (Nat.le_add_left _ _)) hl
  refine sound_go (tb := []) 40 [.cell 4 74] [0, 1, 2, 3, 4, 9, 23] mixed Try.func58 rfl (by kernel_rfl) (by kernel_rfl) (by kernel_rfl) (by kernel_rfl) ?_
  cases hs : (decide (x < 0) == decide (y < 0)) with
  | true =>
    simp -implicitDefEqProofs only [go_sem, Nat.reduceAdd, Nat.reduceMul, Nat.reduceEqDiff, Nat.reduceLT, Nat.reduceLeDiff, Nat.reduceSub, Nat.reduceBEq, reduceIte, reduceCtorEq, Int.reduceEq, Int.reduceNe, Nat.reduceBneDiff, Int.reduceLE, Int.reduceLT, Int.reduceToNat, Int.reduceAdd, Int.reduceSub, Int.reduceMul, Int.reduceNeg, T_ok3, T_agg3, T_isinfo3, T_info3, T_cells3, T_zero3, T_int3, T_ok4, T_agg4, T_isinfo4, T_info4, T_cells4, T_zero4, T_bool4, T_ok36, T_agg36, T_isinfo36, T_info36, T_cells36, T_zero36, T_elem36, T_under36, T_len36s, T_len36n, T_len36b, T_ok74, T_agg74, T_isinfo74, T_info74, T_cells74, T_zero74, T_build74, T_f74_0, T_p74_0, T_f74_1, T_p74_1, rI, di, hs]
    refine gcall_intro _ _ _ _ _ _ _ _ _ (rplus_v _ _ hl) ?_
    simp -implicitDefEqProofs only [go_sem, Nat.reduceAdd, Nat.reduceMul, Nat.reduceEqDiff, Nat.reduceLT, Nat.reduceLeDiff, Nat.reduceSub, Nat.reduceBEq, reduceIte, reduceCtorEq, Int.reduceEq, Int.reduceNe, Nat.reduceBneDiff, Int.reduceLE, Int.reduceLT, Int.reduceToNat, Int.reduceAdd, Int.reduceSub, Int.reduceMul, Int.reduceNeg, T_ok3, T_agg3, T_isinfo3, T_info3, T_cells3, T_zero3, T_int3, T_ok4, T_agg4, T_isinfo4, T_info4, T_cells4, T_zero4, T_bool4, T_ok36, T_agg36, T_isinfo36, T_info36, T_cells36, T_zero36, T_elem36, T_under36, T_len36s, T_len36n, T_len36b, T_ok74, T_agg74, T_isinfo74, T_info74, T_cells74, T_zero74, T_build74, T_f74_0, T_p74_0, T_f74_1, T_p74_1, rI, di]
    refine gcall_intro _ _ _ _ _ _ _ _ _ (rmade_v _ _) ?_
    have e : (if decide (x < 0) = true then -((x.natAbs + y.natAbs : Nat) : Int) else ((x.natAbs + y.natAbs : Nat) : Int)) = x + y := by
      by_cases h : x < 0 <;> by_cases h' : y < 0 <;> simp [h, h'] at hs ⊢ <;> omega
    rw [e]
    simp -implicitDefEqProofs only [go_sem, Nat.reduceAdd, Nat.reduceMul, Nat.reduceEqDiff, Nat.reduceLT, Nat.reduceLeDiff, Nat.reduceSub, Nat.reduceBEq, reduceIte, reduceCtorEq, Int.reduceEq, Int.reduceNe, Nat.reduceBneDiff, Int.reduceLE, Int.reduceLT, Int.reduceToNat, Int.reduceAdd, Int.reduceSub, Int.reduceMul, Int.reduceNeg, T_ok3, T_agg3, T_isinfo3, T_info3, T_cells3, T_zero3, T_int3, T_ok4, T_agg4, T_isinfo4, T_info4, T_cells4, T_zero4, T_bool4, T_ok36, T_agg36, T_isinfo36, T_info36, T_cells36, T_zero36, T_elem36, T_under36, T_len36s, T_len36n, T_len36b, T_ok74, T_agg74, T_isinfo74, T_info74, T_cells74, T_zero74, T_build74, T_f74_0, T_p74_0, T_f74_1, T_p74_1, rI, di]
    exact drawQ_true _ _ (by kernel_rfl)
  | false =>
    simp -implicitDefEqProofs only [go_sem, Nat.reduceAdd, Nat.reduceMul, Nat.reduceEqDiff, Nat.reduceLT, Nat.reduceLeDiff, Nat.reduceSub, Nat.reduceBEq, reduceIte, reduceCtorEq, Int.reduceEq, Int.reduceNe, Nat.reduceBneDiff, Int.reduceLE, Int.reduceLT, Int.reduceToNat, Int.reduceAdd, Int.reduceSub, Int.reduceMul, Int.reduceNeg, T_ok3, T_agg3, T_isinfo3, T_info3, T_cells3, T_zero3, T_int3, T_ok4, T_agg4, T_isinfo4, T_info4, T_cells4, T_zero4, T_bool4, T_ok36, T_agg36, T_isinfo36, T_info36, T_cells36, T_zero36, T_elem36, T_under36, T_len36s, T_len36n, T_len36b, T_ok74, T_agg74, T_isinfo74, T_info74, T_cells74, T_zero74, T_build74, T_f74_0, T_p74_0, T_f74_1, T_p74_1, rI, di, hs]
    refine gcall_intro _ _ _ _ _ _ _ _ _ (rorder_v _ _ hx) ?_
    by_cases hc : y.natAbs ≤ x.natAbs
    · have hc' : (0 ≤ cmpN x.natAbs y.natAbs) = True := by simp [cmpN]; omega
      simp -implicitDefEqProofs only [go_sem, Nat.reduceAdd, Nat.reduceMul, Nat.reduceEqDiff, Nat.reduceLT, Nat.reduceLeDiff, Nat.reduceSub, Nat.reduceBEq, reduceIte, reduceCtorEq, Int.reduceEq, Int.reduceNe, Nat.reduceBneDiff, Int.reduceLE, Int.reduceLT, Int.reduceToNat, Int.reduceAdd, Int.reduceSub, Int.reduceMul, Int.reduceNeg, T_ok3, T_agg3, T_isinfo3, T_info3, T_cells3, T_zero3, T_int3, T_ok4, T_agg4, T_isinfo4, T_info4, T_cells4, T_zero4, T_bool4, T_ok36, T_agg36, T_isinfo36, T_info36, T_cells36, T_zero36, T_elem36, T_under36, T_len36s, T_len36n, T_len36b, T_ok74, T_agg74, T_isinfo74, T_info74, T_cells74, T_zero74, T_build74, T_f74_0, T_p74_0, T_f74_1, T_p74_1, hc']
      refine gcall_intro _ _ _ _ _ _ _ _ _ (rminus_v _ _ hc hx) ?_
      simp -implicitDefEqProofs only [go_sem, Nat.reduceAdd, Nat.reduceMul, Nat.reduceEqDiff, Nat.reduceLT, Nat.reduceLeDiff, Nat.reduceSub, Nat.reduceBEq, reduceIte, reduceCtorEq, Int.reduceEq, Int.reduceNe, Nat.reduceBneDiff, Int.reduceLE, Int.reduceLT, Int.reduceToNat, Int.reduceAdd, Int.reduceSub, Int.reduceMul, Int.reduceNeg, T_ok3, T_agg3, T_isinfo3, T_info3, T_cells3, T_zero3, T_int3, T_ok4, T_agg4, T_isinfo4, T_info4, T_cells4, T_zero4, T_bool4, T_ok36, T_agg36, T_isinfo36, T_info36, T_cells36, T_zero36, T_elem36, T_under36, T_len36s, T_len36n, T_len36b, T_ok74, T_agg74, T_isinfo74, T_info74, T_cells74, T_zero74, T_build74, T_f74_0, T_p74_0, T_f74_1, T_p74_1, di]
      refine gcall_intro _ _ _ _ _ _ _ _ _ (rmade_v _ _) ?_
      have e : (if decide (x < 0) = true then -((x.natAbs - y.natAbs : Nat) : Int) else ((x.natAbs - y.natAbs : Nat) : Int)) = x + y := by
        by_cases h : x < 0 <;> by_cases h' : y < 0 <;> simp [h, h'] at hs ⊢ <;> omega
      rw [e]
      simp -implicitDefEqProofs only [go_sem, Nat.reduceAdd, Nat.reduceMul, Nat.reduceEqDiff, Nat.reduceLT, Nat.reduceLeDiff, Nat.reduceSub, Nat.reduceBEq, reduceIte, reduceCtorEq, Int.reduceEq, Int.reduceNe, Nat.reduceBneDiff, Int.reduceLE, Int.reduceLT, Int.reduceToNat, Int.reduceAdd, Int.reduceSub, Int.reduceMul, Int.reduceNeg, T_ok3, T_agg3, T_isinfo3, T_info3, T_cells3, T_zero3, T_int3, T_ok4, T_agg4, T_isinfo4, T_info4, T_cells4, T_zero4, T_bool4, T_ok36, T_agg36, T_isinfo36, T_info36, T_cells36, T_zero36, T_elem36, T_under36, T_len36s, T_len36n, T_len36b, T_ok74, T_agg74, T_isinfo74, T_info74, T_cells74, T_zero74, T_build74, T_f74_0, T_p74_0, T_f74_1, T_p74_1, rI, di]
      exact drawQ_true _ _ (by kernel_rfl)
    · have hc' : (0 ≤ cmpN x.natAbs y.natAbs) = False := by simp [cmpN]; omega
      simp -implicitDefEqProofs only [go_sem, Nat.reduceAdd, Nat.reduceMul, Nat.reduceEqDiff, Nat.reduceLT, Nat.reduceLeDiff, Nat.reduceSub, Nat.reduceBEq, reduceIte, reduceCtorEq, Int.reduceEq, Int.reduceNe, Nat.reduceBneDiff, Int.reduceLE, Int.reduceLT, Int.reduceToNat, Int.reduceAdd, Int.reduceSub, Int.reduceMul, Int.reduceNeg, T_ok3, T_agg3, T_isinfo3, T_info3, T_cells3, T_zero3, T_int3, T_ok4, T_agg4, T_isinfo4, T_info4, T_cells4, T_zero4, T_bool4, T_ok36, T_agg36, T_isinfo36, T_info36, T_cells36, T_zero36, T_elem36, T_under36, T_len36s, T_len36n, T_len36b, T_ok74, T_agg74, T_isinfo74, T_info74, T_cells74, T_zero74, T_build74, T_f74_0, T_p74_0, T_f74_1, T_p74_1, hc']
      refine gcall_intro _ _ _ _ _ _ _ _ _ (rminus_v _ _ (Nat.le_of_lt (Nat.lt_of_not_le hc)) hy) ?_
      simp -implicitDefEqProofs only [go_sem, Nat.reduceAdd, Nat.reduceMul, Nat.reduceEqDiff, Nat.reduceLT, Nat.reduceLeDiff, Nat.reduceSub, Nat.reduceBEq, reduceIte, reduceCtorEq, Int.reduceEq, Int.reduceNe, Nat.reduceBneDiff, Int.reduceLE, Int.reduceLT, Int.reduceToNat, Int.reduceAdd, Int.reduceSub, Int.reduceMul, Int.reduceNeg, T_ok3, T_agg3, T_isinfo3, T_info3, T_cells3, T_zero3, T_int3, T_ok4, T_agg4, T_isinfo4, T_info4, T_cells4, T_zero4, T_bool4, T_ok36, T_agg36, T_isinfo36, T_info36, T_cells36, T_zero36, T_elem36, T_under36, T_len36s, T_len36n, T_len36b, T_ok74, T_agg74, T_isinfo74, T_info74, T_cells74, T_zero74, T_build74, T_f74_0, T_p74_0, T_f74_1, T_p74_1, di]
      refine gcall_intro _ _ _ _ _ _ _ _ _ (rmade_v _ _) ?_
      have e : (if decide (y < 0) = true then -((y.natAbs - x.natAbs : Nat) : Int) else ((y.natAbs - x.natAbs : Nat) : Int)) = x + y := by
        by_cases h : x < 0 <;> by_cases h' : y < 0 <;> simp [h, h'] at hs ⊢ <;> omega
      rw [e]
      simp -implicitDefEqProofs only [go_sem, Nat.reduceAdd, Nat.reduceMul, Nat.reduceEqDiff, Nat.reduceLT, Nat.reduceLeDiff, Nat.reduceSub, Nat.reduceBEq, reduceIte, reduceCtorEq, Int.reduceEq, Int.reduceNe, Nat.reduceBneDiff, Int.reduceLE, Int.reduceLT, Int.reduceToNat, Int.reduceAdd, Int.reduceSub, Int.reduceMul, Int.reduceNeg, T_ok3, T_agg3, T_isinfo3, T_info3, T_cells3, T_zero3, T_int3, T_ok4, T_agg4, T_isinfo4, T_info4, T_cells4, T_zero4, T_bool4, T_ok36, T_agg36, T_isinfo36, T_info36, T_cells36, T_zero36, T_elem36, T_under36, T_len36s, T_len36n, T_len36b, T_ok74, T_agg74, T_isinfo74, T_info74, T_cells74, T_zero74, T_build74, T_f74_0, T_p74_0, T_f74_1, T_p74_1, rI, di]
      exact drawQ_true _ _ (by kernel_rfl)

theorem rsub_v (x y : Int) (hl : (digs E9 (x.natAbs + y.natAbs)).length ≤ 1000000000) : SoundAt Try.prog 52 [rI x, rI y] (rI (x - y)) := by
  refine sound_go (tb := []) 9 [.cell 4 74] [0, 1, 2, 3, 4] mixed Try.func52 rfl (by kernel_rfl) (by kernel_rfl) (by kernel_rfl) (by kernel_rfl) ?_
  simp -implicitDefEqProofs only [go_sem, Nat.reduceAdd, Nat.reduceMul, Nat.reduceEqDiff, Nat.reduceLT, Nat.reduceLeDiff, Nat.reduceSub, Nat.reduceBEq, reduceIte, reduceCtorEq, Int.reduceEq, Int.reduceNe, Nat.reduceBneDiff, Int.reduceLE, Int.reduceLT, Int.reduceToNat, Int.reduceAdd, Int.reduceSub, Int.reduceMul, Int.reduceNeg, T_ok3, T_agg3, T_isinfo3, T_info3, T_cells3, T_zero3, T_int3, T_ok4, T_agg4, T_isinfo4, T_info4, T_cells4, T_zero4, T_bool4, T_ok36, T_agg36, T_isinfo36, T_info36, T_cells36, T_zero36, T_elem36, T_under36, T_len36s, T_len36n, T_len36b, T_ok74, T_agg74, T_isinfo74, T_info74, T_cells74, T_zero74, T_build74, T_f74_0, T_p74_0, T_f74_1, T_p74_1, rI, di]
  refine gcall_intro _ _ _ _ _ _ _ _ _ (rneg_v y) ?_
  simp -implicitDefEqProofs only [go_sem, Nat.reduceAdd, Nat.reduceMul, Nat.reduceEqDiff, Nat.reduceLT, Nat.reduceLeDiff, Nat.reduceSub, Nat.reduceBEq, reduceIte, reduceCtorEq, Int.reduceEq, Int.reduceNe, Nat.reduceBneDiff, Int.reduceLE, Int.reduceLT, Int.reduceToNat, Int.reduceAdd, Int.reduceSub, Int.reduceMul, Int.reduceNeg, T_ok3, T_agg3, T_isinfo3, T_info3, T_cells3, T_zero3, T_int3, T_ok4, T_agg4, T_isinfo4, T_info4, T_cells4, T_zero4, T_bool4, T_ok36, T_agg36, T_isinfo36, T_info36, T_cells36, T_zero36, T_elem36, T_under36, T_len36s, T_len36n, T_len36b, T_ok74, T_agg74, T_isinfo74, T_info74, T_cells74, T_zero74, T_build74, T_f74_0, T_p74_0, T_f74_1, T_p74_1, rI, di]
  refine gcall_intro _ _ _ _ _ _ _ _ _ (radd_v x (-y) (by rw [Int.natAbs_neg]; exact hl)) ?_
  simp -implicitDefEqProofs only [go_sem, Nat.reduceAdd, Nat.reduceMul, Nat.reduceEqDiff, Nat.reduceLT, Nat.reduceLeDiff, Nat.reduceSub, Nat.reduceBEq, reduceIte, reduceCtorEq, Int.reduceEq, Int.reduceNe, Nat.reduceBneDiff, Int.reduceLE, Int.reduceLT, Int.reduceToNat, Int.reduceAdd, Int.reduceSub, Int.reduceMul, Int.reduceNeg, T_ok3, T_agg3, T_isinfo3, T_info3, T_cells3, T_zero3, T_int3, T_ok4, T_agg4, T_isinfo4, T_info4, T_cells4, T_zero4, T_bool4, T_ok36, T_agg36, T_isinfo36, T_info36, T_cells36, T_zero36, T_elem36, T_under36, T_len36s, T_len36n, T_len36b, T_ok74, T_agg74, T_isinfo74, T_info74, T_cells74, T_zero74, T_build74, T_f74_0, T_p74_0, T_f74_1, T_p74_1, rI, di, Int.sub_eq_add_neg]
  exact drawQ_true _ _ (by kernel_rfl)

theorem rmul_v (x y : Int) (hl : (digs E9 x.natAbs).length + (digs E9 y.natAbs).length ≤ 1000000000) : SoundAt Try.prog 37 [rI x, rI y] (rI (x * y)) := by
  refine sound_go (tb := []) 16 [.cell 4 74] [0, 1, 2, 3, 4] mixed Try.func37 rfl (by kernel_rfl) (by kernel_rfl) (by kernel_rfl) (by kernel_rfl) ?_
  simp -implicitDefEqProofs only [go_sem, Nat.reduceAdd, Nat.reduceMul, Nat.reduceEqDiff, Nat.reduceLT, Nat.reduceLeDiff, Nat.reduceSub, Nat.reduceBEq, reduceIte, reduceCtorEq, Int.reduceEq, Int.reduceNe, Nat.reduceBneDiff, Int.reduceLE, Int.reduceLT, Int.reduceToNat, Int.reduceAdd, Int.reduceSub, Int.reduceMul, Int.reduceNeg, T_ok3, T_agg3, T_isinfo3, T_info3, T_cells3, T_zero3, T_int3, T_ok4, T_agg4, T_isinfo4, T_info4, T_cells4, T_zero4, T_bool4, T_ok36, T_agg36, T_isinfo36, T_info36, T_cells36, T_zero36, T_elem36, T_under36, T_len36s, T_len36n, T_len36b, T_ok74, T_agg74, T_isinfo74, T_info74, T_cells74, T_zero74, T_build74, T_f74_0, T_p74_0, T_f74_1, T_p74_1, rI, di]
  refine gcall_intro _ _ _ _ _ _ _ _ _ (rtimes_v _ _ hl) ?_
  simp -implicitDefEqProofs only [go_sem, Nat.reduceAdd, Nat.reduceMul, Nat.reduceEqDiff, Nat.reduceLT, Nat.reduceLeDiff, Nat.reduceSub, Nat.reduceBEq, reduceIte, reduceCtorEq, Int.reduceEq, Int.reduceNe, Nat.reduceBneDiff, Int.reduceLE, Int.reduceLT, Int.reduceToNat, Int.reduceAdd, Int.reduceSub, Int.reduceMul, Int.reduceNeg, T_ok3, T_agg3, T_isinfo3, T_info3, T_cells3, T_zero3, T_int3, T_ok4, T_agg4, T_isinfo4, T_info4, T_cells4, T_zero4, T_bool4, T_ok36, T_agg36, T_isinfo36, T_info36, T_cells36, T_zero36, T_elem36, T_under36, T_len36s, T_len36n, T_len36b, T_ok74, T_agg74, T_isinfo74, T_info74, T_cells74, T_zero74, T_build74, T_f74_0, T_p74_0, T_f74_1, T_p74_1, di]
  refine gcall_intro _ _ _ _ _ _ _ _ _ (rmade_v _ _) ?_
  have e : (if (!decide (x < 0) == decide (y < 0)) = true then -((x.natAbs * y.natAbs : Nat) : Int) else ((x.natAbs * y.natAbs : Nat) : Int)) = x * y := by
    rw [Int.natCast_mul]
    by_cases h : x < 0 <;> by_cases h' : y < 0
    · simp [h, h', Int.neg_mul, Int.mul_neg, Int.ofNat_natAbs_of_nonpos (Int.le_of_lt h), Int.ofNat_natAbs_of_nonpos (Int.le_of_lt h')]
    · simp [h, h', Int.neg_mul, Int.mul_neg, Int.ofNat_natAbs_of_nonpos (Int.le_of_lt h), Int.natAbs_of_nonneg (Int.not_lt.1 h')]
    · simp [h, h', Int.neg_mul, Int.mul_neg, Int.natAbs_of_nonneg (Int.not_lt.1 h), Int.ofNat_natAbs_of_nonpos (Int.le_of_lt h')]
    · simp [h, h', Int.natAbs_of_nonneg (Int.not_lt.1 h), Int.natAbs_of_nonneg (Int.not_lt.1 h')]
  rw [e]
  simp -implicitDefEqProofs only [go_sem, Nat.reduceAdd, Nat.reduceMul, Nat.reduceEqDiff, Nat.reduceLT, Nat.reduceLeDiff, Nat.reduceSub, Nat.reduceBEq, reduceIte, reduceCtorEq, Int.reduceEq, Int.reduceNe, Nat.reduceBneDiff, Int.reduceLE, Int.reduceLT, Int.reduceToNat, Int.reduceAdd, Int.reduceSub, Int.reduceMul, Int.reduceNeg, T_ok3, T_agg3, T_isinfo3, T_info3, T_cells3, T_zero3, T_int3, T_ok4, T_agg4, T_isinfo4, T_info4, T_cells4, T_zero4, T_bool4, T_ok36, T_agg36, T_isinfo36, T_info36, T_cells36, T_zero36, T_elem36, T_under36, T_len36s, T_len36n, T_len36b, T_ok74, T_agg74, T_isinfo74, T_info74, T_cells74, T_zero74, T_build74, T_f74_0, T_p74_0, T_f74_1, T_p74_1, rI, di]
  exact drawQ_true _ _ (by kernel_rfl)

theorem rcompare_v (x y : Int) (hl : (digs E9 (x.natAbs + y.natAbs)).length ≤ 1000000000) : SoundAt Try.prog 38 [rI x, rI y] (.int .i64 (x - y).sign) := by
  refine sound_go (tb := []) 9 [.tmp 4] [0, 1, 2, 3, 4] mixed Try.func38 rfl (by kernel_rfl) (by kernel_rfl) (by kernel_rfl) (by kernel_rfl) ?_
  simp -implicitDefEqProofs only [go_sem, Nat.reduceAdd, Nat.reduceMul, Nat.reduceEqDiff, Nat.reduceLT, Nat.reduceLeDiff, Nat.reduceSub, Nat.reduceBEq, reduceIte, reduceCtorEq, Int.reduceEq, Int.reduceNe, Nat.reduceBneDiff, Int.reduceLE, Int.reduceLT, Int.reduceToNat, Int.reduceAdd, Int.reduceSub, Int.reduceMul, Int.reduceNeg, T_ok3, T_agg3, T_isinfo3, T_info3, T_cells3, T_zero3, T_int3, T_ok4, T_agg4, T_isinfo4, T_info4, T_cells4, T_zero4, T_bool4, T_ok36, T_agg36, T_isinfo36, T_info36, T_cells36, T_zero36, T_elem36, T_under36, T_len36s, T_len36n, T_len36b, T_ok74, T_agg74, T_isinfo74, T_info74, T_cells74, T_zero74, T_build74, T_f74_0, T_p74_0, T_f74_1, T_p74_1, rI, di]
  refine gcall_intro _ _ _ _ _ _ _ _ _ (rsub_v x y hl) ?_
  simp -implicitDefEqProofs only [go_sem, Nat.reduceAdd, Nat.reduceMul, Nat.reduceEqDiff, Nat.reduceLT, Nat.reduceLeDiff, Nat.reduceSub, Nat.reduceBEq, reduceIte, reduceCtorEq, Int.reduceEq, Int.reduceNe, Nat.reduceBneDiff, Int.reduceLE, Int.reduceLT, Int.reduceToNat, Int.reduceAdd, Int.reduceSub, Int.reduceMul, Int.reduceNeg, T_ok3, T_agg3, T_isinfo3, T_info3, T_cells3, T_zero3, T_int3, T_ok4, T_agg4, T_isinfo4, T_info4, T_cells4, T_zero4, T_bool4, T_ok36, T_agg36, T_isinfo36, T_info36, T_cells36, T_zero36, T_elem36, T_under36, T_len36s, T_len36n, T_len36b, T_ok74, T_agg74, T_isinfo74, T_info74, T_cells74, T_zero74, T_build74, T_f74_0, T_p74_0, T_f74_1, T_p74_1, rI, di]
  refine gcall_intro _ _ _ _ _ _ _ _ _ (rsign_v (x - y)) ?_
  simp -implicitDefEqProofs only [go_sem, Nat.reduceAdd, Nat.reduceMul, Nat.reduceEqDiff, Nat.reduceLT, Nat.reduceLeDiff, Nat.reduceSub, Nat.reduceBEq, reduceIte, reduceCtorEq, Int.reduceEq, Int.reduceNe, Nat.reduceBneDiff, Int.reduceLE, Int.reduceLT, Int.reduceToNat, Int.reduceAdd, Int.reduceSub, Int.reduceMul, Int.reduceNeg, T_ok3, T_agg3, T_isinfo3, T_info3, T_cells3, T_zero3, T_int3, T_ok4, T_agg4, T_isinfo4, T_info4, T_cells4, T_zero4, T_bool4, T_ok36, T_agg36, T_isinfo36, T_info36, T_cells36, T_zero36, T_elem36, T_under36, T_len36s, T_len36n, T_len36b, T_ok74, T_agg74, T_isinfo74, T_info74, T_cells74, T_zero74, T_build74, T_f74_0, T_p74_0, T_f74_1, T_p74_1]

/-! an int as an integer -/
theorem lows3 (n : Nat) (h : n < 9223372036854775809) : trimZ [n % E9, n / E9 % E9, n / E9 / E9] = digs E9 n := by
  have e : [n % E9, n / E9 % E9, n / E9 / E9] = lows E9 n 3 := by
    have h3 : n / E9 / E9 = n / E9 ^ 2 % E9 := by
      rw [Nat.div_div_eq_div_mul, show E9 * E9 = E9 ^ 2 from rfl]
      exact (Nat.mod_eq_of_lt (Nat.div_lt_of_lt_mul (Nat.lt_trans h (by decide)))).symm
    rw [h3]
    simp [lows, List.range_succ]
  rw [e, trimZ_lows E9_2, Nat.mod_eq_of_lt (Nat.lt_trans h (by decide))]
theorem L_small {n : Nat} (h : n < 9223372036854775809) : (digs E9 n).length ≤ 3 := (digs_len_le E9_2 n 3).2 (Nat.lt_trans h (by decide))
theorem rI_zero : rI 0 = .agg [.bool false, .slc []] := by simp [rI, di, digs_zero]
theorem natAbs_rI (m : Nat) : rI (m : Int) = .agg [.bool false, di (digs E9 m)] := by
  simp [rI]
theorem rnum_v (n : Int) (h1 : -9223372036854775808 ≤ n) (h2 : n ≤ 9223372036854775807) : SoundAt Try.prog 36 [.int .i64 n] (rI n) := by
  refine sound_go (tb := []) 32 [.cell 2 74] [0, 2, 4] mixed Try.func36 rfl (by kernel_rfl) (by kernel_rfl) (by kernel_rfl) (by kernel_rfl) ?_
  by_cases hn : 0 ≤ n
  · obtain ⟨m, rfl⟩ : ∃ m : Nat, n = m := ⟨n.toNat, by omega⟩
    have h0 : ((m : Int) ≥ 0) = True := by simp
    have e1 := wrapn (n := m / 1000000000) (by omega)
    have e2 := wrapn (n := m / 1000000000 / 1000000000) (by omega)
    simp -implicitDefEqProofs only [go_sem, Nat.reduceAdd, Nat.reduceMul, Nat.reduceEqDiff, Nat.reduceLT, Nat.reduceLeDiff, Nat.reduceSub, Nat.reduceBEq, reduceIte, reduceCtorEq, Int.reduceEq, Int.reduceNe, Nat.reduceBneDiff, Int.reduceLE, Int.reduceLT, Int.reduceToNat, Int.reduceAdd, Int.reduceSub, Int.reduceMul, Int.reduceNeg, T_ok3, T_agg3, T_isinfo3, T_info3, T_cells3, T_zero3, T_int3, T_ok4, T_agg4, T_isinfo4, T_info4, T_cells4, T_zero4, T_bool4, T_ok36, T_agg36, T_isinfo36, T_info36, T_cells36, T_zero36, T_elem36, T_under36, T_len36s, T_len36n, T_len36b, T_ok74, T_agg74, T_isinfo74, T_info74, T_cells74, T_zero74, T_build74, T_f74_0, T_p74_0, T_f74_1, T_p74_1, h0, tmod9, tdiv9, e1, e2]
    refine gcall_intro _ _ _ _ _ _ _ _ _ (rtrim_v [m % E9, m / E9 % E9, m / E9 / E9] (by simp [maxLen])) ?_
    rw [lows3 m (by omega)]
    simp -implicitDefEqProofs only [go_sem, Nat.reduceAdd, Nat.reduceMul, Nat.reduceEqDiff, Nat.reduceLT, Nat.reduceLeDiff, Nat.reduceSub, Nat.reduceBEq, reduceIte, reduceCtorEq, Int.reduceEq, Int.reduceNe, Nat.reduceBneDiff, Int.reduceLE, Int.reduceLT, Int.reduceToNat, Int.reduceAdd, Int.reduceSub, Int.reduceMul, Int.reduceNeg, T_ok3, T_agg3, T_isinfo3, T_info3, T_cells3, T_zero3, T_int3, T_ok4, T_agg4, T_isinfo4, T_info4, T_cells4, T_zero4, T_bool4, T_ok36, T_agg36, T_isinfo36, T_info36, T_cells36, T_zero36, T_elem36, T_under36, T_len36s, T_len36n, T_len36b, T_ok74, T_agg74, T_isinfo74, T_info74, T_cells74, T_zero74, T_build74, T_f74_0, T_p74_0, T_f74_1, T_p74_1, di]
    refine gcall_intro _ _ _ _ _ _ _ _ _ (rmade_v _ m) ?_
    simp -implicitDefEqProofs only [go_sem, Nat.reduceAdd, Nat.reduceMul, Nat.reduceEqDiff, Nat.reduceLT, Nat.reduceLeDiff, Nat.reduceSub, Nat.reduceBEq, reduceIte, reduceCtorEq, Int.reduceEq, Int.reduceNe, Nat.reduceBneDiff, Int.reduceLE, Int.reduceLT, Int.reduceToNat, Int.reduceAdd, Int.reduceSub, Int.reduceMul, Int.reduceNeg, T_ok3, T_agg3, T_isinfo3, T_info3, T_cells3, T_zero3, T_int3, T_ok4, T_agg4, T_isinfo4, T_info4, T_cells4, T_zero4, T_bool4, T_ok36, T_agg36, T_isinfo36, T_info36, T_cells36, T_zero36, T_elem36, T_under36, T_len36s, T_len36n, T_len36b, T_ok74, T_agg74, T_isinfo74, T_info74, T_cells74, T_zero74, T_build74, T_f74_0, T_p74_0, T_f74_1, T_p74_1, rI, di]
  · obtain ⟨m, rfl⟩ : ∃ m : Nat, n = -m := ⟨n.natAbs, by omega⟩
    have h0 : (0 ≤ -(m : Int)) = False := by simp; omega
    have q1 : Int.tmod (-(m : Int)) 1000000000 = -((m % 1000000000 : Nat) : Int) := by rw [Int.neg_tmod, tmod9]
    have q2 : Int.tdiv (-(m : Int)) 1000000000 = -((m / 1000000000 : Nat) : Int) := by rw [Int.neg_tdiv, tdiv9]
    have q3 : Int.tmod (-((m / 1000000000 : Nat) : Int)) 1000000000 = -((m / 1000000000 % 1000000000 : Nat) : Int) := by rw [Int.neg_tmod, tmod9]
    have q4 : Int.tdiv (-((m / 1000000000 : Nat) : Int)) 1000000000 = -((m / 1000000000 / 1000000000 : Nat) : Int) := by rw [Int.neg_tdiv, tdiv9]
    have e1 : IntKind.i64.wrap (-((m / 1000000000 : Nat) : Int)) = -((m / 1000000000 : Nat) : Int) := wrap_i64 (by omega) (by omega)
    have e2 : IntKind.i64.wrap (-((m / 1000000000 / 1000000000 : Nat) : Int)) = -((m / 1000000000 / 1000000000 : Nat) : Int) := wrap_i64 (by omega) (by omega)
    have n1 : IntKind.i64.wrap (0 - -((m % 1000000000 : Nat) : Int)) = ((m % 1000000000 : Nat) : Int) := by rw [wrap_i64 (by omega) (by omega)]; omega
    have n2 : IntKind.i64.wrap (0 - -((m / 1000000000 % 1000000000 : Nat) : Int)) = ((m / 1000000000 % 1000000000 : Nat) : Int) := by rw [wrap_i64 (by omega) (by omega)]; omega
    have n3 : IntKind.i64.wrap (0 - -((m / 1000000000 / 1000000000 : Nat) : Int)) = ((m / 1000000000 / 1000000000 : Nat) : Int) := by rw [wrap_i64 (by omega) (by omega)]; omega
    simp -implicitDefEqProofs only [go_sem, Nat.reduceAdd, Nat.reduceMul, Nat.reduceEqDiff, Nat.reduceLT, Nat.reduceLeDiff, Nat.reduceSub, Nat.reduceBEq, reduceIte, reduceCtorEq, Int.reduceEq, Int.reduceNe, Nat.reduceBneDiff, Int.reduceLE, Int.reduceLT, Int.reduceToNat, Int.reduceAdd, Int.reduceSub, Int.reduceMul, Int.reduceNeg, T_ok3, T_agg3, T_isinfo3, T_info3, T_cells3, T_zero3, T_int3, T_ok4, T_agg4, T_isinfo4, T_info4, T_cells4, T_zero4, T_bool4, T_ok36, T_agg36, T_isinfo36, T_info36, T_cells36, T_zero36, T_elem36, T_under36, T_len36s, T_len36n, T_len36b, T_ok74, T_agg74, T_isinfo74, T_info74, T_cells74, T_zero74, T_build74, T_f74_0, T_p74_0, T_f74_1, T_p74_1, h0, q1, q2, e1, q3, q4, e2, n1, n2, n3]
    refine gcall_intro _ _ _ _ _ _ _ _ _ (rtrim_v [m % E9, m / E9 % E9, m / E9 / E9] (by simp [maxLen])) ?_
    rw [lows3 m (by omega)]
    simp -implicitDefEqProofs only [go_sem, Nat.reduceAdd, Nat.reduceMul, Nat.reduceEqDiff, Nat.reduceLT, Nat.reduceLeDiff, Nat.reduceSub, Nat.reduceBEq, reduceIte, reduceCtorEq, Int.reduceEq, Int.reduceNe, Nat.reduceBneDiff, Int.reduceLE, Int.reduceLT, Int.reduceToNat, Int.reduceAdd, Int.reduceSub, Int.reduceMul, Int.reduceNeg, T_ok3, T_agg3, T_isinfo3, T_info3, T_cells3, T_zero3, T_int3, T_ok4, T_agg4, T_isinfo4, T_info4, T_cells4, T_zero4, T_bool4, T_ok36, T_agg36, T_isinfo36, T_info36, T_cells36, T_zero36, T_elem36, T_under36, T_len36s, T_len36n, T_len36b, T_ok74, T_agg74, T_isinfo74, T_info74, T_cells74, T_zero74, T_build74, T_f74_0, T_p74_0, T_f74_1, T_p74_1, di]
    refine gcall_intro _ _ _ _ _ _ _ _ _ (rmade_v _ m) ?_
    simp -implicitDefEqProofs only [go_sem, Nat.reduceAdd, Nat.reduceMul, Nat.reduceEqDiff, Nat.reduceLT, Nat.reduceLeDiff, Nat.reduceSub, Nat.reduceBEq, reduceIte, reduceCtorEq, Int.reduceEq, Int.reduceNe, Nat.reduceBneDiff, Int.reduceLE, Int.reduceLT, Int.reduceToNat, Int.reduceAdd, Int.reduceSub, Int.reduceMul, Int.reduceNeg, T_ok3, T_agg3, T_isinfo3, T_info3, T_cells3, T_zero3, T_int3, T_ok4, T_agg4, T_isinfo4, T_info4, T_cells4, T_zero4, T_bool4, T_ok36, T_agg36, T_isinfo36, T_info36, T_cells36, T_zero36, T_elem36, T_under36, T_len36s, T_len36n, T_len36b, T_ok74, T_agg74, T_isinfo74, T_info74, T_cells74, T_zero74, T_build74, T_f74_0, T_p74_0, T_f74_1, T_p74_1, rI, di]
    have hsub := rsub_v (-(m : Int)) 0 (by simp; exact Nat.le_trans (L_small (by omega)) (by decide))
    rw [Int.sub_zero, rI_zero] at hsub
    refine gcall_intro _ _ _ _ _ _ _ _ _ hsub ?_
    simp -implicitDefEqProofs only [go_sem, Nat.reduceAdd, Nat.reduceMul, Nat.reduceEqDiff, Nat.reduceLT, Nat.reduceLeDiff, Nat.reduceSub, Nat.reduceBEq, reduceIte, reduceCtorEq, Int.reduceEq, Int.reduceNe, Nat.reduceBneDiff, Int.reduceLE, Int.reduceLT, Int.reduceToNat, Int.reduceAdd, Int.reduceSub, Int.reduceMul, Int.reduceNeg, T_ok3, T_agg3, T_isinfo3, T_info3, T_cells3, T_zero3, T_int3, T_ok4, T_agg4, T_isinfo4, T_info4, T_cells4, T_zero4, T_bool4, T_ok36, T_agg36, T_isinfo36, T_info36, T_cells36, T_zero36, T_elem36, T_under36, T_len36s, T_len36n, T_len36b, T_ok74, T_agg74, T_isinfo74, T_info74, T_cells74, T_zero74, T_build74, T_f74_0, T_p74_0, T_f74_1, T_p74_1, rI, di]
end Go.Proofs.Ytkajnimlfehmeaa

namespace Go.Proofs.Ytkajnimlfehmeaa
open Go.Vl Go.RowKit

def inU (m n : Int) : Bool := !(decide (n < -m) || decide (m < n))
theorem inside_v (m : Int) (xs : List Int) (hm : 0 ≤ m ∧ m < 9223372036854775807) (hx : xs.length ≤ 1000) : SoundAt Try.prog 43 [.int .i64 m, ints xs] (.bool (xs.all (inU m))) := by
  refine sound_go (tb := []) 23 [.tmp 4] [0, 1, 4, 6, 7, 8, 9, 10, 21] mixed Try.func43 rfl (by kernel_rfl) (by kernel_rfl) (by kernel_rfl) (by kernel_rfl) ?_
  simp -implicitDefEqProofs only [go_sem, Nat.reduceAdd, Nat.reduceMul, Nat.reduceEqDiff, Nat.reduceLT, Nat.reduceLeDiff, Nat.reduceSub, Nat.reduceBEq, reduceIte, reduceCtorEq, Int.reduceEq, Int.reduceNe, Nat.reduceBneDiff, Int.reduceLE, Int.reduceLT, Int.reduceToNat, Int.reduceAdd, Int.reduceSub, Int.reduceMul, Int.reduceNeg, T_ok3, T_agg3, T_isinfo3, T_info3, T_cells3, T_zero3, T_int3, T_ok36, T_agg36, T_isinfo36, T_info36, T_cells36, T_zero36, T_elem36, T_under36, T_len36s, T_len36n, T_len36b, ints, List.length_map]
  refine g_loop mixed (fun k : { k : Nat // k ≤ xs.length ∧ (xs.take k).all (inU m) = true } => St.of [(0, .int .i64 m), (1, ints xs), (4, .bool false), (7, ints xs), (8, .int .i64 (xs.length : Int)), (9, .int .i64 k.1)] []) (fun k => xs.length - k.1) ⟨0, by simp⟩ ?_ ?_
  · exact le_vars (by simp [varsLe, lkp, ren1, ren0, ints])
  · rintro ⟨k, hk, hall⟩
    by_cases hlt : k < xs.length
    · have h1 : ((k : Int) < (xs.length : Int)) = True := by simp; omega
      have h0 : (0 ≤ (k : Int)) = True := by simp
      have ea : (xs.map (PV.int .i64))[k]? = some (.int .i64 xs[k]) := by simp [hlt]
      have hwk : IntKind.i64.wrap ((k : Int) + 1) = ((k + 1 : Nat) : Int) := by rw [wrap_i64 (by omega) (by omega)]; omega
      have hwm : IntKind.i64.wrap (0 - m) = -m := by rw [wrap_i64 (by omega) (by omega)]; omega
      have hnot : inU m xs[k] = false → xs.all (inU m) = false := by
        intro h
        rw [List.all_eq_false]
        exact ⟨xs[k], List.getElem_mem _, by simp [h]⟩
      have hnext : inU m xs[k] = true → k + 1 ≤ xs.length ∧ (xs.take (k + 1)).all (inU m) = true := by
        intro h
        refine ⟨hlt, ?_⟩
        rw [List.take_add_one, List.all_append, hall]
        simp [hlt, h]
      by_cases ha : xs[k] < -m
      · have ha' : (xs[k] < -m) = True := by simp [ha]
        rw [hnot (by simp [inU, ha])]
        simp -implicitDefEqProofs only [go_sem, Nat.reduceAdd, Nat.reduceMul, Nat.reduceEqDiff, Nat.reduceLT, Nat.reduceLeDiff, Nat.reduceSub, Nat.reduceBEq, reduceIte, reduceCtorEq, Int.reduceEq, Int.reduceNe, Nat.reduceBneDiff, Int.reduceLE, Int.reduceLT, Int.reduceToNat, Int.reduceAdd, Int.reduceSub, Int.reduceMul, Int.reduceNeg, T_ok3, T_agg3, T_isinfo3, T_info3, T_cells3, T_zero3, T_int3, T_ok36, T_agg36, T_isinfo36, T_info36, T_cells36, T_zero36, T_elem36, T_under36, T_len36s, T_len36n, T_len36b, ints, h1, h0, List.length_map, Int.toNat_natCast, ea, hwm, ha']
      · have ha' : (xs[k] < -m) = False := by simp only [eq_iff_iff, iff_false]; exact ha
        by_cases hb : m < xs[k]
        · have hb' : (m < xs[k]) = True := by simp [hb]
          rw [hnot (by simp [inU, hb])]
          simp -implicitDefEqProofs only [go_sem, Nat.reduceAdd, Nat.reduceMul, Nat.reduceEqDiff, Nat.reduceLT, Nat.reduceLeDiff, Nat.reduceSub, Nat.reduceBEq, reduceIte, reduceCtorEq, Int.reduceEq, Int.reduceNe, Nat.reduceBneDiff, Int.reduceLE, Int.reduceLT, Int.reduceToNat, Int.reduceAdd, Int.reduceSub, Int.reduceMul, Int.reduceNeg, T_ok3, T_agg3, T_isinfo3, T_info3, T_cells3, T_zero3, T_int3, T_ok36, T_agg36, T_isinfo36, T_info36, T_cells36, T_zero36, T_elem36, T_under36, T_len36s, T_len36n, T_len36b, ints, h1, h0, List.length_map, Int.toNat_natCast, ea, hwm, ha', hb']
        · have hb' : (m < xs[k]) = False := by simp only [eq_iff_iff, iff_false]; exact hb
          simp -implicitDefEqProofs only [go_sem, Nat.reduceAdd, Nat.reduceMul, Nat.reduceEqDiff, Nat.reduceLT, Nat.reduceLeDiff, Nat.reduceSub, Nat.reduceBEq, reduceIte, reduceCtorEq, Int.reduceEq, Int.reduceNe, Nat.reduceBneDiff, Int.reduceLE, Int.reduceLT, Int.reduceToNat, Int.reduceAdd, Int.reduceSub, Int.reduceMul, Int.reduceNeg, T_ok3, T_agg3, T_isinfo3, T_info3, T_cells3, T_zero3, T_int3, T_ok36, T_agg36, T_isinfo36, T_info36, T_cells36, T_zero36, T_elem36, T_under36, T_len36s, T_len36n, T_len36b, ints, h1, h0, List.length_map, Int.toNat_natCast, ea, hwm, ha', hb', hwk]
          refine ⟨⟨k + 1, hnext (by simp [inU]; omega)⟩, by simp only; omega, ?_⟩
          exact le_vars (by simp [varsLe, lkp, ren1, ren0, ints])
    · have h1 : ((k : Int) < (xs.length : Int)) = False := by simp; omega
      rw [List.take_of_length_le (by omega)] at hall
      rw [hall]
      simp -implicitDefEqProofs only [go_sem, Nat.reduceAdd, Nat.reduceMul, Nat.reduceEqDiff, Nat.reduceLT, Nat.reduceLeDiff, Nat.reduceSub, Nat.reduceBEq, reduceIte, reduceCtorEq, Int.reduceEq, Int.reduceNe, Nat.reduceBneDiff, Int.reduceLE, Int.reduceLT, Int.reduceToNat, Int.reduceAdd, Int.reduceSub, Int.reduceMul, Int.reduceNeg, T_ok3, T_agg3, T_isinfo3, T_info3, T_cells3, T_zero3, T_int3, T_ok36, T_agg36, T_isinfo36, T_info36, T_cells36, T_zero36, T_elem36, T_under36, T_len36s, T_len36n, T_len36b, ints, h1, List.length_map]

def ptU (m : Int) (v : Sky.V3) : Bool := inU m v.x && (inU m v.y && inU m v.z)
theorem Point_v (v : Sky.V3) : SoundAt Try.prog 27 [v3PV v] (.bool (ptU 1048576 v)) := by
  refine sound_go (tb := []) 11 [.tmp 2] [0, 1, 2] mixed Try.func27 rfl (by kernel_rfl) (by kernel_rfl) (by kernel_rfl) (by kernel_rfl) ?_
  simp -implicitDefEqProofs only [go_sem, Nat.reduceAdd, Nat.reduceMul, Nat.reduceEqDiff, Nat.reduceLT, Nat.reduceLeDiff, Nat.reduceSub, Nat.reduceBEq, reduceIte, reduceCtorEq, Int.reduceEq, Int.reduceNe, Nat.reduceBneDiff, Int.reduceLE, Int.reduceLT, Int.reduceToNat, Int.reduceAdd, Int.reduceSub, Int.reduceMul, Int.reduceNeg, T_ok3, T_agg3, T_isinfo3, T_info3, T_cells3, T_zero3, T_int3, T_ok23, T_agg23, T_isinfo23, T_info23, T_cells23, T_zero23, T_build23, T_f23_0, T_p23_0, T_f23_1, T_p23_1, T_f23_2, T_p23_2, T_eqs23, T_ok36, T_agg36, T_isinfo36, T_info36, T_cells36, T_zero36, T_elem36, T_under36, T_len36s, T_len36n, T_len36b, v3PV, vecPV]
  refine gcall_intro _ _ _ _ _ _ _ _ _ (inside_v 1048576 [v.x, v.y, v.z] (by decide) (by simp)) ?_
  simp -implicitDefEqProofs only [go_sem, Nat.reduceAdd, Nat.reduceMul, Nat.reduceEqDiff, Nat.reduceLT, Nat.reduceLeDiff, Nat.reduceSub, Nat.reduceBEq, reduceIte, reduceCtorEq, Int.reduceEq, Int.reduceNe, Nat.reduceBneDiff, Int.reduceLE, Int.reduceLT, Int.reduceToNat, Int.reduceAdd, Int.reduceSub, Int.reduceMul, Int.reduceNeg, T_ok3, T_agg3, T_isinfo3, T_info3, T_cells3, T_zero3, T_int3, T_ok23, T_agg23, T_isinfo23, T_info23, T_cells23, T_zero23, T_build23, T_f23_0, T_p23_0, T_f23_1, T_p23_1, T_f23_2, T_p23_2, T_eqs23, T_ok36, T_agg36, T_isinfo36, T_info36, T_cells36, T_zero36, T_elem36, T_under36, T_len36s, T_len36n, T_len36b, List.all_cons, List.all_nil, Bool.and_true, ptU]
theorem Valid_v (v : Sky.V3) : SoundAt Try.prog 45 [v3PV v] (.bool (ptU 16777216 v)) := by
  refine sound_go (tb := []) 11 [.tmp 2] [0, 1, 2] mixed Try.func45 rfl (by kernel_rfl) (by kernel_rfl) (by kernel_rfl) (by kernel_rfl) ?_
  simp -implicitDefEqProofs only [go_sem, Nat.reduceAdd, Nat.reduceMul, Nat.reduceEqDiff, Nat.reduceLT, Nat.reduceLeDiff, Nat.reduceSub, Nat.reduceBEq, reduceIte, reduceCtorEq, Int.reduceEq, Int.reduceNe, Nat.reduceBneDiff, Int.reduceLE, Int.reduceLT, Int.reduceToNat, Int.reduceAdd, Int.reduceSub, Int.reduceMul, Int.reduceNeg, T_ok3, T_agg3, T_isinfo3, T_info3, T_cells3, T_zero3, T_int3, T_ok23, T_agg23, T_isinfo23, T_info23, T_cells23, T_zero23, T_build23, T_f23_0, T_p23_0, T_f23_1, T_p23_1, T_f23_2, T_p23_2, T_eqs23, T_ok36, T_agg36, T_isinfo36, T_info36, T_cells36, T_zero36, T_elem36, T_under36, T_len36s, T_len36n, T_len36b, v3PV, vecPV]
  refine gcall_intro _ _ _ _ _ _ _ _ _ (inside_v 16777216 [v.x, v.y, v.z] (by decide) (by simp)) ?_
  simp -implicitDefEqProofs only [go_sem, Nat.reduceAdd, Nat.reduceMul, Nat.reduceEqDiff, Nat.reduceLT, Nat.reduceLeDiff, Nat.reduceSub, Nat.reduceBEq, reduceIte, reduceCtorEq, Int.reduceEq, Int.reduceNe, Nat.reduceBneDiff, Int.reduceLE, Int.reduceLT, Int.reduceToNat, Int.reduceAdd, Int.reduceSub, Int.reduceMul, Int.reduceNeg, T_ok3, T_agg3, T_isinfo3, T_info3, T_cells3, T_zero3, T_int3, T_ok23, T_agg23, T_isinfo23, T_info23, T_cells23, T_zero23, T_build23, T_f23_0, T_p23_0, T_f23_1, T_p23_1, T_f23_2, T_p23_2, T_eqs23, T_ok36, T_agg36, T_isinfo36, T_info36, T_cells36, T_zero36, T_elem36, T_under36, T_len36s, T_len36n, T_len36b, List.all_cons, List.all_nil, Bool.and_true, ptU]
theorem part_v (n : Int) : SoundAt Try.prog 40 [.int .i64 n] (.bool (inU 1048576 n)) := by
  refine sound_go (tb := []) 9 [.tmp 2] [0, 2] mixed Try.func40 rfl (by kernel_rfl) (by kernel_rfl) (by kernel_rfl) (by kernel_rfl) ?_
  by_cases ha : n < -1048576
  · have ha' : (-1048576 ≤ n) = False := by simp; omega
    have e : inU 1048576 n = false := by simp [inU, ha]
    simp -implicitDefEqProofs only [go_sem, Nat.reduceAdd, Nat.reduceMul, Nat.reduceEqDiff, Nat.reduceLT, Nat.reduceLeDiff, Nat.reduceSub, Nat.reduceBEq, reduceIte, reduceCtorEq, Int.reduceEq, Int.reduceNe, Nat.reduceBneDiff, Int.reduceLE, Int.reduceLT, Int.reduceToNat, Int.reduceAdd, Int.reduceSub, Int.reduceMul, Int.reduceNeg, T_ok3, T_agg3, T_isinfo3, T_info3, T_cells3, T_zero3, T_int3, ha', e]
  · have ha' : (-1048576 ≤ n) = True := by simp; omega
    by_cases hb : 1048576 < n
    · have hb' : (n ≤ 1048576) = False := by simp; omega
      have e : inU 1048576 n = false := by simp [inU, hb]
      simp -implicitDefEqProofs only [go_sem, Nat.reduceAdd, Nat.reduceMul, Nat.reduceEqDiff, Nat.reduceLT, Nat.reduceLeDiff, Nat.reduceSub, Nat.reduceBEq, reduceIte, reduceCtorEq, Int.reduceEq, Int.reduceNe, Nat.reduceBneDiff, Int.reduceLE, Int.reduceLT, Int.reduceToNat, Int.reduceAdd, Int.reduceSub, Int.reduceMul, Int.reduceNeg, T_ok3, T_agg3, T_isinfo3, T_info3, T_cells3, T_zero3, T_int3, ha', hb', e]
    · have hb' : (n ≤ 1048576) = True := by simp; omega
      have e : inU 1048576 n = true := by simp [inU]; omega
      simp -implicitDefEqProofs only [go_sem, Nat.reduceAdd, Nat.reduceMul, Nat.reduceEqDiff, Nat.reduceLT, Nat.reduceLeDiff, Nat.reduceSub, Nat.reduceBEq, reduceIte, reduceCtorEq, Int.reduceEq, Int.reduceNe, Nat.reduceBneDiff, Int.reduceLE, Int.reduceLT, Int.reduceToNat, Int.reduceAdd, Int.reduceSub, Int.reduceMul, Int.reduceNeg, T_ok3, T_agg3, T_isinfo3, T_info3, T_cells3, T_zero3, T_int3, ha', hb', e]
theorem rPoint_v (v : Sky.V3) : SoundAt Try.prog 22 [v3PV v] (.bool (ptU 1048576 v)) := by
  refine sound_go (tb := []) 16 [.tmp 2] [0, 1, 2] mixed Try.func22 rfl (by kernel_rfl) (by kernel_rfl) (by kernel_rfl) (by kernel_rfl) ?_
  simp -implicitDefEqProofs only [go_sem, Nat.reduceAdd, Nat.reduceMul, Nat.reduceEqDiff, Nat.reduceLT, Nat.reduceLeDiff, Nat.reduceSub, Nat.reduceBEq, reduceIte, reduceCtorEq, Int.reduceEq, Int.reduceNe, Nat.reduceBneDiff, Int.reduceLE, Int.reduceLT, Int.reduceToNat, Int.reduceAdd, Int.reduceSub, Int.reduceMul, Int.reduceNeg, T_ok3, T_agg3, T_isinfo3, T_info3, T_cells3, T_zero3, T_int3, T_ok23, T_agg23, T_isinfo23, T_info23, T_cells23, T_zero23, T_build23, T_f23_0, T_p23_0, T_f23_1, T_p23_1, T_f23_2, T_p23_2, T_eqs23, v3PV, vecPV]
  refine gcall_intro _ _ _ _ _ _ _ _ _ (part_v v.x) ?_
  cases hx : inU 1048576 v.x with
  | false => simp -implicitDefEqProofs only [go_sem, Nat.reduceAdd, Nat.reduceMul, Nat.reduceEqDiff, Nat.reduceLT, Nat.reduceLeDiff, Nat.reduceSub, Nat.reduceBEq, reduceIte, reduceCtorEq, Int.reduceEq, Int.reduceNe, Nat.reduceBneDiff, Int.reduceLE, Int.reduceLT, Int.reduceToNat, Int.reduceAdd, Int.reduceSub, Int.reduceMul, Int.reduceNeg, T_ok3, T_agg3, T_isinfo3, T_info3, T_cells3, T_zero3, T_int3, T_ok23, T_agg23, T_isinfo23, T_info23, T_cells23, T_zero23, T_build23, T_f23_0, T_p23_0, T_f23_1, T_p23_1, T_f23_2, T_p23_2, T_eqs23, ptU, hx, Bool.false_and]
  | true =>
    simp -implicitDefEqProofs only [go_sem, Nat.reduceAdd, Nat.reduceMul, Nat.reduceEqDiff, Nat.reduceLT, Nat.reduceLeDiff, Nat.reduceSub, Nat.reduceBEq, reduceIte, reduceCtorEq, Int.reduceEq, Int.reduceNe, Nat.reduceBneDiff, Int.reduceLE, Int.reduceLT, Int.reduceToNat, Int.reduceAdd, Int.reduceSub, Int.reduceMul, Int.reduceNeg, T_ok3, T_agg3, T_isinfo3, T_info3, T_cells3, T_zero3, T_int3, T_ok23, T_agg23, T_isinfo23, T_info23, T_cells23, T_zero23, T_build23, T_f23_0, T_p23_0, T_f23_1, T_p23_1, T_f23_2, T_p23_2, T_eqs23]
    refine gcall_intro _ _ _ _ _ _ _ _ _ (part_v v.y) ?_
    cases hy : inU 1048576 v.y with
    | false => simp -implicitDefEqProofs only [go_sem, Nat.reduceAdd, Nat.reduceMul, Nat.reduceEqDiff, Nat.reduceLT, Nat.reduceLeDiff, Nat.reduceSub, Nat.reduceBEq, reduceIte, reduceCtorEq, Int.reduceEq, Int.reduceNe, Nat.reduceBneDiff, Int.reduceLE, Int.reduceLT, Int.reduceToNat, Int.reduceAdd, Int.reduceSub, Int.reduceMul, Int.reduceNeg, T_ok3, T_agg3, T_isinfo3, T_info3, T_cells3, T_zero3, T_int3, T_ok23, T_agg23, T_isinfo23, T_info23, T_cells23, T_zero23, T_build23, T_f23_0, T_p23_0, T_f23_1, T_p23_1, T_f23_2, T_p23_2, T_eqs23, ptU, hx, hy, Bool.false_and, Bool.true_and]
    | true =>
      simp -implicitDefEqProofs only [go_sem, Nat.reduceAdd, Nat.reduceMul, Nat.reduceEqDiff, Nat.reduceLT, Nat.reduceLeDiff, Nat.reduceSub, Nat.reduceBEq, reduceIte, reduceCtorEq, Int.reduceEq, Int.reduceNe, Nat.reduceBneDiff, Int.reduceLE, Int.reduceLT, Int.reduceToNat, Int.reduceAdd, Int.reduceSub, Int.reduceMul, Int.reduceNeg, T_ok3, T_agg3, T_isinfo3, T_info3, T_cells3, T_zero3, T_int3, T_ok23, T_agg23, T_isinfo23, T_info23, T_cells23, T_zero23, T_build23, T_f23_0, T_p23_0, T_f23_1, T_p23_1, T_f23_2, T_p23_2, T_eqs23]
      refine gcall_intro _ _ _ _ _ _ _ _ _ (part_v v.z) ?_
      simp -implicitDefEqProofs only [go_sem, Nat.reduceAdd, Nat.reduceMul, Nat.reduceEqDiff, Nat.reduceLT, Nat.reduceLeDiff, Nat.reduceSub, Nat.reduceBEq, reduceIte, reduceCtorEq, Int.reduceEq, Int.reduceNe, Nat.reduceBneDiff, Int.reduceLE, Int.reduceLT, Int.reduceToNat, Int.reduceAdd, Int.reduceSub, Int.reduceMul, Int.reduceNeg, T_ok3, T_agg3, T_isinfo3, T_info3, T_cells3, T_zero3, T_int3, T_ok23, T_agg23, T_isinfo23, T_info23, T_cells23, T_zero23, T_build23, T_f23_0, T_p23_0, T_f23_1, T_p23_1, T_f23_2, T_p23_2, T_eqs23, ptU, hx, hy, Bool.true_and]
theorem diff_v (x y : Int) : SoundAt Try.prog 47 [.int .i64 x, .int .i64 y] (.int .i64 (IntKind.i64.wrap (x - y))) := by
  refine sound_go (tb := []) 8 [.tmp 4] [0, 1, 4] mixed Try.func47 rfl (by kernel_rfl) (by kernel_rfl) (by kernel_rfl) (by kernel_rfl) ?_
  simp -implicitDefEqProofs only [go_sem, Nat.reduceAdd, Nat.reduceMul, Nat.reduceEqDiff, Nat.reduceLT, Nat.reduceLeDiff, Nat.reduceSub, Nat.reduceBEq, reduceIte, reduceCtorEq, Int.reduceEq, Int.reduceNe, Nat.reduceBneDiff, Int.reduceLE, Int.reduceLT, Int.reduceToNat, Int.reduceAdd, Int.reduceSub, Int.reduceMul, Int.reduceNeg, T_ok3, T_agg3, T_isinfo3, T_info3, T_cells3, T_zero3, T_int3]
theorem join_v (a b : Sky.V3) : SoundAt Try.prog 46 [v3PV a, v3PV b, .fn 47 [] []] (vecPV (IntKind.i64.wrap (a.x - b.x)) (IntKind.i64.wrap (a.y - b.y)) (IntKind.i64.wrap (a.z - b.z))) := by
  refine sound_go (tb := []) 26 [.cell 6 23] [0, 1, 2, 3, 4, 6] mixed Try.func46 rfl (by kernel_rfl) (by kernel_rfl) (by kernel_rfl) (by kernel_rfl) ?_
  simp -implicitDefEqProofs only [go_sem, Nat.reduceAdd, Nat.reduceMul, Nat.reduceEqDiff, Nat.reduceLT, Nat.reduceLeDiff, Nat.reduceSub, Nat.reduceBEq, reduceIte, reduceCtorEq, Int.reduceEq, Int.reduceNe, Nat.reduceBneDiff, Int.reduceLE, Int.reduceLT, Int.reduceToNat, Int.reduceAdd, Int.reduceSub, Int.reduceMul, Int.reduceNeg, T_ok3, T_agg3, T_isinfo3, T_info3, T_cells3, T_zero3, T_int3, T_ok23, T_agg23, T_isinfo23, T_info23, T_cells23, T_zero23, T_build23, T_f23_0, T_p23_0, T_f23_1, T_p23_1, T_f23_2, T_p23_2, T_eqs23, v3PV, vecPV]
  refine gcall_intro _ _ _ _ _ _ _ _ _ (diff_v _ _) ?_
  simp -implicitDefEqProofs only [go_sem, Nat.reduceAdd, Nat.reduceMul, Nat.reduceEqDiff, Nat.reduceLT, Nat.reduceLeDiff, Nat.reduceSub, Nat.reduceBEq, reduceIte, reduceCtorEq, Int.reduceEq, Int.reduceNe, Nat.reduceBneDiff, Int.reduceLE, Int.reduceLT, Int.reduceToNat, Int.reduceAdd, Int.reduceSub, Int.reduceMul, Int.reduceNeg, T_ok3, T_agg3, T_isinfo3, T_info3, T_cells3, T_zero3, T_int3, T_ok23, T_agg23, T_isinfo23, T_info23, T_cells23, T_zero23, T_build23, T_f23_0, T_p23_0, T_f23_1, T_p23_1, T_f23_2, T_p23_2, T_eqs23]
  refine gcall_intro _ _ _ _ _ _ _ _ _ (diff_v _ _) ?_
  simp -implicitDefEqProofs only [go_sem, Nat.reduceAdd, Nat.reduceMul, Nat.reduceEqDiff, Nat.reduceLT, Nat.reduceLeDiff, Nat.reduceSub, Nat.reduceBEq, reduceIte, reduceCtorEq, Int.reduceEq, Int.reduceNe, Nat.reduceBneDiff, Int.reduceLE, Int.reduceLT, Int.reduceToNat, Int.reduceAdd, Int.reduceSub, Int.reduceMul, Int.reduceNeg, T_ok3, T_agg3, T_isinfo3, T_info3, T_cells3, T_zero3, T_int3, T_ok23, T_agg23, T_isinfo23, T_info23, T_cells23, T_zero23, T_build23, T_f23_0, T_p23_0, T_f23_1, T_p23_1, T_f23_2, T_p23_2, T_eqs23]
  refine gcall_intro _ _ _ _ _ _ _ _ _ (diff_v _ _) ?_
  simp -implicitDefEqProofs only [go_sem, Nat.reduceAdd, Nat.reduceMul, Nat.reduceEqDiff, Nat.reduceLT, Nat.reduceLeDiff, Nat.reduceSub, Nat.reduceBEq, reduceIte, reduceCtorEq, Int.reduceEq, Int.reduceNe, Nat.reduceBneDiff, Int.reduceLE, Int.reduceLT, Int.reduceToNat, Int.reduceAdd, Int.reduceSub, Int.reduceMul, Int.reduceNeg, T_ok3, T_agg3, T_isinfo3, T_info3, T_cells3, T_zero3, T_int3, T_ok23, T_agg23, T_isinfo23, T_info23, T_cells23, T_zero23, T_build23, T_f23_0, T_p23_0, T_f23_1, T_p23_1, T_f23_2, T_p23_2, T_eqs23]
  exact drawQ_true _ _ (by kernel_rfl)
theorem dot_v (a b : Sky.V3) : SoundAt Try.prog 48 [v3PV a, v3PV b] (.int .i64 (IntKind.i64.wrap (IntKind.i64.wrap (IntKind.i64.wrap (a.x * b.x) + IntKind.i64.wrap (a.y * b.y)) + IntKind.i64.wrap (a.z * b.z)))) := by
  refine sound_go (tb := []) 22 [.tmp 4] [0, 1, 2, 3, 4] mixed Try.func48 rfl (by kernel_rfl) (by kernel_rfl) (by kernel_rfl) (by kernel_rfl) ?_
  simp -implicitDefEqProofs only [go_sem, Nat.reduceAdd, Nat.reduceMul, Nat.reduceEqDiff, Nat.reduceLT, Nat.reduceLeDiff, Nat.reduceSub, Nat.reduceBEq, reduceIte, reduceCtorEq, Int.reduceEq, Int.reduceNe, Nat.reduceBneDiff, Int.reduceLE, Int.reduceLT, Int.reduceToNat, Int.reduceAdd, Int.reduceSub, Int.reduceMul, Int.reduceNeg, T_ok3, T_agg3, T_isinfo3, T_info3, T_cells3, T_zero3, T_int3, T_ok23, T_agg23, T_isinfo23, T_info23, T_cells23, T_zero23, T_build23, T_f23_0, T_p23_0, T_f23_1, T_p23_1, T_f23_2, T_p23_2, T_eqs23, v3PV, vecPV]
end Go.Proofs.Ytkajnimlfehmeaa

namespace Go.Vl
open Go.RowKit

theorem u64_wrap (n : Nat) : IntKind.u64.wrap (n : Int) = ((n % 18446744073709551616 : Nat) : Int) := by
  simp [IntKind.wrap, IntKind.signed, IntKind.bits]
theorem fdiv32 (n : Nat) : (n : Int).fdiv (2 ^ min 32 64) = ((n / 4294967296 : Nat) : Int) := by
  rw [Int.fdiv_eq_ediv_of_nonneg _ (by decide)]
  rfl
theorem mask32 (n : Nat) : IntKind.u64.wrap ((BitVec.ofInt 64 (n : Int) &&& BitVec.ofInt 64 4294967295).toNat : Int) = ((n % 4294967296 : Nat) : Int) := by
  rw [u64_wrap]
  congr 1
  rw [BitVec.toNat_and]
  have h1 : (BitVec.ofInt 64 (n : Int)).toNat = n % 18446744073709551616 := by simp
  have h2 : (BitVec.ofInt 64 4294967295).toNat = 2 ^ 32 - 1 := by decide
  rw [h1, h2, Nat.and_two_pow_sub_one_eq_mod]
  omega
theorem b_mask {P : Program} {t : TypeId} (n : Nat) : binPV .and t P (.int .u64 (n : Int)) (.int .u64 4294967295) = some (.int .u64 ((n % 4294967296 : Nat) : Int)) := by
  rw [b_and]
  exact congrArg (fun z => some (PV.int .u64 z)) (mask32 n)
attribute [go_sem high] b_mask
theorem mul64 {x y : Nat} (hx : x < 18446744073709551616) (hy : y < 18446744073709551616) :
    ((x / 4294967296 * (y / 4294967296) % 18446744073709551616 + (x / 4294967296 * (y % 4294967296) % 18446744073709551616 + (x % 4294967296 * (y % 4294967296) % 18446744073709551616) / 4294967296) % 18446744073709551616 / 4294967296) % 18446744073709551616 +
      ((x / 4294967296 * (y % 4294967296) % 18446744073709551616 + (x % 4294967296 * (y % 4294967296) % 18446744073709551616) / 4294967296) % 18446744073709551616 % 4294967296 + x % 4294967296 * (y / 4294967296) % 18446744073709551616) % 18446744073709551616 / 4294967296) % 18446744073709551616 = x * y / 18446744073709551616 := by
  have a1 : x / 4294967296 ≤ 4294967295 := by omega
  have a0 : x % 4294967296 ≤ 4294967295 := by omega
  have b1 : y / 4294967296 ≤ 4294967295 := by omega
  have b0 : y % 4294967296 ≤ 4294967295 := by omega
  have ex : x = x / 4294967296 * 4294967296 + x % 4294967296 := by omega
  have ey : y = y / 4294967296 * 4294967296 + y % 4294967296 := by omega
  have hxy : x * y = x / 4294967296 * (y / 4294967296) * 18446744073709551616 + (x / 4294967296 * (y % 4294967296) + x % 4294967296 * (y / 4294967296)) * 4294967296 + x % 4294967296 * (y % 4294967296) := by
    generalize x / 4294967296 = p at *
    generalize x % 4294967296 = q at *
    generalize y / 4294967296 = r at *
    generalize y % 4294967296 = s at *
    subst ex ey
    simp only [Nat.add_mul, Nat.mul_add]
    rw [show p * 4294967296 * (r * 4294967296) = p * r * 18446744073709551616 by rw [Nat.mul_mul_mul_comm]]
    rw [show p * 4294967296 * s = p * s * 4294967296 by rw [Nat.mul_right_comm], show q * (r * 4294967296) = q * r * 4294967296 by rw [Nat.mul_assoc]]
    omega
  have hlt : x * y ≤ 18446744073709551615 * 18446744073709551615 := Nat.mul_le_mul (by omega) (by omega)
  have h11 := Nat.mul_le_mul a1 b1
  have h10 := Nat.mul_le_mul a1 b0
  have h01 := Nat.mul_le_mul a0 b1
  have h00 := Nat.mul_le_mul a0 b0
  rw [hxy] at hlt ⊢
  generalize x / 4294967296 * (y / 4294967296) = P at *
  generalize x / 4294967296 * (y % 4294967296) = Q at *
  generalize x % 4294967296 * (y / 4294967296) = R at *
  generalize x % 4294967296 * (y % 4294967296) = W at *
  clear hxy ex ey a1 a0 b1 b0
  omega
end Go.Vl

namespace Go.Proofs.Ytkajnimlfehmeaa
open Go.Vl Go.RowKit

theorem Mul64_v (x y : Nat) (hx : x < 18446744073709551616) (hy : y < 18446744073709551616) : SoundAt Try.prog 57 [.int .u64 x, .int .u64 y] (.tup [.int .u64 ((x * y / 18446744073709551616 : Nat) : Int), .int .u64 ((x * y % 18446744073709551616 : Nat) : Int)]) := by
  refine sound_go (tb := []) 51 [.tmp 4, .tmp 5] [0, 1, 4, 5, 6, 7, 8, 9, 10, 11, 12, 13] mixed Try.func57 rfl (by kernel_rfl) (by kernel_rfl) (by kernel_rfl) (by kernel_rfl) ?_
  simp -implicitDefEqProofs only [go_sem, Nat.reduceAdd, Nat.reduceMul, Nat.reduceEqDiff, Nat.reduceLT, Nat.reduceLeDiff, Nat.reduceSub, Nat.reduceBEq, reduceIte, reduceCtorEq, Int.reduceEq, Int.reduceNe, Nat.reduceBneDiff, Int.reduceLE, Int.reduceLT, Int.reduceToNat, Int.reduceAdd, Int.reduceSub, Int.reduceMul, Int.reduceNeg, T_ok66, T_agg66, T_isinfo66, T_info66, T_cells66, T_zero66, T_int66, T_ok97, T_agg97, T_isinfo97, T_info97, T_cells97, T_zero97, T_int97, u64_wrap, fdiv32, ← Int.natCast_mul, ← Int.natCast_add, mul64 hx hy]

abbrev B64 : Nat := 18446744073709551616
def nb (n : Nat) : PV := .agg [.int .u64 ((n / 18446744073709551616 : Nat) : Int), .int .u64 ((n % 18446744073709551616 : Nat) : Int)]
theorem nb_mul {n b : Nat} (hb : b < 9223372036854775808) (h : n * b < 340282366920938463463374607431768211456) :
    (n % 18446744073709551616 * b / 18446744073709551616 + n / 18446744073709551616 * b % 18446744073709551616) % 18446744073709551616 = n * b / 18446744073709551616 ∧ n % 18446744073709551616 * b % 18446744073709551616 = n * b % 18446744073709551616 := by
  have e : n * b = n / 18446744073709551616 * b * 18446744073709551616 + n % 18446744073709551616 * b := by
    have : n = n / 18446744073709551616 * 18446744073709551616 + n % 18446744073709551616 := by omega
    generalize n / 18446744073709551616 = p at *
    generalize n % 18446744073709551616 = q at *
    subst this
    rw [Nat.add_mul, Nat.mul_right_comm]
  rw [e] at h ⊢
  generalize n / 18446744073709551616 * b = P at *
  generalize n % 18446744073709551616 * b = Q at *
  constructor <;> omega
theorem times_v (n b : Nat) (hb : b < 9223372036854775808) (h : n * b < 340282366920938463463374607431768211456) : SoundAt Try.prog 49 [nb n, .int .i64 (b : Int)] (nb (n * b)) := by
  obtain ⟨e1, e2⟩ := nb_mul hb h
  have hb' : b % 18446744073709551616 = b := Nat.mod_eq_of_lt (by omega)
  refine sound_go (tb := []) 24 [.cell 4 68] [0, 1, 2, 4, 5, 6] mixed Try.func49 rfl (by kernel_rfl) (by kernel_rfl) (by kernel_rfl) (by kernel_rfl) ?_
  simp -implicitDefEqProofs only [go_sem, Nat.reduceAdd, Nat.reduceMul, Nat.reduceEqDiff, Nat.reduceLT, Nat.reduceLeDiff, Nat.reduceSub, Nat.reduceBEq, reduceIte, reduceCtorEq, Int.reduceEq, Int.reduceNe, Nat.reduceBneDiff, Int.reduceLE, Int.reduceLT, Int.reduceToNat, Int.reduceAdd, Int.reduceSub, Int.reduceMul, Int.reduceNeg, T_ok3, T_agg3, T_isinfo3, T_info3, T_cells3, T_zero3, T_int3, T_ok66, T_agg66, T_isinfo66, T_info66, T_cells66, T_zero66, T_int66, T_ok68, T_agg68, T_isinfo68, T_info68, T_cells68, T_zero68, T_build68, T_f68_0, T_p68_0, T_f68_1, T_p68_1, T_eqs68, nb, u64_wrap, hb']
  refine gcall_intro _ _ _ _ _ _ _ _ _ (Mul64_v (n % 18446744073709551616) b (Nat.mod_lt _ (by decide)) (by omega)) ?_
  simp -implicitDefEqProofs only [go_sem, Nat.reduceAdd, Nat.reduceMul, Nat.reduceEqDiff, Nat.reduceLT, Nat.reduceLeDiff, Nat.reduceSub, Nat.reduceBEq, reduceIte, reduceCtorEq, Int.reduceEq, Int.reduceNe, Nat.reduceBneDiff, Int.reduceLE, Int.reduceLT, Int.reduceToNat, Int.reduceAdd, Int.reduceSub, Int.reduceMul, Int.reduceNeg, T_ok3, T_agg3, T_isinfo3, T_info3, T_cells3, T_zero3, T_int3, T_ok66, T_agg66, T_isinfo66, T_info66, T_cells66, T_zero66, T_int66, T_ok68, T_agg68, T_isinfo68, T_info68, T_cells68, T_zero68, T_build68, T_f68_0, T_p68_0, T_f68_1, T_p68_1, T_eqs68, nb, u64_wrap, hb', ← Int.natCast_mul, ← Int.natCast_add, e1, e2]
theorem more_v (a b : Nat) : SoundAt Try.prog 34 [nb a, nb b] (.bool (decide (b < a))) := by
  refine sound_go (tb := []) 24 [.tmp 4] [0, 1, 2, 3, 4] mixed Try.func34 rfl (by kernel_rfl) (by kernel_rfl) (by kernel_rfl) (by kernel_rfl) ?_
  by_cases h1 : b / 18446744073709551616 < a / 18446744073709551616
  · have h1' : (((b / 18446744073709551616 : Nat) : Int) < ((a / 18446744073709551616 : Nat) : Int)) = True := by simp only [eq_iff_iff, iff_true]; omega
    have e : decide (b < a) = true := by simp; omega
    simp -implicitDefEqProofs only [go_sem, Nat.reduceAdd, Nat.reduceMul, Nat.reduceEqDiff, Nat.reduceLT, Nat.reduceLeDiff, Nat.reduceSub, Nat.reduceBEq, reduceIte, reduceCtorEq, Int.reduceEq, Int.reduceNe, Nat.reduceBneDiff, Int.reduceLE, Int.reduceLT, Int.reduceToNat, Int.reduceAdd, Int.reduceSub, Int.reduceMul, Int.reduceNeg, T_ok66, T_agg66, T_isinfo66, T_info66, T_cells66, T_zero66, T_int66, T_ok68, T_agg68, T_isinfo68, T_info68, T_cells68, T_zero68, T_build68, T_f68_0, T_p68_0, T_f68_1, T_p68_1, T_eqs68, nb, h1', e]
  · have h1' : (((b / 18446744073709551616 : Nat) : Int) < ((a / 18446744073709551616 : Nat) : Int)) = False := by simp only [eq_iff_iff, iff_false]; omega
    by_cases h2 : a / 18446744073709551616 = b / 18446744073709551616
    · have h2' : (((a / 18446744073709551616 : Nat) : Int) == ((b / 18446744073709551616 : Nat) : Int)) = true := by rw [h2]; simp
      by_cases h3 : b % 18446744073709551616 < a % 18446744073709551616
      · have h3' : (((b % 18446744073709551616 : Nat) : Int) < ((a % 18446744073709551616 : Nat) : Int)) = True := by simp only [eq_iff_iff, iff_true]; omega
        have e : decide (b < a) = true := by simp; omega
        simp -implicitDefEqProofs only [go_sem, Nat.reduceAdd, Nat.reduceMul, Nat.reduceEqDiff, Nat.reduceLT, Nat.reduceLeDiff, Nat.reduceSub, Nat.reduceBEq, reduceIte, reduceCtorEq, Int.reduceEq, Int.reduceNe, Nat.reduceBneDiff, Int.reduceLE, Int.reduceLT, Int.reduceToNat, Int.reduceAdd, Int.reduceSub, Int.reduceMul, Int.reduceNeg, T_ok66, T_agg66, T_isinfo66, T_info66, T_cells66, T_zero66, T_int66, T_ok68, T_agg68, T_isinfo68, T_info68, T_cells68, T_zero68, T_build68, T_f68_0, T_p68_0, T_f68_1, T_p68_1, T_eqs68, nb, h1', h2', h3', e]
      · have h3' : (((b % 18446744073709551616 : Nat) : Int) < ((a % 18446744073709551616 : Nat) : Int)) = False := by simp only [eq_iff_iff, iff_false]; omega
        have e : decide (b < a) = false := by simp; omega
        simp -implicitDefEqProofs only [go_sem, Nat.reduceAdd, Nat.reduceMul, Nat.reduceEqDiff, Nat.reduceLT, Nat.reduceLeDiff, Nat.reduceSub, Nat.reduceBEq, reduceIte, reduceCtorEq, Int.reduceEq, Int.reduceNe, Nat.reduceBneDiff, Int.reduceLE, Int.reduceLT, Int.reduceToNat, Int.reduceAdd, Int.reduceSub, Int.reduceMul, Int.reduceNeg, T_ok66, T_agg66, T_isinfo66, T_info66, T_cells66, T_zero66, T_int66, T_ok68, T_agg68, T_isinfo68, T_info68, T_cells68, T_zero68, T_build68, T_f68_0, T_p68_0, T_f68_1, T_p68_1, T_eqs68, nb, h1', h2', h3', e]
    · have h2' : (((a / 18446744073709551616 : Nat) : Int) == ((b / 18446744073709551616 : Nat) : Int)) = false := by simp only [beq_eq_false_iff_ne, ne_eq]; omega
      have e : decide (b < a) = false := by simp; omega
      simp -implicitDefEqProofs only [go_sem, Nat.reduceAdd, Nat.reduceMul, Nat.reduceEqDiff, Nat.reduceLT, Nat.reduceLeDiff, Nat.reduceSub, Nat.reduceBEq, reduceIte, reduceCtorEq, Int.reduceEq, Int.reduceNe, Nat.reduceBneDiff, Int.reduceLE, Int.reduceLT, Int.reduceToNat, Int.reduceAdd, Int.reduceSub, Int.reduceMul, Int.reduceNeg, T_ok66, T_agg66, T_isinfo66, T_info66, T_cells66, T_zero66, T_int66, T_ok68, T_agg68, T_isinfo68, T_info68, T_cells68, T_zero68, T_build68, T_f68_0, T_p68_0, T_f68_1, T_p68_1, T_eqs68, nb, h1', h2', e]
def prodN (l : List Nat) : Nat := l.foldl (· * ·) 1
theorem prodN_snoc (l : List Nat) (d : Nat) : prodN (l ++ [d]) = prodN l * d := by simp [prodN]
theorem ren_nb (θ : List (Nat × Nat)) (n : Nat) : ren1 θ (nb n) = some (nb n) := rfl
theorem ok_nb (n : Nat) : okCells (nb n).cells = true := rfl
theorem ren_z (θ : List (Nat × Nat)) (a b : Int) : ren1 θ (PV.agg [PV.int .u64 a, PV.int .u64 b]) = some (PV.agg [PV.int .u64 a, PV.int .u64 b]) := rfl
theorem ok_z (a b : Int) : okCells (PV.agg [PV.int .u64 a, PV.int .u64 b]).cells = true := rfl
theorem product_v (l : List Nat) (hl : l.length ≤ 1000) (hb : ∀ d ∈ l, d < 9223372036854775808) (hp : ∀ k, k ≤ l.length → prodN (l.take k) < 340282366920938463463374607431768211456) : SoundAt Try.prog 32 [di l] (nb (prodN l)) := by
  refine sound_go (tb := []) 18 [.cell 2 68] [0, 2, 3, 5, 7, 8, 9, 10] mixed Try.func32 rfl (by kernel_rfl) (by kernel_rfl) (by kernel_rfl) (by kernel_rfl) ?_
  simp -implicitDefEqProofs only [go_sem, Nat.reduceAdd, Nat.reduceMul, Nat.reduceEqDiff, Nat.reduceLT, Nat.reduceLeDiff, Nat.reduceSub, Nat.reduceBEq, reduceIte, reduceCtorEq, Int.reduceEq, Int.reduceNe, Nat.reduceBneDiff, Int.reduceLE, Int.reduceLT, Int.reduceToNat, Int.reduceAdd, Int.reduceSub, Int.reduceMul, Int.reduceNeg, T_ok3, T_agg3, T_isinfo3, T_info3, T_cells3, T_zero3, T_int3, T_ok36, T_agg36, T_isinfo36, T_info36, T_cells36, T_zero36, T_elem36, T_under36, T_len36s, T_len36n, T_len36b, T_ok66, T_agg66, T_isinfo66, T_info66, T_cells66, T_zero66, T_int66, T_ok68, T_agg68, T_isinfo68, T_info68, T_cells68, T_zero68, T_build68, T_f68_0, T_p68_0, T_f68_1, T_p68_1, T_eqs68, di, List.length_map]
  refine g_loop mixed (fun k : { k : Nat // k ≤ l.length } => St.of [(0, di l), (2, .bp 0 2 0 0), (3, .bp 101 2 0 0), (7, di l), (8, .int .i64 (l.length : Int)), (9, .int .i64 k.1)]
      [(0, { els := [.agg [.int .u64 0, .int .u64 0]], esz := 2, ety := 68, fro := 0, live := true, arr := false }), (101, { els := [nb (prodN (l.take k.1))], esz := 2, ety := 68, fro := 0, live := true, arr := false })]) (fun k => l.length - k.1) ⟨0, by simp⟩ ?_ ?_
  · refine le_of (θ := [(0, 0), (101, 101)]) rfl ?_ ?_
    · simp [varsLe, lkp, ren1, ren0, di]
    · simp [boxesLe, lkp, Box.renames, nb, prodN, ren_z, ok_z]
  · rintro ⟨k, hk⟩
    by_cases hlt : k < l.length
    · have h1 : ((k : Int) < (l.length : Int)) = True := by simp; omega
      have h0 : (0 ≤ (k : Int)) = True := by simp
      have ea : (l.map fun d : Nat => PV.int .i64 (d : Int))[k]? = some (.int .i64 l[k]) := by simp [hlt]
      have hwk : IntKind.i64.wrap ((k : Int) + 1) = ((k + 1 : Nat) : Int) := by rw [wrap_i64 (by omega) (by omega)]; omega
      have htk : l.take (k + 1) = l.take k ++ [l[k]] := by rw [List.take_add_one]; simp [hlt]
      have hpk := hp (k + 1) hlt
      rw [htk, prodN_snoc] at hpk
      simp -implicitDefEqProofs only [go_sem, Nat.reduceAdd, Nat.reduceMul, Nat.reduceEqDiff, Nat.reduceLT, Nat.reduceLeDiff, Nat.reduceSub, Nat.reduceBEq, reduceIte, reduceCtorEq, Int.reduceEq, Int.reduceNe, Nat.reduceBneDiff, Int.reduceLE, Int.reduceLT, Int.reduceToNat, Int.reduceAdd, Int.reduceSub, Int.reduceMul, Int.reduceNeg, T_ok3, T_agg3, T_isinfo3, T_info3, T_cells3, T_zero3, T_int3, T_ok36, T_agg36, T_isinfo36, T_info36, T_cells36, T_zero36, T_elem36, T_under36, T_len36s, T_len36n, T_len36b, T_ok66, T_agg66, T_isinfo66, T_info66, T_cells66, T_zero66, T_int66, T_ok68, T_agg68, T_isinfo68, T_info68, T_cells68, T_zero68, T_build68, T_f68_0, T_p68_0, T_f68_1, T_p68_1, T_eqs68, di, nb, h1, h0, List.length_map, Int.toNat_natCast, ea]
      refine gcall_intro _ _ _ _ _ _ _ _ _ (times_v (prodN (l.take k)) l[k] (hb _ (List.getElem_mem _)) hpk) ?_
      simp -implicitDefEqProofs only [go_sem, Nat.reduceAdd, Nat.reduceMul, Nat.reduceEqDiff, Nat.reduceLT, Nat.reduceLeDiff, Nat.reduceSub, Nat.reduceBEq, reduceIte, reduceCtorEq, Int.reduceEq, Int.reduceNe, Nat.reduceBneDiff, Int.reduceLE, Int.reduceLT, Int.reduceToNat, Int.reduceAdd, Int.reduceSub, Int.reduceMul, Int.reduceNeg, T_ok3, T_agg3, T_isinfo3, T_info3, T_cells3, T_zero3, T_int3, T_ok36, T_agg36, T_isinfo36, T_info36, T_cells36, T_zero36, T_elem36, T_under36, T_len36s, T_len36n, T_len36b, T_ok66, T_agg66, T_isinfo66, T_info66, T_cells66, T_zero66, T_int66, T_ok68, T_agg68, T_isinfo68, T_info68, T_cells68, T_zero68, T_build68, T_f68_0, T_p68_0, T_f68_1, T_p68_1, T_eqs68, nb, hwk]
      refine ⟨⟨k + 1, hlt⟩, by simp only; omega, ?_⟩
      refine le_of (θ := [(0, 0), (101, 101)]) rfl ?_ ?_
      · simp [varsLe, lkp, ren1, ren0, di]
      · simp only [htk, prodN_snoc]
        simp [boxesLe, lkp, Box.renames, nb, ren_z, ok_z]
    · have h1 : ((k : Int) < (l.length : Int)) = False := by simp; omega
      have e : l.take k = l := List.take_of_length_le (by omega)
      simp -implicitDefEqProofs only [go_sem, Nat.reduceAdd, Nat.reduceMul, Nat.reduceEqDiff, Nat.reduceLT, Nat.reduceLeDiff, Nat.reduceSub, Nat.reduceBEq, reduceIte, reduceCtorEq, Int.reduceEq, Int.reduceNe, Nat.reduceBneDiff, Int.reduceLE, Int.reduceLT, Int.reduceToNat, Int.reduceAdd, Int.reduceSub, Int.reduceMul, Int.reduceNeg, T_ok3, T_agg3, T_isinfo3, T_info3, T_cells3, T_zero3, T_int3, T_ok36, T_agg36, T_isinfo36, T_info36, T_cells36, T_zero36, T_elem36, T_under36, T_len36s, T_len36n, T_len36b, T_ok66, T_agg66, T_isinfo66, T_info66, T_cells66, T_zero66, T_int66, T_ok68, T_agg68, T_isinfo68, T_info68, T_cells68, T_zero68, T_build68, T_f68_0, T_p68_0, T_f68_1, T_p68_1, T_eqs68, nb, h1, List.length_map, e]
end Go.Proofs.Ytkajnimlfehmeaa
