/-
  Equality of paths (the reference's) on equal paths.
-/
import Derived.Test.YtkajnimlfehmeaaGG3
set_option linter.unusedSimpArgs false
set_option linter.unusedVariables false
namespace Go.Proofs.Ytkajnimlfehmeaa
open Go.Vl

theorem sameInts_v (a : List Int) (ha : a.length ≤ maxLen) : SoundAt Try.prog 42 [ints a, ints a] (.bool true) := by
  refine sound_go (tb := []) 26 [.tmp 4] [0, 1, 4, 5, 10, 14, 25] mixed Try.func42 rfl (by kernel_rfl) (by kernel_rfl) (by kernel_rfl) (by kernel_rfl) ?_
  have hl' : ((a.length : Int) != (a.length : Int)) = false := by simp
  simp -implicitDefEqProofs only [go_sem, Nat.reduceAdd, Nat.reduceMul, Nat.reduceEqDiff, Nat.reduceLT, Nat.reduceLeDiff, Nat.reduceSub, Nat.reduceBEq, reduceIte, reduceCtorEq, Int.reduceEq, Int.reduceNe, Nat.reduceBneDiff, Int.reduceLE, Int.reduceLT, Int.reduceToNat, Int.reduceAdd, Int.reduceSub, Int.reduceMul, Int.reduceNeg, T_ok3, T_agg3, T_isinfo3, T_info3, T_cells3, T_zero3, T_int3, T_ok36, T_agg36, T_isinfo36, T_info36, T_cells36, T_zero36, T_elem36, T_under36, T_len36s, T_len36n, T_len36b, ints, hl', List.length_map]
  refine g_loop mixed (fun k : { k : Nat // k ≤ a.length } => St.of [(0, ints a), (1, ints a), (4, .bool false), (5, .int .i64 k.1)] []) (fun k => a.length - k.1) ⟨0, by simp⟩ ?_ ?_
  · exact le_vars (by simp [varsLe, lkp, ren1, ren0, ints])
  · rintro ⟨k, hk⟩
    by_cases hlt : k < a.length
    · have h1 : ((k : Int) < (a.length : Int)) = True := by simp; omega
      have h0 : (0 ≤ (k : Int)) = True := by simp
      have ea : (a.map (PV.int .i64))[k]? = some (.int .i64 a[k]) := by simp [hlt]
      have hne' : (a[k] != a[k]) = false := by simp
      simp -implicitDefEqProofs only [go_sem, Nat.reduceAdd, Nat.reduceMul, Nat.reduceEqDiff, Nat.reduceLT, Nat.reduceLeDiff, Nat.reduceSub, Nat.reduceBEq, reduceIte, reduceCtorEq, Int.reduceEq, Int.reduceNe, Nat.reduceBneDiff, Int.reduceLE, Int.reduceLT, Int.reduceToNat, Int.reduceAdd, Int.reduceSub, Int.reduceMul, Int.reduceNeg, T_ok3, T_agg3, T_isinfo3, T_info3, T_cells3, T_zero3, T_int3, T_ok36, T_agg36, T_isinfo36, T_info36, T_cells36, T_zero36, T_elem36, T_under36, T_len36s, T_len36n, T_len36b, ints, h1, h0, List.length_map, Int.toNat_natCast, ea, hne']
      refine ⟨drawQ_true _ _ (by kernel_rfl), ⟨k + 1, hlt⟩, by simp only; omega, ?_⟩
      rw [wrap_i64 (by omega) (by unfold maxLen at ha; omega)]
      exact le_vars (by simp [varsLe, lkp, ren1, ren0])
    · have h1 : ((k : Int) < (a.length : Int)) = False := by simp; omega
      simp -implicitDefEqProofs only [go_sem, Nat.reduceAdd, Nat.reduceMul, Nat.reduceEqDiff, Nat.reduceLT, Nat.reduceLeDiff, Nat.reduceSub, Nat.reduceBEq, reduceIte, reduceCtorEq, Int.reduceEq, Int.reduceNe, Nat.reduceBneDiff, Int.reduceLE, Int.reduceLT, Int.reduceToNat, Int.reduceAdd, Int.reduceSub, Int.reduceMul, Int.reduceNeg, T_ok3, T_agg3, T_isinfo3, T_info3, T_cells3, T_zero3, T_int3, T_ok36, T_agg36, T_isinfo36, T_info36, T_cells36, T_zero36, T_elem36, T_under36, T_len36s, T_len36n, T_len36b, ints, h1, List.length_map]

theorem sameSeg_v (s : Sky.Seg) (hx : s.X.length ≤ maxLen) (hy : s.Y.length ≤ maxLen) (hz : s.Z.length ≤ maxLen) : SoundAt Try.prog 25 [segPV s, segPV s] (.bool true) := by
  refine sound_go (tb := []) 45 [.tmp 4] [0, 1, 2, 3, 4] mixed Try.func25 rfl (by kernel_rfl) (by kernel_rfl) (by kernel_rfl) (by kernel_rfl) ?_
  simp -implicitDefEqProofs only [go_sem, Nat.reduceAdd, Nat.reduceMul, Nat.reduceEqDiff, Nat.reduceLT, Nat.reduceLeDiff, Nat.reduceSub, Nat.reduceBEq, reduceIte, reduceCtorEq, Int.reduceEq, Int.reduceNe, Nat.reduceBneDiff, Int.reduceLE, Int.reduceLT, Int.reduceToNat, Int.reduceAdd, Int.reduceSub, Int.reduceMul, Int.reduceNeg, T_ok3, T_agg3, T_isinfo3, T_info3, T_cells3, T_zero3, T_int3, T_ok36, T_agg36, T_isinfo36, T_info36, T_cells36, T_zero36, T_elem36, T_under36, T_len36s, T_len36n, T_len36b, T_ok56, T_agg56, T_isinfo56, T_info56, T_cells56, T_zero56, T_build56, T_f56_0, T_p56_0, T_f56_1, T_p56_1, T_f56_2, T_p56_2, T_f56_3, T_p56_3, T_f56_4, T_p56_4, T_f56_5, T_p56_5, segPV, segCells, ints, beq_self_eq_true]
  refine gcall_intro _ _ _ _ _ _ _ _ _ (sameInts_v s.X hx) ?_
  simp -implicitDefEqProofs only [go_sem, Nat.reduceAdd, Nat.reduceMul, Nat.reduceEqDiff, Nat.reduceLT, Nat.reduceLeDiff, Nat.reduceSub, Nat.reduceBEq, reduceIte, reduceCtorEq, Int.reduceEq, Int.reduceNe, Nat.reduceBneDiff, Int.reduceLE, Int.reduceLT, Int.reduceToNat, Int.reduceAdd, Int.reduceSub, Int.reduceMul, Int.reduceNeg, T_ok3, T_agg3, T_isinfo3, T_info3, T_cells3, T_zero3, T_int3, T_ok36, T_agg36, T_isinfo36, T_info36, T_cells36, T_zero36, T_elem36, T_under36, T_len36s, T_len36n, T_len36b, T_ok56, T_agg56, T_isinfo56, T_info56, T_cells56, T_zero56, T_build56, T_f56_0, T_p56_0, T_f56_1, T_p56_1, T_f56_2, T_p56_2, T_f56_3, T_p56_3, T_f56_4, T_p56_4, T_f56_5, T_p56_5]
  refine gcall_intro _ _ _ _ _ _ _ _ _ (sameInts_v s.Y hy) ?_
  simp -implicitDefEqProofs only [go_sem, Nat.reduceAdd, Nat.reduceMul, Nat.reduceEqDiff, Nat.reduceLT, Nat.reduceLeDiff, Nat.reduceSub, Nat.reduceBEq, reduceIte, reduceCtorEq, Int.reduceEq, Int.reduceNe, Nat.reduceBneDiff, Int.reduceLE, Int.reduceLT, Int.reduceToNat, Int.reduceAdd, Int.reduceSub, Int.reduceMul, Int.reduceNeg, T_ok3, T_agg3, T_isinfo3, T_info3, T_cells3, T_zero3, T_int3, T_ok36, T_agg36, T_isinfo36, T_info36, T_cells36, T_zero36, T_elem36, T_under36, T_len36s, T_len36n, T_len36b, T_ok56, T_agg56, T_isinfo56, T_info56, T_cells56, T_zero56, T_build56, T_f56_0, T_p56_0, T_f56_1, T_p56_1, T_f56_2, T_p56_2, T_f56_3, T_p56_3, T_f56_4, T_p56_4, T_f56_5, T_p56_5]
  refine gcall_intro _ _ _ _ _ _ _ _ _ (sameInts_v s.Z hz) ?_
  simp -implicitDefEqProofs only [go_sem, Nat.reduceAdd, Nat.reduceMul, Nat.reduceEqDiff, Nat.reduceLT, Nat.reduceLeDiff, Nat.reduceSub, Nat.reduceBEq, reduceIte, reduceCtorEq, Int.reduceEq, Int.reduceNe, Nat.reduceBneDiff, Int.reduceLE, Int.reduceLT, Int.reduceToNat, Int.reduceAdd, Int.reduceSub, Int.reduceMul, Int.reduceNeg, T_ok3, T_agg3, T_isinfo3, T_info3, T_cells3, T_zero3, T_int3, T_ok36, T_agg36, T_isinfo36, T_info36, T_cells36, T_zero36, T_elem36, T_under36, T_len36s, T_len36n, T_len36b, T_ok56, T_agg56, T_isinfo56, T_info56, T_cells56, T_zero56, T_build56, T_f56_0, T_p56_0, T_f56_1, T_p56_1, T_f56_2, T_p56_2, T_f56_3, T_p56_3, T_f56_4, T_p56_4, T_f56_5, T_p56_5]

/-- A path of which every coordinate has a length. -/
def fitSeg (s : Sky.Seg) : Prop := s.X.length ≤ maxLen ∧ s.Y.length ≤ maxLen ∧ s.Z.length ≤ maxLen
theorem same_v (p : List Sky.Seg) (hp : p.length ≤ maxLen) (hf : ∀ s ∈ p, fitSeg s) : SoundAt Try.prog 11 [pathPV p, pathPV p] (.bool true) := by
  refine sound_go (tb := []) 27 [.tmp 4] [0, 1, 4, 5, 10, 14, 26] mixed Try.func11 rfl (by kernel_rfl) (by kernel_rfl) (by kernel_rfl) (by kernel_rfl) ?_
  have hl' : ((p.length : Int) != (p.length : Int)) = false := by simp
  simp -implicitDefEqProofs only [go_sem, Nat.reduceAdd, Nat.reduceMul, Nat.reduceEqDiff, Nat.reduceLT, Nat.reduceLeDiff, Nat.reduceSub, Nat.reduceBEq, reduceIte, reduceCtorEq, Int.reduceEq, Int.reduceNe, Nat.reduceBneDiff, Int.reduceLE, Int.reduceLT, Int.reduceToNat, Int.reduceAdd, Int.reduceSub, Int.reduceMul, Int.reduceNeg, T_ok3, T_agg3, T_isinfo3, T_info3, T_cells3, T_zero3, T_int3, T_ok4, T_agg4, T_isinfo4, T_info4, T_cells4, T_zero4, T_bool4, T_ok25, T_agg25, T_isinfo25, T_info25, T_cells25, T_zero25, T_elem25, T_under25, T_len25s, T_len25n, T_len25b, T_ok36, T_agg36, T_isinfo36, T_info36, T_cells36, T_zero36, T_elem36, T_under36, T_len36s, T_len36n, T_len36b, T_ok56, T_agg56, T_isinfo56, T_info56, T_cells56, T_zero56, T_build56, T_f56_0, T_p56_0, T_f56_1, T_p56_1, T_f56_2, T_p56_2, T_f56_3, T_p56_3, T_f56_4, T_p56_4, T_f56_5, T_p56_5, pathPV, hl', List.length_map]
  refine g_loop mixed (fun k : { k : Nat // k ≤ p.length } => St.of [(0, pathPV p), (1, pathPV p), (4, .bool false), (5, .int .i64 k.1)] []) (fun k => p.length - k.1) ⟨0, by simp⟩ ?_ ?_
  · exact le_vars (by simp [varsLe, lkp, ren1, ren0, pathPV])
  · rintro ⟨k, hk⟩
    by_cases hlt : k < p.length
    · have h1 : ((k : Int) < (p.length : Int)) = True := by simp; omega
      have h0 : (0 ≤ (k : Int)) = True := by simp
      have ea : (p.map segPV)[k]? = some (.agg (segCells p[k])) := by simp [hlt, segPV]
      have hcl : (segCells p[k]).length = 6 := rfl
      have hct : (segCells p[k]).take 6 = segCells p[k] := rfl
      simp -implicitDefEqProofs only [go_sem, Nat.reduceAdd, Nat.reduceMul, Nat.reduceEqDiff, Nat.reduceLT, Nat.reduceLeDiff, Nat.reduceSub, Nat.reduceBEq, reduceIte, reduceCtorEq, Int.reduceEq, Int.reduceNe, Nat.reduceBneDiff, Int.reduceLE, Int.reduceLT, Int.reduceToNat, Int.reduceAdd, Int.reduceSub, Int.reduceMul, Int.reduceNeg, T_ok3, T_agg3, T_isinfo3, T_info3, T_cells3, T_zero3, T_int3, T_ok4, T_agg4, T_isinfo4, T_info4, T_cells4, T_zero4, T_bool4, T_ok25, T_agg25, T_isinfo25, T_info25, T_cells25, T_zero25, T_elem25, T_under25, T_len25s, T_len25n, T_len25b, T_ok36, T_agg36, T_isinfo36, T_info36, T_cells36, T_zero36, T_elem36, T_under36, T_len36s, T_len36n, T_len36b, T_ok56, T_agg56, T_isinfo56, T_info56, T_cells56, T_zero56, T_build56, T_f56_0, T_p56_0, T_f56_1, T_p56_1, T_f56_2, T_p56_2, T_f56_3, T_p56_3, T_f56_4, T_p56_4, T_f56_5, T_p56_5, pathPV, h1, h0, List.length_map, Int.toNat_natCast, ea, hcl, hct, List.drop_zero]
      obtain ⟨f1, f2, f3⟩ := hf p[k] (List.getElem_mem _)
      refine gcall_intro _ _ _ _ _ _ _ _ _ (sameSeg_v p[k] f1 f2 f3) ?_
      simp -implicitDefEqProofs only [go_sem, Nat.reduceAdd, Nat.reduceMul, Nat.reduceEqDiff, Nat.reduceLT, Nat.reduceLeDiff, Nat.reduceSub, Nat.reduceBEq, reduceIte, reduceCtorEq, Int.reduceEq, Int.reduceNe, Nat.reduceBneDiff, Int.reduceLE, Int.reduceLT, Int.reduceToNat, Int.reduceAdd, Int.reduceSub, Int.reduceMul, Int.reduceNeg, T_ok3, T_agg3, T_isinfo3, T_info3, T_cells3, T_zero3, T_int3, T_ok4, T_agg4, T_isinfo4, T_info4, T_cells4, T_zero4, T_bool4, T_ok25, T_agg25, T_isinfo25, T_info25, T_cells25, T_zero25, T_elem25, T_under25, T_len25s, T_len25n, T_len25b, T_ok36, T_agg36, T_isinfo36, T_info36, T_cells36, T_zero36, T_elem36, T_under36, T_len36s, T_len36n, T_len36b, T_ok56, T_agg56, T_isinfo56, T_info56, T_cells56, T_zero56, T_build56, T_f56_0, T_p56_0, T_f56_1, T_p56_1, T_f56_2, T_p56_2, T_f56_3, T_p56_3, T_f56_4, T_p56_4, T_f56_5, T_p56_5]
      refine ⟨drawQ_true _ _ (by kernel_rfl), ⟨k + 1, hlt⟩, by simp only; omega, ?_⟩
      rw [wrap_i64 (by omega) (by unfold maxLen at hp; omega)]
      exact le_vars (by simp [varsLe, lkp, ren1, ren0, pathPV])
    · have h1 : ((k : Int) < (p.length : Int)) = False := by simp; omega
      simp -implicitDefEqProofs only [go_sem, Nat.reduceAdd, Nat.reduceMul, Nat.reduceEqDiff, Nat.reduceLT, Nat.reduceLeDiff, Nat.reduceSub, Nat.reduceBEq, reduceIte, reduceCtorEq, Int.reduceEq, Int.reduceNe, Nat.reduceBneDiff, Int.reduceLE, Int.reduceLT, Int.reduceToNat, Int.reduceAdd, Int.reduceSub, Int.reduceMul, Int.reduceNeg, T_ok3, T_agg3, T_isinfo3, T_info3, T_cells3, T_zero3, T_int3, T_ok4, T_agg4, T_isinfo4, T_info4, T_cells4, T_zero4, T_bool4, T_ok25, T_agg25, T_isinfo25, T_info25, T_cells25, T_zero25, T_elem25, T_under25, T_len25s, T_len25n, T_len25b, T_ok36, T_agg36, T_isinfo36, T_info36, T_cells36, T_zero36, T_elem36, T_under36, T_len36s, T_len36n, T_len36b, T_ok56, T_agg56, T_isinfo56, T_info56, T_cells56, T_zero56, T_build56, T_f56_0, T_p56_0, T_f56_1, T_p56_1, T_f56_2, T_p56_2, T_f56_3, T_p56_3, T_f56_4, T_p56_4, T_f56_5, T_p56_5, pathPV, h1, List.length_map]
end Go.Proofs.Ytkajnimlfehmeaa
