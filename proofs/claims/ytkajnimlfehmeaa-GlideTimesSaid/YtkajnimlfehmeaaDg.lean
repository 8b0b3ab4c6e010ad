/-
  GG5, GG6, GG7, Dg (merged for the claim).
-/
import Derived.Test.YtkajnimlfehmeaaUW
import Derived.Test.YtkajnimlfehmeaaRows
set_option linter.unusedSimpArgs false
set_option linter.unusedVariables false
namespace Go.Proofs.Ytkajnimlfehmeaa
open Go.Vl

theorem maxLen_lt0 : maxLen < 9223372036854775808 := by simp [maxLen]
theorem vec_v (x y z : Int) : SoundAt Try.prog 13 [.int .i64 x, .int .i64 y, .int .i64 z] (vecPV x y z) := by
  refine sound_go (tb := []) 11 [.cell 6 23] [0, 1, 2, 6] mixed Try.func13 rfl (by kernel_rfl) (by kernel_rfl) (by kernel_rfl) (by kernel_rfl) ?_
  simp -implicitDefEqProofs only [go_sem, Nat.reduceAdd, Nat.reduceMul, Nat.reduceEqDiff, Nat.reduceLT, Nat.reduceLeDiff, Nat.reduceSub, Nat.reduceBEq, reduceIte, reduceCtorEq, Int.reduceEq, Int.reduceNe, Nat.reduceBneDiff, Int.reduceLE, Int.reduceLT, Int.reduceToNat, Int.reduceAdd, Int.reduceSub, Int.reduceMul, Int.reduceNeg, T_ok3, T_agg3, T_isinfo3, T_info3, T_cells3, T_zero3, T_int3, T_ok23, T_agg23, T_isinfo23, T_info23, T_cells23, T_zero23, T_build23, T_f23_0, T_p23_0, T_f23_1, T_p23_1, T_f23_2, T_p23_2, T_eqs23, vecPV]
theorem legS_fit (a b : Sky.V3) (t u k : Int) : fitSeg (legS a b t u k) := by
  have h : ∀ a b k : Int, (termsL a b (rowL k)).length ≤ maxLen := by
    intro a b k
    unfold termsL
    have := rowL_len k
    split <;> simp [maxLen] <;> omega
  exact ⟨h _ _ _, h _ _ _, h _ _ _⟩
theorem tour_fit (ps : List Sky.V3) (ts : List Int) : (tourP ps ts).1.length ≤ maxLen ∧ ∀ s ∈ (tourP ps ts).1, fitSeg s := by
  unfold tourP
  split
  · exact ⟨by simp, by simp⟩
  · split
    · exact ⟨by simp, by simp⟩
    · split
      · exact ⟨by simp, by simp⟩
      · refine ⟨by rw [legsL_len]; simp [maxLen]; omega, fun s hs => ?_⟩
        simp only [legsL, List.mem_map] at hs
        obtain ⟨i, _, rfl⟩ := hs
        exact legS_fit _ _ _ _ _

theorem tours_few (ps : List Sky.V3) (ts : List Int) (m : Int) (hp : ps.length ≤ 20) (ht : ts.length ≤ 20) (hm : ¬ (255 ≤ m ∧ m ≤ 259)) : SoundAt Try.prog 4 [.slc (ps.map v3PV), ints ts, .int .i64 m] (.bool true) := by
  have hml := maxLen_lt0
  obtain ⟨f1, f2⟩ := tour_fit ps ts
  refine sound_go (tb := []) 105 [.tmp 6] [0, 1, 2, 6, 7, 8, 9, 10, 11, 12, 13, 14, 15, 23, 30, 33, 67, 78, 82, 93] mixed Try.func4 rfl (by kernel_rfl) (by kernel_rfl) (by kernel_rfl) (by kernel_rfl) ?_
  have hp' : ((ps.length : Int) > 20) = False := by simp; omega
  have ht' : ((ts.length : Int) > 20) = False := by simp; omega
  have hall : ((ps.map v3PV).all fun e => e.cells.length == 3 && e.cells.all PV.okCell) = true := by rw [List.all_map, List.all_eq_true]; intro _ _; rfl
  have hall1 : ((ts.map (PV.int .i64)).all fun e => e.cells.length == 1 && e.cells.all PV.okCell) = true := by rw [List.all_map, List.all_eq_true]; intro _ _; rfl
  have hs1 : (ps.length * 24 ≤ 140737488355328) = True := by simp only [eq_iff_iff, iff_true]; omega
  have hs2 : (ps.length ≤ maxLen) = True := by simp only [eq_iff_iff, iff_true]; unfold maxLen; omega
  have hs3 : (ts.length * 8 ≤ 140737488355328) = True := by simp only [eq_iff_iff, iff_true]; omega
  have hs4 : (ts.length ≤ maxLen) = True := by simp only [eq_iff_iff, iff_true]; unfold maxLen; omega
  cases hc : decide (m ≥ 255) with
  | true =>
    have h1 : (m ≥ 255) = True := by simpa using hc
    have h2 : (m ≤ 259) = False := by simp at hc; simp; omega
    simp -implicitDefEqProofs only [go_sem, Nat.reduceAdd, Nat.reduceMul, Nat.reduceEqDiff, Nat.reduceLT, Nat.reduceLeDiff, Nat.reduceSub, Nat.reduceBEq, reduceIte, reduceCtorEq, Int.reduceEq, Int.reduceNe, Nat.reduceBneDiff, Int.reduceLE, Int.reduceLT, Int.reduceToNat, Int.reduceAdd, Int.reduceSub, Int.reduceMul, Int.reduceNeg, T_ok3, T_agg3, T_isinfo3, T_info3, T_cells3, T_zero3, T_int3, T_ok23, T_agg23, T_isinfo23, T_info23, T_cells23, T_zero23, T_build23, T_f23_0, T_p23_0, T_f23_1, T_p23_1, T_f23_2, T_p23_2, T_eqs23, T_ok25, T_agg25, T_isinfo25, T_info25, T_cells25, T_zero25, T_elem25, T_under25, T_len25s, T_len25n, T_len25b, T_ok35, T_agg35, T_isinfo35, T_info35, T_cells35, T_zero35, T_elem35, T_under35, T_len35s, T_len35n, T_len35b, T_ok36, T_agg36, T_isinfo36, T_info36, T_cells36, T_zero36, T_elem36, T_under36, T_len36s, T_len36n, T_len36b, T_ok56, T_agg56, T_isinfo56, T_info56, T_cells56, T_zero56, T_build56, T_f56_0, T_p56_0, T_f56_1, T_p56_1, T_f56_2, T_p56_2, T_f56_3, T_p56_3, T_f56_4, T_p56_4, T_f56_5, T_p56_5, ints, hp', ht', h1, h2, List.length_map, hall, hall1, hs1, hs2, hs3, hs4, List.drop_zero, ← List.map_take, List.take_length]
    refine gcall_intro _ _ _ _ _ _ _ _ _ (Tour_v ps ts) ?_
    simp -implicitDefEqProofs only [go_sem, Nat.reduceAdd, Nat.reduceMul, Nat.reduceEqDiff, Nat.reduceLT, Nat.reduceLeDiff, Nat.reduceSub, Nat.reduceBEq, reduceIte, reduceCtorEq, Int.reduceEq, Int.reduceNe, Nat.reduceBneDiff, Int.reduceLE, Int.reduceLT, Int.reduceToNat, Int.reduceAdd, Int.reduceSub, Int.reduceMul, Int.reduceNeg, T_ok3, T_agg3, T_isinfo3, T_info3, T_cells3, T_zero3, T_int3, T_ok23, T_agg23, T_isinfo23, T_info23, T_cells23, T_zero23, T_build23, T_f23_0, T_p23_0, T_f23_1, T_p23_1, T_f23_2, T_p23_2, T_eqs23, T_ok25, T_agg25, T_isinfo25, T_info25, T_cells25, T_zero25, T_elem25, T_under25, T_len25s, T_len25n, T_len25b, T_ok35, T_agg35, T_isinfo35, T_info35, T_cells35, T_zero35, T_elem35, T_under35, T_len35s, T_len35n, T_len35b, T_ok36, T_agg36, T_isinfo36, T_info36, T_cells36, T_zero36, T_elem36, T_under36, T_len36s, T_len36n, T_len36b, T_ok56, T_agg56, T_isinfo56, T_info56, T_cells56, T_zero56, T_build56, T_f56_0, T_p56_0, T_f56_1, T_p56_1, T_f56_2, T_p56_2, T_f56_3, T_p56_3, T_f56_4, T_p56_4, T_f56_5, T_p56_5, pathPV]
    refine gcall_intro _ _ _ _ _ _ _ _ _ (rTour_v ps ts) ?_
    simp -implicitDefEqProofs only [go_sem, Nat.reduceAdd, Nat.reduceMul, Nat.reduceEqDiff, Nat.reduceLT, Nat.reduceLeDiff, Nat.reduceSub, Nat.reduceBEq, reduceIte, reduceCtorEq, Int.reduceEq, Int.reduceNe, Nat.reduceBneDiff, Int.reduceLE, Int.reduceLT, Int.reduceToNat, Int.reduceAdd, Int.reduceSub, Int.reduceMul, Int.reduceNeg, T_ok3, T_agg3, T_isinfo3, T_info3, T_cells3, T_zero3, T_int3, T_ok23, T_agg23, T_isinfo23, T_info23, T_cells23, T_zero23, T_build23, T_f23_0, T_p23_0, T_f23_1, T_p23_1, T_f23_2, T_p23_2, T_eqs23, T_ok25, T_agg25, T_isinfo25, T_info25, T_cells25, T_zero25, T_elem25, T_under25, T_len25s, T_len25n, T_len25b, T_ok35, T_agg35, T_isinfo35, T_info35, T_cells35, T_zero35, T_elem35, T_under35, T_len35s, T_len35n, T_len35b, T_ok36, T_agg36, T_isinfo36, T_info36, T_cells36, T_zero36, T_elem36, T_under36, T_len36s, T_len36n, T_len36b, T_ok56, T_agg56, T_isinfo56, T_info56, T_cells56, T_zero56, T_build56, T_f56_0, T_p56_0, T_f56_1, T_p56_1, T_f56_2, T_p56_2, T_f56_3, T_p56_3, T_f56_4, T_p56_4, T_f56_5, T_p56_5, pathPV]
    refine g_loop mixed (fun k : { k : Nat // k ≤ ps.length } => St.of [(0, PV.slc (ps.map v3PV)), (1, PV.slc (ts.map (PV.int .i64))), (6, .bool false), (8, .bs 901 3 0 ps.length), (9, .bs 903 1 0 ts.length), (10, pathPV (tourP ps ts).1), (11, .int .i64 (tourP ps ts).2), (12, pathPV (tourP ps ts).1), (13, .int .i64 (tourP ps ts).2), (14, .int .i64 k.1)]
      [(903, { els := ts.map (PV.int .i64), esz := 1, ety := 3, fro := ts.length, live := true, arr := true }), (901, { els := ps.map v3PV, esz := 3, ety := 23, fro := ps.length, live := true, arr := true })]) (fun k => ps.length - k.1) ⟨0, Nat.zero_le _⟩ ?_ ?_
    · refine le_of (θ := [(901, 901), (903, 903)]) rfl ?_ ?_
      · simp [varsLe, lkp, ren1, ren0, pathPV]
      · simp [boxesLe, lkp, Box.renames]
    · rintro ⟨k, hk⟩
      by_cases hlt : k < ps.length
      · have h1 : ((k : Int) < (ps.length : Int)) = True := by simp; omega
        have h0 : (0 ≤ (k : Int)) = True := by simp
        have ea : (ps.map v3PV)[k]? = some (.agg [.int .i64 ps[k].x, .int .i64 ps[k].y, .int .i64 ps[k].z]) := by simp [hlt, v3PV, vecPV]
        have hwk : IntKind.i64.wrap ((k : Int) + 1) = ((k + 1 : Nat) : Int) := by rw [wrap_i64 (by omega) (by omega)]; omega
        simp -implicitDefEqProofs only [go_sem, Nat.reduceAdd, Nat.reduceMul, Nat.reduceEqDiff, Nat.reduceLT, Nat.reduceLeDiff, Nat.reduceSub, Nat.reduceBEq, reduceIte, reduceCtorEq, Int.reduceEq, Int.reduceNe, Nat.reduceBneDiff, Int.reduceLE, Int.reduceLT, Int.reduceToNat, Int.reduceAdd, Int.reduceSub, Int.reduceMul, Int.reduceNeg, T_ok3, T_agg3, T_isinfo3, T_info3, T_cells3, T_zero3, T_int3, T_ok23, T_agg23, T_isinfo23, T_info23, T_cells23, T_zero23, T_build23, T_f23_0, T_p23_0, T_f23_1, T_p23_1, T_f23_2, T_p23_2, T_eqs23, T_ok25, T_agg25, T_isinfo25, T_info25, T_cells25, T_zero25, T_elem25, T_under25, T_len25s, T_len25n, T_len25b, T_ok35, T_agg35, T_isinfo35, T_info35, T_cells35, T_zero35, T_elem35, T_under35, T_len35s, T_len35n, T_len35b, T_ok36, T_agg36, T_isinfo36, T_info36, T_cells36, T_zero36, T_elem36, T_under36, T_len36s, T_len36n, T_len36b, T_ok56, T_agg56, T_isinfo56, T_info56, T_cells56, T_zero56, T_build56, T_f56_0, T_p56_0, T_f56_1, T_p56_1, T_f56_2, T_p56_2, T_f56_3, T_p56_3, T_f56_4, T_p56_4, T_f56_5, T_p56_5, pathPV, h1, h0, List.length_map, Int.toNat_natCast, ea, beq_self_eq_true, bne_self_eq_false, hwk]
        refine ⟨drawQ_true _ _ (by kernel_rfl), ⟨k + 1, hlt⟩, by simp only; omega, ?_⟩
        refine le_of (θ := [(901, 901), (903, 903)]) rfl ?_ ?_
        · simp [varsLe, lkp, ren1, ren0, pathPV]
        · simp [boxesLe, lkp, Box.renames]
      · have h1 : ((k : Int) < (ps.length : Int)) = False := by simp; omega
        simp -implicitDefEqProofs only [go_sem, Nat.reduceAdd, Nat.reduceMul, Nat.reduceEqDiff, Nat.reduceLT, Nat.reduceLeDiff, Nat.reduceSub, Nat.reduceBEq, reduceIte, reduceCtorEq, Int.reduceEq, Int.reduceNe, Nat.reduceBneDiff, Int.reduceLE, Int.reduceLT, Int.reduceToNat, Int.reduceAdd, Int.reduceSub, Int.reduceMul, Int.reduceNeg, T_ok3, T_agg3, T_isinfo3, T_info3, T_cells3, T_zero3, T_int3, T_ok23, T_agg23, T_isinfo23, T_info23, T_cells23, T_zero23, T_build23, T_f23_0, T_p23_0, T_f23_1, T_p23_1, T_f23_2, T_p23_2, T_eqs23, T_ok25, T_agg25, T_isinfo25, T_info25, T_cells25, T_zero25, T_elem25, T_under25, T_len25s, T_len25n, T_len25b, T_ok35, T_agg35, T_isinfo35, T_info35, T_cells35, T_zero35, T_elem35, T_under35, T_len35s, T_len35n, T_len35b, T_ok36, T_agg36, T_isinfo36, T_info36, T_cells36, T_zero36, T_elem36, T_under36, T_len36s, T_len36n, T_len36b, T_ok56, T_agg56, T_isinfo56, T_info56, T_cells56, T_zero56, T_build56, T_f56_0, T_p56_0, T_f56_1, T_p56_1, T_f56_2, T_p56_2, T_f56_3, T_p56_3, T_f56_4, T_p56_4, T_f56_5, T_p56_5, pathPV, h1, List.length_map]
        refine g_loop mixed (fun k : { k : Nat // k ≤ ts.length } => St.of [(0, PV.slc (ps.map v3PV)), (1, PV.slc (ts.map (PV.int .i64))), (6, .bool false), (8, .bs 901 3 0 ps.length), (9, .bs 903 1 0 ts.length), (10, pathPV (tourP ps ts).1), (11, .int .i64 (tourP ps ts).2), (12, pathPV (tourP ps ts).1), (13, .int .i64 (tourP ps ts).2), (15, .int .i64 k.1)]
          [(903, { els := ts.map (PV.int .i64), esz := 1, ety := 3, fro := ts.length, live := true, arr := true }), (901, { els := ps.map v3PV, esz := 3, ety := 23, fro := ps.length, live := true, arr := true })]) (fun k => ts.length - k.1) ⟨0, Nat.zero_le _⟩ ?_ ?_
        · refine le_of (θ := [(901, 901), (903, 903)]) rfl ?_ ?_
          · simp [varsLe, lkp, ren1, ren0, pathPV]
          · simp [boxesLe, lkp, Box.renames]
        · rintro ⟨k, hk⟩
          by_cases hlt : k < ts.length
          · have h1 : ((k : Int) < (ts.length : Int)) = True := by simp; omega
            have h0 : (0 ≤ (k : Int)) = True := by simp
            have ea : (ts.map (PV.int .i64))[k]? = some (.int .i64 ts[k]) := by simp [hlt]
            have hwk : IntKind.i64.wrap ((k : Int) + 1) = ((k + 1 : Nat) : Int) := by rw [wrap_i64 (by omega) (by omega)]; omega
            simp -implicitDefEqProofs only [go_sem, Nat.reduceAdd, Nat.reduceMul, Nat.reduceEqDiff, Nat.reduceLT, Nat.reduceLeDiff, Nat.reduceSub, Nat.reduceBEq, reduceIte, reduceCtorEq, Int.reduceEq, Int.reduceNe, Nat.reduceBneDiff, Int.reduceLE, Int.reduceLT, Int.reduceToNat, Int.reduceAdd, Int.reduceSub, Int.reduceMul, Int.reduceNeg, T_ok3, T_agg3, T_isinfo3, T_info3, T_cells3, T_zero3, T_int3, T_ok23, T_agg23, T_isinfo23, T_info23, T_cells23, T_zero23, T_build23, T_f23_0, T_p23_0, T_f23_1, T_p23_1, T_f23_2, T_p23_2, T_eqs23, T_ok25, T_agg25, T_isinfo25, T_info25, T_cells25, T_zero25, T_elem25, T_under25, T_len25s, T_len25n, T_len25b, T_ok35, T_agg35, T_isinfo35, T_info35, T_cells35, T_zero35, T_elem35, T_under35, T_len35s, T_len35n, T_len35b, T_ok36, T_agg36, T_isinfo36, T_info36, T_cells36, T_zero36, T_elem36, T_under36, T_len36s, T_len36n, T_len36b, T_ok56, T_agg56, T_isinfo56, T_info56, T_cells56, T_zero56, T_build56, T_f56_0, T_p56_0, T_f56_1, T_p56_1, T_f56_2, T_p56_2, T_f56_3, T_p56_3, T_f56_4, T_p56_4, T_f56_5, T_p56_5, pathPV, h1, h0, List.length_map, Int.toNat_natCast, ea, bne_self_eq_false, hwk]
            refine ⟨drawQ_true _ _ (by kernel_rfl), ⟨k + 1, hlt⟩, by simp only; omega, ?_⟩
            refine le_of (θ := [(901, 901), (903, 903)]) rfl ?_ ?_
            · simp [varsLe, lkp, ren1, ren0, pathPV]
            · simp [boxesLe, lkp, Box.renames]
          · have h1 : ((k : Int) < (ts.length : Int)) = False := by simp; omega
            simp -implicitDefEqProofs only [go_sem, Nat.reduceAdd, Nat.reduceMul, Nat.reduceEqDiff, Nat.reduceLT, Nat.reduceLeDiff, Nat.reduceSub, Nat.reduceBEq, reduceIte, reduceCtorEq, Int.reduceEq, Int.reduceNe, Nat.reduceBneDiff, Int.reduceLE, Int.reduceLT, Int.reduceToNat, Int.reduceAdd, Int.reduceSub, Int.reduceMul, Int.reduceNeg, T_ok3, T_agg3, T_isinfo3, T_info3, T_cells3, T_zero3, T_int3, T_ok23, T_agg23, T_isinfo23, T_info23, T_cells23, T_zero23, T_build23, T_f23_0, T_p23_0, T_f23_1, T_p23_1, T_f23_2, T_p23_2, T_eqs23, T_ok25, T_agg25, T_isinfo25, T_info25, T_cells25, T_zero25, T_elem25, T_under25, T_len25s, T_len25n, T_len25b, T_ok35, T_agg35, T_isinfo35, T_info35, T_cells35, T_zero35, T_elem35, T_under35, T_len35s, T_len35n, T_len35b, T_ok36, T_agg36, T_isinfo36, T_info36, T_cells36, T_zero36, T_elem36, T_under36, T_len36s, T_len36n, T_len36b, T_ok56, T_agg56, T_isinfo56, T_info56, T_cells56, T_zero56, T_build56, T_f56_0, T_p56_0, T_f56_1, T_p56_1, T_f56_2, T_p56_2, T_f56_3, T_p56_3, T_f56_4, T_p56_4, T_f56_5, T_p56_5, pathPV, h1, List.length_map]
            refine gcall_intro _ _ _ _ _ _ _ _ _ (same_v _ f1 f2) ?_
            simp -implicitDefEqProofs only [go_sem, Nat.reduceAdd, Nat.reduceMul, Nat.reduceEqDiff, Nat.reduceLT, Nat.reduceLeDiff, Nat.reduceSub, Nat.reduceBEq, reduceIte, reduceCtorEq, Int.reduceEq, Int.reduceNe, Nat.reduceBneDiff, Int.reduceLE, Int.reduceLT, Int.reduceToNat, Int.reduceAdd, Int.reduceSub, Int.reduceMul, Int.reduceNeg, T_ok3, T_agg3, T_isinfo3, T_info3, T_cells3, T_zero3, T_int3, T_ok23, T_agg23, T_isinfo23, T_info23, T_cells23, T_zero23, T_build23, T_f23_0, T_p23_0, T_f23_1, T_p23_1, T_f23_2, T_p23_2, T_eqs23, T_ok25, T_agg25, T_isinfo25, T_info25, T_cells25, T_zero25, T_elem25, T_under25, T_len25s, T_len25n, T_len25b, T_ok35, T_agg35, T_isinfo35, T_info35, T_cells35, T_zero35, T_elem35, T_under35, T_len35s, T_len35n, T_len35b, T_ok36, T_agg36, T_isinfo36, T_info36, T_cells36, T_zero36, T_elem36, T_under36, T_len36s, T_len36n, T_len36b, T_ok56, T_agg56, T_isinfo56, T_info56, T_cells56, T_zero56, T_build56, T_f56_0, T_p56_0, T_f56_1, T_p56_1, T_f56_2, T_p56_2, T_f56_3, T_p56_3, T_f56_4, T_p56_4, T_f56_5, T_p56_5, pathPV, beq_self_eq_true]
            refine gcall_intro _ _ _ _ _ _ _ _ _ known_v ?_
            simp -implicitDefEqProofs only [go_sem, Nat.reduceAdd, Nat.reduceMul, Nat.reduceEqDiff, Nat.reduceLT, Nat.reduceLeDiff, Nat.reduceSub, Nat.reduceBEq, reduceIte, reduceCtorEq, Int.reduceEq, Int.reduceNe, Nat.reduceBneDiff, Int.reduceLE, Int.reduceLT, Int.reduceToNat, Int.reduceAdd, Int.reduceSub, Int.reduceMul, Int.reduceNeg, T_ok3, T_agg3, T_isinfo3, T_info3, T_cells3, T_zero3, T_int3, T_ok23, T_agg23, T_isinfo23, T_info23, T_cells23, T_zero23, T_build23, T_f23_0, T_p23_0, T_f23_1, T_p23_1, T_f23_2, T_p23_2, T_eqs23, T_ok25, T_agg25, T_isinfo25, T_info25, T_cells25, T_zero25, T_elem25, T_under25, T_len25s, T_len25n, T_len25b, T_ok35, T_agg35, T_isinfo35, T_info35, T_cells35, T_zero35, T_elem35, T_under35, T_len35s, T_len35n, T_len35b, T_ok36, T_agg36, T_isinfo36, T_info36, T_cells36, T_zero36, T_elem36, T_under36, T_len36s, T_len36n, T_len36b, T_ok56, T_agg56, T_isinfo56, T_info56, T_cells56, T_zero56, T_build56, T_f56_0, T_p56_0, T_f56_1, T_p56_1, T_f56_2, T_p56_2, T_f56_3, T_p56_3, T_f56_4, T_p56_4, T_f56_5, T_p56_5]
  | false =>
    have h1 : (m ≥ 255) = False := by simpa using hc
    simp -implicitDefEqProofs only [go_sem, Nat.reduceAdd, Nat.reduceMul, Nat.reduceEqDiff, Nat.reduceLT, Nat.reduceLeDiff, Nat.reduceSub, Nat.reduceBEq, reduceIte, reduceCtorEq, Int.reduceEq, Int.reduceNe, Nat.reduceBneDiff, Int.reduceLE, Int.reduceLT, Int.reduceToNat, Int.reduceAdd, Int.reduceSub, Int.reduceMul, Int.reduceNeg, T_ok3, T_agg3, T_isinfo3, T_info3, T_cells3, T_zero3, T_int3, T_ok23, T_agg23, T_isinfo23, T_info23, T_cells23, T_zero23, T_build23, T_f23_0, T_p23_0, T_f23_1, T_p23_1, T_f23_2, T_p23_2, T_eqs23, T_ok25, T_agg25, T_isinfo25, T_info25, T_cells25, T_zero25, T_elem25, T_under25, T_len25s, T_len25n, T_len25b, T_ok35, T_agg35, T_isinfo35, T_info35, T_cells35, T_zero35, T_elem35, T_under35, T_len35s, T_len35n, T_len35b, T_ok36, T_agg36, T_isinfo36, T_info36, T_cells36, T_zero36, T_elem36, T_under36, T_len36s, T_len36n, T_len36b, T_ok56, T_agg56, T_isinfo56, T_info56, T_cells56, T_zero56, T_build56, T_f56_0, T_p56_0, T_f56_1, T_p56_1, T_f56_2, T_p56_2, T_f56_3, T_p56_3, T_f56_4, T_p56_4, T_f56_5, T_p56_5, ints, hp', ht', h1, List.length_map, hall, hall1, hs1, hs2, hs3, hs4, List.drop_zero, ← List.map_take, List.take_length]
    refine gcall_intro _ _ _ _ _ _ _ _ _ (Tour_v ps ts) ?_
    simp -implicitDefEqProofs only [go_sem, Nat.reduceAdd, Nat.reduceMul, Nat.reduceEqDiff, Nat.reduceLT, Nat.reduceLeDiff, Nat.reduceSub, Nat.reduceBEq, reduceIte, reduceCtorEq, Int.reduceEq, Int.reduceNe, Nat.reduceBneDiff, Int.reduceLE, Int.reduceLT, Int.reduceToNat, Int.reduceAdd, Int.reduceSub, Int.reduceMul, Int.reduceNeg, T_ok3, T_agg3, T_isinfo3, T_info3, T_cells3, T_zero3, T_int3, T_ok23, T_agg23, T_isinfo23, T_info23, T_cells23, T_zero23, T_build23, T_f23_0, T_p23_0, T_f23_1, T_p23_1, T_f23_2, T_p23_2, T_eqs23, T_ok25, T_agg25, T_isinfo25, T_info25, T_cells25, T_zero25, T_elem25, T_under25, T_len25s, T_len25n, T_len25b, T_ok35, T_agg35, T_isinfo35, T_info35, T_cells35, T_zero35, T_elem35, T_under35, T_len35s, T_len35n, T_len35b, T_ok36, T_agg36, T_isinfo36, T_info36, T_cells36, T_zero36, T_elem36, T_under36, T_len36s, T_len36n, T_len36b, T_ok56, T_agg56, T_isinfo56, T_info56, T_cells56, T_zero56, T_build56, T_f56_0, T_p56_0, T_f56_1, T_p56_1, T_f56_2, T_p56_2, T_f56_3, T_p56_3, T_f56_4, T_p56_4, T_f56_5, T_p56_5, pathPV]
    refine gcall_intro _ _ _ _ _ _ _ _ _ (rTour_v ps ts) ?_
    simp -implicitDefEqProofs only [go_sem, Nat.reduceAdd, Nat.reduceMul, Nat.reduceEqDiff, Nat.reduceLT, Nat.reduceLeDiff, Nat.reduceSub, Nat.reduceBEq, reduceIte, reduceCtorEq, Int.reduceEq, Int.reduceNe, Nat.reduceBneDiff, Int.reduceLE, Int.reduceLT, Int.reduceToNat, Int.reduceAdd, Int.reduceSub, Int.reduceMul, Int.reduceNeg, T_ok3, T_agg3, T_isinfo3, T_info3, T_cells3, T_zero3, T_int3, T_ok23, T_agg23, T_isinfo23, T_info23, T_cells23, T_zero23, T_build23, T_f23_0, T_p23_0, T_f23_1, T_p23_1, T_f23_2, T_p23_2, T_eqs23, T_ok25, T_agg25, T_isinfo25, T_info25, T_cells25, T_zero25, T_elem25, T_under25, T_len25s, T_len25n, T_len25b, T_ok35, T_agg35, T_isinfo35, T_info35, T_cells35, T_zero35, T_elem35, T_under35, T_len35s, T_len35n, T_len35b, T_ok36, T_agg36, T_isinfo36, T_info36, T_cells36, T_zero36, T_elem36, T_under36, T_len36s, T_len36n, T_len36b, T_ok56, T_agg56, T_isinfo56, T_info56, T_cells56, T_zero56, T_build56, T_f56_0, T_p56_0, T_f56_1, T_p56_1, T_f56_2, T_p56_2, T_f56_3, T_p56_3, T_f56_4, T_p56_4, T_f56_5, T_p56_5, pathPV]
    refine g_loop mixed (fun k : { k : Nat // k ≤ ps.length } => St.of [(0, PV.slc (ps.map v3PV)), (1, PV.slc (ts.map (PV.int .i64))), (6, .bool false), (8, .bs 901 3 0 ps.length), (9, .bs 903 1 0 ts.length), (10, pathPV (tourP ps ts).1), (11, .int .i64 (tourP ps ts).2), (12, pathPV (tourP ps ts).1), (13, .int .i64 (tourP ps ts).2), (14, .int .i64 k.1)]
      [(903, { els := ts.map (PV.int .i64), esz := 1, ety := 3, fro := ts.length, live := true, arr := true }), (901, { els := ps.map v3PV, esz := 3, ety := 23, fro := ps.length, live := true, arr := true })]) (fun k => ps.length - k.1) ⟨0, Nat.zero_le _⟩ ?_ ?_
    · refine le_of (θ := [(901, 901), (903, 903)]) rfl ?_ ?_
      · simp [varsLe, lkp, ren1, ren0, pathPV]
      · simp [boxesLe, lkp, Box.renames]
    · rintro ⟨k, hk⟩
      by_cases hlt : k < ps.length
      · have h1 : ((k : Int) < (ps.length : Int)) = True := by simp; omega
        have h0 : (0 ≤ (k : Int)) = True := by simp
        have ea : (ps.map v3PV)[k]? = some (.agg [.int .i64 ps[k].x, .int .i64 ps[k].y, .int .i64 ps[k].z]) := by simp [hlt, v3PV, vecPV]
        have hwk : IntKind.i64.wrap ((k : Int) + 1) = ((k + 1 : Nat) : Int) := by rw [wrap_i64 (by omega) (by omega)]; omega
        simp -implicitDefEqProofs only [go_sem, Nat.reduceAdd, Nat.reduceMul, Nat.reduceEqDiff, Nat.reduceLT, Nat.reduceLeDiff, Nat.reduceSub, Nat.reduceBEq, reduceIte, reduceCtorEq, Int.reduceEq, Int.reduceNe, Nat.reduceBneDiff, Int.reduceLE, Int.reduceLT, Int.reduceToNat, Int.reduceAdd, Int.reduceSub, Int.reduceMul, Int.reduceNeg, T_ok3, T_agg3, T_isinfo3, T_info3, T_cells3, T_zero3, T_int3, T_ok23, T_agg23, T_isinfo23, T_info23, T_cells23, T_zero23, T_build23, T_f23_0, T_p23_0, T_f23_1, T_p23_1, T_f23_2, T_p23_2, T_eqs23, T_ok25, T_agg25, T_isinfo25, T_info25, T_cells25, T_zero25, T_elem25, T_under25, T_len25s, T_len25n, T_len25b, T_ok35, T_agg35, T_isinfo35, T_info35, T_cells35, T_zero35, T_elem35, T_under35, T_len35s, T_len35n, T_len35b, T_ok36, T_agg36, T_isinfo36, T_info36, T_cells36, T_zero36, T_elem36, T_under36, T_len36s, T_len36n, T_len36b, T_ok56, T_agg56, T_isinfo56, T_info56, T_cells56, T_zero56, T_build56, T_f56_0, T_p56_0, T_f56_1, T_p56_1, T_f56_2, T_p56_2, T_f56_3, T_p56_3, T_f56_4, T_p56_4, T_f56_5, T_p56_5, pathPV, h1, h0, List.length_map, Int.toNat_natCast, ea, beq_self_eq_true, bne_self_eq_false, hwk]
        refine ⟨drawQ_true _ _ (by kernel_rfl), ⟨k + 1, hlt⟩, by simp only; omega, ?_⟩
        refine le_of (θ := [(901, 901), (903, 903)]) rfl ?_ ?_
        · simp [varsLe, lkp, ren1, ren0, pathPV]
        · simp [boxesLe, lkp, Box.renames]
      · have h1 : ((k : Int) < (ps.length : Int)) = False := by simp; omega
        simp -implicitDefEqProofs only [go_sem, Nat.reduceAdd, Nat.reduceMul, Nat.reduceEqDiff, Nat.reduceLT, Nat.reduceLeDiff, Nat.reduceSub, Nat.reduceBEq, reduceIte, reduceCtorEq, Int.reduceEq, Int.reduceNe, Nat.reduceBneDiff, Int.reduceLE, Int.reduceLT, Int.reduceToNat, Int.reduceAdd, Int.reduceSub, Int.reduceMul, Int.reduceNeg, T_ok3, T_agg3, T_isinfo3, T_info3, T_cells3, T_zero3, T_int3, T_ok23, T_agg23, T_isinfo23, T_info23, T_cells23, T_zero23, T_build23, T_f23_0, T_p23_0, T_f23_1, T_p23_1, T_f23_2, T_p23_2, T_eqs23, T_ok25, T_agg25, T_isinfo25, T_info25, T_cells25, T_zero25, T_elem25, T_under25, T_len25s, T_len25n, T_len25b, T_ok35, T_agg35, T_isinfo35, T_info35, T_cells35, T_zero35, T_elem35, T_under35, T_len35s, T_len35n, T_len35b, T_ok36, T_agg36, T_isinfo36, T_info36, T_cells36, T_zero36, T_elem36, T_under36, T_len36s, T_len36n, T_len36b, T_ok56, T_agg56, T_isinfo56, T_info56, T_cells56, T_zero56, T_build56, T_f56_0, T_p56_0, T_f56_1, T_p56_1, T_f56_2, T_p56_2, T_f56_3, T_p56_3, T_f56_4, T_p56_4, T_f56_5, T_p56_5, pathPV, h1, List.length_map]
        refine g_loop mixed (fun k : { k : Nat // k ≤ ts.length } => St.of [(0, PV.slc (ps.map v3PV)), (1, PV.slc (ts.map (PV.int .i64))), (6, .bool false), (8, .bs 901 3 0 ps.length), (9, .bs 903 1 0 ts.length), (10, pathPV (tourP ps ts).1), (11, .int .i64 (tourP ps ts).2), (12, pathPV (tourP ps ts).1), (13, .int .i64 (tourP ps ts).2), (15, .int .i64 k.1)]
          [(903, { els := ts.map (PV.int .i64), esz := 1, ety := 3, fro := ts.length, live := true, arr := true }), (901, { els := ps.map v3PV, esz := 3, ety := 23, fro := ps.length, live := true, arr := true })]) (fun k => ts.length - k.1) ⟨0, Nat.zero_le _⟩ ?_ ?_
        · refine le_of (θ := [(901, 901), (903, 903)]) rfl ?_ ?_
          · simp [varsLe, lkp, ren1, ren0, pathPV]
          · simp [boxesLe, lkp, Box.renames]
        · rintro ⟨k, hk⟩
          by_cases hlt : k < ts.length
          · have h1 : ((k : Int) < (ts.length : Int)) = True := by simp; omega
            have h0 : (0 ≤ (k : Int)) = True := by simp
            have ea : (ts.map (PV.int .i64))[k]? = some (.int .i64 ts[k]) := by simp [hlt]
            have hwk : IntKind.i64.wrap ((k : Int) + 1) = ((k + 1 : Nat) : Int) := by rw [wrap_i64 (by omega) (by omega)]; omega
            simp -implicitDefEqProofs only [go_sem, Nat.reduceAdd, Nat.reduceMul, Nat.reduceEqDiff, Nat.reduceLT, Nat.reduceLeDiff, Nat.reduceSub, Nat.reduceBEq, reduceIte, reduceCtorEq, Int.reduceEq, Int.reduceNe, Nat.reduceBneDiff, Int.reduceLE, Int.reduceLT, Int.reduceToNat, Int.reduceAdd, Int.reduceSub, Int.reduceMul, Int.reduceNeg, T_ok3, T_agg3, T_isinfo3, T_info3, T_cells3, T_zero3, T_int3, T_ok23, T_agg23, T_isinfo23, T_info23, T_cells23, T_zero23, T_build23, T_f23_0, T_p23_0, T_f23_1, T_p23_1, T_f23_2, T_p23_2, T_eqs23, T_ok25, T_agg25, T_isinfo25, T_info25, T_cells25, T_zero25, T_elem25, T_under25, T_len25s, T_len25n, T_len25b, T_ok35, T_agg35, T_isinfo35, T_info35, T_cells35, T_zero35, T_elem35, T_under35, T_len35s, T_len35n, T_len35b, T_ok36, T_agg36, T_isinfo36, T_info36, T_cells36, T_zero36, T_elem36, T_under36, T_len36s, T_len36n, T_len36b, T_ok56, T_agg56, T_isinfo56, T_info56, T_cells56, T_zero56, T_build56, T_f56_0, T_p56_0, T_f56_1, T_p56_1, T_f56_2, T_p56_2, T_f56_3, T_p56_3, T_f56_4, T_p56_4, T_f56_5, T_p56_5, pathPV, h1, h0, List.length_map, Int.toNat_natCast, ea, bne_self_eq_false, hwk]
            refine ⟨drawQ_true _ _ (by kernel_rfl), ⟨k + 1, hlt⟩, by simp only; omega, ?_⟩
            refine le_of (θ := [(901, 901), (903, 903)]) rfl ?_ ?_
            · simp [varsLe, lkp, ren1, ren0, pathPV]
            · simp [boxesLe, lkp, Box.renames]
          · have h1 : ((k : Int) < (ts.length : Int)) = False := by simp; omega
            simp -implicitDefEqProofs only [go_sem, Nat.reduceAdd, Nat.reduceMul, Nat.reduceEqDiff, Nat.reduceLT, Nat.reduceLeDiff, Nat.reduceSub, Nat.reduceBEq, reduceIte, reduceCtorEq, Int.reduceEq, Int.reduceNe, Nat.reduceBneDiff, Int.reduceLE, Int.reduceLT, Int.reduceToNat, Int.reduceAdd, Int.reduceSub, Int.reduceMul, Int.reduceNeg, T_ok3, T_agg3, T_isinfo3, T_info3, T_cells3, T_zero3, T_int3, T_ok23, T_agg23, T_isinfo23, T_info23, T_cells23, T_zero23, T_build23, T_f23_0, T_p23_0, T_f23_1, T_p23_1, T_f23_2, T_p23_2, T_eqs23, T_ok25, T_agg25, T_isinfo25, T_info25, T_cells25, T_zero25, T_elem25, T_under25, T_len25s, T_len25n, T_len25b, T_ok35, T_agg35, T_isinfo35, T_info35, T_cells35, T_zero35, T_elem35, T_under35, T_len35s, T_len35n, T_len35b, T_ok36, T_agg36, T_isinfo36, T_info36, T_cells36, T_zero36, T_elem36, T_under36, T_len36s, T_len36n, T_len36b, T_ok56, T_agg56, T_isinfo56, T_info56, T_cells56, T_zero56, T_build56, T_f56_0, T_p56_0, T_f56_1, T_p56_1, T_f56_2, T_p56_2, T_f56_3, T_p56_3, T_f56_4, T_p56_4, T_f56_5, T_p56_5, pathPV, h1, List.length_map]
            refine gcall_intro _ _ _ _ _ _ _ _ _ (same_v _ f1 f2) ?_
            simp -implicitDefEqProofs only [go_sem, Nat.reduceAdd, Nat.reduceMul, Nat.reduceEqDiff, Nat.reduceLT, Nat.reduceLeDiff, Nat.reduceSub, Nat.reduceBEq, reduceIte, reduceCtorEq, Int.reduceEq, Int.reduceNe, Nat.reduceBneDiff, Int.reduceLE, Int.reduceLT, Int.reduceToNat, Int.reduceAdd, Int.reduceSub, Int.reduceMul, Int.reduceNeg, T_ok3, T_agg3, T_isinfo3, T_info3, T_cells3, T_zero3, T_int3, T_ok23, T_agg23, T_isinfo23, T_info23, T_cells23, T_zero23, T_build23, T_f23_0, T_p23_0, T_f23_1, T_p23_1, T_f23_2, T_p23_2, T_eqs23, T_ok25, T_agg25, T_isinfo25, T_info25, T_cells25, T_zero25, T_elem25, T_under25, T_len25s, T_len25n, T_len25b, T_ok35, T_agg35, T_isinfo35, T_info35, T_cells35, T_zero35, T_elem35, T_under35, T_len35s, T_len35n, T_len35b, T_ok36, T_agg36, T_isinfo36, T_info36, T_cells36, T_zero36, T_elem36, T_under36, T_len36s, T_len36n, T_len36b, T_ok56, T_agg56, T_isinfo56, T_info56, T_cells56, T_zero56, T_build56, T_f56_0, T_p56_0, T_f56_1, T_p56_1, T_f56_2, T_p56_2, T_f56_3, T_p56_3, T_f56_4, T_p56_4, T_f56_5, T_p56_5, pathPV, beq_self_eq_true]
            refine gcall_intro _ _ _ _ _ _ _ _ _ known_v ?_
            simp -implicitDefEqProofs only [go_sem, Nat.reduceAdd, Nat.reduceMul, Nat.reduceEqDiff, Nat.reduceLT, Nat.reduceLeDiff, Nat.reduceSub, Nat.reduceBEq, reduceIte, reduceCtorEq, Int.reduceEq, Int.reduceNe, Nat.reduceBneDiff, Int.reduceLE, Int.reduceLT, Int.reduceToNat, Int.reduceAdd, Int.reduceSub, Int.reduceMul, Int.reduceNeg, T_ok3, T_agg3, T_isinfo3, T_info3, T_cells3, T_zero3, T_int3, T_ok23, T_agg23, T_isinfo23, T_info23, T_cells23, T_zero23, T_build23, T_f23_0, T_p23_0, T_f23_1, T_p23_1, T_f23_2, T_p23_2, T_eqs23, T_ok25, T_agg25, T_isinfo25, T_info25, T_cells25, T_zero25, T_elem25, T_under25, T_len25s, T_len25n, T_len25b, T_ok35, T_agg35, T_isinfo35, T_info35, T_cells35, T_zero35, T_elem35, T_under35, T_len35s, T_len35n, T_len35b, T_ok36, T_agg36, T_isinfo36, T_info36, T_cells36, T_zero36, T_elem36, T_under36, T_len36s, T_len36n, T_len36b, T_ok56, T_agg56, T_isinfo56, T_info56, T_cells56, T_zero56, T_build56, T_f56_0, T_p56_0, T_f56_1, T_p56_1, T_f56_2, T_p56_2, T_f56_3, T_p56_3, T_f56_4, T_p56_4, T_f56_5, T_p56_5]

theorem tours_long (ps : List Sky.V3) (ts : List Int) (m : Int) (h : 20 < ps.length ∨ 20 < ts.length) : SoundAt Try.prog 4 [.slc (ps.map v3PV), ints ts, .int .i64 m] (.bool true) := by
  refine sound_go (tb := []) 105 [.tmp 6] [0, 1, 2, 6, 7, 8, 9, 10, 11, 12, 13, 14, 15, 23, 30, 33, 67, 78, 82, 93] mixed Try.func4 rfl (by kernel_rfl) (by kernel_rfl) (by kernel_rfl) (by kernel_rfl) ?_
  by_cases hp : 20 < ps.length
  · have hp' : ((ps.length : Int) > 20) = True := by simp; omega
    simp -implicitDefEqProofs only [go_sem, Nat.reduceAdd, Nat.reduceMul, Nat.reduceEqDiff, Nat.reduceLT, Nat.reduceLeDiff, Nat.reduceSub, Nat.reduceBEq, reduceIte, reduceCtorEq, Int.reduceEq, Int.reduceNe, Nat.reduceBneDiff, Int.reduceLE, Int.reduceLT, Int.reduceToNat, Int.reduceAdd, Int.reduceSub, Int.reduceMul, Int.reduceNeg, T_ok3, T_agg3, T_isinfo3, T_info3, T_cells3, T_zero3, T_int3, T_ok23, T_agg23, T_isinfo23, T_info23, T_cells23, T_zero23, T_build23, T_f23_0, T_p23_0, T_f23_1, T_p23_1, T_f23_2, T_p23_2, T_eqs23, T_ok25, T_agg25, T_isinfo25, T_info25, T_cells25, T_zero25, T_elem25, T_under25, T_len25s, T_len25n, T_len25b, T_ok35, T_agg35, T_isinfo35, T_info35, T_cells35, T_zero35, T_elem35, T_under35, T_len35s, T_len35n, T_len35b, T_ok36, T_agg36, T_isinfo36, T_info36, T_cells36, T_zero36, T_elem36, T_under36, T_len36s, T_len36n, T_len36b, T_ok56, T_agg56, T_isinfo56, T_info56, T_cells56, T_zero56, T_build56, T_f56_0, T_p56_0, T_f56_1, T_p56_1, T_f56_2, T_p56_2, T_f56_3, T_p56_3, T_f56_4, T_p56_4, T_f56_5, T_p56_5, ints, hp', List.length_map]
    refine gcall_intro _ _ _ _ _ _ _ _ _ known_v ?_
    simp -implicitDefEqProofs only [go_sem, Nat.reduceAdd, Nat.reduceMul, Nat.reduceEqDiff, Nat.reduceLT, Nat.reduceLeDiff, Nat.reduceSub, Nat.reduceBEq, reduceIte, reduceCtorEq, Int.reduceEq, Int.reduceNe, Nat.reduceBneDiff, Int.reduceLE, Int.reduceLT, Int.reduceToNat, Int.reduceAdd, Int.reduceSub, Int.reduceMul, Int.reduceNeg, T_ok3, T_agg3, T_isinfo3, T_info3, T_cells3, T_zero3, T_int3, T_ok23, T_agg23, T_isinfo23, T_info23, T_cells23, T_zero23, T_build23, T_f23_0, T_p23_0, T_f23_1, T_p23_1, T_f23_2, T_p23_2, T_eqs23, T_ok25, T_agg25, T_isinfo25, T_info25, T_cells25, T_zero25, T_elem25, T_under25, T_len25s, T_len25n, T_len25b, T_ok35, T_agg35, T_isinfo35, T_info35, T_cells35, T_zero35, T_elem35, T_under35, T_len35s, T_len35n, T_len35b, T_ok36, T_agg36, T_isinfo36, T_info36, T_cells36, T_zero36, T_elem36, T_under36, T_len36s, T_len36n, T_len36b, T_ok56, T_agg56, T_isinfo56, T_info56, T_cells56, T_zero56, T_build56, T_f56_0, T_p56_0, T_f56_1, T_p56_1, T_f56_2, T_p56_2, T_f56_3, T_p56_3, T_f56_4, T_p56_4, T_f56_5, T_p56_5]
  · have hp' : ((ps.length : Int) > 20) = False := by simp; omega
    have ht' : ((ts.length : Int) > 20) = True := by simp; omega
    simp -implicitDefEqProofs only [go_sem, Nat.reduceAdd, Nat.reduceMul, Nat.reduceEqDiff, Nat.reduceLT, Nat.reduceLeDiff, Nat.reduceSub, Nat.reduceBEq, reduceIte, reduceCtorEq, Int.reduceEq, Int.reduceNe, Nat.reduceBneDiff, Int.reduceLE, Int.reduceLT, Int.reduceToNat, Int.reduceAdd, Int.reduceSub, Int.reduceMul, Int.reduceNeg, T_ok3, T_agg3, T_isinfo3, T_info3, T_cells3, T_zero3, T_int3, T_ok23, T_agg23, T_isinfo23, T_info23, T_cells23, T_zero23, T_build23, T_f23_0, T_p23_0, T_f23_1, T_p23_1, T_f23_2, T_p23_2, T_eqs23, T_ok25, T_agg25, T_isinfo25, T_info25, T_cells25, T_zero25, T_elem25, T_under25, T_len25s, T_len25n, T_len25b, T_ok35, T_agg35, T_isinfo35, T_info35, T_cells35, T_zero35, T_elem35, T_under35, T_len35s, T_len35n, T_len35b, T_ok36, T_agg36, T_isinfo36, T_info36, T_cells36, T_zero36, T_elem36, T_under36, T_len36s, T_len36n, T_len36b, T_ok56, T_agg56, T_isinfo56, T_info56, T_cells56, T_zero56, T_build56, T_f56_0, T_p56_0, T_f56_1, T_p56_1, T_f56_2, T_p56_2, T_f56_3, T_p56_3, T_f56_4, T_p56_4, T_f56_5, T_p56_5, ints, hp', ht', List.length_map]
    refine gcall_intro _ _ _ _ _ _ _ _ _ known_v ?_
    simp -implicitDefEqProofs only [go_sem, Nat.reduceAdd, Nat.reduceMul, Nat.reduceEqDiff, Nat.reduceLT, Nat.reduceLeDiff, Nat.reduceSub, Nat.reduceBEq, reduceIte, reduceCtorEq, Int.reduceEq, Int.reduceNe, Nat.reduceBneDiff, Int.reduceLE, Int.reduceLT, Int.reduceToNat, Int.reduceAdd, Int.reduceSub, Int.reduceMul, Int.reduceNeg, T_ok3, T_agg3, T_isinfo3, T_info3, T_cells3, T_zero3, T_int3, T_ok23, T_agg23, T_isinfo23, T_info23, T_cells23, T_zero23, T_build23, T_f23_0, T_p23_0, T_f23_1, T_p23_1, T_f23_2, T_p23_2, T_eqs23, T_ok25, T_agg25, T_isinfo25, T_info25, T_cells25, T_zero25, T_elem25, T_under25, T_len25s, T_len25n, T_len25b, T_ok35, T_agg35, T_isinfo35, T_info35, T_cells35, T_zero35, T_elem35, T_under35, T_len35s, T_len35n, T_len35b, T_ok36, T_agg36, T_isinfo36, T_info36, T_cells36, T_zero36, T_elem36, T_under36, T_len36s, T_len36n, T_len36b, T_ok56, T_agg56, T_isinfo56, T_info56, T_cells56, T_zero56, T_build56, T_f56_0, T_p56_0, T_f56_1, T_p56_1, T_f56_2, T_p56_2, T_f56_3, T_p56_3, T_f56_4, T_p56_4, T_f56_5, T_p56_5]
end Go.Proofs.Ytkajnimlfehmeaa

namespace Go.Proofs.Ytkajnimlfehmeaa
open Go.Vl

def manyP (n : Nat) : List Sky.V3 := (List.range n).map fun i : Nat => ⟨i, 2 * i, 0⟩
def manyT (n : Nat) : List Int := (List.range n).map fun i : Nat => 10 * (i : Int)
theorem manyP_len (n : Nat) : (manyP n).length = n := by simp [manyP]
theorem manyT_len (n : Nat) : (manyT n).length = n := by simp [manyT]
theorem manyP_succ (n : Nat) : manyP (n + 1) = manyP n ++ [⟨n, 2 * n, 0⟩] := by simp [manyP, List.range_succ]
theorem manyT_succ (n : Nat) : manyT (n + 1) = manyT n ++ [10 * (n : Int)] := by simp [manyT, List.range_succ]
theorem manyP_ok (n : Nat) : (((manyP n).map v3PV).flatMap PV.cells).all PV.okCell = true := by
  rw [List.all_flatMap, List.all_map, List.all_eq_true]; intro _ _; rfl
theorem manyT_ok (n : Nat) : (((manyT n).map (PV.int .i64)).flatMap PV.cells).all PV.okCell = true := by
  rw [List.all_flatMap, List.all_map, List.all_eq_true]; intro _ _; rfl
theorem tours_many (ps0 : List Sky.V3) (ts0 : List Int) (n : Nat) (hp : ps0.length ≤ 20) (ht : ts0.length ≤ 20) (hn : 255 ≤ n ∧ n ≤ 259) : SoundAt Try.prog 4 [.slc (ps0.map v3PV), ints ts0, .int .i64 (n : Int)] (.bool true) := by
  have hml := maxLen_lt0
  refine sound_go (tb := []) 105 [.tmp 6] [0, 1, 2, 6, 7, 8, 9, 10, 11, 12, 13, 14, 15, 23, 30, 33, 67, 78, 82, 93] mixed Try.func4 rfl (by kernel_rfl) (by kernel_rfl) (by kernel_rfl) (by kernel_rfl) ?_
  have hp' : ((ps0.length : Int) > 20) = False := by simp; omega
  have ht' : ((ts0.length : Int) > 20) = False := by simp; omega
  have h1 : ((n : Int) ≥ 255) = True := by simp; omega
  have h2 : ((n : Int) ≤ 259) = True := by simp; omega
  simp -implicitDefEqProofs only [go_sem, Nat.reduceAdd, Nat.reduceMul, Nat.reduceEqDiff, Nat.reduceLT, Nat.reduceLeDiff, Nat.reduceSub, Nat.reduceBEq, reduceIte, reduceCtorEq, Int.reduceEq, Int.reduceNe, Nat.reduceBneDiff, Int.reduceLE, Int.reduceLT, Int.reduceToNat, Int.reduceAdd, Int.reduceSub, Int.reduceMul, Int.reduceNeg, T_ok3, T_agg3, T_isinfo3, T_info3, T_cells3, T_zero3, T_int3, T_ok23, T_agg23, T_isinfo23, T_info23, T_cells23, T_zero23, T_build23, T_f23_0, T_p23_0, T_f23_1, T_p23_1, T_f23_2, T_p23_2, T_eqs23, T_ok25, T_agg25, T_isinfo25, T_info25, T_cells25, T_zero25, T_elem25, T_under25, T_len25s, T_len25n, T_len25b, T_ok35, T_agg35, T_isinfo35, T_info35, T_cells35, T_zero35, T_elem35, T_under35, T_len35s, T_len35n, T_len35b, T_ok36, T_agg36, T_isinfo36, T_info36, T_cells36, T_zero36, T_elem36, T_under36, T_len36s, T_len36n, T_len36b, T_ok56, T_agg56, T_isinfo56, T_info56, T_cells56, T_zero56, T_build56, T_f56_0, T_p56_0, T_f56_1, T_p56_1, T_f56_2, T_p56_2, T_f56_3, T_p56_3, T_f56_4, T_p56_4, T_f56_5, T_p56_5, ints, hp', ht', h1, h2, List.length_map]
  refine g_loop mixed (fun k : { k : Nat // k ≤ n } => St.of [(0, .bs 7 3 0 k.1), (1, .bs 8 1 0 k.1), (2, .int .i64 (n : Int)), (6, .bool false), (7, .int .i64 k.1)]
      [(8, { els := (manyT k.1).map (PV.int .i64), esz := 1, ety := 3, fro := k.1 - 1, live := true, arr := true }), (7, { els := (manyP k.1).map v3PV, esz := 3, ety := 23, fro := k.1 - 1, live := true, arr := true })]) (fun k => n - k.1) ⟨0, Nat.zero_le _⟩ ?_ ?_
  · refine Le.trans (le_nilG 0 7 3 23 rfl rfl rfl (by decide)) (le_nil1 1 8 1 3 rfl rfl rfl (by decide) [(7, 7), (8, 8)] rfl ?_ ?_)
    · simp [varsLe, lkp, ren1, ren0]
    · simp [boxesLe, lkp, Box.renames, manyP, manyT]
  · rintro ⟨k, hk⟩
    by_cases hlt : k < n
    · have h3 : ((k : Int) < (n : Int)) = True := by simp; omega
      have hw1 : IntKind.i64.wrap (2 * (k : Int)) = 2 * (k : Int) := wrap_i64 (by omega) (by omega)
      have hw2 : IntKind.i64.wrap (10 * (k : Int)) = 10 * (k : Int) := wrap_i64 (by omega) (by omega)
      have hwk : IntKind.i64.wrap ((k : Int) + 1) = ((k + 1 : Nat) : Int) := by rw [wrap_i64 (by omega) (by omega)]; omega
      have hs1 : ((k + 1) * 24 ≤ 140737488355328) = True := by simp only [eq_iff_iff, iff_true]; omega
      have hs2 : (k + 1 ≤ maxLen) = True := by simp only [eq_iff_iff, iff_true]; unfold maxLen; omega
      have hs3 : ((k + 1) * 8 ≤ 140737488355328) = True := by simp only [eq_iff_iff, iff_true]; omega
      simp -implicitDefEqProofs only [go_sem, Nat.reduceAdd, Nat.reduceMul, Nat.reduceEqDiff, Nat.reduceLT, Nat.reduceLeDiff, Nat.reduceSub, Nat.reduceBEq, reduceIte, reduceCtorEq, Int.reduceEq, Int.reduceNe, Nat.reduceBneDiff, Int.reduceLE, Int.reduceLT, Int.reduceToNat, Int.reduceAdd, Int.reduceSub, Int.reduceMul, Int.reduceNeg, T_ok3, T_agg3, T_isinfo3, T_info3, T_cells3, T_zero3, T_int3, T_ok23, T_agg23, T_isinfo23, T_info23, T_cells23, T_zero23, T_build23, T_f23_0, T_p23_0, T_f23_1, T_p23_1, T_f23_2, T_p23_2, T_eqs23, T_ok25, T_agg25, T_isinfo25, T_info25, T_cells25, T_zero25, T_elem25, T_under25, T_len25s, T_len25n, T_len25b, T_ok35, T_agg35, T_isinfo35, T_info35, T_cells35, T_zero35, T_elem35, T_under35, T_len35s, T_len35n, T_len35b, T_ok36, T_agg36, T_isinfo36, T_info36, T_cells36, T_zero36, T_elem36, T_under36, T_len36s, T_len36n, T_len36b, T_ok56, T_agg56, T_isinfo56, T_info56, T_cells56, T_zero56, T_build56, T_f56_0, T_p56_0, T_f56_1, T_p56_1, T_f56_2, T_p56_2, T_f56_3, T_p56_3, T_f56_4, T_p56_4, T_f56_5, T_p56_5, h3, hw1]
      refine gcall_intro _ _ _ _ _ _ _ _ _ (vec_v _ _ _) ?_
      simp -implicitDefEqProofs only [go_sem, Nat.reduceAdd, Nat.reduceMul, Nat.reduceEqDiff, Nat.reduceLT, Nat.reduceLeDiff, Nat.reduceSub, Nat.reduceBEq, reduceIte, reduceCtorEq, Int.reduceEq, Int.reduceNe, Nat.reduceBneDiff, Int.reduceLE, Int.reduceLT, Int.reduceToNat, Int.reduceAdd, Int.reduceSub, Int.reduceMul, Int.reduceNeg, T_ok3, T_agg3, T_isinfo3, T_info3, T_cells3, T_zero3, T_int3, T_ok23, T_agg23, T_isinfo23, T_info23, T_cells23, T_zero23, T_build23, T_f23_0, T_p23_0, T_f23_1, T_p23_1, T_f23_2, T_p23_2, T_eqs23, T_ok25, T_agg25, T_isinfo25, T_info25, T_cells25, T_zero25, T_elem25, T_under25, T_len25s, T_len25n, T_len25b, T_ok35, T_agg35, T_isinfo35, T_info35, T_cells35, T_zero35, T_elem35, T_under35, T_len35s, T_len35n, T_len35b, T_ok36, T_agg36, T_isinfo36, T_info36, T_cells36, T_zero36, T_elem36, T_under36, T_len36s, T_len36n, T_len36b, T_ok56, T_agg56, T_isinfo56, T_info56, T_cells56, T_zero56, T_build56, T_f56_0, T_p56_0, T_f56_1, T_p56_1, T_f56_2, T_p56_2, T_f56_3, T_p56_3, T_f56_4, T_p56_4, T_f56_5, T_p56_5, vecPV, hw2, hwk, List.length_map, manyP_len, manyT_len, manyP_ok, manyT_ok, hs1, hs2, hs3, beq_self_eq_true]
      refine ⟨⟨k + 1, hlt⟩, by simp only; omega, ?_⟩
      refine le_of (θ := [(7, 806), (8, 811)]) rfl ?_ ?_
      · simp [varsLe, lkp, ren1, ren0]
      · simp [boxesLe, lkp, Box.renames, manyP_succ, manyT_succ, v3PV, vecPV]
    · have h3 : ((k : Int) < (n : Int)) = False := by simp; omega
      obtain rfl : k = n := by omega
      generalize hps : manyP k = ps at *
      generalize hts : manyT k = ts at *
      have hpl : ps.length = k := by rw [← hps, manyP_len]
      have htl : ts.length = k := by rw [← hts, manyT_len]
      have hall : ((ps.map v3PV).all fun e => e.cells.length == 3 && e.cells.all PV.okCell) = true := by rw [List.all_map, List.all_eq_true]; intro _ _; rfl
      have hall1 : ((ts.map (PV.int .i64)).all fun e => e.cells.length == 1 && e.cells.all PV.okCell) = true := by rw [List.all_map, List.all_eq_true]; intro _ _; rfl
      have hs1 : (ps.length * 24 ≤ 140737488355328) = True := by simp only [eq_iff_iff, iff_true]; omega
      have hs2 : (ps.length ≤ maxLen) = True := by simp only [eq_iff_iff, iff_true]; unfold maxLen; omega
      have hs3 : (ts.length * 8 ≤ 140737488355328) = True := by simp only [eq_iff_iff, iff_true]; omega
      have hs4 : (ts.length ≤ maxLen) = True := by simp only [eq_iff_iff, iff_true]; unfold maxLen; omega
      have ht1 : (ps.map v3PV).take k = ps.map v3PV := List.take_of_length_le (by simp; omega)
      have ht2 : (ts.map (PV.int .i64)).take k = ts.map (PV.int .i64) := List.take_of_length_le (by simp; omega)
      rw [hpl] at hs1 hs2
      rw [htl] at hs3 hs4
      have hmx : max (k - 1) k = k := by omega
      have hkk : (k ≤ k) = True := by simp
      have f := tour_fit ps ts
      obtain ⟨f1, f2⟩ := f
      simp -implicitDefEqProofs only [go_sem, Nat.reduceAdd, Nat.reduceMul, Nat.reduceEqDiff, Nat.reduceLT, Nat.reduceLeDiff, Nat.reduceSub, Nat.reduceBEq, reduceIte, reduceCtorEq, Int.reduceEq, Int.reduceNe, Nat.reduceBneDiff, Int.reduceLE, Int.reduceLT, Int.reduceToNat, Int.reduceAdd, Int.reduceSub, Int.reduceMul, Int.reduceNeg, T_ok3, T_agg3, T_isinfo3, T_info3, T_cells3, T_zero3, T_int3, T_ok23, T_agg23, T_isinfo23, T_info23, T_cells23, T_zero23, T_build23, T_f23_0, T_p23_0, T_f23_1, T_p23_1, T_f23_2, T_p23_2, T_eqs23, T_ok25, T_agg25, T_isinfo25, T_info25, T_cells25, T_zero25, T_elem25, T_under25, T_len25s, T_len25n, T_len25b, T_ok35, T_agg35, T_isinfo35, T_info35, T_cells35, T_zero35, T_elem35, T_under35, T_len35s, T_len35n, T_len35b, T_ok36, T_agg36, T_isinfo36, T_info36, T_cells36, T_zero36, T_elem36, T_under36, T_len36s, T_len36n, T_len36b, T_ok56, T_agg56, T_isinfo56, T_info56, T_cells56, T_zero56, T_build56, T_f56_0, T_p56_0, T_f56_1, T_p56_1, T_f56_2, T_p56_2, T_f56_3, T_p56_3, T_f56_4, T_p56_4, T_f56_5, T_p56_5, h3, hpl, htl, List.length_map, ht1, ht2, hall, hall1, hs1, hs2, hs3, hs4, List.drop_zero, hkk]
      refine gcall_intro _ _ _ _ _ _ _ _ _ (Tour_v ps ts) ?_
      simp -implicitDefEqProofs only [go_sem, Nat.reduceAdd, Nat.reduceMul, Nat.reduceEqDiff, Nat.reduceLT, Nat.reduceLeDiff, Nat.reduceSub, Nat.reduceBEq, reduceIte, reduceCtorEq, Int.reduceEq, Int.reduceNe, Nat.reduceBneDiff, Int.reduceLE, Int.reduceLT, Int.reduceToNat, Int.reduceAdd, Int.reduceSub, Int.reduceMul, Int.reduceNeg, T_ok3, T_agg3, T_isinfo3, T_info3, T_cells3, T_zero3, T_int3, T_ok23, T_agg23, T_isinfo23, T_info23, T_cells23, T_zero23, T_build23, T_f23_0, T_p23_0, T_f23_1, T_p23_1, T_f23_2, T_p23_2, T_eqs23, T_ok25, T_agg25, T_isinfo25, T_info25, T_cells25, T_zero25, T_elem25, T_under25, T_len25s, T_len25n, T_len25b, T_ok35, T_agg35, T_isinfo35, T_info35, T_cells35, T_zero35, T_elem35, T_under35, T_len35s, T_len35n, T_len35b, T_ok36, T_agg36, T_isinfo36, T_info36, T_cells36, T_zero36, T_elem36, T_under36, T_len36s, T_len36n, T_len36b, T_ok56, T_agg56, T_isinfo56, T_info56, T_cells56, T_zero56, T_build56, T_f56_0, T_p56_0, T_f56_1, T_p56_1, T_f56_2, T_p56_2, T_f56_3, T_p56_3, T_f56_4, T_p56_4, T_f56_5, T_p56_5, pathPV, hpl, htl, List.length_map, ht1, ht2, List.drop_zero, hkk]
      refine gcall_intro _ _ _ _ _ _ _ _ _ (rTour_v ps ts) ?_
      simp -implicitDefEqProofs only [go_sem, Nat.reduceAdd, Nat.reduceMul, Nat.reduceEqDiff, Nat.reduceLT, Nat.reduceLeDiff, Nat.reduceSub, Nat.reduceBEq, reduceIte, reduceCtorEq, Int.reduceEq, Int.reduceNe, Nat.reduceBneDiff, Int.reduceLE, Int.reduceLT, Int.reduceToNat, Int.reduceAdd, Int.reduceSub, Int.reduceMul, Int.reduceNeg, T_ok3, T_agg3, T_isinfo3, T_info3, T_cells3, T_zero3, T_int3, T_ok23, T_agg23, T_isinfo23, T_info23, T_cells23, T_zero23, T_build23, T_f23_0, T_p23_0, T_f23_1, T_p23_1, T_f23_2, T_p23_2, T_eqs23, T_ok25, T_agg25, T_isinfo25, T_info25, T_cells25, T_zero25, T_elem25, T_under25, T_len25s, T_len25n, T_len25b, T_ok35, T_agg35, T_isinfo35, T_info35, T_cells35, T_zero35, T_elem35, T_under35, T_len35s, T_len35n, T_len35b, T_ok36, T_agg36, T_isinfo36, T_info36, T_cells36, T_zero36, T_elem36, T_under36, T_len36s, T_len36n, T_len36b, T_ok56, T_agg56, T_isinfo56, T_info56, T_cells56, T_zero56, T_build56, T_f56_0, T_p56_0, T_f56_1, T_p56_1, T_f56_2, T_p56_2, T_f56_3, T_p56_3, T_f56_4, T_p56_4, T_f56_5, T_p56_5, pathPV]
      refine g_loop mixed (fun k : { k : Nat // k ≤ ps.length } => St.of [(0, .bs 7 3 0 ps.length), (1, .bs 8 1 0 ts.length), (6, .bool false), (8, .bs 901 3 0 ps.length), (9, .bs 903 1 0 ts.length), (10, pathPV (tourP ps ts).1), (11, .int .i64 (tourP ps ts).2), (12, pathPV (tourP ps ts).1), (13, .int .i64 (tourP ps ts).2), (14, .int .i64 k.1)]
        [(903, { els := ts.map (PV.int .i64), esz := 1, ety := 3, fro := ts.length, live := true, arr := true }), (901, { els := ps.map v3PV, esz := 3, ety := 23, fro := ps.length, live := true, arr := true }), (8, { els := ts.map (PV.int .i64), esz := 1, ety := 3, fro := ts.length, live := true, arr := true }), (7, { els := ps.map v3PV, esz := 3, ety := 23, fro := ps.length, live := true, arr := true })]) (fun k => ps.length - k.1) ⟨0, Nat.zero_le _⟩ ?_ ?_
      · refine le_of (θ := [(901, 901), (903, 903), (7, 7), (8, 8)]) rfl ?_ ?_
        · simp [varsLe, lkp, ren1, ren0, pathPV, hpl, htl]
        · simp [boxesLe, lkp, Box.renames, hpl, htl, hmx]
      · rintro ⟨k, hk⟩
        by_cases hlt : k < ps.length
        · have h1 : ((k : Int) < (ps.length : Int)) = True := by simp; omega
          have h0 : (0 ≤ (k : Int)) = True := by simp
          have ea : (ps.map v3PV)[k]? = some (.agg [.int .i64 ps[k].x, .int .i64 ps[k].y, .int .i64 ps[k].z]) := by simp [hlt, v3PV, vecPV]
          have hwk : IntKind.i64.wrap ((k : Int) + 1) = ((k + 1 : Nat) : Int) := by rw [wrap_i64 (by omega) (by omega)]; omega
          simp -implicitDefEqProofs only [go_sem, Nat.reduceAdd, Nat.reduceMul, Nat.reduceEqDiff, Nat.reduceLT, Nat.reduceLeDiff, Nat.reduceSub, Nat.reduceBEq, reduceIte, reduceCtorEq, Int.reduceEq, Int.reduceNe, Nat.reduceBneDiff, Int.reduceLE, Int.reduceLT, Int.reduceToNat, Int.reduceAdd, Int.reduceSub, Int.reduceMul, Int.reduceNeg, T_ok3, T_agg3, T_isinfo3, T_info3, T_cells3, T_zero3, T_int3, T_ok23, T_agg23, T_isinfo23, T_info23, T_cells23, T_zero23, T_build23, T_f23_0, T_p23_0, T_f23_1, T_p23_1, T_f23_2, T_p23_2, T_eqs23, T_ok25, T_agg25, T_isinfo25, T_info25, T_cells25, T_zero25, T_elem25, T_under25, T_len25s, T_len25n, T_len25b, T_ok35, T_agg35, T_isinfo35, T_info35, T_cells35, T_zero35, T_elem35, T_under35, T_len35s, T_len35n, T_len35b, T_ok36, T_agg36, T_isinfo36, T_info36, T_cells36, T_zero36, T_elem36, T_under36, T_len36s, T_len36n, T_len36b, T_ok56, T_agg56, T_isinfo56, T_info56, T_cells56, T_zero56, T_build56, T_f56_0, T_p56_0, T_f56_1, T_p56_1, T_f56_2, T_p56_2, T_f56_3, T_p56_3, T_f56_4, T_p56_4, T_f56_5, T_p56_5, pathPV, h1, h0, List.length_map, Int.toNat_natCast, ea, beq_self_eq_true, bne_self_eq_false, hwk]
          refine ⟨drawQ_true _ _ (by kernel_rfl), ⟨k + 1, hlt⟩, by simp only; omega, ?_⟩
          refine le_of (θ := [(901, 901), (903, 903), (7, 7), (8, 8)]) rfl ?_ ?_
          · simp [varsLe, lkp, ren1, ren0, pathPV, hpl, htl]
          · simp [boxesLe, lkp, Box.renames, hpl, htl, hmx]
        · have h1 : ((k : Int) < (ps.length : Int)) = False := by simp; omega
          simp -implicitDefEqProofs only [go_sem, Nat.reduceAdd, Nat.reduceMul, Nat.reduceEqDiff, Nat.reduceLT, Nat.reduceLeDiff, Nat.reduceSub, Nat.reduceBEq, reduceIte, reduceCtorEq, Int.reduceEq, Int.reduceNe, Nat.reduceBneDiff, Int.reduceLE, Int.reduceLT, Int.reduceToNat, Int.reduceAdd, Int.reduceSub, Int.reduceMul, Int.reduceNeg, T_ok3, T_agg3, T_isinfo3, T_info3, T_cells3, T_zero3, T_int3, T_ok23, T_agg23, T_isinfo23, T_info23, T_cells23, T_zero23, T_build23, T_f23_0, T_p23_0, T_f23_1, T_p23_1, T_f23_2, T_p23_2, T_eqs23, T_ok25, T_agg25, T_isinfo25, T_info25, T_cells25, T_zero25, T_elem25, T_under25, T_len25s, T_len25n, T_len25b, T_ok35, T_agg35, T_isinfo35, T_info35, T_cells35, T_zero35, T_elem35, T_under35, T_len35s, T_len35n, T_len35b, T_ok36, T_agg36, T_isinfo36, T_info36, T_cells36, T_zero36, T_elem36, T_under36, T_len36s, T_len36n, T_len36b, T_ok56, T_agg56, T_isinfo56, T_info56, T_cells56, T_zero56, T_build56, T_f56_0, T_p56_0, T_f56_1, T_p56_1, T_f56_2, T_p56_2, T_f56_3, T_p56_3, T_f56_4, T_p56_4, T_f56_5, T_p56_5, pathPV, h1, List.length_map]
          refine g_loop mixed (fun k : { k : Nat // k ≤ ts.length } => St.of [(0, .bs 7 3 0 ps.length), (1, .bs 8 1 0 ts.length), (6, .bool false), (8, .bs 901 3 0 ps.length), (9, .bs 903 1 0 ts.length), (10, pathPV (tourP ps ts).1), (11, .int .i64 (tourP ps ts).2), (12, pathPV (tourP ps ts).1), (13, .int .i64 (tourP ps ts).2), (15, .int .i64 k.1)]
            [(903, { els := ts.map (PV.int .i64), esz := 1, ety := 3, fro := ts.length, live := true, arr := true }), (901, { els := ps.map v3PV, esz := 3, ety := 23, fro := ps.length, live := true, arr := true }), (8, { els := ts.map (PV.int .i64), esz := 1, ety := 3, fro := ts.length, live := true, arr := true }), (7, { els := ps.map v3PV, esz := 3, ety := 23, fro := ps.length, live := true, arr := true })]) (fun k => ts.length - k.1) ⟨0, Nat.zero_le _⟩ ?_ ?_
          · refine le_of (θ := [(901, 901), (903, 903), (7, 7), (8, 8)]) rfl ?_ ?_
            · simp [varsLe, lkp, ren1, ren0, pathPV, hpl, htl]
            · simp [boxesLe, lkp, Box.renames, hpl, htl, hmx]
          · rintro ⟨k, hk⟩
            by_cases hlt : k < ts.length
            · have h1 : ((k : Int) < (ts.length : Int)) = True := by simp; omega
              have h0 : (0 ≤ (k : Int)) = True := by simp
              have ea : (ts.map (PV.int .i64))[k]? = some (.int .i64 ts[k]) := by simp [hlt]
              have hwk : IntKind.i64.wrap ((k : Int) + 1) = ((k + 1 : Nat) : Int) := by rw [wrap_i64 (by omega) (by omega)]; omega
              simp -implicitDefEqProofs only [go_sem, Nat.reduceAdd, Nat.reduceMul, Nat.reduceEqDiff, Nat.reduceLT, Nat.reduceLeDiff, Nat.reduceSub, Nat.reduceBEq, reduceIte, reduceCtorEq, Int.reduceEq, Int.reduceNe, Nat.reduceBneDiff, Int.reduceLE, Int.reduceLT, Int.reduceToNat, Int.reduceAdd, Int.reduceSub, Int.reduceMul, Int.reduceNeg, T_ok3, T_agg3, T_isinfo3, T_info3, T_cells3, T_zero3, T_int3, T_ok23, T_agg23, T_isinfo23, T_info23, T_cells23, T_zero23, T_build23, T_f23_0, T_p23_0, T_f23_1, T_p23_1, T_f23_2, T_p23_2, T_eqs23, T_ok25, T_agg25, T_isinfo25, T_info25, T_cells25, T_zero25, T_elem25, T_under25, T_len25s, T_len25n, T_len25b, T_ok35, T_agg35, T_isinfo35, T_info35, T_cells35, T_zero35, T_elem35, T_under35, T_len35s, T_len35n, T_len35b, T_ok36, T_agg36, T_isinfo36, T_info36, T_cells36, T_zero36, T_elem36, T_under36, T_len36s, T_len36n, T_len36b, T_ok56, T_agg56, T_isinfo56, T_info56, T_cells56, T_zero56, T_build56, T_f56_0, T_p56_0, T_f56_1, T_p56_1, T_f56_2, T_p56_2, T_f56_3, T_p56_3, T_f56_4, T_p56_4, T_f56_5, T_p56_5, pathPV, h1, h0, List.length_map, Int.toNat_natCast, ea, bne_self_eq_false, hwk]
              refine ⟨drawQ_true _ _ (by kernel_rfl), ⟨k + 1, hlt⟩, by simp only; omega, ?_⟩
              refine le_of (θ := [(901, 901), (903, 903), (7, 7), (8, 8)]) rfl ?_ ?_
              · simp [varsLe, lkp, ren1, ren0, pathPV, hpl, htl]
              · simp [boxesLe, lkp, Box.renames, hpl, htl, hmx]
            · have h1 : ((k : Int) < (ts.length : Int)) = False := by simp; omega
              simp -implicitDefEqProofs only [go_sem, Nat.reduceAdd, Nat.reduceMul, Nat.reduceEqDiff, Nat.reduceLT, Nat.reduceLeDiff, Nat.reduceSub, Nat.reduceBEq, reduceIte, reduceCtorEq, Int.reduceEq, Int.reduceNe, Nat.reduceBneDiff, Int.reduceLE, Int.reduceLT, Int.reduceToNat, Int.reduceAdd, Int.reduceSub, Int.reduceMul, Int.reduceNeg, T_ok3, T_agg3, T_isinfo3, T_info3, T_cells3, T_zero3, T_int3, T_ok23, T_agg23, T_isinfo23, T_info23, T_cells23, T_zero23, T_build23, T_f23_0, T_p23_0, T_f23_1, T_p23_1, T_f23_2, T_p23_2, T_eqs23, T_ok25, T_agg25, T_isinfo25, T_info25, T_cells25, T_zero25, T_elem25, T_under25, T_len25s, T_len25n, T_len25b, T_ok35, T_agg35, T_isinfo35, T_info35, T_cells35, T_zero35, T_elem35, T_under35, T_len35s, T_len35n, T_len35b, T_ok36, T_agg36, T_isinfo36, T_info36, T_cells36, T_zero36, T_elem36, T_under36, T_len36s, T_len36n, T_len36b, T_ok56, T_agg56, T_isinfo56, T_info56, T_cells56, T_zero56, T_build56, T_f56_0, T_p56_0, T_f56_1, T_p56_1, T_f56_2, T_p56_2, T_f56_3, T_p56_3, T_f56_4, T_p56_4, T_f56_5, T_p56_5, pathPV, h1, List.length_map]
              refine gcall_intro _ _ _ _ _ _ _ _ _ (same_v _ f1 f2) ?_
              simp -implicitDefEqProofs only [go_sem, Nat.reduceAdd, Nat.reduceMul, Nat.reduceEqDiff, Nat.reduceLT, Nat.reduceLeDiff, Nat.reduceSub, Nat.reduceBEq, reduceIte, reduceCtorEq, Int.reduceEq, Int.reduceNe, Nat.reduceBneDiff, Int.reduceLE, Int.reduceLT, Int.reduceToNat, Int.reduceAdd, Int.reduceSub, Int.reduceMul, Int.reduceNeg, T_ok3, T_agg3, T_isinfo3, T_info3, T_cells3, T_zero3, T_int3, T_ok23, T_agg23, T_isinfo23, T_info23, T_cells23, T_zero23, T_build23, T_f23_0, T_p23_0, T_f23_1, T_p23_1, T_f23_2, T_p23_2, T_eqs23, T_ok25, T_agg25, T_isinfo25, T_info25, T_cells25, T_zero25, T_elem25, T_under25, T_len25s, T_len25n, T_len25b, T_ok35, T_agg35, T_isinfo35, T_info35, T_cells35, T_zero35, T_elem35, T_under35, T_len35s, T_len35n, T_len35b, T_ok36, T_agg36, T_isinfo36, T_info36, T_cells36, T_zero36, T_elem36, T_under36, T_len36s, T_len36n, T_len36b, T_ok56, T_agg56, T_isinfo56, T_info56, T_cells56, T_zero56, T_build56, T_f56_0, T_p56_0, T_f56_1, T_p56_1, T_f56_2, T_p56_2, T_f56_3, T_p56_3, T_f56_4, T_p56_4, T_f56_5, T_p56_5, pathPV, beq_self_eq_true]
              refine gcall_intro _ _ _ _ _ _ _ _ _ known_v ?_
              simp -implicitDefEqProofs only [go_sem, Nat.reduceAdd, Nat.reduceMul, Nat.reduceEqDiff, Nat.reduceLT, Nat.reduceLeDiff, Nat.reduceSub, Nat.reduceBEq, reduceIte, reduceCtorEq, Int.reduceEq, Int.reduceNe, Nat.reduceBneDiff, Int.reduceLE, Int.reduceLT, Int.reduceToNat, Int.reduceAdd, Int.reduceSub, Int.reduceMul, Int.reduceNeg, T_ok3, T_agg3, T_isinfo3, T_info3, T_cells3, T_zero3, T_int3, T_ok23, T_agg23, T_isinfo23, T_info23, T_cells23, T_zero23, T_build23, T_f23_0, T_p23_0, T_f23_1, T_p23_1, T_f23_2, T_p23_2, T_eqs23, T_ok25, T_agg25, T_isinfo25, T_info25, T_cells25, T_zero25, T_elem25, T_under25, T_len25s, T_len25n, T_len25b, T_ok35, T_agg35, T_isinfo35, T_info35, T_cells35, T_zero35, T_elem35, T_under35, T_len35s, T_len35n, T_len35b, T_ok36, T_agg36, T_isinfo36, T_info36, T_cells36, T_zero36, T_elem36, T_under36, T_len36s, T_len36n, T_len36b, T_ok56, T_agg56, T_isinfo56, T_info56, T_cells56, T_zero56, T_build56, T_f56_0, T_p56_0, T_f56_1, T_p56_1, T_f56_2, T_p56_2, T_f56_3, T_p56_3, T_f56_4, T_p56_4, T_f56_5, T_p56_5]
end Go.Proofs.Ytkajnimlfehmeaa

namespace Go.Proofs.Ytkajnimlfehmeaa
open Go.Vl Go.RowKit

theorem GlideTours_v (ps : List Sky.V3) (ts : List Int) (m : Int) : SoundAt Try.prog 4 [.slc (ps.map v3PV), ints ts, .int .i64 m] (.bool true) := by
  by_cases h : 20 < ps.length ∨ 20 < ts.length
  · exact tours_long ps ts m h
  · by_cases hm : 255 ≤ m ∧ m ≤ 259
    · obtain ⟨n, rfl⟩ : ∃ n : Nat, m = n := ⟨m.toNat, by omega⟩
      exact tours_many ps ts n (by omega) (by omega) (by omega)
    · exact tours_few ps ts m (by omega) (by omega) hm

theorem own : ownKnob Try.prog.godebug = none := by kernel_rfl
theorem laid : laidOutB Try.prog = true := by kernel_rfl
def vecT : TT := .agg [.int .i64, .int .i64, .int .i64]
theorem vecT_inv {c : List PV} (h : HasTT vecT c) : ∃ v : Sky.V3, vecT.mk c = v3PV v := by
  simp only [vecT, HasTT, HasTTs] at h
  obtain ⟨_, _, rfl, ⟨x, rfl, _⟩, _, _, rfl, ⟨y, rfl, _⟩, _, _, rfl, ⟨z, rfl, _⟩, rfl⟩ := h
  exact ⟨⟨x, y, z⟩, rfl⟩
theorem intT_inv {c : List PV} (h : HasTT (.int .i64) c) : ∃ x, TT.mk (.int .i64) c = .int .i64 x ∧ (Lit.int .i64 x).wf = true := by
  simp only [HasTT] at h
  obtain ⟨x, rfl, hx⟩ := h
  exact ⟨x, rfl, hx⟩
theorem map_inv {e : TT} {α : Type} {f : α → PV} (hf : ∀ c, HasTT e c → ∃ a, e.mk c = f a) : ∀ ess : List (List PV), (∀ c ∈ ess, HasTT e c) → ∃ l : List α, ess.map e.mk = l.map f
  | [], _ => ⟨[], rfl⟩
  | c :: cs, h => by
    obtain ⟨a, ha⟩ := hf c (h c (by simp))
    obtain ⟨l, hl⟩ := map_inv hf cs (fun c hc => h c (by simp [hc]))
    exact ⟨a :: l, by simp [ha, hl]⟩
theorem vecsT_inv {c : List PV} (h : HasTT (.slc vecT) c) : ∃ ps : List Sky.V3, TT.mk (.slc vecT) c = .slc (ps.map v3PV) := by
  simp only [HasTT] at h
  obtain ⟨ess, rfl, _, h⟩ := h
  obtain ⟨l, e⟩ := map_inv (f := v3PV) (fun c h => vecT_inv h) ess h
  exact ⟨l, by simp only [TT.mk, List.headD_cons]; rw [e]⟩
theorem intsT_inv {c : List PV} (h : HasTT (.slc (.int .i64)) c) : ∃ ts : List Int, TT.mk (.slc (.int .i64)) c = ints ts := by
  simp only [HasTT] at h
  obtain ⟨ess, rfl, _, h⟩ := h
  obtain ⟨l, e⟩ := map_inv (f := PV.int .i64) (fun c h => by obtain ⟨x, e, _⟩ := intT_inv h; exact ⟨x, e⟩) ess (fun c hc => by simpa only [HasTT] using h c hc)
  exact ⟨l, by simp only [TT.mk, List.headD_cons, ints]; rw [e]⟩

theorem GlideTours_lifted (os : Os) (started : os.Started) (H : Type) (enc : TypeId × Value → H) :
    ReturnsInHanded {} Try.checked os 4 .any (Rows.glideToursSpec.pre6 enc Try.prog Try.f4 Rows.glideToursRow.domain false) (Rows.glideToursSpec.post enc Try.prog Try.f4 false true false false) := by
  refine law_lifted (C := Try.checked) [.slc vecT, .slc (.int .i64), .int .i64] own started (by kernel_rfl) Try.func4
    (ChangeSpec.witness6 (enc := enc) (C := Try.checked) false ⟨#[], #[.slice none 0 0, .slice none 0 0, .int .i64 0], []⟩ 8 (by kernel_rfl) (by kernel_rfl) (by kernel_rfl) (by kernel_rfl))
    laid rfl (tb := 4) (by kernel_rfl) (by kernel_rfl) (by kernel_rfl) (by kernel_rfl) ?_ ?_
  · intro ds hd
    match ds, hd with
    | [d1, d2, d3], _ => rfl
  · rintro pvs ⟨c1, _, rfl, h1, c2, _, rfl, h2, c3, _, rfl, h3, rfl⟩
    obtain ⟨ps, e1⟩ := vecsT_inv h1
    obtain ⟨ts, e2⟩ := intsT_inv h2
    obtain ⟨m, e3, _⟩ := intT_inv h3
    rw [e1, e2, e3]
    exact GlideTours_v ps ts m

theorem GlideTours_holds : Rows.GlideToursSaid :=
  OpenClaim.holds_of_wide (p := Try.pinned) (s := Rows.glideToursSpec) (c := Rows.glideToursRow) 4 Try.f4 rfl rfl rfl rfl rfl rfl rfl ⟨rfl, rfl, rfl, rfl, rfl⟩ rfl rfl rfl rfl rfl (by kernel_rfl) Try.func4 (by kernel_rfl)
    (of_decide_eq_true (by kernel_rfl)) (by unfold Func.isWrapper; first | (rw [if_pos (by decide +kernel)]; kernel_rfl) | (rw [if_neg (by decide +kernel)]; exact ⟨rfl, rfl⟩))
    (fun os started H enc _ => GlideTours_lifted os started H enc)
end Go.Proofs.Ytkajnimlfehmeaa

namespace Go.Dg

def digs (B n : Nat) : List Nat := if h : n = 0 ∨ B < 2 then [] else n % B :: digs B (n / B)
termination_by n
decreasing_by
  simp only [not_or, Nat.not_lt] at h
  exact Nat.div_lt_self (Nat.pos_of_ne_zero h.1) h.2

def val (B : Nat) : List Nat → Nat
  | [] => 0
  | d :: l => d + B * val B l

section
variable {B : Nat}
theorem digs_zero : digs B 0 = [] := by unfold digs; simp
theorem digs_succ (hB : 2 ≤ B) {n : Nat} (hn : n ≠ 0) : digs B n = n % B :: digs B (n / B) := by
  conv => lhs; unfold digs
  rw [dif_neg]
  simp only [not_or, Nat.not_lt]
  exact ⟨hn, hB⟩

theorem val_digs (hB : 2 ≤ B) (n : Nat) : val B (digs B n) = n := by
  induction n using Nat.strongRecOn with
  | _ n ih =>
    by_cases hn : n = 0
    · subst hn; rw [digs_zero]; rfl
    · rw [digs_succ hB hn]
      simp only [val]
      rw [ih _ (Nat.div_lt_self (Nat.pos_of_ne_zero hn) hB)]
      exact Nat.mod_add_div n B

theorem digs_get (hB : 2 ≤ B) (n k : Nat) : (digs B n)[k]? = if n / B ^ k = 0 then none else some (n / B ^ k % B) := by
  induction k generalizing n with
  | zero =>
    by_cases hn : n = 0
    · subst hn; simp [digs_zero]
    · rw [digs_succ hB hn]; simp [hn]
  | succ k ih =>
    by_cases hn : n = 0
    · subst hn; simp [digs_zero]
    · rw [digs_succ hB hn, List.getElem?_cons_succ, ih]
      have : n / B / B ^ k = n / B ^ (k + 1) := by rw [Nat.div_div_eq_div_mul, Nat.pow_succ, Nat.mul_comm]
      rw [this]

theorem digs_len (hB : 2 ≤ B) (n k : Nat) : k < (digs B n).length ↔ n / B ^ k ≠ 0 := by
  have := digs_get hB n k
  constructor
  · intro h hz
    rw [if_pos hz, List.getElem?_eq_none_iff] at this
    omega
  · intro h
    rw [if_neg h] at this
    exact (List.getElem?_eq_some_iff.1 this).1
theorem digs_len_le (hB : 2 ≤ B) (n k : Nat) : (digs B n).length ≤ k ↔ n < B ^ k := by
  have h := digs_len hB n k
  have hp : 0 < B ^ k := Nat.pow_pos (by omega)
  rw [← Nat.not_lt, h, Decidable.not_not, Nat.div_eq_zero_iff]
  omega
theorem lt_pow_len (hB : 2 ≤ B) (n : Nat) : n < B ^ (digs B n).length := (digs_len_le hB n _).1 (Nat.le_refl _)
theorem digs_get_lt (hB : 2 ≤ B) {n k : Nat} (h : k < (digs B n).length) : (digs B n)[k]? = some (n / B ^ k % B) := by
  rw [digs_get hB, if_neg ((digs_len hB n k).1 h)]
theorem digs_mem_lt (hB : 2 ≤ B) {n d : Nat} (h : d ∈ digs B n) : d < B := by
  obtain ⟨k, hk⟩ := List.mem_iff_getElem?.1 h
  rw [digs_get hB] at hk
  split at hk
  · cases hk
  · cases hk; exact Nat.mod_lt _ (by omega)
theorem digit_beyond (hB : 2 ≤ B) {n k : Nat} (h : (digs B n).length ≤ k) : n / B ^ k = 0 := by
  have := (digs_len_le hB n k).1 h
  exact Nat.div_eq_of_lt this
theorem digs_eq_nil (hB : 2 ≤ B) {n : Nat} : digs B n = [] ↔ n = 0 := by
  constructor
  · intro h; have := val_digs hB n; rw [h] at this; exact this.symm
  · rintro rfl; exact digs_zero

/-- The lowest digits. -/
def lows (B n i : Nat) : List Nat := (List.range i).map fun k => n / B ^ k % B
theorem lows_length (n i : Nat) : (lows B n i).length = i := by simp [lows]
theorem lows_succ (n i : Nat) : lows B n (i + 1) = lows B n i ++ [n / B ^ i % B] := by simp [lows, List.range_succ]
theorem lows_get (n i k : Nat) (h : k < i) : (lows B n i)[k]? = some (n / B ^ k % B) := by simp [lows, h]
theorem lows_cons (n i : Nat) : lows B n (i + 1) = n % B :: lows B (n / B) i := by
  simp only [lows, List.range_succ_eq_map, List.map_cons, Nat.pow_zero, Nat.div_one, List.map_map]
  congr 1
  apply List.map_congr_left
  intro k _
  simp only [Function.comp, Nat.succ_eq_add_one]
  rw [Nat.div_div_eq_div_mul, Nat.pow_succ, Nat.mul_comm]
theorem val_lows (hB : 0 < B) (n i : Nat) : val B (lows B n i) = n % B ^ i := by
  induction i generalizing n with
  | zero => simp [lows, val, Nat.mod_one]
  | succ i ih =>
    rw [lows_cons]
    simp only [val]
    rw [ih, Nat.pow_succ, Nat.mul_comm (B ^ i) B, Nat.mod_mul]
theorem lows_digs (hB : 2 ≤ B) (n : Nat) : lows B n (digs B n).length = digs B n := by
  apply List.ext_getElem?
  intro k
  by_cases hk : k < (digs B n).length
  · rw [lows_get _ _ _ hk, digs_get_lt hB hk]
  · rw [List.getElem?_eq_none (by rw [lows_length]; omega), List.getElem?_eq_none (by omega)]
theorem lows_congr (hB : 2 ≤ B) {n m i : Nat} (h : n % B ^ i = m % B ^ i) : lows B n i = lows B m i := by
  apply List.map_congr_left
  intro k hk
  have hk := List.mem_range.1 hk
  have key : ∀ n, n / B ^ k % B = (n % B ^ i) / B ^ k % B := by
    intro n
    have e : B ^ i = B ^ k * (B * B ^ (i - k - 1)) := by
      rw [← Nat.mul_assoc, ← Nat.pow_succ, ← Nat.pow_add]; congr 1; omega
    rw [e, Nat.mod_mul_right_div_self, Nat.mod_mul_right_mod]
  rw [key n, key m, h]

/-- Without the zeros at the end. -/
def trimZ (l : List Nat) : List Nat := (l.reverse.dropWhile (· == 0)).reverse
theorem trimZ_snoc_zero (l : List Nat) : trimZ (l ++ [0]) = trimZ l := by simp [trimZ]
theorem trimZ_snoc (l : List Nat) {d : Nat} (h : d ≠ 0) : trimZ (l ++ [d]) = l ++ [d] := by simp [trimZ, h]
theorem trimZ_nil : trimZ [] = [] := rfl

theorem val_append (l m : List Nat) : val B (l ++ m) = val B l + B ^ l.length * val B m := by
  induction l with
  | nil => simp [val]
  | cons d l ih =>
    simp only [List.cons_append, val, ih, List.length_cons, Nat.pow_succ]
    rw [Nat.mul_add, Nat.add_assoc, ← Nat.mul_assoc, Nat.mul_comm B (B ^ l.length)]
theorem val_lt (hB : 0 < B) {l : List Nat} (h : ∀ d ∈ l, d < B) : val B l < B ^ l.length := by
  induction l with
  | nil => simp [val]
  | cons d l ih =>
    have h1 := ih fun x hx => h x (by simp [hx])
    have h2 := h d (by simp)
    simp only [val, List.length_cons, Nat.pow_succ]
    have : B * val B l + B ≤ B * B ^ l.length := by rw [← Nat.mul_succ]; exact Nat.mul_le_mul_left _ h1
    rw [Nat.mul_comm (B ^ l.length)]
    omega
theorem lows_val (hB : 2 ≤ B) {l : List Nat} (h : ∀ d ∈ l, d < B) : lows B (val B l) l.length = l := by
  induction l with
  | nil => rfl
  | cons d l ih =>
    have h2 := h d (by simp)
    rw [List.length_cons, lows_cons]
    simp only [val]
    rw [Nat.add_mul_mod_self_left, Nat.mod_eq_of_lt h2, Nat.add_mul_div_left _ _ (by omega), Nat.div_eq_of_lt h2, Nat.zero_add, ih fun x hx => h x (by simp [hx])]
theorem trimZ_eq (hB : 2 ≤ B) (l : List Nat) (h : ∀ d ∈ l, d < B) : trimZ l = digs B (val B l) := by
  have key : ∀ n, ∀ l : List Nat, l.length = n → (∀ d ∈ l, d < B) → trimZ l = digs B (val B l) := by
    intro n
    induction n with
    | zero => intro l hl _; rw [List.length_eq_zero_iff.1 hl]; simp [trimZ_nil, val, digs_zero]
    | succ n ih =>
      intro l hl h
      have hne : l ≠ [] := by rintro rfl; simp at hl
      have hcut := List.dropLast_concat_getLast hne
      generalize l.dropLast = m at hcut
      generalize l.getLast hne = d at hcut
      subst hcut
      have hm : m.length = n := by simpa using hl
      have hmd : ∀ x ∈ m, x < B := fun x hx => h x (by simp [hx])
      by_cases hd : d = 0
      · subst hd
        rw [trimZ_snoc_zero, ih m hm hmd, val_append]
        simp [val]
      · rw [trimZ_snoc m hd]
        have hlen : (digs B (val B (m ++ [d]))).length = (m ++ [d]).length := by
          apply Nat.le_antisymm
          · exact (digs_len_le hB _ _).2 (val_lt (by omega) h)
          · have : (m ++ [d]).length = m.length + 1 := by simp
            rw [this]
            apply (digs_len hB _ _).2
            rw [val_append]
            simp only [val, Nat.mul_zero, Nat.add_zero]
            rw [Nat.add_mul_div_left _ _ (Nat.pow_pos (by omega))]
            exact fun e => hd (Nat.eq_zero_of_add_eq_zero_left e)
        have := lows_digs hB (val B (m ++ [d]))
        rw [hlen, lows_val hB h] at this
        exact this
  exact key l.length l rfl h
theorem trimZ_lows (hB : 2 ≤ B) (n i : Nat) : trimZ (lows B n i) = digs B (n % B ^ i) := by
  rw [trimZ_eq hB, val_lows (by omega)]
  intro d hd
  simp only [lows, List.mem_map] at hd
  obtain ⟨k, _, rfl⟩ := hd
  exact Nat.mod_lt _ (by omega)
theorem trimZ_digs (hB : 2 ≤ B) (n : Nat) : trimZ (digs B n) = digs B n := by
  rw [trimZ_eq hB _ fun d hd => digs_mem_lt hB hd, val_digs hB]
theorem trimZ_last {l : List Nat} (h : ∀ d, l.getLast? = some d → d ≠ 0) : trimZ l = l := by
  by_cases hne : l = []
  · subst hne; rfl
  · have hcut := List.dropLast_concat_getLast hne
    have hl : l.getLast? = some (l.getLast hne) := List.getLast?_eq_some_getLast hne
    have := h _ hl
    rw [← hcut]
    exact trimZ_snoc _ this
end
end Go.Dg
