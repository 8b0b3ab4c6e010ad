/-
  The law GlideTours at many points.
-/
import Derived.Test.YtkajnimlfehmeaaGG5
set_option linter.unusedSimpArgs false
set_option linter.unusedVariables false
namespace Go.Proofs.Ytkajnimlfehmeaa
open Go.Vl

def manyP (n : Nat) : List Sky.V3 := (List.range n).map fun i : Nat => ⟨i, 2 * i, 0⟩
def manyT (n : Nat) : List Int := (List.range n).map fun i : Nat => 10 * (i : Int)
theorem manyP_len (n : Nat) : (manyP n).length = n := by simp [manyP]
theorem manyT_len (n : Nat) : (manyT n).length = n := by simp [manyT]
theorem manyP_succ (n : Nat) : manyP (n + 1) = manyP n ++ [⟨n, 2 * n, 0⟩] := by simp [manyP, List.range_succ]
theorem manyT_succ (n : Nat) : manyT (n + 1) = manyT n ++ [10 * (n : Int)] := by simp [manyT, List.range_succ]
theorem manyP_ok (n : Nat) : (((manyP n).map v3PV).flatMap PV.cells).all PV.okCell = true := by
  rw [List.all_flatMap, List.all_map, List.all_eq_true]; intro _ _; rfl
theorem manyT_ok (n : Nat) : (((manyT n).map (PV.int .i64)).flatMap PV.cells).all PV.okCell = true := by
  rw [List.all_flatMap, List.all_map, List.all_eq_true]; intro _ _; rfl
theorem tours_many (ps0 : List Sky.V3) (ts0 : List Int) (n : Nat) (hp : ps0.length ≤ 20) (ht : ts0.length ≤ 20) (hn : 255 ≤ n ∧ n ≤ 259) : SoundAt Try.prog 4 [.slc (ps0.map v3PV), ints ts0, .int .i64 (n : Int)] (.bool true) := by
  have hml := maxLen_lt
  refine sound_go (tb := []) 105 [.tmp 6] [0, 1, 2, 6, 7, 8, 9, 10, 11, 12, 13, 14, 15, 23, 30, 33, 67, 78, 82, 93] mixed Try.func4 rfl (by kernel_rfl) (by kernel_rfl) (by kernel_rfl) (by kernel_rfl) ?_
  have hp' : ((ps0.length : Int) > 20) = False := by simp; omega
  have ht' : ((ts0.length : Int) > 20) = False := by simp; omega
  have h1 : ((n : Int) ≥ 255) = True := by simp; omega
  have h2 : ((n : Int) ≤ 259) = True := by simp; omega
  simp -implicitDefEqProofs only [go_sem, Nat.reduceAdd, Nat.reduceMul, Nat.reduceEqDiff, Nat.reduceLT, Nat.reduceLeDiff, Nat.reduceSub, Nat.reduceBEq, reduceIte, reduceCtorEq, Int.reduceEq, Int.reduceNe, Nat.reduceBneDiff, Int.reduceLE, Int.reduceLT, Int.reduceToNat, Int.reduceAdd, Int.reduceSub, Int.reduceMul, Int.reduceNeg, T_ok3, T_agg3, T_isinfo3, T_info3, T_cells3, T_zero3, T_int3, T_ok23, T_agg23, T_isinfo23, T_info23, T_cells23, T_zero23, T_build23, T_f23_0, T_p23_0, T_f23_1, T_p23_1, T_f23_2, T_p23_2, T_eqs23, T_ok25, T_agg25, T_isinfo25, T_info25, T_cells25, T_zero25, T_elem25, T_under25, T_len25s, T_len25n, T_len25b, T_ok35, T_agg35, T_isinfo35, T_info35, T_cells35, T_zero35, T_elem35, T_under35, T_len35s, T_len35n, T_len35b, T_ok36, T_agg36, T_isinfo36, T_info36, T_cells36, T_zero36, T_elem36, T_under36, T_len36s, T_len36n, T_len36b, T_ok56, T_agg56, T_isinfo56, T_info56, T_cells56, T_zero56, T_build56, T_f56_0, T_p56_0, T_f56_1, T_p56_1, T_f56_2, T_p56_2, T_f56_3, T_p56_3, T_f56_4, T_p56_4, T_f56_5, T_p56_5, ints, hp', ht', h1, h2, List.length_map]
  refine g_loop mixed (fun k : { k : Nat // k ≤ n } => St.of [(0, .bs 7 3 0 k.1), (1, .bs 8 1 0 k.1), (2, .int .i64 (n : Int)), (6, .bool false), (7, .int .i64 k.1)]
      [(8, { els := (manyT k.1).map (PV.int .i64), esz := 1, ety := 3, fro := k.1 - 1, live := true, arr := true }), (7, { els := (manyP k.1).map v3PV, esz := 3, ety := 23, fro := k.1 - 1, live := true, arr := true })]) (fun k => n - k.1) ⟨0, Nat.zero_le _⟩ ?_ ?_
  · refine Le.trans (le_nilG 0 7 3 23 rfl rfl rfl (by decide)) (le_nil1 1 8 1 3 rfl rfl rfl (by decide) [(7, 7), (8, 8)] rfl ?_ ?_)
    · simp [varsLe, lkp, ren1, ren0]
    · simp [boxesLe, lkp, Box.renames, manyP, manyT]
  · rintro ⟨k, hk⟩
    by_cases hlt : k < n
    · have h3 : ((k : Int) < (n : Int)) = True := by simp; omega
      have hw1 : IntKind.i64.wrap (2 * (k : Int)) = 2 * (k : Int) := wrap_i64 (by omega) (by omega)
      have hw2 : IntKind.i64.wrap (10 * (k : Int)) = 10 * (k : Int) := wrap_i64 (by omega) (by omega)
      have hwk : IntKind.i64.wrap ((k : Int) + 1) = ((k + 1 : Nat) : Int) := by rw [wrap_i64 (by omega) (by omega)]; omega
      have hs1 : ((k + 1) * 24 ≤ 140737488355328) = True := by simp only [eq_iff_iff, iff_true]; omega
      have hs2 : (k + 1 ≤ maxLen) = True := by simp only [eq_iff_iff, iff_true]; unfold maxLen; omega
      have hs3 : ((k + 1) * 8 ≤ 140737488355328) = True := by simp only [eq_iff_iff, iff_true]; omega
      simp -implicitDefEqProofs only [go_sem, Nat.reduceAdd, Nat.reduceMul, Nat.reduceEqDiff, Nat.reduceLT, Nat.reduceLeDiff, Nat.reduceSub, Nat.reduceBEq, reduceIte, reduceCtorEq, Int.reduceEq, Int.reduceNe, Nat.reduceBneDiff, Int.reduceLE, Int.reduceLT, Int.reduceToNat, Int.reduceAdd, Int.reduceSub, Int.reduceMul, Int.reduceNeg, T_ok3, T_agg3, T_isinfo3, T_info3, T_cells3, T_zero3, T_int3, T_ok23, T_agg23, T_isinfo23, T_info23, T_cells23, T_zero23, T_build23, T_f23_0, T_p23_0, T_f23_1, T_p23_1, T_f23_2, T_p23_2, T_eqs23, T_ok25, T_agg25, T_isinfo25, T_info25, T_cells25, T_zero25, T_elem25, T_under25, T_len25s, T_len25n, T_len25b, T_ok35, T_agg35, T_isinfo35, T_info35, T_cells35, T_zero35, T_elem35, T_under35, T_len35s, T_len35n, T_len35b, T_ok36, T_agg36, T_isinfo36, T_info36, T_cells36, T_zero36, T_elem36, T_under36, T_len36s, T_len36n, T_len36b, T_ok56, T_agg56, T_isinfo56, T_info56, T_cells56, T_zero56, T_build56, T_f56_0, T_p56_0, T_f56_1, T_p56_1, T_f56_2, T_p56_2, T_f56_3, T_p56_3, T_f56_4, T_p56_4, T_f56_5, T_p56_5, h3, hw1]
      refine gcall_intro _ _ _ _ _ _ _ _ _ (vec_v _ _ _) ?_
      simp -implicitDefEqProofs only [go_sem, Nat.reduceAdd, Nat.reduceMul, Nat.reduceEqDiff, Nat.reduceLT, Nat.reduceLeDiff, Nat.reduceSub, Nat.reduceBEq, reduceIte, reduceCtorEq, Int.reduceEq, Int.reduceNe, Nat.reduceBneDiff, Int.reduceLE, Int.reduceLT, Int.reduceToNat, Int.reduceAdd, Int.reduceSub, Int.reduceMul, Int.reduceNeg, T_ok3, T_agg3, T_isinfo3, T_info3, T_cells3, T_zero3, T_int3, T_ok23, T_agg23, T_isinfo23, T_info23, T_cells23, T_zero23, T_build23, T_f23_0, T_p23_0, T_f23_1, T_p23_1, T_f23_2, T_p23_2, T_eqs23, T_ok25, T_agg25, T_isinfo25, T_info25, T_cells25, T_zero25, T_elem25, T_under25, T_len25s, T_len25n, T_len25b, T_ok35, T_agg35, T_isinfo35, T_info35, T_cells35, T_zero35, T_elem35, T_under35, T_len35s, T_len35n, T_len35b, T_ok36, T_agg36, T_isinfo36, T_info36, T_cells36, T_zero36, T_elem36, T_under36, T_len36s, T_len36n, T_len36b, T_ok56, T_agg56, T_isinfo56, T_info56, T_cells56, T_zero56, T_build56, T_f56_0, T_p56_0, T_f56_1, T_p56_1, T_f56_2, T_p56_2, T_f56_3, T_p56_3, T_f56_4, T_p56_4, T_f56_5, T_p56_5, vecPV, hw2, hwk, List.length_map, manyP_len, manyT_len, manyP_ok, manyT_ok, hs1, hs2, hs3, beq_self_eq_true]
      refine ⟨⟨k + 1, hlt⟩, by simp only; omega, ?_⟩
      refine le_of (θ := [(7, 806), (8, 811)]) rfl ?_ ?_
      · simp [varsLe, lkp, ren1, ren0]
      · simp [boxesLe, lkp, Box.renames, manyP_succ, manyT_succ, v3PV, vecPV]
    · have h3 : ((k : Int) < (n : Int)) = False := by simp; omega
      obtain rfl : k = n := by omega
      generalize hps : manyP k = ps at *
      generalize hts : manyT k = ts at *
      have hpl : ps.length = k := by rw [← hps, manyP_len]
      have htl : ts.length = k := by rw [← hts, manyT_len]
      have hall : ((ps.map v3PV).all fun e => e.cells.length == 3 && e.cells.all PV.okCell) = true := by rw [List.all_map, List.all_eq_true]; intro _ _; rfl
      have hall1 : ((ts.map (PV.int .i64)).all fun e => e.cells.length == 1 && e.cells.all PV.okCell) = true := by rw [List.all_map, List.all_eq_true]; intro _ _; rfl
      have hs1 : (ps.length * 24 ≤ 140737488355328) = True := by simp only [eq_iff_iff, iff_true]; omega
      have hs2 : (ps.length ≤ maxLen) = True := by simp only [eq_iff_iff, iff_true]; unfold maxLen; omega
      have hs3 : (ts.length * 8 ≤ 140737488355328) = True := by simp only [eq_iff_iff, iff_true]; omega
      have hs4 : (ts.length ≤ maxLen) = True := by simp only [eq_iff_iff, iff_true]; unfold maxLen; omega
      have ht1 : (ps.map v3PV).take k = ps.map v3PV := List.take_of_length_le (by simp; omega)
      have ht2 : (ts.map (PV.int .i64)).take k = ts.map (PV.int .i64) := List.take_of_length_le (by simp; omega)
      rw [hpl] at hs1 hs2
      rw [htl] at hs3 hs4
      have hmx : max (k - 1) k = k := by omega
      have hkk : (k ≤ k) = True := by simp
      have f := tour_fit ps ts
      obtain ⟨f1, f2⟩ := f
      simp -implicitDefEqProofs only [go_sem, Nat.reduceAdd, Nat.reduceMul, Nat.reduceEqDiff, Nat.reduceLT, Nat.reduceLeDiff, Nat.reduceSub, Nat.reduceBEq, reduceIte, reduceCtorEq, Int.reduceEq, Int.reduceNe, Nat.reduceBneDiff, Int.reduceLE, Int.reduceLT, Int.reduceToNat, Int.reduceAdd, Int.reduceSub, Int.reduceMul, Int.reduceNeg, T_ok3, T_agg3, T_isinfo3, T_info3, T_cells3, T_zero3, T_int3, T_ok23, T_agg23, T_isinfo23, T_info23, T_cells23, T_zero23, T_build23, T_f23_0, T_p23_0, T_f23_1, T_p23_1, T_f23_2, T_p23_2, T_eqs23, T_ok25, T_agg25, T_isinfo25, T_info25, T_cells25, T_zero25, T_elem25, T_under25, T_len25s, T_len25n, T_len25b, T_ok35, T_agg35, T_isinfo35, T_info35, T_cells35, T_zero35, T_elem35, T_under35, T_len35s, T_len35n, T_len35b, T_ok36, T_agg36, T_isinfo36, T_info36, T_cells36, T_zero36, T_elem36, T_under36, T_len36s, T_len36n, T_len36b, T_ok56, T_agg56, T_isinfo56, T_info56, T_cells56, T_zero56, T_build56, T_f56_0, T_p56_0, T_f56_1, T_p56_1, T_f56_2, T_p56_2, T_f56_3, T_p56_3, T_f56_4, T_p56_4, T_f56_5, T_p56_5, h3, hpl, htl, List.length_map, ht1, ht2, hall, hall1, hs1, hs2, hs3, hs4, List.drop_zero, hkk]
      refine gcall_intro _ _ _ _ _ _ _ _ _ (Tour_v ps ts) ?_
      simp -implicitDefEqProofs only [go_sem, Nat.reduceAdd, Nat.reduceMul, Nat.reduceEqDiff, Nat.reduceLT, Nat.reduceLeDiff, Nat.reduceSub, Nat.reduceBEq, reduceIte, reduceCtorEq, Int.reduceEq, Int.reduceNe, Nat.reduceBneDiff, Int.reduceLE, Int.reduceLT, Int.reduceToNat, Int.reduceAdd, Int.reduceSub, Int.reduceMul, Int.reduceNeg, T_ok3, T_agg3, T_isinfo3, T_info3, T_cells3, T_zero3, T_int3, T_ok23, T_agg23, T_isinfo23, T_info23, T_cells23, T_zero23, T_build23, T_f23_0, T_p23_0, T_f23_1, T_p23_1, T_f23_2, T_p23_2, T_eqs23, T_ok25, T_agg25, T_isinfo25, T_info25, T_cells25, T_zero25, T_elem25, T_under25, T_len25s, T_len25n, T_len25b, T_ok35, T_agg35, T_isinfo35, T_info35, T_cells35, T_zero35, T_elem35, T_under35, T_len35s, T_len35n, T_len35b, T_ok36, T_agg36, T_isinfo36, T_info36, T_cells36, T_zero36, T_elem36, T_under36, T_len36s, T_len36n, T_len36b, T_ok56, T_agg56, T_isinfo56, T_info56, T_cells56, T_zero56, T_build56, T_f56_0, T_p56_0, T_f56_1, T_p56_1, T_f56_2, T_p56_2, T_f56_3, T_p56_3, T_f56_4, T_p56_4, T_f56_5, T_p56_5, pathPV, hpl, htl, List.length_map, ht1, ht2, List.drop_zero, hkk]
      refine gcall_intro _ _ _ _ _ _ _ _ _ (rTour_v ps ts) ?_
      simp -implicitDefEqProofs only [go_sem, Nat.reduceAdd, Nat.reduceMul, Nat.reduceEqDiff, Nat.reduceLT, Nat.reduceLeDiff, Nat.reduceSub, Nat.reduceBEq, reduceIte, reduceCtorEq, Int.reduceEq, Int.reduceNe, Nat.reduceBneDiff, Int.reduceLE, Int.reduceLT, Int.reduceToNat, Int.reduceAdd, Int.reduceSub, Int.reduceMul, Int.reduceNeg, T_ok3, T_agg3, T_isinfo3, T_info3, T_cells3, T_zero3, T_int3, T_ok23, T_agg23, T_isinfo23, T_info23, T_cells23, T_zero23, T_build23, T_f23_0, T_p23_0, T_f23_1, T_p23_1, T_f23_2, T_p23_2, T_eqs23, T_ok25, T_agg25, T_isinfo25, T_info25, T_cells25, T_zero25, T_elem25, T_under25, T_len25s, T_len25n, T_len25b, T_ok35, T_agg35, T_isinfo35, T_info35, T_cells35, T_zero35, T_elem35, T_under35, T_len35s, T_len35n, T_len35b, T_ok36, T_agg36, T_isinfo36, T_info36, T_cells36, T_zero36, T_elem36, T_under36, T_len36s, T_len36n, T_len36b, T_ok56, T_agg56, T_isinfo56, T_info56, T_cells56, T_zero56, T_build56, T_f56_0, T_p56_0, T_f56_1, T_p56_1, T_f56_2, T_p56_2, T_f56_3, T_p56_3, T_f56_4, T_p56_4, T_f56_5, T_p56_5, pathPV]
      refine g_loop mixed (fun k : { k : Nat // k ≤ ps.length } => St.of [(0, .bs 7 3 0 ps.length), (1, .bs 8 1 0 ts.length), (6, .bool false), (8, .bs 901 3 0 ps.length), (9, .bs 903 1 0 ts.length), (10, pathPV (tourP ps ts).1), (11, .int .i64 (tourP ps ts).2), (12, pathPV (tourP ps ts).1), (13, .int .i64 (tourP ps ts).2), (14, .int .i64 k.1)]
        [(903, { els := ts.map (PV.int .i64), esz := 1, ety := 3, fro := ts.length, live := true, arr := true }), (901, { els := ps.map v3PV, esz := 3, ety := 23, fro := ps.length, live := true, arr := true }), (8, { els := ts.map (PV.int .i64), esz := 1, ety := 3, fro := ts.length, live := true, arr := true }), (7, { els := ps.map v3PV, esz := 3, ety := 23, fro := ps.length, live := true, arr := true })]) (fun k => ps.length - k.1) ⟨0, Nat.zero_le _⟩ ?_ ?_
      · refine le_of (θ := [(901, 901), (903, 903), (7, 7), (8, 8)]) rfl ?_ ?_
        · simp [varsLe, lkp, ren1, ren0, pathPV, hpl, htl]
        · simp [boxesLe, lkp, Box.renames, hpl, htl, hmx]
      · rintro ⟨k, hk⟩
        by_cases hlt : k < ps.length
        · have h1 : ((k : Int) < (ps.length : Int)) = True := by simp; omega
          have h0 : (0 ≤ (k : Int)) = True := by simp
          have ea : (ps.map v3PV)[k]? = some (.agg [.int .i64 ps[k].x, .int .i64 ps[k].y, .int .i64 ps[k].z]) := by simp [hlt, v3PV, vecPV]
          have hwk : IntKind.i64.wrap ((k : Int) + 1) = ((k + 1 : Nat) : Int) := by rw [wrap_i64 (by omega) (by omega)]; omega
          simp -implicitDefEqProofs only [go_sem, Nat.reduceAdd, Nat.reduceMul, Nat.reduceEqDiff, Nat.reduceLT, Nat.reduceLeDiff, Nat.reduceSub, Nat.reduceBEq, reduceIte, reduceCtorEq, Int.reduceEq, Int.reduceNe, Nat.reduceBneDiff, Int.reduceLE, Int.reduceLT, Int.reduceToNat, Int.reduceAdd, Int.reduceSub, Int.reduceMul, Int.reduceNeg, T_ok3, T_agg3, T_isinfo3, T_info3, T_cells3, T_zero3, T_int3, T_ok23, T_agg23, T_isinfo23, T_info23, T_cells23, T_zero23, T_build23, T_f23_0, T_p23_0, T_f23_1, T_p23_1, T_f23_2, T_p23_2, T_eqs23, T_ok25, T_agg25, T_isinfo25, T_info25, T_cells25, T_zero25, T_elem25, T_under25, T_len25s, T_len25n, T_len25b, T_ok35, T_agg35, T_isinfo35, T_info35, T_cells35, T_zero35, T_elem35, T_under35, T_len35s, T_len35n, T_len35b, T_ok36, T_agg36, T_isinfo36, T_info36, T_cells36, T_zero36, T_elem36, T_under36, T_len36s, T_len36n, T_len36b, T_ok56, T_agg56, T_isinfo56, T_info56, T_cells56, T_zero56, T_build56, T_f56_0, T_p56_0, T_f56_1, T_p56_1, T_f56_2, T_p56_2, T_f56_3, T_p56_3, T_f56_4, T_p56_4, T_f56_5, T_p56_5, pathPV, h1, h0, List.length_map, Int.toNat_natCast, ea, beq_self_eq_true, bne_self_eq_false, hwk]
          refine ⟨drawQ_true _ _ (by kernel_rfl), ⟨k + 1, hlt⟩, by simp only; omega, ?_⟩
          refine le_of (θ := [(901, 901), (903, 903), (7, 7), (8, 8)]) rfl ?_ ?_
          · simp [varsLe, lkp, ren1, ren0, pathPV, hpl, htl]
          · simp [boxesLe, lkp, Box.renames, hpl, htl, hmx]
        · have h1 : ((k : Int) < (ps.length : Int)) = False := by simp; omega
          simp -implicitDefEqProofs only [go_sem, Nat.reduceAdd, Nat.reduceMul, Nat.reduceEqDiff, Nat.reduceLT, Nat.reduceLeDiff, Nat.reduceSub, Nat.reduceBEq, reduceIte, reduceCtorEq, Int.reduceEq, Int.reduceNe, Nat.reduceBneDiff, Int.reduceLE, Int.reduceLT, Int.reduceToNat, Int.reduceAdd, Int.reduceSub, Int.reduceMul, Int.reduceNeg, T_ok3, T_agg3, T_isinfo3, T_info3, T_cells3, T_zero3, T_int3, T_ok23, T_agg23, T_isinfo23, T_info23, T_cells23, T_zero23, T_build23, T_f23_0, T_p23_0, T_f23_1, T_p23_1, T_f23_2, T_p23_2, T_eqs23, T_ok25, T_agg25, T_isinfo25, T_info25, T_cells25, T_zero25, T_elem25, T_under25, T_len25s, T_len25n, T_len25b, T_ok35, T_agg35, T_isinfo35, T_info35, T_cells35, T_zero35, T_elem35, T_under35, T_len35s, T_len35n, T_len35b, T_ok36, T_agg36, T_isinfo36, T_info36, T_cells36, T_zero36, T_elem36, T_under36, T_len36s, T_len36n, T_len36b, T_ok56, T_agg56, T_isinfo56, T_info56, T_cells56, T_zero56, T_build56, T_f56_0, T_p56_0, T_f56_1, T_p56_1, T_f56_2, T_p56_2, T_f56_3, T_p56_3, T_f56_4, T_p56_4, T_f56_5, T_p56_5, pathPV, h1, List.length_map]
          refine g_loop mixed (fun k : { k : Nat // k ≤ ts.length } => St.of [(0, .bs 7 3 0 ps.length), (1, .bs 8 1 0 ts.length), (6, .bool false), (8, .bs 901 3 0 ps.length), (9, .bs 903 1 0 ts.length), (10, pathPV (tourP ps ts).1), (11, .int .i64 (tourP ps ts).2), (12, pathPV (tourP ps ts).1), (13, .int .i64 (tourP ps ts).2), (15, .int .i64 k.1)]
            [(903, { els := ts.map (PV.int .i64), esz := 1, ety := 3, fro := ts.length, live := true, arr := true }), (901, { els := ps.map v3PV, esz := 3, ety := 23, fro := ps.length, live := true, arr := true }), (8, { els := ts.map (PV.int .i64), esz := 1, ety := 3, fro := ts.length, live := true, arr := true }), (7, { els := ps.map v3PV, esz := 3, ety := 23, fro := ps.length, live := true, arr := true })]) (fun k => ts.length - k.1) ⟨0, Nat.zero_le _⟩ ?_ ?_
          · refine le_of (θ := [(901, 901), (903, 903), (7, 7), (8, 8)]) rfl ?_ ?_
            · simp [varsLe, lkp, ren1, ren0, pathPV, hpl, htl]
            · simp [boxesLe, lkp, Box.renames, hpl, htl, hmx]
          · rintro ⟨k, hk⟩
            by_cases hlt : k < ts.length
            · have h1 : ((k : Int) < (ts.length : Int)) = True := by simp; omega
              have h0 : (0 ≤ (k : Int)) = True := by simp
              have ea : (ts.map (PV.int .i64))[k]? = some (.int .i64 ts[k]) := by simp [hlt]
              have hwk : IntKind.i64.wrap ((k : Int) + 1) = ((k + 1 : Nat) : Int) := by rw [wrap_i64 (by omega) (by omega)]; omega
              simp -implicitDefEqProofs only [go_sem, Nat.reduceAdd, Nat.reduceMul, Nat.reduceEqDiff, Nat.reduceLT, Nat.reduceLeDiff, Nat.reduceSub, Nat.reduceBEq, reduceIte, reduceCtorEq, Int.reduceEq, Int.reduceNe, Nat.reduceBneDiff, Int.reduceLE, Int.reduceLT, Int.reduceToNat, Int.reduceAdd, Int.reduceSub, Int.reduceMul, Int.reduceNeg, T_ok3, T_agg3, T_isinfo3, T_info3, T_cells3, T_zero3, T_int3, T_ok23, T_agg23, T_isinfo23, T_info23, T_cells23, T_zero23, T_build23, T_f23_0, T_p23_0, T_f23_1, T_p23_1, T_f23_2, T_p23_2, T_eqs23, T_ok25, T_agg25, T_isinfo25, T_info25, T_cells25, T_zero25, T_elem25, T_under25, T_len25s, T_len25n, T_len25b, T_ok35, T_agg35, T_isinfo35, T_info35, T_cells35, T_zero35, T_elem35, T_under35, T_len35s, T_len35n, T_len35b, T_ok36, T_agg36, T_isinfo36, T_info36, T_cells36, T_zero36, T_elem36, T_under36, T_len36s, T_len36n, T_len36b, T_ok56, T_agg56, T_isinfo56, T_info56, T_cells56, T_zero56, T_build56, T_f56_0, T_p56_0, T_f56_1, T_p56_1, T_f56_2, T_p56_2, T_f56_3, T_p56_3, T_f56_4, T_p56_4, T_f56_5, T_p56_5, pathPV, h1, h0, List.length_map, Int.toNat_natCast, ea, bne_self_eq_false, hwk]
              refine ⟨drawQ_true _ _ (by kernel_rfl), ⟨k + 1, hlt⟩, by simp only; omega, ?_⟩
              refine le_of (θ := [(901, 901), (903, 903), (7, 7), (8, 8)]) rfl ?_ ?_
              · simp [varsLe, lkp, ren1, ren0, pathPV, hpl, htl]
              · simp [boxesLe, lkp, Box.renames, hpl, htl, hmx]
            · have h1 : ((k : Int) < (ts.length : Int)) = False := by simp; omega
              simp -implicitDefEqProofs only [go_sem, Nat.reduceAdd, Nat.reduceMul, Nat.reduceEqDiff, Nat.reduceLT, Nat.reduceLeDiff, Nat.reduceSub, Nat.reduceBEq, reduceIte, reduceCtorEq, Int.reduceEq, Int.reduceNe, Nat.reduceBneDiff, Int.reduceLE, Int.reduceLT, Int.reduceToNat, Int.reduceAdd, Int.reduceSub, Int.reduceMul, Int.reduceNeg, T_ok3, T_agg3, T_isinfo3, T_info3, T_cells3, T_zero3, T_int3, T_ok23, T_agg23, T_isinfo23, T_info23, T_cells23, T_zero23, T_build23, T_f23_0, T_p23_0, T_f23_1, T_p23_1, T_f23_2, T_p23_2, T_eqs23, T_ok25, T_agg25, T_isinfo25, T_info25, T_cells25, T_zero25, T_elem25, T_under25, T_len25s, T_len25n, T_len25b, T_ok35, T_agg35, T_isinfo35, T_info35, T_cells35, T_zero35, T_elem35, T_under35, T_len35s, T_len35n, T_len35b, T_ok36, T_agg36, T_isinfo36, T_info36, T_cells36, T_zero36, T_elem36, T_under36, T_len36s, T_len36n, T_len36b, T_ok56, T_agg56, T_isinfo56, T_info56, T_cells56, T_zero56, T_build56, T_f56_0, T_p56_0, T_f56_1, T_p56_1, T_f56_2, T_p56_2, T_f56_3, T_p56_3, T_f56_4, T_p56_4, T_f56_5, T_p56_5, pathPV, h1, List.length_map]
              refine gcall_intro _ _ _ _ _ _ _ _ _ (same_v _ f1 f2) ?_
              simp -implicitDefEqProofs only [go_sem, Nat.reduceAdd, Nat.reduceMul, Nat.reduceEqDiff, Nat.reduceLT, Nat.reduceLeDiff, Nat.reduceSub, Nat.reduceBEq, reduceIte, reduceCtorEq, Int.reduceEq, Int.reduceNe, Nat.reduceBneDiff, Int.reduceLE, Int.reduceLT, Int.reduceToNat, Int.reduceAdd, Int.reduceSub, Int.reduceMul, Int.reduceNeg, T_ok3, T_agg3, T_isinfo3, T_info3, T_cells3, T_zero3, T_int3, T_ok23, T_agg23, T_isinfo23, T_info23, T_cells23, T_zero23, T_build23, T_f23_0, T_p23_0, T_f23_1, T_p23_1, T_f23_2, T_p23_2, T_eqs23, T_ok25, T_agg25, T_isinfo25, T_info25, T_cells25, T_zero25, T_elem25, T_under25, T_len25s, T_len25n, T_len25b, T_ok35, T_agg35, T_isinfo35, T_info35, T_cells35, T_zero35, T_elem35, T_under35, T_len35s, T_len35n, T_len35b, T_ok36, T_agg36, T_isinfo36, T_info36, T_cells36, T_zero36, T_elem36, T_under36, T_len36s, T_len36n, T_len36b, T_ok56, T_agg56, T_isinfo56, T_info56, T_cells56, T_zero56, T_build56, T_f56_0, T_p56_0, T_f56_1, T_p56_1, T_f56_2, T_p56_2, T_f56_3, T_p56_3, T_f56_4, T_p56_4, T_f56_5, T_p56_5, pathPV, beq_self_eq_true]
              refine gcall_intro _ _ _ _ _ _ _ _ _ known_v ?_
              simp -implicitDefEqProofs only [go_sem, Nat.reduceAdd, Nat.reduceMul, Nat.reduceEqDiff, Nat.reduceLT, Nat.reduceLeDiff, Nat.reduceSub, Nat.reduceBEq, reduceIte, reduceCtorEq, Int.reduceEq, Int.reduceNe, Nat.reduceBneDiff, Int.reduceLE, Int.reduceLT, Int.reduceToNat, Int.reduceAdd, Int.reduceSub, Int.reduceMul, Int.reduceNeg, T_ok3, T_agg3, T_isinfo3, T_info3, T_cells3, T_zero3, T_int3, T_ok23, T_agg23, T_isinfo23, T_info23, T_cells23, T_zero23, T_build23, T_f23_0, T_p23_0, T_f23_1, T_p23_1, T_f23_2, T_p23_2, T_eqs23, T_ok25, T_agg25, T_isinfo25, T_info25, T_cells25, T_zero25, T_elem25, T_under25, T_len25s, T_len25n, T_len25b, T_ok35, T_agg35, T_isinfo35, T_info35, T_cells35, T_zero35, T_elem35, T_under35, T_len35s, T_len35n, T_len35b, T_ok36, T_agg36, T_isinfo36, T_info36, T_cells36, T_zero36, T_elem36, T_under36, T_len36s, T_len36n, T_len36b, T_ok56, T_agg56, T_isinfo56, T_info56, T_cells56, T_zero56, T_build56, T_f56_0, T_p56_0, T_f56_1, T_p56_1, T_f56_2, T_p56_2, T_f56_3, T_p56_3, T_f56_4, T_p56_4, T_f56_5, T_p56_5]
end Go.Proofs.Ytkajnimlfehmeaa
