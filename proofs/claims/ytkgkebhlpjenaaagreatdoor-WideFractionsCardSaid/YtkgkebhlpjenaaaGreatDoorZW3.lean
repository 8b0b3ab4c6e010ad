/-
  ZA9, Db, ZA10, Bw, ZW1, ZW2, ZW3 (merged for the claim).
-/
import Derived.Test.YtkgkebhlpjenaaaGreatDoorDt
import Derived.Test.YtkgkebhlpjenaaaGreatDoorUW
import Derived.Shelf.Spec.BitsCarry
set_option linter.unusedSimpArgs false
set_option linter.unusedVariables false
namespace Go.Proofs.YtkgkebhlpjenaaaGreatDoor
open Go.Vl Go.RowKit Go.Dg

abbrev f8 : Nat → PV := fun d : Nat => PV.int .u8 (d : Int)
/-- The big-endian bytes of a number. -/
def magL (n : Nat) : List UInt8 := (digs 256 n).reverse.map fun d => UInt8.ofNat d
/-- A wide integer. -/
def wPV (n : Int) : PV := .agg [.bool (decide (n < 0)), .str ⟨(magL n.natAbs).toArray⟩]
theorem bytesOf_f8 (l : List Nat) : bytesOf (l.map f8) = some (l.map fun d => UInt8.ofNat d) := by
  induction l with
  | nil => rfl
  | cons d l ih => simp only [List.map_cons, bytesOf, ih]; rfl
theorem u8_wrap {n : Nat} (h : n < 256) : IntKind.u8.wrap (n : Int) = (n : Int) := by
  simp [IntKind.wrap, IntKind.signed, IntKind.bits]; omega
theorem tmod256 (n : Nat) : Int.tmod (n : Int) 256 = ((n % 256 : Nat) : Int) := by
  rw [Int.tmod_eq_emod_of_nonneg (by omega)]; rfl
theorem tdiv256 (n : Nat) : Int.tdiv (n : Int) 256 = ((n / 256 : Nat) : Int) := by
  rw [Int.tdiv_eq_ediv_of_nonneg (by omega)]; rfl
theorem f8_okf (l : List Nat) : (((l.map f8).flatMap PV.cells).all PV.okCell) = true := by
  rw [List.all_flatMap, List.all_map, List.all_eq_true]; intro _ _; rfl

theorem lows_nil (B n : Nat) : lows B n 0 = [] := rfl
theorem rto_v (n : Int) (hl : (digs E9 n.natAbs).length ≤ 1000000) (hl2 : (digs 256 n.natAbs).length ≤ 100000000) : SoundAt Tryz.prog 54 [rI n] (wPV n) := by
  have hm := maxLen_lt
  
  refine sound_go (tb := [(1201, [(1000000, 202)], [])]) 62 [.cell 2 23] [0, 1, 2, 3, 4, 5, 6, 7, 8, 14, 19, 47] mixed Tryz.func54 rfl (by kernel_rfl) (by kernel_rfl) (by kernel_rfl) (by kernel_rfl) ?_
  have hs1 : ((digs E9 n.natAbs).length * 8 ≤ 140737488355328) = True := by simp only [eq_iff_iff, iff_true]; omega
  have hs2 : ((digs E9 n.natAbs).length ≤ maxLen) = True := by simp only [eq_iff_iff, iff_true]; unfold maxLen; omega
  have hok : ((digs E9 n.natAbs).map fI).all (fun e => e.cells.length == 1 && e.cells.all PV.okCell) = true := by rw [List.all_map, List.all_eq_true]; intro _ _; rfl
  simp -implicitDefEqProofs only [go_sem, Nat.reduceAdd, Nat.reduceMul, Nat.reduceEqDiff, Nat.reduceLT, Nat.reduceLeDiff, Nat.reduceSub, Nat.reduceBEq, reduceIte, reduceCtorEq, Int.reduceEq, Int.reduceNe, Nat.reduceBneDiff, Int.reduceLE, Int.reduceLT, Int.reduceToNat, Int.reduceAdd, Int.reduceSub, Int.reduceMul, Int.reduceNeg, T_ok3, T_agg3, T_isinfo3, T_info3, T_cells3, T_zero3, T_int3, T_ok4, T_agg4, T_isinfo4, T_info4, T_cells4, T_zero4, T_bool4, T_ok5, T_agg5, T_isinfo5, T_info5, T_cells5, T_zero5, T_int5, T_ok9, T_agg9, T_isinfo9, T_info9, T_cells9, T_zero9, T_str9, T_len9t, T_ok23, T_agg23, T_isinfo23, T_info23, T_cells23, T_zero23, T_build23, T_f23_0, T_p23_0, T_f23_1, T_p23_1, T_eqs23, T_ok29, T_agg29, T_isinfo29, T_info29, T_cells29, T_zero29, T_elem29, T_under29, T_len29s, T_len29n, T_len29b, T_ok31, T_agg31, T_isinfo31, T_info31, T_cells31, T_zero31, T_build31, T_f31_0, T_p31_0, T_f31_1, T_p31_1, T_ok74, T_agg74, T_isinfo74, T_info74, T_cells74, T_zero74, T_elem74, T_under74, T_len74s, T_len74n, T_len74b, rI, di, List.length_map, hs1, hs2, hok]
  generalize hX : n.natAbs = X at *
  generalize hN : (digs E9 X).length = N at *
  have hXN : lows E9 X N = digs E9 X := by rw [← hN]; exact lows_digs E9_2 X
  refine g_loop mixed (fun k : { k : Nat // k ≤ (digs 256 X).length ∧ ∀ j, j < k → X / 256 ^ j ≠ 0 } => St.of [(1, .bp 0 2 0 0), (2, .bp 1 2 0 0), (3, .bs 7 1 0 k.1), (4, .bs 202 1 0 (digs E9 (X / 256 ^ k.1)).length)]
      [(0, { els := [.agg [.bool (decide (n < 0)), di (digs E9 X)]], esz := 2, ety := 31, fro := 0, live := true, arr := false }), (1, { els := [.agg [.bool false, .str ⟨#[]⟩]], esz := 2, ety := 23, fro := 0, live := true, arr := false }),
       (7, { els := (lows 256 X k.1).map f8, esz := 1, ety := 5, fro := 0, live := true, arr := true }), (202, rB (lows E9 (X / 256 ^ k.1) N))]) (fun k => X / 256 ^ k.1) ⟨0, Nat.zero_le _, by omega⟩ ?_ ?_
  · refine le_nil1 3 7 1 5 rfl rfl rfl (by decide) [(0, 0), (1, 1), (7, 7), (202, 202)] rfl ?_ ?_
    · simp [varsLe, lkp, ren1, ren0, hN]
    · simp only [Nat.pow_zero, Nat.div_one, hXN, lows_nil]
      simp [boxesLe, lkp, Box.renames, di]
      exact ⟨⟨rfl, rfl⟩, rfl, rfl⟩
  · rintro ⟨k, hk, hmore⟩
    generalize hv : X / 256 ^ k = v at *
    by_cases hz : v = 0
    · subst hz
      have hlt : X < 256 ^ k := by
        rcases Nat.lt_or_ge X (256 ^ k) with h | h
        · exact h
        · have := Nat.div_pos h (Nat.pow_pos (by decide))
          omega
      have hD : lows 256 X k = digs 256 X := lows_done (by decide) hlt hmore
      have hkD : (digs 256 X).length = k := by rw [← hD, lows_length]
      have hp : (0 < ((digs E9 0).length : Int)) = False := by rw [digs_zero]; simp
      have hw : IntKind.i64.wrap ((k : Int) - 1) = (k : Int) - 1 := wrap_i64 (by omega) (by omega)
      rw [hD]
      have hW : wPV n = .agg [.bool (decide (n < 0)), .str ⟨((digs 256 X).reverse.map fun d => UInt8.ofNat d).toArray⟩] := by rw [wPV, magL, hX]
      rw [hW]
      generalize digs 256 X = D at *
      simp -implicitDefEqProofs only [go_sem, Nat.reduceAdd, Nat.reduceMul, Nat.reduceEqDiff, Nat.reduceLT, Nat.reduceLeDiff, Nat.reduceSub, Nat.reduceBEq, reduceIte, reduceCtorEq, Int.reduceEq, Int.reduceNe, Nat.reduceBneDiff, Int.reduceLE, Int.reduceLT, Int.reduceToNat, Int.reduceAdd, Int.reduceSub, Int.reduceMul, Int.reduceNeg, T_ok3, T_agg3, T_isinfo3, T_info3, T_cells3, T_zero3, T_int3, T_ok4, T_agg4, T_isinfo4, T_info4, T_cells4, T_zero4, T_bool4, T_ok5, T_agg5, T_isinfo5, T_info5, T_cells5, T_zero5, T_int5, T_ok9, T_agg9, T_isinfo9, T_info9, T_cells9, T_zero9, T_str9, T_len9t, T_ok23, T_agg23, T_isinfo23, T_info23, T_cells23, T_zero23, T_build23, T_f23_0, T_p23_0, T_f23_1, T_p23_1, T_eqs23, T_ok29, T_agg29, T_isinfo29, T_info29, T_cells29, T_zero29, T_elem29, T_under29, T_len29s, T_len29n, T_len29b, T_ok31, T_agg31, T_isinfo31, T_info31, T_cells31, T_zero31, T_build31, T_f31_0, T_p31_0, T_f31_1, T_p31_1, T_ok74, T_agg74, T_isinfo74, T_info74, T_cells74, T_zero74, T_elem74, T_under74, T_len74s, T_len74n, T_len74b, hp, rB, hw]
      refine g_loop mixed (fun i : { i : Nat // i ≤ k } => St.of [(1, .bp 0 2 0 0), (2, .bp 1 2 0 0), (3, .bs 7 1 0 k), (7, .bs 8 1 0 (k - i.1)), (8, .int .i64 ((i.1 : Int) - 1))]
          [(0, { els := [.agg [.bool (decide (n < 0)), di (digs E9 X)]], esz := 2, ety := 31, fro := 0, live := true, arr := false }), (1, { els := [.agg [.bool false, .str ⟨#[]⟩]], esz := 2, ety := 23, fro := 0, live := true, arr := false }),
           (7, { els := D.map f8, esz := 1, ety := 5, fro := 0, live := true, arr := true }), (8, { els := (D.drop i.1).reverse.map f8, esz := 1, ety := 5, fro := 0, live := true, arr := true })]) (fun i => i.1) ⟨k, Nat.le_refl _⟩ ?_ ?_
      · refine le_nil1 7 8 1 5 rfl rfl rfl (by decide) [(0, 0), (1, 1), (7, 7), (8, 8)] rfl ?_ ?_
        · simp [varsLe, lkp, ren1, ren0]
        · simp [boxesLe, lkp, Box.renames, di, ← hkD]
          exact ⟨⟨rfl, rfl⟩, rfl, rfl⟩
      · rintro ⟨i, hi⟩
        cases i with
        | zero =>
          have h1 : ((0 : Int) ≤ ((0 : Nat) : Int) - 1) = False := by simp
          have htk : (D.reverse.map f8).take k = D.reverse.map f8 := List.take_of_length_le (by simp; omega)
          simp -implicitDefEqProofs only [go_sem, Nat.reduceAdd, Nat.reduceMul, Nat.reduceEqDiff, Nat.reduceLT, Nat.reduceLeDiff, Nat.reduceSub, Nat.reduceBEq, reduceIte, reduceCtorEq, Int.reduceEq, Int.reduceNe, Nat.reduceBneDiff, Int.reduceLE, Int.reduceLT, Int.reduceToNat, Int.reduceAdd, Int.reduceSub, Int.reduceMul, Int.reduceNeg, T_ok3, T_agg3, T_isinfo3, T_info3, T_cells3, T_zero3, T_int3, T_ok4, T_agg4, T_isinfo4, T_info4, T_cells4, T_zero4, T_bool4, T_ok5, T_agg5, T_isinfo5, T_info5, T_cells5, T_zero5, T_int5, T_ok9, T_agg9, T_isinfo9, T_info9, T_cells9, T_zero9, T_str9, T_len9t, T_ok23, T_agg23, T_isinfo23, T_info23, T_cells23, T_zero23, T_build23, T_f23_0, T_p23_0, T_f23_1, T_p23_1, T_eqs23, T_ok29, T_agg29, T_isinfo29, T_info29, T_cells29, T_zero29, T_elem29, T_under29, T_len29s, T_len29n, T_len29b, T_ok31, T_agg31, T_isinfo31, T_info31, T_cells31, T_zero31, T_build31, T_f31_0, T_p31_0, T_f31_1, T_p31_1, T_ok74, T_agg74, T_isinfo74, T_info74, T_cells74, T_zero74, T_elem74, T_under74, T_len74s, T_len74n, T_len74b, h1, Nat.sub_zero, List.drop_zero, List.length_map, List.length_reverse, hkD, htk, bytesOf_f8, di]
        | succ i =>
          have hs : (((i + 1 : Nat) : Int) - 1) = (i : Int) := by omega
          have h1 : ((0 : Int) ≤ (i : Int)) = True := by simp
          have h2 : ((i : Int) < (k : Int)) = True := by simp; omega
          have w4 : IntKind.i64.wrap ((i : Int) - 1) = (i : Int) - 1 := wrap_i64 (by omega) (by omega)
          have hget : (D.map f8)[i]? = some (.int .u8 ((D[i]'(by omega) : Nat) : Int)) := by rw [List.getElem?_map, List.getElem?_eq_getElem (by omega)]; rfl
          have hdl : (D.drop (i + 1)).length = k - (i + 1) := by simp; omega
          have hdr : D.drop i = D[i]'(by omega) :: D.drop (i + 1) := List.drop_eq_getElem_cons (by omega)
          have q1 : (k - (i + 1) == k - (i + 1)) = true := beq_self_eq_true _
          have q2 : (k - (i + 1) + 1 ≤ 140737488355328) = True := by simp only [eq_iff_iff, iff_true]; omega
          have q3 : (k - (i + 1) + 1 ≤ maxLen) = True := by simp only [eq_iff_iff, iff_true]; unfold maxLen; omega
          simp -implicitDefEqProofs only [go_sem, Nat.reduceAdd, Nat.reduceMul, Nat.reduceEqDiff, Nat.reduceLT, Nat.reduceLeDiff, Nat.reduceSub, Nat.reduceBEq, reduceIte, reduceCtorEq, Int.reduceEq, Int.reduceNe, Nat.reduceBneDiff, Int.reduceLE, Int.reduceLT, Int.reduceToNat, Int.reduceAdd, Int.reduceSub, Int.reduceMul, Int.reduceNeg, T_ok3, T_agg3, T_isinfo3, T_info3, T_cells3, T_zero3, T_int3, T_ok4, T_agg4, T_isinfo4, T_info4, T_cells4, T_zero4, T_bool4, T_ok5, T_agg5, T_isinfo5, T_info5, T_cells5, T_zero5, T_int5, T_ok9, T_agg9, T_isinfo9, T_info9, T_cells9, T_zero9, T_str9, T_len9t, T_ok23, T_agg23, T_isinfo23, T_info23, T_cells23, T_zero23, T_build23, T_f23_0, T_p23_0, T_f23_1, T_p23_1, T_eqs23, T_ok29, T_agg29, T_isinfo29, T_info29, T_cells29, T_zero29, T_elem29, T_under29, T_len29s, T_len29n, T_len29b, T_ok31, T_agg31, T_isinfo31, T_info31, T_cells31, T_zero31, T_build31, T_f31_0, T_p31_0, T_f31_1, T_p31_1, T_ok74, T_agg74, T_isinfo74, T_info74, T_cells74, T_zero74, T_elem74, T_under74, T_len74s, T_len74n, T_len74b, hs, h1, h2, w4, hget, Int.toNat_natCast, List.length_map, List.length_reverse, hdl, q1, q2, q3, f8_okf, Nat.mul_one]
          have q5 : k - i = k - (i + 1) + 1 := by omega
          have q6 : k - i - 1 = k - (i + 1) := by omega
          have q7 : (D.drop i).reverse.map f8 = (D.drop (i + 1)).reverse.map f8 ++ [f8 (D[i]'(by omega))] := by rw [hdr, List.reverse_cons, List.map_append]; rfl
          refine ⟨⟨i, by omega⟩, by simp only; omega, ?_⟩
          simp only [q6, q7]
          rw [q5]
          refine le_of (θ := [(0, 0), (1, 1), (7, 7), (8, 1706)]) rfl ?_ ?_
          · simp [varsLe, lkp, ren1, ren0]
          · simp [boxesLe, lkp, Box.renames, di]
            exact ⟨⟨rfl, rfl⟩, rfl, rfl⟩
    · have hp : (0 < ((digs E9 v).length : Int)) = True := by have := L_pos hz; simp; omega
      have hvX : v ≤ X := by rw [← hv]; exact Nat.div_le_self _ _
      have hnN : (digs E9 v).length ≤ N := by rw [← hN]; exact L_mono hvX
      have hnp := L_pos hz
      have hend : v / E9 ^ (digs E9 v).length = 0 := digit_beyond E9_2 (Nat.le_refl _)
      have hvlt := lt_pow_len E9_2 v
      generalize hnn : (digs E9 v).length = nn at *
      have hw : IntKind.i64.wrap ((nn : Int) - 1) = (nn : Int) - 1 := wrap_i64 (by omega) (by omega)
      simp -implicitDefEqProofs only [go_sem, Nat.reduceAdd, Nat.reduceMul, Nat.reduceEqDiff, Nat.reduceLT, Nat.reduceLeDiff, Nat.reduceSub, Nat.reduceBEq, reduceIte, reduceCtorEq, Int.reduceEq, Int.reduceNe, Nat.reduceBneDiff, Int.reduceLE, Int.reduceLT, Int.reduceToNat, Int.reduceAdd, Int.reduceSub, Int.reduceMul, Int.reduceNeg, T_ok3, T_agg3, T_isinfo3, T_info3, T_cells3, T_zero3, T_int3, T_ok4, T_agg4, T_isinfo4, T_info4, T_cells4, T_zero4, T_bool4, T_ok5, T_agg5, T_isinfo5, T_info5, T_cells5, T_zero5, T_int5, T_ok9, T_agg9, T_isinfo9, T_info9, T_cells9, T_zero9, T_str9, T_len9t, T_ok23, T_agg23, T_isinfo23, T_info23, T_cells23, T_zero23, T_build23, T_f23_0, T_p23_0, T_f23_1, T_p23_1, T_eqs23, T_ok29, T_agg29, T_isinfo29, T_info29, T_cells29, T_zero29, T_elem29, T_under29, T_len29s, T_len29n, T_len29b, T_ok31, T_agg31, T_isinfo31, T_info31, T_cells31, T_zero31, T_build31, T_f31_0, T_p31_0, T_f31_1, T_p31_1, T_ok74, T_agg74, T_isinfo74, T_info74, T_cells74, T_zero74, T_elem74, T_under74, T_len74s, T_len74n, T_len74b, hp, rB, hw]
      refine g_loop mixed (fun i : { i : Nat // i ≤ nn } => St.of [(1, .bp 0 2 0 0), (2, .bp 1 2 0 0), (3, .bs 7 1 0 k), (4, .bs 202 1 0 nn), (5, .int .i64 ((v / E9 ^ i.1 % 256 : Nat) : Int)), (6, .int .i64 ((i.1 : Int) - 1))]
          [(0, { els := [.agg [.bool (decide (n < 0)), di (digs E9 X)]], esz := 2, ety := 31, fro := 0, live := true, arr := false }), (1, { els := [.agg [.bool false, .str ⟨#[]⟩]], esz := 2, ety := 23, fro := 0, live := true, arr := false }),
           (7, { els := (lows 256 X k).map f8, esz := 1, ety := 5, fro := 0, live := true, arr := true }), (202, { els := (mix E9 v (v / 256) N i.1).map fI, esz := 1, ety := 3, fro := 0, live := true, arr := true })]) (fun i => i.1) ⟨nn, Nat.le_refl _⟩ ?_ ?_
      · refine le_of (θ := [(0, 0), (1, 1), (7, 7), (202, 202)]) rfl ?_ ?_
        · simp [varsLe, lkp, ren1, ren0, hend]
        · have e : mix E9 v (v / 256) N nn = lows E9 v N := mix_all (by decide) (by rw [div_swap, hend])
          simp only [e]
          simp [boxesLe, lkp, Box.renames, di]
          exact ⟨⟨rfl, rfl⟩, rfl, rfl⟩
      · rintro ⟨i, hi⟩
        cases i with
        | zero =>
          have h1 : ((0 : Int) ≤ ((0 : Nat) : Int) - 1) = False := by simp
          have hks := lows_length (B := 256) X k
          have q1 : (k == k) = true := beq_self_eq_true k
          have q2 : (k + 1 ≤ 140737488355328) = True := by simp only [eq_iff_iff, iff_true]; omega
          have q3 : (k + 1 ≤ maxLen) = True := by simp only [eq_iff_iff, iff_true]; unfold maxLen; omega
          have q4 : IntKind.u8.wrap ((v / E9 ^ 0 % 256 : Nat) : Int) = ((v / E9 ^ 0 % 256 : Nat) : Int) := u8_wrap (Nat.mod_lt _ (by decide))
          simp -implicitDefEqProofs only [go_sem, Nat.reduceAdd, Nat.reduceMul, Nat.reduceEqDiff, Nat.reduceLT, Nat.reduceLeDiff, Nat.reduceSub, Nat.reduceBEq, reduceIte, reduceCtorEq, Int.reduceEq, Int.reduceNe, Nat.reduceBneDiff, Int.reduceLE, Int.reduceLT, Int.reduceToNat, Int.reduceAdd, Int.reduceSub, Int.reduceMul, Int.reduceNeg, T_ok3, T_agg3, T_isinfo3, T_info3, T_cells3, T_zero3, T_int3, T_ok4, T_agg4, T_isinfo4, T_info4, T_cells4, T_zero4, T_bool4, T_ok5, T_agg5, T_isinfo5, T_info5, T_cells5, T_zero5, T_int5, T_ok9, T_agg9, T_isinfo9, T_info9, T_cells9, T_zero9, T_str9, T_len9t, T_ok23, T_agg23, T_isinfo23, T_info23, T_cells23, T_zero23, T_build23, T_f23_0, T_p23_0, T_f23_1, T_p23_1, T_eqs23, T_ok29, T_agg29, T_isinfo29, T_info29, T_cells29, T_zero29, T_elem29, T_under29, T_len29s, T_len29n, T_len29b, T_ok31, T_agg31, T_isinfo31, T_info31, T_cells31, T_zero31, T_build31, T_f31_0, T_p31_0, T_f31_1, T_p31_1, T_ok74, T_agg74, T_isinfo74, T_info74, T_cells74, T_zero74, T_elem74, T_under74, T_len74s, T_len74n, T_len74b, h1, List.length_map, hks, q1, q2, q3, q4, f8_okf, Nat.mul_one]
          have e0 : mix E9 v (v / 256) N 0 = lows E9 (v / 256) N := mix_none _ _ _
          rw [e0]
          have hlN := lows_length (B := E9) (v / 256) N
          refine gcallB_intro _ _ _ _ _ _ _ _ _ (rtrimB_v (lows E9 (v / 256) N) nn (by omega) (by unfold maxLen; omega)) ?_
          have hq : trimZ ((lows E9 (v / 256) N).take nn) = digs E9 (v / 256) := by
            rw [lows_take _ _ _ hnN, trimZ_lows E9_2, Nat.mod_eq_of_lt (Nat.lt_of_le_of_lt (Nat.div_le_self _ _) hvlt)]
          have hv1 : X / 256 ^ (k + 1) = v / 256 := by rw [Nat.pow_succ, ← Nat.div_div_eq_div_mul, hv]
          rw [hq]
          simp -implicitDefEqProofs only [go_sem, Nat.reduceAdd, Nat.reduceMul, Nat.reduceEqDiff, Nat.reduceLT, Nat.reduceLeDiff, Nat.reduceSub, Nat.reduceBEq, reduceIte, reduceCtorEq, Int.reduceEq, Int.reduceNe, Nat.reduceBneDiff, Int.reduceLE, Int.reduceLT, Int.reduceToNat, Int.reduceAdd, Int.reduceSub, Int.reduceMul, Int.reduceNeg, T_ok3, T_agg3, T_isinfo3, T_info3, T_cells3, T_zero3, T_int3, T_ok4, T_agg4, T_isinfo4, T_info4, T_cells4, T_zero4, T_bool4, T_ok5, T_agg5, T_isinfo5, T_info5, T_cells5, T_zero5, T_int5, T_ok9, T_agg9, T_isinfo9, T_info9, T_cells9, T_zero9, T_str9, T_len9t, T_ok23, T_agg23, T_isinfo23, T_info23, T_cells23, T_zero23, T_build23, T_f23_0, T_p23_0, T_f23_1, T_p23_1, T_eqs23, T_ok29, T_agg29, T_isinfo29, T_info29, T_cells29, T_zero29, T_elem29, T_under29, T_len29s, T_len29n, T_len29b, T_ok31, T_agg31, T_isinfo31, T_info31, T_cells31, T_zero31, T_build31, T_f31_0, T_p31_0, T_f31_1, T_p31_1, T_ok74, T_agg74, T_isinfo74, T_info74, T_cells74, T_zero74, T_elem74, T_under74, T_len74s, T_len74n, T_len74b]
          refine ⟨⟨k + 1, (digs_len (by decide) X k).2 (by rw [hv]; exact hz), ?_⟩, ?_, ?_⟩
          · intro j hj
            by_cases hjk : j < k
            · exact hmore j hjk
            · have : j = k := by omega
              subst this
              rw [hv]; exact hz
          · simp only [hv1]; omega
          · simp only [hv1, lows_succ, hv]
            refine le_of (θ := [(0, 0), (1, 1), (7, 1104), (202, 202)]) rfl ?_ ?_
            · simp [varsLe, lkp, ren1, ren0]
            · simp [boxesLe, lkp, Box.renames, di]
              exact ⟨⟨rfl, rfl⟩, rfl, rfl⟩
        | succ i =>
          have hs : (((i + 1 : Nat) : Int) - 1) = (i : Int) := by omega
          have h1 : ((0 : Int) ≤ (i : Int)) = True := by simp
          have h2 : ((i : Int) < (nn : Int)) = True := by simp; omega
          have hx : v / E9 ^ i % E9 < E9 := Nat.mod_lt _ (by decide)
          have hr : v / E9 ^ (i + 1) % 256 < 256 := Nat.mod_lt _ (by decide)
          obtain ⟨b1, b2⟩ := byte_step (v / E9 ^ i) (v / E9 ^ (i + 1)) (v / E9 ^ i % E9) E9 hx (by rw [Nat.mul_comm]; exact div_up (by decide) v i)
          have hget : ((mix E9 v (v / 256) N (i + 1)).map fI)[i]? = some (.int .i64 ((v / E9 ^ i % E9 : Nat) : Int)) := by
            rw [List.getElem?_map, mix_get _ _ _ _ _ (by omega), if_pos (by omega)]; rfl
          have hset := mix_down (B := E9) (V := v) (S := v / 256) (N := N) (i := i) (d := v / E9 ^ i / 256 % E9) (by omega) (by rw [div_swap])
          generalize v / E9 ^ i % E9 = x at *
          generalize v / E9 ^ (i + 1) % 256 = r at *
          have w1 : IntKind.i64.wrap ((r : Int) * 1000000000) = (r : Int) * 1000000000 := wrap_i64 (by omega) (by omega)
          have w2 : IntKind.i64.wrap ((r : Int) * 1000000000 + (x : Int)) = ((r * E9 + x : Nat) : Int) := by
            simp only [E9] at *
            rw [wrap_i64 (by omega) (by omega)]; omega
          have w3 : IntKind.i64.wrap (((r * E9 + x) / 256 : Nat) : Int) = (((r * E9 + x) / 256 : Nat) : Int) := wrapn (by simp only [E9] at *; omega)
          have w4 : IntKind.i64.wrap ((i : Int) - 1) = (i : Int) - 1 := wrap_i64 (by omega) (by omega)
          have w5 : IntKind.i64.wrap ((v / E9 ^ i / 256 % E9 : Nat) : Int) = ((v / E9 ^ i / 256 % E9 : Nat) : Int) := by rw [← b1]; exact w3
          simp -implicitDefEqProofs only [go_sem, Nat.reduceAdd, Nat.reduceMul, Nat.reduceEqDiff, Nat.reduceLT, Nat.reduceLeDiff, Nat.reduceSub, Nat.reduceBEq, reduceIte, reduceCtorEq, Int.reduceEq, Int.reduceNe, Nat.reduceBneDiff, Int.reduceLE, Int.reduceLT, Int.reduceToNat, Int.reduceAdd, Int.reduceSub, Int.reduceMul, Int.reduceNeg, T_ok3, T_agg3, T_isinfo3, T_info3, T_cells3, T_zero3, T_int3, T_ok4, T_agg4, T_isinfo4, T_info4, T_cells4, T_zero4, T_bool4, T_ok5, T_agg5, T_isinfo5, T_info5, T_cells5, T_zero5, T_int5, T_ok9, T_agg9, T_isinfo9, T_info9, T_cells9, T_zero9, T_str9, T_len9t, T_ok23, T_agg23, T_isinfo23, T_info23, T_cells23, T_zero23, T_build23, T_f23_0, T_p23_0, T_f23_1, T_p23_1, T_eqs23, T_ok29, T_agg29, T_isinfo29, T_info29, T_cells29, T_zero29, T_elem29, T_under29, T_len29s, T_len29n, T_len29b, T_ok31, T_agg31, T_isinfo31, T_info31, T_cells31, T_zero31, T_build31, T_f31_0, T_p31_0, T_f31_1, T_p31_1, T_ok74, T_agg74, T_isinfo74, T_info74, T_cells74, T_zero74, T_elem74, T_under74, T_len74s, T_len74n, T_len74b, hs, h1, h2, hget, w1, w2, w3, w4, tdiv256, tmod256, Int.toNat_natCast, b1, b2]
          refine ⟨⟨i, by omega⟩, by simp only; omega, ?_⟩
          refine le_of (θ := [(0, 0), (1, 1), (7, 7), (202, 202)]) rfl ?_ ?_
          · simp [varsLe, lkp, ren1, ren0]
          · rw [w5, set_fI, hset]
            simp [boxesLe, lkp, Box.renames, di]
            exact ⟨⟨rfl, rfl⟩, rfl, rfl⟩
end Go.Proofs.YtkgkebhlpjenaaaGreatDoor

namespace Go.Dg
variable {B : Nat}

def blen (m : Nat) : Nat := if h : m = 0 then 0 else blen (m / 2) + 1
termination_by m
decreasing_by exact Nat.div_lt_self (Nat.pos_of_ne_zero h) (by decide)
theorem blen_zero : blen 0 = 0 := by unfold blen; simp
theorem blen_succ {m : Nat} (h : m ≠ 0) : blen m = blen (m / 2) + 1 := by
  conv => lhs; unfold blen
  simp [h]
theorem blen_div : ∀ (k m : Nat), m / 2 ^ k ≠ 0 → blen m = blen (m / 2 ^ k) + k
  | 0, m, _ => by simp
  | k + 1, m, h => by
    have e : m / 2 ^ (k + 1) = m / 2 / 2 ^ k := by rw [Nat.div_div_eq_div_mul, Nat.pow_succ, Nat.mul_comm]
    have hm : m ≠ 0 := by intro h0; rw [h0] at h; simp at h
    rw [blen_succ hm, e, blen_div k (m / 2) (by rw [← e]; exact h)]
    omega
theorem blen_le : ∀ (k m : Nat), m < 2 ^ k → blen m ≤ k
  | 0, m, h => by obtain rfl : m = 0 := by simpa using h
                  rw [blen_zero]; exact Nat.le_refl _
  | k + 1, m, h => by
    by_cases h0 : m = 0
    · rw [h0, blen_zero]; omega
    · rw [blen_succ h0]
      have := blen_le k (m / 2) (by rw [Nat.pow_succ] at h; omega)
      omega
theorem blen_gt : ∀ (k m : Nat), 2 ^ k ≤ m → k < blen m
  | 0, m, h => by
    have h0 : m ≠ 0 := by intro e; rw [e] at h; simp at h
    rw [blen_succ h0]; omega
  | k + 1, m, h => by
    have h0 : m ≠ 0 := by intro e; rw [e] at h; have := Nat.pow_pos (n := k + 1) (show 0 < 2 by decide); omega
    rw [blen_succ h0]
    have := blen_gt k (m / 2) (by rw [Nat.pow_succ] at h; omega)
    omega
/-- The highest digit. -/
theorem top_digit (hB : 2 ≤ B) {m : Nat} (h : m ≠ 0) : m / B ^ ((digs B m).length - 1) ≠ 0 ∧ m / B ^ ((digs B m).length - 1) < B := by
  have hp : 0 < (digs B m).length := List.length_pos_iff.2 (mt (digs_eq_nil hB).1 h)
  refine ⟨(digs_len hB m _).1 (by omega), ?_⟩
  have := lt_pow_len hB m
  have e : B ^ (digs B m).length = B ^ ((digs B m).length - 1) * B := by rw [← Nat.pow_succ]; congr 1; omega
  rw [e] at this
  exact Nat.div_lt_of_lt_mul this
theorem blen_top {m : Nat} (h : m ≠ 0) (c : Nat) (hc : 0 < c) : blen m = blen (m / (2 ^ c) ^ ((digs (2 ^ c) m).length - 1)) + c * ((digs (2 ^ c) m).length - 1) := by
  have hB : 2 ≤ 2 ^ c := by
    have := Nat.pow_le_pow_right (show 0 < 2 by decide) hc
    simpa using this
  have := top_digit hB h
  rw [← Nat.pow_mul] at this ⊢
  exact blen_div _ _ this.1
end Go.Dg

namespace Go.Proofs.YtkgkebhlpjenaaaGreatDoor
open Go.Vl Go.RowKit Go.Dg

theorem magL_length (m : Nat) : (magL m).length = (digs 256 m).length := by simp [magL]
theorem magL_size (m : Nat) : (⟨(magL m).toArray⟩ : ByteArray).size = (digs 256 m).length := by rw [ba_size, ← magL_length]
theorem magL_top {m : Nat} (h : m ≠ 0) : ∃ d : UInt8, (⟨(magL m).toArray⟩ : ByteArray)[0]? = some d ∧ d.toNat = m / 256 ^ ((digs 256 m).length - 1) := by
  have hp : 0 < (digs 256 m).length := List.length_pos_iff.2 (mt (digs_eq_nil (by decide)).1 h)
  have ht := top_digit (B := 256) (by decide) h
  have hg := digs_get_lt (B := 256) (n := m) (k := (digs 256 m).length - 1) (by decide) (by omega)
  rw [Nat.mod_eq_of_lt ht.2] at hg
  have hl : 0 < (⟨(magL m).toArray⟩ : ByteArray).data.toList.length := by show 0 < (magL m).length; rw [magL_length]; exact hp
  refine ⟨_, ba_get _ 0 hl, ?_⟩
  have e : (⟨(magL m).toArray⟩ : ByteArray).data.toList[0] = UInt8.ofNat (m / 256 ^ ((digs 256 m).length - 1)) := by
    show (magL m)[0]'(by rw [magL_length]; exact hp) = _
    have : (magL m)[0]? = some (UInt8.ofNat (m / 256 ^ ((digs 256 m).length - 1))) := by
      rw [magL, List.getElem?_map, List.getElem?_reverse (by omega), Nat.sub_zero, hg]; rfl
    exact Option.some.inj (by rw [← this, List.getElem?_eq_getElem])
  rw [e, UInt8.toNat_ofNat_of_lt' ht.2]
theorem rbits_v (n : Int) (hl : (digs E9 n.natAbs).length ≤ 1000000) (hl2 : (digs 256 n.natAbs).length ≤ 100000000) : SoundAt Tryz.prog 19 [rI n] (.int .i64 (blen n.natAbs : Int)) := by
  refine sound_go (tb := []) 26 [.tmp 2] [0, 1, 2, 3, 4, 5, 11, 20] mixed Tryz.func19 rfl (by kernel_rfl) (by kernel_rfl) (by kernel_rfl) (by kernel_rfl) ?_
  simp -implicitDefEqProofs only [go_sem, Nat.reduceAdd, Nat.reduceMul, Nat.reduceEqDiff, Nat.reduceLT, Nat.reduceLeDiff, Nat.reduceSub, Nat.reduceBEq, reduceIte, reduceCtorEq, Int.reduceEq, Int.reduceNe, Nat.reduceBneDiff, Int.reduceLE, Int.reduceLT, Int.reduceToNat, Int.reduceAdd, Int.reduceSub, Int.reduceMul, Int.reduceNeg, T_ok3, T_agg3, T_isinfo3, T_info3, T_cells3, T_zero3, T_int3, T_ok4, T_agg4, T_isinfo4, T_info4, T_cells4, T_zero4, T_bool4, T_ok5, T_agg5, T_isinfo5, T_info5, T_cells5, T_zero5, T_int5, T_ok9, T_agg9, T_isinfo9, T_info9, T_cells9, T_zero9, T_str9, T_len9t, T_ok23, T_agg23, T_isinfo23, T_info23, T_cells23, T_zero23, T_build23, T_f23_0, T_p23_0, T_f23_1, T_p23_1, T_eqs23, T_ok29, T_agg29, T_isinfo29, T_info29, T_cells29, T_zero29, T_elem29, T_under29, T_len29s, T_len29n, T_len29b, T_ok31, T_agg31, T_isinfo31, T_info31, T_cells31, T_zero31, T_build31, T_f31_0, T_p31_0, T_f31_1, T_p31_1, rI, di]
  refine gcall_intro _ _ _ _ _ _ _ _ _ (rto_v n hl hl2) ?_
  generalize hX : n.natAbs = X at *
  have hsz := magL_size X
  by_cases h0 : X = 0
  · have h1 : (((digs 256 X).length : Int) == 0) = true := by rw [h0, digs_zero]; rfl
    simp -implicitDefEqProofs only [go_sem, Nat.reduceAdd, Nat.reduceMul, Nat.reduceEqDiff, Nat.reduceLT, Nat.reduceLeDiff, Nat.reduceSub, Nat.reduceBEq, reduceIte, reduceCtorEq, Int.reduceEq, Int.reduceNe, Nat.reduceBneDiff, Int.reduceLE, Int.reduceLT, Int.reduceToNat, Int.reduceAdd, Int.reduceSub, Int.reduceMul, Int.reduceNeg, T_ok3, T_agg3, T_isinfo3, T_info3, T_cells3, T_zero3, T_int3, T_ok4, T_agg4, T_isinfo4, T_info4, T_cells4, T_zero4, T_bool4, T_ok5, T_agg5, T_isinfo5, T_info5, T_cells5, T_zero5, T_int5, T_ok9, T_agg9, T_isinfo9, T_info9, T_cells9, T_zero9, T_str9, T_len9t, T_ok23, T_agg23, T_isinfo23, T_info23, T_cells23, T_zero23, T_build23, T_f23_0, T_p23_0, T_f23_1, T_p23_1, T_eqs23, T_ok29, T_agg29, T_isinfo29, T_info29, T_cells29, T_zero29, T_elem29, T_under29, T_len29s, T_len29n, T_len29b, T_ok31, T_agg31, T_isinfo31, T_info31, T_cells31, T_zero31, T_build31, T_f31_0, T_p31_0, T_f31_1, T_p31_1, wPV, hX, hsz, h1]
    rw [h0, blen_zero]; rfl
  · have hp : 0 < (digs 256 X).length := List.length_pos_iff.2 (mt (digs_eq_nil (by decide)).1 h0)
    have h1 : (((digs 256 X).length : Int) == 0) = false := by simp only [beq_eq_false_iff_ne, ne_eq]; omega
    obtain ⟨d, hd, hdn⟩ := magL_top h0
    have hb := blen_top h0 8 (by decide)
    rw [show (2 : Nat) ^ 8 = 256 from rfl, ← hdn] at hb
    have hw1 : IntKind.i64.wrap (((digs 256 X).length : Int) - 1) = (((digs 256 X).length - 1 : Nat) : Int) := by rw [wrap_i64 (by omega) (by omega)]; omega
    have hLb : (digs 256 X).length - 1 ≤ 100000000 := by omega
    generalize (digs 256 X).length - 1 = L at *
    have hw2 : IntKind.i64.wrap (8 * (L : Int)) = ((8 * L : Nat) : Int) := by rw [wrap_i64 (by omega) (by omega)]; omega
    have hw3 : IntKind.i64.wrap ((d.toNat : Nat) : Int) = ((d.toNat : Nat) : Int) := wrapn (by have := d.toNat_lt; omega)
    have hdb : blen d.toNat ≤ 8 := blen_le 8 _ d.toNat_lt
    simp -implicitDefEqProofs only [go_sem, Nat.reduceAdd, Nat.reduceMul, Nat.reduceEqDiff, Nat.reduceLT, Nat.reduceLeDiff, Nat.reduceSub, Nat.reduceBEq, reduceIte, reduceCtorEq, Int.reduceEq, Int.reduceNe, Nat.reduceBneDiff, Int.reduceLE, Int.reduceLT, Int.reduceToNat, Int.reduceAdd, Int.reduceSub, Int.reduceMul, Int.reduceNeg, T_ok3, T_agg3, T_isinfo3, T_info3, T_cells3, T_zero3, T_int3, T_ok4, T_agg4, T_isinfo4, T_info4, T_cells4, T_zero4, T_bool4, T_ok5, T_agg5, T_isinfo5, T_info5, T_cells5, T_zero5, T_int5, T_ok9, T_agg9, T_isinfo9, T_info9, T_cells9, T_zero9, T_str9, T_len9t, T_ok23, T_agg23, T_isinfo23, T_info23, T_cells23, T_zero23, T_build23, T_f23_0, T_p23_0, T_f23_1, T_p23_1, T_eqs23, T_ok29, T_agg29, T_isinfo29, T_info29, T_cells29, T_zero29, T_elem29, T_under29, T_len29s, T_len29n, T_len29b, T_ok31, T_agg31, T_isinfo31, T_info31, T_cells31, T_zero31, T_build31, T_f31_0, T_p31_0, T_f31_1, T_p31_1, wPV, hX, hsz, h1, hw1, hw2, hd, hw3]
    rw [hb]
    refine g_loop mixed (fun k : { k : Nat // k ≤ d.toNat ∧ blen k ≤ blen d.toNat } => St.of [(2, .int .i64 0), (4, .int .i64 ((8 * L + (blen d.toNat - blen k.1) : Nat) : Int)), (5, .int .i64 (k.1 : Int))] []) (fun k => k.1) ⟨d.toNat, Nat.le_refl _, Nat.le_refl _⟩ ?_ ?_
    · exact le_vars (by simp [varsLe, lkp, ren1, ren0])
    · rintro ⟨k, hk, hkb⟩
      by_cases hz : k = 0
      · subst hz
        have h2 : ((0 : Int) < ((0 : Nat) : Int)) = False := by simp
        simp -implicitDefEqProofs only [go_sem, Nat.reduceAdd, Nat.reduceMul, Nat.reduceEqDiff, Nat.reduceLT, Nat.reduceLeDiff, Nat.reduceSub, Nat.reduceBEq, reduceIte, reduceCtorEq, Int.reduceEq, Int.reduceNe, Nat.reduceBneDiff, Int.reduceLE, Int.reduceLT, Int.reduceToNat, Int.reduceAdd, Int.reduceSub, Int.reduceMul, Int.reduceNeg, T_ok3, T_agg3, T_isinfo3, T_info3, T_cells3, T_zero3, T_int3, T_ok4, T_agg4, T_isinfo4, T_info4, T_cells4, T_zero4, T_bool4, T_ok5, T_agg5, T_isinfo5, T_info5, T_cells5, T_zero5, T_int5, T_ok9, T_agg9, T_isinfo9, T_info9, T_cells9, T_zero9, T_str9, T_len9t, T_ok23, T_agg23, T_isinfo23, T_info23, T_cells23, T_zero23, T_build23, T_f23_0, T_p23_0, T_f23_1, T_p23_1, T_eqs23, T_ok29, T_agg29, T_isinfo29, T_info29, T_cells29, T_zero29, T_elem29, T_under29, T_len29s, T_len29n, T_len29b, T_ok31, T_agg31, T_isinfo31, T_info31, T_cells31, T_zero31, T_build31, T_f31_0, T_p31_0, T_f31_1, T_p31_1, h2, blen_zero, Nat.sub_zero]
        rw [Nat.add_comm]
      · have h2 : ((0 : Int) < (k : Int)) = True := by simp; omega
        have hbs := blen_succ hz
        have e : IntKind.i64.wrap (((8 * L + (blen d.toNat - blen k) : Nat) : Int) + 1) = ((8 * L + (blen d.toNat - blen (k / 2)) : Nat) : Int) := by rw [wrap_i64 (by omega) (by omega)]; omega
        have hd2 : Int.tdiv (k : Int) 2 = ((k / 2 : Nat) : Int) := by rw [Int.tdiv_eq_ediv_of_nonneg (by omega)]; rfl
        have hw4 : IntKind.i64.wrap ((k / 2 : Nat) : Int) = ((k / 2 : Nat) : Int) := wrapn (by have := d.toNat_lt; omega)
        simp -implicitDefEqProofs only [go_sem, Nat.reduceAdd, Nat.reduceMul, Nat.reduceEqDiff, Nat.reduceLT, Nat.reduceLeDiff, Nat.reduceSub, Nat.reduceBEq, reduceIte, reduceCtorEq, Int.reduceEq, Int.reduceNe, Nat.reduceBneDiff, Int.reduceLE, Int.reduceLT, Int.reduceToNat, Int.reduceAdd, Int.reduceSub, Int.reduceMul, Int.reduceNeg, T_ok3, T_agg3, T_isinfo3, T_info3, T_cells3, T_zero3, T_int3, T_ok4, T_agg4, T_isinfo4, T_info4, T_cells4, T_zero4, T_bool4, T_ok5, T_agg5, T_isinfo5, T_info5, T_cells5, T_zero5, T_int5, T_ok9, T_agg9, T_isinfo9, T_info9, T_cells9, T_zero9, T_str9, T_len9t, T_ok23, T_agg23, T_isinfo23, T_info23, T_cells23, T_zero23, T_build23, T_f23_0, T_p23_0, T_f23_1, T_p23_1, T_eqs23, T_ok29, T_agg29, T_isinfo29, T_info29, T_cells29, T_zero29, T_elem29, T_under29, T_len29s, T_len29n, T_len29b, T_ok31, T_agg31, T_isinfo31, T_info31, T_cells31, T_zero31, T_build31, T_f31_0, T_p31_0, T_f31_1, T_p31_1, h2, e, hd2, hw4]
        refine ⟨⟨k / 2, by omega, by omega⟩, by simp only; omega, ?_⟩
        exact le_vars (by simp [varsLe, lkp, ren1, ren0])
theorem rbig_v (n : Int) (hl : (digs E9 n.natAbs).length ≤ 1000000) (hl2 : (digs 256 n.natAbs).length ≤ 100000000) : SoundAt Tryz.prog 103 [rI n] (.bool (decide (65536 < blen n.natAbs))) := by
  refine sound_go (tb := []) 6 [.tmp 2] [0, 1, 2] mixed Tryz.func103 rfl (by kernel_rfl) (by kernel_rfl) (by kernel_rfl) (by kernel_rfl) ?_
  simp -implicitDefEqProofs only [go_sem, Nat.reduceAdd, Nat.reduceMul, Nat.reduceEqDiff, Nat.reduceLT, Nat.reduceLeDiff, Nat.reduceSub, Nat.reduceBEq, reduceIte, reduceCtorEq, Int.reduceEq, Int.reduceNe, Nat.reduceBneDiff, Int.reduceLE, Int.reduceLT, Int.reduceToNat, Int.reduceAdd, Int.reduceSub, Int.reduceMul, Int.reduceNeg, T_ok3, T_agg3, T_isinfo3, T_info3, T_cells3, T_zero3, T_int3, T_ok4, T_agg4, T_isinfo4, T_info4, T_cells4, T_zero4, T_bool4, T_ok29, T_agg29, T_isinfo29, T_info29, T_cells29, T_zero29, T_elem29, T_under29, T_len29s, T_len29n, T_len29b, T_ok31, T_agg31, T_isinfo31, T_info31, T_cells31, T_zero31, T_build31, T_f31_0, T_p31_0, T_f31_1, T_p31_1, rI, di]
  refine gcall_intro _ _ _ _ _ _ _ _ _ (rbits_v n hl hl2) ?_
  have e : decide ((65536 : Int) < (blen n.natAbs : Int)) = decide (65536 < blen n.natAbs) := by simp only [decide_eq_decide]; omega
  simp -implicitDefEqProofs only [go_sem, Nat.reduceAdd, Nat.reduceMul, Nat.reduceEqDiff, Nat.reduceLT, Nat.reduceLeDiff, Nat.reduceSub, Nat.reduceBEq, reduceIte, reduceCtorEq, Int.reduceEq, Int.reduceNe, Nat.reduceBneDiff, Int.reduceLE, Int.reduceLT, Int.reduceToNat, Int.reduceAdd, Int.reduceSub, Int.reduceMul, Int.reduceNeg, T_ok3, T_agg3, T_isinfo3, T_info3, T_cells3, T_zero3, T_int3, T_ok4, T_agg4, T_isinfo4, T_info4, T_cells4, T_zero4, T_bool4, T_ok29, T_agg29, T_isinfo29, T_info29, T_cells29, T_zero29, T_elem29, T_under29, T_len29s, T_len29n, T_len29b, T_ok31, T_agg31, T_isinfo31, T_info31, T_cells31, T_zero31, T_build31, T_f31_0, T_p31_0, T_f31_1, T_p31_1, e]
/-- What Out hands back. -/
def outPV (n : Int) : PV := if 65536 < blen n.natAbs then .tup [wPV 0, .int .i64 7] else .tup [wPV n, .int .i64 0]
theorem wPV_zero : wPV 0 = .agg [.bool false, .str ⟨#[]⟩] := by simp [wPV, magL, digs_zero]
theorem rout_v (n : Int) (hl : (digs E9 n.natAbs).length ≤ 1000000) (hl2 : (digs 256 n.natAbs).length ≤ 100000000) : SoundAt Tryz.prog 72 [rI n] (outPV n) := by
  unfold outPV
  refine sound_go (tb := []) 9 [.cell 2 23, .tmp 3] [0, 1, 2, 3, 5] mixed Tryz.func72 rfl (by kernel_rfl) (by kernel_rfl) (by kernel_rfl) (by kernel_rfl) ?_
  simp -implicitDefEqProofs only [go_sem, Nat.reduceAdd, Nat.reduceMul, Nat.reduceEqDiff, Nat.reduceLT, Nat.reduceLeDiff, Nat.reduceSub, Nat.reduceBEq, reduceIte, reduceCtorEq, Int.reduceEq, Int.reduceNe, Nat.reduceBneDiff, Int.reduceLE, Int.reduceLT, Int.reduceToNat, Int.reduceAdd, Int.reduceSub, Int.reduceMul, Int.reduceNeg, T_ok3, T_agg3, T_isinfo3, T_info3, T_cells3, T_zero3, T_int3, T_ok4, T_agg4, T_isinfo4, T_info4, T_cells4, T_zero4, T_bool4, T_ok9, T_agg9, T_isinfo9, T_info9, T_cells9, T_zero9, T_str9, T_len9t, T_ok23, T_agg23, T_isinfo23, T_info23, T_cells23, T_zero23, T_build23, T_f23_0, T_p23_0, T_f23_1, T_p23_1, T_eqs23, T_ok29, T_agg29, T_isinfo29, T_info29, T_cells29, T_zero29, T_elem29, T_under29, T_len29s, T_len29n, T_len29b, T_ok31, T_agg31, T_isinfo31, T_info31, T_cells31, T_zero31, T_build31, T_f31_0, T_p31_0, T_f31_1, T_p31_1, rI, di]
  refine gcall_intro _ _ _ _ _ _ _ _ _ (rbig_v n hl hl2) ?_
  by_cases h : 65536 < blen n.natAbs
  · have hd : decide (65536 < blen n.natAbs) = true := by simp [h]
    rw [if_pos h, wPV_zero]
    simp -implicitDefEqProofs only [go_sem, Nat.reduceAdd, Nat.reduceMul, Nat.reduceEqDiff, Nat.reduceLT, Nat.reduceLeDiff, Nat.reduceSub, Nat.reduceBEq, reduceIte, reduceCtorEq, Int.reduceEq, Int.reduceNe, Nat.reduceBneDiff, Int.reduceLE, Int.reduceLT, Int.reduceToNat, Int.reduceAdd, Int.reduceSub, Int.reduceMul, Int.reduceNeg, T_ok3, T_agg3, T_isinfo3, T_info3, T_cells3, T_zero3, T_int3, T_ok4, T_agg4, T_isinfo4, T_info4, T_cells4, T_zero4, T_bool4, T_ok9, T_agg9, T_isinfo9, T_info9, T_cells9, T_zero9, T_str9, T_len9t, T_ok23, T_agg23, T_isinfo23, T_info23, T_cells23, T_zero23, T_build23, T_f23_0, T_p23_0, T_f23_1, T_p23_1, T_eqs23, T_ok29, T_agg29, T_isinfo29, T_info29, T_cells29, T_zero29, T_elem29, T_under29, T_len29s, T_len29n, T_len29b, T_ok31, T_agg31, T_isinfo31, T_info31, T_cells31, T_zero31, T_build31, T_f31_0, T_p31_0, T_f31_1, T_p31_1, hd]
  · have hd : decide (65536 < blen n.natAbs) = false := by simp [h]
    rw [if_neg h]
    simp -implicitDefEqProofs only [go_sem, Nat.reduceAdd, Nat.reduceMul, Nat.reduceEqDiff, Nat.reduceLT, Nat.reduceLeDiff, Nat.reduceSub, Nat.reduceBEq, reduceIte, reduceCtorEq, Int.reduceEq, Int.reduceNe, Nat.reduceBneDiff, Int.reduceLE, Int.reduceLT, Int.reduceToNat, Int.reduceAdd, Int.reduceSub, Int.reduceMul, Int.reduceNeg, T_ok3, T_agg3, T_isinfo3, T_info3, T_cells3, T_zero3, T_int3, T_ok4, T_agg4, T_isinfo4, T_info4, T_cells4, T_zero4, T_bool4, T_ok9, T_agg9, T_isinfo9, T_info9, T_cells9, T_zero9, T_str9, T_len9t, T_ok23, T_agg23, T_isinfo23, T_info23, T_cells23, T_zero23, T_build23, T_f23_0, T_p23_0, T_f23_1, T_p23_1, T_eqs23, T_ok29, T_agg29, T_isinfo29, T_info29, T_cells29, T_zero29, T_elem29, T_under29, T_len29s, T_len29n, T_len29b, T_ok31, T_agg31, T_isinfo31, T_info31, T_cells31, T_zero31, T_build31, T_f31_0, T_p31_0, T_f31_1, T_p31_1, hd, rI, di]
    refine gcall_intro _ _ _ _ _ _ _ _ _ (rto_v n hl hl2) ?_
    simp -implicitDefEqProofs only [go_sem, Nat.reduceAdd, Nat.reduceMul, Nat.reduceEqDiff, Nat.reduceLT, Nat.reduceLeDiff, Nat.reduceSub, Nat.reduceBEq, reduceIte, reduceCtorEq, Int.reduceEq, Int.reduceNe, Nat.reduceBneDiff, Int.reduceLE, Int.reduceLT, Int.reduceToNat, Int.reduceAdd, Int.reduceSub, Int.reduceMul, Int.reduceNeg, T_ok3, T_agg3, T_isinfo3, T_info3, T_cells3, T_zero3, T_int3, T_ok4, T_agg4, T_isinfo4, T_info4, T_cells4, T_zero4, T_bool4, T_ok9, T_agg9, T_isinfo9, T_info9, T_cells9, T_zero9, T_str9, T_len9t, T_ok23, T_agg23, T_isinfo23, T_info23, T_cells23, T_zero23, T_build23, T_f23_0, T_p23_0, T_f23_1, T_p23_1, T_eqs23, T_ok29, T_agg29, T_isinfo29, T_info29, T_cells29, T_zero29, T_elem29, T_under29, T_len29s, T_len29n, T_len29b, T_ok31, T_agg31, T_isinfo31, T_info31, T_cells31, T_zero31, T_build31, T_f31_0, T_p31_0, T_f31_1, T_p31_1, wPV]
end Go.Proofs.YtkgkebhlpjenaaaGreatDoor

namespace Go.Vl
open Go.RowKit

theorem u64_wrap (n : Nat) : IntKind.u64.wrap (n : Int) = ((n % 18446744073709551616 : Nat) : Int) := by
  simp [IntKind.wrap, IntKind.signed, IntKind.bits]
theorem fdiv32 (n : Nat) : (n : Int).fdiv (2 ^ min 32 64) = ((n / 4294967296 : Nat) : Int) := by
  rw [Int.fdiv_eq_ediv_of_nonneg _ (by decide)]
  rfl
theorem mask32 (n : Nat) : IntKind.u64.wrap ((BitVec.ofInt 64 (n : Int) &&& BitVec.ofInt 64 4294967295).toNat : Int) = ((n % 4294967296 : Nat) : Int) := by
  rw [u64_wrap]
  congr 1
  rw [BitVec.toNat_and]
  have h1 : (BitVec.ofInt 64 (n : Int)).toNat = n % 18446744073709551616 := by simp
  have h2 : (BitVec.ofInt 64 4294967295).toNat = 2 ^ 32 - 1 := by decide
  rw [h1, h2, Nat.and_two_pow_sub_one_eq_mod]
  omega
theorem b_mask {P : Program} {t : TypeId} (n : Nat) : binPV .and t P (.int .u64 (n : Int)) (.int .u64 4294967295) = some (.int .u64 ((n % 4294967296 : Nat) : Int)) := by
  rw [b_and]
  exact congrArg (fun z => some (PV.int .u64 z)) (mask32 n)
attribute [go_sem high] b_mask
theorem mul64 {x y : Nat} (hx : x < 18446744073709551616) (hy : y < 18446744073709551616) :
    ((x / 4294967296 * (y / 4294967296) % 18446744073709551616 + (x / 4294967296 * (y % 4294967296) % 18446744073709551616 + (x % 4294967296 * (y % 4294967296) % 18446744073709551616) / 4294967296) % 18446744073709551616 / 4294967296) % 18446744073709551616 +
      ((x / 4294967296 * (y % 4294967296) % 18446744073709551616 + (x % 4294967296 * (y % 4294967296) % 18446744073709551616) / 4294967296) % 18446744073709551616 % 4294967296 + x % 4294967296 * (y / 4294967296) % 18446744073709551616) % 18446744073709551616 / 4294967296) % 18446744073709551616 = x * y / 18446744073709551616 := by
  have a1 : x / 4294967296 ≤ 4294967295 := by omega
  have a0 : x % 4294967296 ≤ 4294967295 := by omega
  have b1 : y / 4294967296 ≤ 4294967295 := by omega
  have b0 : y % 4294967296 ≤ 4294967295 := by omega
  have ex : x = x / 4294967296 * 4294967296 + x % 4294967296 := by omega
  have ey : y = y / 4294967296 * 4294967296 + y % 4294967296 := by omega
  have hxy : x * y = x / 4294967296 * (y / 4294967296) * 18446744073709551616 + (x / 4294967296 * (y % 4294967296) + x % 4294967296 * (y / 4294967296)) * 4294967296 + x % 4294967296 * (y % 4294967296) := by
    generalize x / 4294967296 = p at *
    generalize x % 4294967296 = q at *
    generalize y / 4294967296 = r at *
    generalize y % 4294967296 = s at *
    subst ex ey
    simp only [Nat.add_mul, Nat.mul_add]
    rw [show p * 4294967296 * (r * 4294967296) = p * r * 18446744073709551616 by rw [Nat.mul_mul_mul_comm]]
    rw [show p * 4294967296 * s = p * s * 4294967296 by rw [Nat.mul_right_comm], show q * (r * 4294967296) = q * r * 4294967296 by rw [Nat.mul_assoc]]
    omega
  have hlt : x * y ≤ 18446744073709551615 * 18446744073709551615 := Nat.mul_le_mul (by omega) (by omega)
  have h11 := Nat.mul_le_mul a1 b1
  have h10 := Nat.mul_le_mul a1 b0
  have h01 := Nat.mul_le_mul a0 b1
  have h00 := Nat.mul_le_mul a0 b0
  rw [hxy] at hlt ⊢
  generalize x / 4294967296 * (y / 4294967296) = P at *
  generalize x / 4294967296 * (y % 4294967296) = Q at *
  generalize x % 4294967296 * (y / 4294967296) = R at *
  generalize x % 4294967296 * (y % 4294967296) = W at *
  clear hxy ex ey a1 a0 b1 b0
  omega
end Go.Vl

namespace Go.Proofs.YtkgkebhlpjenaaaGreatDoor
open Go.Vl Go.RowKit

theorem repL3_int {w : World} {im : Im} {k1 k2 k3 : IntKind} {x y z : Int} {us : List Value} (h : RepL w im [.int k1 x, .int k2 y, .int k3 z] us) : us = [.int k1 x, .int k2 y, .int k3 z] := by
  cases h with
  | cons _ u _ us h t =>
  cases h
  cases t with
  | cons _ u _ us h t =>
  cases h
  cases t with
  | cons _ u _ us h t =>
  cases h
  cases t
  rfl
theorem add64_v (x y c : Nat) (hc : c ≤ 1) : SoundAt Tryz.prog 118 [.int .u64 (x : Int), .int .u64 (y : Int), .int .u64 (c : Int)] (.tup [.int .u64 (((x + y + c) % 18446744073709551616 : Nat) : Int), .int .u64 (((x + y + c) / 18446744073709551616 : Nat) : Int)]) := by
  refine .inr ⟨by kernel_rfl, rfl, fun w im us hr => ?_⟩
  rw [repL3_int hr]
  refine ⟨.tuple #[.int .u64 (((x + y + c) % 18446744073709551616 : Nat) : Int), .int .u64 (((x + y + c) / 18446744073709551616 : Nat) : Int)], ?_, .tup _ [_, _] (.cons _ _ _ _ (.int _ _) (.cons _ _ _ _ (.int _ _) .nil))⟩
  rw [run_callFunc_extern Tryz.func118 (by kernel_rfl) (by kernel_rfl) (by kernel_rfl) (e := add64Entry) (by kernel_rfl), run_add64 x y c (by omega) (by omega) (by omega) (by omega)]
  simp only [Result.andThen]
  congr 5 <;> omega
theorem sub64_v (x y b : Nat) (hb : b ≤ 1) : SoundAt Tryz.prog 120 [.int .u64 (x : Int), .int .u64 (y : Int), .int .u64 (b : Int)] (.tup [.int .u64 (((x + 18446744073709551616 - y - b) % 18446744073709551616 : Nat) : Int), .int .u64 ((if x < y + b then 1 else 0 : Nat) : Int)]) := by
  refine .inr ⟨by kernel_rfl, rfl, fun w im us hr => ?_⟩
  rw [repL3_int hr]
  refine ⟨.tuple #[.int .u64 (((x + 18446744073709551616 - y - b) % 18446744073709551616 : Nat) : Int), .int .u64 ((if x < y + b then 1 else 0 : Nat) : Int)], ?_, .tup _ [_, _] (.cons _ _ _ _ (.int _ _) (.cons _ _ _ _ (.int _ _) .nil))⟩
  rw [run_callFunc_extern Tryz.func120 (by kernel_rfl) (by kernel_rfl) (by kernel_rfl) (e := sub64Entry) (by kernel_rfl), run_sub64 x y b hb]
  rfl
end Go.Proofs.YtkgkebhlpjenaaaGreatDoor

namespace Go.Proofs.YtkgkebhlpjenaaaGreatDoor
open Go.Vl Go.RowKit Go.Dg

abbrev BW : Nat := 18446744073709551616
theorem BW_2 : 2 ≤ BW := by decide
abbrev fW : Nat → PV := fun d : Nat => PV.int .u64 (d : Int)
/-- The words of a number, as a slice. -/
def dw (l : List Nat) : PV := .slc (l.map fun d : Nat => PV.int .u64 (d : Int))
theorem dw_get (l : List Nat) (k : Nat) : (l.map fun d : Nat => PV.int .u64 (d : Int))[k]? = l[k]?.map fun d : Nat => PV.int .u64 (d : Int) := List.getElem?_map
theorem dw_all (l : List Nat) : ((l.map fun d : Nat => PV.int .u64 (d : Int)).all fun x => x.cells.length == 1) = true := by rw [List.all_map, List.all_eq_true]; intro d _; rfl

theorem wtrim_v (l : List Nat) (hl : l.length ≤ maxLen) : SoundAt Tryz.prog 99 [dw l] (dw (trimZ l)) := by
  have hm := maxLen_lt
  refine sound_go (tb := []) 21 [.tmp 2] [0, 2, 14] mixed Tryz.func99 rfl (by kernel_rfl) (by kernel_rfl) (by kernel_rfl) (by kernel_rfl) ?_
  simp -implicitDefEqProofs only [go_sem, Nat.reduceAdd, Nat.reduceMul, Nat.reduceEqDiff, Nat.reduceLT, Nat.reduceLeDiff, Nat.reduceSub, Nat.reduceBEq, reduceIte, reduceCtorEq, Int.reduceEq, Int.reduceNe, Nat.reduceBneDiff, Int.reduceLE, Int.reduceLT, Int.reduceToNat, Int.reduceAdd, Int.reduceSub, Int.reduceMul, Int.reduceNeg, T_ok3, T_agg3, T_isinfo3, T_info3, T_cells3, T_zero3, T_int3, T_ok84, T_agg84, T_isinfo84, T_info84, T_cells84, T_zero84, T_elem84, T_under84, T_len84s, T_len84n, T_len84b, T_ok92, T_agg92, T_isinfo92, T_info92, T_cells92, T_zero92, T_int92, dw]
  refine g_loop mixed (fun k : { k : Nat // k ≤ l.length ∧ trimZ (l.take k) = trimZ l } => St.of [(0, dw (l.take k.1)), (2, .nilS)] []) (fun k => k.1) ⟨l.length, Nat.le_refl _, by rw [List.take_length]⟩ ?_ ?_
  · exact le_vars (by simp [varsLe, lkp, ren1, ren0, dw])
  · rintro ⟨k, hk, ht⟩
    have hlen : (l.take k).length = k := by simp; omega
    cases k with
    | zero =>
      have h1 : ((0 : Int) < ((0 : Nat) : Int)) = False := by simp
      simp -implicitDefEqProofs only [go_sem, Nat.reduceAdd, Nat.reduceMul, Nat.reduceEqDiff, Nat.reduceLT, Nat.reduceLeDiff, Nat.reduceSub, Nat.reduceBEq, reduceIte, reduceCtorEq, Int.reduceEq, Int.reduceNe, Nat.reduceBneDiff, Int.reduceLE, Int.reduceLT, Int.reduceToNat, Int.reduceAdd, Int.reduceSub, Int.reduceMul, Int.reduceNeg, T_ok3, T_agg3, T_isinfo3, T_info3, T_cells3, T_zero3, T_int3, T_ok84, T_agg84, T_isinfo84, T_info84, T_cells84, T_zero84, T_elem84, T_under84, T_len84s, T_len84n, T_len84b, T_ok92, T_agg92, T_isinfo92, T_info92, T_cells92, T_zero92, T_int92, dw, List.length_map, hlen, h1]
      rw [← ht]; rfl
    | succ k =>
      have h1 : ((0 : Int) < ((k + 1 : Nat) : Int)) = True := by simp
      have h2 : (0 ≤ (k : Int)) = True := by simp
      have hw := wrap_sub1 (n := k) (by omega)
      have hlt : k < l.length := by omega
      have hget : (l.take (k + 1))[k]? = some l[k] := by simp [hlt]
      have hcut : l.take (k + 1) = l.take k ++ [l[k]] := by rw [List.take_add_one]; simp [hlt]
      cases hd : ((l[k] : Int) == 0) with
      | true =>
        have hd0 : l[k] = 0 := by simpa using hd
        have h3 : ((k : Int) ≤ ((k + 1 : Nat) : Int)) = True := by simp; omega
        simp -implicitDefEqProofs only [go_sem, Nat.reduceAdd, Nat.reduceMul, Nat.reduceEqDiff, Nat.reduceLT, Nat.reduceLeDiff, Nat.reduceSub, Nat.reduceBEq, reduceIte, reduceCtorEq, Int.reduceEq, Int.reduceNe, Nat.reduceBneDiff, Int.reduceLE, Int.reduceLT, Int.reduceToNat, Int.reduceAdd, Int.reduceSub, Int.reduceMul, Int.reduceNeg, T_ok3, T_agg3, T_isinfo3, T_info3, T_cells3, T_zero3, T_int3, T_ok84, T_agg84, T_isinfo84, T_info84, T_cells84, T_zero84, T_elem84, T_under84, T_len84s, T_len84n, T_len84b, T_ok92, T_agg92, T_isinfo92, T_info92, T_cells92, T_zero92, T_int92, dw, List.length_map, hlen, h1, h2, hw, dw_get, hget, hd, h3, Int.toNat_natCast, dw_all]
        refine ⟨⟨k, by omega, ?_⟩, by simp, ?_⟩
        · rw [← ht, hcut, hd0, trimZ_snoc_zero]
        · refine le_vars (by simp [varsLe, lkp, ren1, ren0, dw]; rw [← List.map_take]; simp [List.take_take])
      | false =>
        have hd0 : l[k] ≠ 0 := by simpa using hd
        simp -implicitDefEqProofs only [go_sem, Nat.reduceAdd, Nat.reduceMul, Nat.reduceEqDiff, Nat.reduceLT, Nat.reduceLeDiff, Nat.reduceSub, Nat.reduceBEq, reduceIte, reduceCtorEq, Int.reduceEq, Int.reduceNe, Nat.reduceBneDiff, Int.reduceLE, Int.reduceLT, Int.reduceToNat, Int.reduceAdd, Int.reduceSub, Int.reduceMul, Int.reduceNeg, T_ok3, T_agg3, T_isinfo3, T_info3, T_cells3, T_zero3, T_int3, T_ok84, T_agg84, T_isinfo84, T_info84, T_cells84, T_zero84, T_elem84, T_under84, T_len84s, T_len84n, T_len84b, T_ok92, T_agg92, T_isinfo92, T_info92, T_cells92, T_zero92, T_int92, dw, List.length_map, hlen, h1, h2, hw, dw_get, hget, hd, Int.toNat_natCast]
        rw [← ht, hcut, trimZ_snoc _ hd0]

/-- What compare hands back. -/
def cmpW (a b : Nat) : Int := if (digs BW a).length = (digs BW b).length then cmpN a b else ((digs BW a).length : Int) - ((digs BW b).length : Int)
theorem cmpW_neg (a b : Nat) : (cmpW a b < 0) ↔ a < b := by
  unfold cmpW
  split
  · unfold cmpN; split
    · simp; assumption
    · split <;> simp <;> omega
  · rename_i h
    constructor
    · intro h2; exact len_lt BW_2 (by omega)
    · intro h2
      rcases Nat.lt_trichotomy (digs BW a).length (digs BW b).length with h3 | h3 | h3
      · omega
      · exact absurd h3 h
      · have := len_lt BW_2 h3; omega
theorem wcompare_v (a b : Nat) (ha : (digs BW a).length ≤ 1000000000) (hb : (digs BW b).length ≤ 1000000000) : SoundAt Tryz.prog 105 [dw (digs BW a), dw (digs BW b)] (.int .i64 (cmpW a b)) := by
  refine sound_go (tb := []) 43 [.tmp 4] [0, 1, 4, 5, 10, 20, 23, 33] mixed Tryz.func105 rfl (by kernel_rfl) (by kernel_rfl) (by kernel_rfl) (by kernel_rfl) ?_
  by_cases hl : (digs BW a).length = (digs BW b).length
  · have hl' : (((digs BW a).length : Int) != ((digs BW b).length : Int)) = false := by simp [hl]
    have hw : IntKind.i64.wrap (((digs BW a).length : Int) - 1) = ((digs BW a).length : Int) - 1 := wrap_i64 (by omega) (by omega)
    rw [cmpW, if_pos hl]
    simp -implicitDefEqProofs only [go_sem, Nat.reduceAdd, Nat.reduceMul, Nat.reduceEqDiff, Nat.reduceLT, Nat.reduceLeDiff, Nat.reduceSub, Nat.reduceBEq, reduceIte, reduceCtorEq, Int.reduceEq, Int.reduceNe, Nat.reduceBneDiff, Int.reduceLE, Int.reduceLT, Int.reduceToNat, Int.reduceAdd, Int.reduceSub, Int.reduceMul, Int.reduceNeg, T_ok3, T_agg3, T_isinfo3, T_info3, T_cells3, T_zero3, T_int3, T_ok84, T_agg84, T_isinfo84, T_info84, T_cells84, T_zero84, T_elem84, T_under84, T_len84s, T_len84n, T_len84b, T_ok92, T_agg92, T_isinfo92, T_info92, T_cells92, T_zero92, T_int92, dw, List.length_map, hl', hw]
    refine g_loop mixed (fun i : { i : Nat // i ≤ (digs BW a).length ∧ a / BW ^ i = b / BW ^ i } => St.of [(0, dw (digs BW a)), (1, dw (digs BW b)), (4, .int .i64 0), (5, .int .i64 ((i.1 : Int) - 1))] []) (fun i => i.1)
      ⟨(digs BW a).length, Nat.le_refl _, by rw [digit_beyond BW_2 (Nat.le_refl _), hl, digit_beyond BW_2 (Nat.le_refl _)]⟩ ?_ ?_
    · exact le_vars (by simp [varsLe, lkp, ren1, ren0, dw])
    · rintro ⟨i, hi, he⟩
      cases i with
      | zero =>
        have h1 : ((0 : Int) ≤ ((0 : Nat) : Int) - 1) = False := by simp
        have hab : a = b := by simpa using he
        subst hab
        simp -implicitDefEqProofs only [go_sem, Nat.reduceAdd, Nat.reduceMul, Nat.reduceEqDiff, Nat.reduceLT, Nat.reduceLeDiff, Nat.reduceSub, Nat.reduceBEq, reduceIte, reduceCtorEq, Int.reduceEq, Int.reduceNe, Nat.reduceBneDiff, Int.reduceLE, Int.reduceLT, Int.reduceToNat, Int.reduceAdd, Int.reduceSub, Int.reduceMul, Int.reduceNeg, T_ok3, T_agg3, T_isinfo3, T_info3, T_cells3, T_zero3, T_int3, T_ok84, T_agg84, T_isinfo84, T_info84, T_cells84, T_zero84, T_elem84, T_under84, T_len84s, T_len84n, T_len84b, T_ok92, T_agg92, T_isinfo92, T_info92, T_cells92, T_zero92, T_int92, dw, h1, cmpN_eq]
      | succ i =>
        have hs : (((i + 1 : Nat) : Int) - 1) = (i : Int) := by omega
        have h1 : ((0 : Int) ≤ (i : Int)) = True := by simp
        have hga := digs_get_lt BW_2 (show i < (digs BW a).length by omega)
        have hgb := digs_get_lt BW_2 (show i < (digs BW b).length by omega)
        by_cases hlt : a / BW ^ i % BW < b / BW ^ i % BW
        · have h2 : (((a / BW ^ i % BW : Nat) : Int) < ((b / BW ^ i % BW : Nat) : Int)) = True := by simp only [eq_iff_iff, iff_true]; omega
          have hc := cmpN_lt (cmp_digit (by decide) he hlt)
          simp -implicitDefEqProofs only [go_sem, Nat.reduceAdd, Nat.reduceMul, Nat.reduceEqDiff, Nat.reduceLT, Nat.reduceLeDiff, Nat.reduceSub, Nat.reduceBEq, reduceIte, reduceCtorEq, Int.reduceEq, Int.reduceNe, Nat.reduceBneDiff, Int.reduceLE, Int.reduceLT, Int.reduceToNat, Int.reduceAdd, Int.reduceSub, Int.reduceMul, Int.reduceNeg, T_ok3, T_agg3, T_isinfo3, T_info3, T_cells3, T_zero3, T_int3, T_ok84, T_agg84, T_isinfo84, T_info84, T_cells84, T_zero84, T_elem84, T_under84, T_len84s, T_len84n, T_len84b, T_ok92, T_agg92, T_isinfo92, T_info92, T_cells92, T_zero92, T_int92, dw, hs, h1, dw_get, hga, hgb, h2, hc]
          exact drawQ_true _ _ (by kernel_rfl)
        · have h2 : (((a / BW ^ i % BW : Nat) : Int) < ((b / BW ^ i % BW : Nat) : Int)) = False := by simp only [eq_iff_iff, iff_false]; omega
          by_cases hgt : b / BW ^ i % BW < a / BW ^ i % BW
          · have h3 : (((b / BW ^ i % BW : Nat) : Int) < ((a / BW ^ i % BW : Nat) : Int)) = True := by simp only [eq_iff_iff, iff_true]; omega
            have hc := cmpN_gt (cmp_digit (by decide) he.symm hgt)
            simp -implicitDefEqProofs only [go_sem, Nat.reduceAdd, Nat.reduceMul, Nat.reduceEqDiff, Nat.reduceLT, Nat.reduceLeDiff, Nat.reduceSub, Nat.reduceBEq, reduceIte, reduceCtorEq, Int.reduceEq, Int.reduceNe, Nat.reduceBneDiff, Int.reduceLE, Int.reduceLT, Int.reduceToNat, Int.reduceAdd, Int.reduceSub, Int.reduceMul, Int.reduceNeg, T_ok3, T_agg3, T_isinfo3, T_info3, T_cells3, T_zero3, T_int3, T_ok84, T_agg84, T_isinfo84, T_info84, T_cells84, T_zero84, T_elem84, T_under84, T_len84s, T_len84n, T_len84b, T_ok92, T_agg92, T_isinfo92, T_info92, T_cells92, T_zero92, T_int92, dw, hs, h1, dw_get, hga, hgb, h2, h3, hc]
            exact ⟨drawQ_true _ _ (by kernel_rfl), drawQ_true _ _ (by kernel_rfl)⟩
          · have h3 : (((b / BW ^ i % BW : Nat) : Int) < ((a / BW ^ i % BW : Nat) : Int)) = False := by simp only [eq_iff_iff, iff_false]; omega
            have hw2 : IntKind.i64.wrap ((i : Int) - 1) = (i : Int) - 1 := wrap_i64 (by omega) (by omega)
            simp -implicitDefEqProofs only [go_sem, Nat.reduceAdd, Nat.reduceMul, Nat.reduceEqDiff, Nat.reduceLT, Nat.reduceLeDiff, Nat.reduceSub, Nat.reduceBEq, reduceIte, reduceCtorEq, Int.reduceEq, Int.reduceNe, Nat.reduceBneDiff, Int.reduceLE, Int.reduceLT, Int.reduceToNat, Int.reduceAdd, Int.reduceSub, Int.reduceMul, Int.reduceNeg, T_ok3, T_agg3, T_isinfo3, T_info3, T_cells3, T_zero3, T_int3, T_ok84, T_agg84, T_isinfo84, T_info84, T_cells84, T_zero84, T_elem84, T_under84, T_len84s, T_len84n, T_len84b, T_ok92, T_agg92, T_isinfo92, T_info92, T_cells92, T_zero92, T_int92, dw, hs, h1, dw_get, hga, hgb, h2, h3, hw2]
            refine ⟨drawQ_true _ _ (by kernel_rfl), drawQ_true _ _ (by kernel_rfl), ⟨i, by omega, same_digit (by decide) he (by omega)⟩, by simp, ?_⟩
            exact le_vars (by simp [varsLe, lkp, ren1, ren0, dw])
  · have hl' : (((digs BW a).length : Int) != ((digs BW b).length : Int)) = true := by simp; omega
    have hw : IntKind.i64.wrap (((digs BW a).length : Int) - ((digs BW b).length : Int)) = ((digs BW a).length : Int) - ((digs BW b).length : Int) := wrap_i64 (by omega) (by omega)
    rw [cmpW, if_neg hl]
    simp -implicitDefEqProofs only [go_sem, Nat.reduceAdd, Nat.reduceMul, Nat.reduceEqDiff, Nat.reduceLT, Nat.reduceLeDiff, Nat.reduceSub, Nat.reduceBEq, reduceIte, reduceCtorEq, Int.reduceEq, Int.reduceNe, Nat.reduceBneDiff, Int.reduceLE, Int.reduceLT, Int.reduceToNat, Int.reduceAdd, Int.reduceSub, Int.reduceMul, Int.reduceNeg, T_ok3, T_agg3, T_isinfo3, T_info3, T_cells3, T_zero3, T_int3, T_ok84, T_agg84, T_isinfo84, T_info84, T_cells84, T_zero84, T_elem84, T_under84, T_len84s, T_len84n, T_len84b, T_ok92, T_agg92, T_isinfo92, T_info92, T_cells92, T_zero92, T_int92, dw, List.length_map, hl', hw]
end Go.Proofs.YtkgkebhlpjenaaaGreatDoor

namespace Go.Proofs.YtkgkebhlpjenaaaGreatDoor
open Go.Vl Go.RowKit Go.Dg

theorem set_fW (l : List Nat) (i : Nat) (d : Nat) : (l.map fW).set i (PV.int .u64 (d : Int)) = (l.set i d).map fW := (List.map_set (f := fW)).symm
theorem lows_zero' (B n : Nat) : lows B 0 n = List.replicate n 0 := by
  apply List.ext_getElem?
  intro k
  by_cases h : k < n
  · rw [lows_get _ _ _ h]; simp [h]
  · rw [List.getElem?_eq_none (by rw [lows_length]; omega), List.getElem?_eq_none (by simp; omega)]
theorem mix_start (V n : Nat) : List.replicate n (PV.int .u64 0) = (mix BW V 0 n 0).map fW := by
  rw [mix_none, lows_zero']; simp
theorem wsub_v (a b : Nat) (hba : b ≤ a) (ha : (digs BW a).length ≤ 1000000000) : SoundAt Tryz.prog 102 [dw (digs BW a), dw (digs BW b)] (dw (digs BW (a - b))) := by
  refine sound_go (tb := []) 41 [.tmp 4] [0, 1, 4, 5, 6, 7, 8, 13, 14, 15, 20] mixed Tryz.func102 rfl (by kernel_rfl) (by kernel_rfl) (by kernel_rfl) (by kernel_rfl) ?_
  have hn0 : ((0 : Int) ≤ ((digs BW a).length : Int)) = True := by simp
  have hn1 : ((8 : Nat) : Int) * ((digs BW a).length : Int) ≤ 281474976710656 := by omega
  have hn2 : ((digs BW a).length : Int) ≤ 9223372036854775807 := by omega
  simp -implicitDefEqProofs only [go_sem, Nat.reduceAdd, Nat.reduceMul, Nat.reduceEqDiff, Nat.reduceLT, Nat.reduceLeDiff, Nat.reduceSub, Nat.reduceBEq, reduceIte, reduceCtorEq, Int.reduceEq, Int.reduceNe, Nat.reduceBneDiff, Int.reduceLE, Int.reduceLT, Int.reduceToNat, Int.reduceAdd, Int.reduceSub, Int.reduceMul, Int.reduceNeg, T_ok3, T_agg3, T_isinfo3, T_info3, T_cells3, T_zero3, T_int3, T_ok84, T_agg84, T_isinfo84, T_info84, T_cells84, T_zero84, T_elem84, T_under84, T_len84s, T_len84n, T_len84b, T_ok92, T_agg92, T_isinfo92, T_info92, T_cells92, T_zero92, T_int92, dw, List.length_map, hn0, hn1, hn2, Int.toNat_natCast]
  generalize hN : (digs BW a).length = N at *
  rw [mix_start (a - b) N]
  refine g_loop mixed (fun i : { i : Nat // i ≤ N } => St.of [(0, dw (digs BW a)), (1, dw (digs BW b)), (4, .nilS), (5, .bs 102 1 0 N), (6, .int .u64 (bor BW a b i.1 : Int)), (13, .int .i64 (N : Int)), (14, .int .i64 (i.1 : Int))]
    [(102, { els := (mix BW (a - b) 0 N i.1).map fW, esz := 1, ety := 92, fro := 0, live := true, arr := true })]) (fun i => N - i.1) ⟨0, Nat.zero_le _⟩ ?_ ?_
  · refine le_of (θ := [(102, 102)]) rfl ?_ ?_
    · simp [varsLe, lkp, ren1, ren0, dw, bor_zero]
    · simp [boxesLe, lkp, Box.renames]
  · rintro ⟨i, hi⟩
    have hml := mix_length (B := BW) (a - b) 0 N i
    by_cases hA : i < N
    · have hA' : ((i : Int) < (N : Int)) = True := by simp; omega
      have h0 : (0 ≤ (i : Int)) = True := by simp
      have hga := digs_get_lt BW_2 (show i < (digs BW a).length by omega)
      have hwk := wrap_add1 (a := i) (by omega)
      have hbl := bor_le (B := BW) a b i
      have hbl2 := bor_le (B := BW) a b (i + 1)
      have hst := sub_step BW_2 hba i
      have hx : a / BW ^ i % BW < BW := Nat.mod_lt _ (by decide)
      have hy : b / BW ^ i % BW < BW := Nat.mod_lt _ (by decide)
      have hz : (a - b) / BW ^ i % BW < BW := Nat.mod_lt _ (by decide)
      have hset := mix_set (B := BW) (V := a - b) (W := a - b) (S := 0) (n := N) (m := i) (d := (a - b) / BW ^ i % BW) (by decide) hA rfl rfl
      have hy0 : ¬ i < (digs BW b).length → b / BW ^ i % BW = 0 := fun h => by rw [digit_beyond BW_2 (Nat.le_of_not_lt h), Nat.zero_mod]
      have hgb : i < (digs BW b).length → (digs BW b)[i]? = some (b / BW ^ i % BW) := fun h => digs_get_lt BW_2 h
      obtain ⟨e, hgo⟩ : ∃ e : Nat, ((mix BW (a - b) 0 N i).map fW)[i]? = some (PV.int .u64 (e : Int)) := ⟨_, by rw [List.getElem?_map, mix_get _ _ _ _ _ hA]; rfl⟩
      generalize a / BW ^ i % BW = x at *
      generalize b / BW ^ i % BW = y at *
      generalize (a - b) / BW ^ i % BW = z at *
      have s1 : (x + 18446744073709551616 - y - bor BW a b i) % 18446744073709551616 = z := by simp only [BW] at *; omega
      have s2 : (if x < y + bor BW a b i then 1 else 0) = bor BW a b (i + 1) := by
        simp only [BW] at *
        split <;> omega
      have hc := sub64_v x y (bor BW a b i) hbl
      rw [s1, s2] at hc
      by_cases hB : i < (digs BW b).length
      · have hB' : ((i : Int) < ((digs BW b).length : Int)) = True := by simp; omega
        have hgb := hgb hB
        simp -implicitDefEqProofs only [go_sem, Nat.reduceAdd, Nat.reduceMul, Nat.reduceEqDiff, Nat.reduceLT, Nat.reduceLeDiff, Nat.reduceSub, Nat.reduceBEq, reduceIte, reduceCtorEq, Int.reduceEq, Int.reduceNe, Nat.reduceBneDiff, Int.reduceLE, Int.reduceLT, Int.reduceToNat, Int.reduceAdd, Int.reduceSub, Int.reduceMul, Int.reduceNeg, T_ok3, T_agg3, T_isinfo3, T_info3, T_cells3, T_zero3, T_int3, T_ok84, T_agg84, T_isinfo84, T_info84, T_cells84, T_zero84, T_elem84, T_under84, T_len84s, T_len84n, T_len84b, T_ok92, T_agg92, T_isinfo92, T_info92, T_cells92, T_zero92, T_int92, dw, List.length_map, hA', hB', h0, dw_get, hga, hgb, Int.toNat_natCast]
        refine gcall_intro _ _ _ _ _ _ _ _ _ hc ?_
        simp -implicitDefEqProofs only [go_sem, Nat.reduceAdd, Nat.reduceMul, Nat.reduceEqDiff, Nat.reduceLT, Nat.reduceLeDiff, Nat.reduceSub, Nat.reduceBEq, reduceIte, reduceCtorEq, Int.reduceEq, Int.reduceNe, Nat.reduceBneDiff, Int.reduceLE, Int.reduceLT, Int.reduceToNat, Int.reduceAdd, Int.reduceSub, Int.reduceMul, Int.reduceNeg, T_ok3, T_agg3, T_isinfo3, T_info3, T_cells3, T_zero3, T_int3, T_ok84, T_agg84, T_isinfo84, T_info84, T_cells84, T_zero84, T_elem84, T_under84, T_len84s, T_len84n, T_len84b, T_ok92, T_agg92, T_isinfo92, T_info92, T_cells92, T_zero92, T_int92, hA', h0, Int.toNat_natCast, hwk, hgo, List.length_map, hml]
        refine ⟨⟨i + 1, hA⟩, by simp only; omega, ?_⟩
        refine le_of (θ := [(102, 102)]) rfl ?_ ?_
        · simp [varsLe, lkp, ren1, ren0, dw]
        · rw [set_fW, hset]
          simp [boxesLe, lkp, Box.renames]
      · have hB' : ((i : Int) < ((digs BW b).length : Int)) = False := by simp; omega
        obtain rfl := hy0 hB
        simp -implicitDefEqProofs only [go_sem, Nat.reduceAdd, Nat.reduceMul, Nat.reduceEqDiff, Nat.reduceLT, Nat.reduceLeDiff, Nat.reduceSub, Nat.reduceBEq, reduceIte, reduceCtorEq, Int.reduceEq, Int.reduceNe, Nat.reduceBneDiff, Int.reduceLE, Int.reduceLT, Int.reduceToNat, Int.reduceAdd, Int.reduceSub, Int.reduceMul, Int.reduceNeg, T_ok3, T_agg3, T_isinfo3, T_info3, T_cells3, T_zero3, T_int3, T_ok84, T_agg84, T_isinfo84, T_info84, T_cells84, T_zero84, T_elem84, T_under84, T_len84s, T_len84n, T_len84b, T_ok92, T_agg92, T_isinfo92, T_info92, T_cells92, T_zero92, T_int92, dw, List.length_map, hA', hB', h0, dw_get, hga, Int.toNat_natCast]
        refine gcall_intro _ _ _ _ _ _ _ _ _ hc ?_
        simp -implicitDefEqProofs only [go_sem, Nat.reduceAdd, Nat.reduceMul, Nat.reduceEqDiff, Nat.reduceLT, Nat.reduceLeDiff, Nat.reduceSub, Nat.reduceBEq, reduceIte, reduceCtorEq, Int.reduceEq, Int.reduceNe, Nat.reduceBneDiff, Int.reduceLE, Int.reduceLT, Int.reduceToNat, Int.reduceAdd, Int.reduceSub, Int.reduceMul, Int.reduceNeg, T_ok3, T_agg3, T_isinfo3, T_info3, T_cells3, T_zero3, T_int3, T_ok84, T_agg84, T_isinfo84, T_info84, T_cells84, T_zero84, T_elem84, T_under84, T_len84s, T_len84n, T_len84b, T_ok92, T_agg92, T_isinfo92, T_info92, T_cells92, T_zero92, T_int92, hA', h0, Int.toNat_natCast, hwk, hgo, List.length_map, hml]
        refine ⟨⟨i + 1, hA⟩, by simp only; omega, ?_⟩
        refine le_of (θ := [(102, 102)]) rfl ?_ ?_
        · simp [varsLe, lkp, ren1, ren0, dw]
        · rw [set_fW, hset]
          simp [boxesLe, lkp, Box.renames]
    · have hA' : ((i : Int) < (N : Int)) = False := by simp; omega
      obtain rfl : i = N := by omega
      have htk : ((lows BW (a - b) i).map fW).take i = (lows BW (a - b) i).map fW := List.take_of_length_le (by simp [lows_length])
      have hll := lows_length (B := BW) (a - b) i
      have hlt : a < BW ^ i := by rw [← hN]; exact lt_pow_len BW_2 a
      have hm : mix BW (a - b) 0 i i = lows BW (a - b) i := mix_all (by decide) (by rw [Nat.div_eq_of_lt (Nat.lt_of_le_of_lt (Nat.sub_le _ _) hlt), Nat.zero_div])
      simp -implicitDefEqProofs only [go_sem, Nat.reduceAdd, Nat.reduceMul, Nat.reduceEqDiff, Nat.reduceLT, Nat.reduceLeDiff, Nat.reduceSub, Nat.reduceBEq, reduceIte, reduceCtorEq, Int.reduceEq, Int.reduceNe, Nat.reduceBneDiff, Int.reduceLE, Int.reduceLT, Int.reduceToNat, Int.reduceAdd, Int.reduceSub, Int.reduceMul, Int.reduceNeg, T_ok3, T_agg3, T_isinfo3, T_info3, T_cells3, T_zero3, T_int3, T_ok84, T_agg84, T_isinfo84, T_info84, T_cells84, T_zero84, T_elem84, T_under84, T_len84s, T_len84n, T_len84b, T_ok92, T_agg92, T_isinfo92, T_info92, T_cells92, T_zero92, T_int92, hA', List.length_map, hll, htk, hm]
      refine gcall_intro _ _ _ _ _ _ _ _ _ (wtrim_v (lows BW (a - b) i) (by rw [lows_length]; simp [maxLen]; omega)) ?_
      simp -implicitDefEqProofs only [go_sem, Nat.reduceAdd, Nat.reduceMul, Nat.reduceEqDiff, Nat.reduceLT, Nat.reduceLeDiff, Nat.reduceSub, Nat.reduceBEq, reduceIte, reduceCtorEq, Int.reduceEq, Int.reduceNe, Nat.reduceBneDiff, Int.reduceLE, Int.reduceLT, Int.reduceToNat, Int.reduceAdd, Int.reduceSub, Int.reduceMul, Int.reduceNeg, T_ok3, T_agg3, T_isinfo3, T_info3, T_cells3, T_zero3, T_int3, T_ok84, T_agg84, T_isinfo84, T_info84, T_cells84, T_zero84, T_elem84, T_under84, T_len84s, T_len84n, T_len84b, T_ok92, T_agg92, T_isinfo92, T_info92, T_cells92, T_zero92, T_int92, dw, List.length_map]
      rw [trimZ_lows BW_2, Nat.mod_eq_of_lt (Nat.lt_of_le_of_lt (Nat.sub_le _ _) hlt)]
end Go.Proofs.YtkgkebhlpjenaaaGreatDoor
