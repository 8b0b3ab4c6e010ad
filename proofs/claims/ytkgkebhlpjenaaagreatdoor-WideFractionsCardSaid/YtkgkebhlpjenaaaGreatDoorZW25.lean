/-
  ZW20, De5, ZW25 (merged for the claim).
-/
import Derived.Test.YtkgkebhlpjenaaaGreatDoorZW16
import Derived.Test.YtkgkebhlpjenaaaGreatDoorDe4
import Derived.Test.YtkgkebhlpjenaaaGreatDoorZW24
set_option linter.unusedSimpArgs false
set_option linter.unusedVariables false
namespace Go.Proofs.YtkgkebhlpjenaaaGreatDoor
open Go.Vl Go.RowKit Go.Dg

theorem trim_oneW {d : Nat} (h : d < BW) : trimZ [d] = digs BW d := by
  rw [trimZ_eq BW_2 [d] (by simpa using h)]; simp [val]
theorem blen_small {m : Nat} (h : m < 18446744073709551616) : blen m ≤ 64 := blen_le 64 m h
theorem u64_wrapI' (n : Int) : IntKind.u64.wrap n = n % 18446744073709551616 := by simp [IntKind.wrap, IntKind.bits, IntKind.signed]
theorem wOf_v (n : Int) (h1 : -9223372036854775808 ≤ n) (h2 : n ≤ 9223372036854775807) : SoundAt Tryz.prog 59 [.int .i64 n] (wPV n) := by
  obtain ⟨m, hm⟩ : ∃ m : Nat, m = n.natAbs := ⟨_, rfl⟩
  have hml : m < 18446744073709551616 := by omega
  have ht := wtrim_v [m] (by simp [maxLen])
  rw [trim_oneW hml] at ht
  have hL : (digs BW m).length ≤ 1000000 := Nat.le_trans ((digs_len_le BW_2 m 1).2 (by simpa using hml)) (by decide)
  have hw := fun neg => nwide_v neg m hL
  have hb : blen n.natAbs ≤ 64 := by rw [← hm]; exact blen_small hml
  by_cases hn : n < 0
  · have hn' : (n < 0) = True := by simp [hn]
    have e1 : IntKind.u64.wrap n = ((18446744073709551616 - m : Nat) : Int) := by rw [u64_wrapI']; omega
    have e2 : IntKind.u64.wrap (0 - ((18446744073709551616 - m : Nat) : Int)) = (m : Int) := by rw [u64_wrapI']; omega
    have hw1 := hw true
    have e3 : sv true m = n := by simp [sv]; omega
    rw [e3, outPV, if_neg (by omega)] at hw1
    refine sound_go (tb := []) 23 [.cell 2 23] [0, 2, 3, 4, 9] mixed Tryz.func59 rfl (by kernel_rfl) (by kernel_rfl) (by kernel_rfl) (by kernel_rfl) ?_
    repeat (first | (simp -implicitDefEqProofs only [go_sem, Nat.reduceAdd, Nat.reduceMul, Nat.reduceEqDiff, Nat.reduceLT, Nat.reduceLeDiff, Nat.reduceSub, Nat.reduceBEq, reduceIte, reduceCtorEq, Int.reduceEq, Int.reduceNe, Nat.reduceBneDiff, Int.reduceLE, Int.reduceLT, Int.reduceToNat, Int.reduceAdd, Int.reduceSub, Int.reduceMul, Int.reduceNeg, T_ok3, T_agg3, T_isinfo3, T_info3, T_cells3, T_zero3, T_int3, T_ok4, T_agg4, T_isinfo4, T_info4, T_cells4, T_zero4, T_bool4, T_ok9, T_agg9, T_isinfo9, T_info9, T_cells9, T_zero9, T_str9, T_len9t, T_ok23, T_agg23, T_isinfo23, T_info23, T_cells23, T_zero23, T_build23, T_f23_0, T_p23_0, T_f23_1, T_p23_1, T_eqs23, T_ok84, T_agg84, T_isinfo84, T_info84, T_cells84, T_zero84, T_elem84, T_under84, T_len84s, T_len84n, T_len84b, T_ok86, T_agg86, T_isinfo86, T_info86, T_cells86, T_zero86, T_build86, T_f86_0, T_p86_0, T_f86_1, T_p86_1, T_ok92, T_agg92, T_isinfo92, T_info92, T_cells92, T_zero92, T_int92, hn', e1, e2, nP, dw, wPV, List.map_cons, List.map_nil]) | ((with_reducible refine gcall_eq (ht) ?_ ?_ ?_); (with_reducible rfl); rfl) | ((with_reducible refine gcall_eq (hw1) ?_ ?_ ?_); (with_reducible rfl); rfl) | (with_reducible exact drawQ_true _ _ (by kernel_rfl)) | (with_reducible refine And.intro (drawQ_true _ _ (by kernel_rfl)) ?_))
  · have hn' : (n < 0) = False := by simp [hn]
    have e1 : IntKind.u64.wrap n = (m : Int) := by rw [u64_wrapI']; omega
    have hw1 := hw false
    have e3 : sv false m = n := by simp [sv]; omega
    rw [e3, outPV, if_neg (by omega)] at hw1
    refine sound_go (tb := []) 23 [.cell 2 23] [0, 2, 3, 4, 9] mixed Tryz.func59 rfl (by kernel_rfl) (by kernel_rfl) (by kernel_rfl) (by kernel_rfl) ?_
    repeat (first | (simp -implicitDefEqProofs only [go_sem, Nat.reduceAdd, Nat.reduceMul, Nat.reduceEqDiff, Nat.reduceLT, Nat.reduceLeDiff, Nat.reduceSub, Nat.reduceBEq, reduceIte, reduceCtorEq, Int.reduceEq, Int.reduceNe, Nat.reduceBneDiff, Int.reduceLE, Int.reduceLT, Int.reduceToNat, Int.reduceAdd, Int.reduceSub, Int.reduceMul, Int.reduceNeg, T_ok3, T_agg3, T_isinfo3, T_info3, T_cells3, T_zero3, T_int3, T_ok4, T_agg4, T_isinfo4, T_info4, T_cells4, T_zero4, T_bool4, T_ok9, T_agg9, T_isinfo9, T_info9, T_cells9, T_zero9, T_str9, T_len9t, T_ok23, T_agg23, T_isinfo23, T_info23, T_cells23, T_zero23, T_build23, T_f23_0, T_p23_0, T_f23_1, T_p23_1, T_eqs23, T_ok84, T_agg84, T_isinfo84, T_info84, T_cells84, T_zero84, T_elem84, T_under84, T_len84s, T_len84n, T_len84b, T_ok86, T_agg86, T_isinfo86, T_info86, T_cells86, T_zero86, T_build86, T_f86_0, T_p86_0, T_f86_1, T_p86_1, T_ok92, T_agg92, T_isinfo92, T_info92, T_cells92, T_zero92, T_int92, hn', e1, nP, dw, wPV, List.map_cons, List.map_nil]) | ((with_reducible refine gcall_eq (ht) ?_ ?_ ?_); (with_reducible rfl); rfl) | ((with_reducible refine gcall_eq (hw1) ?_ ?_ ?_); (with_reducible rfl); rfl) | (with_reducible exact drawQ_true _ _ (by kernel_rfl)) | (with_reducible refine And.intro (drawQ_true _ _ (by kernel_rfl)) ?_))

/-- An integer as an int, or the error. -/
def intPV (n : Int) : PV := if -9223372036854775808 ≤ n ∧ n ≤ 9223372036854775807 then .tup [.int .i64 n, .int .i64 0] else .tup [.int .i64 0, .int .i64 3]
theorem wInt_no (neg : Bool) (s : ByteArray) (h : validB neg s.data.toList = false) : SoundAt Tryz.prog 58 [.agg [.bool neg, .str s]] (.tup [.int .i64 0, .int .i64 2]) := by
  have hv := wvalid_v neg s
  rw [h] at hv
  refine sound_go (tb := []) 53 [.tmp 2, .tmp 3] [0, 1, 2, 3, 4, 7, 10, 15, 39] mixed Tryz.func58 rfl (by kernel_rfl) (by kernel_rfl) (by kernel_rfl) (by kernel_rfl) ?_
  repeat (first | (simp -implicitDefEqProofs only [go_sem, Nat.reduceAdd, Nat.reduceMul, Nat.reduceEqDiff, Nat.reduceLT, Nat.reduceLeDiff, Nat.reduceSub, Nat.reduceBEq, reduceIte, reduceCtorEq, Int.reduceEq, Int.reduceNe, Nat.reduceBneDiff, Int.reduceLE, Int.reduceLT, Int.reduceToNat, Int.reduceAdd, Int.reduceSub, Int.reduceMul, Int.reduceNeg, T_ok3, T_agg3, T_isinfo3, T_info3, T_cells3, T_zero3, T_int3, T_ok4, T_agg4, T_isinfo4, T_info4, T_cells4, T_zero4, T_bool4, T_ok9, T_agg9, T_isinfo9, T_info9, T_cells9, T_zero9, T_str9, T_len9t, T_ok23, T_agg23, T_isinfo23, T_info23, T_cells23, T_zero23, T_build23, T_f23_0, T_p23_0, T_f23_1, T_p23_1, T_eqs23, T_ok84, T_agg84, T_isinfo84, T_info84, T_cells84, T_zero84, T_elem84, T_under84, T_len84s, T_len84n, T_len84b, T_ok86, T_agg86, T_isinfo86, T_info86, T_cells86, T_zero86, T_build86, T_f86_0, T_p86_0, T_f86_1, T_p86_1, T_ok92, T_agg92, T_isinfo92, T_info92, T_cells92, T_zero92, T_int92]) | ((with_reducible refine gcall_eq (hv) ?_ ?_ ?_); (with_reducible rfl); rfl) | (with_reducible exact drawQ_true _ _ (by kernel_rfl)) | (with_reducible refine And.intro (drawQ_true _ _ (by kernel_rfl)) ?_))
theorem wInt_v (neg : Bool) (s : ByteArray) (h : validB neg s.data.toList = true) (hs : s.size ≤ 100000) : SoundAt Tryz.prog 58 [.agg [.bool neg, .str s]] (intPV (wnum neg s)) := by
  have hv := wvalid_v neg s
  rw [h] at hv
  have ho := wof_v neg s h (by omega)
  have hL := L_bnum s hs
  unfold wnum
  generalize bnum s.data.toList = m at *
  by_cases h0 : m = 0
  · subst h0
    have e : intPV (sv neg 0) = .tup [.int .i64 0, .int .i64 0] := by cases neg <;> rfl
    have h1 : (((0 : Nat) : Int) == 0) = true := rfl
    rw [e]
    refine sound_go (tb := []) 53 [.tmp 2, .tmp 3] [0, 1, 2, 3, 4, 7, 10, 15, 39] mixed Tryz.func58 rfl (by kernel_rfl) (by kernel_rfl) (by kernel_rfl) (by kernel_rfl) ?_
    repeat (first | (simp -implicitDefEqProofs only [go_sem, Nat.reduceAdd, Nat.reduceMul, Nat.reduceEqDiff, Nat.reduceLT, Nat.reduceLeDiff, Nat.reduceSub, Nat.reduceBEq, reduceIte, reduceCtorEq, Int.reduceEq, Int.reduceNe, Nat.reduceBneDiff, Int.reduceLE, Int.reduceLT, Int.reduceToNat, Int.reduceAdd, Int.reduceSub, Int.reduceMul, Int.reduceNeg, T_ok3, T_agg3, T_isinfo3, T_info3, T_cells3, T_zero3, T_int3, T_ok4, T_agg4, T_isinfo4, T_info4, T_cells4, T_zero4, T_bool4, T_ok9, T_agg9, T_isinfo9, T_info9, T_cells9, T_zero9, T_str9, T_len9t, T_ok23, T_agg23, T_isinfo23, T_info23, T_cells23, T_zero23, T_build23, T_f23_0, T_p23_0, T_f23_1, T_p23_1, T_eqs23, T_ok84, T_agg84, T_isinfo84, T_info84, T_cells84, T_zero84, T_elem84, T_under84, T_len84s, T_len84n, T_len84b, T_ok86, T_agg86, T_isinfo86, T_info86, T_cells86, T_zero86, T_build86, T_f86_0, T_p86_0, T_f86_1, T_p86_1, T_ok92, T_agg92, T_isinfo92, T_info92, T_cells92, T_zero92, T_int92, nP, dw, digs_zero, List.map_nil, List.length_nil, h1]) | ((with_reducible refine gcall_eq (hv) ?_ ?_ ?_); (with_reducible rfl); rfl) | ((with_reducible refine gcall_eq (ho) ?_ ?_ ?_); (with_reducible rfl); rfl) | (with_reducible exact drawQ_true _ _ (by kernel_rfl)) | (with_reducible refine And.intro (drawQ_true _ _ (by kernel_rfl)) ?_))
  · have hp : 0 < (digs BW m).length := List.length_pos_iff.2 (mt (digs_eq_nil BW_2).1 h0)
    have h1 : (((digs BW m).length : Int) == 0) = false := by simp only [beq_eq_false_iff_ne, ne_eq]; omega
    have hlen := digs_len_le BW_2 m 1
    rw [Nat.pow_one] at hlen
    have hg := digs_get_lt BW_2 hp
    rw [Nat.pow_zero, Nat.div_one] at hg
    by_cases hl : m < BW
    · have hl1 : ((1 : Int) < ((digs BW m).length : Int)) = False := by have := hlen.2 hl; simp only [eq_iff_iff, iff_false]; omega
      rw [Nat.mod_eq_of_lt hl] at hg
      simp only [BW] at hl
      cases neg with
      | false =>
        by_cases hbig : 9223372036854775808 ≤ m
        · have g1 : ((9223372036854775808 : Int) ≤ (m : Int)) = True := by simp only [eq_iff_iff, iff_true]; omega
          have e : intPV (sv false m) = .tup [.int .i64 0, .int .i64 3] := by rw [intPV, if_neg]; simp [sv]; omega
          rw [e]
          refine sound_go (tb := []) 53 [.tmp 2, .tmp 3] [0, 1, 2, 3, 4, 7, 10, 15, 39] mixed Tryz.func58 rfl (by kernel_rfl) (by kernel_rfl) (by kernel_rfl) (by kernel_rfl) ?_
          repeat (first | (simp -implicitDefEqProofs only [go_sem, Nat.reduceAdd, Nat.reduceMul, Nat.reduceEqDiff, Nat.reduceLT, Nat.reduceLeDiff, Nat.reduceSub, Nat.reduceBEq, reduceIte, reduceCtorEq, Int.reduceEq, Int.reduceNe, Nat.reduceBneDiff, Int.reduceLE, Int.reduceLT, Int.reduceToNat, Int.reduceAdd, Int.reduceSub, Int.reduceMul, Int.reduceNeg, T_ok3, T_agg3, T_isinfo3, T_info3, T_cells3, T_zero3, T_int3, T_ok4, T_agg4, T_isinfo4, T_info4, T_cells4, T_zero4, T_bool4, T_ok9, T_agg9, T_isinfo9, T_info9, T_cells9, T_zero9, T_str9, T_len9t, T_ok23, T_agg23, T_isinfo23, T_info23, T_cells23, T_zero23, T_build23, T_f23_0, T_p23_0, T_f23_1, T_p23_1, T_eqs23, T_ok84, T_agg84, T_isinfo84, T_info84, T_cells84, T_zero84, T_elem84, T_under84, T_len84s, T_len84n, T_len84b, T_ok86, T_agg86, T_isinfo86, T_info86, T_cells86, T_zero86, T_build86, T_f86_0, T_p86_0, T_f86_1, T_p86_1, T_ok92, T_agg92, T_isinfo92, T_info92, T_cells92, T_zero92, T_int92, nP, dw, List.length_map, h1, hl1, dw_get, hg, g1]) | ((with_reducible refine gcall_eq (hv) ?_ ?_ ?_); (with_reducible rfl); rfl) | ((with_reducible refine gcall_eq (ho) ?_ ?_ ?_); (with_reducible rfl); rfl) | (with_reducible exact drawQ_true _ _ (by kernel_rfl)) | (with_reducible refine And.intro (drawQ_true _ _ (by kernel_rfl)) ?_))
        · have g1 : ((9223372036854775808 : Int) ≤ (m : Int)) = False := by simp only [eq_iff_iff, iff_false]; omega
          have g2 : ((9223372036854775808 : Int) < (m : Int)) = False := by simp only [eq_iff_iff, iff_false]; omega
          have e : intPV (sv false m) = .tup [.int .i64 (m : Int), .int .i64 0] := by rw [intPV, if_pos (by simp [sv]; omega)]; rfl
          have w1 := wrapn (n := m) (by omega)
          rw [e]
          refine sound_go (tb := []) 53 [.tmp 2, .tmp 3] [0, 1, 2, 3, 4, 7, 10, 15, 39] mixed Tryz.func58 rfl (by kernel_rfl) (by kernel_rfl) (by kernel_rfl) (by kernel_rfl) ?_
          repeat (first | (simp -implicitDefEqProofs only [go_sem, Nat.reduceAdd, Nat.reduceMul, Nat.reduceEqDiff, Nat.reduceLT, Nat.reduceLeDiff, Nat.reduceSub, Nat.reduceBEq, reduceIte, reduceCtorEq, Int.reduceEq, Int.reduceNe, Nat.reduceBneDiff, Int.reduceLE, Int.reduceLT, Int.reduceToNat, Int.reduceAdd, Int.reduceSub, Int.reduceMul, Int.reduceNeg, T_ok3, T_agg3, T_isinfo3, T_info3, T_cells3, T_zero3, T_int3, T_ok4, T_agg4, T_isinfo4, T_info4, T_cells4, T_zero4, T_bool4, T_ok9, T_agg9, T_isinfo9, T_info9, T_cells9, T_zero9, T_str9, T_len9t, T_ok23, T_agg23, T_isinfo23, T_info23, T_cells23, T_zero23, T_build23, T_f23_0, T_p23_0, T_f23_1, T_p23_1, T_eqs23, T_ok84, T_agg84, T_isinfo84, T_info84, T_cells84, T_zero84, T_elem84, T_under84, T_len84s, T_len84n, T_len84b, T_ok86, T_agg86, T_isinfo86, T_info86, T_cells86, T_zero86, T_build86, T_f86_0, T_p86_0, T_f86_1, T_p86_1, T_ok92, T_agg92, T_isinfo92, T_info92, T_cells92, T_zero92, T_int92, nP, dw, List.length_map, h1, hl1, dw_get, hg, g1, g2, w1]) | ((with_reducible refine gcall_eq (hv) ?_ ?_ ?_); (with_reducible rfl); rfl) | ((with_reducible refine gcall_eq (ho) ?_ ?_ ?_); (with_reducible rfl); rfl) | (with_reducible exact drawQ_true _ _ (by kernel_rfl)) | (with_reducible refine And.intro (drawQ_true _ _ (by kernel_rfl)) ?_))
      | true =>
        by_cases hbig : 9223372036854775808 < m
        · have g2 : ((9223372036854775808 : Int) < (m : Int)) = True := by simp only [eq_iff_iff, iff_true]; omega
          have e : intPV (sv true m) = .tup [.int .i64 0, .int .i64 3] := by rw [intPV, if_neg]; simp [sv]; omega
          rw [e]
          refine sound_go (tb := []) 53 [.tmp 2, .tmp 3] [0, 1, 2, 3, 4, 7, 10, 15, 39] mixed Tryz.func58 rfl (by kernel_rfl) (by kernel_rfl) (by kernel_rfl) (by kernel_rfl) ?_
          repeat (first | (simp -implicitDefEqProofs only [go_sem, Nat.reduceAdd, Nat.reduceMul, Nat.reduceEqDiff, Nat.reduceLT, Nat.reduceLeDiff, Nat.reduceSub, Nat.reduceBEq, reduceIte, reduceCtorEq, Int.reduceEq, Int.reduceNe, Nat.reduceBneDiff, Int.reduceLE, Int.reduceLT, Int.reduceToNat, Int.reduceAdd, Int.reduceSub, Int.reduceMul, Int.reduceNeg, T_ok3, T_agg3, T_isinfo3, T_info3, T_cells3, T_zero3, T_int3, T_ok4, T_agg4, T_isinfo4, T_info4, T_cells4, T_zero4, T_bool4, T_ok9, T_agg9, T_isinfo9, T_info9, T_cells9, T_zero9, T_str9, T_len9t, T_ok23, T_agg23, T_isinfo23, T_info23, T_cells23, T_zero23, T_build23, T_f23_0, T_p23_0, T_f23_1, T_p23_1, T_eqs23, T_ok84, T_agg84, T_isinfo84, T_info84, T_cells84, T_zero84, T_elem84, T_under84, T_len84s, T_len84n, T_len84b, T_ok86, T_agg86, T_isinfo86, T_info86, T_cells86, T_zero86, T_build86, T_f86_0, T_p86_0, T_f86_1, T_p86_1, T_ok92, T_agg92, T_isinfo92, T_info92, T_cells92, T_zero92, T_int92, nP, dw, List.length_map, h1, hl1, dw_get, hg, g2]) | ((with_reducible refine gcall_eq (hv) ?_ ?_ ?_); (with_reducible rfl); rfl) | ((with_reducible refine gcall_eq (ho) ?_ ?_ ?_); (with_reducible rfl); rfl) | (with_reducible exact drawQ_true _ _ (by kernel_rfl)) | (with_reducible refine And.intro (drawQ_true _ _ (by kernel_rfl)) ?_))
        · have g2 : ((9223372036854775808 : Int) < (m : Int)) = False := by simp only [eq_iff_iff, iff_false]; omega
          have e : intPV (sv true m) = .tup [.int .i64 (-(m : Int)), .int .i64 0] := by rw [intPV, if_pos (by simp [sv]; omega)]; rfl
          have w1 : IntKind.i64.wrap (IntKind.u64.wrap (0 - (m : Int))) = -(m : Int) := by
            rw [u64_wrapI']; simp [IntKind.wrap, IntKind.bits, IntKind.signed]; omega
          rw [e]
          refine sound_go (tb := []) 53 [.tmp 2, .tmp 3] [0, 1, 2, 3, 4, 7, 10, 15, 39] mixed Tryz.func58 rfl (by kernel_rfl) (by kernel_rfl) (by kernel_rfl) (by kernel_rfl) ?_
          repeat (first | (simp -implicitDefEqProofs only [go_sem, Nat.reduceAdd, Nat.reduceMul, Nat.reduceEqDiff, Nat.reduceLT, Nat.reduceLeDiff, Nat.reduceSub, Nat.reduceBEq, reduceIte, reduceCtorEq, Int.reduceEq, Int.reduceNe, Nat.reduceBneDiff, Int.reduceLE, Int.reduceLT, Int.reduceToNat, Int.reduceAdd, Int.reduceSub, Int.reduceMul, Int.reduceNeg, T_ok3, T_agg3, T_isinfo3, T_info3, T_cells3, T_zero3, T_int3, T_ok4, T_agg4, T_isinfo4, T_info4, T_cells4, T_zero4, T_bool4, T_ok9, T_agg9, T_isinfo9, T_info9, T_cells9, T_zero9, T_str9, T_len9t, T_ok23, T_agg23, T_isinfo23, T_info23, T_cells23, T_zero23, T_build23, T_f23_0, T_p23_0, T_f23_1, T_p23_1, T_eqs23, T_ok84, T_agg84, T_isinfo84, T_info84, T_cells84, T_zero84, T_elem84, T_under84, T_len84s, T_len84n, T_len84b, T_ok86, T_agg86, T_isinfo86, T_info86, T_cells86, T_zero86, T_build86, T_f86_0, T_p86_0, T_f86_1, T_p86_1, T_ok92, T_agg92, T_isinfo92, T_info92, T_cells92, T_zero92, T_int92, nP, dw, List.length_map, h1, hl1, dw_get, hg, g2, w1]) | ((with_reducible refine gcall_eq (hv) ?_ ?_ ?_); (with_reducible rfl); rfl) | ((with_reducible refine gcall_eq (ho) ?_ ?_ ?_); (with_reducible rfl); rfl) | (with_reducible exact drawQ_true _ _ (by kernel_rfl)) | (with_reducible refine And.intro (drawQ_true _ _ (by kernel_rfl)) ?_))
    · have hl1 : ((1 : Int) < ((digs BW m).length : Int)) = True := by
        have := mt hlen.1 hl; simp only [eq_iff_iff, iff_true]; omega
      simp only [BW] at hl
      have e : intPV (sv neg m) = .tup [.int .i64 0, .int .i64 3] := by rw [intPV, if_neg]; cases neg <;> simp [sv] <;> omega
      rw [e]
      refine sound_go (tb := []) 53 [.tmp 2, .tmp 3] [0, 1, 2, 3, 4, 7, 10, 15, 39] mixed Tryz.func58 rfl (by kernel_rfl) (by kernel_rfl) (by kernel_rfl) (by kernel_rfl) ?_
      repeat (first | (simp -implicitDefEqProofs only [go_sem, Nat.reduceAdd, Nat.reduceMul, Nat.reduceEqDiff, Nat.reduceLT, Nat.reduceLeDiff, Nat.reduceSub, Nat.reduceBEq, reduceIte, reduceCtorEq, Int.reduceEq, Int.reduceNe, Nat.reduceBneDiff, Int.reduceLE, Int.reduceLT, Int.reduceToNat, Int.reduceAdd, Int.reduceSub, Int.reduceMul, Int.reduceNeg, T_ok3, T_agg3, T_isinfo3, T_info3, T_cells3, T_zero3, T_int3, T_ok4, T_agg4, T_isinfo4, T_info4, T_cells4, T_zero4, T_bool4, T_ok9, T_agg9, T_isinfo9, T_info9, T_cells9, T_zero9, T_str9, T_len9t, T_ok23, T_agg23, T_isinfo23, T_info23, T_cells23, T_zero23, T_build23, T_f23_0, T_p23_0, T_f23_1, T_p23_1, T_eqs23, T_ok84, T_agg84, T_isinfo84, T_info84, T_cells84, T_zero84, T_elem84, T_under84, T_len84s, T_len84n, T_len84b, T_ok86, T_agg86, T_isinfo86, T_info86, T_cells86, T_zero86, T_build86, T_f86_0, T_p86_0, T_f86_1, T_p86_1, T_ok92, T_agg92, T_isinfo92, T_info92, T_cells92, T_zero92, T_int92, nP, dw, List.length_map, h1, hl1]) | ((with_reducible refine gcall_eq (hv) ?_ ?_ ?_); (with_reducible rfl); rfl) | ((with_reducible refine gcall_eq (ho) ?_ ?_ ?_); (with_reducible rfl); rfl) | (with_reducible exact drawQ_true _ _ (by kernel_rfl)) | (with_reducible refine And.intro (drawQ_true _ _ (by kernel_rfl)) ?_))

theorem wSign_no (neg : Bool) (s : ByteArray) (h : validB neg s.data.toList = false) : SoundAt Tryz.prog 56 [.agg [.bool neg, .str s]] (.int .i64 0) := by
  have hv := wvalid_v neg s
  rw [h] at hv
  refine sound_go (tb := []) 9 [.tmp 2] [0, 1, 2, 5] mixed Tryz.func56 rfl (by kernel_rfl) (by kernel_rfl) (by kernel_rfl) (by kernel_rfl) ?_
  repeat (first | (simp -implicitDefEqProofs only [go_sem, Nat.reduceAdd, Nat.reduceMul, Nat.reduceEqDiff, Nat.reduceLT, Nat.reduceLeDiff, Nat.reduceSub, Nat.reduceBEq, reduceIte, reduceCtorEq, Int.reduceEq, Int.reduceNe, Nat.reduceBneDiff, Int.reduceLE, Int.reduceLT, Int.reduceToNat, Int.reduceAdd, Int.reduceSub, Int.reduceMul, Int.reduceNeg, T_ok4, T_agg4, T_isinfo4, T_info4, T_cells4, T_zero4, T_bool4, T_ok9, T_agg9, T_isinfo9, T_info9, T_cells9, T_zero9, T_str9, T_len9t, T_ok23, T_agg23, T_isinfo23, T_info23, T_cells23, T_zero23, T_build23, T_f23_0, T_p23_0, T_f23_1, T_p23_1, T_eqs23, T_ok84, T_agg84, T_isinfo84, T_info84, T_cells84, T_zero84, T_elem84, T_under84, T_len84s, T_len84n, T_len84b, T_ok86, T_agg86, T_isinfo86, T_info86, T_cells86, T_zero86, T_build86, T_f86_0, T_p86_0, T_f86_1, T_p86_1, T_ok92, T_agg92, T_isinfo92, T_info92, T_cells92, T_zero92, T_int92]) | ((with_reducible refine gcall_eq (hv) ?_ ?_ ?_); (with_reducible rfl); rfl) | (with_reducible exact drawQ_true _ _ (by kernel_rfl)) | (with_reducible refine And.intro (drawQ_true _ _ (by kernel_rfl)) ?_))
theorem wSign_v (neg : Bool) (s : ByteArray) (h : validB neg s.data.toList = true) (hs : s.size ≤ 100000) : SoundAt Tryz.prog 56 [.agg [.bool neg, .str s]] (.int .i64 (wnum neg s).sign) := by
  have hv := wvalid_v neg s
  rw [h] at hv
  have ho := wof_v neg s h (by omega)
  have hg := nsign_v neg (bnum s.data.toList)
  refine sound_go (tb := []) 9 [.tmp 2] [0, 1, 2, 5] mixed Tryz.func56 rfl (by kernel_rfl) (by kernel_rfl) (by kernel_rfl) (by kernel_rfl) ?_
  repeat (first | (simp -implicitDefEqProofs only [go_sem, Nat.reduceAdd, Nat.reduceMul, Nat.reduceEqDiff, Nat.reduceLT, Nat.reduceLeDiff, Nat.reduceSub, Nat.reduceBEq, reduceIte, reduceCtorEq, Int.reduceEq, Int.reduceNe, Nat.reduceBneDiff, Int.reduceLE, Int.reduceLT, Int.reduceToNat, Int.reduceAdd, Int.reduceSub, Int.reduceMul, Int.reduceNeg, T_ok4, T_agg4, T_isinfo4, T_info4, T_cells4, T_zero4, T_bool4, T_ok9, T_agg9, T_isinfo9, T_info9, T_cells9, T_zero9, T_str9, T_len9t, T_ok23, T_agg23, T_isinfo23, T_info23, T_cells23, T_zero23, T_build23, T_f23_0, T_p23_0, T_f23_1, T_p23_1, T_eqs23, T_ok84, T_agg84, T_isinfo84, T_info84, T_cells84, T_zero84, T_elem84, T_under84, T_len84s, T_len84n, T_len84b, T_ok86, T_agg86, T_isinfo86, T_info86, T_cells86, T_zero86, T_build86, T_f86_0, T_p86_0, T_f86_1, T_p86_1, T_ok92, T_agg92, T_isinfo92, T_info92, T_cells92, T_zero92, T_int92, nP, dw]) | ((with_reducible refine gcall_eq (hv) ?_ ?_ ?_); (with_reducible rfl); rfl) | ((with_reducible refine gcall_eq (ho) ?_ ?_ ?_); (with_reducible rfl); rfl) | ((with_reducible refine gcall_eq (hg) ?_ ?_ ?_); (with_reducible rfl); rfl) | (with_reducible exact drawQ_true _ _ (by kernel_rfl)) | (with_reducible refine And.intro (drawQ_true _ _ (by kernel_rfl)) ?_))
  rfl
theorem wLen_no (neg : Bool) (s : ByteArray) (h : validB neg s.data.toList = false) : SoundAt Tryz.prog 21 [.agg [.bool neg, .str s]] (.int .i64 0) := by
  have hv := wvalid_v neg s
  rw [h] at hv
  refine sound_go (tb := []) 10 [.tmp 2] [0, 1, 2, 5] mixed Tryz.func21 rfl (by kernel_rfl) (by kernel_rfl) (by kernel_rfl) (by kernel_rfl) ?_
  repeat (first | (simp -implicitDefEqProofs only [go_sem, Nat.reduceAdd, Nat.reduceMul, Nat.reduceEqDiff, Nat.reduceLT, Nat.reduceLeDiff, Nat.reduceSub, Nat.reduceBEq, reduceIte, reduceCtorEq, Int.reduceEq, Int.reduceNe, Nat.reduceBneDiff, Int.reduceLE, Int.reduceLT, Int.reduceToNat, Int.reduceAdd, Int.reduceSub, Int.reduceMul, Int.reduceNeg, T_ok4, T_agg4, T_isinfo4, T_info4, T_cells4, T_zero4, T_bool4, T_ok9, T_agg9, T_isinfo9, T_info9, T_cells9, T_zero9, T_str9, T_len9t, T_ok23, T_agg23, T_isinfo23, T_info23, T_cells23, T_zero23, T_build23, T_f23_0, T_p23_0, T_f23_1, T_p23_1, T_eqs23, T_ok84, T_agg84, T_isinfo84, T_info84, T_cells84, T_zero84, T_elem84, T_under84, T_len84s, T_len84n, T_len84b, T_ok92, T_agg92, T_isinfo92, T_info92, T_cells92, T_zero92, T_int92]) | ((with_reducible refine gcall_eq (hv) ?_ ?_ ?_); (with_reducible rfl); rfl) | (with_reducible exact drawQ_true _ _ (by kernel_rfl)) | (with_reducible refine And.intro (drawQ_true _ _ (by kernel_rfl)) ?_))
theorem wLen_v (neg : Bool) (s : ByteArray) (h : validB neg s.data.toList = true) (hs : s.size ≤ 100000) : SoundAt Tryz.prog 21 [.agg [.bool neg, .str s]] (.int .i64 (blen (bnum s.data.toList) : Int)) := by
  have hv := wvalid_v neg s
  rw [h] at hv
  have ho := wload_v s (by omega)
  rw [load_digs h] at ho
  have hg := wsize_v (bnum s.data.toList) (Nat.le_trans (L_bnum s hs) (by decide))
  refine sound_go (tb := []) 10 [.tmp 2] [0, 1, 2, 5] mixed Tryz.func21 rfl (by kernel_rfl) (by kernel_rfl) (by kernel_rfl) (by kernel_rfl) ?_
  repeat (first | (simp -implicitDefEqProofs only [go_sem, Nat.reduceAdd, Nat.reduceMul, Nat.reduceEqDiff, Nat.reduceLT, Nat.reduceLeDiff, Nat.reduceSub, Nat.reduceBEq, reduceIte, reduceCtorEq, Int.reduceEq, Int.reduceNe, Nat.reduceBneDiff, Int.reduceLE, Int.reduceLT, Int.reduceToNat, Int.reduceAdd, Int.reduceSub, Int.reduceMul, Int.reduceNeg, T_ok4, T_agg4, T_isinfo4, T_info4, T_cells4, T_zero4, T_bool4, T_ok9, T_agg9, T_isinfo9, T_info9, T_cells9, T_zero9, T_str9, T_len9t, T_ok23, T_agg23, T_isinfo23, T_info23, T_cells23, T_zero23, T_build23, T_f23_0, T_p23_0, T_f23_1, T_p23_1, T_eqs23, T_ok84, T_agg84, T_isinfo84, T_info84, T_cells84, T_zero84, T_elem84, T_under84, T_len84s, T_len84n, T_len84b, T_ok92, T_agg92, T_isinfo92, T_info92, T_cells92, T_zero92, T_int92, dw]) | ((with_reducible refine gcall_eq (hv) ?_ ?_ ?_); (with_reducible rfl); rfl) | ((with_reducible refine gcall_eq (ho) ?_ ?_ ?_); (with_reducible rfl); rfl) | ((with_reducible refine gcall_eq (hg) ?_ ?_ ?_); (with_reducible rfl); rfl) | (with_reducible exact drawQ_true _ _ (by kernel_rfl)) | (with_reducible refine And.intro (drawQ_true _ _ (by kernel_rfl)) ?_))
theorem wCompare_no (an bn : Bool) (a b : ByteArray) (h : (validB an a.data.toList && validB bn b.data.toList) = false) : SoundAt Tryz.prog 57 [.agg [.bool an, .str a], .agg [.bool bn, .str b]] (.int .i64 0) := by
  have hv := both_v an bn a b
  rw [h] at hv
  refine sound_go (tb := []) 16 [.tmp 4] [0, 1, 2, 3, 4, 8] mixed Tryz.func57 rfl (by kernel_rfl) (by kernel_rfl) (by kernel_rfl) (by kernel_rfl) ?_
  repeat (first | (simp -implicitDefEqProofs only [go_sem, Nat.reduceAdd, Nat.reduceMul, Nat.reduceEqDiff, Nat.reduceLT, Nat.reduceLeDiff, Nat.reduceSub, Nat.reduceBEq, reduceIte, reduceCtorEq, Int.reduceEq, Int.reduceNe, Nat.reduceBneDiff, Int.reduceLE, Int.reduceLT, Int.reduceToNat, Int.reduceAdd, Int.reduceSub, Int.reduceMul, Int.reduceNeg, T_ok4, T_agg4, T_isinfo4, T_info4, T_cells4, T_zero4, T_bool4, T_ok9, T_agg9, T_isinfo9, T_info9, T_cells9, T_zero9, T_str9, T_len9t, T_ok23, T_agg23, T_isinfo23, T_info23, T_cells23, T_zero23, T_build23, T_f23_0, T_p23_0, T_f23_1, T_p23_1, T_eqs23, T_ok84, T_agg84, T_isinfo84, T_info84, T_cells84, T_zero84, T_elem84, T_under84, T_len84s, T_len84n, T_len84b, T_ok86, T_agg86, T_isinfo86, T_info86, T_cells86, T_zero86, T_build86, T_f86_0, T_p86_0, T_f86_1, T_p86_1, T_ok92, T_agg92, T_isinfo92, T_info92, T_cells92, T_zero92, T_int92]) | ((with_reducible refine gcall_eq (hv) ?_ ?_ ?_); (with_reducible rfl); rfl) | (with_reducible exact drawQ_true _ _ (by kernel_rfl)) | (with_reducible refine And.intro (drawQ_true _ _ (by kernel_rfl)) ?_))
theorem wCompare_v (an bn : Bool) (a b : ByteArray) (h1 : validB an a.data.toList = true) (h2 : validB bn b.data.toList = true) (ha : a.size ≤ 100000) (hb : b.size ≤ 100000) :
    SoundAt Tryz.prog 57 [.agg [.bool an, .str a], .agg [.bool bn, .str b]] (.int .i64 (wnum an a - wnum bn b).sign) := by
  have hv := both_v an bn a b
  rw [h1, h2] at hv
  have hL1 := L_bnum a ha
  have hL2 := L_bnum b hb
  have hoa := wof_v an a h1 (by omega)
  have hob := wof_v bn b h2 (by omega)
  have hn := nneg_v bn (bnum b.data.toList)
  obtain ⟨n, m, hs, e, hm⟩ := nadd_v an (!bn) (bnum a.data.toList) (bnum b.data.toList) (by omega) (by omega)
  have hg := nsign_v n m
  have e2 : sv (!bn) (bnum b.data.toList) = -(sv bn (bnum b.data.toList)) := by cases bn <;> simp [sv]
  have e3 : sv n m = wnum an a - wnum bn b := by rw [e, e2, wnum, wnum, Int.sub_eq_add_neg]
  rw [e3] at hg
  rw [Bool.true_and] at hv
  refine sound_go (tb := []) 16 [.tmp 4] [0, 1, 2, 3, 4, 8] mixed Tryz.func57 rfl (by kernel_rfl) (by kernel_rfl) (by kernel_rfl) (by kernel_rfl) ?_
  repeat (first | (simp -implicitDefEqProofs only [go_sem, Nat.reduceAdd, Nat.reduceMul, Nat.reduceEqDiff, Nat.reduceLT, Nat.reduceLeDiff, Nat.reduceSub, Nat.reduceBEq, reduceIte, reduceCtorEq, Int.reduceEq, Int.reduceNe, Nat.reduceBneDiff, Int.reduceLE, Int.reduceLT, Int.reduceToNat, Int.reduceAdd, Int.reduceSub, Int.reduceMul, Int.reduceNeg, T_ok4, T_agg4, T_isinfo4, T_info4, T_cells4, T_zero4, T_bool4, T_ok9, T_agg9, T_isinfo9, T_info9, T_cells9, T_zero9, T_str9, T_len9t, T_ok23, T_agg23, T_isinfo23, T_info23, T_cells23, T_zero23, T_build23, T_f23_0, T_p23_0, T_f23_1, T_p23_1, T_eqs23, T_ok84, T_agg84, T_isinfo84, T_info84, T_cells84, T_zero84, T_elem84, T_under84, T_len84s, T_len84n, T_len84b, T_ok86, T_agg86, T_isinfo86, T_info86, T_cells86, T_zero86, T_build86, T_f86_0, T_p86_0, T_f86_1, T_p86_1, T_ok92, T_agg92, T_isinfo92, T_info92, T_cells92, T_zero92, T_int92, nP, dw]) | ((with_reducible refine gcall_eq (hv) ?_ ?_ ?_); (with_reducible rfl); rfl) | ((with_reducible refine gcall_eq (hoa) ?_ ?_ ?_); (with_reducible rfl); rfl) | ((with_reducible refine gcall_eq (hob) ?_ ?_ ?_); (with_reducible rfl); rfl) | ((with_reducible refine gcall_eq (hn) ?_ ?_ ?_); (with_reducible rfl); rfl) | ((with_reducible refine gcall_eq (hs) ?_ ?_ ?_); (with_reducible rfl); rfl) | ((with_reducible refine gcall_eq (hg) ?_ ?_ ?_); (with_reducible rfl); rfl) | (with_reducible exact drawQ_true _ _ (by kernel_rfl)) | (with_reducible refine And.intro (drawQ_true _ _ (by kernel_rfl)) ?_))
end Go.Proofs.YtkgkebhlpjenaaaGreatDoor

namespace Go.Dg
theorem clear_copy {α : Type} (E L : List α) (i n : Nat) (z : α) (hL : L.length ≤ n) (hi : i + n ≤ E.length) :
    (E.take i ++ List.replicate n z ++ E.drop (i + n)).take i ++ L ++ (E.take i ++ List.replicate n z ++ E.drop (i + n)).drop (i + L.length) = E.take i ++ (L ++ List.replicate (n - L.length) z) ++ E.drop (i + n) := by
  have hl : (E.take i).length = i := by simp; omega
  rw [List.append_assoc (E.take i) (List.replicate n z)]
  generalize hT : E.take i = T at *
  generalize E.drop (i + n) = D
  have e1 : (T ++ (List.replicate n z ++ D)).take i = T := by rw [← hl]; exact List.take_left
  have e2 : (T ++ (List.replicate n z ++ D)).drop (i + L.length) = List.replicate (n - L.length) z ++ D := by
    rw [← List.drop_drop, ← hl, List.drop_left, List.drop_append]
    simp only [List.drop_replicate, List.length_replicate]
    rw [show L.length - n = 0 by omega, List.drop_zero]
  rw [e1, e2]
  simp only [List.append_assoc]
/-- The divisor, moved up so that its first word begins with a bit 1, has as many words. -/
theorem up_len {b : Nat} (hb : b ≠ 0) :
    (digs WB (b * 2 ^ (64 - blen (b / WB ^ ((digs WB b).length - 1))))).length = (digs WB b).length := by
  have hp : 0 < (digs WB b).length := List.length_pos_iff.2 (mt (digs_eq_nil (by decide)).1 hb)
  have ht := top_digit (B := WB) (by decide) hb
  obtain ⟨K, hK⟩ : ∃ K, (digs WB b).length = K + 1 := ⟨(digs WB b).length - 1, by omega⟩
  rw [hK, Nat.add_sub_cancel] at ht ⊢
  have h64 := blen_le 64 _ ht.2
  have hlt : b / WB ^ K < 2 ^ blen (b / WB ^ K) := by
    rcases Nat.lt_or_ge (b / WB ^ K) (2 ^ blen (b / WB ^ K)) with h | h
    · exact h
    · have := blen_gt _ _ h; omega
  apply Nat.le_antisymm
  · refine (digs_len_le (by decide) _ _).2 ?_
    have h1 : b < 2 ^ blen (b / WB ^ K) * WB ^ K := (Nat.div_lt_iff_lt_mul (WBp K)).1 hlt
    have h2 := Nat.mul_lt_mul_of_pos_right h1 (show 0 < 2 ^ (64 - blen (b / WB ^ K)) from Nat.pow_pos (by decide))
    rw [Nat.mul_right_comm, ← Nat.pow_add, show blen (b / WB ^ K) + (64 - blen (b / WB ^ K)) = 64 by omega] at h2
    rw [Nat.pow_succ, Nat.mul_comm (WB ^ K)]
    exact h2
  · have h3 : K < (digs WB b).length := by omega
    have h4 := (digs_len (by decide) b K).1 h3
    refine (digs_len (by decide) _ K).2 ?_
    have h5 : b / WB ^ K ≤ b * 2 ^ (64 - blen (b / WB ^ K)) / WB ^ K := Nat.div_le_div_right (Nat.le_mul_of_pos_right b (Nat.pow_pos (by decide)))
    exact Nat.ne_of_gt (Nat.lt_of_lt_of_le (Nat.pos_of_ne_zero h4) h5)
end Go.Dg

namespace Go.Proofs.YtkgkebhlpjenaaaGreatDoor
open Go.Vl Go.RowKit Go.Dg

theorem wdiv_lt (a b : Nat) (h : a < b) (ha : (digs BW a).length ≤ 100000000) (hbl : (digs BW b).length ≤ 100000000) : SoundAt Tryz.prog 101 [dw (digs BW a), dw (digs BW b)] (.tup [dw (digs BW (a / b)), dw (digs BW (a % b))]) := by
  have hc := wcompare_v a b (by omega) (by omega)
  have g1 : (cmpW a b < 0) = True := by simp only [eq_iff_iff, iff_true]; exact (cmpW_neg a b).2 h
  rw [Nat.div_eq_of_lt h, Nat.mod_eq_of_lt h, digs_zero]
  refine sound_go (tb := []) 145 [.tmp 4, .tmp 5] [0, 1, 4, 5, 6, 7, 8, 9, 10, 11, 12, 13, 14, 15, 16, 17, 21, 25, 68, 82, 121] mixed Tryz.func101 rfl (by kernel_rfl) (by kernel_rfl) (by kernel_rfl) (by kernel_rfl) ?_
  repeat (first | (simp -implicitDefEqProofs only [go_sem, Nat.reduceAdd, Nat.reduceMul, Nat.reduceEqDiff, Nat.reduceLT, Nat.reduceLeDiff, Nat.reduceSub, Nat.reduceBEq, reduceIte, reduceCtorEq, Int.reduceEq, Int.reduceNe, Nat.reduceBneDiff, Int.reduceLE, Int.reduceLT, Int.reduceToNat, Int.reduceAdd, Int.reduceSub, Int.reduceMul, Int.reduceNeg, T_ok3, T_agg3, T_isinfo3, T_info3, T_cells3, T_zero3, T_int3, T_ok84, T_agg84, T_isinfo84, T_info84, T_cells84, T_zero84, T_elem84, T_under84, T_len84s, T_len84n, T_len84b, T_ok92, T_agg92, T_isinfo92, T_info92, T_cells92, T_zero92, T_int92, dw, g1, List.map_nil]) | ((with_reducible refine gcall_eq (hc) ?_ ?_ ?_); (with_reducible rfl); rfl) | (with_reducible exact drawQ_true _ _ (by kernel_rfl)) | (with_reducible refine And.intro (drawQ_true _ _ (by kernel_rfl)) ?_))
theorem wdiv_one (a b : Nat) (h : b ≤ a) (hb : 0 < b) (h1 : b < 18446744073709551616) (ha : (digs BW a).length ≤ 100000000) : SoundAt Tryz.prog 101 [dw (digs BW a), dw (digs BW b)] (.tup [dw (digs BW (a / b)), dw (digs BW (a % b))]) := by
  have hd : digs BW b = [b] := by rw [digs_succ BW_2 (by omega), Nat.mod_eq_of_lt h1, Nat.div_eq_of_lt h1, digs_zero]
  have hc := wcompare_v a b (by omega) (by rw [hd]; simp)
  have g1 : (cmpW a b < 0) = False := by simp only [eq_iff_iff, iff_false]; rw [cmpW_neg]; omega
  have hs := wsmall_v a b hb h1 (by omega)
  have hr : a % b < BW := Nat.lt_trans (Nat.mod_lt _ hb) h1
  have ht := wtrim_v [a % b] (by simp [maxLen])
  rw [trim_oneW hr] at ht
  rw [hd] at hc ⊢
  have z1 : (((0 + 1 : Nat) : Int) == 1) = true := rfl
  have z2 : (((1 : Nat) : Int) == 1) = true := rfl
  refine sound_go (tb := []) 145 [.tmp 4, .tmp 5] [0, 1, 4, 5, 6, 7, 8, 9, 10, 11, 12, 13, 14, 15, 16, 17, 21, 25, 68, 82, 121] mixed Tryz.func101 rfl (by kernel_rfl) (by kernel_rfl) (by kernel_rfl) (by kernel_rfl) ?_
  repeat (first | (simp -implicitDefEqProofs only [go_sem, Nat.reduceAdd, Nat.reduceMul, Nat.reduceEqDiff, Nat.reduceLT, Nat.reduceLeDiff, Nat.reduceSub, Nat.reduceBEq, reduceIte, reduceCtorEq, Int.reduceEq, Int.reduceNe, Nat.reduceBneDiff, Int.reduceLE, Int.reduceLT, Int.reduceToNat, Int.reduceAdd, Int.reduceSub, Int.reduceMul, Int.reduceNeg, T_ok3, T_agg3, T_isinfo3, T_info3, T_cells3, T_zero3, T_int3, T_ok84, T_agg84, T_isinfo84, T_info84, T_cells84, T_zero84, T_elem84, T_under84, T_len84s, T_len84n, T_len84b, T_ok92, T_agg92, T_isinfo92, T_info92, T_cells92, T_zero92, T_int92, dw, g1, List.map_nil, List.map_cons, z1, z2]) | ((with_reducible refine gcall_eq (hc) ?_ ?_ ?_); (with_reducible rfl); rfl) | ((with_reducible refine gcall_eq (hs) ?_ ?_ ?_); (with_reducible rfl); rfl) | ((with_reducible refine gcall_eq (ht) ?_ ?_ ?_); (with_reducible rfl); rfl) | (with_reducible exact drawQ_true _ _ (by kernel_rfl)) | (with_reducible refine And.intro (drawQ_true _ _ (by kernel_rfl)) ?_))
end Go.Proofs.YtkgkebhlpjenaaaGreatDoor
