/-
  DW20, DW23, DL3, US2, DR1 (merged for the claim).
-/
import Derived.Test.YtkgkebhlpjenaaaDoorDL1
import Derived.Test.YtkgkebhlpjenaaaDoorDg
import Derived.LaidMore
import Derived.OpenShut
import Derived.Stop.Joined
import Derived.Test.YtkgkebhlpjenaaaDoorRows
import Derived.Test.YtkgkebhlpjenaaaDoorTie
import Derived.Test.YtkgkebhlpjenaaaDoorCards
import Derived.SevenTiedAt
set_option linter.unusedSimpArgs false
set_option linter.unusedVariables false
namespace Go.Proofs.YtkgkebhlpjenaaaDoor
open Go.Vl Go.RowKit Go.Dg

theorem trim_oneW {d : Nat} (h : d < BW) : trimZ [d] = digs BW d := by
  rw [trimZ_eq BW_2 [d] (by simpa using h)]; simp [val]
theorem blen_small {m : Nat} (h : m < 18446744073709551616) : blen m ≤ 64 := blen_le 64 m h
theorem u64_wrapI' (n : Int) : IntKind.u64.wrap n = n % 18446744073709551616 := by simp [IntKind.wrap, IntKind.bits, IntKind.signed]
theorem wOf_v (n : Int) (h1 : -9223372036854775808 ≤ n) (h2 : n ≤ 9223372036854775807) : SoundAt Tryd.prog 7 [.int .i64 n] (wPV n) := by
  obtain ⟨m, hm⟩ : ∃ m : Nat, m = n.natAbs := ⟨_, rfl⟩
  have hml : m < 18446744073709551616 := by omega
  have ht := wtrim_v [m] (by simp [maxLen])
  rw [trim_oneW hml] at ht
  have hL : (digs BW m).length ≤ 1000000 := Nat.le_trans ((digs_len_le BW_2 m 1).2 (by simpa using hml)) (by decide)
  have hw := fun neg => nwide_v neg m hL
  have hb : blen n.natAbs ≤ 64 := by rw [← hm]; exact blen_small hml
  by_cases hn : n < 0
  · have hn' : (n < 0) = True := by simp [hn]
    have e1 : IntKind.u64.wrap n = ((18446744073709551616 - m : Nat) : Int) := by rw [u64_wrapI']; omega
    have e2 : IntKind.u64.wrap (0 - ((18446744073709551616 - m : Nat) : Int)) = (m : Int) := by rw [u64_wrapI']; omega
    have hw1 := hw true
    have e3 : sv true m = n := by simp [sv]; omega
    rw [e3, outPV, if_neg (by omega)] at hw1
    refine sound_go (tb := []) 23 [.cell 2 23] [0, 2, 3, 4, 9] mixed Tryd.func7 rfl (by kernel_rfl) (by kernel_rfl) (by kernel_rfl) (by kernel_rfl) ?_
    repeat (first | (simp -implicitDefEqProofs only [go_sem, Nat.reduceAdd, Nat.reduceMul, Nat.reduceEqDiff, Nat.reduceLT, Nat.reduceLeDiff, Nat.reduceSub, Nat.reduceBEq, reduceIte, reduceCtorEq, Int.reduceEq, Int.reduceNe, Nat.reduceBneDiff, Int.reduceLE, Int.reduceLT, Int.reduceToNat, Int.reduceAdd, Int.reduceSub, Int.reduceMul, Int.reduceNeg, T_ok3, T_agg3, T_isinfo3, T_info3, T_cells3, T_zero3, T_int3, T_ok4, T_agg4, T_isinfo4, T_info4, T_cells4, T_zero4, T_bool4, T_ok9, T_agg9, T_isinfo9, T_info9, T_cells9, T_zero9, T_str9, T_len9t, T_ok23, T_agg23, T_isinfo23, T_info23, T_cells23, T_zero23, T_build23, T_f23_0, T_p23_0, T_f23_1, T_p23_1, T_eqs23, T_ok57, T_agg57, T_isinfo57, T_info57, T_cells57, T_zero57, T_int57, T_ok59, T_agg59, T_isinfo59, T_info59, T_cells59, T_zero59, T_elem59, T_under59, T_len59s, T_len59n, T_len59b, T_ok62, T_agg62, T_isinfo62, T_info62, T_cells62, T_zero62, T_build62, T_f62_0, T_p62_0, T_f62_1, T_p62_1, hn', e1, e2, nP, dw, wPV, List.map_cons, List.map_nil]) | ((with_reducible refine gcall_eq (ht) ?_ ?_ ?_); (with_reducible rfl); rfl) | ((with_reducible refine gcall_eq (hw1) ?_ ?_ ?_); (with_reducible rfl); rfl) | (with_reducible exact drawQ_true _ _ (by kernel_rfl)) | (with_reducible refine And.intro (drawQ_true _ _ (by kernel_rfl)) ?_))
  · have hn' : (n < 0) = False := by simp [hn]
    have e1 : IntKind.u64.wrap n = (m : Int) := by rw [u64_wrapI']; omega
    have hw1 := hw false
    have e3 : sv false m = n := by simp [sv]; omega
    rw [e3, outPV, if_neg (by omega)] at hw1
    refine sound_go (tb := []) 23 [.cell 2 23] [0, 2, 3, 4, 9] mixed Tryd.func7 rfl (by kernel_rfl) (by kernel_rfl) (by kernel_rfl) (by kernel_rfl) ?_
    repeat (first | (simp -implicitDefEqProofs only [go_sem, Nat.reduceAdd, Nat.reduceMul, Nat.reduceEqDiff, Nat.reduceLT, Nat.reduceLeDiff, Nat.reduceSub, Nat.reduceBEq, reduceIte, reduceCtorEq, Int.reduceEq, Int.reduceNe, Nat.reduceBneDiff, Int.reduceLE, Int.reduceLT, Int.reduceToNat, Int.reduceAdd, Int.reduceSub, Int.reduceMul, Int.reduceNeg, T_ok3, T_agg3, T_isinfo3, T_info3, T_cells3, T_zero3, T_int3, T_ok4, T_agg4, T_isinfo4, T_info4, T_cells4, T_zero4, T_bool4, T_ok9, T_agg9, T_isinfo9, T_info9, T_cells9, T_zero9, T_str9, T_len9t, T_ok23, T_agg23, T_isinfo23, T_info23, T_cells23, T_zero23, T_build23, T_f23_0, T_p23_0, T_f23_1, T_p23_1, T_eqs23, T_ok57, T_agg57, T_isinfo57, T_info57, T_cells57, T_zero57, T_int57, T_ok59, T_agg59, T_isinfo59, T_info59, T_cells59, T_zero59, T_elem59, T_under59, T_len59s, T_len59n, T_len59b, T_ok62, T_agg62, T_isinfo62, T_info62, T_cells62, T_zero62, T_build62, T_f62_0, T_p62_0, T_f62_1, T_p62_1, hn', e1, nP, dw, wPV, List.map_cons, List.map_nil]) | ((with_reducible refine gcall_eq (ht) ?_ ?_ ?_); (with_reducible rfl); rfl) | ((with_reducible refine gcall_eq (hw1) ?_ ?_ ?_); (with_reducible rfl); rfl) | (with_reducible exact drawQ_true _ _ (by kernel_rfl)) | (with_reducible refine And.intro (drawQ_true _ _ (by kernel_rfl)) ?_))

/-- An integer as an int, or the error. -/
def intPV (n : Int) : PV := if -9223372036854775808 ≤ n ∧ n ≤ 9223372036854775807 then .tup [.int .i64 n, .int .i64 0] else .tup [.int .i64 0, .int .i64 3]
theorem wInt_no (neg : Bool) (s : ByteArray) (h : validB neg s.data.toList = false) : SoundAt Tryd.prog 9 [.agg [.bool neg, .str s]] (.tup [.int .i64 0, .int .i64 2]) := by
  have hv := wvalid_v neg s
  rw [h] at hv
  refine sound_go (tb := []) 53 [.tmp 2, .tmp 3] [0, 1, 2, 3, 4, 7, 10, 15, 39] mixed Tryd.func9 rfl (by kernel_rfl) (by kernel_rfl) (by kernel_rfl) (by kernel_rfl) ?_
  repeat (first | (simp -implicitDefEqProofs only [go_sem, Nat.reduceAdd, Nat.reduceMul, Nat.reduceEqDiff, Nat.reduceLT, Nat.reduceLeDiff, Nat.reduceSub, Nat.reduceBEq, reduceIte, reduceCtorEq, Int.reduceEq, Int.reduceNe, Nat.reduceBneDiff, Int.reduceLE, Int.reduceLT, Int.reduceToNat, Int.reduceAdd, Int.reduceSub, Int.reduceMul, Int.reduceNeg, T_ok3, T_agg3, T_isinfo3, T_info3, T_cells3, T_zero3, T_int3, T_ok4, T_agg4, T_isinfo4, T_info4, T_cells4, T_zero4, T_bool4, T_ok9, T_agg9, T_isinfo9, T_info9, T_cells9, T_zero9, T_str9, T_len9t, T_ok23, T_agg23, T_isinfo23, T_info23, T_cells23, T_zero23, T_build23, T_f23_0, T_p23_0, T_f23_1, T_p23_1, T_eqs23, T_ok57, T_agg57, T_isinfo57, T_info57, T_cells57, T_zero57, T_int57, T_ok59, T_agg59, T_isinfo59, T_info59, T_cells59, T_zero59, T_elem59, T_under59, T_len59s, T_len59n, T_len59b, T_ok62, T_agg62, T_isinfo62, T_info62, T_cells62, T_zero62, T_build62, T_f62_0, T_p62_0, T_f62_1, T_p62_1]) | ((with_reducible refine gcall_eq (hv) ?_ ?_ ?_); (with_reducible rfl); rfl) | (with_reducible exact drawQ_true _ _ (by kernel_rfl)) | (with_reducible refine And.intro (drawQ_true _ _ (by kernel_rfl)) ?_))
theorem wInt_v (neg : Bool) (s : ByteArray) (h : validB neg s.data.toList = true) (hs : s.size ≤ 100000) : SoundAt Tryd.prog 9 [.agg [.bool neg, .str s]] (intPV (wnum neg s)) := by
  have hv := wvalid_v neg s
  rw [h] at hv
  have ho := wof_v neg s h (by omega)
  have hL := L_bnum s hs
  unfold wnum
  generalize bnum s.data.toList = m at *
  by_cases h0 : m = 0
  · subst h0
    have e : intPV (sv neg 0) = .tup [.int .i64 0, .int .i64 0] := by cases neg <;> rfl
    have h1 : (((0 : Nat) : Int) == 0) = true := rfl
    rw [e]
    refine sound_go (tb := []) 53 [.tmp 2, .tmp 3] [0, 1, 2, 3, 4, 7, 10, 15, 39] mixed Tryd.func9 rfl (by kernel_rfl) (by kernel_rfl) (by kernel_rfl) (by kernel_rfl) ?_
    repeat (first | (simp -implicitDefEqProofs only [go_sem, Nat.reduceAdd, Nat.reduceMul, Nat.reduceEqDiff, Nat.reduceLT, Nat.reduceLeDiff, Nat.reduceSub, Nat.reduceBEq, reduceIte, reduceCtorEq, Int.reduceEq, Int.reduceNe, Nat.reduceBneDiff, Int.reduceLE, Int.reduceLT, Int.reduceToNat, Int.reduceAdd, Int.reduceSub, Int.reduceMul, Int.reduceNeg, T_ok3, T_agg3, T_isinfo3, T_info3, T_cells3, T_zero3, T_int3, T_ok4, T_agg4, T_isinfo4, T_info4, T_cells4, T_zero4, T_bool4, T_ok9, T_agg9, T_isinfo9, T_info9, T_cells9, T_zero9, T_str9, T_len9t, T_ok23, T_agg23, T_isinfo23, T_info23, T_cells23, T_zero23, T_build23, T_f23_0, T_p23_0, T_f23_1, T_p23_1, T_eqs23, T_ok57, T_agg57, T_isinfo57, T_info57, T_cells57, T_zero57, T_int57, T_ok59, T_agg59, T_isinfo59, T_info59, T_cells59, T_zero59, T_elem59, T_under59, T_len59s, T_len59n, T_len59b, T_ok62, T_agg62, T_isinfo62, T_info62, T_cells62, T_zero62, T_build62, T_f62_0, T_p62_0, T_f62_1, T_p62_1, nP, dw, digs_zero, List.map_nil, List.length_nil, h1]) | ((with_reducible refine gcall_eq (hv) ?_ ?_ ?_); (with_reducible rfl); rfl) | ((with_reducible refine gcall_eq (ho) ?_ ?_ ?_); (with_reducible rfl); rfl) | (with_reducible exact drawQ_true _ _ (by kernel_rfl)) | (with_reducible refine And.intro (drawQ_true _ _ (by kernel_rfl)) ?_))
  · have hp : 0 < (digs BW m).length := List.length_pos_iff.2 (mt (digs_eq_nil BW_2).1 h0)
    have h1 : (((digs BW m).length : Int) == 0) = false := by simp only [beq_eq_false_iff_ne, ne_eq]; omega
    have hlen := digs_len_le BW_2 m 1
    rw [Nat.pow_one] at hlen
    have hg := digs_get_lt BW_2 hp
    rw [Nat.pow_zero, Nat.div_one] at hg
    by_cases hl : m < BW
    · have hl1 : ((1 : Int) < ((digs BW m).length : Int)) = False := by have := hlen.2 hl; simp only [eq_iff_iff, iff_false]; omega
      rw [Nat.mod_eq_of_lt hl] at hg
      simp only [BW] at hl
      cases neg with
      | false =>
        by_cases hbig : 9223372036854775808 ≤ m
        · have g1 : ((9223372036854775808 : Int) ≤ (m : Int)) = True := by simp only [eq_iff_iff, iff_true]; omega
          have e : intPV (sv false m) = .tup [.int .i64 0, .int .i64 3] := by rw [intPV, if_neg]; simp [sv]; omega
          rw [e]
          refine sound_go (tb := []) 53 [.tmp 2, .tmp 3] [0, 1, 2, 3, 4, 7, 10, 15, 39] mixed Tryd.func9 rfl (by kernel_rfl) (by kernel_rfl) (by kernel_rfl) (by kernel_rfl) ?_
          repeat (first | (simp -implicitDefEqProofs only [go_sem, Nat.reduceAdd, Nat.reduceMul, Nat.reduceEqDiff, Nat.reduceLT, Nat.reduceLeDiff, Nat.reduceSub, Nat.reduceBEq, reduceIte, reduceCtorEq, Int.reduceEq, Int.reduceNe, Nat.reduceBneDiff, Int.reduceLE, Int.reduceLT, Int.reduceToNat, Int.reduceAdd, Int.reduceSub, Int.reduceMul, Int.reduceNeg, T_ok3, T_agg3, T_isinfo3, T_info3, T_cells3, T_zero3, T_int3, T_ok4, T_agg4, T_isinfo4, T_info4, T_cells4, T_zero4, T_bool4, T_ok9, T_agg9, T_isinfo9, T_info9, T_cells9, T_zero9, T_str9, T_len9t, T_ok23, T_agg23, T_isinfo23, T_info23, T_cells23, T_zero23, T_build23, T_f23_0, T_p23_0, T_f23_1, T_p23_1, T_eqs23, T_ok57, T_agg57, T_isinfo57, T_info57, T_cells57, T_zero57, T_int57, T_ok59, T_agg59, T_isinfo59, T_info59, T_cells59, T_zero59, T_elem59, T_under59, T_len59s, T_len59n, T_len59b, T_ok62, T_agg62, T_isinfo62, T_info62, T_cells62, T_zero62, T_build62, T_f62_0, T_p62_0, T_f62_1, T_p62_1, nP, dw, List.length_map, h1, hl1, dw_get, hg, g1]) | ((with_reducible refine gcall_eq (hv) ?_ ?_ ?_); (with_reducible rfl); rfl) | ((with_reducible refine gcall_eq (ho) ?_ ?_ ?_); (with_reducible rfl); rfl) | (with_reducible exact drawQ_true _ _ (by kernel_rfl)) | (with_reducible refine And.intro (drawQ_true _ _ (by kernel_rfl)) ?_))
        · have g1 : ((9223372036854775808 : Int) ≤ (m : Int)) = False := by simp only [eq_iff_iff, iff_false]; omega
          have g2 : ((9223372036854775808 : Int) < (m : Int)) = False := by simp only [eq_iff_iff, iff_false]; omega
          have e : intPV (sv false m) = .tup [.int .i64 (m : Int), .int .i64 0] := by rw [intPV, if_pos (by simp [sv]; omega)]; rfl
          have w1 := wrapn (n := m) (by omega)
          rw [e]
          refine sound_go (tb := []) 53 [.tmp 2, .tmp 3] [0, 1, 2, 3, 4, 7, 10, 15, 39] mixed Tryd.func9 rfl (by kernel_rfl) (by kernel_rfl) (by kernel_rfl) (by kernel_rfl) ?_
          repeat (first | (simp -implicitDefEqProofs only [go_sem, Nat.reduceAdd, Nat.reduceMul, Nat.reduceEqDiff, Nat.reduceLT, Nat.reduceLeDiff, Nat.reduceSub, Nat.reduceBEq, reduceIte, reduceCtorEq, Int.reduceEq, Int.reduceNe, Nat.reduceBneDiff, Int.reduceLE, Int.reduceLT, Int.reduceToNat, Int.reduceAdd, Int.reduceSub, Int.reduceMul, Int.reduceNeg, T_ok3, T_agg3, T_isinfo3, T_info3, T_cells3, T_zero3, T_int3, T_ok4, T_agg4, T_isinfo4, T_info4, T_cells4, T_zero4, T_bool4, T_ok9, T_agg9, T_isinfo9, T_info9, T_cells9, T_zero9, T_str9, T_len9t, T_ok23, T_agg23, T_isinfo23, T_info23, T_cells23, T_zero23, T_build23, T_f23_0, T_p23_0, T_f23_1, T_p23_1, T_eqs23, T_ok57, T_agg57, T_isinfo57, T_info57, T_cells57, T_zero57, T_int57, T_ok59, T_agg59, T_isinfo59, T_info59, T_cells59, T_zero59, T_elem59, T_under59, T_len59s, T_len59n, T_len59b, T_ok62, T_agg62, T_isinfo62, T_info62, T_cells62, T_zero62, T_build62, T_f62_0, T_p62_0, T_f62_1, T_p62_1, nP, dw, List.length_map, h1, hl1, dw_get, hg, g1, g2, w1]) | ((with_reducible refine gcall_eq (hv) ?_ ?_ ?_); (with_reducible rfl); rfl) | ((with_reducible refine gcall_eq (ho) ?_ ?_ ?_); (with_reducible rfl); rfl) | (with_reducible exact drawQ_true _ _ (by kernel_rfl)) | (with_reducible refine And.intro (drawQ_true _ _ (by kernel_rfl)) ?_))
      | true =>
        by_cases hbig : 9223372036854775808 < m
        · have g2 : ((9223372036854775808 : Int) < (m : Int)) = True := by simp only [eq_iff_iff, iff_true]; omega
          have e : intPV (sv true m) = .tup [.int .i64 0, .int .i64 3] := by rw [intPV, if_neg]; simp [sv]; omega
          rw [e]
          refine sound_go (tb := []) 53 [.tmp 2, .tmp 3] [0, 1, 2, 3, 4, 7, 10, 15, 39] mixed Tryd.func9 rfl (by kernel_rfl) (by kernel_rfl) (by kernel_rfl) (by kernel_rfl) ?_
          repeat (first | (simp -implicitDefEqProofs only [go_sem, Nat.reduceAdd, Nat.reduceMul, Nat.reduceEqDiff, Nat.reduceLT, Nat.reduceLeDiff, Nat.reduceSub, Nat.reduceBEq, reduceIte, reduceCtorEq, Int.reduceEq, Int.reduceNe, Nat.reduceBneDiff, Int.reduceLE, Int.reduceLT, Int.reduceToNat, Int.reduceAdd, Int.reduceSub, Int.reduceMul, Int.reduceNeg, T_ok3, T_agg3, T_isinfo3, T_info3, T_cells3, T_zero3, T_int3, T_ok4, T_agg4, T_isinfo4, T_info4, T_cells4, T_zero4, T_bool4, T_ok9, T_agg9, T_isinfo9, T_info9, T_cells9, T_zero9, T_str9, T_len9t, T_ok23, T_agg23, T_isinfo23, T_info23, T_cells23, T_zero23, T_build23, T_f23_0, T_p23_0, T_f23_1, T_p23_1, T_eqs23, T_ok57, T_agg57, T_isinfo57, T_info57, T_cells57, T_zero57, T_int57, T_ok59, T_agg59, T_isinfo59, T_info59, T_cells59, T_zero59, T_elem59, T_under59, T_len59s, T_len59n, T_len59b, T_ok62, T_agg62, T_isinfo62, T_info62, T_cells62, T_zero62, T_build62, T_f62_0, T_p62_0, T_f62_1, T_p62_1, nP, dw, List.length_map, h1, hl1, dw_get, hg, g2]) | ((with_reducible refine gcall_eq (hv) ?_ ?_ ?_); (with_reducible rfl); rfl) | ((with_reducible refine gcall_eq (ho) ?_ ?_ ?_); (with_reducible rfl); rfl) | (with_reducible exact drawQ_true _ _ (by kernel_rfl)) | (with_reducible refine And.intro (drawQ_true _ _ (by kernel_rfl)) ?_))
        · have g2 : ((9223372036854775808 : Int) < (m : Int)) = False := by simp only [eq_iff_iff, iff_false]; omega
          have e : intPV (sv true m) = .tup [.int .i64 (-(m : Int)), .int .i64 0] := by rw [intPV, if_pos (by simp [sv]; omega)]; rfl
          have w1 : IntKind.i64.wrap (IntKind.u64.wrap (0 - (m : Int))) = -(m : Int) := by
            rw [u64_wrapI']; simp [IntKind.wrap, IntKind.bits, IntKind.signed]; omega
          rw [e]
          refine sound_go (tb := []) 53 [.tmp 2, .tmp 3] [0, 1, 2, 3, 4, 7, 10, 15, 39] mixed Tryd.func9 rfl (by kernel_rfl) (by kernel_rfl) (by kernel_rfl) (by kernel_rfl) ?_
          repeat (first | (simp -implicitDefEqProofs only [go_sem, Nat.reduceAdd, Nat.reduceMul, Nat.reduceEqDiff, Nat.reduceLT, Nat.reduceLeDiff, Nat.reduceSub, Nat.reduceBEq, reduceIte, reduceCtorEq, Int.reduceEq, Int.reduceNe, Nat.reduceBneDiff, Int.reduceLE, Int.reduceLT, Int.reduceToNat, Int.reduceAdd, Int.reduceSub, Int.reduceMul, Int.reduceNeg, T_ok3, T_agg3, T_isinfo3, T_info3, T_cells3, T_zero3, T_int3, T_ok4, T_agg4, T_isinfo4, T_info4, T_cells4, T_zero4, T_bool4, T_ok9, T_agg9, T_isinfo9, T_info9, T_cells9, T_zero9, T_str9, T_len9t, T_ok23, T_agg23, T_isinfo23, T_info23, T_cells23, T_zero23, T_build23, T_f23_0, T_p23_0, T_f23_1, T_p23_1, T_eqs23, T_ok57, T_agg57, T_isinfo57, T_info57, T_cells57, T_zero57, T_int57, T_ok59, T_agg59, T_isinfo59, T_info59, T_cells59, T_zero59, T_elem59, T_under59, T_len59s, T_len59n, T_len59b, T_ok62, T_agg62, T_isinfo62, T_info62, T_cells62, T_zero62, T_build62, T_f62_0, T_p62_0, T_f62_1, T_p62_1, nP, dw, List.length_map, h1, hl1, dw_get, hg, g2, w1]) | ((with_reducible refine gcall_eq (hv) ?_ ?_ ?_); (with_reducible rfl); rfl) | ((with_reducible refine gcall_eq (ho) ?_ ?_ ?_); (with_reducible rfl); rfl) | (with_reducible exact drawQ_true _ _ (by kernel_rfl)) | (with_reducible refine And.intro (drawQ_true _ _ (by kernel_rfl)) ?_))
    · have hl1 : ((1 : Int) < ((digs BW m).length : Int)) = True := by
        have := mt hlen.1 hl; simp only [eq_iff_iff, iff_true]; omega
      simp only [BW] at hl
      have e : intPV (sv neg m) = .tup [.int .i64 0, .int .i64 3] := by rw [intPV, if_neg]; cases neg <;> simp [sv] <;> omega
      rw [e]
      refine sound_go (tb := []) 53 [.tmp 2, .tmp 3] [0, 1, 2, 3, 4, 7, 10, 15, 39] mixed Tryd.func9 rfl (by kernel_rfl) (by kernel_rfl) (by kernel_rfl) (by kernel_rfl) ?_
      repeat (first | (simp -implicitDefEqProofs only [go_sem, Nat.reduceAdd, Nat.reduceMul, Nat.reduceEqDiff, Nat.reduceLT, Nat.reduceLeDiff, Nat.reduceSub, Nat.reduceBEq, reduceIte, reduceCtorEq, Int.reduceEq, Int.reduceNe, Nat.reduceBneDiff, Int.reduceLE, Int.reduceLT, Int.reduceToNat, Int.reduceAdd, Int.reduceSub, Int.reduceMul, Int.reduceNeg, T_ok3, T_agg3, T_isinfo3, T_info3, T_cells3, T_zero3, T_int3, T_ok4, T_agg4, T_isinfo4, T_info4, T_cells4, T_zero4, T_bool4, T_ok9, T_agg9, T_isinfo9, T_info9, T_cells9, T_zero9, T_str9, T_len9t, T_ok23, T_agg23, T_isinfo23, T_info23, T_cells23, T_zero23, T_build23, T_f23_0, T_p23_0, T_f23_1, T_p23_1, T_eqs23, T_ok57, T_agg57, T_isinfo57, T_info57, T_cells57, T_zero57, T_int57, T_ok59, T_agg59, T_isinfo59, T_info59, T_cells59, T_zero59, T_elem59, T_under59, T_len59s, T_len59n, T_len59b, T_ok62, T_agg62, T_isinfo62, T_info62, T_cells62, T_zero62, T_build62, T_f62_0, T_p62_0, T_f62_1, T_p62_1, nP, dw, List.length_map, h1, hl1]) | ((with_reducible refine gcall_eq (hv) ?_ ?_ ?_); (with_reducible rfl); rfl) | ((with_reducible refine gcall_eq (ho) ?_ ?_ ?_); (with_reducible rfl); rfl) | (with_reducible exact drawQ_true _ _ (by kernel_rfl)) | (with_reducible refine And.intro (drawQ_true _ _ (by kernel_rfl)) ?_))

theorem wSign_no (neg : Bool) (s : ByteArray) (h : validB neg s.data.toList = false) : SoundAt Tryd.prog 16 [.agg [.bool neg, .str s]] (.int .i64 0) := by
  have hv := wvalid_v neg s
  rw [h] at hv
  refine sound_go (tb := []) 9 [.tmp 2] [0, 1, 2, 5] mixed Tryd.func16 rfl (by kernel_rfl) (by kernel_rfl) (by kernel_rfl) (by kernel_rfl) ?_
  repeat (first | (simp -implicitDefEqProofs only [go_sem, Nat.reduceAdd, Nat.reduceMul, Nat.reduceEqDiff, Nat.reduceLT, Nat.reduceLeDiff, Nat.reduceSub, Nat.reduceBEq, reduceIte, reduceCtorEq, Int.reduceEq, Int.reduceNe, Nat.reduceBneDiff, Int.reduceLE, Int.reduceLT, Int.reduceToNat, Int.reduceAdd, Int.reduceSub, Int.reduceMul, Int.reduceNeg, T_ok4, T_agg4, T_isinfo4, T_info4, T_cells4, T_zero4, T_bool4, T_ok9, T_agg9, T_isinfo9, T_info9, T_cells9, T_zero9, T_str9, T_len9t, T_ok23, T_agg23, T_isinfo23, T_info23, T_cells23, T_zero23, T_build23, T_f23_0, T_p23_0, T_f23_1, T_p23_1, T_eqs23, T_ok57, T_agg57, T_isinfo57, T_info57, T_cells57, T_zero57, T_int57, T_ok59, T_agg59, T_isinfo59, T_info59, T_cells59, T_zero59, T_elem59, T_under59, T_len59s, T_len59n, T_len59b, T_ok62, T_agg62, T_isinfo62, T_info62, T_cells62, T_zero62, T_build62, T_f62_0, T_p62_0, T_f62_1, T_p62_1]) | ((with_reducible refine gcall_eq (hv) ?_ ?_ ?_); (with_reducible rfl); rfl) | (with_reducible exact drawQ_true _ _ (by kernel_rfl)) | (with_reducible refine And.intro (drawQ_true _ _ (by kernel_rfl)) ?_))
theorem wSign_v (neg : Bool) (s : ByteArray) (h : validB neg s.data.toList = true) (hs : s.size ≤ 100000) : SoundAt Tryd.prog 16 [.agg [.bool neg, .str s]] (.int .i64 (wnum neg s).sign) := by
  have hv := wvalid_v neg s
  rw [h] at hv
  have ho := wof_v neg s h (by omega)
  have hg := nsign_v neg (bnum s.data.toList)
  refine sound_go (tb := []) 9 [.tmp 2] [0, 1, 2, 5] mixed Tryd.func16 rfl (by kernel_rfl) (by kernel_rfl) (by kernel_rfl) (by kernel_rfl) ?_
  repeat (first | (simp -implicitDefEqProofs only [go_sem, Nat.reduceAdd, Nat.reduceMul, Nat.reduceEqDiff, Nat.reduceLT, Nat.reduceLeDiff, Nat.reduceSub, Nat.reduceBEq, reduceIte, reduceCtorEq, Int.reduceEq, Int.reduceNe, Nat.reduceBneDiff, Int.reduceLE, Int.reduceLT, Int.reduceToNat, Int.reduceAdd, Int.reduceSub, Int.reduceMul, Int.reduceNeg, T_ok4, T_agg4, T_isinfo4, T_info4, T_cells4, T_zero4, T_bool4, T_ok9, T_agg9, T_isinfo9, T_info9, T_cells9, T_zero9, T_str9, T_len9t, T_ok23, T_agg23, T_isinfo23, T_info23, T_cells23, T_zero23, T_build23, T_f23_0, T_p23_0, T_f23_1, T_p23_1, T_eqs23, T_ok57, T_agg57, T_isinfo57, T_info57, T_cells57, T_zero57, T_int57, T_ok59, T_agg59, T_isinfo59, T_info59, T_cells59, T_zero59, T_elem59, T_under59, T_len59s, T_len59n, T_len59b, T_ok62, T_agg62, T_isinfo62, T_info62, T_cells62, T_zero62, T_build62, T_f62_0, T_p62_0, T_f62_1, T_p62_1, nP, dw]) | ((with_reducible refine gcall_eq (hv) ?_ ?_ ?_); (with_reducible rfl); rfl) | ((with_reducible refine gcall_eq (ho) ?_ ?_ ?_); (with_reducible rfl); rfl) | ((with_reducible refine gcall_eq (hg) ?_ ?_ ?_); (with_reducible rfl); rfl) | (with_reducible exact drawQ_true _ _ (by kernel_rfl)) | (with_reducible refine And.intro (drawQ_true _ _ (by kernel_rfl)) ?_))
  rfl
theorem wLen_no (neg : Bool) (s : ByteArray) (h : validB neg s.data.toList = false) : SoundAt Tryd.prog 17 [.agg [.bool neg, .str s]] (.int .i64 0) := by
  have hv := wvalid_v neg s
  rw [h] at hv
  refine sound_go (tb := []) 10 [.tmp 2] [0, 1, 2, 5] mixed Tryd.func17 rfl (by kernel_rfl) (by kernel_rfl) (by kernel_rfl) (by kernel_rfl) ?_
  repeat (first | (simp -implicitDefEqProofs only [go_sem, Nat.reduceAdd, Nat.reduceMul, Nat.reduceEqDiff, Nat.reduceLT, Nat.reduceLeDiff, Nat.reduceSub, Nat.reduceBEq, reduceIte, reduceCtorEq, Int.reduceEq, Int.reduceNe, Nat.reduceBneDiff, Int.reduceLE, Int.reduceLT, Int.reduceToNat, Int.reduceAdd, Int.reduceSub, Int.reduceMul, Int.reduceNeg, T_ok4, T_agg4, T_isinfo4, T_info4, T_cells4, T_zero4, T_bool4, T_ok9, T_agg9, T_isinfo9, T_info9, T_cells9, T_zero9, T_str9, T_len9t, T_ok23, T_agg23, T_isinfo23, T_info23, T_cells23, T_zero23, T_build23, T_f23_0, T_p23_0, T_f23_1, T_p23_1, T_eqs23, T_ok57, T_agg57, T_isinfo57, T_info57, T_cells57, T_zero57, T_int57, T_ok59, T_agg59, T_isinfo59, T_info59, T_cells59, T_zero59, T_elem59, T_under59, T_len59s, T_len59n, T_len59b]) | ((with_reducible refine gcall_eq (hv) ?_ ?_ ?_); (with_reducible rfl); rfl) | (with_reducible exact drawQ_true _ _ (by kernel_rfl)) | (with_reducible refine And.intro (drawQ_true _ _ (by kernel_rfl)) ?_))
theorem wLen_v (neg : Bool) (s : ByteArray) (h : validB neg s.data.toList = true) (hs : s.size ≤ 100000) : SoundAt Tryd.prog 17 [.agg [.bool neg, .str s]] (.int .i64 (blen (bnum s.data.toList) : Int)) := by
  have hv := wvalid_v neg s
  rw [h] at hv
  have ho := wload_v s (by omega)
  rw [load_digs h] at ho
  have hg := wsize_v (bnum s.data.toList) (Nat.le_trans (L_bnum s hs) (by decide))
  refine sound_go (tb := []) 10 [.tmp 2] [0, 1, 2, 5] mixed Tryd.func17 rfl (by kernel_rfl) (by kernel_rfl) (by kernel_rfl) (by kernel_rfl) ?_
  repeat (first | (simp -implicitDefEqProofs only [go_sem, Nat.reduceAdd, Nat.reduceMul, Nat.reduceEqDiff, Nat.reduceLT, Nat.reduceLeDiff, Nat.reduceSub, Nat.reduceBEq, reduceIte, reduceCtorEq, Int.reduceEq, Int.reduceNe, Nat.reduceBneDiff, Int.reduceLE, Int.reduceLT, Int.reduceToNat, Int.reduceAdd, Int.reduceSub, Int.reduceMul, Int.reduceNeg, T_ok4, T_agg4, T_isinfo4, T_info4, T_cells4, T_zero4, T_bool4, T_ok9, T_agg9, T_isinfo9, T_info9, T_cells9, T_zero9, T_str9, T_len9t, T_ok23, T_agg23, T_isinfo23, T_info23, T_cells23, T_zero23, T_build23, T_f23_0, T_p23_0, T_f23_1, T_p23_1, T_eqs23, T_ok57, T_agg57, T_isinfo57, T_info57, T_cells57, T_zero57, T_int57, T_ok59, T_agg59, T_isinfo59, T_info59, T_cells59, T_zero59, T_elem59, T_under59, T_len59s, T_len59n, T_len59b, dw]) | ((with_reducible refine gcall_eq (hv) ?_ ?_ ?_); (with_reducible rfl); rfl) | ((with_reducible refine gcall_eq (ho) ?_ ?_ ?_); (with_reducible rfl); rfl) | ((with_reducible refine gcall_eq (hg) ?_ ?_ ?_); (with_reducible rfl); rfl) | (with_reducible exact drawQ_true _ _ (by kernel_rfl)) | (with_reducible refine And.intro (drawQ_true _ _ (by kernel_rfl)) ?_))
theorem wCompare_no (an bn : Bool) (a b : ByteArray) (h : (validB an a.data.toList && validB bn b.data.toList) = false) : SoundAt Tryd.prog 15 [.agg [.bool an, .str a], .agg [.bool bn, .str b]] (.int .i64 0) := by
  have hv := both_v an bn a b
  rw [h] at hv
  refine sound_go (tb := []) 16 [.tmp 4] [0, 1, 2, 3, 4, 8] mixed Tryd.func15 rfl (by kernel_rfl) (by kernel_rfl) (by kernel_rfl) (by kernel_rfl) ?_
  repeat (first | (simp -implicitDefEqProofs only [go_sem, Nat.reduceAdd, Nat.reduceMul, Nat.reduceEqDiff, Nat.reduceLT, Nat.reduceLeDiff, Nat.reduceSub, Nat.reduceBEq, reduceIte, reduceCtorEq, Int.reduceEq, Int.reduceNe, Nat.reduceBneDiff, Int.reduceLE, Int.reduceLT, Int.reduceToNat, Int.reduceAdd, Int.reduceSub, Int.reduceMul, Int.reduceNeg, T_ok4, T_agg4, T_isinfo4, T_info4, T_cells4, T_zero4, T_bool4, T_ok9, T_agg9, T_isinfo9, T_info9, T_cells9, T_zero9, T_str9, T_len9t, T_ok23, T_agg23, T_isinfo23, T_info23, T_cells23, T_zero23, T_build23, T_f23_0, T_p23_0, T_f23_1, T_p23_1, T_eqs23, T_ok57, T_agg57, T_isinfo57, T_info57, T_cells57, T_zero57, T_int57, T_ok59, T_agg59, T_isinfo59, T_info59, T_cells59, T_zero59, T_elem59, T_under59, T_len59s, T_len59n, T_len59b, T_ok62, T_agg62, T_isinfo62, T_info62, T_cells62, T_zero62, T_build62, T_f62_0, T_p62_0, T_f62_1, T_p62_1]) | ((with_reducible refine gcall_eq (hv) ?_ ?_ ?_); (with_reducible rfl); rfl) | (with_reducible exact drawQ_true _ _ (by kernel_rfl)) | (with_reducible refine And.intro (drawQ_true _ _ (by kernel_rfl)) ?_))
theorem wCompare_v (an bn : Bool) (a b : ByteArray) (h1 : validB an a.data.toList = true) (h2 : validB bn b.data.toList = true) (ha : a.size ≤ 100000) (hb : b.size ≤ 100000) :
    SoundAt Tryd.prog 15 [.agg [.bool an, .str a], .agg [.bool bn, .str b]] (.int .i64 (wnum an a - wnum bn b).sign) := by
  have hv := both_v an bn a b
  rw [h1, h2] at hv
  have hL1 := L_bnum a ha
  have hL2 := L_bnum b hb
  have hoa := wof_v an a h1 (by omega)
  have hob := wof_v bn b h2 (by omega)
  have hn := nneg_v bn (bnum b.data.toList)
  obtain ⟨n, m, hs, e, hm⟩ := nadd_v an (!bn) (bnum a.data.toList) (bnum b.data.toList) (by omega) (by omega)
  have hg := nsign_v n m
  have e2 : sv (!bn) (bnum b.data.toList) = -(sv bn (bnum b.data.toList)) := by cases bn <;> simp [sv]
  have e3 : sv n m = wnum an a - wnum bn b := by rw [e, e2, wnum, wnum, Int.sub_eq_add_neg]
  rw [e3] at hg
  rw [Bool.true_and] at hv
  refine sound_go (tb := []) 16 [.tmp 4] [0, 1, 2, 3, 4, 8] mixed Tryd.func15 rfl (by kernel_rfl) (by kernel_rfl) (by kernel_rfl) (by kernel_rfl) ?_
  repeat (first | (simp -implicitDefEqProofs only [go_sem, Nat.reduceAdd, Nat.reduceMul, Nat.reduceEqDiff, Nat.reduceLT, Nat.reduceLeDiff, Nat.reduceSub, Nat.reduceBEq, reduceIte, reduceCtorEq, Int.reduceEq, Int.reduceNe, Nat.reduceBneDiff, Int.reduceLE, Int.reduceLT, Int.reduceToNat, Int.reduceAdd, Int.reduceSub, Int.reduceMul, Int.reduceNeg, T_ok4, T_agg4, T_isinfo4, T_info4, T_cells4, T_zero4, T_bool4, T_ok9, T_agg9, T_isinfo9, T_info9, T_cells9, T_zero9, T_str9, T_len9t, T_ok23, T_agg23, T_isinfo23, T_info23, T_cells23, T_zero23, T_build23, T_f23_0, T_p23_0, T_f23_1, T_p23_1, T_eqs23, T_ok57, T_agg57, T_isinfo57, T_info57, T_cells57, T_zero57, T_int57, T_ok59, T_agg59, T_isinfo59, T_info59, T_cells59, T_zero59, T_elem59, T_under59, T_len59s, T_len59n, T_len59b, T_ok62, T_agg62, T_isinfo62, T_info62, T_cells62, T_zero62, T_build62, T_f62_0, T_p62_0, T_f62_1, T_p62_1, nP, dw]) | ((with_reducible refine gcall_eq (hv) ?_ ?_ ?_); (with_reducible rfl); rfl) | ((with_reducible refine gcall_eq (hoa) ?_ ?_ ?_); (with_reducible rfl); rfl) | ((with_reducible refine gcall_eq (hob) ?_ ?_ ?_); (with_reducible rfl); rfl) | ((with_reducible refine gcall_eq (hn) ?_ ?_ ?_); (with_reducible rfl); rfl) | ((with_reducible refine gcall_eq (hs) ?_ ?_ ?_); (with_reducible rfl); rfl) | ((with_reducible refine gcall_eq (hg) ?_ ?_ ?_); (with_reducible rfl); rfl) | (with_reducible exact drawQ_true _ _ (by kernel_rfl)) | (with_reducible refine And.intro (drawQ_true _ _ (by kernel_rfl)) ?_))
end Go.Proofs.YtkgkebhlpjenaaaDoor

namespace Go.Proofs.YtkgkebhlpjenaaaDoor
open Go.Vl Go.RowKit Go.Dg

theorem bnum_digs : ∀ l : List Nat, (∀ d ∈ l, d < 256) → bnum (l.reverse.map fun d => UInt8.ofNat d) = val 256 l
  | [], _ => rfl
  | d :: r, h => by
    rw [List.reverse_cons, List.map_append, List.map_cons, List.map_nil, bnum_snoc, bnum_digs r fun x hx => h x (by simp [hx])]
    rw [UInt8.toNat_ofNat_of_lt' (h d (by simp))]
    simp only [val]
    omega
theorem bnum_magL (m : Nat) : bnum (magL m) = m := by
  rw [magL, bnum_digs _ fun d hd => digs_mem_lt (by decide) hd, val_digs (by decide)]
theorem magL_bnum {neg : Bool} {l : List UInt8} (h : validB neg l = true) : magL (bnum l) = l := by
  have hv : bnum l = val 256 (l.reverse.map UInt8.toNat) := by
    have h2 := bnum_digs (l.reverse.map UInt8.toNat) (by intro d hd; obtain ⟨b, _, rfl⟩ := List.mem_map.1 hd; exact b.toNat_lt)
    rw [← h2, ← List.map_reverse, List.reverse_reverse, List.map_map]
    congr 1
    conv => lhs; rw [← List.map_id l]
    apply List.map_congr_left
    intro b _
    simp
  have ht : trimZ (l.reverse.map UInt8.toNat) = l.reverse.map UInt8.toNat := by
    refine trimZ_last ?_
    intro d hd
    cases l with
    | nil => simp at hd
    | cons b r =>
      simp at hd
      subst hd
      simp only [validB, Bool.and_eq_true] at h
      have hb : b ≠ 0 := by simpa using h.2
      intro e
      exact hb (UInt8.toNat_inj.1 (by simpa using e))
  have hd : digs 256 (bnum l) = l.reverse.map UInt8.toNat := by
    rw [hv, ← trimZ_eq (by decide) _ (by intro d hd; obtain ⟨b, _, rfl⟩ := List.mem_map.1 hd; exact b.toNat_lt), ht]
  rw [magL, hd, ← List.map_reverse, List.reverse_reverse, List.map_map]
  conv => rhs; rw [← List.map_id l]
  apply List.map_congr_left
  intro b _
  simp
theorem wnum_neg (neg : Bool) (s : ByteArray) (h : validB neg s.data.toList = true) : decide (wnum neg s < 0) = neg := by
  unfold wnum sv
  cases neg with
  | false => simp
  | true =>
    cases hl : s.data.toList with
    | nil => rw [hl] at h; simp [validB] at h
    | cons b r =>
      rw [hl] at h
      simp only [validB, Bool.and_eq_true] at h
      have hb : b.toNat ≠ 0 := fun e => by
        have : b ≠ 0 := by simpa using h.2
        exact this (UInt8.toNat_inj.1 (by simpa using e))
      have := bnum_cons b r
      have hp : 0 < b.toNat * 256 ^ r.length := Nat.mul_pos (Nat.pos_of_ne_zero hb) (Nat.pow_pos (by decide))
      simp
      omega
/-- A valid wide integer is that of its number. -/
theorem wPV_wnum (neg : Bool) (s : ByteArray) (h : validB neg s.data.toList = true) : wPV (wnum neg s) = .agg [.bool neg, .str s] := by
  have e : (wnum neg s).natAbs = bnum s.data.toList := by unfold wnum sv; cases neg <;> simp
  rw [wPV, wnum_neg neg s h, e, magL_bnum h]
theorem wnum_magL (n : Int) : wnum (decide (n < 0)) ⟨(magL n.natAbs).toArray⟩ = n := by
  unfold wnum sv
  rw [show (⟨(magL n.natAbs).toArray⟩ : ByteArray).data.toList = magL n.natAbs from rfl, bnum_magL]
  by_cases h : n < 0
  · simp [h]; omega
  · simp [h]; omega
theorem validB_magL (n : Int) (h : (digs 256 n.natAbs).length ≤ 8192) : validB (decide (n < 0)) (magL n.natAbs) = true := by
  by_cases h0 : n.natAbs = 0
  · have : n = 0 := by omega
    subst this
    simp [magL, digs_zero, validB]
  · obtain ⟨d, hd, hd2⟩ := magL_top h0
    have ht := top_digit (B := 256) (by decide) h0
    cases hl : magL n.natAbs with
    | nil =>
      have := magL_length n.natAbs
      rw [hl] at this
      exact absurd ((digs_eq_nil (by decide)).1 (List.length_eq_zero_iff.1 this.symm)) h0
    | cons b r =>
      have hlen := magL_length n.natAbs
      rw [hl] at hlen
      have hb : b = d := by
        have h3 : (⟨(magL n.natAbs).toArray⟩ : ByteArray)[0]? = (magL n.natAbs)[0]? := by
          rw [ba_get _ 0 (by show 0 < (magL n.natAbs).length; rw [hl]; simp)]
          exact (List.getElem?_eq_getElem _).symm
        rw [hd, hl] at h3
        simpa using h3.symm
      simp only [validB, Bool.and_eq_true, decide_eq_true_eq]
      refine ⟨by omega, ?_⟩
      simp only [bne_iff_ne, ne_eq]
      intro e
      rw [hb] at e
      subst e
      simp at hd2
      exact ht.1 hd2.symm
end Go.Proofs.YtkgkebhlpjenaaaDoor

namespace Go.Proofs.YtkgkebhlpjenaaaDoor
open Go.Vl Go.RowKit Go.Dg

theorem small_ok (n : Int) (k : Nat) (h : n.natAbs < 256 ^ k) : (digs E9 n.natAbs).length ≤ k ∧ (digs 256 n.natAbs).length ≤ k :=
  ⟨(digs_len_le E9_2 _ k).2 (Nat.lt_of_lt_of_le h (Nat.pow_le_pow_left (by decide) k)), (digs_len_le (by decide) _ k).2 h⟩
theorem wnum_abs (neg : Bool) (s : ByteArray) : (wnum neg s).natAbs = bnum s.data.toList := by unfold wnum sv; cases neg <;> simp
theorem wnum_lt (neg : Bool) (s : ByteArray) (k : Nat) (h : s.size ≤ k) : (wnum neg s).natAbs < 256 ^ k := by
  rw [wnum_abs]
  exact Nat.lt_of_lt_of_le (bnum_lt _ _ rfl) (Nat.pow_le_pow_right (by decide) h)
theorem e9_sum {x y : Int} {k : Nat} (hk : k ≤ 1000000) (hx : x.natAbs < 256 ^ k) (hy : y.natAbs < 256 ^ k) : (digs E9 (x.natAbs + y.natAbs)).length ≤ 1000000000 := by
  refine Nat.le_trans ((digs_len_le E9_2 _ (k + 1)).2 ?_) (show k + 1 ≤ 1000000000 by omega)
  have h : (256 : Nat) ^ k ≤ E9 ^ k := Nat.pow_le_pow_left (by decide) k
  rw [Nat.pow_succ]
  generalize 256 ^ k = K at *
  generalize E9 ^ k = M at *
  simp only [E9]
  omega
theorem sign_neg (n m : Int) : IntKind.i64.wrap (0 - (n - m).sign) = (m - n).sign := by
  rw [show m - n = -(n - m) by omega, Int.sign_neg]
  have : (n - m).sign = 1 ∨ (n - m).sign = 0 ∨ (n - m).sign = -1 := by
    rcases Int.lt_trichotomy (n - m) 0 with h | h | h
    · exact .inr (.inr (Int.sign_eq_neg_one_of_neg h))
    · rw [h]; exact .inr (.inl rfl)
    · exact .inl (Int.sign_eq_one_of_pos h)
  rcases this with h | h | h <;> rw [h] <;> rfl
set_option maxHeartbeats 4000000 in
theorem WideValid_v (an bn : Bool) (a b : ByteArray) : SoundAt Tryd.prog 4 [.agg [.bool an, .str a], .agg [.bool bn, .str b]] (.bool true) := by
  have hs := short_v [(an, a), (bn, b)] (by simp)
  simp only [List.map_cons, List.map_nil, wA, List.all_cons, List.all_nil, Bool.and_true] at hs
  have hk := known_v
  by_cases hsm : a.size ≤ 60 ∧ b.size ≤ 60
  · obtain ⟨ha, hb⟩ := hsm
    have e0 : (decide (a.size ≤ 60) && decide (b.size ≤ 60)) = true := by simp [ha, hb]
    rw [e0] at hs
    have z0 : ((0 : Int) == 0) = true := rfl
    have hx := wnum_lt an a 60 ha
    have hy := wnum_lt bn b 60 hb
    have wva := wvalid_v an a
    have wvb := wvalid_v bn b
    have rva := rvalid_v an a
    have rvb := rvalid_v bn b
    cases va : validB an a.data.toList with
    | false =>
      have c1 := wCompare_no an bn a b (by rw [va]; rfl)
      have c2 := wCompare_no bn an b a (by rw [va, Bool.and_false])
      have sg := wSign_no an a va
      have ln := wLen_no an a va
      rw [va] at wva rva
      cases vb : validB bn b.data.toList <;> rw [vb] at wvb rvb
      · refine sound_go (tb := []) 95 [.tmp 4] [0, 1, 2, 3, 4, 5, 6, 11, 24, 27, 64, 67] mixed Tryd.func4 rfl (by kernel_rfl) (by kernel_rfl) (by kernel_rfl) (by kernel_rfl) ?_
        repeat (first | (simp -implicitDefEqProofs only [go_sem, Nat.reduceAdd, Nat.reduceMul, Nat.reduceEqDiff, Nat.reduceLT, Nat.reduceLeDiff, Nat.reduceSub, Nat.reduceBEq, reduceIte, reduceCtorEq, Int.reduceEq, Int.reduceNe, Nat.reduceBneDiff, Int.reduceLE, Int.reduceLT, Int.reduceToNat, Int.reduceAdd, Int.reduceSub, Int.reduceMul, Int.reduceNeg, T_ok3, T_agg3, T_isinfo3, T_info3, T_cells3, T_zero3, T_int3, T_ok4, T_agg4, T_isinfo4, T_info4, T_cells4, T_zero4, T_bool4, T_ok9, T_agg9, T_isinfo9, T_info9, T_cells9, T_zero9, T_str9, T_len9t, T_ok23, T_agg23, T_isinfo23, T_info23, T_cells23, T_zero23, T_build23, T_f23_0, T_p23_0, T_f23_1, T_p23_1, T_eqs23, T_ok31, T_agg31, T_isinfo31, T_info31, T_cells31, T_zero31, T_elem31, T_under31, T_len31s, T_len31n, T_len31b, T_ok33, T_agg33, T_isinfo33, T_info33, T_cells33, T_zero33, T_build33, T_f33_0, T_p33_0, T_f33_1, T_p33_1, T_ok42, T_agg42, T_isinfo42, T_info42, T_cells42, T_zero42, T_elem42, T_under42, T_len42s, T_len42n, T_len42b, z0]) | ((with_reducible refine gcall_eq (hs) ?_ ?_ ?_); (with_reducible rfl); rfl) | ((with_reducible refine gcall_eq (wva) ?_ ?_ ?_); (with_reducible rfl); rfl) | ((with_reducible refine gcall_eq (rva) ?_ ?_ ?_); (with_reducible rfl); rfl) | ((with_reducible refine gcall_eq (wvb) ?_ ?_ ?_); (with_reducible rfl); rfl) | ((with_reducible refine gcall_eq (rvb) ?_ ?_ ?_); (with_reducible rfl); rfl) | ((with_reducible refine gcall_eq (c1) ?_ ?_ ?_); (with_reducible rfl); rfl) | ((with_reducible refine gcall_eq (c2) ?_ ?_ ?_); (with_reducible rfl); rfl) | ((with_reducible refine gcall_eq (sg) ?_ ?_ ?_); (with_reducible rfl); rfl) | ((with_reducible refine gcall_eq (ln) ?_ ?_ ?_); (with_reducible rfl); rfl) | ((with_reducible refine gcall_eq (hk) ?_ ?_ ?_); (with_reducible rfl); rfl) | (with_reducible exact drawQ_true _ _ (by kernel_rfl)) | (with_reducible refine And.intro (drawQ_true _ _ (by kernel_rfl)) ?_))
      · refine sound_go (tb := []) 95 [.tmp 4] [0, 1, 2, 3, 4, 5, 6, 11, 24, 27, 64, 67] mixed Tryd.func4 rfl (by kernel_rfl) (by kernel_rfl) (by kernel_rfl) (by kernel_rfl) ?_
        repeat (first | (simp -implicitDefEqProofs only [go_sem, Nat.reduceAdd, Nat.reduceMul, Nat.reduceEqDiff, Nat.reduceLT, Nat.reduceLeDiff, Nat.reduceSub, Nat.reduceBEq, reduceIte, reduceCtorEq, Int.reduceEq, Int.reduceNe, Nat.reduceBneDiff, Int.reduceLE, Int.reduceLT, Int.reduceToNat, Int.reduceAdd, Int.reduceSub, Int.reduceMul, Int.reduceNeg, T_ok3, T_agg3, T_isinfo3, T_info3, T_cells3, T_zero3, T_int3, T_ok4, T_agg4, T_isinfo4, T_info4, T_cells4, T_zero4, T_bool4, T_ok9, T_agg9, T_isinfo9, T_info9, T_cells9, T_zero9, T_str9, T_len9t, T_ok23, T_agg23, T_isinfo23, T_info23, T_cells23, T_zero23, T_build23, T_f23_0, T_p23_0, T_f23_1, T_p23_1, T_eqs23, T_ok31, T_agg31, T_isinfo31, T_info31, T_cells31, T_zero31, T_elem31, T_under31, T_len31s, T_len31n, T_len31b, T_ok33, T_agg33, T_isinfo33, T_info33, T_cells33, T_zero33, T_build33, T_f33_0, T_p33_0, T_f33_1, T_p33_1, T_ok42, T_agg42, T_isinfo42, T_info42, T_cells42, T_zero42, T_elem42, T_under42, T_len42s, T_len42n, T_len42b, z0]) | ((with_reducible refine gcall_eq (hs) ?_ ?_ ?_); (with_reducible rfl); rfl) | ((with_reducible refine gcall_eq (wva) ?_ ?_ ?_); (with_reducible rfl); rfl) | ((with_reducible refine gcall_eq (rva) ?_ ?_ ?_); (with_reducible rfl); rfl) | ((with_reducible refine gcall_eq (wvb) ?_ ?_ ?_); (with_reducible rfl); rfl) | ((with_reducible refine gcall_eq (rvb) ?_ ?_ ?_); (with_reducible rfl); rfl) | ((with_reducible refine gcall_eq (c1) ?_ ?_ ?_); (with_reducible rfl); rfl) | ((with_reducible refine gcall_eq (c2) ?_ ?_ ?_); (with_reducible rfl); rfl) | ((with_reducible refine gcall_eq (sg) ?_ ?_ ?_); (with_reducible rfl); rfl) | ((with_reducible refine gcall_eq (ln) ?_ ?_ ?_); (with_reducible rfl); rfl) | ((with_reducible refine gcall_eq (hk) ?_ ?_ ?_); (with_reducible rfl); rfl) | (with_reducible exact drawQ_true _ _ (by kernel_rfl)) | (with_reducible refine And.intro (drawQ_true _ _ (by kernel_rfl)) ?_))
    | true =>
      have hfa : SoundAt Tryd.prog 11 [.agg [.bool an, .str a]] (rI (wnum an a)) := rfrom_v an a (by omega)
      have sg := wSign_v an a va (by omega)
      have ln := wLen_v an a va (by omega)
      have rs := rsign_v (wnum an a)
      have rb := rbits_v (wnum an a) (Nat.le_trans (small_ok _ 60 hx).1 (by decide)) (Nat.le_trans (small_ok _ 60 hx).2 (by decide))
      rw [wnum_abs] at rb
      rw [va] at wva rva
      cases vb : validB bn b.data.toList with
      | false =>
        have c1 := wCompare_no an bn a b (by rw [va, vb]; rfl)
        rw [vb] at wvb rvb
        refine sound_go (tb := []) 95 [.tmp 4] [0, 1, 2, 3, 4, 5, 6, 11, 24, 27, 64, 67] mixed Tryd.func4 rfl (by kernel_rfl) (by kernel_rfl) (by kernel_rfl) (by kernel_rfl) ?_
        repeat (first | (simp -implicitDefEqProofs only [go_sem, Nat.reduceAdd, Nat.reduceMul, Nat.reduceEqDiff, Nat.reduceLT, Nat.reduceLeDiff, Nat.reduceSub, Nat.reduceBEq, reduceIte, reduceCtorEq, Int.reduceEq, Int.reduceNe, Nat.reduceBneDiff, Int.reduceLE, Int.reduceLT, Int.reduceToNat, Int.reduceAdd, Int.reduceSub, Int.reduceMul, Int.reduceNeg, T_ok3, T_agg3, T_isinfo3, T_info3, T_cells3, T_zero3, T_int3, T_ok4, T_agg4, T_isinfo4, T_info4, T_cells4, T_zero4, T_bool4, T_ok9, T_agg9, T_isinfo9, T_info9, T_cells9, T_zero9, T_str9, T_len9t, T_ok23, T_agg23, T_isinfo23, T_info23, T_cells23, T_zero23, T_build23, T_f23_0, T_p23_0, T_f23_1, T_p23_1, T_eqs23, T_ok31, T_agg31, T_isinfo31, T_info31, T_cells31, T_zero31, T_elem31, T_under31, T_len31s, T_len31n, T_len31b, T_ok33, T_agg33, T_isinfo33, T_info33, T_cells33, T_zero33, T_build33, T_f33_0, T_p33_0, T_f33_1, T_p33_1, T_ok42, T_agg42, T_isinfo42, T_info42, T_cells42, T_zero42, T_elem42, T_under42, T_len42s, T_len42n, T_len42b, z0, bne_self_eq_false, rI, di]) | ((with_reducible refine gcall_eq (hs) ?_ ?_ ?_); (with_reducible rfl); rfl) | ((with_reducible refine gcall_eq (wva) ?_ ?_ ?_); (with_reducible rfl); rfl) | ((with_reducible refine gcall_eq (rva) ?_ ?_ ?_); (with_reducible rfl); rfl) | ((with_reducible refine gcall_eq (wvb) ?_ ?_ ?_); (with_reducible rfl); rfl) | ((with_reducible refine gcall_eq (rvb) ?_ ?_ ?_); (with_reducible rfl); rfl) | ((with_reducible refine gcall_eq (c1) ?_ ?_ ?_); (with_reducible rfl); rfl) | ((with_reducible refine gcall_eq (sg) ?_ ?_ ?_); (with_reducible rfl); rfl) | ((with_reducible refine gcall_eq (ln) ?_ ?_ ?_); (with_reducible rfl); rfl) | ((with_reducible refine gcall_eq (hk) ?_ ?_ ?_); (with_reducible rfl); rfl) | ((with_reducible refine gcall_eq (hfa) ?_ ?_ ?_); (with_reducible rfl); rfl) | ((with_reducible refine gcall_eq (rs) ?_ ?_ ?_); (with_reducible rfl); rfl) | ((with_reducible refine gcall_eq (rb) ?_ ?_ ?_); (with_reducible rfl); rfl) | (with_reducible exact drawQ_true _ _ (by kernel_rfl)) | (with_reducible refine And.intro (drawQ_true _ _ (by kernel_rfl)) ?_))
      | true =>
        have hfb : SoundAt Tryd.prog 11 [.agg [.bool bn, .str b]] (rI (wnum bn b)) := rfrom_v bn b (by omega)
        have c1 := wCompare_v an bn a b va vb (by omega) (by omega)
        have c2 := wCompare_v bn an b a vb va (by omega) (by omega)
        have rc := rcompare_v (wnum an a) (wnum bn b) (e9_sum (by decide) hx hy)
        have ng := sign_neg (wnum an a) (wnum bn b)
        rw [vb] at wvb rvb
        refine sound_go (tb := []) 95 [.tmp 4] [0, 1, 2, 3, 4, 5, 6, 11, 24, 27, 64, 67] mixed Tryd.func4 rfl (by kernel_rfl) (by kernel_rfl) (by kernel_rfl) (by kernel_rfl) ?_
        repeat (first | (simp -implicitDefEqProofs only [go_sem, Nat.reduceAdd, Nat.reduceMul, Nat.reduceEqDiff, Nat.reduceLT, Nat.reduceLeDiff, Nat.reduceSub, Nat.reduceBEq, reduceIte, reduceCtorEq, Int.reduceEq, Int.reduceNe, Nat.reduceBneDiff, Int.reduceLE, Int.reduceLT, Int.reduceToNat, Int.reduceAdd, Int.reduceSub, Int.reduceMul, Int.reduceNeg, T_ok3, T_agg3, T_isinfo3, T_info3, T_cells3, T_zero3, T_int3, T_ok4, T_agg4, T_isinfo4, T_info4, T_cells4, T_zero4, T_bool4, T_ok9, T_agg9, T_isinfo9, T_info9, T_cells9, T_zero9, T_str9, T_len9t, T_ok23, T_agg23, T_isinfo23, T_info23, T_cells23, T_zero23, T_build23, T_f23_0, T_p23_0, T_f23_1, T_p23_1, T_eqs23, T_ok31, T_agg31, T_isinfo31, T_info31, T_cells31, T_zero31, T_elem31, T_under31, T_len31s, T_len31n, T_len31b, T_ok33, T_agg33, T_isinfo33, T_info33, T_cells33, T_zero33, T_build33, T_f33_0, T_p33_0, T_f33_1, T_p33_1, T_ok42, T_agg42, T_isinfo42, T_info42, T_cells42, T_zero42, T_elem42, T_under42, T_len42s, T_len42n, T_len42b, z0, bne_self_eq_false, rI, di, ng]) | ((with_reducible refine gcall_eq (hs) ?_ ?_ ?_); (with_reducible rfl); rfl) | ((with_reducible refine gcall_eq (wva) ?_ ?_ ?_); (with_reducible rfl); rfl) | ((with_reducible refine gcall_eq (rva) ?_ ?_ ?_); (with_reducible rfl); rfl) | ((with_reducible refine gcall_eq (wvb) ?_ ?_ ?_); (with_reducible rfl); rfl) | ((with_reducible refine gcall_eq (rvb) ?_ ?_ ?_); (with_reducible rfl); rfl) | ((with_reducible refine gcall_eq (c1) ?_ ?_ ?_); (with_reducible rfl); rfl) | ((with_reducible refine gcall_eq (c2) ?_ ?_ ?_); (with_reducible rfl); rfl) | ((with_reducible refine gcall_eq (sg) ?_ ?_ ?_); (with_reducible rfl); rfl) | ((with_reducible refine gcall_eq (ln) ?_ ?_ ?_); (with_reducible rfl); rfl) | ((with_reducible refine gcall_eq (hk) ?_ ?_ ?_); (with_reducible rfl); rfl) | ((with_reducible refine gcall_eq (hfa) ?_ ?_ ?_); (with_reducible rfl); rfl) | ((with_reducible refine gcall_eq (hfb) ?_ ?_ ?_); (with_reducible rfl); rfl) | ((with_reducible refine gcall_eq (rs) ?_ ?_ ?_); (with_reducible rfl); rfl) | ((with_reducible refine gcall_eq (rb) ?_ ?_ ?_); (with_reducible rfl); rfl) | ((with_reducible refine gcall_eq (rc) ?_ ?_ ?_); (with_reducible rfl); rfl) | (with_reducible exact drawQ_true _ _ (by kernel_rfl)) | (with_reducible refine And.intro (drawQ_true _ _ (by kernel_rfl)) ?_))
  · have e0 : (decide (a.size ≤ 60) && decide (b.size ≤ 60)) = false := by
      rw [Bool.and_eq_false_iff]; simp only [decide_eq_false_iff_not]; omega
    rw [e0] at hs
    refine sound_go (tb := []) 95 [.tmp 4] [0, 1, 2, 3, 4, 5, 6, 11, 24, 27, 64, 67] mixed Tryd.func4 rfl (by kernel_rfl) (by kernel_rfl) (by kernel_rfl) (by kernel_rfl) ?_
    repeat (first | (simp -implicitDefEqProofs only [go_sem, Nat.reduceAdd, Nat.reduceMul, Nat.reduceEqDiff, Nat.reduceLT, Nat.reduceLeDiff, Nat.reduceSub, Nat.reduceBEq, reduceIte, reduceCtorEq, Int.reduceEq, Int.reduceNe, Nat.reduceBneDiff, Int.reduceLE, Int.reduceLT, Int.reduceToNat, Int.reduceAdd, Int.reduceSub, Int.reduceMul, Int.reduceNeg, T_ok3, T_agg3, T_isinfo3, T_info3, T_cells3, T_zero3, T_int3, T_ok4, T_agg4, T_isinfo4, T_info4, T_cells4, T_zero4, T_bool4, T_ok9, T_agg9, T_isinfo9, T_info9, T_cells9, T_zero9, T_str9, T_len9t, T_ok23, T_agg23, T_isinfo23, T_info23, T_cells23, T_zero23, T_build23, T_f23_0, T_p23_0, T_f23_1, T_p23_1, T_eqs23, T_ok31, T_agg31, T_isinfo31, T_info31, T_cells31, T_zero31, T_elem31, T_under31, T_len31s, T_len31n, T_len31b, T_ok33, T_agg33, T_isinfo33, T_info33, T_cells33, T_zero33, T_build33, T_f33_0, T_p33_0, T_f33_1, T_p33_1, T_ok42, T_agg42, T_isinfo42, T_info42, T_cells42, T_zero42, T_elem42, T_under42, T_len42s, T_len42n, T_len42b]) | ((with_reducible refine gcall_eq (hs) ?_ ?_ ?_); (with_reducible rfl); rfl) | ((with_reducible refine gcall_eq (hk) ?_ ?_ ?_); (with_reducible rfl); rfl) | (with_reducible exact drawQ_true _ _ (by kernel_rfl)) | (with_reducible refine And.intro (drawQ_true _ _ (by kernel_rfl)) ?_))

set_option maxHeartbeats 4000000 in
theorem WideInts_v (n : Int) (h1 : -9223372036854775808 ≤ n) (h2 : n ≤ 9223372036854775807) (an : Bool) (a : ByteArray) : SoundAt Tryd.prog 3 [.int .i64 n, .agg [.bool an, .str a]] (.bool true) := by
  have hs := short_v [(an, a)] (by simp)
  simp only [List.map_cons, List.map_nil, wA, List.all_cons, List.all_nil, Bool.and_true] at hs
  have hk := known_v
  by_cases ha : a.size ≤ 60
  · have e0 : decide (a.size ≤ 60) = true := by simp [ha]
    rw [e0] at hs
    have z0 : ((0 : Int) == 0) = true := rfl
    have z1 : ((2 : Int) == 2) = true := rfl
    have z2 : ((3 : Int) == 3) = true := rfl
    have z3 : ((0 : Int) != 0) = false := rfl
    have b1 : ∀ b : Bool, (b == b) = true := fun b => by cases b <;> rfl
    have b2 := ba_self
    have hx := wnum_lt an a 60 ha
    have hof := wOf_v n h1 h2
    have hw := lw_v n h1 h2
    have hL : (digs 256 n.natAbs).length ≤ 8 := (digs_len_le (by decide) _ 8).2 (by simp only [Nat.reducePow]; omega)
    have hin := wInt_v (decide (n < 0)) ⟨(magL n.natAbs).toArray⟩ (validB_magL n (by omega)) (by rw [magL_size]; omega)
    rw [wnum_magL, intPV, if_pos ⟨h1, h2⟩] at hin
    have rva := rvalid_v an a
    cases va : validB an a.data.toList with
    | false =>
      have hia := wInt_no an a va
      rw [va] at rva
      refine sound_go (tb := []) 86 [.tmp 4] [0, 1, 3, 4, 5, 6, 7, 8, 9, 10, 11, 15, 21, 34, 42, 65] mixed Tryd.func3 rfl (by kernel_rfl) (by kernel_rfl) (by kernel_rfl) (by kernel_rfl) ?_
      repeat (first | (simp -implicitDefEqProofs only [go_sem, Nat.reduceAdd, Nat.reduceMul, Nat.reduceEqDiff, Nat.reduceLT, Nat.reduceLeDiff, Nat.reduceSub, Nat.reduceBEq, reduceIte, reduceCtorEq, Int.reduceEq, Int.reduceNe, Nat.reduceBneDiff, Int.reduceLE, Int.reduceLT, Int.reduceToNat, Int.reduceAdd, Int.reduceSub, Int.reduceMul, Int.reduceNeg, T_ok3, T_agg3, T_isinfo3, T_info3, T_cells3, T_zero3, T_int3, T_ok4, T_agg4, T_isinfo4, T_info4, T_cells4, T_zero4, T_bool4, T_ok9, T_agg9, T_isinfo9, T_info9, T_cells9, T_zero9, T_str9, T_len9t, T_ok23, T_agg23, T_isinfo23, T_info23, T_cells23, T_zero23, T_build23, T_f23_0, T_p23_0, T_f23_1, T_p23_1, T_eqs23, T_ok27, T_agg27, T_isinfo27, T_info27, T_cells27, T_zero27, T_int27, T_ok31, T_agg31, T_isinfo31, T_info31, T_cells31, T_zero31, T_elem31, T_under31, T_len31s, T_len31n, T_len31b, T_ok33, T_agg33, T_isinfo33, T_info33, T_cells33, T_zero33, T_build33, T_f33_0, T_p33_0, T_f33_1, T_p33_1, T_ok42, T_agg42, T_isinfo42, T_info42, T_cells42, T_zero42, T_elem42, T_under42, T_len42s, T_len42n, T_len42b, z0, z1, z3, bne_self_eq_false, b1, b2, wPV]) | ((with_reducible refine gcall_eq (hs) ?_ ?_ ?_); (with_reducible rfl); rfl) | ((with_reducible refine gcall_eq (hk) ?_ ?_ ?_); (with_reducible rfl); rfl) | ((with_reducible refine gcall_eq (hof) ?_ ?_ ?_); (with_reducible rfl); rfl) | ((with_reducible refine gcall_eq (hw) ?_ ?_ ?_); (with_reducible rfl); rfl) | ((with_reducible refine gcall_eq (hin) ?_ ?_ ?_); (with_reducible rfl); rfl) | ((with_reducible refine gcall_eq (hia) ?_ ?_ ?_); (with_reducible rfl); rfl) | ((with_reducible refine gcall_eq (rva) ?_ ?_ ?_); (with_reducible rfl); rfl) | (with_reducible exact drawQ_true _ _ (by kernel_rfl)) | (with_reducible refine And.intro (drawQ_true _ _ (by kernel_rfl)) ?_))
    | true =>
      have hia := wInt_v an a va (by omega)
      have hfa : SoundAt Tryd.prog 11 [.agg [.bool an, .str a]] (rI (wnum an a)) := rfrom_v an a (by omega)
      have n1 := rnum_v (-9223372036854775808) (by decide) (by decide)
      have n2 := rnum_v 9223372036854775807 (by decide) (by decide)
      have hq1 : (-9223372036854775808 : Int).natAbs < 256 ^ 60 := by decide
      have hq2 : (9223372036854775807 : Int).natAbs < 256 ^ 60 := by decide
      have rc1 := rcompare_v (wnum an a) (-9223372036854775808) (e9_sum (by decide) hx hq1)
      have rc2 := rcompare_v (wnum an a) 9223372036854775807 (e9_sum (by decide) hx hq2)
      have hpw := wPV_wnum an a va
      rw [va] at rva
      generalize wnum an a = m at *
      by_cases hlo : -9223372036854775808 ≤ m
      · have s1 : ((m - -9223372036854775808).sign < 0) = False := by
          simp only [eq_iff_iff, iff_false]; have := Int.sign_nonneg_iff.2 (show 0 ≤ m - -9223372036854775808 by omega); omega
        by_cases hhi : m ≤ 9223372036854775807
        · have s2 : (0 < (m - 9223372036854775807).sign) = False := by
            simp only [eq_iff_iff, iff_false]; have := Int.sign_nonpos_iff.2 (show m - 9223372036854775807 ≤ 0 by omega); omega
          have hw2 := lw_v m hlo hhi
          rw [hpw] at hw2
          rw [intPV, if_pos ⟨hlo, hhi⟩] at hia
          refine sound_go (tb := []) 86 [.tmp 4] [0, 1, 3, 4, 5, 6, 7, 8, 9, 10, 11, 15, 21, 34, 42, 65] mixed Tryd.func3 rfl (by kernel_rfl) (by kernel_rfl) (by kernel_rfl) (by kernel_rfl) ?_
          repeat (first | (simp -implicitDefEqProofs only [go_sem, Nat.reduceAdd, Nat.reduceMul, Nat.reduceEqDiff, Nat.reduceLT, Nat.reduceLeDiff, Nat.reduceSub, Nat.reduceBEq, reduceIte, reduceCtorEq, Int.reduceEq, Int.reduceNe, Nat.reduceBneDiff, Int.reduceLE, Int.reduceLT, Int.reduceToNat, Int.reduceAdd, Int.reduceSub, Int.reduceMul, Int.reduceNeg, T_ok3, T_agg3, T_isinfo3, T_info3, T_cells3, T_zero3, T_int3, T_ok4, T_agg4, T_isinfo4, T_info4, T_cells4, T_zero4, T_bool4, T_ok9, T_agg9, T_isinfo9, T_info9, T_cells9, T_zero9, T_str9, T_len9t, T_ok23, T_agg23, T_isinfo23, T_info23, T_cells23, T_zero23, T_build23, T_f23_0, T_p23_0, T_f23_1, T_p23_1, T_eqs23, T_ok27, T_agg27, T_isinfo27, T_info27, T_cells27, T_zero27, T_int27, T_ok31, T_agg31, T_isinfo31, T_info31, T_cells31, T_zero31, T_elem31, T_under31, T_len31s, T_len31n, T_len31b, T_ok33, T_agg33, T_isinfo33, T_info33, T_cells33, T_zero33, T_build33, T_f33_0, T_p33_0, T_f33_1, T_p33_1, T_ok42, T_agg42, T_isinfo42, T_info42, T_cells42, T_zero42, T_elem42, T_under42, T_len42s, T_len42n, T_len42b, z0, z3, bne_self_eq_false, b1, b2, wPV, s1, s2, rI, di]) | ((with_reducible refine gcall_eq (hs) ?_ ?_ ?_); (with_reducible rfl); rfl) | ((with_reducible refine gcall_eq (hk) ?_ ?_ ?_); (with_reducible rfl); rfl) | ((with_reducible refine gcall_eq (hof) ?_ ?_ ?_); (with_reducible rfl); rfl) | ((with_reducible refine gcall_eq (hw) ?_ ?_ ?_); (with_reducible rfl); rfl) | ((with_reducible refine gcall_eq (hin) ?_ ?_ ?_); (with_reducible rfl); rfl) | ((with_reducible refine gcall_eq (hia) ?_ ?_ ?_); (with_reducible rfl); rfl) | ((with_reducible refine gcall_eq (rva) ?_ ?_ ?_); (with_reducible rfl); rfl) | ((with_reducible refine gcall_eq (hfa) ?_ ?_ ?_); (with_reducible rfl); rfl) | ((with_reducible refine gcall_eq (n1) ?_ ?_ ?_); (with_reducible rfl); rfl) | ((with_reducible refine gcall_eq (n2) ?_ ?_ ?_); (with_reducible rfl); rfl) | ((with_reducible refine gcall_eq (rc1) ?_ ?_ ?_); (with_reducible rfl); rfl) | ((with_reducible refine gcall_eq (rc2) ?_ ?_ ?_); (with_reducible rfl); rfl) | ((with_reducible refine gcall_eq (hw2) ?_ ?_ ?_); (with_reducible rfl); rfl) | (with_reducible exact drawQ_true _ _ (by kernel_rfl)) | (with_reducible refine And.intro (drawQ_true _ _ (by kernel_rfl)) ?_))
        · have s2 : (0 < (m - 9223372036854775807).sign) = True := by
            simp only [eq_iff_iff, iff_true]; rw [Int.sign_eq_one_of_pos (by omega)]; decide
          rw [intPV, if_neg (by omega)] at hia
          refine sound_go (tb := []) 86 [.tmp 4] [0, 1, 3, 4, 5, 6, 7, 8, 9, 10, 11, 15, 21, 34, 42, 65] mixed Tryd.func3 rfl (by kernel_rfl) (by kernel_rfl) (by kernel_rfl) (by kernel_rfl) ?_
          repeat (first | (simp -implicitDefEqProofs only [go_sem, Nat.reduceAdd, Nat.reduceMul, Nat.reduceEqDiff, Nat.reduceLT, Nat.reduceLeDiff, Nat.reduceSub, Nat.reduceBEq, reduceIte, reduceCtorEq, Int.reduceEq, Int.reduceNe, Nat.reduceBneDiff, Int.reduceLE, Int.reduceLT, Int.reduceToNat, Int.reduceAdd, Int.reduceSub, Int.reduceMul, Int.reduceNeg, T_ok3, T_agg3, T_isinfo3, T_info3, T_cells3, T_zero3, T_int3, T_ok4, T_agg4, T_isinfo4, T_info4, T_cells4, T_zero4, T_bool4, T_ok9, T_agg9, T_isinfo9, T_info9, T_cells9, T_zero9, T_str9, T_len9t, T_ok23, T_agg23, T_isinfo23, T_info23, T_cells23, T_zero23, T_build23, T_f23_0, T_p23_0, T_f23_1, T_p23_1, T_eqs23, T_ok27, T_agg27, T_isinfo27, T_info27, T_cells27, T_zero27, T_int27, T_ok31, T_agg31, T_isinfo31, T_info31, T_cells31, T_zero31, T_elem31, T_under31, T_len31s, T_len31n, T_len31b, T_ok33, T_agg33, T_isinfo33, T_info33, T_cells33, T_zero33, T_build33, T_f33_0, T_p33_0, T_f33_1, T_p33_1, T_ok42, T_agg42, T_isinfo42, T_info42, T_cells42, T_zero42, T_elem42, T_under42, T_len42s, T_len42n, T_len42b, z0, z2, z3, bne_self_eq_false, b1, b2, wPV, s1, s2, rI, di]) | ((with_reducible refine gcall_eq (hs) ?_ ?_ ?_); (with_reducible rfl); rfl) | ((with_reducible refine gcall_eq (hk) ?_ ?_ ?_); (with_reducible rfl); rfl) | ((with_reducible refine gcall_eq (hof) ?_ ?_ ?_); (with_reducible rfl); rfl) | ((with_reducible refine gcall_eq (hw) ?_ ?_ ?_); (with_reducible rfl); rfl) | ((with_reducible refine gcall_eq (hin) ?_ ?_ ?_); (with_reducible rfl); rfl) | ((with_reducible refine gcall_eq (hia) ?_ ?_ ?_); (with_reducible rfl); rfl) | ((with_reducible refine gcall_eq (rva) ?_ ?_ ?_); (with_reducible rfl); rfl) | ((with_reducible refine gcall_eq (hfa) ?_ ?_ ?_); (with_reducible rfl); rfl) | ((with_reducible refine gcall_eq (n1) ?_ ?_ ?_); (with_reducible rfl); rfl) | ((with_reducible refine gcall_eq (n2) ?_ ?_ ?_); (with_reducible rfl); rfl) | ((with_reducible refine gcall_eq (rc1) ?_ ?_ ?_); (with_reducible rfl); rfl) | ((with_reducible refine gcall_eq (rc2) ?_ ?_ ?_); (with_reducible rfl); rfl) | (with_reducible exact drawQ_true _ _ (by kernel_rfl)) | (with_reducible refine And.intro (drawQ_true _ _ (by kernel_rfl)) ?_))
      · have s1 : ((m - -9223372036854775808).sign < 0) = True := by
          simp only [eq_iff_iff, iff_true]; rw [Int.sign_eq_neg_one_of_neg (by omega)]; decide
        rw [intPV, if_neg (by omega)] at hia
        refine sound_go (tb := []) 86 [.tmp 4] [0, 1, 3, 4, 5, 6, 7, 8, 9, 10, 11, 15, 21, 34, 42, 65] mixed Tryd.func3 rfl (by kernel_rfl) (by kernel_rfl) (by kernel_rfl) (by kernel_rfl) ?_
        repeat (first | (simp -implicitDefEqProofs only [go_sem, Nat.reduceAdd, Nat.reduceMul, Nat.reduceEqDiff, Nat.reduceLT, Nat.reduceLeDiff, Nat.reduceSub, Nat.reduceBEq, reduceIte, reduceCtorEq, Int.reduceEq, Int.reduceNe, Nat.reduceBneDiff, Int.reduceLE, Int.reduceLT, Int.reduceToNat, Int.reduceAdd, Int.reduceSub, Int.reduceMul, Int.reduceNeg, T_ok3, T_agg3, T_isinfo3, T_info3, T_cells3, T_zero3, T_int3, T_ok4, T_agg4, T_isinfo4, T_info4, T_cells4, T_zero4, T_bool4, T_ok9, T_agg9, T_isinfo9, T_info9, T_cells9, T_zero9, T_str9, T_len9t, T_ok23, T_agg23, T_isinfo23, T_info23, T_cells23, T_zero23, T_build23, T_f23_0, T_p23_0, T_f23_1, T_p23_1, T_eqs23, T_ok27, T_agg27, T_isinfo27, T_info27, T_cells27, T_zero27, T_int27, T_ok31, T_agg31, T_isinfo31, T_info31, T_cells31, T_zero31, T_elem31, T_under31, T_len31s, T_len31n, T_len31b, T_ok33, T_agg33, T_isinfo33, T_info33, T_cells33, T_zero33, T_build33, T_f33_0, T_p33_0, T_f33_1, T_p33_1, T_ok42, T_agg42, T_isinfo42, T_info42, T_cells42, T_zero42, T_elem42, T_under42, T_len42s, T_len42n, T_len42b, z0, z2, z3, bne_self_eq_false, b1, b2, wPV, s1, rI, di]) | ((with_reducible refine gcall_eq (hs) ?_ ?_ ?_); (with_reducible rfl); rfl) | ((with_reducible refine gcall_eq (hk) ?_ ?_ ?_); (with_reducible rfl); rfl) | ((with_reducible refine gcall_eq (hof) ?_ ?_ ?_); (with_reducible rfl); rfl) | ((with_reducible refine gcall_eq (hw) ?_ ?_ ?_); (with_reducible rfl); rfl) | ((with_reducible refine gcall_eq (hin) ?_ ?_ ?_); (with_reducible rfl); rfl) | ((with_reducible refine gcall_eq (hia) ?_ ?_ ?_); (with_reducible rfl); rfl) | ((with_reducible refine gcall_eq (rva) ?_ ?_ ?_); (with_reducible rfl); rfl) | ((with_reducible refine gcall_eq (hfa) ?_ ?_ ?_); (with_reducible rfl); rfl) | ((with_reducible refine gcall_eq (n1) ?_ ?_ ?_); (with_reducible rfl); rfl) | ((with_reducible refine gcall_eq (n2) ?_ ?_ ?_); (with_reducible rfl); rfl) | ((with_reducible refine gcall_eq (rc1) ?_ ?_ ?_); (with_reducible rfl); rfl) | (with_reducible exact drawQ_true _ _ (by kernel_rfl)) | (with_reducible refine And.intro (drawQ_true _ _ (by kernel_rfl)) ?_))
  · have e0 : decide (a.size ≤ 60) = false := by simp; omega
    rw [e0] at hs
    refine sound_go (tb := []) 86 [.tmp 4] [0, 1, 3, 4, 5, 6, 7, 8, 9, 10, 11, 15, 21, 34, 42, 65] mixed Tryd.func3 rfl (by kernel_rfl) (by kernel_rfl) (by kernel_rfl) (by kernel_rfl) ?_
    repeat (first | (simp -implicitDefEqProofs only [go_sem, Nat.reduceAdd, Nat.reduceMul, Nat.reduceEqDiff, Nat.reduceLT, Nat.reduceLeDiff, Nat.reduceSub, Nat.reduceBEq, reduceIte, reduceCtorEq, Int.reduceEq, Int.reduceNe, Nat.reduceBneDiff, Int.reduceLE, Int.reduceLT, Int.reduceToNat, Int.reduceAdd, Int.reduceSub, Int.reduceMul, Int.reduceNeg, T_ok3, T_agg3, T_isinfo3, T_info3, T_cells3, T_zero3, T_int3, T_ok4, T_agg4, T_isinfo4, T_info4, T_cells4, T_zero4, T_bool4, T_ok9, T_agg9, T_isinfo9, T_info9, T_cells9, T_zero9, T_str9, T_len9t, T_ok23, T_agg23, T_isinfo23, T_info23, T_cells23, T_zero23, T_build23, T_f23_0, T_p23_0, T_f23_1, T_p23_1, T_eqs23, T_ok27, T_agg27, T_isinfo27, T_info27, T_cells27, T_zero27, T_int27, T_ok31, T_agg31, T_isinfo31, T_info31, T_cells31, T_zero31, T_elem31, T_under31, T_len31s, T_len31n, T_len31b, T_ok33, T_agg33, T_isinfo33, T_info33, T_cells33, T_zero33, T_build33, T_f33_0, T_p33_0, T_f33_1, T_p33_1, T_ok42, T_agg42, T_isinfo42, T_info42, T_cells42, T_zero42, T_elem42, T_under42, T_len42s, T_len42n, T_len42b]) | ((with_reducible refine gcall_eq (hs) ?_ ?_ ?_); (with_reducible rfl); rfl) | ((with_reducible refine gcall_eq (hk) ?_ ?_ ?_); (with_reducible rfl); rfl) | (with_reducible exact drawQ_true _ _ (by kernel_rfl)) | (with_reducible refine And.intro (drawQ_true _ _ (by kernel_rfl)) ?_))
end Go.Proofs.YtkgkebhlpjenaaaDoor

namespace Go.Vl
open Go.RowKit

section
variable {H : Type} {enc : TypeId × Value → H}
/-- A law, over all that it can be given; what is listed of variables is not looked at. -/
theorem law_lifted_laid {a : Assume} {C : Checked} {os : Os} {f : FuncId} {fn : Func} {s : ChangeSpec} {conds : List PathCond} {apart fresh handsOn again : Bool} {tb : TypeId} {L : List (String × DataW Unit)} (tts : List TT)
    (own : ownKnob C.prog.godebug = none) (started : os.Started) (noInit : C.prog.inits.idxOf? f = none) (hfn : C.prog.funcs[f]? = some fn)
    (witness : ∃ (w : World) (tape : Tape) (i : Input), w.os = os ∧ (w.forCall tape i).Shaped C.prog ∧ i.vars = [] ∧ Input.okWide C.prog (w.forCall tape i) .any w.heap.size f i ∧
      ((s.pre enc C.prog fn conds apart (w.forCall tape i).memory i.args ∧ laidMetH C.prog L (w.forCall tape i).memory) ∧ sizedMet enc C.prog fn (OpenSpec.ofChange s) apart (w.forCall tape i).memory i.args) ∧ a.holds C.prog (lone (Frame.enter C.prog f i.args .normal) [] (w.forCall tape i)))
    (hl : laidOutB C.prog = true) (hvars : s.vars = []) (hres : fn.resultTypes = #[tb]) (hbool : C.prog.underlying tb = some .bool) (hts : (fn.params.toList.all fun t => C.prog.readableRec t && decide (t < C.prog.types.size)) = true)
    (hfit : fitsAll C.prog tts fn.params.toList = true) (hs : ∀ ds : List (DataW H), ds.length = tts.length → s.fn H ds = { results := [.lit (.bool true)], args := ds })
    (hcl : callable C.prog f = true) (law : ∀ pvs, HasArgs tts pvs → SoundAt C.prog f pvs (.bool true)) :
    ReturnsInHanded a C os f .any (fun w args => (s.pre enc C.prog fn conds apart w args ∧ laidMetH C.prog L w) ∧ sizedMet enc C.prog fn (OpenSpec.ofChange s) apart w args) (s.post enc C.prog fn apart fresh handsOn again) := by
  refine returnsInHanded_of_change_and (X := fun w _ => laidMetH C.prog L w) (fun _ _ _ hh h => h.of_heap hh) own started noInit hfn witness ?_
  intro W base args ds gs before hval hW _ _ _ _
  have hW' := hW
  obtain ⟨p, q, hA, hV, rfl, hz, hn⟩ := hW
  rw [hvars] at hV
  obtain ⟨rfl, rfl⟩ := ChangeShapes.trodVars_none hV
  obtain ⟨pvs, h1, h2, h3⟩ := args_rep tts fn.params.toList args.toList ds p hfit (fun j t v e1 e2 => hval j t v (by simpa using e1) (by simpa using e2)) hA
  have hts' : ∀ t ∈ fn.params.toList, C.prog.readableRec t = true ∧ t < C.prog.types.size := by
    intro t ht
    have := List.all_eq_true.1 hts t ht
    simpa using this
  have hcall := ((law pvs h1).resolve_right (fun x => by rw [hcl] at x; cases x.1)).2 W (exIm W) args.toList h2 (fun g j x => x)
  refine (by simpa using hcall : Calls C.prog f args W _).mono ?_
  rintro e W' ⟨v, rfl, hb, hr⟩
  have hv : v = .bool true := by cases hr; rfl
  subst hv
  exact ⟨_, rfl, post_of_law hl hvars hres hbool hts' hW' (by rw [List.append_nil]; exact hs ds h3) hb⟩
end
end Go.Vl

namespace Go.Proofs.YtkgkebhlpjenaaaDoor
open Go.Vl Go.RowKit

theorem own : ownKnob Tryd.prog.godebug = none := by kernel_rfl
theorem laidOut : laidOutB Tryd.prog = true := by kernel_rfl
def laidL : List (String × DataW Unit) := [("math/bits.deBruijn32tab", Rows.laid_math_bits_deBruijn32tab), ("math/bits.deBruijn64tab", Rows.laid_math_bits_deBruijn64tab), ("internal/strconv.uint64pow10", Rows.laid_internal_strconv_uint64pow10), ("strconv.ErrRange", Rows.laid_strconv_ErrRange), ("strconv.ErrSyntax", Rows.laid_strconv_ErrSyntax)]
theorem door_met (os : Os) (args : Array Value) : laidMetH Tryd.prog laidL ((World.doorLaid Tryd.prog 62 os).forCall (fun _ _ => 0) ⟨#[], args, []⟩).memory :=
  laidMetH_of_parts3 (fuel := 8) (laidMet_of_run' 8 (by kernel_rfl) (by kernel_rfl)) (by kernel_rfl) (by kernel_rfl)
def wideT : TT := .agg [.bool, .str]
theorem wideT_inv {c : List PV} (h : HasTT wideT c) : ∃ (n : Bool) (s : ByteArray), wideT.mk c = .agg [.bool n, .str s] ∧ s.size ≤ maxLen := by
  simp only [wideT, HasTT, HasTTs] at h
  obtain ⟨_, _, rfl, ⟨n, rfl⟩, _, _, rfl, ⟨s, rfl, hs⟩, rfl⟩ := h
  exact ⟨n, s, rfl, hs⟩
theorem intT_inv {k : IntKind} {c : List PV} (h : HasTT (.int k) c) : ∃ n : Int, TT.mk (.int k) c = .int k n ∧ (Lit.int k n).wf = true := by
  simp only [HasTT] at h
  obtain ⟨x, rfl, hx⟩ := h
  exact ⟨x, rfl, hx⟩
theorem i64_bounds {n : Int} (h : (Lit.int .i64 n).wf = true) : -9223372036854775808 ≤ n ∧ n ≤ 9223372036854775807 := by
  have := h
  simp [Lit.wf, IntKind.min, IntKind.max, IntKind.signed, IntKind.bits] at this
  omega
theorem boolT_inv {c : List PV} (h : HasTT .bool c) : ∃ b : Bool, TT.mk .bool c = .bool b := by
  simp only [HasTT] at h
  obtain ⟨b, rfl⟩ := h
  exact ⟨b, rfl⟩
theorem strT_inv {c : List PV} (h : HasTT .str c) : ∃ s : ByteArray, TT.mk .str c = .str s ∧ s.size ≤ maxLen := by
  simp only [HasTT] at h
  obtain ⟨s, rfl, hs⟩ := h
  exact ⟨s, rfl, hs⟩
def ratioT : TT := .agg [.bool, .str, .bool, .str]
theorem ratioT_inv {c : List PV} (h : HasTT ratioT c) : ∃ (n : Bool) (s : ByteArray) (m : Bool) (t : ByteArray), ratioT.mk c = .agg [.bool n, .str s, .bool m, .str t] ∧ s.size ≤ maxLen := by
  simp only [ratioT, HasTT, HasTTs] at h
  obtain ⟨_, _, rfl, ⟨n, rfl⟩, _, _, rfl, ⟨s, rfl, hs⟩, _, _, rfl, ⟨m, rfl⟩, _, _, rfl, ⟨t, rfl, ht⟩, rfl⟩ := h
  exact ⟨n, s, m, t, rfl, hs⟩
def zeroRatio : Value := .agg #[.bool false, .string ⟨#[]⟩, .bool false, .string ⟨#[]⟩]
def zeroWide : Value := .agg #[.bool false, .string ⟨#[]⟩]
end Go.Proofs.YtkgkebhlpjenaaaDoor
