/-
  ZW32, ZA11 (merged for the claim).
-/
import Derived.Test.YtkgkebhlpjenaaaGreatDoorZW31
import Derived.Test.YtkgkebhlpjenaaaGreatDoorDt
import Derived.Test.YtkgkebhlpjenaaaGreatDoorDe4
set_option linter.unusedSimpArgs false
set_option linter.unusedVariables false
namespace Go.Proofs.YtkgkebhlpjenaaaGreatDoor
open Go.Vl Go.RowKit Go.Dg

theorem magL_nil (n : Int) : (magL n.natAbs = []) ↔ n = 0 := by
  have h := magL_length n.natAbs
  constructor
  · intro e
    rw [e] at h
    have := (digs_eq_nil (B := 256) (by decide)).1 (List.length_eq_zero_iff.1 h.symm)
    omega
  · rintro rfl; simp [magL, digs_zero]
theorem wRatioOf_v (n d : Int) (h1 : -9223372036854775808 ≤ n) (h2 : n ≤ 9223372036854775807) (h3 : -9223372036854775808 ≤ d) (h4 : d ≤ 9223372036854775807) (h0 : d ≠ 0) : SoundAt Tryz.prog 24 [.int .i64 n, .int .i64 d] (outQ (lowN n d) (lowD n d)) := by
  have o1 := wOf_v n h1 h2
  have o2 := wOf_v d h3 h4
  have hL1 : (digs 256 n.natAbs).length ≤ 8 := (digs_len_le (by decide) _ 8).2 (by simp only [Nat.reducePow]; omega)
  have hL2 : (digs 256 d.natAbs).length ≤ 8 := (digs_len_le (by decide) _ 8).2 (by simp only [Nat.reducePow]; omega)
  have hr := wRatio_v (decide (n < 0)) (decide (d < 0)) ⟨(magL n.natAbs).toArray⟩ ⟨(magL d.natAbs).toArray⟩ (validB_magL n (by omega)) (validB_magL d (by omega)) (fun e => h0 ((magL_nil d).1 e)) (by rw [magL_size]; omega) (by rw [magL_size]; omega)
  rw [wnum_magL, wnum_magL] at hr
  generalize lowN n d = N at *
  generalize lowD n d = D at *
  cases hB : big N D with
  | true =>
    rw [outQ_t hB] at hr ⊢
    refine sound_go (tb := []) 13 [.cell 4 42, .tmp 5] [0, 1, 4, 5] mixed Tryz.func24 rfl (by kernel_rfl) (by kernel_rfl) (by kernel_rfl) (by kernel_rfl) ?_
    repeat (first | (simp -implicitDefEqProofs only [go_sem, Nat.reduceAdd, Nat.reduceMul, Nat.reduceEqDiff, Nat.reduceLT, Nat.reduceLeDiff, Nat.reduceSub, Nat.reduceBEq, reduceIte, reduceCtorEq, Int.reduceEq, Int.reduceNe, Nat.reduceBneDiff, Int.reduceLE, Int.reduceLT, Int.reduceToNat, Int.reduceAdd, Int.reduceSub, Int.reduceMul, Int.reduceNeg, T_ok3, T_agg3, T_isinfo3, T_info3, T_cells3, T_zero3, T_int3, T_ok4, T_agg4, T_isinfo4, T_info4, T_cells4, T_zero4, T_bool4, T_ok9, T_agg9, T_isinfo9, T_info9, T_cells9, T_zero9, T_str9, T_len9t, T_ok23, T_agg23, T_isinfo23, T_info23, T_cells23, T_zero23, T_build23, T_f23_0, T_p23_0, T_f23_1, T_p23_1, T_eqs23, T_ok42, T_agg42, T_isinfo42, T_info42, T_cells42, T_zero42, T_build42, T_f42_0, T_p42_0, T_f42_1, T_p42_1, T_eqs42, wPV, noRat]) | ((with_reducible refine gcall_eq (o1) ?_ ?_ ?_); (with_reducible rfl); rfl) | ((with_reducible refine gcall_eq (o2) ?_ ?_ ?_); (with_reducible rfl); rfl) | ((with_reducible refine gcall_eq (hr) ?_ ?_ ?_); (with_reducible rfl); rfl) | (with_reducible exact drawQ_true _ _ (by kernel_rfl)) | (with_reducible refine And.intro (drawQ_true _ _ (by kernel_rfl)) ?_))
  | false =>
    rw [outQ_f hB] at hr ⊢
    refine sound_go (tb := []) 13 [.cell 4 42, .tmp 5] [0, 1, 4, 5] mixed Tryz.func24 rfl (by kernel_rfl) (by kernel_rfl) (by kernel_rfl) (by kernel_rfl) ?_
    repeat (first | (simp -implicitDefEqProofs only [go_sem, Nat.reduceAdd, Nat.reduceMul, Nat.reduceEqDiff, Nat.reduceLT, Nat.reduceLeDiff, Nat.reduceSub, Nat.reduceBEq, reduceIte, reduceCtorEq, Int.reduceEq, Int.reduceNe, Nat.reduceBneDiff, Int.reduceLE, Int.reduceLT, Int.reduceToNat, Int.reduceAdd, Int.reduceSub, Int.reduceMul, Int.reduceNeg, T_ok3, T_agg3, T_isinfo3, T_info3, T_cells3, T_zero3, T_int3, T_ok4, T_agg4, T_isinfo4, T_info4, T_cells4, T_zero4, T_bool4, T_ok9, T_agg9, T_isinfo9, T_info9, T_cells9, T_zero9, T_str9, T_len9t, T_ok23, T_agg23, T_isinfo23, T_info23, T_cells23, T_zero23, T_build23, T_f23_0, T_p23_0, T_f23_1, T_p23_1, T_eqs23, T_ok42, T_agg42, T_isinfo42, T_info42, T_cells42, T_zero42, T_build42, T_f42_0, T_p42_0, T_f42_1, T_p42_1, T_eqs42, wPV, ratPV]) | ((with_reducible refine gcall_eq (o1) ?_ ?_ ?_); (with_reducible rfl); rfl) | ((with_reducible refine gcall_eq (o2) ?_ ?_ ?_); (with_reducible rfl); rfl) | ((with_reducible refine gcall_eq (hr) ?_ ?_ ?_); (with_reducible rfl); rfl) | (with_reducible exact drawQ_true _ _ (by kernel_rfl)) | (with_reducible refine And.intro (drawQ_true _ _ (by kernel_rfl)) ?_))
theorem wRatioOf_zero (n : Int) (h1 : -9223372036854775808 ≤ n) (h2 : n ≤ 9223372036854775807) : SoundAt Tryz.prog 24 [.int .i64 n, .int .i64 0] (noRat 3) := by
  have o1 := wOf_v n h1 h2
  have o2 := wOf_v 0 (by decide) (by decide)
  have hL1 : (digs 256 n.natAbs).length ≤ 8 := (digs_len_le (by decide) _ 8).2 (by simp only [Nat.reducePow]; omega)
  have hr := wRatio_zero (decide (n < 0)) (decide ((0 : Int) < 0)) ⟨(magL n.natAbs).toArray⟩ ⟨(magL (0 : Int).natAbs).toArray⟩ (validB_magL n (by omega)) (validB_magL 0 (by simp [digs_zero])) ((magL_nil 0).2 rfl)
  refine sound_go (tb := []) 13 [.cell 4 42, .tmp 5] [0, 1, 4, 5] mixed Tryz.func24 rfl (by kernel_rfl) (by kernel_rfl) (by kernel_rfl) (by kernel_rfl) ?_
  repeat (first | (simp -implicitDefEqProofs only [go_sem, Nat.reduceAdd, Nat.reduceMul, Nat.reduceEqDiff, Nat.reduceLT, Nat.reduceLeDiff, Nat.reduceSub, Nat.reduceBEq, reduceIte, reduceCtorEq, Int.reduceEq, Int.reduceNe, Nat.reduceBneDiff, Int.reduceLE, Int.reduceLT, Int.reduceToNat, Int.reduceAdd, Int.reduceSub, Int.reduceMul, Int.reduceNeg, T_ok3, T_agg3, T_isinfo3, T_info3, T_cells3, T_zero3, T_int3, T_ok4, T_agg4, T_isinfo4, T_info4, T_cells4, T_zero4, T_bool4, T_ok9, T_agg9, T_isinfo9, T_info9, T_cells9, T_zero9, T_str9, T_len9t, T_ok23, T_agg23, T_isinfo23, T_info23, T_cells23, T_zero23, T_build23, T_f23_0, T_p23_0, T_f23_1, T_p23_1, T_eqs23, T_ok42, T_agg42, T_isinfo42, T_info42, T_cells42, T_zero42, T_build42, T_f42_0, T_p42_0, T_f42_1, T_p42_1, T_eqs42, wPV, noRat]) | ((with_reducible refine gcall_eq (o1) ?_ ?_ ?_); (with_reducible rfl); rfl) | ((with_reducible refine gcall_eq (o2) ?_ ?_ ?_); (with_reducible rfl); rfl) | ((with_reducible refine gcall_eq (hr) ?_ ?_ ?_); (with_reducible rfl); rfl) | (with_reducible exact drawQ_true _ _ (by kernel_rfl)) | (with_reducible refine And.intro (drawQ_true _ _ (by kernel_rfl)) ?_))
theorem vRat_parts {n m : Bool} {s t : ByteArray} (h : vRat n s m t = true) : validB n s.data.toList = true ∧ validB m t.data.toList = true ∧ m = false ∧ t.data.toList ≠ [] := by
  simp only [vRat, Bool.and_eq_true] at h
  refine ⟨h.1, h.2.1, by simpa using h.2.2.1, by simpa using h.2.2.2⟩
theorem sumL (x y m : Nat) (hm : m ≤ x + y) (k : Nat) (h1 : (digs BW x).length ≤ k) (h2 : (digs BW y).length ≤ k) : (digs BW m).length ≤ k + 1 := L_addW x y m k hm h1 h2
theorem wcrossed_v (n1 m1 n2 m2 : Bool) (s1 t1 s2 t2 : ByteArray) (hv1 : vRat n1 s1 m1 t1 = true) (hv2 : vRat n2 s2 m2 t2 = true) (a1 : s1.size ≤ 100000) (a2 : t1.size ≤ 100000) (a3 : s2.size ≤ 100000) (a4 : t2.size ≤ 100000) :
    SoundAt Tryz.prog 82 [.agg [.bool n1, .str s1, .bool m1, .str t1], .agg [.bool n2, .str s2, .bool m2, .str t2]]
      (.tup [nP (!(n1 == m2)) (bnum s1.data.toList * bnum t2.data.toList), nP (!(n2 == m1)) (bnum s2.data.toList * bnum t1.data.toList), nP (!(m1 == m2)) (bnum t1.data.toList * bnum t2.data.toList)]) := by
  obtain ⟨p1, p2, _, _⟩ := vRat_parts hv1
  obtain ⟨p3, p4, _, _⟩ := vRat_parts hv2
  have o1 := wof_v n1 s1 p1 (by omega)
  have o2 := wof_v m1 t1 p2 (by omega)
  have o3 := wof_v n2 s2 p3 (by omega)
  have o4 := wof_v m2 t2 p4 (by omega)
  have l1 := L_bnum s1 a1
  have l2 := L_bnum t1 a2
  have l3 := L_bnum s2 a3
  have l4 := L_bnum t2 a4
  have x1 := nmul_v n1 m2 (bnum s1.data.toList) (bnum t2.data.toList) (by omega)
  have x2 := nmul_v n2 m1 (bnum s2.data.toList) (bnum t1.data.toList) (by omega)
  have x3 := nmul_v m1 m2 (bnum t1.data.toList) (bnum t2.data.toList) (by omega)
  generalize (!(n1 == m2)) = b1 at *
  generalize (!(n2 == m1)) = b2 at *
  generalize (!(m1 == m2)) = b3 at *
  refine sound_go (tb := []) 28 [.cell 4 86, .cell 5 86, .cell 6 86] [0, 1, 2, 3, 4, 5, 6] mixed Tryz.func82 rfl (by kernel_rfl) (by kernel_rfl) (by kernel_rfl) (by kernel_rfl) ?_
  repeat (first | (simp -implicitDefEqProofs only [go_sem, Nat.reduceAdd, Nat.reduceMul, Nat.reduceEqDiff, Nat.reduceLT, Nat.reduceLeDiff, Nat.reduceSub, Nat.reduceBEq, reduceIte, reduceCtorEq, Int.reduceEq, Int.reduceNe, Nat.reduceBneDiff, Int.reduceLE, Int.reduceLT, Int.reduceToNat, Int.reduceAdd, Int.reduceSub, Int.reduceMul, Int.reduceNeg, T_ok4, T_agg4, T_isinfo4, T_info4, T_cells4, T_zero4, T_bool4, T_ok9, T_agg9, T_isinfo9, T_info9, T_cells9, T_zero9, T_str9, T_len9t, T_ok23, T_agg23, T_isinfo23, T_info23, T_cells23, T_zero23, T_build23, T_f23_0, T_p23_0, T_f23_1, T_p23_1, T_eqs23, T_ok42, T_agg42, T_isinfo42, T_info42, T_cells42, T_zero42, T_build42, T_f42_0, T_p42_0, T_f42_1, T_p42_1, T_eqs42, T_ok84, T_agg84, T_isinfo84, T_info84, T_cells84, T_zero84, T_elem84, T_under84, T_len84s, T_len84n, T_len84b, T_ok86, T_agg86, T_isinfo86, T_info86, T_cells86, T_zero86, T_build86, T_f86_0, T_p86_0, T_f86_1, T_p86_1, T_ok92, T_agg92, T_isinfo92, T_info92, T_cells92, T_zero92, T_int92, nP, dw]) | ((with_reducible refine gcall_eq (o1) ?_ ?_ ?_); (with_reducible rfl); rfl) | ((with_reducible refine gcall_eq (o2) ?_ ?_ ?_); (with_reducible rfl); rfl) | ((with_reducible refine gcall_eq (o3) ?_ ?_ ?_); (with_reducible rfl); rfl) | ((with_reducible refine gcall_eq (o4) ?_ ?_ ?_); (with_reducible rfl); rfl) | ((with_reducible refine gcall_eq (x1) ?_ ?_ ?_); (with_reducible rfl); rfl) | ((with_reducible refine gcall_eq (x2) ?_ ?_ ?_); (with_reducible rfl); rfl) | ((with_reducible refine gcall_eq (x3) ?_ ?_ ?_); (with_reducible rfl); rfl) | (with_reducible exact drawQ_true _ _ (by kernel_rfl)) | (with_reducible refine And.intro (drawQ_true _ _ (by kernel_rfl)) ?_))
theorem wCompareRatio_no (n1 m1 n2 m2 : Bool) (s1 t1 s2 t2 : ByteArray) (h : (vRat n1 s1 m1 t1 && vRat n2 s2 m2 t2) = false) (a2 : t1.size ≤ 100000) (a4 : t2.size ≤ 100000) :
    SoundAt Tryz.prog 35 [.agg [.bool n1, .str s1, .bool m1, .str t1], .agg [.bool n2, .str s2, .bool m2, .str t2]] (.tup [.int .i64 0, .int .i64 2]) := by
  have hp := wpair_v n1 m1 n2 m2 s1 t1 s2 t2 a2 a4
  rw [h] at hp
  refine sound_go (tb := []) 25 [.tmp 4, .tmp 5] [0, 1, 2, 3, 4, 5, 6, 7, 12] mixed Tryz.func35 rfl (by kernel_rfl) (by kernel_rfl) (by kernel_rfl) (by kernel_rfl) ?_
  repeat (first | (simp -implicitDefEqProofs only [go_sem, Nat.reduceAdd, Nat.reduceMul, Nat.reduceEqDiff, Nat.reduceLT, Nat.reduceLeDiff, Nat.reduceSub, Nat.reduceBEq, reduceIte, reduceCtorEq, Int.reduceEq, Int.reduceNe, Nat.reduceBneDiff, Int.reduceLE, Int.reduceLT, Int.reduceToNat, Int.reduceAdd, Int.reduceSub, Int.reduceMul, Int.reduceNeg, T_ok4, T_agg4, T_isinfo4, T_info4, T_cells4, T_zero4, T_bool4, T_ok9, T_agg9, T_isinfo9, T_info9, T_cells9, T_zero9, T_str9, T_len9t, T_ok23, T_agg23, T_isinfo23, T_info23, T_cells23, T_zero23, T_build23, T_f23_0, T_p23_0, T_f23_1, T_p23_1, T_eqs23, T_ok42, T_agg42, T_isinfo42, T_info42, T_cells42, T_zero42, T_build42, T_f42_0, T_p42_0, T_f42_1, T_p42_1, T_eqs42, T_ok84, T_agg84, T_isinfo84, T_info84, T_cells84, T_zero84, T_elem84, T_under84, T_len84s, T_len84n, T_len84b, T_ok86, T_agg86, T_isinfo86, T_info86, T_cells86, T_zero86, T_build86, T_f86_0, T_p86_0, T_f86_1, T_p86_1, T_ok92, T_agg92, T_isinfo92, T_info92, T_cells92, T_zero92, T_int92]) | ((with_reducible refine gcall_eq (hp) ?_ ?_ ?_); (with_reducible rfl); rfl) | (with_reducible exact drawQ_true _ _ (by kernel_rfl)) | (with_reducible refine And.intro (drawQ_true _ _ (by kernel_rfl)) ?_))
theorem wCompareRatio_v (n1 m1 n2 m2 : Bool) (s1 t1 s2 t2 : ByteArray) (hv1 : vRat n1 s1 m1 t1 = true) (hv2 : vRat n2 s2 m2 t2 = true) (a1 : s1.size ≤ 100000) (a2 : t1.size ≤ 100000) (a3 : s2.size ≤ 100000) (a4 : t2.size ≤ 100000) :
    SoundAt Tryz.prog 35 [.agg [.bool n1, .str s1, .bool m1, .str t1], .agg [.bool n2, .str s2, .bool m2, .str t2]] (.tup [.int .i64 (wnum n1 s1 * wnum m2 t2 - wnum n2 s2 * wnum m1 t1).sign, .int .i64 0]) := by
  have hp := wpair_v n1 m1 n2 m2 s1 t1 s2 t2 a2 a4
  rw [hv1, hv2, Bool.true_and] at hp
  have hc := wcrossed_v n1 m1 n2 m2 s1 t1 s2 t2 hv1 hv2 a1 a2 a3 a4
  have l1 := L_bnum s1 a1
  have l2 := L_bnum t1 a2
  have l3 := L_bnum s2 a3
  have l4 := L_bnum t2 a4
  have q1 := mulL (bnum s1.data.toList) (bnum t2.data.toList)
  have q2 := mulL (bnum s2.data.toList) (bnum t1.data.toList)
  have hn := nneg_v (!(n2 == m1)) (bnum s2.data.toList * bnum t1.data.toList)
  obtain ⟨n, m, hs, e, hm⟩ := nadd_v (!(n1 == m2)) (!(!(n2 == m1))) (bnum s1.data.toList * bnum t2.data.toList) (bnum s2.data.toList * bnum t1.data.toList) (by omega) (by omega)
  have hg := nsign_v n m
  have e3 : sv n m = wnum n1 s1 * wnum m2 t2 - wnum n2 s2 * wnum m1 t1 := by
    have flip : ∀ (b : Bool) (m : Nat), sv (!b) m = -(sv b m) := by intro b m; cases b <;> simp [sv]
    rw [e, flip (!(n2 == m1)), mul_sv, mul_sv, Int.sub_eq_add_neg]; rfl
  rw [e3] at hg
  generalize (!(n1 == m2)) = b1 at *
  generalize (!(n2 == m1)) = b2 at *
  generalize (!(m1 == m2)) = b3 at *
  generalize (!b2) = b4 at *
  refine sound_go (tb := []) 25 [.tmp 4, .tmp 5] [0, 1, 2, 3, 4, 5, 6, 7, 12] mixed Tryz.func35 rfl (by kernel_rfl) (by kernel_rfl) (by kernel_rfl) (by kernel_rfl) ?_
  repeat (first | (simp -implicitDefEqProofs only [go_sem, Nat.reduceAdd, Nat.reduceMul, Nat.reduceEqDiff, Nat.reduceLT, Nat.reduceLeDiff, Nat.reduceSub, Nat.reduceBEq, reduceIte, reduceCtorEq, Int.reduceEq, Int.reduceNe, Nat.reduceBneDiff, Int.reduceLE, Int.reduceLT, Int.reduceToNat, Int.reduceAdd, Int.reduceSub, Int.reduceMul, Int.reduceNeg, T_ok4, T_agg4, T_isinfo4, T_info4, T_cells4, T_zero4, T_bool4, T_ok9, T_agg9, T_isinfo9, T_info9, T_cells9, T_zero9, T_str9, T_len9t, T_ok23, T_agg23, T_isinfo23, T_info23, T_cells23, T_zero23, T_build23, T_f23_0, T_p23_0, T_f23_1, T_p23_1, T_eqs23, T_ok42, T_agg42, T_isinfo42, T_info42, T_cells42, T_zero42, T_build42, T_f42_0, T_p42_0, T_f42_1, T_p42_1, T_eqs42, T_ok84, T_agg84, T_isinfo84, T_info84, T_cells84, T_zero84, T_elem84, T_under84, T_len84s, T_len84n, T_len84b, T_ok86, T_agg86, T_isinfo86, T_info86, T_cells86, T_zero86, T_build86, T_f86_0, T_p86_0, T_f86_1, T_p86_1, T_ok92, T_agg92, T_isinfo92, T_info92, T_cells92, T_zero92, T_int92, nP, dw]) | ((with_reducible refine gcall_eq (hp) ?_ ?_ ?_); (with_reducible rfl); rfl) | ((with_reducible refine gcall_eq (hc) ?_ ?_ ?_); (with_reducible rfl); rfl) | ((with_reducible refine gcall_eq (hn) ?_ ?_ ?_); (with_reducible rfl); rfl) | ((with_reducible refine gcall_eq (hs) ?_ ?_ ?_); (with_reducible rfl); rfl) | ((with_reducible refine gcall_eq (hg) ?_ ?_ ?_); (with_reducible rfl); rfl) | (with_reducible exact drawQ_true _ _ (by kernel_rfl)) | (with_reducible refine And.intro (drawQ_true _ _ (by kernel_rfl)) ?_))
theorem wAddRatio_no (n1 m1 n2 m2 : Bool) (s1 t1 s2 t2 : ByteArray) (h : (vRat n1 s1 m1 t1 && vRat n2 s2 m2 t2) = false) (a2 : t1.size ≤ 100000) (a4 : t2.size ≤ 100000) :
    SoundAt Tryz.prog 36 [.agg [.bool n1, .str s1, .bool m1, .str t1], .agg [.bool n2, .str s2, .bool m2, .str t2]] (noRat 2) := by
  have hp := wpair_v n1 m1 n2 m2 s1 t1 s2 t2 a2 a4
  rw [h] at hp
  refine sound_go (tb := []) 28 [.cell 4 42, .tmp 5] [0, 1, 2, 3, 4, 5, 6, 7, 8, 12] mixed Tryz.func36 rfl (by kernel_rfl) (by kernel_rfl) (by kernel_rfl) (by kernel_rfl) ?_
  repeat (first | (simp -implicitDefEqProofs only [go_sem, Nat.reduceAdd, Nat.reduceMul, Nat.reduceEqDiff, Nat.reduceLT, Nat.reduceLeDiff, Nat.reduceSub, Nat.reduceBEq, reduceIte, reduceCtorEq, Int.reduceEq, Int.reduceNe, Nat.reduceBneDiff, Int.reduceLE, Int.reduceLT, Int.reduceToNat, Int.reduceAdd, Int.reduceSub, Int.reduceMul, Int.reduceNeg, T_ok4, T_agg4, T_isinfo4, T_info4, T_cells4, T_zero4, T_bool4, T_ok9, T_agg9, T_isinfo9, T_info9, T_cells9, T_zero9, T_str9, T_len9t, T_ok23, T_agg23, T_isinfo23, T_info23, T_cells23, T_zero23, T_build23, T_f23_0, T_p23_0, T_f23_1, T_p23_1, T_eqs23, T_ok42, T_agg42, T_isinfo42, T_info42, T_cells42, T_zero42, T_build42, T_f42_0, T_p42_0, T_f42_1, T_p42_1, T_eqs42, T_ok84, T_agg84, T_isinfo84, T_info84, T_cells84, T_zero84, T_elem84, T_under84, T_len84s, T_len84n, T_len84b, T_ok86, T_agg86, T_isinfo86, T_info86, T_cells86, T_zero86, T_build86, T_f86_0, T_p86_0, T_f86_1, T_p86_1, T_ok92, T_agg92, T_isinfo92, T_info92, T_cells92, T_zero92, T_int92, noRat]) | ((with_reducible refine gcall_eq (hp) ?_ ?_ ?_); (with_reducible rfl); rfl) | (with_reducible exact drawQ_true _ _ (by kernel_rfl)) | (with_reducible refine And.intro (drawQ_true _ _ (by kernel_rfl)) ?_))
/-- The sum and the difference of two ratios, in lowest terms. -/
def addQN (a b c d : Int) : Int := lowN (a * d + c * b) (b * d)
def addQD (a b c d : Int) : Int := lowD (a * d + c * b) (b * d)
theorem wAddRatio_v (n1 m1 n2 m2 : Bool) (s1 t1 s2 t2 : ByteArray) (hv1 : vRat n1 s1 m1 t1 = true) (hv2 : vRat n2 s2 m2 t2 = true) (a1 : s1.size ≤ 100000) (a2 : t1.size ≤ 100000) (a3 : s2.size ≤ 100000) (a4 : t2.size ≤ 100000) :
    SoundAt Tryz.prog 36 [.agg [.bool n1, .str s1, .bool m1, .str t1], .agg [.bool n2, .str s2, .bool m2, .str t2]] (outQ (addQN (wnum n1 s1) (wnum m1 t1) (wnum n2 s2) (wnum m2 t2)) (addQD (wnum n1 s1) (wnum m1 t1) (wnum n2 s2) (wnum m2 t2))) := by
  have hp := wpair_v n1 m1 n2 m2 s1 t1 s2 t2 a2 a4
  rw [hv1, hv2, Bool.true_and] at hp
  have hc := wcrossed_v n1 m1 n2 m2 s1 t1 s2 t2 hv1 hv2 a1 a2 a3 a4
  obtain ⟨p1, p2, _, p5⟩ := vRat_parts hv1
  obtain ⟨p3, p4, _, p6⟩ := vRat_parts hv2
  have l1 := L_bnum s1 a1
  have l2 := L_bnum t1 a2
  have l3 := L_bnum s2 a3
  have l4 := L_bnum t2 a4
  have q1 := mulL (bnum s1.data.toList) (bnum t2.data.toList)
  have q2 := mulL (bnum s2.data.toList) (bnum t1.data.toList)
  have q3 := mulL (bnum t1.data.toList) (bnum t2.data.toList)
  obtain ⟨n, m, hs, e, hm⟩ := nadd_v (!(n1 == m2)) (!(n2 == m1)) (bnum s1.data.toList * bnum t2.data.toList) (bnum s2.data.toList * bnum t1.data.toList) (by omega) (by omega)
  have hml := sumL _ _ m hm 200000 (by omega) (by omega)
  have hlo := wlowest_v n (!(m1 == m2)) m (bnum t1.data.toList * bnum t2.data.toList) (Nat.mul_pos (bnum_pos p2 p5) (bnum_pos p4 p6)) (by omega) (by omega)
  rw [mul_sv, e, mul_sv, mul_sv] at hlo
  unfold addQN addQD
  show SoundAt Tryz.prog 36 _ (outQ (lowN (sv n1 (bnum s1.data.toList) * sv m2 (bnum t2.data.toList) + sv n2 (bnum s2.data.toList) * sv m1 (bnum t1.data.toList)) (sv m1 (bnum t1.data.toList) * sv m2 (bnum t2.data.toList))) (lowD (sv n1 (bnum s1.data.toList) * sv m2 (bnum t2.data.toList) + sv n2 (bnum s2.data.toList) * sv m1 (bnum t1.data.toList)) (sv m1 (bnum t1.data.toList) * sv m2 (bnum t2.data.toList))))
  generalize lowN (sv n1 (bnum s1.data.toList) * sv m2 (bnum t2.data.toList) + sv n2 (bnum s2.data.toList) * sv m1 (bnum t1.data.toList)) (sv m1 (bnum t1.data.toList) * sv m2 (bnum t2.data.toList)) = N at *
  generalize lowD (sv n1 (bnum s1.data.toList) * sv m2 (bnum t2.data.toList) + sv n2 (bnum s2.data.toList) * sv m1 (bnum t1.data.toList)) (sv m1 (bnum t1.data.toList) * sv m2 (bnum t2.data.toList)) = D at *
  generalize (!(n1 == m2)) = b1 at *
  generalize (!(n2 == m1)) = b2 at *
  generalize (!(m1 == m2)) = b3 at *
  cases hB : big N D with
  | true =>
    rw [outQ_t hB] at hlo ⊢
    refine sound_go (tb := []) 28 [.cell 4 42, .tmp 5] [0, 1, 2, 3, 4, 5, 6, 7, 8, 12] mixed Tryz.func36 rfl (by kernel_rfl) (by kernel_rfl) (by kernel_rfl) (by kernel_rfl) ?_
    repeat (first | (simp -implicitDefEqProofs only [go_sem, Nat.reduceAdd, Nat.reduceMul, Nat.reduceEqDiff, Nat.reduceLT, Nat.reduceLeDiff, Nat.reduceSub, Nat.reduceBEq, reduceIte, reduceCtorEq, Int.reduceEq, Int.reduceNe, Nat.reduceBneDiff, Int.reduceLE, Int.reduceLT, Int.reduceToNat, Int.reduceAdd, Int.reduceSub, Int.reduceMul, Int.reduceNeg, T_ok4, T_agg4, T_isinfo4, T_info4, T_cells4, T_zero4, T_bool4, T_ok9, T_agg9, T_isinfo9, T_info9, T_cells9, T_zero9, T_str9, T_len9t, T_ok23, T_agg23, T_isinfo23, T_info23, T_cells23, T_zero23, T_build23, T_f23_0, T_p23_0, T_f23_1, T_p23_1, T_eqs23, T_ok42, T_agg42, T_isinfo42, T_info42, T_cells42, T_zero42, T_build42, T_f42_0, T_p42_0, T_f42_1, T_p42_1, T_eqs42, T_ok84, T_agg84, T_isinfo84, T_info84, T_cells84, T_zero84, T_elem84, T_under84, T_len84s, T_len84n, T_len84b, T_ok86, T_agg86, T_isinfo86, T_info86, T_cells86, T_zero86, T_build86, T_f86_0, T_p86_0, T_f86_1, T_p86_1, T_ok92, T_agg92, T_isinfo92, T_info92, T_cells92, T_zero92, T_int92, nP, dw, noRat]) | ((with_reducible refine gcall_eq (hp) ?_ ?_ ?_); (with_reducible rfl); rfl) | ((with_reducible refine gcall_eq (hc) ?_ ?_ ?_); (with_reducible rfl); rfl) | ((with_reducible refine gcall_eq (hs) ?_ ?_ ?_); (with_reducible rfl); rfl) | ((with_reducible refine gcall_eq (hlo) ?_ ?_ ?_); (with_reducible rfl); rfl) | (with_reducible exact drawQ_true _ _ (by kernel_rfl)) | (with_reducible refine And.intro (drawQ_true _ _ (by kernel_rfl)) ?_))
  | false =>
    rw [outQ_f hB] at hlo ⊢
    refine sound_go (tb := []) 28 [.cell 4 42, .tmp 5] [0, 1, 2, 3, 4, 5, 6, 7, 8, 12] mixed Tryz.func36 rfl (by kernel_rfl) (by kernel_rfl) (by kernel_rfl) (by kernel_rfl) ?_
    repeat (first | (simp -implicitDefEqProofs only [go_sem, Nat.reduceAdd, Nat.reduceMul, Nat.reduceEqDiff, Nat.reduceLT, Nat.reduceLeDiff, Nat.reduceSub, Nat.reduceBEq, reduceIte, reduceCtorEq, Int.reduceEq, Int.reduceNe, Nat.reduceBneDiff, Int.reduceLE, Int.reduceLT, Int.reduceToNat, Int.reduceAdd, Int.reduceSub, Int.reduceMul, Int.reduceNeg, T_ok4, T_agg4, T_isinfo4, T_info4, T_cells4, T_zero4, T_bool4, T_ok9, T_agg9, T_isinfo9, T_info9, T_cells9, T_zero9, T_str9, T_len9t, T_ok23, T_agg23, T_isinfo23, T_info23, T_cells23, T_zero23, T_build23, T_f23_0, T_p23_0, T_f23_1, T_p23_1, T_eqs23, T_ok42, T_agg42, T_isinfo42, T_info42, T_cells42, T_zero42, T_build42, T_f42_0, T_p42_0, T_f42_1, T_p42_1, T_eqs42, T_ok84, T_agg84, T_isinfo84, T_info84, T_cells84, T_zero84, T_elem84, T_under84, T_len84s, T_len84n, T_len84b, T_ok86, T_agg86, T_isinfo86, T_info86, T_cells86, T_zero86, T_build86, T_f86_0, T_p86_0, T_f86_1, T_p86_1, T_ok92, T_agg92, T_isinfo92, T_info92, T_cells92, T_zero92, T_int92, nP, dw, ratPV]) | ((with_reducible refine gcall_eq (hp) ?_ ?_ ?_); (with_reducible rfl); rfl) | ((with_reducible refine gcall_eq (hc) ?_ ?_ ?_); (with_reducible rfl); rfl) | ((with_reducible refine gcall_eq (hs) ?_ ?_ ?_); (with_reducible rfl); rfl) | ((with_reducible refine gcall_eq (hlo) ?_ ?_ ?_); (with_reducible rfl); rfl) | (with_reducible exact drawQ_true _ _ (by kernel_rfl)) | (with_reducible refine And.intro (drawQ_true _ _ (by kernel_rfl)) ?_))
theorem wSubRatio_no (n1 m1 n2 m2 : Bool) (s1 t1 s2 t2 : ByteArray) (h : (vRat n1 s1 m1 t1 && vRat n2 s2 m2 t2) = false) (a2 : t1.size ≤ 100000) (a4 : t2.size ≤ 100000) :
    SoundAt Tryz.prog 37 [.agg [.bool n1, .str s1, .bool m1, .str t1], .agg [.bool n2, .str s2, .bool m2, .str t2]] (noRat 2) := by
  have hp := wpair_v n1 m1 n2 m2 s1 t1 s2 t2 a2 a4
  rw [h] at hp
  refine sound_go (tb := []) 29 [.cell 4 42, .tmp 5] [0, 1, 2, 3, 4, 5, 6, 7, 8, 12] mixed Tryz.func37 rfl (by kernel_rfl) (by kernel_rfl) (by kernel_rfl) (by kernel_rfl) ?_
  repeat (first | (simp -implicitDefEqProofs only [go_sem, Nat.reduceAdd, Nat.reduceMul, Nat.reduceEqDiff, Nat.reduceLT, Nat.reduceLeDiff, Nat.reduceSub, Nat.reduceBEq, reduceIte, reduceCtorEq, Int.reduceEq, Int.reduceNe, Nat.reduceBneDiff, Int.reduceLE, Int.reduceLT, Int.reduceToNat, Int.reduceAdd, Int.reduceSub, Int.reduceMul, Int.reduceNeg, T_ok4, T_agg4, T_isinfo4, T_info4, T_cells4, T_zero4, T_bool4, T_ok9, T_agg9, T_isinfo9, T_info9, T_cells9, T_zero9, T_str9, T_len9t, T_ok23, T_agg23, T_isinfo23, T_info23, T_cells23, T_zero23, T_build23, T_f23_0, T_p23_0, T_f23_1, T_p23_1, T_eqs23, T_ok42, T_agg42, T_isinfo42, T_info42, T_cells42, T_zero42, T_build42, T_f42_0, T_p42_0, T_f42_1, T_p42_1, T_eqs42, T_ok84, T_agg84, T_isinfo84, T_info84, T_cells84, T_zero84, T_elem84, T_under84, T_len84s, T_len84n, T_len84b, T_ok86, T_agg86, T_isinfo86, T_info86, T_cells86, T_zero86, T_build86, T_f86_0, T_p86_0, T_f86_1, T_p86_1, T_ok92, T_agg92, T_isinfo92, T_info92, T_cells92, T_zero92, T_int92, noRat]) | ((with_reducible refine gcall_eq (hp) ?_ ?_ ?_); (with_reducible rfl); rfl) | (with_reducible exact drawQ_true _ _ (by kernel_rfl)) | (with_reducible refine And.intro (drawQ_true _ _ (by kernel_rfl)) ?_))
def subQN (a b c d : Int) : Int := lowN (a * d - c * b) (b * d)
def subQD (a b c d : Int) : Int := lowD (a * d - c * b) (b * d)
theorem wSubRatio_v (n1 m1 n2 m2 : Bool) (s1 t1 s2 t2 : ByteArray) (hv1 : vRat n1 s1 m1 t1 = true) (hv2 : vRat n2 s2 m2 t2 = true) (a1 : s1.size ≤ 100000) (a2 : t1.size ≤ 100000) (a3 : s2.size ≤ 100000) (a4 : t2.size ≤ 100000) :
    SoundAt Tryz.prog 37 [.agg [.bool n1, .str s1, .bool m1, .str t1], .agg [.bool n2, .str s2, .bool m2, .str t2]] (outQ (subQN (wnum n1 s1) (wnum m1 t1) (wnum n2 s2) (wnum m2 t2)) (subQD (wnum n1 s1) (wnum m1 t1) (wnum n2 s2) (wnum m2 t2))) := by
  have hp := wpair_v n1 m1 n2 m2 s1 t1 s2 t2 a2 a4
  rw [hv1, hv2, Bool.true_and] at hp
  have hc := wcrossed_v n1 m1 n2 m2 s1 t1 s2 t2 hv1 hv2 a1 a2 a3 a4
  obtain ⟨p1, p2, _, p5⟩ := vRat_parts hv1
  obtain ⟨p3, p4, _, p6⟩ := vRat_parts hv2
  have l1 := L_bnum s1 a1
  have l2 := L_bnum t1 a2
  have l3 := L_bnum s2 a3
  have l4 := L_bnum t2 a4
  have q1 := mulL (bnum s1.data.toList) (bnum t2.data.toList)
  have q2 := mulL (bnum s2.data.toList) (bnum t1.data.toList)
  have q3 := mulL (bnum t1.data.toList) (bnum t2.data.toList)
  have hn := nneg_v (!(n2 == m1)) (bnum s2.data.toList * bnum t1.data.toList)
  obtain ⟨n, m, hs, e, hm⟩ := nadd_v (!(n1 == m2)) (!(!(n2 == m1))) (bnum s1.data.toList * bnum t2.data.toList) (bnum s2.data.toList * bnum t1.data.toList) (by omega) (by omega)
  have hml := sumL _ _ m hm 200000 (by omega) (by omega)
  have hlo := wlowest_v n (!(m1 == m2)) m (bnum t1.data.toList * bnum t2.data.toList) (Nat.mul_pos (bnum_pos p2 p5) (bnum_pos p4 p6)) (by omega) (by omega)
  have flip : ∀ (b : Bool) (m : Nat), sv (!b) m = -(sv b m) := by intro b m; cases b <;> simp [sv]
  rw [mul_sv, e, flip (!(n2 == m1)), mul_sv, mul_sv, ← Int.sub_eq_add_neg] at hlo
  unfold subQN subQD
  show SoundAt Tryz.prog 37 _ (outQ (lowN (sv n1 (bnum s1.data.toList) * sv m2 (bnum t2.data.toList) - sv n2 (bnum s2.data.toList) * sv m1 (bnum t1.data.toList)) (sv m1 (bnum t1.data.toList) * sv m2 (bnum t2.data.toList))) (lowD (sv n1 (bnum s1.data.toList) * sv m2 (bnum t2.data.toList) - sv n2 (bnum s2.data.toList) * sv m1 (bnum t1.data.toList)) (sv m1 (bnum t1.data.toList) * sv m2 (bnum t2.data.toList))))
  generalize lowN (sv n1 (bnum s1.data.toList) * sv m2 (bnum t2.data.toList) - sv n2 (bnum s2.data.toList) * sv m1 (bnum t1.data.toList)) (sv m1 (bnum t1.data.toList) * sv m2 (bnum t2.data.toList)) = N at *
  generalize lowD (sv n1 (bnum s1.data.toList) * sv m2 (bnum t2.data.toList) - sv n2 (bnum s2.data.toList) * sv m1 (bnum t1.data.toList)) (sv m1 (bnum t1.data.toList) * sv m2 (bnum t2.data.toList)) = D at *
  generalize (!(n1 == m2)) = b1 at *
  generalize (!(n2 == m1)) = b2 at *
  generalize (!(m1 == m2)) = b3 at *
  generalize (!b2) = b4 at *
  cases hB : big N D with
  | true =>
    rw [outQ_t hB] at hlo ⊢
    refine sound_go (tb := []) 29 [.cell 4 42, .tmp 5] [0, 1, 2, 3, 4, 5, 6, 7, 8, 12] mixed Tryz.func37 rfl (by kernel_rfl) (by kernel_rfl) (by kernel_rfl) (by kernel_rfl) ?_
    repeat (first | (simp -implicitDefEqProofs only [go_sem, Nat.reduceAdd, Nat.reduceMul, Nat.reduceEqDiff, Nat.reduceLT, Nat.reduceLeDiff, Nat.reduceSub, Nat.reduceBEq, reduceIte, reduceCtorEq, Int.reduceEq, Int.reduceNe, Nat.reduceBneDiff, Int.reduceLE, Int.reduceLT, Int.reduceToNat, Int.reduceAdd, Int.reduceSub, Int.reduceMul, Int.reduceNeg, T_ok4, T_agg4, T_isinfo4, T_info4, T_cells4, T_zero4, T_bool4, T_ok9, T_agg9, T_isinfo9, T_info9, T_cells9, T_zero9, T_str9, T_len9t, T_ok23, T_agg23, T_isinfo23, T_info23, T_cells23, T_zero23, T_build23, T_f23_0, T_p23_0, T_f23_1, T_p23_1, T_eqs23, T_ok42, T_agg42, T_isinfo42, T_info42, T_cells42, T_zero42, T_build42, T_f42_0, T_p42_0, T_f42_1, T_p42_1, T_eqs42, T_ok84, T_agg84, T_isinfo84, T_info84, T_cells84, T_zero84, T_elem84, T_under84, T_len84s, T_len84n, T_len84b, T_ok86, T_agg86, T_isinfo86, T_info86, T_cells86, T_zero86, T_build86, T_f86_0, T_p86_0, T_f86_1, T_p86_1, T_ok92, T_agg92, T_isinfo92, T_info92, T_cells92, T_zero92, T_int92, nP, dw, noRat]) | ((with_reducible refine gcall_eq (hp) ?_ ?_ ?_); (with_reducible rfl); rfl) | ((with_reducible refine gcall_eq (hc) ?_ ?_ ?_); (with_reducible rfl); rfl) | ((with_reducible refine gcall_eq (hn) ?_ ?_ ?_); (with_reducible rfl); rfl) | ((with_reducible refine gcall_eq (hs) ?_ ?_ ?_); (with_reducible rfl); rfl) | ((with_reducible refine gcall_eq (hlo) ?_ ?_ ?_); (with_reducible rfl); rfl) | (with_reducible exact drawQ_true _ _ (by kernel_rfl)) | (with_reducible refine And.intro (drawQ_true _ _ (by kernel_rfl)) ?_))
  | false =>
    rw [outQ_f hB] at hlo ⊢
    refine sound_go (tb := []) 29 [.cell 4 42, .tmp 5] [0, 1, 2, 3, 4, 5, 6, 7, 8, 12] mixed Tryz.func37 rfl (by kernel_rfl) (by kernel_rfl) (by kernel_rfl) (by kernel_rfl) ?_
    repeat (first | (simp -implicitDefEqProofs only [go_sem, Nat.reduceAdd, Nat.reduceMul, Nat.reduceEqDiff, Nat.reduceLT, Nat.reduceLeDiff, Nat.reduceSub, Nat.reduceBEq, reduceIte, reduceCtorEq, Int.reduceEq, Int.reduceNe, Nat.reduceBneDiff, Int.reduceLE, Int.reduceLT, Int.reduceToNat, Int.reduceAdd, Int.reduceSub, Int.reduceMul, Int.reduceNeg, T_ok4, T_agg4, T_isinfo4, T_info4, T_cells4, T_zero4, T_bool4, T_ok9, T_agg9, T_isinfo9, T_info9, T_cells9, T_zero9, T_str9, T_len9t, T_ok23, T_agg23, T_isinfo23, T_info23, T_cells23, T_zero23, T_build23, T_f23_0, T_p23_0, T_f23_1, T_p23_1, T_eqs23, T_ok42, T_agg42, T_isinfo42, T_info42, T_cells42, T_zero42, T_build42, T_f42_0, T_p42_0, T_f42_1, T_p42_1, T_eqs42, T_ok84, T_agg84, T_isinfo84, T_info84, T_cells84, T_zero84, T_elem84, T_under84, T_len84s, T_len84n, T_len84b, T_ok86, T_agg86, T_isinfo86, T_info86, T_cells86, T_zero86, T_build86, T_f86_0, T_p86_0, T_f86_1, T_p86_1, T_ok92, T_agg92, T_isinfo92, T_info92, T_cells92, T_zero92, T_int92, nP, dw, ratPV]) | ((with_reducible refine gcall_eq (hp) ?_ ?_ ?_); (with_reducible rfl); rfl) | ((with_reducible refine gcall_eq (hc) ?_ ?_ ?_); (with_reducible rfl); rfl) | ((with_reducible refine gcall_eq (hn) ?_ ?_ ?_); (with_reducible rfl); rfl) | ((with_reducible refine gcall_eq (hs) ?_ ?_ ?_); (with_reducible rfl); rfl) | ((with_reducible refine gcall_eq (hlo) ?_ ?_ ?_); (with_reducible rfl); rfl) | (with_reducible exact drawQ_true _ _ (by kernel_rfl)) | (with_reducible refine And.intro (drawQ_true _ _ (by kernel_rfl)) ?_))
theorem wMulRatio_no (n1 m1 n2 m2 : Bool) (s1 t1 s2 t2 : ByteArray) (h : (vRat n1 s1 m1 t1 && vRat n2 s2 m2 t2) = false) (a2 : t1.size ≤ 100000) (a4 : t2.size ≤ 100000) :
    SoundAt Tryz.prog 38 [.agg [.bool n1, .str s1, .bool m1, .str t1], .agg [.bool n2, .str s2, .bool m2, .str t2]] (noRat 2) := by
  have hp := wpair_v n1 m1 n2 m2 s1 t1 s2 t2 a2 a4
  rw [h] at hp
  refine sound_go (tb := []) 28 [.cell 4 42, .tmp 5] [0, 1, 2, 3, 4, 5, 9] mixed Tryz.func38 rfl (by kernel_rfl) (by kernel_rfl) (by kernel_rfl) (by kernel_rfl) ?_
  repeat (first | (simp -implicitDefEqProofs only [go_sem, Nat.reduceAdd, Nat.reduceMul, Nat.reduceEqDiff, Nat.reduceLT, Nat.reduceLeDiff, Nat.reduceSub, Nat.reduceBEq, reduceIte, reduceCtorEq, Int.reduceEq, Int.reduceNe, Nat.reduceBneDiff, Int.reduceLE, Int.reduceLT, Int.reduceToNat, Int.reduceAdd, Int.reduceSub, Int.reduceMul, Int.reduceNeg, T_ok4, T_agg4, T_isinfo4, T_info4, T_cells4, T_zero4, T_bool4, T_ok9, T_agg9, T_isinfo9, T_info9, T_cells9, T_zero9, T_str9, T_len9t, T_ok23, T_agg23, T_isinfo23, T_info23, T_cells23, T_zero23, T_build23, T_f23_0, T_p23_0, T_f23_1, T_p23_1, T_eqs23, T_ok42, T_agg42, T_isinfo42, T_info42, T_cells42, T_zero42, T_build42, T_f42_0, T_p42_0, T_f42_1, T_p42_1, T_eqs42, T_ok84, T_agg84, T_isinfo84, T_info84, T_cells84, T_zero84, T_elem84, T_under84, T_len84s, T_len84n, T_len84b, T_ok86, T_agg86, T_isinfo86, T_info86, T_cells86, T_zero86, T_build86, T_f86_0, T_p86_0, T_f86_1, T_p86_1, T_ok92, T_agg92, T_isinfo92, T_info92, T_cells92, T_zero92, T_int92, noRat]) | ((with_reducible refine gcall_eq (hp) ?_ ?_ ?_); (with_reducible rfl); rfl) | (with_reducible exact drawQ_true _ _ (by kernel_rfl)) | (with_reducible refine And.intro (drawQ_true _ _ (by kernel_rfl)) ?_))
theorem wMulRatio_v (n1 m1 n2 m2 : Bool) (s1 t1 s2 t2 : ByteArray) (hv1 : vRat n1 s1 m1 t1 = true) (hv2 : vRat n2 s2 m2 t2 = true) (a1 : s1.size ≤ 100000) (a2 : t1.size ≤ 100000) (a3 : s2.size ≤ 100000) (a4 : t2.size ≤ 100000) :
    SoundAt Tryz.prog 38 [.agg [.bool n1, .str s1, .bool m1, .str t1], .agg [.bool n2, .str s2, .bool m2, .str t2]] (outQ (lowN (wnum n1 s1 * wnum n2 s2) (wnum m1 t1 * wnum m2 t2)) (lowD (wnum n1 s1 * wnum n2 s2) (wnum m1 t1 * wnum m2 t2))) := by
  have hp := wpair_v n1 m1 n2 m2 s1 t1 s2 t2 a2 a4
  rw [hv1, hv2, Bool.true_and] at hp
  obtain ⟨p1, p2, _, p5⟩ := vRat_parts hv1
  obtain ⟨p3, p4, _, p6⟩ := vRat_parts hv2
  have o1 := wof_v n1 s1 p1 (by omega)
  have o2 := wof_v m1 t1 p2 (by omega)
  have o3 := wof_v n2 s2 p3 (by omega)
  have o4 := wof_v m2 t2 p4 (by omega)
  have l1 := L_bnum s1 a1
  have l2 := L_bnum t1 a2
  have l3 := L_bnum s2 a3
  have l4 := L_bnum t2 a4
  have q1 := mulL (bnum s1.data.toList) (bnum s2.data.toList)
  have q3 := mulL (bnum t1.data.toList) (bnum t2.data.toList)
  have x1 := nmul_v n1 n2 (bnum s1.data.toList) (bnum s2.data.toList) (by omega)
  have x2 := nmul_v m1 m2 (bnum t1.data.toList) (bnum t2.data.toList) (by omega)
  have hlo := wlowest_v (!(n1 == n2)) (!(m1 == m2)) (bnum s1.data.toList * bnum s2.data.toList) (bnum t1.data.toList * bnum t2.data.toList) (Nat.mul_pos (bnum_pos p2 p5) (bnum_pos p4 p6)) (by omega) (by omega)
  rw [mul_sv, mul_sv] at hlo
  unfold wnum
  generalize lowN (sv n1 (bnum s1.data.toList) * sv n2 (bnum s2.data.toList)) (sv m1 (bnum t1.data.toList) * sv m2 (bnum t2.data.toList)) = N at *
  generalize lowD (sv n1 (bnum s1.data.toList) * sv n2 (bnum s2.data.toList)) (sv m1 (bnum t1.data.toList) * sv m2 (bnum t2.data.toList)) = D at *
  generalize (!(n1 == n2)) = b1 at *
  generalize (!(m1 == m2)) = b3 at *
  cases hB : big N D with
  | true =>
    rw [outQ_t hB] at hlo ⊢
    refine sound_go (tb := []) 28 [.cell 4 42, .tmp 5] [0, 1, 2, 3, 4, 5, 9] mixed Tryz.func38 rfl (by kernel_rfl) (by kernel_rfl) (by kernel_rfl) (by kernel_rfl) ?_
    repeat (first | (simp -implicitDefEqProofs only [go_sem, Nat.reduceAdd, Nat.reduceMul, Nat.reduceEqDiff, Nat.reduceLT, Nat.reduceLeDiff, Nat.reduceSub, Nat.reduceBEq, reduceIte, reduceCtorEq, Int.reduceEq, Int.reduceNe, Nat.reduceBneDiff, Int.reduceLE, Int.reduceLT, Int.reduceToNat, Int.reduceAdd, Int.reduceSub, Int.reduceMul, Int.reduceNeg, T_ok4, T_agg4, T_isinfo4, T_info4, T_cells4, T_zero4, T_bool4, T_ok9, T_agg9, T_isinfo9, T_info9, T_cells9, T_zero9, T_str9, T_len9t, T_ok23, T_agg23, T_isinfo23, T_info23, T_cells23, T_zero23, T_build23, T_f23_0, T_p23_0, T_f23_1, T_p23_1, T_eqs23, T_ok42, T_agg42, T_isinfo42, T_info42, T_cells42, T_zero42, T_build42, T_f42_0, T_p42_0, T_f42_1, T_p42_1, T_eqs42, T_ok84, T_agg84, T_isinfo84, T_info84, T_cells84, T_zero84, T_elem84, T_under84, T_len84s, T_len84n, T_len84b, T_ok86, T_agg86, T_isinfo86, T_info86, T_cells86, T_zero86, T_build86, T_f86_0, T_p86_0, T_f86_1, T_p86_1, T_ok92, T_agg92, T_isinfo92, T_info92, T_cells92, T_zero92, T_int92, nP, dw, noRat]) | ((with_reducible refine gcall_eq (hp) ?_ ?_ ?_); (with_reducible rfl); rfl) | ((with_reducible refine gcall_eq (o1) ?_ ?_ ?_); (with_reducible rfl); rfl) | ((with_reducible refine gcall_eq (o2) ?_ ?_ ?_); (with_reducible rfl); rfl) | ((with_reducible refine gcall_eq (o3) ?_ ?_ ?_); (with_reducible rfl); rfl) | ((with_reducible refine gcall_eq (o4) ?_ ?_ ?_); (with_reducible rfl); rfl) | ((with_reducible refine gcall_eq (x1) ?_ ?_ ?_); (with_reducible rfl); rfl) | ((with_reducible refine gcall_eq (x2) ?_ ?_ ?_); (with_reducible rfl); rfl) | ((with_reducible refine gcall_eq (hlo) ?_ ?_ ?_); (with_reducible rfl); rfl) | (with_reducible exact drawQ_true _ _ (by kernel_rfl)) | (with_reducible refine And.intro (drawQ_true _ _ (by kernel_rfl)) ?_))
  | false =>
    rw [outQ_f hB] at hlo ⊢
    refine sound_go (tb := []) 28 [.cell 4 42, .tmp 5] [0, 1, 2, 3, 4, 5, 9] mixed Tryz.func38 rfl (by kernel_rfl) (by kernel_rfl) (by kernel_rfl) (by kernel_rfl) ?_
    repeat (first | (simp -implicitDefEqProofs only [go_sem, Nat.reduceAdd, Nat.reduceMul, Nat.reduceEqDiff, Nat.reduceLT, Nat.reduceLeDiff, Nat.reduceSub, Nat.reduceBEq, reduceIte, reduceCtorEq, Int.reduceEq, Int.reduceNe, Nat.reduceBneDiff, Int.reduceLE, Int.reduceLT, Int.reduceToNat, Int.reduceAdd, Int.reduceSub, Int.reduceMul, Int.reduceNeg, T_ok4, T_agg4, T_isinfo4, T_info4, T_cells4, T_zero4, T_bool4, T_ok9, T_agg9, T_isinfo9, T_info9, T_cells9, T_zero9, T_str9, T_len9t, T_ok23, T_agg23, T_isinfo23, T_info23, T_cells23, T_zero23, T_build23, T_f23_0, T_p23_0, T_f23_1, T_p23_1, T_eqs23, T_ok42, T_agg42, T_isinfo42, T_info42, T_cells42, T_zero42, T_build42, T_f42_0, T_p42_0, T_f42_1, T_p42_1, T_eqs42, T_ok84, T_agg84, T_isinfo84, T_info84, T_cells84, T_zero84, T_elem84, T_under84, T_len84s, T_len84n, T_len84b, T_ok86, T_agg86, T_isinfo86, T_info86, T_cells86, T_zero86, T_build86, T_f86_0, T_p86_0, T_f86_1, T_p86_1, T_ok92, T_agg92, T_isinfo92, T_info92, T_cells92, T_zero92, T_int92, nP, dw, ratPV]) | ((with_reducible refine gcall_eq (hp) ?_ ?_ ?_); (with_reducible rfl); rfl) | ((with_reducible refine gcall_eq (o1) ?_ ?_ ?_); (with_reducible rfl); rfl) | ((with_reducible refine gcall_eq (o2) ?_ ?_ ?_); (with_reducible rfl); rfl) | ((with_reducible refine gcall_eq (o3) ?_ ?_ ?_); (with_reducible rfl); rfl) | ((with_reducible refine gcall_eq (o4) ?_ ?_ ?_); (with_reducible rfl); rfl) | ((with_reducible refine gcall_eq (x1) ?_ ?_ ?_); (with_reducible rfl); rfl) | ((with_reducible refine gcall_eq (x2) ?_ ?_ ?_); (with_reducible rfl); rfl) | ((with_reducible refine gcall_eq (hlo) ?_ ?_ ?_); (with_reducible rfl); rfl) | (with_reducible exact drawQ_true _ _ (by kernel_rfl)) | (with_reducible refine And.intro (drawQ_true _ _ (by kernel_rfl)) ?_))
theorem wFloor_no (n m : Bool) (s t : ByteArray) (h : vRat n s m t = false) (a2 : t.size ≤ 100000) : SoundAt Tryz.prog 25 [.agg [.bool n, .str s, .bool m, .str t]] refused := by
  have hp := wValidRatio_v n s m t a2
  rw [h] at hp
  rw [refused_eq]
  refine sound_go (tb := []) 24 [.cell 2 23, .tmp 3] [0, 1, 2, 3, 4, 8] mixed Tryz.func25 rfl (by kernel_rfl) (by kernel_rfl) (by kernel_rfl) (by kernel_rfl) ?_
  repeat (first | (simp -implicitDefEqProofs only [go_sem, Nat.reduceAdd, Nat.reduceMul, Nat.reduceEqDiff, Nat.reduceLT, Nat.reduceLeDiff, Nat.reduceSub, Nat.reduceBEq, reduceIte, reduceCtorEq, Int.reduceEq, Int.reduceNe, Nat.reduceBneDiff, Int.reduceLE, Int.reduceLT, Int.reduceToNat, Int.reduceAdd, Int.reduceSub, Int.reduceMul, Int.reduceNeg, T_ok4, T_agg4, T_isinfo4, T_info4, T_cells4, T_zero4, T_bool4, T_ok9, T_agg9, T_isinfo9, T_info9, T_cells9, T_zero9, T_str9, T_len9t, T_ok23, T_agg23, T_isinfo23, T_info23, T_cells23, T_zero23, T_build23, T_f23_0, T_p23_0, T_f23_1, T_p23_1, T_eqs23, T_ok42, T_agg42, T_isinfo42, T_info42, T_cells42, T_zero42, T_build42, T_f42_0, T_p42_0, T_f42_1, T_p42_1, T_eqs42, T_ok84, T_agg84, T_isinfo84, T_info84, T_cells84, T_zero84, T_elem84, T_under84, T_len84s, T_len84n, T_len84b, T_ok86, T_agg86, T_isinfo86, T_info86, T_cells86, T_zero86, T_build86, T_f86_0, T_p86_0, T_f86_1, T_p86_1, T_ok92, T_agg92, T_isinfo92, T_info92, T_cells92, T_zero92, T_int92]) | ((with_reducible refine gcall_eq (hp) ?_ ?_ ?_); (with_reducible rfl); rfl) | (with_reducible exact drawQ_true _ _ (by kernel_rfl)) | (with_reducible refine And.intro (drawQ_true _ _ (by kernel_rfl)) ?_))
theorem wFloor_v (n m : Bool) (s t : ByteArray) (hv : vRat n s m t = true) (a1 : s.size ≤ 100000) (a2 : t.size ≤ 100000) : SoundAt Tryz.prog 25 [.agg [.bool n, .str s, .bool m, .str t]] (outPV (wnum n s / wnum m t)) := by
  have hp := wValidRatio_v n s m t a2
  rw [hv] at hp
  obtain ⟨p1, p2, _, p5⟩ := vRat_parts hv
  have o1 := wof_v n s p1 (by omega)
  have o2 := wof_v m t p2 (by omega)
  have l1 := L_bnum s a1
  have l2 := L_bnum t a2
  have hb := bnum_pos p2 p5
  have hd := ndiv_v n m (bnum s.data.toList) (bnum t.data.toList) hb (by omega) (by omega)
  have hw := nwide_v (!(n == m)) (nqn n (bnum s.data.toList) (bnum t.data.toList)) (Nat.le_trans (LW_mono (nqn_le _ _ _)) (Nat.le_trans (LW_succ _) (by omega)))
  rw [(div_sv n m _ _ hb).1, outPV_eq] at hw
  rw [outPV_eq]
  show SoundAt Tryz.prog 25 _ (.tup [wPV (outN (sv n (bnum s.data.toList) / sv m (bnum t.data.toList))), .int .i64 (outE (sv n (bnum s.data.toList) / sv m (bnum t.data.toList)))])
  generalize sv n (bnum s.data.toList) / sv m (bnum t.data.toList) = q at *
  generalize (!(n == m)) = b1 at *
  refine sound_go (tb := []) 24 [.cell 2 23, .tmp 3] [0, 1, 2, 3, 4, 8] mixed Tryz.func25 rfl (by kernel_rfl) (by kernel_rfl) (by kernel_rfl) (by kernel_rfl) ?_
  repeat (first | (simp -implicitDefEqProofs only [go_sem, Nat.reduceAdd, Nat.reduceMul, Nat.reduceEqDiff, Nat.reduceLT, Nat.reduceLeDiff, Nat.reduceSub, Nat.reduceBEq, reduceIte, reduceCtorEq, Int.reduceEq, Int.reduceNe, Nat.reduceBneDiff, Int.reduceLE, Int.reduceLT, Int.reduceToNat, Int.reduceAdd, Int.reduceSub, Int.reduceMul, Int.reduceNeg, T_ok4, T_agg4, T_isinfo4, T_info4, T_cells4, T_zero4, T_bool4, T_ok9, T_agg9, T_isinfo9, T_info9, T_cells9, T_zero9, T_str9, T_len9t, T_ok23, T_agg23, T_isinfo23, T_info23, T_cells23, T_zero23, T_build23, T_f23_0, T_p23_0, T_f23_1, T_p23_1, T_eqs23, T_ok42, T_agg42, T_isinfo42, T_info42, T_cells42, T_zero42, T_build42, T_f42_0, T_p42_0, T_f42_1, T_p42_1, T_eqs42, T_ok84, T_agg84, T_isinfo84, T_info84, T_cells84, T_zero84, T_elem84, T_under84, T_len84s, T_len84n, T_len84b, T_ok86, T_agg86, T_isinfo86, T_info86, T_cells86, T_zero86, T_build86, T_f86_0, T_p86_0, T_f86_1, T_p86_1, T_ok92, T_agg92, T_isinfo92, T_info92, T_cells92, T_zero92, T_int92, nP, dw, wPV]) | ((with_reducible refine gcall_eq (hp) ?_ ?_ ?_); (with_reducible rfl); rfl) | ((with_reducible refine gcall_eq (o1) ?_ ?_ ?_); (with_reducible rfl); rfl) | ((with_reducible refine gcall_eq (o2) ?_ ?_ ?_); (with_reducible rfl); rfl) | ((with_reducible refine gcall_eq (hd) ?_ ?_ ?_); (with_reducible rfl); rfl) | ((with_reducible refine gcall_eq (hw) ?_ ?_ ?_); (with_reducible rfl); rfl) | (with_reducible exact drawQ_true _ _ (by kernel_rfl)) | (with_reducible refine And.intro (drawQ_true _ _ (by kernel_rfl)) ?_))
end Go.Proofs.YtkgkebhlpjenaaaGreatDoor

namespace Go.Proofs.YtkgkebhlpjenaaaGreatDoor
open Go.Vl Go.RowKit Go.Dg

theorem digs_up (r d : Nat) (hd : d < E9) : trimZ (d :: digs E9 r) = digs E9 (r * E9 + d) := by
  rw [trimZ_eq E9_2 (d :: digs E9 r) (by
    intro x hx
    rcases List.mem_cons.1 hx with rfl | hx
    · exact hd
    · exact digs_mem_lt E9_2 hx)]
  congr 1
  simp only [val, val_digs E9_2]
  rw [Nat.mul_comm, Nat.add_comm]
theorem mix_same (V N i : Nat) (hi : i < N) (h : V / E9 ^ i % E9 = 0) : mix E9 0 V N (i + 1) = mix E9 0 V N i := by
  have h1 := mix_down (B := E9) (V := 0) (S := V) (N := N) (i := i) (d := 0) hi h
  rw [← h1]
  apply List.ext_getElem?
  intro j
  rw [List.getElem?_set]
  by_cases e : i = j
  · subst e
    simp only [if_true]
    rw [if_pos (by rw [mix_length]; exact hi), mix_get _ _ _ _ _ hi, if_pos (by omega)]
    simp
  · simp [e]
theorem app1 (d : Nat) (D : List PV) (bx : Bx) (hb : bx 606 = none) (h4 : bx 604 = some { els := [.int .i64 (d : Int)], esz := 1, ety := 3, fro := 0, live := true, arr := true }) (hD : D.length ≤ 1000000000) (hok : D.all (fun e => e.cells.length == 1 && e.cells.all PV.okCell) = true) :
    opVal Tryz.prog [] 606 (.call ⟨.builtin .append, #[.tmp 26, .tmp 27], #[29, 29]⟩) [.bs 604 1 0 1, .slc D] bx =
      some (.done (.bs 606 1 0 (1 + D.length)) [.kill 604, .new 606 { els := .int .i64 (d : Int) :: D, esz := 1, ety := 3, fro := 0, live := true, arr := true }], [(606, true), (604, true)]) := by
  have c1 : ((1 + D.length) * 8 ≤ 140737488355328) = True := by simp only [eq_iff_iff, iff_true]; omega
  have c2 : (1 + D.length ≤ maxLen) = True := by simp only [eq_iff_iff, iff_true]; unfold maxLen; omega
  skip
  simp -implicitDefEqProofs only [go_sem, Nat.reduceAdd, Nat.reduceMul, Nat.reduceEqDiff, Nat.reduceLT, Nat.reduceLeDiff, Nat.reduceSub, Nat.reduceBEq, reduceIte, reduceCtorEq, Int.reduceEq, Int.reduceNe, Nat.reduceBneDiff, Int.reduceLE, Int.reduceLT, Int.reduceToNat, Int.reduceAdd, Int.reduceSub, Int.reduceMul, Int.reduceNeg, T_ok3, T_agg3, T_isinfo3, T_info3, T_cells3, T_zero3, T_int3, T_ok29, T_agg29, T_isinfo29, T_info29, T_cells29, T_zero29, T_elem29, T_under29, T_len29s, T_len29n, T_len29b, hok, c1, c2, hb, h4]
theorem call_bs {P : Program} (id : Nat) (bx : Bx) (fo : Operand) (as0 : Array Operand) (ts : Array TypeId) (f b esz len : Nat) (B : Box) (xs : List PV) (hB : bx b = some B) (ha : B.arr = true) (he : B.esz = esz) (hx : B.els = xs) (hl : len = xs.length) :
    opVal P [] id (.call ⟨.value fo, as0, ts⟩) [.fn f [] [], .bs b esz 0 len] bx = some (.call f [.slc xs] [.fro b len], [(b, false)]) := by
  subst hx; subst hl; subst he
  rw [o_call0]
  have e1 : (B.soft.arr && B.soft.esz == B.esz && decide (B.els.length ≤ B.soft.els.length)) = true := by simp [Box.soft, ha]
  have e2 : (List.drop 0 B.soft.els).take B.els.length = B.els := by rw [List.drop_zero]; exact List.take_of_length_le (Nat.le_refl _)
  have h0 : esc0 (.bs b B.esz 0 B.els.length) bx = some ((.slc B.els, [.fro b B.els.length]), [(b, false)]) := by
    simp only [esc0, M.bind, M.soft, hB, M.ok, Nat.zero_add, e1, if_true, M.pure, List.nil_append, List.append_nil, e2, List.cons_append]
  have h1 : esc1L [.bs b B.esz 0 B.els.length] bx = some (([.slc B.els], [.fro b B.els.length]), [(b, false)]) := by
    simp only [esc1L, esc1, escC, M.bind, h0, M.pure, List.nil_append, List.append_nil]
  simp only [M.bind, escCL, M.pure, h1, List.nil_append, List.append_nil]
set_option maxHeartbeats 1000000 in
theorem rover_v (a b : Nat) (hb : 0 < b) (ha : (digs E9 a).length ≤ 10000000) (hbl : (digs E9 b).length ≤ 10000000) : SoundAt Tryz.prog 71 [di (digs E9 a), di (digs E9 b)] (.tup [di (digs E9 (a / b)), di (digs E9 (a % b))]) := by
  refine sound_go (tb := []) 63 [.tmp 4, .tmp 5] [0, 1, 4, 5, 6, 7, 8, 9, 10, 11, 19, 33, 36, 47] mixed Tryz.func71 rfl (by kernel_rfl) (by kernel_rfl) (by kernel_rfl) (by kernel_rfl) ?_
  have hn0 : ((0 : Int) ≤ ((digs E9 a).length : Int)) = True := by simp
  have hn1 : ((8 : Nat) : Int) * ((digs E9 a).length : Int) ≤ 281474976710656 := by omega
  have hn2 : ((digs E9 a).length : Int) ≤ 9223372036854775807 := by omega
  have hlt : a < E9 ^ (digs E9 a).length := lt_pow_len E9_2 a
  have hw : IntKind.i64.wrap (((digs E9 a).length : Int) - 1) = ((digs E9 a).length : Int) - 1 := wrap_i64 (by omega) (by omega)
  simp -implicitDefEqProofs only [go_sem, Nat.reduceAdd, Nat.reduceMul, Nat.reduceEqDiff, Nat.reduceLT, Nat.reduceLeDiff, Nat.reduceSub, Nat.reduceBEq, reduceIte, reduceCtorEq, Int.reduceEq, Int.reduceNe, Nat.reduceBneDiff, Int.reduceLE, Int.reduceLT, Int.reduceToNat, Int.reduceAdd, Int.reduceSub, Int.reduceMul, Int.reduceNeg, T_ok3, T_agg3, T_isinfo3, T_info3, T_cells3, T_zero3, T_int3, T_ok29, T_agg29, T_isinfo29, T_info29, T_cells29, T_zero29, T_elem29, T_under29, T_len29s, T_len29n, T_len29b, di, List.length_map, hn0, hn1, hn2, Int.toNat_natCast, hw]
  generalize hN : (digs E9 a).length = N at *
  have hrep : List.replicate N (PV.int .i64 0) = (mix E9 0 (a / b) N N).map fI := by rw [mix_full, lows_zero]; simp
  rw [hrep]
  refine g_loop mixed (fun i : { i : Nat // i ≤ N } => St.of [(0, di (digs E9 a)), (1, di (digs E9 b)), (6, .bs 102 1 0 N), (7, di (digs E9 (a / E9 ^ i.1 % b))), (8, .int .i64 ((i.1 : Int) - 1))]
    [(102, { els := (mix E9 0 (a / b) N i.1).map fI, esz := 1, ety := 3, fro := 0, live := true, arr := true })]) (fun i => i.1) ⟨N, Nat.le_refl _⟩ ?_ ?_
  · refine Le.trans (le_slc0G 7 rfl) (le_of (θ := [(102, 102)]) rfl ?_ ?_)
    · simp [varsLe, lkp, ren1, ren0, di, Nat.div_eq_of_lt hlt, digs_zero]
    · simp [boxesLe, lkp, Box.renames]
  · rintro ⟨i, hi⟩
    cases i with
    | zero =>
      have h1 : ((0 : Int) ≤ ((0 : Nat) : Int) - 1) = False := by simp
      have hll := lows_length (B := E9) (a / b) N
      have htk : ((lows E9 (a / b) N).map fI).take N = (lows E9 (a / b) N).map fI := List.take_of_length_le (by simp [hll])
      have e0 : a / E9 ^ 0 % b = a % b := by rw [Nat.pow_zero, Nat.div_one]
      simp -implicitDefEqProofs only [go_sem, Nat.reduceAdd, Nat.reduceMul, Nat.reduceEqDiff, Nat.reduceLT, Nat.reduceLeDiff, Nat.reduceSub, Nat.reduceBEq, reduceIte, reduceCtorEq, Int.reduceEq, Int.reduceNe, Nat.reduceBneDiff, Int.reduceLE, Int.reduceLT, Int.reduceToNat, Int.reduceAdd, Int.reduceSub, Int.reduceMul, Int.reduceNeg, T_ok3, T_agg3, T_isinfo3, T_info3, T_cells3, T_zero3, T_int3, T_ok29, T_agg29, T_isinfo29, T_info29, T_cells29, T_zero29, T_elem29, T_under29, T_len29s, T_len29n, T_len29b, h1, mix_none, List.length_map, hll, htk]
      refine gcall_intro _ _ _ _ _ _ _ _ _ (rtrim_v (lows E9 (a / b) N) (by rw [hll]; simp [maxLen]; omega)) ?_
      simp -implicitDefEqProofs only [go_sem, Nat.reduceAdd, Nat.reduceMul, Nat.reduceEqDiff, Nat.reduceLT, Nat.reduceLeDiff, Nat.reduceSub, Nat.reduceBEq, reduceIte, reduceCtorEq, Int.reduceEq, Int.reduceNe, Nat.reduceBneDiff, Int.reduceLE, Int.reduceLT, Int.reduceToNat, Int.reduceAdd, Int.reduceSub, Int.reduceMul, Int.reduceNeg, T_ok3, T_agg3, T_isinfo3, T_info3, T_cells3, T_zero3, T_int3, T_ok29, T_agg29, T_isinfo29, T_info29, T_cells29, T_zero29, T_elem29, T_under29, T_len29s, T_len29n, T_len29b, di, e0]
      rw [trimZ_lows E9_2, Nat.mod_eq_of_lt (Nat.lt_of_le_of_lt (Nat.div_le_self _ _) hlt)]
    | succ i =>
      have hs : (((i + 1 : Nat) : Int) - 1) = (i : Int) := by omega
      have h1 : ((0 : Int) ≤ (i : Int)) = True := by simp
      have h2 : ((i : Int) < (N : Int)) = True := by simp; omega
      have hga := digs_get_lt E9_2 (show i < (digs E9 a).length by omega)
      have e0 : a / E9 ^ (i + 1) = a / E9 ^ i / E9 := by rw [Nat.pow_succ, Nat.div_div_eq_div_mul]
      obtain ⟨s1, s2⟩ := small_step (a / E9 ^ i) b E9 (by decide) hb
      have e1 : a / E9 ^ i / b = a / b / E9 ^ i := by rw [Nat.div_div_eq_div_mul, Nat.div_div_eq_div_mul, Nat.mul_comm]
      rw [← e0] at s1 s2
      rw [e1] at s1
      have hset := mix_down (B := E9) (V := 0) (S := a / b) (N := N) (i := i) (d := a / b / E9 ^ i % E9) (by omega) rfl
      have hsame := mix_same (a / b) N i (by omega)
      have hml := mix_length (B := E9) 0 (a / b) N (i + 1)
      obtain ⟨e, hgo⟩ : ∃ e : Nat, ((mix E9 0 (a / b) N (i + 1)).map fI)[i]? = some (PV.int .i64 (e : Int)) := ⟨_, by rw [List.getElem?_map, mix_get _ _ _ _ _ (by omega)]; rfl⟩
      have hdl : a / E9 ^ i % E9 < E9 := Nat.mod_lt _ (by decide)
      have hrl : a / E9 ^ (i + 1) % b < b := Nat.mod_lt _ hb
      have hup := digs_up (a / E9 ^ (i + 1) % b) (a / E9 ^ i % E9) hdl
      have hL1 : (digs E9 (a / E9 ^ (i + 1) % b)).length ≤ 10000000 := Nat.le_trans (L_mono (Nat.le_of_lt hrl)) hbl
      have w4 : IntKind.i64.wrap ((i : Int) - 1) = (i : Int) - 1 := wrap_i64 (by omega) (by omega)
      generalize a / E9 ^ i % E9 = d at *
      generalize a / E9 ^ (i + 1) % b = ρ at *
      have ht := rtrim_v (d :: digs E9 ρ) (by rw [List.length_cons]; unfold maxLen; omega)
      rw [hup, di, List.map_cons] at ht
      have hL2 : (digs E9 (ρ * E9 + d)).length ≤ 10000001 := by
        refine Nat.le_trans ((digs_len_le E9_2 _ ((digs E9 b).length + 1)).2 ?_) (Nat.succ_le_succ hbl)
        have h5 := Nat.mul_le_mul_right E9 (show ρ + 1 ≤ b from hrl)
        have h6 := Nat.mul_lt_mul_of_pos_right (lt_pow_len E9_2 b) (show 0 < E9 by decide)
        rw [Nat.add_mul, Nat.one_mul] at h5
        rw [Nat.pow_succ]
        exact Nat.lt_trans (Nat.lt_of_lt_of_le (Nat.add_lt_add_left hdl _) h5) h6
      have c1 : ((1 + (digs E9 ρ).length) * 8 ≤ 140737488355328) = True := by simp only [eq_iff_iff, iff_true]; omega
      have c2 : (1 + (digs E9 ρ).length ≤ maxLen) = True := by simp only [eq_iff_iff, iff_true]; unfold maxLen; omega
      have hok : ((digs E9 ρ).map fI).all (fun e => e.cells.length == 1 && e.cells.all PV.okCell) = true := by rw [List.all_map, List.all_eq_true]; intro _ _; rfl
      have hor := rorder_v (ρ * E9 + d) b (by omega)
      have c3 : (1 + (digs E9 ρ).length ≤ (digs E9 ρ).length + 1) = True := by simp only [eq_iff_iff, iff_true]; omega
      have c4 : List.take (1 + (digs E9 ρ).length) (PV.int .i64 (d : Int) :: (digs E9 ρ).map fI) = PV.int .i64 (d : Int) :: (digs E9 ρ).map fI := List.take_of_length_le (by rw [List.length_cons, List.length_map, Nat.add_comm]; exact Nat.le_refl _)
      generalize hR : ρ * E9 + d = R at *
      generalize digs E9 ρ = D at *
      have hap := fun (bx : Bx) h1 h2 => app1 d (D.map fI) bx h1 h2 (by rw [List.length_map]; omega) hok
      rw [List.length_map] at hap
      have hca := fun (bx : Bx) hB => call_bs (P := Tryz.prog) 607 bx (.func 69) #[.tmp 28] #[29] 69 606 1 (1 + D.length) { els := .int .i64 (d : Int) :: D.map fI, esz := 1, ety := 3, fro := 0, live := true, arr := true } (.int .i64 (d : Int) :: D.map fI) hB rfl rfl rfl (by rw [List.length_cons, List.length_map, Nat.add_comm])
      simp -implicitDefEqProofs only [go_sem, Nat.reduceAdd, Nat.reduceMul, Nat.reduceEqDiff, Nat.reduceLT, Nat.reduceLeDiff, Nat.reduceSub, Nat.reduceBEq, reduceIte, reduceCtorEq, Int.reduceEq, Int.reduceNe, Nat.reduceBneDiff, Int.reduceLE, Int.reduceLT, Int.reduceToNat, Int.reduceAdd, Int.reduceSub, Int.reduceMul, Int.reduceNeg, T_ok3, T_agg3, T_isinfo3, T_info3, T_cells3, T_zero3, T_int3, T_ok29, T_agg29, T_isinfo29, T_info29, T_cells29, T_zero29, T_elem29, T_under29, T_len29s, T_len29n, T_len29b, di, hs, h1, h2, di_get, hga, Int.toNat_natCast, List.length_map, hap, hca]
      refine gcall_intro _ _ _ _ _ _ _ _ _ ht ?_
      simp -implicitDefEqProofs only [go_sem, Nat.reduceAdd, Nat.reduceMul, Nat.reduceEqDiff, Nat.reduceLT, Nat.reduceLeDiff, Nat.reduceSub, Nat.reduceBEq, reduceIte, reduceCtorEq, Int.reduceEq, Int.reduceNe, Nat.reduceBneDiff, Int.reduceLE, Int.reduceLT, Int.reduceToNat, Int.reduceAdd, Int.reduceSub, Int.reduceMul, Int.reduceNeg, T_ok3, T_agg3, T_isinfo3, T_info3, T_cells3, T_zero3, T_int3, T_ok29, T_agg29, T_isinfo29, T_info29, T_cells29, T_zero29, T_elem29, T_under29, T_len29s, T_len29n, T_len29b, di]
      refine gcall_intro _ _ _ _ _ _ _ _ _ hor ?_
      by_cases hc : R < b
      · have hc' : (cmpN R b < 0) = True := by rw [cmpN_lt hc]; simp
        have hq0 : R / b = 0 := Nat.div_eq_of_lt hc
        rw [hq0] at s1
        rw [Nat.mod_eq_of_lt hc] at s2
        simp -implicitDefEqProofs only [go_sem, Nat.reduceAdd, Nat.reduceMul, Nat.reduceEqDiff, Nat.reduceLT, Nat.reduceLeDiff, Nat.reduceSub, Nat.reduceBEq, reduceIte, reduceCtorEq, Int.reduceEq, Int.reduceNe, Nat.reduceBneDiff, Int.reduceLE, Int.reduceLT, Int.reduceToNat, Int.reduceAdd, Int.reduceSub, Int.reduceMul, Int.reduceNeg, T_ok3, T_agg3, T_isinfo3, T_info3, T_cells3, T_zero3, T_int3, T_ok29, T_agg29, T_isinfo29, T_info29, T_cells29, T_zero29, T_elem29, T_under29, T_len29s, T_len29n, T_len29b, hc', w4]
        refine ⟨⟨i, by omega⟩, by simp only; omega, le_of (θ := [(102, 102)]) rfl ?_ ?_⟩
        · simp [varsLe, lkp, ren1, ren0, di, ← s2]
        · simp [boxesLe, lkp, Box.renames, hsame s1.symm]
      · have hc' : (cmpN R b < 0) = False := by simp [cmpN]; omega
        have hQ : R / b < E9 := by
          rw [Nat.div_lt_iff_lt_mul hb, ← hR, Nat.mul_comm E9]
          have := Nat.mul_le_mul_right E9 (show ρ + 1 ≤ b from hrl)
          rw [Nat.add_mul] at this
          omega
        simp -implicitDefEqProofs only [go_sem, Nat.reduceAdd, Nat.reduceMul, Nat.reduceEqDiff, Nat.reduceLT, Nat.reduceLeDiff, Nat.reduceSub, Nat.reduceBEq, reduceIte, reduceCtorEq, Int.reduceEq, Int.reduceNe, Nat.reduceBneDiff, Int.reduceLE, Int.reduceLT, Int.reduceToNat, Int.reduceAdd, Int.reduceSub, Int.reduceMul, Int.reduceNeg, T_ok3, T_agg3, T_isinfo3, T_info3, T_cells3, T_zero3, T_int3, T_ok29, T_agg29, T_isinfo29, T_info29, T_cells29, T_zero29, T_elem29, T_under29, T_len29s, T_len29n, T_len29b, hc']
        refine g_loop mixed (fun p : { p : Nat × Nat // p.1 ≤ R / b ∧ R / b ≤ p.2 ∧ p.2 < E9 } => St.of [(0, di (digs E9 a)), (1, di (digs E9 b)), (6, .bs 102 1 0 N), (7, di (digs E9 R)), (8, .int .i64 (i : Int)), (9, .int .i64 (p.1.1 : Int)), (10, .int .i64 (p.1.2 : Int))]
          [(102, { els := (mix E9 0 (a / b) N (i + 1)).map fI, esz := 1, ety := 3, fro := 0, live := true, arr := true })]) (fun p => p.1.2 - p.1.1) ⟨(0, 999999999), Nat.zero_le _, by simp only [E9] at hQ; omega, by decide⟩ ?_ ?_
        · refine le_of (θ := [(102, 102)]) rfl ?_ ?_
          · simp [varsLe, lkp, ren1, ren0, di]
          · simp [boxesLe, lkp, Box.renames]
        · rintro ⟨⟨lo, hi⟩, p1, p2, p3⟩
          simp only at p1 p2 p3 ⊢
          simp only [E9] at p3
          by_cases hlh : lo < hi
          · have g1 : ((lo : Int) < (hi : Int)) = True := by simp; omega
            have w1 := wrap_add (a := lo) (b := hi) (by omega)
            have w2 := wrap_add1 (a := lo + hi) (by omega)
            have t2 : Int.tdiv ((lo + hi + 1 : Nat) : Int) 2 = (((lo + hi + 1) / 2 : Nat) : Int) := rfl
            have w3 := wrapn (n := (lo + hi + 1) / 2) (by omega)
            generalize hmid : (lo + hi + 1) / 2 = mid at *
            have hsm := rsmall_v b mid (by simp only [E9]; omega) (by omega)
            have hLb : (digs E9 (b * mid)).length ≤ 1000000000 := by
              refine Nat.le_trans ((digs_len_le E9_2 _ ((digs E9 b).length + 1)).2 ?_) (show (digs E9 b).length + 1 ≤ 1000000000 by omega)
              rw [Nat.pow_succ]
              exact Nat.mul_lt_mul_of_lt_of_le (lt_pow_len E9_2 b) (show mid ≤ E9 by simp only [E9]; omega) (by decide)
            have ho := rorder_v (b * mid) R hLb
            have hiff : b * mid ≤ R ↔ mid ≤ R / b := by rw [Nat.le_div_iff_mul_le hb, Nat.mul_comm]
            simp -implicitDefEqProofs only [go_sem, Nat.reduceAdd, Nat.reduceMul, Nat.reduceEqDiff, Nat.reduceLT, Nat.reduceLeDiff, Nat.reduceSub, Nat.reduceBEq, reduceIte, reduceCtorEq, Int.reduceEq, Int.reduceNe, Nat.reduceBneDiff, Int.reduceLE, Int.reduceLT, Int.reduceToNat, Int.reduceAdd, Int.reduceSub, Int.reduceMul, Int.reduceNeg, T_ok3, T_agg3, T_isinfo3, T_info3, T_cells3, T_zero3, T_int3, T_ok29, T_agg29, T_isinfo29, T_info29, T_cells29, T_zero29, T_elem29, T_under29, T_len29s, T_len29n, T_len29b, di, g1, w1, w2, t2, w3]
            refine gcall_intro _ _ _ _ _ _ _ _ _ hsm ?_
            simp -implicitDefEqProofs only [go_sem, Nat.reduceAdd, Nat.reduceMul, Nat.reduceEqDiff, Nat.reduceLT, Nat.reduceLeDiff, Nat.reduceSub, Nat.reduceBEq, reduceIte, reduceCtorEq, Int.reduceEq, Int.reduceNe, Nat.reduceBneDiff, Int.reduceLE, Int.reduceLT, Int.reduceToNat, Int.reduceAdd, Int.reduceSub, Int.reduceMul, Int.reduceNeg, T_ok3, T_agg3, T_isinfo3, T_info3, T_cells3, T_zero3, T_int3, T_ok29, T_agg29, T_isinfo29, T_info29, T_cells29, T_zero29, T_elem29, T_under29, T_len29s, T_len29n, T_len29b, di]
            refine gcall_intro _ _ _ _ _ _ _ _ _ ho ?_
            by_cases hm : b * mid ≤ R
            · have g2 : (cmpN (b * mid) R ≤ 0) = True := by simp [cmpN]; omega
              have hm2 := hiff.1 hm
              simp -implicitDefEqProofs only [go_sem, Nat.reduceAdd, Nat.reduceMul, Nat.reduceEqDiff, Nat.reduceLT, Nat.reduceLeDiff, Nat.reduceSub, Nat.reduceBEq, reduceIte, reduceCtorEq, Int.reduceEq, Int.reduceNe, Nat.reduceBneDiff, Int.reduceLE, Int.reduceLT, Int.reduceToNat, Int.reduceAdd, Int.reduceSub, Int.reduceMul, Int.reduceNeg, T_ok3, T_agg3, T_isinfo3, T_info3, T_cells3, T_zero3, T_int3, T_ok29, T_agg29, T_isinfo29, T_info29, T_cells29, T_zero29, T_elem29, T_under29, T_len29s, T_len29n, T_len29b, g2]
              refine ⟨⟨(mid, hi), hm2, p2, by simp only [E9]; omega⟩, by simp only; omega, le_of (θ := [(102, 102)]) rfl ?_ ?_⟩
              · simp [varsLe, lkp, ren1, ren0, di]
              · simp [boxesLe, lkp, Box.renames]
            · have g2 : (cmpN (b * mid) R ≤ 0) = False := by simp [cmpN]; omega
              have hm2 := mt hiff.2 hm
              have w5 : IntKind.i64.wrap ((mid : Int) - 1) = ((mid - 1 : Nat) : Int) := by rw [wrap_i64 (by omega) (by omega)]; omega
              simp -implicitDefEqProofs only [go_sem, Nat.reduceAdd, Nat.reduceMul, Nat.reduceEqDiff, Nat.reduceLT, Nat.reduceLeDiff, Nat.reduceSub, Nat.reduceBEq, reduceIte, reduceCtorEq, Int.reduceEq, Int.reduceNe, Nat.reduceBneDiff, Int.reduceLE, Int.reduceLT, Int.reduceToNat, Int.reduceAdd, Int.reduceSub, Int.reduceMul, Int.reduceNeg, T_ok3, T_agg3, T_isinfo3, T_info3, T_cells3, T_zero3, T_int3, T_ok29, T_agg29, T_isinfo29, T_info29, T_cells29, T_zero29, T_elem29, T_under29, T_len29s, T_len29n, T_len29b, g2, w5]
              refine ⟨⟨(lo, mid - 1), p1, by simp only; omega, by simp only [E9]; omega⟩, by simp only; omega, le_of (θ := [(102, 102)]) rfl ?_ ?_⟩
              · simp [varsLe, lkp, ren1, ren0, di]
              · simp [boxesLe, lkp, Box.renames]
          · have g1 : ((lo : Int) < (hi : Int)) = False := by simp; omega
            obtain rfl : lo = R / b := by omega
            have hsm := rsmall_v b (R / b) hQ (by omega)
            have hle : b * (R / b) ≤ R := Nat.mul_div_le R b
            have hmi := rminus_v R (b * (R / b)) hle (by omega)
            have e3 : R - b * (R / b) = R % b := by have := Nat.div_add_mod R b; omega
            rw [e3, s2] at hmi
            rw [← s1] at hset
            simp -implicitDefEqProofs only [go_sem, Nat.reduceAdd, Nat.reduceMul, Nat.reduceEqDiff, Nat.reduceLT, Nat.reduceLeDiff, Nat.reduceSub, Nat.reduceBEq, reduceIte, reduceCtorEq, Int.reduceEq, Int.reduceNe, Nat.reduceBneDiff, Int.reduceLE, Int.reduceLT, Int.reduceToNat, Int.reduceAdd, Int.reduceSub, Int.reduceMul, Int.reduceNeg, T_ok3, T_agg3, T_isinfo3, T_info3, T_cells3, T_zero3, T_int3, T_ok29, T_agg29, T_isinfo29, T_info29, T_cells29, T_zero29, T_elem29, T_under29, T_len29s, T_len29n, T_len29b, g1, di, hs, h1, h2, Int.toNat_natCast, List.length_map, hml, hgo]
            refine gcall_intro _ _ _ _ _ _ _ _ _ hsm ?_
            simp -implicitDefEqProofs only [go_sem, Nat.reduceAdd, Nat.reduceMul, Nat.reduceEqDiff, Nat.reduceLT, Nat.reduceLeDiff, Nat.reduceSub, Nat.reduceBEq, reduceIte, reduceCtorEq, Int.reduceEq, Int.reduceNe, Nat.reduceBneDiff, Int.reduceLE, Int.reduceLT, Int.reduceToNat, Int.reduceAdd, Int.reduceSub, Int.reduceMul, Int.reduceNeg, T_ok3, T_agg3, T_isinfo3, T_info3, T_cells3, T_zero3, T_int3, T_ok29, T_agg29, T_isinfo29, T_info29, T_cells29, T_zero29, T_elem29, T_under29, T_len29s, T_len29n, T_len29b, di]
            refine gcall_intro _ _ _ _ _ _ _ _ _ hmi ?_
            simp -implicitDefEqProofs only [go_sem, Nat.reduceAdd, Nat.reduceMul, Nat.reduceEqDiff, Nat.reduceLT, Nat.reduceLeDiff, Nat.reduceSub, Nat.reduceBEq, reduceIte, reduceCtorEq, Int.reduceEq, Int.reduceNe, Nat.reduceBneDiff, Int.reduceLE, Int.reduceLT, Int.reduceToNat, Int.reduceAdd, Int.reduceSub, Int.reduceMul, Int.reduceNeg, T_ok3, T_agg3, T_isinfo3, T_info3, T_cells3, T_zero3, T_int3, T_ok29, T_agg29, T_isinfo29, T_info29, T_cells29, T_zero29, T_elem29, T_under29, T_len29s, T_len29n, T_len29b, di, w4]
            refine ⟨⟨i, by omega⟩, by simp only; omega, le_of (θ := [(102, 102)]) rfl ?_ ?_⟩
            · simp [varsLe, lkp, ren1, ren0, di]
            · rw [set_fI, hset]
              simp [boxesLe, lkp, Box.renames]
end Go.Proofs.YtkgkebhlpjenaaaGreatDoor
