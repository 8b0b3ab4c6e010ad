/-
  ZL7, ZR9 (merged for the claim).
-/
import Derived.Test.YtkgkebhlpjenaaaGreatDoorZL6
import Derived.Test.YtkgkebhlpjenaaaGreatDoorZR1
set_option linter.unusedSimpArgs false
set_option linter.unusedVariables false
namespace Go.Proofs.YtkgkebhlpjenaaaGreatDoor
open Go.Vl Go.RowKit Go.Dg

set_option maxHeartbeats 4000000 in
theorem WideFractions_v (n1 : Bool) (s1 : ByteArray) (m1 : Bool) (t1 : ByteArray) (n2 : Bool) (s2 : ByteArray) (m2 : Bool) (t2 : ByteArray) :
    SoundAt Tryz.prog 6 [.agg [.bool n1, .str s1, .bool m1, .str t1], .agg [.bool n2, .str s2, .bool m2, .str t2]] (.bool true) := by
  have hs := short_v [(n1, s1), (m1, t1), (n2, s2), (m2, t2)] (by simp)
  simp only [List.map_cons, List.map_nil, wA, List.all_cons, List.all_nil, Bool.and_true] at hs
  have hk := known_v
  by_cases hsm : s1.size ≤ 60 ∧ t1.size ≤ 60 ∧ s2.size ≤ 60 ∧ t2.size ≤ 60
  · obtain ⟨ha, hb, hc, hd⟩ := hsm
    have e0 : (decide (s1.size ≤ 60) && (decide (t1.size ≤ 60) && (decide (s2.size ≤ 60) && decide (t2.size ≤ 60)))) = true := by simp [ha, hb, hc, hd]
    rw [e0] at hs
    have z1 : ((⟨#[]⟩ : ByteArray) == ⟨#[]⟩) = true := ba_self _
    have z0 : ((0 : Int) == 0) = true := rfl
    have z2 : ((2 : Int) == 2) = true := rfl
    have b1 : ∀ b : Bool, (b == b) = true := fun b => by cases b <;> rfl
    have hra := rvalidRatio_v n1 s1 m1 t1
    have hrb := rvalidRatio_v n2 s2 m2 t2
    cases hv : (vRat n1 s1 m1 t1 && vRat n2 s2 m2 t2) with
    | false =>
      have q1 := wCompareRatio_no n1 m1 n2 m2 s1 t1 s2 t2 hv (by omega) (by omega)
      have q2 := wAddRatio_no n1 m1 n2 m2 s1 t1 s2 t2 hv (by omega) (by omega)
      have q3 := wSubRatio_no n1 m1 n2 m2 s1 t1 s2 t2 hv (by omega) (by omega)
      have q4 := wMulRatio_no n1 m1 n2 m2 s1 t1 s2 t2 hv (by omega) (by omega)
      rw [noRat] at q2 q3 q4
      cases va : vRat n1 s1 m1 t1 with
      | false =>
        rw [va] at hra
        refine sound_go (tb := []) 137 [.tmp 4] [0, 1, 2, 3, 4, 5, 6, 7, 8, 9, 10, 11, 12, 13, 14, 15, 26, 59] mixed Tryz.func6 rfl (by kernel_rfl) (by kernel_rfl) (by kernel_rfl) (by kernel_rfl) ?_
        repeat (first | (simp -implicitDefEqProofs only [go_sem, Nat.reduceAdd, Nat.reduceMul, Nat.reduceEqDiff, Nat.reduceLT, Nat.reduceLeDiff, Nat.reduceSub, Nat.reduceBEq, reduceIte, reduceCtorEq, Int.reduceEq, Int.reduceNe, Nat.reduceBneDiff, Int.reduceLE, Int.reduceLT, Int.reduceToNat, Int.reduceAdd, Int.reduceSub, Int.reduceMul, Int.reduceNeg, T_ok3, T_agg3, T_isinfo3, T_info3, T_cells3, T_zero3, T_int3, T_ok4, T_agg4, T_isinfo4, T_info4, T_cells4, T_zero4, T_bool4, T_ok9, T_agg9, T_isinfo9, T_info9, T_cells9, T_zero9, T_str9, T_len9t, T_ok23, T_agg23, T_isinfo23, T_info23, T_cells23, T_zero23, T_build23, T_f23_0, T_p23_0, T_f23_1, T_p23_1, T_eqs23, T_ok26, T_agg26, T_isinfo26, T_info26, T_cells26, T_zero26, T_int26, T_ok29, T_agg29, T_isinfo29, T_info29, T_cells29, T_zero29, T_elem29, T_under29, T_len29s, T_len29n, T_len29b, T_ok31, T_agg31, T_isinfo31, T_info31, T_cells31, T_zero31, T_build31, T_f31_0, T_p31_0, T_f31_1, T_p31_1, T_ok42, T_agg42, T_isinfo42, T_info42, T_cells42, T_zero42, T_build42, T_f42_0, T_p42_0, T_f42_1, T_p42_1, T_eqs42, T_ok50, T_agg50, T_isinfo50, T_info50, T_cells50, T_zero50, T_build50, T_f50_0, T_p50_0, T_f50_1, T_p50_1, T_ok79, T_agg79, T_isinfo79, T_info79, T_cells79, T_zero79, T_elem79, T_under79, T_len79s, T_len79n, T_len79b, z0, z1, z2, b1]) | ((with_reducible refine gcall_eq (hs) ?_ ?_ ?_); (with_reducible rfl); rfl) | ((with_reducible refine gcall_eq (q1) ?_ ?_ ?_); (with_reducible rfl); rfl) | ((with_reducible refine gcall_eq (q2) ?_ ?_ ?_); (with_reducible rfl); rfl) | ((with_reducible refine gcall_eq (q3) ?_ ?_ ?_); (with_reducible rfl); rfl) | ((with_reducible refine gcall_eq (q4) ?_ ?_ ?_); (with_reducible rfl); rfl) | ((with_reducible refine gcall_eq (hra) ?_ ?_ ?_); (with_reducible rfl); rfl) | ((with_reducible refine gcall_eq (hk) ?_ ?_ ?_); (with_reducible rfl); rfl) | (with_reducible exact drawQ_true _ _ (by kernel_rfl)) | (with_reducible refine And.intro (drawQ_true _ _ (by kernel_rfl)) ?_))
      | true =>
        rw [va, Bool.true_and] at hv
        rw [va] at hra
        rw [hv] at hrb
        refine sound_go (tb := []) 137 [.tmp 4] [0, 1, 2, 3, 4, 5, 6, 7, 8, 9, 10, 11, 12, 13, 14, 15, 26, 59] mixed Tryz.func6 rfl (by kernel_rfl) (by kernel_rfl) (by kernel_rfl) (by kernel_rfl) ?_
        repeat (first | (simp -implicitDefEqProofs only [go_sem, Nat.reduceAdd, Nat.reduceMul, Nat.reduceEqDiff, Nat.reduceLT, Nat.reduceLeDiff, Nat.reduceSub, Nat.reduceBEq, reduceIte, reduceCtorEq, Int.reduceEq, Int.reduceNe, Nat.reduceBneDiff, Int.reduceLE, Int.reduceLT, Int.reduceToNat, Int.reduceAdd, Int.reduceSub, Int.reduceMul, Int.reduceNeg, T_ok3, T_agg3, T_isinfo3, T_info3, T_cells3, T_zero3, T_int3, T_ok4, T_agg4, T_isinfo4, T_info4, T_cells4, T_zero4, T_bool4, T_ok9, T_agg9, T_isinfo9, T_info9, T_cells9, T_zero9, T_str9, T_len9t, T_ok23, T_agg23, T_isinfo23, T_info23, T_cells23, T_zero23, T_build23, T_f23_0, T_p23_0, T_f23_1, T_p23_1, T_eqs23, T_ok26, T_agg26, T_isinfo26, T_info26, T_cells26, T_zero26, T_int26, T_ok29, T_agg29, T_isinfo29, T_info29, T_cells29, T_zero29, T_elem29, T_under29, T_len29s, T_len29n, T_len29b, T_ok31, T_agg31, T_isinfo31, T_info31, T_cells31, T_zero31, T_build31, T_f31_0, T_p31_0, T_f31_1, T_p31_1, T_ok42, T_agg42, T_isinfo42, T_info42, T_cells42, T_zero42, T_build42, T_f42_0, T_p42_0, T_f42_1, T_p42_1, T_eqs42, T_ok50, T_agg50, T_isinfo50, T_info50, T_cells50, T_zero50, T_build50, T_f50_0, T_p50_0, T_f50_1, T_p50_1, T_ok79, T_agg79, T_isinfo79, T_info79, T_cells79, T_zero79, T_elem79, T_under79, T_len79s, T_len79n, T_len79b, z0, z1, z2, b1]) | ((with_reducible refine gcall_eq (hs) ?_ ?_ ?_); (with_reducible rfl); rfl) | ((with_reducible refine gcall_eq (q1) ?_ ?_ ?_); (with_reducible rfl); rfl) | ((with_reducible refine gcall_eq (q2) ?_ ?_ ?_); (with_reducible rfl); rfl) | ((with_reducible refine gcall_eq (q3) ?_ ?_ ?_); (with_reducible rfl); rfl) | ((with_reducible refine gcall_eq (q4) ?_ ?_ ?_); (with_reducible rfl); rfl) | ((with_reducible refine gcall_eq (hra) ?_ ?_ ?_); (with_reducible rfl); rfl) | ((with_reducible refine gcall_eq (hrb) ?_ ?_ ?_); (with_reducible rfl); rfl) | ((with_reducible refine gcall_eq (hk) ?_ ?_ ?_); (with_reducible rfl); rfl) | (with_reducible exact drawQ_true _ _ (by kernel_rfl)) | (with_reducible refine And.intro (drawQ_true _ _ (by kernel_rfl)) ?_))
    | true =>
      obtain ⟨va, vb⟩ := (Bool.and_eq_true_iff).1 hv
      rw [va] at hra
      rw [vb] at hrb
      have q1 := wCompareRatio_v n1 m1 n2 m2 s1 t1 s2 t2 va vb (by omega) (by omega) (by omega) (by omega)
      have q2 := wAddRatio_v n1 m1 n2 m2 s1 t1 s2 t2 va vb (by omega) (by omega) (by omega) (by omega)
      have q3 := wSubRatio_v n1 m1 n2 m2 s1 t1 s2 t2 va vb (by omega) (by omega) (by omega) (by omega)
      have q4 := wMulRatio_v n1 m1 n2 m2 s1 t1 s2 t2 va vb (by omega) (by omega) (by omega) (by omega)
      have fa := rfromRatio_v n1 s1 m1 t1 (by omega) (by omega)
      have fb := rfromRatio_v n2 s2 m2 t2 (by omega) (by omega)
      obtain ⟨p1, p2, _, p3⟩ := vRat_parts va
      obtain ⟨p4, p5, _, p6⟩ := vRat_parts vb
      have hY := wnum_ne p2 p3
      have hW := wnum_ne p5 p6
      have hx := wnum_lt n1 s1 60 ha
      have hy := wnum_lt m1 t1 60 hb
      have hz := wnum_lt n2 s2 60 hc
      have hw := wnum_lt m2 t2 60 hd
      generalize wnum n1 s1 = X at *
      generalize wnum m1 t1 = Y at *
      generalize wnum n2 s2 = Z at *
      generalize wnum m2 t2 = W at *
      have r1 := rcompareQ_v X Y Z W 60 (by decide) hx hy hz hw
      have r2 := raddQ_v X Y Z W 60 (by decide) hx hy hz hw hY hW
      have r3 := rsubQ_v X Y Z W 60 (by decide) hx hy hz hw hY hW
      have r4 := rmulQ_v X Y Z W 60 (by decide) hx hy hz hw hY hW
      have hden : (Y * W).natAbs < 256 ^ 121 := pow_mono (mul_lt hy hw) (by decide)
      have hadd : (X * W + Z * Y).natAbs < 256 ^ 121 := sum_lt (mul_lt hx hw) (mul_lt hz hy)
      have hsub : (X * W - Z * Y).natAbs < 256 ^ 121 := by rw [Int.sub_eq_add_neg]; exact sum_lt (mul_lt hx hw) (by rw [Int.natAbs_neg]; exact mul_lt hz hy)
      have hmul : (X * Z).natAbs < 256 ^ 121 := pow_mono (mul_lt hx hz) (by decide)
      have bn2 : (addQN X Y Z W).natAbs < 256 ^ 122 := lowN_lt hadd
      have bd2 : (addQD X Y Z W).natAbs < 256 ^ 122 := lowD_lt hden
      have bn3 : (subQN X Y Z W).natAbs < 256 ^ 122 := lowN_lt hsub
      have bd3 : (subQD X Y Z W).natAbs < 256 ^ 122 := lowD_lt hden
      have bn4 : (lowN (X * Z) (Y * W)).natAbs < 256 ^ 122 := lowN_lt hmul
      have bd4 : (lowD (X * Z) (Y * W)).natAbs < 256 ^ 122 := lowD_lt hden
      rw [outQ_f (not_big (by decide) bn2 bd2)] at q2
      rw [outQ_f (not_big (by decide) bn3 bd3)] at q3
      rw [outQ_f (not_big (by decide) bn4 bd4)] at q4
      have s2 := same_v _ _ 122 (by decide) bn2 bd2
      have s3 := same_v _ _ 122 (by decide) bn3 bd3
      have s4 := same_v _ _ 122 (by decide) bn4 bd4
      have i1 : ((X * W - Z * Y).sign == (X * W - Z * Y).sign) = true := beq_self_eq_true _
      generalize addQN X Y Z W = N2 at *
      generalize addQD X Y Z W = D2 at *
      generalize subQN X Y Z W = N3 at *
      generalize subQD X Y Z W = D3 at *
      generalize lowN (X * Z) (Y * W) = N4 at *
      generalize lowD (X * Z) (Y * W) = D4 at *
      generalize (X * W - Z * Y).sign = S at *
      refine sound_go (tb := []) 137 [.tmp 4] [0, 1, 2, 3, 4, 5, 6, 7, 8, 9, 10, 11, 12, 13, 14, 15, 26, 59] mixed Tryz.func6 rfl (by kernel_rfl) (by kernel_rfl) (by kernel_rfl) (by kernel_rfl) ?_
      repeat (first | (simp -implicitDefEqProofs only [go_sem, Nat.reduceAdd, Nat.reduceMul, Nat.reduceEqDiff, Nat.reduceLT, Nat.reduceLeDiff, Nat.reduceSub, Nat.reduceBEq, reduceIte, reduceCtorEq, Int.reduceEq, Int.reduceNe, Nat.reduceBneDiff, Int.reduceLE, Int.reduceLT, Int.reduceToNat, Int.reduceAdd, Int.reduceSub, Int.reduceMul, Int.reduceNeg, T_ok3, T_agg3, T_isinfo3, T_info3, T_cells3, T_zero3, T_int3, T_ok4, T_agg4, T_isinfo4, T_info4, T_cells4, T_zero4, T_bool4, T_ok9, T_agg9, T_isinfo9, T_info9, T_cells9, T_zero9, T_str9, T_len9t, T_ok23, T_agg23, T_isinfo23, T_info23, T_cells23, T_zero23, T_build23, T_f23_0, T_p23_0, T_f23_1, T_p23_1, T_eqs23, T_ok26, T_agg26, T_isinfo26, T_info26, T_cells26, T_zero26, T_int26, T_ok29, T_agg29, T_isinfo29, T_info29, T_cells29, T_zero29, T_elem29, T_under29, T_len29s, T_len29n, T_len29b, T_ok31, T_agg31, T_isinfo31, T_info31, T_cells31, T_zero31, T_build31, T_f31_0, T_p31_0, T_f31_1, T_p31_1, T_ok42, T_agg42, T_isinfo42, T_info42, T_cells42, T_zero42, T_build42, T_f42_0, T_p42_0, T_f42_1, T_p42_1, T_eqs42, T_ok50, T_agg50, T_isinfo50, T_info50, T_cells50, T_zero50, T_build50, T_f50_0, T_p50_0, T_f50_1, T_p50_1, T_ok79, T_agg79, T_isinfo79, T_info79, T_cells79, T_zero79, T_elem79, T_under79, T_len79s, T_len79n, T_len79b, z0, i1, rQ, di, ratPV]) | ((with_reducible refine gcall_eq (hs) ?_ ?_ ?_); (with_reducible rfl); rfl) | ((with_reducible refine gcall_eq (q1) ?_ ?_ ?_); (with_reducible rfl); rfl) | ((with_reducible refine gcall_eq (q2) ?_ ?_ ?_); (with_reducible rfl); rfl) | ((with_reducible refine gcall_eq (q3) ?_ ?_ ?_); (with_reducible rfl); rfl) | ((with_reducible refine gcall_eq (q4) ?_ ?_ ?_); (with_reducible rfl); rfl) | ((with_reducible refine gcall_eq (hra) ?_ ?_ ?_); (with_reducible rfl); rfl) | ((with_reducible refine gcall_eq (hrb) ?_ ?_ ?_); (with_reducible rfl); rfl) | ((with_reducible refine gcall_eq (fa) ?_ ?_ ?_); (with_reducible rfl); rfl) | ((with_reducible refine gcall_eq (fb) ?_ ?_ ?_); (with_reducible rfl); rfl) | ((with_reducible refine gcall_eq (r1) ?_ ?_ ?_); (with_reducible rfl); rfl) | ((with_reducible refine gcall_eq (r2) ?_ ?_ ?_); (with_reducible rfl); rfl) | ((with_reducible refine gcall_eq (r3) ?_ ?_ ?_); (with_reducible rfl); rfl) | ((with_reducible refine gcall_eq (r4) ?_ ?_ ?_); (with_reducible rfl); rfl) | ((with_reducible refine gcall_eq (s2) ?_ ?_ ?_); (with_reducible rfl); rfl) | ((with_reducible refine gcall_eq (s3) ?_ ?_ ?_); (with_reducible rfl); rfl) | ((with_reducible refine gcall_eq (s4) ?_ ?_ ?_); (with_reducible rfl); rfl) | ((with_reducible refine gcall_eq (hk) ?_ ?_ ?_); (with_reducible rfl); rfl) | (with_reducible exact drawQ_true _ _ (by kernel_rfl)) | (with_reducible refine And.intro (drawQ_true _ _ (by kernel_rfl)) ?_))
  · have e0 : (decide (s1.size ≤ 60) && (decide (t1.size ≤ 60) && (decide (s2.size ≤ 60) && decide (t2.size ≤ 60)))) = false := by
      simp only [Bool.and_eq_false_iff, decide_eq_false_iff_not]; omega
    rw [e0] at hs
    refine sound_go (tb := []) 137 [.tmp 4] [0, 1, 2, 3, 4, 5, 6, 7, 8, 9, 10, 11, 12, 13, 14, 15, 26, 59] mixed Tryz.func6 rfl (by kernel_rfl) (by kernel_rfl) (by kernel_rfl) (by kernel_rfl) ?_
    repeat (first | (simp -implicitDefEqProofs only [go_sem, Nat.reduceAdd, Nat.reduceMul, Nat.reduceEqDiff, Nat.reduceLT, Nat.reduceLeDiff, Nat.reduceSub, Nat.reduceBEq, reduceIte, reduceCtorEq, Int.reduceEq, Int.reduceNe, Nat.reduceBneDiff, Int.reduceLE, Int.reduceLT, Int.reduceToNat, Int.reduceAdd, Int.reduceSub, Int.reduceMul, Int.reduceNeg, T_ok3, T_agg3, T_isinfo3, T_info3, T_cells3, T_zero3, T_int3, T_ok4, T_agg4, T_isinfo4, T_info4, T_cells4, T_zero4, T_bool4, T_ok9, T_agg9, T_isinfo9, T_info9, T_cells9, T_zero9, T_str9, T_len9t, T_ok23, T_agg23, T_isinfo23, T_info23, T_cells23, T_zero23, T_build23, T_f23_0, T_p23_0, T_f23_1, T_p23_1, T_eqs23, T_ok26, T_agg26, T_isinfo26, T_info26, T_cells26, T_zero26, T_int26, T_ok29, T_agg29, T_isinfo29, T_info29, T_cells29, T_zero29, T_elem29, T_under29, T_len29s, T_len29n, T_len29b, T_ok31, T_agg31, T_isinfo31, T_info31, T_cells31, T_zero31, T_build31, T_f31_0, T_p31_0, T_f31_1, T_p31_1, T_ok42, T_agg42, T_isinfo42, T_info42, T_cells42, T_zero42, T_build42, T_f42_0, T_p42_0, T_f42_1, T_p42_1, T_eqs42, T_ok50, T_agg50, T_isinfo50, T_info50, T_cells50, T_zero50, T_build50, T_f50_0, T_p50_0, T_f50_1, T_p50_1, T_ok79, T_agg79, T_isinfo79, T_info79, T_cells79, T_zero79, T_elem79, T_under79, T_len79s, T_len79n, T_len79b]) | ((with_reducible refine gcall_eq (hs) ?_ ?_ ?_); (with_reducible rfl); rfl) | ((with_reducible refine gcall_eq (hk) ?_ ?_ ?_); (with_reducible rfl); rfl) | (with_reducible exact drawQ_true _ _ (by kernel_rfl)) | (with_reducible refine And.intro (drawQ_true _ _ (by kernel_rfl)) ?_))
end Go.Proofs.YtkgkebhlpjenaaaGreatDoor

namespace Go.Proofs.YtkgkebhlpjenaaaGreatDoor
open Go.Vl Go.RowKit

def ratT : TT := .agg [wideT, wideT]
theorem ratT_inv {c : List PV} (h : HasTT ratT c) : ∃ (n : Bool) (s : ByteArray) (m : Bool) (t : ByteArray), ratT.mk c = .agg [.bool n, .str s, .bool m, .str t] ∧ s.size ≤ maxLen := by
  simp only [ratT, wideT, HasTT, HasTTs] at h
  obtain ⟨_, _, rfl, ⟨_, _, rfl, ⟨n, rfl⟩, _, _, rfl, ⟨s, rfl, hs⟩, rfl⟩, _, _, rfl, ⟨_, _, rfl, ⟨m, rfl⟩, _, _, rfl, ⟨t, rfl, ht⟩, rfl⟩, rfl⟩ := h
  exact ⟨n, s, m, t, rfl, hs⟩
end Go.Proofs.YtkgkebhlpjenaaaGreatDoor
