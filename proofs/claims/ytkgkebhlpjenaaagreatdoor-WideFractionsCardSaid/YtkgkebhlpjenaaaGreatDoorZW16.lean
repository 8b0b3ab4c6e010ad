/-
  ZW14, ZW15, ZSh, ZK1, ZK2, US3, ZL1, ZL2, ZW16 (merged for the claim).
-/
import Derived.Test.YtkgkebhlpjenaaaGreatDoorZW13
import Derived.Shelf.Pu.ParseUintPublic10
import Derived.Test.YtkgkebhlpjenaaaGreatDoorChecked
import Derived.Test.YtkgkebhlpjenaaaGreatDoorUW
set_option linter.unusedSimpArgs false
set_option linter.unusedVariables false
namespace Go.Proofs.YtkgkebhlpjenaaaGreatDoor
open Go.Vl Go.RowKit Go.Dg

theorem wSub_no (an bn : Bool) (a b : ByteArray) (h : (validB an a.data.toList && validB bn b.data.toList) = false) : SoundAt Tryz.prog 46 [.agg [.bool an, .str a], .agg [.bool bn, .str b]] refused := by
  rw [refused, wPV_zero]
  refine sound_go (tb := []) 20 [.cell 4 23, .tmp 5] [0, 1, 2, 3, 4, 5, 9] mixed Tryz.func46 rfl (by kernel_rfl) (by kernel_rfl) (by kernel_rfl) (by kernel_rfl) ?_
  simp -implicitDefEqProofs only [go_sem, Nat.reduceAdd, Nat.reduceMul, Nat.reduceEqDiff, Nat.reduceLT, Nat.reduceLeDiff, Nat.reduceSub, Nat.reduceBEq, reduceIte, reduceCtorEq, Int.reduceEq, Int.reduceNe, Nat.reduceBneDiff, Int.reduceLE, Int.reduceLT, Int.reduceToNat, Int.reduceAdd, Int.reduceSub, Int.reduceMul, Int.reduceNeg, T_ok4, T_agg4, T_isinfo4, T_info4, T_cells4, T_zero4, T_bool4, T_ok9, T_agg9, T_isinfo9, T_info9, T_cells9, T_zero9, T_str9, T_len9t, T_ok23, T_agg23, T_isinfo23, T_info23, T_cells23, T_zero23, T_build23, T_f23_0, T_p23_0, T_f23_1, T_p23_1, T_eqs23, T_ok84, T_agg84, T_isinfo84, T_info84, T_cells84, T_zero84, T_elem84, T_under84, T_len84s, T_len84n, T_len84b, T_ok86, T_agg86, T_isinfo86, T_info86, T_cells86, T_zero86, T_build86, T_f86_0, T_p86_0, T_f86_1, T_p86_1, T_ok92, T_agg92, T_isinfo92, T_info92, T_cells92, T_zero92, T_int92]
  refine gcall_intro _ _ _ _ _ _ _ _ _ (both_v an bn a b) ?_
  simp -implicitDefEqProofs only [go_sem, Nat.reduceAdd, Nat.reduceMul, Nat.reduceEqDiff, Nat.reduceLT, Nat.reduceLeDiff, Nat.reduceSub, Nat.reduceBEq, reduceIte, reduceCtorEq, Int.reduceEq, Int.reduceNe, Nat.reduceBneDiff, Int.reduceLE, Int.reduceLT, Int.reduceToNat, Int.reduceAdd, Int.reduceSub, Int.reduceMul, Int.reduceNeg, T_ok4, T_agg4, T_isinfo4, T_info4, T_cells4, T_zero4, T_bool4, T_ok9, T_agg9, T_isinfo9, T_info9, T_cells9, T_zero9, T_str9, T_len9t, T_ok23, T_agg23, T_isinfo23, T_info23, T_cells23, T_zero23, T_build23, T_f23_0, T_p23_0, T_f23_1, T_p23_1, T_eqs23, T_ok84, T_agg84, T_isinfo84, T_info84, T_cells84, T_zero84, T_elem84, T_under84, T_len84s, T_len84n, T_len84b, T_ok86, T_agg86, T_isinfo86, T_info86, T_cells86, T_zero86, T_build86, T_f86_0, T_p86_0, T_f86_1, T_p86_1, T_ok92, T_agg92, T_isinfo92, T_info92, T_cells92, T_zero92, T_int92, h]
theorem wSub_v (an bn : Bool) (a b : ByteArray) (h1 : validB an a.data.toList = true) (h2 : validB bn b.data.toList = true) (ha : a.size ≤ 100000) (hb : b.size ≤ 100000) : SoundAt Tryz.prog 46 [.agg [.bool an, .str a], .agg [.bool bn, .str b]] (outPV (wnum an a - wnum bn b)) := by
  have hL1 := L_bnum a ha
  have hL2 := L_bnum b hb
  have h : (validB an a.data.toList && validB bn b.data.toList) = true := by rw [h1, h2]; rfl
  obtain ⟨n, m, hs, e, hm⟩ := nadd_v an (!bn) (bnum a.data.toList) (bnum b.data.toList) (by omega) (by omega)
  have hLm : (digs BW m).length ≤ 1000000 := Nat.le_trans (L_addW _ _ _ _ hm hL1 hL2) (by decide)
  have e2 : sv (!bn) (bnum b.data.toList) = -(sv bn (bnum b.data.toList)) := by cases bn <;> simp [sv]
  rw [wnum, wnum, Int.sub_eq_add_neg, ← e2, ← e]
  refine sound_go (tb := []) 20 [.cell 4 23, .tmp 5] [0, 1, 2, 3, 4, 5, 9] mixed Tryz.func46 rfl (by kernel_rfl) (by kernel_rfl) (by kernel_rfl) (by kernel_rfl) ?_
  simp -implicitDefEqProofs only [go_sem, Nat.reduceAdd, Nat.reduceMul, Nat.reduceEqDiff, Nat.reduceLT, Nat.reduceLeDiff, Nat.reduceSub, Nat.reduceBEq, reduceIte, reduceCtorEq, Int.reduceEq, Int.reduceNe, Nat.reduceBneDiff, Int.reduceLE, Int.reduceLT, Int.reduceToNat, Int.reduceAdd, Int.reduceSub, Int.reduceMul, Int.reduceNeg, T_ok4, T_agg4, T_isinfo4, T_info4, T_cells4, T_zero4, T_bool4, T_ok9, T_agg9, T_isinfo9, T_info9, T_cells9, T_zero9, T_str9, T_len9t, T_ok23, T_agg23, T_isinfo23, T_info23, T_cells23, T_zero23, T_build23, T_f23_0, T_p23_0, T_f23_1, T_p23_1, T_eqs23, T_ok84, T_agg84, T_isinfo84, T_info84, T_cells84, T_zero84, T_elem84, T_under84, T_len84s, T_len84n, T_len84b, T_ok86, T_agg86, T_isinfo86, T_info86, T_cells86, T_zero86, T_build86, T_f86_0, T_p86_0, T_f86_1, T_p86_1, T_ok92, T_agg92, T_isinfo92, T_info92, T_cells92, T_zero92, T_int92]
  refine gcall_intro _ _ _ _ _ _ _ _ _ (both_v an bn a b) ?_
  simp -implicitDefEqProofs only [go_sem, Nat.reduceAdd, Nat.reduceMul, Nat.reduceEqDiff, Nat.reduceLT, Nat.reduceLeDiff, Nat.reduceSub, Nat.reduceBEq, reduceIte, reduceCtorEq, Int.reduceEq, Int.reduceNe, Nat.reduceBneDiff, Int.reduceLE, Int.reduceLT, Int.reduceToNat, Int.reduceAdd, Int.reduceSub, Int.reduceMul, Int.reduceNeg, T_ok4, T_agg4, T_isinfo4, T_info4, T_cells4, T_zero4, T_bool4, T_ok9, T_agg9, T_isinfo9, T_info9, T_cells9, T_zero9, T_str9, T_len9t, T_ok23, T_agg23, T_isinfo23, T_info23, T_cells23, T_zero23, T_build23, T_f23_0, T_p23_0, T_f23_1, T_p23_1, T_eqs23, T_ok84, T_agg84, T_isinfo84, T_info84, T_cells84, T_zero84, T_elem84, T_under84, T_len84s, T_len84n, T_len84b, T_ok86, T_agg86, T_isinfo86, T_info86, T_cells86, T_zero86, T_build86, T_f86_0, T_p86_0, T_f86_1, T_p86_1, T_ok92, T_agg92, T_isinfo92, T_info92, T_cells92, T_zero92, T_int92, h]
  refine gcall_intro _ _ _ _ _ _ _ _ _ (wof_v an a h1 (by omega)) ?_
  simp -implicitDefEqProofs only [go_sem, Nat.reduceAdd, Nat.reduceMul, Nat.reduceEqDiff, Nat.reduceLT, Nat.reduceLeDiff, Nat.reduceSub, Nat.reduceBEq, reduceIte, reduceCtorEq, Int.reduceEq, Int.reduceNe, Nat.reduceBneDiff, Int.reduceLE, Int.reduceLT, Int.reduceToNat, Int.reduceAdd, Int.reduceSub, Int.reduceMul, Int.reduceNeg, T_ok4, T_agg4, T_isinfo4, T_info4, T_cells4, T_zero4, T_bool4, T_ok9, T_agg9, T_isinfo9, T_info9, T_cells9, T_zero9, T_str9, T_len9t, T_ok23, T_agg23, T_isinfo23, T_info23, T_cells23, T_zero23, T_build23, T_f23_0, T_p23_0, T_f23_1, T_p23_1, T_eqs23, T_ok84, T_agg84, T_isinfo84, T_info84, T_cells84, T_zero84, T_elem84, T_under84, T_len84s, T_len84n, T_len84b, T_ok86, T_agg86, T_isinfo86, T_info86, T_cells86, T_zero86, T_build86, T_f86_0, T_p86_0, T_f86_1, T_p86_1, T_ok92, T_agg92, T_isinfo92, T_info92, T_cells92, T_zero92, T_int92, nP, dw]
  refine gcall_intro _ _ _ _ _ _ _ _ _ (wof_v bn b h2 (by omega)) ?_
  simp -implicitDefEqProofs only [go_sem, Nat.reduceAdd, Nat.reduceMul, Nat.reduceEqDiff, Nat.reduceLT, Nat.reduceLeDiff, Nat.reduceSub, Nat.reduceBEq, reduceIte, reduceCtorEq, Int.reduceEq, Int.reduceNe, Nat.reduceBneDiff, Int.reduceLE, Int.reduceLT, Int.reduceToNat, Int.reduceAdd, Int.reduceSub, Int.reduceMul, Int.reduceNeg, T_ok4, T_agg4, T_isinfo4, T_info4, T_cells4, T_zero4, T_bool4, T_ok9, T_agg9, T_isinfo9, T_info9, T_cells9, T_zero9, T_str9, T_len9t, T_ok23, T_agg23, T_isinfo23, T_info23, T_cells23, T_zero23, T_build23, T_f23_0, T_p23_0, T_f23_1, T_p23_1, T_eqs23, T_ok84, T_agg84, T_isinfo84, T_info84, T_cells84, T_zero84, T_elem84, T_under84, T_len84s, T_len84n, T_len84b, T_ok86, T_agg86, T_isinfo86, T_info86, T_cells86, T_zero86, T_build86, T_f86_0, T_p86_0, T_f86_1, T_p86_1, T_ok92, T_agg92, T_isinfo92, T_info92, T_cells92, T_zero92, T_int92, nP, dw]
  refine gcall_intro _ _ _ _ _ _ _ _ _ (nneg_v bn (bnum b.data.toList)) ?_
  simp -implicitDefEqProofs only [go_sem, Nat.reduceAdd, Nat.reduceMul, Nat.reduceEqDiff, Nat.reduceLT, Nat.reduceLeDiff, Nat.reduceSub, Nat.reduceBEq, reduceIte, reduceCtorEq, Int.reduceEq, Int.reduceNe, Nat.reduceBneDiff, Int.reduceLE, Int.reduceLT, Int.reduceToNat, Int.reduceAdd, Int.reduceSub, Int.reduceMul, Int.reduceNeg, T_ok4, T_agg4, T_isinfo4, T_info4, T_cells4, T_zero4, T_bool4, T_ok9, T_agg9, T_isinfo9, T_info9, T_cells9, T_zero9, T_str9, T_len9t, T_ok23, T_agg23, T_isinfo23, T_info23, T_cells23, T_zero23, T_build23, T_f23_0, T_p23_0, T_f23_1, T_p23_1, T_eqs23, T_ok84, T_agg84, T_isinfo84, T_info84, T_cells84, T_zero84, T_elem84, T_under84, T_len84s, T_len84n, T_len84b, T_ok86, T_agg86, T_isinfo86, T_info86, T_cells86, T_zero86, T_build86, T_f86_0, T_p86_0, T_f86_1, T_p86_1, T_ok92, T_agg92, T_isinfo92, T_info92, T_cells92, T_zero92, T_int92, nP, dw]
  refine gcall_intro _ _ _ _ _ _ _ _ _ hs ?_
  simp -implicitDefEqProofs only [go_sem, Nat.reduceAdd, Nat.reduceMul, Nat.reduceEqDiff, Nat.reduceLT, Nat.reduceLeDiff, Nat.reduceSub, Nat.reduceBEq, reduceIte, reduceCtorEq, Int.reduceEq, Int.reduceNe, Nat.reduceBneDiff, Int.reduceLE, Int.reduceLT, Int.reduceToNat, Int.reduceAdd, Int.reduceSub, Int.reduceMul, Int.reduceNeg, T_ok4, T_agg4, T_isinfo4, T_info4, T_cells4, T_zero4, T_bool4, T_ok9, T_agg9, T_isinfo9, T_info9, T_cells9, T_zero9, T_str9, T_len9t, T_ok23, T_agg23, T_isinfo23, T_info23, T_cells23, T_zero23, T_build23, T_f23_0, T_p23_0, T_f23_1, T_p23_1, T_eqs23, T_ok84, T_agg84, T_isinfo84, T_info84, T_cells84, T_zero84, T_elem84, T_under84, T_len84s, T_len84n, T_len84b, T_ok86, T_agg86, T_isinfo86, T_info86, T_cells86, T_zero86, T_build86, T_f86_0, T_p86_0, T_f86_1, T_p86_1, T_ok92, T_agg92, T_isinfo92, T_info92, T_cells92, T_zero92, T_int92, nP, dw]
  refine gcall_intro _ _ _ _ _ _ _ _ _ (nwide_v n m hLm) ?_
  unfold outPV
  split
  · simp -implicitDefEqProofs only [go_sem, Nat.reduceAdd, Nat.reduceMul, Nat.reduceEqDiff, Nat.reduceLT, Nat.reduceLeDiff, Nat.reduceSub, Nat.reduceBEq, reduceIte, reduceCtorEq, Int.reduceEq, Int.reduceNe, Nat.reduceBneDiff, Int.reduceLE, Int.reduceLT, Int.reduceToNat, Int.reduceAdd, Int.reduceSub, Int.reduceMul, Int.reduceNeg, T_ok4, T_agg4, T_isinfo4, T_info4, T_cells4, T_zero4, T_bool4, T_ok9, T_agg9, T_isinfo9, T_info9, T_cells9, T_zero9, T_str9, T_len9t, T_ok23, T_agg23, T_isinfo23, T_info23, T_cells23, T_zero23, T_build23, T_f23_0, T_p23_0, T_f23_1, T_p23_1, T_eqs23, T_ok84, T_agg84, T_isinfo84, T_info84, T_cells84, T_zero84, T_elem84, T_under84, T_len84s, T_len84n, T_len84b, T_ok86, T_agg86, T_isinfo86, T_info86, T_cells86, T_zero86, T_build86, T_f86_0, T_p86_0, T_f86_1, T_p86_1, T_ok92, T_agg92, T_isinfo92, T_info92, T_cells92, T_zero92, T_int92, wPV]
    exact drawQ_true _ _ (by kernel_rfl)
  · simp -implicitDefEqProofs only [go_sem, Nat.reduceAdd, Nat.reduceMul, Nat.reduceEqDiff, Nat.reduceLT, Nat.reduceLeDiff, Nat.reduceSub, Nat.reduceBEq, reduceIte, reduceCtorEq, Int.reduceEq, Int.reduceNe, Nat.reduceBneDiff, Int.reduceLE, Int.reduceLT, Int.reduceToNat, Int.reduceAdd, Int.reduceSub, Int.reduceMul, Int.reduceNeg, T_ok4, T_agg4, T_isinfo4, T_info4, T_cells4, T_zero4, T_bool4, T_ok9, T_agg9, T_isinfo9, T_info9, T_cells9, T_zero9, T_str9, T_len9t, T_ok23, T_agg23, T_isinfo23, T_info23, T_cells23, T_zero23, T_build23, T_f23_0, T_p23_0, T_f23_1, T_p23_1, T_eqs23, T_ok84, T_agg84, T_isinfo84, T_info84, T_cells84, T_zero84, T_elem84, T_under84, T_len84s, T_len84n, T_len84b, T_ok86, T_agg86, T_isinfo86, T_info86, T_cells86, T_zero86, T_build86, T_f86_0, T_p86_0, T_f86_1, T_p86_1, T_ok92, T_agg92, T_isinfo92, T_info92, T_cells92, T_zero92, T_int92, wPV]
    exact drawQ_true _ _ (by kernel_rfl)
end Go.Proofs.YtkgkebhlpjenaaaGreatDoor

namespace Go.Proofs.YtkgkebhlpjenaaaGreatDoor
open Go.Vl Go.RowKit Go.Dg

theorem lw_v (n : Int) (h1 : -9223372036854775808 ≤ n) (h2 : n ≤ 9223372036854775807) : SoundAt Tryz.prog 60 [.int .i64 n] (wPV n) := by
  have hL := L_small (n := n.natAbs) (by omega)
  have hL2 : (digs 256 n.natAbs).length ≤ 8 := (digs_len_le (by decide) _ 8).2 (by simp only [Nat.reducePow]; omega)
  refine sound_go (tb := []) 6 [.cell 2 23] [0, 2] mixed Tryz.func60 rfl (by kernel_rfl) (by kernel_rfl) (by kernel_rfl) (by kernel_rfl) ?_
  simp -implicitDefEqProofs only [go_sem, Nat.reduceAdd, Nat.reduceMul, Nat.reduceEqDiff, Nat.reduceLT, Nat.reduceLeDiff, Nat.reduceSub, Nat.reduceBEq, reduceIte, reduceCtorEq, Int.reduceEq, Int.reduceNe, Nat.reduceBneDiff, Int.reduceLE, Int.reduceLT, Int.reduceToNat, Int.reduceAdd, Int.reduceSub, Int.reduceMul, Int.reduceNeg, T_ok3, T_agg3, T_isinfo3, T_info3, T_cells3, T_zero3, T_int3, T_ok4, T_agg4, T_isinfo4, T_info4, T_cells4, T_zero4, T_bool4, T_ok9, T_agg9, T_isinfo9, T_info9, T_cells9, T_zero9, T_str9, T_len9t, T_ok23, T_agg23, T_isinfo23, T_info23, T_cells23, T_zero23, T_build23, T_f23_0, T_p23_0, T_f23_1, T_p23_1, T_eqs23, T_ok29, T_agg29, T_isinfo29, T_info29, T_cells29, T_zero29, T_elem29, T_under29, T_len29s, T_len29n, T_len29b, T_ok31, T_agg31, T_isinfo31, T_info31, T_cells31, T_zero31, T_build31, T_f31_0, T_p31_0, T_f31_1, T_p31_1]
  refine gcall_intro _ _ _ _ _ _ _ _ _ (rnum_v n h1 h2) ?_
  simp -implicitDefEqProofs only [go_sem, Nat.reduceAdd, Nat.reduceMul, Nat.reduceEqDiff, Nat.reduceLT, Nat.reduceLeDiff, Nat.reduceSub, Nat.reduceBEq, reduceIte, reduceCtorEq, Int.reduceEq, Int.reduceNe, Nat.reduceBneDiff, Int.reduceLE, Int.reduceLT, Int.reduceToNat, Int.reduceAdd, Int.reduceSub, Int.reduceMul, Int.reduceNeg, T_ok3, T_agg3, T_isinfo3, T_info3, T_cells3, T_zero3, T_int3, T_ok4, T_agg4, T_isinfo4, T_info4, T_cells4, T_zero4, T_bool4, T_ok9, T_agg9, T_isinfo9, T_info9, T_cells9, T_zero9, T_str9, T_len9t, T_ok23, T_agg23, T_isinfo23, T_info23, T_cells23, T_zero23, T_build23, T_f23_0, T_p23_0, T_f23_1, T_p23_1, T_eqs23, T_ok29, T_agg29, T_isinfo29, T_info29, T_cells29, T_zero29, T_elem29, T_under29, T_len29s, T_len29n, T_len29b, T_ok31, T_agg31, T_isinfo31, T_info31, T_cells31, T_zero31, T_build31, T_f31_0, T_p31_0, T_f31_1, T_p31_1, rI, di]
  refine gcall_intro _ _ _ _ _ _ _ _ _ (rto_v n (by omega) (by omega)) ?_
  simp -implicitDefEqProofs only [go_sem, Nat.reduceAdd, Nat.reduceMul, Nat.reduceEqDiff, Nat.reduceLT, Nat.reduceLeDiff, Nat.reduceSub, Nat.reduceBEq, reduceIte, reduceCtorEq, Int.reduceEq, Int.reduceNe, Nat.reduceBneDiff, Int.reduceLE, Int.reduceLT, Int.reduceToNat, Int.reduceAdd, Int.reduceSub, Int.reduceMul, Int.reduceNeg, T_ok3, T_agg3, T_isinfo3, T_info3, T_cells3, T_zero3, T_int3, T_ok4, T_agg4, T_isinfo4, T_info4, T_cells4, T_zero4, T_bool4, T_ok9, T_agg9, T_isinfo9, T_info9, T_cells9, T_zero9, T_str9, T_len9t, T_ok23, T_agg23, T_isinfo23, T_info23, T_cells23, T_zero23, T_build23, T_f23_0, T_p23_0, T_f23_1, T_p23_1, T_eqs23, T_ok29, T_agg29, T_isinfo29, T_info29, T_cells29, T_zero29, T_elem29, T_under29, T_len29s, T_len29n, T_len29b, T_ok31, T_agg31, T_isinfo31, T_info31, T_cells31, T_zero31, T_build31, T_f31_0, T_p31_0, T_f31_1, T_p31_1, wPV]
end Go.Proofs.YtkgkebhlpjenaaaGreatDoor

namespace Go.Proofs.YtkgkebhlpjenaaaGreatDoor
open Go.Shelf Go.Proofs
def Tryz.laysPu14_ren : Go.Shelf.Ren := ⟨fun | 14 => 96 | 16 => 115 | 17 => 116 | 19 => 130 | 20 => 131 | 21 => 132 | 22 => 133 | 23 => 134 | 24 => 135 | 25 => 143 | 27 => 145 | 26 => 144 | 28 => 148 | 29 => 149 | 30 => 122 | 31 => 123 | 32 => 124 | 33 => 125 | 35 => 121 | 34 => 137 | 36 => 138 | 37 => 139 | 38 => 140 | 39 => 146 | 40 => 147 | n => n, fun | 9 => 9 | 3 => 3 | 22 => 92 | 24 => 124 | 25 => 125 | 4 => 4 | 34 => 156 | 5 => 5 | 36 => 136 | 37 => 74 | 0 => 0 | 39 => 159 | 21 => 21 | 44 => 173 | 47 => 155 | 50 => 178 | 48 => 176 | 2 => 2 | 52 => 148 | 55 => 150 | 59 => 164 | 60 => 152 | 20 => 20 | 61 => 165 | 65 => 179 | 66 => 180 | 67 => 128 | n => n, fun | 0 => 3 | 1 => 4 | 2 => 2 | 3 => 6 | 4 => 7 | n => n⟩
theorem Tryz.laysPu14 : Go.Proofs.LaysPu.n14 Tryz.prog Tryz.laysPu14_ren := {
  mixed := by kernel_rfl
  f14 := Tryz.func96.trans (congrArg some (by kernel_rfl))
  f16 := Tryz.func115.trans (congrArg some (by kernel_rfl))
  f17 := Tryz.func116.trans (congrArg some (by kernel_rfl))
  f19 := Tryz.func130.trans (congrArg some (by kernel_rfl))
  f20 := Tryz.func131.trans (congrArg some (by kernel_rfl))
  f21 := Tryz.func132.trans (congrArg some (by kernel_rfl))
  f22 := Tryz.func133.trans (congrArg some (by kernel_rfl))
  f23 := Tryz.func134.trans (congrArg some (by kernel_rfl))
  f24 := Tryz.func135.trans (congrArg some (by kernel_rfl))
  f25 := Tryz.func143.trans (congrArg some (by kernel_rfl))
  f26 := Tryz.func144.trans (congrArg some (by kernel_rfl))
  f27 := Tryz.func145.trans (congrArg some (by kernel_rfl))
  f28 := Tryz.func148.trans (congrArg some (by kernel_rfl))
  f29 := Tryz.func149.trans (congrArg some (by kernel_rfl))
  f30 := Tryz.func122.trans (congrArg some (by kernel_rfl))
  f31 := Tryz.func123.trans (congrArg some (by kernel_rfl))
  f32 := Tryz.func124.trans (congrArg some (by kernel_rfl))
  f33 := Tryz.func125.trans (congrArg some (by kernel_rfl))
  f34 := Tryz.func137.trans (congrArg some (by kernel_rfl))
  f35 := Tryz.func121.trans (congrArg some (by kernel_rfl))
  f36 := Tryz.func138.trans (congrArg some (by kernel_rfl))
  f37 := Tryz.func139.trans (congrArg some (by kernel_rfl))
  f38 := Tryz.func140.trans (congrArg some (by kernel_rfl))
  f39 := Tryz.func146.trans (congrArg some (by kernel_rfl))
  f40 := Tryz.func147.trans (congrArg some (by kernel_rfl))
  t0 := Tryz.underlying0
  a0 := Tryz.isAgg0
  z0 := Tryz.sizeOf0
  v0 := Tryz.zeroValue0
  i0 := by kernel_rfl
  t2 := Tryz.underlying2
  a2 := Tryz.isAgg2
  z2 := Tryz.sizeOf2
  v2 := Tryz.zeroValue2
  i2 := by kernel_rfl
  t3 := Tryz.underlying3
  a3 := Tryz.isAgg3
  z3 := Tryz.sizeOf3
  v3 := Tryz.zeroValue3
  i3 := by kernel_rfl
  t4 := Tryz.underlying4
  a4 := Tryz.isAgg4
  z4 := Tryz.sizeOf4
  v4 := Tryz.zeroValue4
  i4 := by kernel_rfl
  t5 := Tryz.underlying5
  a5 := Tryz.isAgg5
  z5 := Tryz.sizeOf5
  v5 := Tryz.zeroValue5
  i5 := by kernel_rfl
  t9 := Tryz.underlying9
  a9 := Tryz.isAgg9
  z9 := Tryz.sizeOf9
  v9 := Tryz.zeroValue9
  i9 := by kernel_rfl
  t20 := Tryz.underlying20
  a20 := Tryz.isAgg20
  z20 := Tryz.sizeOf20
  v20 := Tryz.zeroValue20
  i20 := by kernel_rfl
  t21 := Tryz.underlying21
  a21 := Tryz.isAgg21
  z21 := Tryz.sizeOf21
  v21 := Tryz.zeroValue21
  i21 := by kernel_rfl
  t22 := Tryz.underlying92
  a22 := Tryz.isAgg92
  z22 := Tryz.sizeOf92
  v22 := Tryz.zeroValue92
  i22 := by kernel_rfl
  t24 := Tryz.underlying124
  a24 := Tryz.isAgg124
  z24 := Tryz.sizeOf124
  v24 := Tryz.zeroValue124
  i24 := by kernel_rfl
  t25 := Tryz.underlying125
  a25 := Tryz.isAgg125
  z25 := Tryz.sizeOf125
  v25 := Tryz.zeroValue125
  i25 := by kernel_rfl
  t34 := Tryz.underlying156
  a34 := Tryz.isAgg156
  z34 := Tryz.sizeOf156
  v34 := Tryz.zeroValue156
  i34 := by kernel_rfl
  c34 := by kernel_rfl
  t36 := Tryz.underlying136
  a36 := Tryz.isAgg136
  z36 := Tryz.sizeOf136
  v36 := Tryz.zeroValue136
  i36 := by kernel_rfl
  t37 := Tryz.underlying74
  a37 := Tryz.isAgg74
  z37 := Tryz.sizeOf74
  v37 := Tryz.zeroValue74
  i37 := by kernel_rfl
  t39 := Tryz.underlying159
  a39 := Tryz.isAgg159
  z39 := Tryz.sizeOf159
  v39 := Tryz.zeroValue159
  i39 := by kernel_rfl
  t44 := Tryz.underlying173
  a44 := Tryz.isAgg173
  z44 := Tryz.sizeOf173
  v44 := Tryz.zeroValue173
  i44 := by kernel_rfl
  t47 := Tryz.underlying155
  a47 := Tryz.isAgg155
  z47 := Tryz.sizeOf155
  v47 := Tryz.zeroValue155
  i47 := by kernel_rfl
  t48 := Tryz.underlying176
  a48 := Tryz.isAgg176
  z48 := Tryz.sizeOf176
  v48 := Tryz.zeroValue176
  i48 := by kernel_rfl
  t50 := Tryz.underlying178
  a50 := Tryz.isAgg178
  z50 := Tryz.sizeOf178
  v50 := Tryz.zeroValue178
  i50 := by kernel_rfl
  t52 := Tryz.underlying148
  a52 := Tryz.isAgg148
  z52 := Tryz.sizeOf148
  v52 := Tryz.zeroValue148
  i52 := by kernel_rfl
  t55 := Tryz.underlying150
  a55 := Tryz.isAgg150
  z55 := Tryz.sizeOf150
  v55 := Tryz.zeroValue150
  i55 := by kernel_rfl
  t59 := Tryz.underlying164
  a59 := Tryz.isAgg164
  z59 := Tryz.sizeOf164
  v59 := Tryz.zeroValue164
  i59 := by kernel_rfl
  t60 := Tryz.underlying152
  a60 := Tryz.isAgg152
  z60 := Tryz.sizeOf152
  v60 := Tryz.zeroValue152
  i60 := by kernel_rfl
  t61 := Tryz.underlying165
  a61 := Tryz.isAgg165
  z61 := Tryz.sizeOf165
  t65 := Tryz.underlying179
  a65 := Tryz.isAgg179
  z65 := Tryz.sizeOf179
  v65 := Tryz.zeroValue179
  i65 := by kernel_rfl
  t66 := Tryz.underlying180
  a66 := Tryz.isAgg180
  z66 := Tryz.sizeOf180
  v66 := Tryz.zeroValue180
  i66 := by kernel_rfl
  t67 := Tryz.underlying128
  a67 := Tryz.isAgg128
  z67 := Tryz.sizeOf128
  v67 := Tryz.zeroValue128
  i67 := by kernel_rfl
  g0 := by kernel_rfl
  m0 := by kernel_rfl
  g1 := by kernel_rfl
  m1 := by kernel_rfl
  g2 := by kernel_rfl
  m2 := by kernel_rfl
  g3 := by kernel_rfl
  m3 := by kernel_rfl
  g4 := by kernel_rfl
  m4 := by kernel_rfl }
open Go.RowKit in
theorem Tryz.strconv_ParseUint_10_at64_ok (s : ByteArray) (hmax : s.size ≤ 9223372036854775806) (u : Nat) (h : Lib.parseUintB 64 s.data.toList = .ok u) (w : World) :
    Calls Tryz.prog 96 #[.string s, .int .i64 10, .int .i64 64] w fun e w' => e = .returned (.tuple #[.int .u64 u, .nilIface]) ∧ (w' = w ∨ w' = Lib.bytesWorld w 5 s) := Any.strconv_ParseUint_10_at64_ok Tryz.laysPu14 s hmax u h w
end Go.Proofs.YtkgkebhlpjenaaaGreatDoor

namespace Go.Proofs.YtkgkebhlpjenaaaGreatDoor
open Go.Vl Go.RowKit Go.Dg

theorem repL_pu {w : World} {im : Im} {s : ByteArray} {us : List Value} (h : RepL w im [.str s, .int .i64 10, .int .i64 64] us) : us = [.string s, .int .i64 10, .int .i64 64] := by
  cases h with
  | cons _ u _ us h t =>
  cases h
  cases t with
  | cons _ u _ us h t =>
  cases h
  cases t with
  | cons _ u _ us h t =>
  cases h
  cases t
  rfl
theorem parseUint_v (s : ByteArray) (hmax : s.size ≤ 9223372036854775806) (u : Nat) (h : Lib.parseUintB 64 s.data.toList = .ok u) : SoundAt Tryz.prog 96 [.str s, .int .i64 10, .int .i64 64] (.tup [.int .u64 (u : Int), .nilI]) := by
  refine .inl ⟨by kernel_rfl, fun w im us _ _ _ hr hi => ?_⟩
  rw [repL_pu hr]
  refine (Tryz.strconv_ParseUint_10_at64_ok s hmax u h w).mono ?_
  rintro e w' ⟨rfl, hw⟩
  refine ⟨_, rfl, ?_, .tup _ [_, _] (.cons _ _ _ _ (.int _ _) (.cons _ _ _ _ .nilI .nil))⟩
  rcases hw with rfl | rfl
  · exact Below.refl _ _
  · exact Lib.bytesWorld_below _ _ _
end Go.Proofs.YtkgkebhlpjenaaaGreatDoor

namespace Go.Proofs.YtkgkebhlpjenaaaGreatDoor
open Go.Vl Go.RowKit Go.Dg

/-- A small number as a wide integer. -/
def wsm (n : Int) : PV := .agg [.bool (decide (n < 0)), .str ⟨(if n = 0 then [] else [UInt8.ofNat n.natAbs]).toArray⟩]
theorem wsm_eq (n : Int) (h : n.natAbs < 256) : wPV n = wsm n := by
  unfold wPV wsm magL
  by_cases h0 : n = 0
  · subst h0; simp [digs_zero]
  · rw [if_neg h0, digs_succ (by decide) (by omega), Nat.mod_eq_of_lt h, Nat.div_eq_of_lt h, digs_zero]
    rfl
def wideTable (f : FuncId) (args : List PV) : Option PV :=
  match args with
  | [.int .i64 n] => if f = 60 then (if n.natAbs < 256 then some (wsm n) else none) else none
  | [.str s, .int .i64 10, .int .i64 64] => if f = 96 then
      (match Lib.parseUintB 64 s.data.toList with
      | .ok u => if s.size ≤ 20 then some (.tup [.int .u64 (u : Int), .nilI]) else none
      | _ => none) else none
  | [.int .u64 (.ofNat x), .int .u64 (.ofNat y), .int .u64 (.ofNat c)] =>
    if f = 118 then (if c ≤ 1 then some (.tup [.int .u64 (((x + y + c) % 18446744073709551616 : Nat) : Int), .int .u64 (((x + y + c) / 18446744073709551616 : Nat) : Int)]) else none)
    else if f = 120 then (if c ≤ 1 then some (.tup [.int .u64 (((x + 18446744073709551616 - y - c) % 18446744073709551616 : Nat) : Int), .int .u64 ((if x < y + c then 1 else 0 : Nat) : Int)]) else none)
    else none
  | _ => none
theorem wideTable_sound (f : FuncId) (args : List PV) (r : PV) (h : wideTable f args = some r) : SoundAt Tryz.prog f args r := by
  unfold wideTable at h
  split at h
  · split at h
    · rename_i e
      split at h
      · rename_i h2
        cases h; subst e
        rw [← wsm_eq _ h2]
        exact lw_v _ (by omega) (by omega)
      · cases h
    · cases h
  · split at h
    · rename_i e
      split at h
      · rename_i u hu
        split at h
        · cases h; subst e; exact parseUint_v _ (by omega) u hu
        · cases h
      · cases h
    · cases h
  · split at h
    · rename_i e
      split at h
      · rename_i h2; cases h; subst e; exact add64_v _ _ _ h2
      · cases h
    · split at h
      · rename_i e
        split at h
        · rename_i h2; cases h; subst e; exact sub64_v _ _ _ h2
        · cases h
      · cases h
  · cases h
theorem known_v : SoundAt Tryz.prog 12 [] (.bool true) := evF_sound mixed wideTable_sound 1000 20 _ _ _ (by kernel_rfl)
end Go.Proofs.YtkgkebhlpjenaaaGreatDoor

namespace Go.Vl
open Go.RowKit
variable {P : Program} {tb : Tab} {nt : Nat} {ks : List Nat} {ops : Array Oper} {base i : Nat} {rest : List Oper} {accs : List Acc} {draw : Bool} {k : List It} {Q : Exit → St → Prop} {st : St}
theorem gcall_eq {dst : Option Tmp} {f f' : FuncId} {args args' : List PV} {es : List Eff} {l : Acc} {r : PV} (hs : SoundAt P f' args' r) (hf : f' = f) (ha : args' = args)
    (h : gops P tb nt ks ops base (i + 1) rest (l :: accs) draw k Q ((effsOn (if flatPV r then [] else es) st).put dst r)) : gcall P tb nt ks f args es l ops base i dst rest accs draw k Q st := by
  subst hf; subst ha; exact ⟨r, hs, h⟩
end Go.Vl

namespace Go.Proofs.YtkgkebhlpjenaaaGreatDoor
open Go.Vl Go.RowKit Go.Dg

def wA (p : Bool × ByteArray) : PV := .agg [.bool p.1, .str p.2]
theorem wA_get (l : List (Bool × ByteArray)) (i : Nat) (h : i < l.length) : (l.map wA)[i]? = some (.agg [.bool l[i].1, .str l[i].2]) := by
  rw [List.getElem?_map, List.getElem?_eq_getElem h]; rfl
theorem short_v (l : List (Bool × ByteArray)) (hl : l.length ≤ 1000) : SoundAt Tryz.prog 11 [.slc (l.map wA)] (.bool (l.all fun p => decide (p.2.size ≤ 60))) := by
  refine sound_go (tb := []) 16 [.tmp 2] [0, 2, 4, 5, 6, 7, 8, 14] mixed Tryz.func11 rfl (by kernel_rfl) (by kernel_rfl) (by kernel_rfl) (by kernel_rfl) ?_
  simp -implicitDefEqProofs only [go_sem, Nat.reduceAdd, Nat.reduceMul, Nat.reduceEqDiff, Nat.reduceLT, Nat.reduceLeDiff, Nat.reduceSub, Nat.reduceBEq, reduceIte, reduceCtorEq, Int.reduceEq, Int.reduceNe, Nat.reduceBneDiff, Int.reduceLE, Int.reduceLT, Int.reduceToNat, Int.reduceAdd, Int.reduceSub, Int.reduceMul, Int.reduceNeg, T_ok3, T_agg3, T_isinfo3, T_info3, T_cells3, T_zero3, T_int3, T_ok4, T_agg4, T_isinfo4, T_info4, T_cells4, T_zero4, T_bool4, T_ok9, T_agg9, T_isinfo9, T_info9, T_cells9, T_zero9, T_str9, T_len9t, T_ok23, T_agg23, T_isinfo23, T_info23, T_cells23, T_zero23, T_build23, T_f23_0, T_p23_0, T_f23_1, T_p23_1, T_eqs23, T_ok79, T_agg79, T_isinfo79, T_info79, T_cells79, T_zero79, T_elem79, T_under79, T_len79s, T_len79n, T_len79b, List.length_map]
  refine g_loop mixed (fun i : { i : Nat // i ≤ l.length ∧ (l.take i).all (fun p => decide (p.2.size ≤ 60)) = true } => St.of [(5, .slc (l.map wA)), (6, .int .i64 (l.length : Int)), (7, .int .i64 (i.1 : Int))] []) (fun i => l.length - i.1) ⟨0, Nat.zero_le _, rfl⟩ ?_ ?_
  · exact le_vars (by simp [varsLe, lkp, ren1, ren0])
  · rintro ⟨i, hi, hall⟩
    by_cases hA : i < l.length
    · have hA' : ((i : Int) < (l.length : Int)) = True := by simp; omega
      have h0 : (0 ≤ (i : Int)) = True := by simp
      have hg := wA_get l i hA
      have hwk := wrap_add1 (a := i) (by omega)
      have htk : l.take (i + 1) = l.take i ++ [l[i]] := by rw [List.take_add_one]; simp [hA]
      by_cases hs : l[i].2.size ≤ 60
      · have hs' : ((60 : Int) < (l[i].2.size : Int)) = False := by simp only [eq_iff_iff, iff_false]; omega
        simp -implicitDefEqProofs only [go_sem, Nat.reduceAdd, Nat.reduceMul, Nat.reduceEqDiff, Nat.reduceLT, Nat.reduceLeDiff, Nat.reduceSub, Nat.reduceBEq, reduceIte, reduceCtorEq, Int.reduceEq, Int.reduceNe, Nat.reduceBneDiff, Int.reduceLE, Int.reduceLT, Int.reduceToNat, Int.reduceAdd, Int.reduceSub, Int.reduceMul, Int.reduceNeg, T_ok3, T_agg3, T_isinfo3, T_info3, T_cells3, T_zero3, T_int3, T_ok4, T_agg4, T_isinfo4, T_info4, T_cells4, T_zero4, T_bool4, T_ok9, T_agg9, T_isinfo9, T_info9, T_cells9, T_zero9, T_str9, T_len9t, T_ok23, T_agg23, T_isinfo23, T_info23, T_cells23, T_zero23, T_build23, T_f23_0, T_p23_0, T_f23_1, T_p23_1, T_eqs23, T_ok79, T_agg79, T_isinfo79, T_info79, T_cells79, T_zero79, T_elem79, T_under79, T_len79s, T_len79n, T_len79b, hA', h0, hg, Int.toNat_natCast, hs', hwk]
        refine ⟨⟨i + 1, hA, ?_⟩, by simp only; omega, le_vars (by simp [varsLe, lkp, ren1, ren0])⟩
        rw [htk, List.all_append, hall]; simp [hs]
      · have hs' : ((60 : Int) < (l[i].2.size : Int)) = True := by simp only [eq_iff_iff, iff_true]; omega
        have e : (l.all fun p => decide (p.2.size ≤ 60)) = false := by
          rw [List.all_eq_false]; exact ⟨l[i], List.getElem_mem hA, by simp; omega⟩
        simp -implicitDefEqProofs only [go_sem, Nat.reduceAdd, Nat.reduceMul, Nat.reduceEqDiff, Nat.reduceLT, Nat.reduceLeDiff, Nat.reduceSub, Nat.reduceBEq, reduceIte, reduceCtorEq, Int.reduceEq, Int.reduceNe, Nat.reduceBneDiff, Int.reduceLE, Int.reduceLT, Int.reduceToNat, Int.reduceAdd, Int.reduceSub, Int.reduceMul, Int.reduceNeg, T_ok3, T_agg3, T_isinfo3, T_info3, T_cells3, T_zero3, T_int3, T_ok4, T_agg4, T_isinfo4, T_info4, T_cells4, T_zero4, T_bool4, T_ok9, T_agg9, T_isinfo9, T_info9, T_cells9, T_zero9, T_str9, T_len9t, T_ok23, T_agg23, T_isinfo23, T_info23, T_cells23, T_zero23, T_build23, T_f23_0, T_p23_0, T_f23_1, T_p23_1, T_eqs23, T_ok79, T_agg79, T_isinfo79, T_info79, T_cells79, T_zero79, T_elem79, T_under79, T_len79s, T_len79n, T_len79b, hA', h0, hg, Int.toNat_natCast, hs', e]
    · have hA' : ((i : Int) < (l.length : Int)) = False := by simp; omega
      rw [List.take_of_length_le (by omega)] at hall
      simp -implicitDefEqProofs only [go_sem, Nat.reduceAdd, Nat.reduceMul, Nat.reduceEqDiff, Nat.reduceLT, Nat.reduceLeDiff, Nat.reduceSub, Nat.reduceBEq, reduceIte, reduceCtorEq, Int.reduceEq, Int.reduceNe, Nat.reduceBneDiff, Int.reduceLE, Int.reduceLT, Int.reduceToNat, Int.reduceAdd, Int.reduceSub, Int.reduceMul, Int.reduceNeg, T_ok3, T_agg3, T_isinfo3, T_info3, T_cells3, T_zero3, T_int3, T_ok4, T_agg4, T_isinfo4, T_info4, T_cells4, T_zero4, T_bool4, T_ok9, T_agg9, T_isinfo9, T_info9, T_cells9, T_zero9, T_str9, T_len9t, T_ok23, T_agg23, T_isinfo23, T_info23, T_cells23, T_zero23, T_build23, T_f23_0, T_p23_0, T_f23_1, T_p23_1, T_eqs23, T_ok79, T_agg79, T_isinfo79, T_info79, T_cells79, T_zero79, T_elem79, T_under79, T_len79s, T_len79n, T_len79b, hA', hall]
theorem valid_v (l : List (Bool × ByteArray)) (hl : l.length ≤ 1000) : SoundAt Tryz.prog 14 [.slc (l.map wA)] (.bool (l.all fun p => validB p.1 p.2.data.toList)) := by
  refine sound_go (tb := []) 15 [.tmp 2] [0, 2, 4, 5, 6, 7, 8, 13] mixed Tryz.func14 rfl (by kernel_rfl) (by kernel_rfl) (by kernel_rfl) (by kernel_rfl) ?_
  simp -implicitDefEqProofs only [go_sem, Nat.reduceAdd, Nat.reduceMul, Nat.reduceEqDiff, Nat.reduceLT, Nat.reduceLeDiff, Nat.reduceSub, Nat.reduceBEq, reduceIte, reduceCtorEq, Int.reduceEq, Int.reduceNe, Nat.reduceBneDiff, Int.reduceLE, Int.reduceLT, Int.reduceToNat, Int.reduceAdd, Int.reduceSub, Int.reduceMul, Int.reduceNeg, T_ok3, T_agg3, T_isinfo3, T_info3, T_cells3, T_zero3, T_int3, T_ok4, T_agg4, T_isinfo4, T_info4, T_cells4, T_zero4, T_bool4, T_ok9, T_agg9, T_isinfo9, T_info9, T_cells9, T_zero9, T_str9, T_len9t, T_ok23, T_agg23, T_isinfo23, T_info23, T_cells23, T_zero23, T_build23, T_f23_0, T_p23_0, T_f23_1, T_p23_1, T_eqs23, T_ok79, T_agg79, T_isinfo79, T_info79, T_cells79, T_zero79, T_elem79, T_under79, T_len79s, T_len79n, T_len79b, List.length_map]
  refine g_loop mixed (fun i : { i : Nat // i ≤ l.length ∧ (l.take i).all (fun p => validB p.1 p.2.data.toList) = true } => St.of [(5, .slc (l.map wA)), (6, .int .i64 (l.length : Int)), (7, .int .i64 (i.1 : Int))] []) (fun i => l.length - i.1) ⟨0, Nat.zero_le _, rfl⟩ ?_ ?_
  · exact le_vars (by simp [varsLe, lkp, ren1, ren0])
  · rintro ⟨i, hi, hall⟩
    by_cases hA : i < l.length
    · have hA' : ((i : Int) < (l.length : Int)) = True := by simp; omega
      have h0 : (0 ≤ (i : Int)) = True := by simp
      have hg := wA_get l i hA
      have hwk := wrap_add1 (a := i) (by omega)
      have htk : l.take (i + 1) = l.take i ++ [l[i]] := by rw [List.take_add_one]; simp [hA]
      simp -implicitDefEqProofs only [go_sem, Nat.reduceAdd, Nat.reduceMul, Nat.reduceEqDiff, Nat.reduceLT, Nat.reduceLeDiff, Nat.reduceSub, Nat.reduceBEq, reduceIte, reduceCtorEq, Int.reduceEq, Int.reduceNe, Nat.reduceBneDiff, Int.reduceLE, Int.reduceLT, Int.reduceToNat, Int.reduceAdd, Int.reduceSub, Int.reduceMul, Int.reduceNeg, T_ok3, T_agg3, T_isinfo3, T_info3, T_cells3, T_zero3, T_int3, T_ok4, T_agg4, T_isinfo4, T_info4, T_cells4, T_zero4, T_bool4, T_ok9, T_agg9, T_isinfo9, T_info9, T_cells9, T_zero9, T_str9, T_len9t, T_ok23, T_agg23, T_isinfo23, T_info23, T_cells23, T_zero23, T_build23, T_f23_0, T_p23_0, T_f23_1, T_p23_1, T_eqs23, T_ok79, T_agg79, T_isinfo79, T_info79, T_cells79, T_zero79, T_elem79, T_under79, T_len79s, T_len79n, T_len79b, hA', h0, hg, Int.toNat_natCast]
      refine gcall_intro _ _ _ _ _ _ _ _ _ (rvalid_v l[i].1 l[i].2) ?_
      cases hs : validB l[i].1 l[i].2.data.toList with
      | true =>
        simp -implicitDefEqProofs only [go_sem, Nat.reduceAdd, Nat.reduceMul, Nat.reduceEqDiff, Nat.reduceLT, Nat.reduceLeDiff, Nat.reduceSub, Nat.reduceBEq, reduceIte, reduceCtorEq, Int.reduceEq, Int.reduceNe, Nat.reduceBneDiff, Int.reduceLE, Int.reduceLT, Int.reduceToNat, Int.reduceAdd, Int.reduceSub, Int.reduceMul, Int.reduceNeg, T_ok3, T_agg3, T_isinfo3, T_info3, T_cells3, T_zero3, T_int3, T_ok4, T_agg4, T_isinfo4, T_info4, T_cells4, T_zero4, T_bool4, T_ok9, T_agg9, T_isinfo9, T_info9, T_cells9, T_zero9, T_str9, T_len9t, T_ok23, T_agg23, T_isinfo23, T_info23, T_cells23, T_zero23, T_build23, T_f23_0, T_p23_0, T_f23_1, T_p23_1, T_eqs23, T_ok79, T_agg79, T_isinfo79, T_info79, T_cells79, T_zero79, T_elem79, T_under79, T_len79s, T_len79n, T_len79b, hwk]
        refine ⟨⟨i + 1, hA, ?_⟩, by simp only; omega, le_vars (by simp [varsLe, lkp, ren1, ren0])⟩
        rw [htk, List.all_append, hall]; simp [hs]
      | false =>
        have e : (l.all fun p => validB p.1 p.2.data.toList) = false := by
          rw [List.all_eq_false]; exact ⟨l[i], List.getElem_mem hA, by simp [hs]⟩
        simp -implicitDefEqProofs only [go_sem, Nat.reduceAdd, Nat.reduceMul, Nat.reduceEqDiff, Nat.reduceLT, Nat.reduceLeDiff, Nat.reduceSub, Nat.reduceBEq, reduceIte, reduceCtorEq, Int.reduceEq, Int.reduceNe, Nat.reduceBneDiff, Int.reduceLE, Int.reduceLT, Int.reduceToNat, Int.reduceAdd, Int.reduceSub, Int.reduceMul, Int.reduceNeg, T_ok3, T_agg3, T_isinfo3, T_info3, T_cells3, T_zero3, T_int3, T_ok4, T_agg4, T_isinfo4, T_info4, T_cells4, T_zero4, T_bool4, T_ok9, T_agg9, T_isinfo9, T_info9, T_cells9, T_zero9, T_str9, T_len9t, T_ok23, T_agg23, T_isinfo23, T_info23, T_cells23, T_zero23, T_build23, T_f23_0, T_p23_0, T_f23_1, T_p23_1, T_eqs23, T_ok79, T_agg79, T_isinfo79, T_info79, T_cells79, T_zero79, T_elem79, T_under79, T_len79s, T_len79n, T_len79b, e]
    · have hA' : ((i : Int) < (l.length : Int)) = False := by simp; omega
      rw [List.take_of_length_le (by omega)] at hall
      simp -implicitDefEqProofs only [go_sem, Nat.reduceAdd, Nat.reduceMul, Nat.reduceEqDiff, Nat.reduceLT, Nat.reduceLeDiff, Nat.reduceSub, Nat.reduceBEq, reduceIte, reduceCtorEq, Int.reduceEq, Int.reduceNe, Nat.reduceBneDiff, Int.reduceLE, Int.reduceLT, Int.reduceToNat, Int.reduceAdd, Int.reduceSub, Int.reduceMul, Int.reduceNeg, T_ok3, T_agg3, T_isinfo3, T_info3, T_cells3, T_zero3, T_int3, T_ok4, T_agg4, T_isinfo4, T_info4, T_cells4, T_zero4, T_bool4, T_ok9, T_agg9, T_isinfo9, T_info9, T_cells9, T_zero9, T_str9, T_len9t, T_ok23, T_agg23, T_isinfo23, T_info23, T_cells23, T_zero23, T_build23, T_f23_0, T_p23_0, T_f23_1, T_p23_1, T_eqs23, T_ok79, T_agg79, T_isinfo79, T_info79, T_cells79, T_zero79, T_elem79, T_under79, T_len79s, T_len79n, T_len79b, hA', hall]
theorem ba_beq (a b : ByteArray) : (a == b) = (a.data == b.data) := rfl
theorem ba_self (b : ByteArray) : (b == b) = true := by rw [ba_beq]; exact beq_self_eq_true _
theorem is_v (n : Int) (hl : (digs E9 n.natAbs).length ≤ 1000000) (hl2 : (digs 256 n.natAbs).length ≤ 100000000) : SoundAt Tryz.prog 18 [wPV (outN n), .int .i64 (outE n), rI n] (.bool true) := by
  have h := rout_v n hl hl2
  rw [outPV_eq] at h
  have e1 : ∀ b : Bool, (b == b) = true := fun b => by cases b <;> rfl
  have e2 : ∀ b : ByteArray, (b == b) = true := ba_self
  have e3 : (outE n == outE n) = true := beq_self_eq_true _
  refine sound_go (tb := []) 22 [.tmp 6] [0, 1, 2, 3, 5, 6, 7, 8] mixed Tryz.func18 rfl (by kernel_rfl) (by kernel_rfl) (by kernel_rfl) (by kernel_rfl) ?_
  simp -implicitDefEqProofs only [go_sem, Nat.reduceAdd, Nat.reduceMul, Nat.reduceEqDiff, Nat.reduceLT, Nat.reduceLeDiff, Nat.reduceSub, Nat.reduceBEq, reduceIte, reduceCtorEq, Int.reduceEq, Int.reduceNe, Nat.reduceBneDiff, Int.reduceLE, Int.reduceLT, Int.reduceToNat, Int.reduceAdd, Int.reduceSub, Int.reduceMul, Int.reduceNeg, T_ok3, T_agg3, T_isinfo3, T_info3, T_cells3, T_zero3, T_int3, T_ok4, T_agg4, T_isinfo4, T_info4, T_cells4, T_zero4, T_bool4, T_ok9, T_agg9, T_isinfo9, T_info9, T_cells9, T_zero9, T_str9, T_len9t, T_ok23, T_agg23, T_isinfo23, T_info23, T_cells23, T_zero23, T_build23, T_f23_0, T_p23_0, T_f23_1, T_p23_1, T_eqs23, T_ok29, T_agg29, T_isinfo29, T_info29, T_cells29, T_zero29, T_elem29, T_under29, T_len29s, T_len29n, T_len29b, T_ok31, T_agg31, T_isinfo31, T_info31, T_cells31, T_zero31, T_build31, T_f31_0, T_p31_0, T_f31_1, T_p31_1, wPV, rI, di]
  refine gcall_intro _ _ _ _ _ _ _ _ _ h ?_
  simp -implicitDefEqProofs only [go_sem, Nat.reduceAdd, Nat.reduceMul, Nat.reduceEqDiff, Nat.reduceLT, Nat.reduceLeDiff, Nat.reduceSub, Nat.reduceBEq, reduceIte, reduceCtorEq, Int.reduceEq, Int.reduceNe, Nat.reduceBneDiff, Int.reduceLE, Int.reduceLT, Int.reduceToNat, Int.reduceAdd, Int.reduceSub, Int.reduceMul, Int.reduceNeg, T_ok3, T_agg3, T_isinfo3, T_info3, T_cells3, T_zero3, T_int3, T_ok4, T_agg4, T_isinfo4, T_info4, T_cells4, T_zero4, T_bool4, T_ok9, T_agg9, T_isinfo9, T_info9, T_cells9, T_zero9, T_str9, T_len9t, T_ok23, T_agg23, T_isinfo23, T_info23, T_cells23, T_zero23, T_build23, T_f23_0, T_p23_0, T_f23_1, T_p23_1, T_eqs23, T_ok29, T_agg29, T_isinfo29, T_info29, T_cells29, T_zero29, T_elem29, T_under29, T_len29s, T_len29n, T_len29b, T_ok31, T_agg31, T_isinfo31, T_info31, T_cells31, T_zero31, T_build31, T_f31_0, T_p31_0, T_f31_1, T_p31_1, wPV, e1, e2, e3]
end Go.Proofs.YtkgkebhlpjenaaaGreatDoor

namespace Go.Proofs.YtkgkebhlpjenaaaGreatDoor
open Go.Vl Go.RowKit Go.Dg

theorem is_small (n : Int) (k : Nat) (hk : k ≤ 1000000) (h : n.natAbs < 256 ^ k) : SoundAt Tryz.prog 18 [wPV (outN n), .int .i64 (outE n), rI n] (.bool true) :=
  is_v n (Nat.le_trans (small_ok n k h).1 hk) (Nat.le_trans (small_ok n k h).2 (by omega))
set_option maxHeartbeats 4000000 in
theorem WideSums_v (an bn : Bool) (a b : ByteArray) : SoundAt Tryz.prog 7 [.agg [.bool an, .str a], .agg [.bool bn, .str b]] (.bool true) := by
  have hs := short_v [(an, a), (bn, b)] (by simp)
  have hv1 := valid_v [(an, a)] (by simp)
  have hv2 := valid_v [(an, a), (bn, b)] (by simp)
  simp only [List.map_cons, List.map_nil, wA, List.all_cons, List.all_nil, Bool.and_true] at hs hv1 hv2
  have hk := known_v
  by_cases hsm : a.size ≤ 60 ∧ b.size ≤ 60
  · obtain ⟨ha, hb⟩ := hsm
    have e0 : (decide (a.size ≤ 60) && decide (b.size ≤ 60)) = true := by simp [ha, hb]
    rw [e0] at hs
    have z1 : ((⟨#[]⟩ : ByteArray) == ⟨#[]⟩) = true := ba_self _
    have z2 : ((2 : Int) == 2) = true := rfl
    have z3 : ((2 : Int) != 2) = false := rfl
    have hx := wnum_lt an a 60 ha
    have hy := wnum_lt bn b 60 hb
    have hy' : (-(wnum bn b)).natAbs < 256 ^ 60 := by rw [Int.natAbs_neg]; exact hy
    have hfa : SoundAt Tryz.prog 15 [.agg [.bool an, .str a]] (rI (wnum an a)) := rfrom_v an a (by omega)
    have hfb : SoundAt Tryz.prog 15 [.agg [.bool bn, .str b]] (rI (wnum bn b)) := rfrom_v bn b (by omega)
    have hrn := rneg_v (wnum an a)
    have hra := radd_v (wnum an a) (wnum bn b) (e9_sum (by decide) hx hy)
    have hrs := rsub_v (wnum an a) (wnum bn b) (e9_sum (by decide) hx hy)
    have i1 := is_small (-(wnum an a)) 60 (by decide) (by rw [Int.natAbs_neg]; exact hx)
    have i2 := is_small (wnum an a + wnum bn b) 61 (by decide) (sum_lt hx hy)
    have i3 := is_small (wnum an a - wnum bn b) 61 (by decide) (by rw [Int.sub_eq_add_neg]; exact sum_lt hx hy')
    cases va : validB an a.data.toList with
    | false =>
      have hn := wNeg_no an a va
      have hp := wAdd_no an bn a b (by rw [va]; rfl)
      have hm := wSub_no an bn a b (by rw [va]; rfl)
      rw [refused_eq] at hn hp hm
      rw [va] at hv1 hv2
      rw [Bool.false_and] at hv2
      refine sound_go (tb := []) 108 [.tmp 4] [0, 1, 2, 3, 4, 5, 6, 7, 8, 9, 10, 11, 12, 17, 62, 67] mixed Tryz.func7 rfl (by kernel_rfl) (by kernel_rfl) (by kernel_rfl) (by kernel_rfl) ?_
      repeat (first | (simp -implicitDefEqProofs only [go_sem, Nat.reduceAdd, Nat.reduceMul, Nat.reduceEqDiff, Nat.reduceLT, Nat.reduceLeDiff, Nat.reduceSub, Nat.reduceBEq, reduceIte, reduceCtorEq, Int.reduceEq, Int.reduceNe, Nat.reduceBneDiff, Int.reduceLE, Int.reduceLT, Int.reduceToNat, Int.reduceAdd, Int.reduceSub, Int.reduceMul, Int.reduceNeg, T_ok3, T_agg3, T_isinfo3, T_info3, T_cells3, T_zero3, T_int3, T_ok4, T_agg4, T_isinfo4, T_info4, T_cells4, T_zero4, T_bool4, T_ok9, T_agg9, T_isinfo9, T_info9, T_cells9, T_zero9, T_str9, T_len9t, T_ok23, T_agg23, T_isinfo23, T_info23, T_cells23, T_zero23, T_build23, T_f23_0, T_p23_0, T_f23_1, T_p23_1, T_eqs23, T_ok26, T_agg26, T_isinfo26, T_info26, T_cells26, T_zero26, T_int26, T_ok29, T_agg29, T_isinfo29, T_info29, T_cells29, T_zero29, T_elem29, T_under29, T_len29s, T_len29n, T_len29b, T_ok31, T_agg31, T_isinfo31, T_info31, T_cells31, T_zero31, T_build31, T_f31_0, T_p31_0, T_f31_1, T_p31_1, T_ok79, T_agg79, T_isinfo79, T_info79, T_cells79, T_zero79, T_elem79, T_under79, T_len79s, T_len79n, T_len79b, z1, z2, z3]) | ((with_reducible refine gcall_eq (hs) ?_ ?_ ?_); (with_reducible rfl); rfl) | ((with_reducible refine gcall_eq (hn) ?_ ?_ ?_); (with_reducible rfl); rfl) | ((with_reducible refine gcall_eq (hp) ?_ ?_ ?_); (with_reducible rfl); rfl) | ((with_reducible refine gcall_eq (hm) ?_ ?_ ?_); (with_reducible rfl); rfl) | ((with_reducible refine gcall_eq (hv1) ?_ ?_ ?_); (with_reducible rfl); rfl) | ((with_reducible refine gcall_eq (hv2) ?_ ?_ ?_); (with_reducible rfl); rfl) | ((with_reducible refine gcall_eq (hk) ?_ ?_ ?_); (with_reducible rfl); rfl) | (with_reducible exact drawQ_true _ _ (by kernel_rfl)) | (with_reducible refine And.intro (drawQ_true _ _ (by kernel_rfl)) ?_))
    | true =>
      have hn := wNeg_v an a va (by omega)
      rw [outPV_eq] at hn
      rw [va] at hv1 hv2
      rw [Bool.true_and] at hv2
      cases vb : validB bn b.data.toList with
      | false =>
        have hp := wAdd_no an bn a b (by rw [va, vb]; rfl)
        have hm := wSub_no an bn a b (by rw [va, vb]; rfl)
        rw [refused_eq] at hp hm
        rw [vb] at hv2
        refine sound_go (tb := []) 108 [.tmp 4] [0, 1, 2, 3, 4, 5, 6, 7, 8, 9, 10, 11, 12, 17, 62, 67] mixed Tryz.func7 rfl (by kernel_rfl) (by kernel_rfl) (by kernel_rfl) (by kernel_rfl) ?_
        repeat (first | (simp -implicitDefEqProofs only [go_sem, Nat.reduceAdd, Nat.reduceMul, Nat.reduceEqDiff, Nat.reduceLT, Nat.reduceLeDiff, Nat.reduceSub, Nat.reduceBEq, reduceIte, reduceCtorEq, Int.reduceEq, Int.reduceNe, Nat.reduceBneDiff, Int.reduceLE, Int.reduceLT, Int.reduceToNat, Int.reduceAdd, Int.reduceSub, Int.reduceMul, Int.reduceNeg, T_ok3, T_agg3, T_isinfo3, T_info3, T_cells3, T_zero3, T_int3, T_ok4, T_agg4, T_isinfo4, T_info4, T_cells4, T_zero4, T_bool4, T_ok9, T_agg9, T_isinfo9, T_info9, T_cells9, T_zero9, T_str9, T_len9t, T_ok23, T_agg23, T_isinfo23, T_info23, T_cells23, T_zero23, T_build23, T_f23_0, T_p23_0, T_f23_1, T_p23_1, T_eqs23, T_ok26, T_agg26, T_isinfo26, T_info26, T_cells26, T_zero26, T_int26, T_ok29, T_agg29, T_isinfo29, T_info29, T_cells29, T_zero29, T_elem29, T_under29, T_len29s, T_len29n, T_len29b, T_ok31, T_agg31, T_isinfo31, T_info31, T_cells31, T_zero31, T_build31, T_f31_0, T_p31_0, T_f31_1, T_p31_1, T_ok79, T_agg79, T_isinfo79, T_info79, T_cells79, T_zero79, T_elem79, T_under79, T_len79s, T_len79n, T_len79b, z1, z2, z3, wPV, rI, di]) | ((with_reducible refine gcall_eq (hs) ?_ ?_ ?_); (with_reducible rfl); rfl) | ((with_reducible refine gcall_eq (hn) ?_ ?_ ?_); (with_reducible rfl); rfl) | ((with_reducible refine gcall_eq (hp) ?_ ?_ ?_); (with_reducible rfl); rfl) | ((with_reducible refine gcall_eq (hm) ?_ ?_ ?_); (with_reducible rfl); rfl) | ((with_reducible refine gcall_eq (hv1) ?_ ?_ ?_); (with_reducible rfl); rfl) | ((with_reducible refine gcall_eq (hv2) ?_ ?_ ?_); (with_reducible rfl); rfl) | ((with_reducible refine gcall_eq (hk) ?_ ?_ ?_); (with_reducible rfl); rfl) | ((with_reducible refine gcall_eq (hfa) ?_ ?_ ?_); (with_reducible rfl); rfl) | ((with_reducible refine gcall_eq (hrn) ?_ ?_ ?_); (with_reducible rfl); rfl) | ((with_reducible refine gcall_eq (i1) ?_ ?_ ?_); (with_reducible rfl); rfl) | (with_reducible exact drawQ_true _ _ (by kernel_rfl)) | (with_reducible refine And.intro (drawQ_true _ _ (by kernel_rfl)) ?_))
      | true =>
        have hp := wAdd_v an bn a b va vb (by omega) (by omega)
        have hm := wSub_v an bn a b va vb (by omega) (by omega)
        rw [outPV_eq] at hp hm
        rw [vb] at hv2
        refine sound_go (tb := []) 108 [.tmp 4] [0, 1, 2, 3, 4, 5, 6, 7, 8, 9, 10, 11, 12, 17, 62, 67] mixed Tryz.func7 rfl (by kernel_rfl) (by kernel_rfl) (by kernel_rfl) (by kernel_rfl) ?_
        repeat (first | (simp -implicitDefEqProofs only [go_sem, Nat.reduceAdd, Nat.reduceMul, Nat.reduceEqDiff, Nat.reduceLT, Nat.reduceLeDiff, Nat.reduceSub, Nat.reduceBEq, reduceIte, reduceCtorEq, Int.reduceEq, Int.reduceNe, Nat.reduceBneDiff, Int.reduceLE, Int.reduceLT, Int.reduceToNat, Int.reduceAdd, Int.reduceSub, Int.reduceMul, Int.reduceNeg, T_ok3, T_agg3, T_isinfo3, T_info3, T_cells3, T_zero3, T_int3, T_ok4, T_agg4, T_isinfo4, T_info4, T_cells4, T_zero4, T_bool4, T_ok9, T_agg9, T_isinfo9, T_info9, T_cells9, T_zero9, T_str9, T_len9t, T_ok23, T_agg23, T_isinfo23, T_info23, T_cells23, T_zero23, T_build23, T_f23_0, T_p23_0, T_f23_1, T_p23_1, T_eqs23, T_ok26, T_agg26, T_isinfo26, T_info26, T_cells26, T_zero26, T_int26, T_ok29, T_agg29, T_isinfo29, T_info29, T_cells29, T_zero29, T_elem29, T_under29, T_len29s, T_len29n, T_len29b, T_ok31, T_agg31, T_isinfo31, T_info31, T_cells31, T_zero31, T_build31, T_f31_0, T_p31_0, T_f31_1, T_p31_1, T_ok79, T_agg79, T_isinfo79, T_info79, T_cells79, T_zero79, T_elem79, T_under79, T_len79s, T_len79n, T_len79b, z1, z2, z3, wPV, rI, di]) | ((with_reducible refine gcall_eq (hs) ?_ ?_ ?_); (with_reducible rfl); rfl) | ((with_reducible refine gcall_eq (hn) ?_ ?_ ?_); (with_reducible rfl); rfl) | ((with_reducible refine gcall_eq (hp) ?_ ?_ ?_); (with_reducible rfl); rfl) | ((with_reducible refine gcall_eq (hm) ?_ ?_ ?_); (with_reducible rfl); rfl) | ((with_reducible refine gcall_eq (hv1) ?_ ?_ ?_); (with_reducible rfl); rfl) | ((with_reducible refine gcall_eq (hv2) ?_ ?_ ?_); (with_reducible rfl); rfl) | ((with_reducible refine gcall_eq (hk) ?_ ?_ ?_); (with_reducible rfl); rfl) | ((with_reducible refine gcall_eq (hfa) ?_ ?_ ?_); (with_reducible rfl); rfl) | ((with_reducible refine gcall_eq (hfb) ?_ ?_ ?_); (with_reducible rfl); rfl) | ((with_reducible refine gcall_eq (hrn) ?_ ?_ ?_); (with_reducible rfl); rfl) | ((with_reducible refine gcall_eq (i1) ?_ ?_ ?_); (with_reducible rfl); rfl) | ((with_reducible refine gcall_eq (hra) ?_ ?_ ?_); (with_reducible rfl); rfl) | ((with_reducible refine gcall_eq (hrs) ?_ ?_ ?_); (with_reducible rfl); rfl) | ((with_reducible refine gcall_eq (i2) ?_ ?_ ?_); (with_reducible rfl); rfl) | ((with_reducible refine gcall_eq (i3) ?_ ?_ ?_); (with_reducible rfl); rfl) | (with_reducible exact drawQ_true _ _ (by kernel_rfl)) | (with_reducible refine And.intro (drawQ_true _ _ (by kernel_rfl)) ?_))
  · have e0 : (decide (a.size ≤ 60) && decide (b.size ≤ 60)) = false := by
      rw [Bool.and_eq_false_iff]; simp only [decide_eq_false_iff_not]; omega
    rw [e0] at hs
    refine sound_go (tb := []) 108 [.tmp 4] [0, 1, 2, 3, 4, 5, 6, 7, 8, 9, 10, 11, 12, 17, 62, 67] mixed Tryz.func7 rfl (by kernel_rfl) (by kernel_rfl) (by kernel_rfl) (by kernel_rfl) ?_
    repeat (first | (simp -implicitDefEqProofs only [go_sem, Nat.reduceAdd, Nat.reduceMul, Nat.reduceEqDiff, Nat.reduceLT, Nat.reduceLeDiff, Nat.reduceSub, Nat.reduceBEq, reduceIte, reduceCtorEq, Int.reduceEq, Int.reduceNe, Nat.reduceBneDiff, Int.reduceLE, Int.reduceLT, Int.reduceToNat, Int.reduceAdd, Int.reduceSub, Int.reduceMul, Int.reduceNeg, T_ok3, T_agg3, T_isinfo3, T_info3, T_cells3, T_zero3, T_int3, T_ok4, T_agg4, T_isinfo4, T_info4, T_cells4, T_zero4, T_bool4, T_ok9, T_agg9, T_isinfo9, T_info9, T_cells9, T_zero9, T_str9, T_len9t, T_ok23, T_agg23, T_isinfo23, T_info23, T_cells23, T_zero23, T_build23, T_f23_0, T_p23_0, T_f23_1, T_p23_1, T_eqs23, T_ok26, T_agg26, T_isinfo26, T_info26, T_cells26, T_zero26, T_int26, T_ok29, T_agg29, T_isinfo29, T_info29, T_cells29, T_zero29, T_elem29, T_under29, T_len29s, T_len29n, T_len29b, T_ok31, T_agg31, T_isinfo31, T_info31, T_cells31, T_zero31, T_build31, T_f31_0, T_p31_0, T_f31_1, T_p31_1, T_ok79, T_agg79, T_isinfo79, T_info79, T_cells79, T_zero79, T_elem79, T_under79, T_len79s, T_len79n, T_len79b]) | ((with_reducible refine gcall_eq (hs) ?_ ?_ ?_); (with_reducible rfl); rfl) | ((with_reducible refine gcall_eq (hk) ?_ ?_ ?_); (with_reducible rfl); rfl) | (with_reducible exact drawQ_true _ _ (by kernel_rfl)) | (with_reducible refine And.intro (drawQ_true _ _ (by kernel_rfl)) ?_))
end Go.Proofs.YtkgkebhlpjenaaaGreatDoor

namespace Go.Proofs.YtkgkebhlpjenaaaGreatDoor
open Go.Vl Go.RowKit Go.Dg

theorem Mul64_v (x y : Nat) (hx : x < 18446744073709551616) (hy : y < 18446744073709551616) : SoundAt Tryz.prog 117 [.int .u64 x, .int .u64 y] (.tup [.int .u64 ((x * y / 18446744073709551616 : Nat) : Int), .int .u64 ((x * y % 18446744073709551616 : Nat) : Int)]) := by
  refine sound_go (tb := []) 51 [.tmp 4, .tmp 5] [0, 1, 4, 5, 6, 7, 8, 9, 10, 11, 12, 13] mixed Tryz.func117 rfl (by kernel_rfl) (by kernel_rfl) (by kernel_rfl) (by kernel_rfl) ?_
  simp -implicitDefEqProofs only [go_sem, Nat.reduceAdd, Nat.reduceMul, Nat.reduceEqDiff, Nat.reduceLT, Nat.reduceLeDiff, Nat.reduceSub, Nat.reduceBEq, reduceIte, reduceCtorEq, Int.reduceEq, Int.reduceNe, Nat.reduceBneDiff, Int.reduceLE, Int.reduceLT, Int.reduceToNat, Int.reduceAdd, Int.reduceSub, Int.reduceMul, Int.reduceNeg, T_ok92, T_agg92, T_isinfo92, T_info92, T_cells92, T_zero92, T_int92, T_ok136, T_agg136, T_isinfo136, T_info136, T_cells136, T_zero136, T_int136, u64_wrap, fdiv32, ← Int.natCast_mul, ← Int.natCast_add, mul64 hx hy]
theorem u64_add (a b : Nat) : IntKind.u64.wrap ((a : Int) + (b : Int)) = (((a + b) % 18446744073709551616 : Nat) : Int) := by rw [← Int.natCast_add, u64_wrap]
/-- What the inner loop makes of a word. -/
theorem mul_word {x y o c : Nat} (hx : x < 18446744073709551616) (hy : y < 18446744073709551616) (ho : o < 18446744073709551616) (hc : c < 18446744073709551616) :
    ((x * y % 18446744073709551616 + o) % 18446744073709551616 + c) % 18446744073709551616 = (o + c + x * y) % 18446744073709551616 ∧
    ((x * y / 18446744073709551616 + (x * y % 18446744073709551616 + o) / 18446744073709551616) % 18446744073709551616 + ((x * y % 18446744073709551616 + o) % 18446744073709551616 + c) / 18446744073709551616) % 18446744073709551616 = (o + c + x * y) / 18446744073709551616 := by
  have h : x * y ≤ 18446744073709551615 * 18446744073709551615 := Nat.mul_le_mul (by omega) (by omega)
  generalize x * y = p at *
  omega
set_option maxRecDepth 2000 in
theorem wmul_v (a b : Nat) (hab : (digs BW a).length + (digs BW b).length ≤ 1000000000) : SoundAt Tryz.prog 97 [dw (digs BW a), dw (digs BW b)] (dw (digs BW (a * b))) := by
  refine sound_go (tb := []) 80 [.tmp 4] [0, 1, 4, 5, 6, 7, 8, 9, 10, 11, 12, 13, 20, 21, 22, 23, 27, 28, 29, 30] mixed Tryz.func97 rfl (by kernel_rfl) (by kernel_rfl) (by kernel_rfl) (by kernel_rfl) ?_
  have hw0 := wrap_add (a := (digs BW a).length) (b := (digs BW b).length) (by omega)
  have hn0 : ((0 : Int) ≤ (((digs BW a).length + (digs BW b).length : Nat) : Int)) = True := by simp only [eq_iff_iff, iff_true]; omega
  have hn1 : ((8 : Nat) : Int) * (((digs BW a).length + (digs BW b).length : Nat) : Int) ≤ 281474976710656 := by omega
  have hn2 : (((digs BW a).length + (digs BW b).length : Nat) : Int) ≤ 9223372036854775807 := by omega
  simp -implicitDefEqProofs only [go_sem, Nat.reduceAdd, Nat.reduceMul, Nat.reduceEqDiff, Nat.reduceLT, Nat.reduceLeDiff, Nat.reduceSub, Nat.reduceBEq, reduceIte, reduceCtorEq, Int.reduceEq, Int.reduceNe, Nat.reduceBneDiff, Int.reduceLE, Int.reduceLT, Int.reduceToNat, Int.reduceAdd, Int.reduceSub, Int.reduceMul, Int.reduceNeg, T_ok3, T_agg3, T_isinfo3, T_info3, T_cells3, T_zero3, T_int3, T_ok84, T_agg84, T_isinfo84, T_info84, T_cells84, T_zero84, T_elem84, T_under84, T_len84s, T_len84n, T_len84b, T_ok92, T_agg92, T_isinfo92, T_info92, T_cells92, T_zero92, T_int92, dw, List.length_map, hw0, hn0, hn1, hn2, Int.toNat_natCast]
  have hrep : List.replicate ((digs BW a).length + (digs BW b).length) (PV.int .u64 0) = (lows BW 0 ((digs BW a).length + (digs BW b).length)).map fW := by rw [lows_zero']; simp
  rw [hrep]
  generalize hla : (digs BW a).length = la at *
  generalize hlb : (digs BW b).length = lb at *
  have hblt : b < BW ^ lb := by rw [← hlb]; exact lt_pow_len BW_2 b
  refine g_loop mixed (fun i : { i : Nat // i ≤ la } => St.of [(0, dw (digs BW a)), (1, dw (digs BW b)), (4, .nilS), (5, .bs 105 1 0 (la + lb)), (20, dw (digs BW a)), (21, .int .i64 (la : Int)), (22, .int .i64 (i.1 : Int))]
    [(105, { els := (lows BW (a % BW ^ i.1 * b) (la + lb)).map fW, esz := 1, ety := 92, fro := 0, live := true, arr := true })]) (fun i => la - i.1) ⟨0, Nat.zero_le _⟩ ?_ ?_
  · refine le_of (θ := [(105, 105)]) rfl ?_ ?_
    · simp [varsLe, lkp, ren1, ren0, dw]
    · simp [boxesLe, lkp, Box.renames, Nat.mod_one]
  · rintro ⟨i, hi⟩
    by_cases hA : i < la
    · have hA' : ((i : Int) < (la : Int)) = True := by simp; omega
      have h0 : (0 ≤ (i : Int)) = True := by simp
      have hga := digs_get_lt BW_2 (show i < (digs BW a).length by omega)
      simp -implicitDefEqProofs only [go_sem, Nat.reduceAdd, Nat.reduceMul, Nat.reduceEqDiff, Nat.reduceLT, Nat.reduceLeDiff, Nat.reduceSub, Nat.reduceBEq, reduceIte, reduceCtorEq, Int.reduceEq, Int.reduceNe, Nat.reduceBneDiff, Int.reduceLE, Int.reduceLT, Int.reduceToNat, Int.reduceAdd, Int.reduceSub, Int.reduceMul, Int.reduceNeg, T_ok3, T_agg3, T_isinfo3, T_info3, T_cells3, T_zero3, T_int3, T_ok84, T_agg84, T_isinfo84, T_info84, T_cells84, T_zero84, T_elem84, T_under84, T_len84s, T_len84n, T_len84b, T_ok92, T_agg92, T_isinfo92, T_info92, T_cells92, T_zero92, T_int92, dw, List.length_map, hla, hlb, hA', h0, dw_get, hga, Int.toNat_natCast]
      generalize hS : a % BW ^ i * b = S at *
      generalize hx : a / BW ^ i % BW = x at *
      have hxl : x < BW := by rw [← hx]; exact Nat.mod_lt _ (by decide)
      refine g_loop mixed (fun k : { k : Nat // k ≤ lb } => St.of [(0, dw (digs BW a)), (1, dw (digs BW b)), (4, .nilS), (5, .bs 105 1 0 (la + lb)), (6, .int .i64 (i : Int)), (7, .int .u64 (x : Int)), (8, .int .u64 (mulC BW S x i b k.1 : Int)), (20, dw (digs BW a)), (21, .int .i64 (la : Int)), (22, .int .i64 (i : Int)), (27, dw (digs BW b)), (28, .int .i64 (lb : Int)), (29, .int .i64 (k.1 : Int))]
        [(105, { els := (mix BW (mulV BW S x i b k.1) S (la + lb) (i + k.1)).map fW, esz := 1, ety := 92, fro := 0, live := true, arr := true })]) (fun k => lb - k.1) ⟨0, Nat.zero_le _⟩ ?_ ?_
      · refine le_of (θ := [(105, 105)]) rfl ?_ ?_
        · simp [varsLe, lkp, ren1, ren0, dw, mulC_zero]
        · simp only [boxesLe, lkp, Box.renames, mulV_zero, Nat.add_zero, and_self, and_true, true_and, if_true]
          rw [mix_all (by decide) rfl]
          exact .inl rfl
      · rintro ⟨k, hk⟩
        have hcl := mulC_lt (B := BW) (S := S) (i := i) (b := b) (k := k) (by decide) hxl
        have hk0 : (0 ≤ (k : Int)) = True := by simp
        have hml := mix_length (B := BW) (mulV BW S x i b k) S (la + lb) (i + k)
        have hwik := wrap_add (a := i) (b := k) (by omega)
        have hik0 : ((0 : Int) ≤ ((i + k : Nat) : Int)) = True := by simp only [eq_iff_iff, iff_true]; omega
        by_cases hB : k < lb
        · have hB' : ((k : Int) < (lb : Int)) = True := by simp; omega
          have hgb := digs_get_lt BW_2 (show k < (digs BW b).length by omega)
          have hwk := wrap_add1 (a := k) (by omega)
          have hin : i + k < la + lb := by omega
          have hin' : (((i + k : Nat) : Int) < ((la + lb : Nat) : Int)) = True := by simp only [eq_iff_iff, iff_true]; omega
          have hget : ((mix BW (mulV BW S x i b k) S (la + lb) (i + k)).map fW)[i + k]? = some (PV.int .u64 ((S / BW ^ (i + k) % BW : Nat) : Int)) := by rw [List.getElem?_map, mix_get _ _ _ _ _ hin, if_neg (Nat.lt_irrefl _)]; rfl
          have hset := mix_set (B := BW) (S := S) (by decide) hin (mulV_low (B := BW) S x i b k) rfl
          obtain ⟨hs1, hs2⟩ := mul_step (B := BW) (by decide) S x i b k
          have hd1 : S / BW ^ (i + k) % BW < BW := Nat.mod_lt _ (by decide)
          have hd2 : b / BW ^ k % BW < BW := Nat.mod_lt _ (by decide)
          generalize S / BW ^ (i + k) % BW = o at *
          generalize b / BW ^ k % BW = y at *
          generalize mulC BW S x i b k = c at *
          obtain ⟨m1, m2⟩ := mul_word hxl hd2 hd1 hcl
          rw [hs1] at m1
          rw [hs2] at m2
          simp -implicitDefEqProofs only [go_sem, Nat.reduceAdd, Nat.reduceMul, Nat.reduceEqDiff, Nat.reduceLT, Nat.reduceLeDiff, Nat.reduceSub, Nat.reduceBEq, reduceIte, reduceCtorEq, Int.reduceEq, Int.reduceNe, Nat.reduceBneDiff, Int.reduceLE, Int.reduceLT, Int.reduceToNat, Int.reduceAdd, Int.reduceSub, Int.reduceMul, Int.reduceNeg, T_ok3, T_agg3, T_isinfo3, T_info3, T_cells3, T_zero3, T_int3, T_ok84, T_agg84, T_isinfo84, T_info84, T_cells84, T_zero84, T_elem84, T_under84, T_len84s, T_len84n, T_len84b, T_ok92, T_agg92, T_isinfo92, T_info92, T_cells92, T_zero92, T_int92, dw, List.length_map, hla, hlb, hB', hk0, dw_get, hgb, Int.toNat_natCast]
          refine gcall_intro _ _ _ _ _ _ _ _ _ (Mul64_v x y hxl hd2) ?_
          simp -implicitDefEqProofs only [go_sem, Nat.reduceAdd, Nat.reduceMul, Nat.reduceEqDiff, Nat.reduceLT, Nat.reduceLeDiff, Nat.reduceSub, Nat.reduceBEq, reduceIte, reduceCtorEq, Int.reduceEq, Int.reduceNe, Nat.reduceBneDiff, Int.reduceLE, Int.reduceLT, Int.reduceToNat, Int.reduceAdd, Int.reduceSub, Int.reduceMul, Int.reduceNeg, T_ok3, T_agg3, T_isinfo3, T_info3, T_cells3, T_zero3, T_int3, T_ok84, T_agg84, T_isinfo84, T_info84, T_cells84, T_zero84, T_elem84, T_under84, T_len84s, T_len84n, T_len84b, T_ok92, T_agg92, T_isinfo92, T_info92, T_cells92, T_zero92, T_int92, hwik, hik0, hin', List.length_map, hml, hget, Int.toNat_natCast]
          refine gcall_intro _ _ _ _ _ _ _ _ _ (add64_v (x * y % 18446744073709551616) o 0 (by decide)) ?_
          simp -implicitDefEqProofs only [go_sem, Nat.reduceAdd, Nat.reduceMul, Nat.reduceEqDiff, Nat.reduceLT, Nat.reduceLeDiff, Nat.reduceSub, Nat.reduceBEq, reduceIte, reduceCtorEq, Int.reduceEq, Int.reduceNe, Nat.reduceBneDiff, Int.reduceLE, Int.reduceLT, Int.reduceToNat, Int.reduceAdd, Int.reduceSub, Int.reduceMul, Int.reduceNeg, T_ok3, T_agg3, T_isinfo3, T_info3, T_cells3, T_zero3, T_int3, T_ok84, T_agg84, T_isinfo84, T_info84, T_cells84, T_zero84, T_elem84, T_under84, T_len84s, T_len84n, T_len84b, T_ok92, T_agg92, T_isinfo92, T_info92, T_cells92, T_zero92, T_int92, u64_add]
          refine gcall_intro _ _ _ _ _ _ _ _ _ (add64_v ((x * y % 18446744073709551616 + o) % 18446744073709551616) c 0 (by decide)) ?_
          simp -implicitDefEqProofs only [go_sem, Nat.reduceAdd, Nat.reduceMul, Nat.reduceEqDiff, Nat.reduceLT, Nat.reduceLeDiff, Nat.reduceSub, Nat.reduceBEq, reduceIte, reduceCtorEq, Int.reduceEq, Int.reduceNe, Nat.reduceBneDiff, Int.reduceLE, Int.reduceLT, Int.reduceToNat, Int.reduceAdd, Int.reduceSub, Int.reduceMul, Int.reduceNeg, T_ok3, T_agg3, T_isinfo3, T_info3, T_cells3, T_zero3, T_int3, T_ok84, T_agg84, T_isinfo84, T_info84, T_cells84, T_zero84, T_elem84, T_under84, T_len84s, T_len84n, T_len84b, T_ok92, T_agg92, T_isinfo92, T_info92, T_cells92, T_zero92, T_int92, u64_add, m1, m2, hwik, hik0, hin', List.length_map, hml, hget, Int.toNat_natCast, hwk, set_fW, hset]
          refine ⟨⟨k + 1, hB⟩, by simp only; omega, le_of (θ := [(105, 105)]) rfl ?_ ?_⟩
          · simp [varsLe, lkp, ren1, ren0, dw]
          · simp [boxesLe, lkp, Box.renames, Nat.add_assoc]
        · have hB' : ((k : Int) < (lb : Int)) = False := by simp; omega
          obtain rfl : k = lb := by omega
          have hwi := wrap_add1 (a := i) (by omega)
          have hin : i + k < la + k := by omega
          have hin' : (((i + k : Nat) : Int) < ((la + k : Nat) : Int)) = True := by simp only [eq_iff_iff, iff_true]; omega
          obtain ⟨e, hget⟩ : ∃ e : Nat, ((mix BW (mulV BW S x i b k) S (la + k) (i + k)).map fW)[i + k]? = some (PV.int .u64 (e : Int)) := ⟨_, by rw [List.getElem?_map, mix_get _ _ _ _ _ hin]; rfl⟩
          have hV : mulV BW S x i b k = a % BW ^ (i + 1) * b := by rw [← hS, ← hx]; exact mulV_full a i b k hblt
          have hS0 : S / BW ^ (i + k) = 0 := by
            rw [← hS]
            refine Nat.div_eq_of_lt ?_
            have h1 := Nat.mod_lt a (Nat.pow_pos (n := i) (show 0 < BW by decide))
            rw [Nat.pow_add]
            rcases Nat.eq_zero_or_pos b with rfl | hb
            · rw [Nat.mul_zero]; exact Nat.mul_pos (Nat.pow_pos (by decide)) (Nat.pow_pos (by decide))
            · exact Nat.lt_of_lt_of_le (Nat.mul_lt_mul_of_pos_right h1 hb) (Nat.mul_le_mul_left _ (Nat.le_of_lt hblt))
          have hC := mulC_add (B := BW) S x i b k
          rw [hS0, Nat.add_zero] at hC
          have hdig : mulV BW S x i b k / BW ^ (i + k) % BW = mulC BW S x i b k := by rw [← hC, Nat.mod_eq_of_lt hcl]
          have hset := mix_set (B := BW) (V := mulV BW S x i b k) (W := mulV BW S x i b k) (S := S) (n := la + k) (m := i + k) (by decide) hin rfl hdig
          have hmx := mix_all (B := BW) (V := mulV BW S x i b k) (S := S) (n := la + k) (m := i + k + 1) (by decide) (by
            rw [Nat.pow_succ, ← Nat.div_div_eq_div_mul, ← Nat.div_div_eq_div_mul, hS0, ← hC, Nat.div_eq_of_lt hcl, Nat.zero_div])
          rw [hmx, hV] at hset
          rw [hV] at hml hget
          simp -implicitDefEqProofs only [go_sem, Nat.reduceAdd, Nat.reduceMul, Nat.reduceEqDiff, Nat.reduceLT, Nat.reduceLeDiff, Nat.reduceSub, Nat.reduceBEq, reduceIte, reduceCtorEq, Int.reduceEq, Int.reduceNe, Nat.reduceBneDiff, Int.reduceLE, Int.reduceLT, Int.reduceToNat, Int.reduceAdd, Int.reduceSub, Int.reduceMul, Int.reduceNeg, T_ok3, T_agg3, T_isinfo3, T_info3, T_cells3, T_zero3, T_int3, T_ok84, T_agg84, T_isinfo84, T_info84, T_cells84, T_zero84, T_elem84, T_under84, T_len84s, T_len84n, T_len84b, T_ok92, T_agg92, T_isinfo92, T_info92, T_cells92, T_zero92, T_int92, dw, List.length_map, hlb, hB', hwik, hik0, hin', hml, hget, hV, Int.toNat_natCast, hwi, set_fW, hset]
          refine ⟨⟨i + 1, hA⟩, by simp only; omega, le_of (θ := [(105, 105)]) rfl ?_ ?_⟩
          · simp [varsLe, lkp, ren1, ren0, dw]
          · simp [boxesLe, lkp, Box.renames]
    · have hA' : ((i : Int) < (la : Int)) = False := by simp; omega
      have hlt : a < BW ^ i := (digs_len_le BW_2 a i).1 (by omega)
      have hil : i = la := by omega
      have hll := lows_length (B := BW) (a % BW ^ i * b) (la + lb)
      have htk : ((lows BW (a % BW ^ i * b) (la + lb)).map fW).take (la + lb) = (lows BW (a % BW ^ i * b) (la + lb)).map fW := List.take_of_length_le (by simp [hll])
      simp -implicitDefEqProofs only [go_sem, Nat.reduceAdd, Nat.reduceMul, Nat.reduceEqDiff, Nat.reduceLT, Nat.reduceLeDiff, Nat.reduceSub, Nat.reduceBEq, reduceIte, reduceCtorEq, Int.reduceEq, Int.reduceNe, Nat.reduceBneDiff, Int.reduceLE, Int.reduceLT, Int.reduceToNat, Int.reduceAdd, Int.reduceSub, Int.reduceMul, Int.reduceNeg, T_ok3, T_agg3, T_isinfo3, T_info3, T_cells3, T_zero3, T_int3, T_ok84, T_agg84, T_isinfo84, T_info84, T_cells84, T_zero84, T_elem84, T_under84, T_len84s, T_len84n, T_len84b, T_ok92, T_agg92, T_isinfo92, T_info92, T_cells92, T_zero92, T_int92, dw, List.length_map, hla, hA', hll, htk]
      refine gcall_intro _ _ _ _ _ _ _ _ _ (wtrim_v (lows BW (a % BW ^ i * b) (la + lb)) (by rw [hll]; simp [maxLen]; omega)) ?_
      simp -implicitDefEqProofs only [go_sem, Nat.reduceAdd, Nat.reduceMul, Nat.reduceEqDiff, Nat.reduceLT, Nat.reduceLeDiff, Nat.reduceSub, Nat.reduceBEq, reduceIte, reduceCtorEq, Int.reduceEq, Int.reduceNe, Nat.reduceBneDiff, Int.reduceLE, Int.reduceLT, Int.reduceToNat, Int.reduceAdd, Int.reduceSub, Int.reduceMul, Int.reduceNeg, T_ok3, T_agg3, T_isinfo3, T_info3, T_cells3, T_zero3, T_int3, T_ok84, T_agg84, T_isinfo84, T_info84, T_cells84, T_zero84, T_elem84, T_under84, T_len84s, T_len84n, T_len84b, T_ok92, T_agg92, T_isinfo92, T_info92, T_cells92, T_zero92, T_int92, dw, List.length_map]
      rw [trimZ_lows BW_2, Nat.mod_eq_of_lt hlt, Nat.mod_eq_of_lt]
      rw [Nat.pow_add, ← hil]
      rcases Nat.eq_zero_or_pos b with rfl | hb
      · rw [Nat.mul_zero]; exact Nat.mul_pos (Nat.pow_pos (by decide)) (Nat.pow_pos (by decide))
      · exact Nat.lt_of_lt_of_le (Nat.mul_lt_mul_of_pos_right hlt hb) (Nat.mul_le_mul_left _ (Nat.le_of_lt hblt))
end Go.Proofs.YtkgkebhlpjenaaaGreatDoor
