/-
  ZW29, ZW30, ZW31 (merged for the claim).
-/
import Derived.Test.YtkgkebhlpjenaaaGreatDoorZW28
import Derived.Test.YtkgkebhlpjenaaaGreatDoorDp
set_option linter.unusedSimpArgs false
set_option linter.unusedVariables false
namespace Go.Proofs.YtkgkebhlpjenaaaGreatDoor
open Go.Vl Go.RowKit Go.Dg

/-- What Quo hands back. -/
def quoPV (x y : Int) : PV := .tup [wPV (outN (x / y)), wPV (outN (x % y)), .int .i64 0]
theorem nqn_le (xn : Bool) (a b : Nat) : nqn xn a b ≤ a + 1 := by
  have := Nat.div_le_self a b
  unfold nqn; split <;> omega
theorem nrn_lt (xn : Bool) (a b : Nat) (hb : 0 < b) : nrn xn a b ≤ b := by
  have := Nat.mod_lt a hb
  unfold nrn; split <;> omega
theorem LW_succ (a : Nat) : (digs BW (a + 1)).length ≤ (digs BW a).length + 1 := by
  refine (digs_len_le BW_2 _ _).2 ?_
  have h := lt_pow_len BW_2 a
  rw [Nat.pow_succ]
  generalize BW ^ (digs BW a).length = M at *
  simp only [BW]
  omega
theorem empty_eq {l : List UInt8} (h : l ≠ []) : (l == []) = false := by cases l with | nil => exact absurd rfl h | cons => rfl
theorem wQuo_no (an bn : Bool) (a b : ByteArray) (h : (validB an a.data.toList && validB bn b.data.toList) = false) :
    SoundAt Tryz.prog 32 [.agg [.bool an, .str a], .agg [.bool bn, .str b]] (.tup [.agg [.bool false, .str ⟨#[]⟩], .agg [.bool false, .str ⟨#[]⟩], .int .i64 2]) := by
  have hv := both_v an bn a b
  rw [h] at hv
  refine sound_go (tb := []) 40 [.cell 4 23, .cell 5 23, .tmp 6] [0, 1, 2, 3, 4, 5, 6, 7, 8, 12, 17] mixed Tryz.func32 rfl (by kernel_rfl) (by kernel_rfl) (by kernel_rfl) (by kernel_rfl) ?_
  repeat (first | (simp -implicitDefEqProofs only [go_sem, Nat.reduceAdd, Nat.reduceMul, Nat.reduceEqDiff, Nat.reduceLT, Nat.reduceLeDiff, Nat.reduceSub, Nat.reduceBEq, reduceIte, reduceCtorEq, Int.reduceEq, Int.reduceNe, Nat.reduceBneDiff, Int.reduceLE, Int.reduceLT, Int.reduceToNat, Int.reduceAdd, Int.reduceSub, Int.reduceMul, Int.reduceNeg, T_ok4, T_agg4, T_isinfo4, T_info4, T_cells4, T_zero4, T_bool4, T_ok9, T_agg9, T_isinfo9, T_info9, T_cells9, T_zero9, T_str9, T_len9t, T_ok23, T_agg23, T_isinfo23, T_info23, T_cells23, T_zero23, T_build23, T_f23_0, T_p23_0, T_f23_1, T_p23_1, T_eqs23, T_ok84, T_agg84, T_isinfo84, T_info84, T_cells84, T_zero84, T_elem84, T_under84, T_len84s, T_len84n, T_len84b, T_ok86, T_agg86, T_isinfo86, T_info86, T_cells86, T_zero86, T_build86, T_f86_0, T_p86_0, T_f86_1, T_p86_1, T_ok92, T_agg92, T_isinfo92, T_info92, T_cells92, T_zero92, T_int92]) | ((with_reducible refine gcall_eq (hv) ?_ ?_ ?_); (with_reducible rfl); rfl) | (with_reducible exact drawQ_true _ _ (by kernel_rfl)) | (with_reducible refine And.intro (drawQ_true _ _ (by kernel_rfl)) ?_))
theorem wQuo_zero (an bn : Bool) (a b : ByteArray) (h1 : validB an a.data.toList = true) (h2 : validB bn b.data.toList = true) (h0 : b.data.toList = []) :
    SoundAt Tryz.prog 32 [.agg [.bool an, .str a], .agg [.bool bn, .str b]] (.tup [.agg [.bool false, .str ⟨#[]⟩], .agg [.bool false, .str ⟨#[]⟩], .int .i64 3]) := by
  have hv := both_v an bn a b
  rw [h1, h2, Bool.true_and] at hv
  have e : (([] : List UInt8) == []) = true := rfl
  refine sound_go (tb := []) 40 [.cell 4 23, .cell 5 23, .tmp 6] [0, 1, 2, 3, 4, 5, 6, 7, 8, 12, 17] mixed Tryz.func32 rfl (by kernel_rfl) (by kernel_rfl) (by kernel_rfl) (by kernel_rfl) ?_
  repeat (first | (simp -implicitDefEqProofs only [go_sem, Nat.reduceAdd, Nat.reduceMul, Nat.reduceEqDiff, Nat.reduceLT, Nat.reduceLeDiff, Nat.reduceSub, Nat.reduceBEq, reduceIte, reduceCtorEq, Int.reduceEq, Int.reduceNe, Nat.reduceBneDiff, Int.reduceLE, Int.reduceLT, Int.reduceToNat, Int.reduceAdd, Int.reduceSub, Int.reduceMul, Int.reduceNeg, T_ok4, T_agg4, T_isinfo4, T_info4, T_cells4, T_zero4, T_bool4, T_ok9, T_agg9, T_isinfo9, T_info9, T_cells9, T_zero9, T_str9, T_len9t, T_ok23, T_agg23, T_isinfo23, T_info23, T_cells23, T_zero23, T_build23, T_f23_0, T_p23_0, T_f23_1, T_p23_1, T_eqs23, T_ok84, T_agg84, T_isinfo84, T_info84, T_cells84, T_zero84, T_elem84, T_under84, T_len84s, T_len84n, T_len84b, T_ok86, T_agg86, T_isinfo86, T_info86, T_cells86, T_zero86, T_build86, T_f86_0, T_p86_0, T_f86_1, T_p86_1, T_ok92, T_agg92, T_isinfo92, T_info92, T_cells92, T_zero92, T_int92, h0, e]) | ((with_reducible refine gcall_eq (hv) ?_ ?_ ?_); (with_reducible rfl); rfl) | (with_reducible exact drawQ_true _ _ (by kernel_rfl)) | (with_reducible refine And.intro (drawQ_true _ _ (by kernel_rfl)) ?_))
theorem wQuo_v (an bn : Bool) (a b : ByteArray) (h1 : validB an a.data.toList = true) (h2 : validB bn b.data.toList = true) (h0 : b.data.toList ≠ []) (ha : a.size ≤ 100000) (hb : b.size ≤ 100000) :
    SoundAt Tryz.prog 32 [.agg [.bool an, .str a], .agg [.bool bn, .str b]] (quoPV (wnum an a) (wnum bn b)) := by
  have hv := both_v an bn a b
  rw [h1, h2, Bool.true_and] at hv
  have hL1 := L_bnum a ha
  have hL2 := L_bnum b hb
  have hoa := wof_v an a h1 (by omega)
  have hob := wof_v bn b h2 (by omega)
  have hbp : 0 < bnum b.data.toList := by
    cases hl : b.data.toList with
    | nil => exact absurd hl h0
    | cons c r =>
      rw [hl] at h2
      simp only [validB, Bool.and_eq_true] at h2
      have hc : c.toNat ≠ 0 := fun e => by
        have : c ≠ 0 := by simpa using h2.2
        exact this (UInt8.toNat_inj.1 (by simpa using e))
      rw [bnum_cons]
      have hp : 0 < c.toNat * 256 ^ r.length := Nat.mul_pos (Nat.pos_of_ne_zero hc) (Nat.pow_pos (by decide))
      omega
  have he := empty_eq h0
  have hd := ndiv_v an bn (bnum a.data.toList) (bnum b.data.toList) hbp (by omega) (by omega)
  obtain ⟨d1, d2⟩ := div_sv an bn (bnum a.data.toList) (bnum b.data.toList) hbp
  have hq := nwide_v (!(an == bn)) (nqn an (bnum a.data.toList) (bnum b.data.toList)) (Nat.le_trans (LW_mono (nqn_le _ _ _)) (Nat.le_trans (LW_succ _) (by omega)))
  have hr := nwide_v false (nrn an (bnum a.data.toList) (bnum b.data.toList)) (Nat.le_trans (LW_mono (nrn_lt _ _ _ hbp)) (by omega))
  have e2 : sv false (nrn an (bnum a.data.toList) (bnum b.data.toList)) = ((nrn an (bnum a.data.toList) (bnum b.data.toList) : Nat) : Int) := rfl
  rw [d1, outPV_eq] at hq
  rw [e2, d2, outPV_eq] at hr
  unfold quoPV wnum
  refine sound_go (tb := []) 40 [.cell 4 23, .cell 5 23, .tmp 6] [0, 1, 2, 3, 4, 5, 6, 7, 8, 12, 17] mixed Tryz.func32 rfl (by kernel_rfl) (by kernel_rfl) (by kernel_rfl) (by kernel_rfl) ?_
  repeat (first | (simp -implicitDefEqProofs only [go_sem, Nat.reduceAdd, Nat.reduceMul, Nat.reduceEqDiff, Nat.reduceLT, Nat.reduceLeDiff, Nat.reduceSub, Nat.reduceBEq, reduceIte, reduceCtorEq, Int.reduceEq, Int.reduceNe, Nat.reduceBneDiff, Int.reduceLE, Int.reduceLT, Int.reduceToNat, Int.reduceAdd, Int.reduceSub, Int.reduceMul, Int.reduceNeg, T_ok4, T_agg4, T_isinfo4, T_info4, T_cells4, T_zero4, T_bool4, T_ok9, T_agg9, T_isinfo9, T_info9, T_cells9, T_zero9, T_str9, T_len9t, T_ok23, T_agg23, T_isinfo23, T_info23, T_cells23, T_zero23, T_build23, T_f23_0, T_p23_0, T_f23_1, T_p23_1, T_eqs23, T_ok84, T_agg84, T_isinfo84, T_info84, T_cells84, T_zero84, T_elem84, T_under84, T_len84s, T_len84n, T_len84b, T_ok86, T_agg86, T_isinfo86, T_info86, T_cells86, T_zero86, T_build86, T_f86_0, T_p86_0, T_f86_1, T_p86_1, T_ok92, T_agg92, T_isinfo92, T_info92, T_cells92, T_zero92, T_int92, he, nP, dw, wPV]) | ((with_reducible refine gcall_eq (hv) ?_ ?_ ?_); (with_reducible rfl); rfl) | ((with_reducible refine gcall_eq (hoa) ?_ ?_ ?_); (with_reducible rfl); rfl) | ((with_reducible refine gcall_eq (hob) ?_ ?_ ?_); (with_reducible rfl); rfl) | ((with_reducible refine gcall_eq (hd) ?_ ?_ ?_); (with_reducible rfl); rfl) | ((with_reducible refine gcall_eq (hq) ?_ ?_ ?_); (with_reducible rfl); rfl) | ((with_reducible refine gcall_eq (hr) ?_ ?_ ?_); (with_reducible rfl); rfl) | (with_reducible exact drawQ_true _ _ (by kernel_rfl)) | (with_reducible refine And.intro (drawQ_true _ _ (by kernel_rfl)) ?_))
end Go.Proofs.YtkgkebhlpjenaaaGreatDoor

namespace Go.Proofs.YtkgkebhlpjenaaaGreatDoor
open Go.Vl Go.RowKit Go.Dg

theorem hd1W : digs BW 1 = [1] := by rw [digs_succ BW_2 (by decide), show 1 % BW = 1 from by decide, show 1 / BW = 0 from by decide, digs_zero]
theorem pow_LW (k : Nat) (hk : k ≤ 65536) : (digs BW (2 ^ k)).length ≤ 65537 := pow2_digs (by decide) k 65536 hk
theorem mulL (a b : Nat) : (digs BW (a * b)).length ≤ (digs BW a).length + (digs BW b).length := by
  refine (digs_len_le BW_2 _ _).2 ?_
  rw [Nat.pow_add]
  exact Nat.mul_lt_mul'' (lt_pow_len BW_2 _) (lt_pow_len BW_2 _)
theorem wShift_no (an : Bool) (a : ByteArray) (n : Int) (h : validB an a.data.toList = false) : SoundAt Tryz.prog 13 [.agg [.bool an, .str a], .int .i64 n] refused := by
  have hv := wvalid_v an a
  rw [h] at hv
  rw [refused_eq]
  refine sound_go (tb := []) 48 [.cell 4 23, .tmp 5] [0, 1, 2, 4, 5, 6, 7, 11, 18, 23] mixed Tryz.func13 rfl (by kernel_rfl) (by kernel_rfl) (by kernel_rfl) (by kernel_rfl) ?_
  repeat (first | (simp -implicitDefEqProofs only [go_sem, Nat.reduceAdd, Nat.reduceMul, Nat.reduceEqDiff, Nat.reduceLT, Nat.reduceLeDiff, Nat.reduceSub, Nat.reduceBEq, reduceIte, reduceCtorEq, Int.reduceEq, Int.reduceNe, Nat.reduceBneDiff, Int.reduceLE, Int.reduceLT, Int.reduceToNat, Int.reduceAdd, Int.reduceSub, Int.reduceMul, Int.reduceNeg, T_ok3, T_agg3, T_isinfo3, T_info3, T_cells3, T_zero3, T_int3, T_ok4, T_agg4, T_isinfo4, T_info4, T_cells4, T_zero4, T_bool4, T_ok9, T_agg9, T_isinfo9, T_info9, T_cells9, T_zero9, T_str9, T_len9t, T_ok23, T_agg23, T_isinfo23, T_info23, T_cells23, T_zero23, T_build23, T_f23_0, T_p23_0, T_f23_1, T_p23_1, T_eqs23, T_ok84, T_agg84, T_isinfo84, T_info84, T_cells84, T_zero84, T_elem84, T_under84, T_len84s, T_len84n, T_len84b, T_ok86, T_agg86, T_isinfo86, T_info86, T_cells86, T_zero86, T_build86, T_f86_0, T_p86_0, T_f86_1, T_p86_1, T_ok92, T_agg92, T_isinfo92, T_info92, T_cells92, T_zero92, T_int92]) | ((with_reducible refine gcall_eq (hv) ?_ ?_ ?_); (with_reducible rfl); rfl) | (with_reducible exact drawQ_true _ _ (by kernel_rfl)) | (with_reducible refine And.intro (drawQ_true _ _ (by kernel_rfl)) ?_))
theorem wShift_far (an : Bool) (a : ByteArray) (n : Int) (h : validB an a.data.toList = true) (hn : n < -65536 ∨ 65536 < n) : SoundAt Tryz.prog 13 [.agg [.bool an, .str a], .int .i64 n] (.tup [.agg [.bool false, .str ⟨#[]⟩], .int .i64 3]) := by
  have hv := wvalid_v an a
  rw [h] at hv
  by_cases h1 : n < -65536
  · have g1 : (n < -65536) = True := by simp only [eq_iff_iff, iff_true]; exact h1
    refine sound_go (tb := []) 48 [.cell 4 23, .tmp 5] [0, 1, 2, 4, 5, 6, 7, 11, 18, 23] mixed Tryz.func13 rfl (by kernel_rfl) (by kernel_rfl) (by kernel_rfl) (by kernel_rfl) ?_
    repeat (first | (simp -implicitDefEqProofs only [go_sem, Nat.reduceAdd, Nat.reduceMul, Nat.reduceEqDiff, Nat.reduceLT, Nat.reduceLeDiff, Nat.reduceSub, Nat.reduceBEq, reduceIte, reduceCtorEq, Int.reduceEq, Int.reduceNe, Nat.reduceBneDiff, Int.reduceLE, Int.reduceLT, Int.reduceToNat, Int.reduceAdd, Int.reduceSub, Int.reduceMul, Int.reduceNeg, T_ok3, T_agg3, T_isinfo3, T_info3, T_cells3, T_zero3, T_int3, T_ok4, T_agg4, T_isinfo4, T_info4, T_cells4, T_zero4, T_bool4, T_ok9, T_agg9, T_isinfo9, T_info9, T_cells9, T_zero9, T_str9, T_len9t, T_ok23, T_agg23, T_isinfo23, T_info23, T_cells23, T_zero23, T_build23, T_f23_0, T_p23_0, T_f23_1, T_p23_1, T_eqs23, T_ok84, T_agg84, T_isinfo84, T_info84, T_cells84, T_zero84, T_elem84, T_under84, T_len84s, T_len84n, T_len84b, T_ok86, T_agg86, T_isinfo86, T_info86, T_cells86, T_zero86, T_build86, T_f86_0, T_p86_0, T_f86_1, T_p86_1, T_ok92, T_agg92, T_isinfo92, T_info92, T_cells92, T_zero92, T_int92, g1]) | ((with_reducible refine gcall_eq (hv) ?_ ?_ ?_); (with_reducible rfl); rfl) | (with_reducible exact drawQ_true _ _ (by kernel_rfl)) | (with_reducible refine And.intro (drawQ_true _ _ (by kernel_rfl)) ?_))
  · have g1 : (n < -65536) = False := by simp only [eq_iff_iff, iff_false]; exact h1
    have g2 : (65536 < n) = True := by simp only [eq_iff_iff, iff_true]; omega
    refine sound_go (tb := []) 48 [.cell 4 23, .tmp 5] [0, 1, 2, 4, 5, 6, 7, 11, 18, 23] mixed Tryz.func13 rfl (by kernel_rfl) (by kernel_rfl) (by kernel_rfl) (by kernel_rfl) ?_
    repeat (first | (simp -implicitDefEqProofs only [go_sem, Nat.reduceAdd, Nat.reduceMul, Nat.reduceEqDiff, Nat.reduceLT, Nat.reduceLeDiff, Nat.reduceSub, Nat.reduceBEq, reduceIte, reduceCtorEq, Int.reduceEq, Int.reduceNe, Nat.reduceBneDiff, Int.reduceLE, Int.reduceLT, Int.reduceToNat, Int.reduceAdd, Int.reduceSub, Int.reduceMul, Int.reduceNeg, T_ok3, T_agg3, T_isinfo3, T_info3, T_cells3, T_zero3, T_int3, T_ok4, T_agg4, T_isinfo4, T_info4, T_cells4, T_zero4, T_bool4, T_ok9, T_agg9, T_isinfo9, T_info9, T_cells9, T_zero9, T_str9, T_len9t, T_ok23, T_agg23, T_isinfo23, T_info23, T_cells23, T_zero23, T_build23, T_f23_0, T_p23_0, T_f23_1, T_p23_1, T_eqs23, T_ok84, T_agg84, T_isinfo84, T_info84, T_cells84, T_zero84, T_elem84, T_under84, T_len84s, T_len84n, T_len84b, T_ok86, T_agg86, T_isinfo86, T_info86, T_cells86, T_zero86, T_build86, T_f86_0, T_p86_0, T_f86_1, T_p86_1, T_ok92, T_agg92, T_isinfo92, T_info92, T_cells92, T_zero92, T_int92, g1, g2]) | ((with_reducible refine gcall_eq (hv) ?_ ?_ ?_); (with_reducible rfl); rfl) | (with_reducible exact drawQ_true _ _ (by kernel_rfl)) | (with_reducible refine And.intro (drawQ_true _ _ (by kernel_rfl)) ?_))
/-- Times a power of 2, rounded down. -/
def shiftI (x n : Int) : Int := if 0 ≤ n then x * 2 ^ n.toNat else x / 2 ^ (-n).toNat
theorem shl_sv (an : Bool) (m k : Nat) : sv an (m * 2 ^ k) = sv an m * 2 ^ k := by
  cases an <;> simp [sv, Int.natCast_mul, Int.neg_mul, Int.natCast_pow]
theorem wShift_v (an : Bool) (a : ByteArray) (n : Int) (h : validB an a.data.toList = true) (h1 : -65536 ≤ n) (h2 : n ≤ 65536) (ha : a.size ≤ 100000) :
    SoundAt Tryz.prog 13 [.agg [.bool an, .str a], .int .i64 n] (outPV (shiftI (wnum an a) n)) := by
  have hv := wvalid_v an a
  rw [h] at hv
  have hL1 := L_bnum a ha
  have hoa := wof_v an a h (by omega)
  have g1 : (n < -65536) = False := by simp only [eq_iff_iff, iff_false]; omega
  have g2 : (65536 < n) = False := by simp only [eq_iff_iff, iff_false]; omega
  unfold shiftI
  by_cases hn : 0 ≤ n
  · rw [if_pos hn]
    obtain ⟨k, rfl⟩ : ∃ k : Nat, n = k := ⟨n.toNat, by omega⟩
    have g3 : (0 ≤ (k : Int)) = True := by simp only [eq_iff_iff, iff_true]; omega
    have hs := wshl_v (bnum a.data.toList) k (by omega) (by omega)
    have hp := pow_LW k (by omega)
    have hm := mulL (bnum a.data.toList) (2 ^ k)
    have hw := nwide_v an (bnum a.data.toList * 2 ^ k) (by omega)
    rw [shl_sv, outPV_eq] at hw
    rw [Int.toNat_natCast, wnum, outPV_eq]
    generalize bnum a.data.toList * 2 ^ k = M at *
    refine sound_go (tb := []) 48 [.cell 4 23, .tmp 5] [0, 1, 2, 4, 5, 6, 7, 11, 18, 23] mixed Tryz.func13 rfl (by kernel_rfl) (by kernel_rfl) (by kernel_rfl) (by kernel_rfl) ?_
    repeat (first | (simp -implicitDefEqProofs only [go_sem, Nat.reduceAdd, Nat.reduceMul, Nat.reduceEqDiff, Nat.reduceLT, Nat.reduceLeDiff, Nat.reduceSub, Nat.reduceBEq, reduceIte, reduceCtorEq, Int.reduceEq, Int.reduceNe, Nat.reduceBneDiff, Int.reduceLE, Int.reduceLT, Int.reduceToNat, Int.reduceAdd, Int.reduceSub, Int.reduceMul, Int.reduceNeg, T_ok3, T_agg3, T_isinfo3, T_info3, T_cells3, T_zero3, T_int3, T_ok4, T_agg4, T_isinfo4, T_info4, T_cells4, T_zero4, T_bool4, T_ok9, T_agg9, T_isinfo9, T_info9, T_cells9, T_zero9, T_str9, T_len9t, T_ok23, T_agg23, T_isinfo23, T_info23, T_cells23, T_zero23, T_build23, T_f23_0, T_p23_0, T_f23_1, T_p23_1, T_eqs23, T_ok84, T_agg84, T_isinfo84, T_info84, T_cells84, T_zero84, T_elem84, T_under84, T_len84s, T_len84n, T_len84b, T_ok86, T_agg86, T_isinfo86, T_info86, T_cells86, T_zero86, T_build86, T_f86_0, T_p86_0, T_f86_1, T_p86_1, T_ok92, T_agg92, T_isinfo92, T_info92, T_cells92, T_zero92, T_int92, g1, g2, g3, nP, dw, wPV]) | ((with_reducible refine gcall_eq (hv) ?_ ?_ ?_); (with_reducible rfl); rfl) | ((with_reducible refine gcall_eq (hoa) ?_ ?_ ?_); (with_reducible rfl); rfl) | ((with_reducible refine gcall_eq (hs) ?_ ?_ ?_); (with_reducible rfl); rfl) | ((with_reducible refine gcall_eq (hw) ?_ ?_ ?_); (with_reducible rfl); rfl) | (with_reducible exact drawQ_true _ _ (by kernel_rfl)) | (with_reducible refine And.intro (drawQ_true _ _ (by kernel_rfl)) ?_))
  · rw [if_neg hn]
    have g3 : (0 ≤ n) = False := by simp only [eq_iff_iff, iff_false]; exact hn
    have hk : IntKind.i64.wrap (0 - n) = ((-n).toNat : Int) := by rw [wrap_i64 (by omega) (by omega)]; omega
    have hkl : (-n).toNat ≤ 65536 := by omega
    generalize (-n).toNat = k at *
    have hs := wshl_v 1 k (by rw [hd1W]; simp) (by omega)
    rw [hd1W, Nat.one_mul] at hs
    have hp := pow_LW k hkl
    have hpos : 0 < 2 ^ k := Nat.pow_pos (by decide)
    have hd := ndiv_v an false (bnum a.data.toList) (2 ^ k) hpos (by omega) (by omega)
    have hw := nwide_v (!(an == false)) (nqn an (bnum a.data.toList) (2 ^ k)) (Nat.le_trans (LW_mono (nqn_le _ _ _)) (Nat.le_trans (LW_succ _) (by omega)))
    have e : sv false (2 ^ k) = 2 ^ k := by simp [sv, Int.natCast_pow]
    rw [(div_sv an false _ _ hpos).1, e, outPV_eq] at hw
    have e4 : (!(an == false)) = an := by cases an <;> rfl
    rw [e4] at hd hw
    rw [wnum, outPV_eq]
    generalize 2 ^ k = M at hs hd hw hp hpos
    refine sound_go (tb := []) 48 [.cell 4 23, .tmp 5] [0, 1, 2, 4, 5, 6, 7, 11, 18, 23] mixed Tryz.func13 rfl (by kernel_rfl) (by kernel_rfl) (by kernel_rfl) (by kernel_rfl) ?_
    repeat (first | (simp -implicitDefEqProofs only [go_sem, Nat.reduceAdd, Nat.reduceMul, Nat.reduceEqDiff, Nat.reduceLT, Nat.reduceLeDiff, Nat.reduceSub, Nat.reduceBEq, reduceIte, reduceCtorEq, Int.reduceEq, Int.reduceNe, Nat.reduceBneDiff, Int.reduceLE, Int.reduceLT, Int.reduceToNat, Int.reduceAdd, Int.reduceSub, Int.reduceMul, Int.reduceNeg, T_ok3, T_agg3, T_isinfo3, T_info3, T_cells3, T_zero3, T_int3, T_ok4, T_agg4, T_isinfo4, T_info4, T_cells4, T_zero4, T_bool4, T_ok9, T_agg9, T_isinfo9, T_info9, T_cells9, T_zero9, T_str9, T_len9t, T_ok23, T_agg23, T_isinfo23, T_info23, T_cells23, T_zero23, T_build23, T_f23_0, T_p23_0, T_f23_1, T_p23_1, T_eqs23, T_ok84, T_agg84, T_isinfo84, T_info84, T_cells84, T_zero84, T_elem84, T_under84, T_len84s, T_len84n, T_len84b, T_ok86, T_agg86, T_isinfo86, T_info86, T_cells86, T_zero86, T_build86, T_f86_0, T_p86_0, T_f86_1, T_p86_1, T_ok92, T_agg92, T_isinfo92, T_info92, T_cells92, T_zero92, T_int92, g1, g2, g3, hk, nP, dw, wPV, List.map_cons, List.map_nil]) | ((with_reducible refine gcall_eq (hv) ?_ ?_ ?_); (with_reducible rfl); rfl) | ((with_reducible refine gcall_eq (hoa) ?_ ?_ ?_); (with_reducible rfl); rfl) | ((with_reducible refine gcall_eq (hs) ?_ ?_ ?_); (with_reducible rfl); rfl) | ((with_reducible refine gcall_eq (hd) ?_ ?_ ?_); (with_reducible rfl); rfl) | ((with_reducible refine gcall_eq (hw) ?_ ?_ ?_); (with_reducible rfl); rfl) | (with_reducible exact drawQ_true _ _ (by kernel_rfl)) | (with_reducible refine And.intro (drawQ_true _ _ (by kernel_rfl)) ?_))
end Go.Proofs.YtkgkebhlpjenaaaGreatDoor

namespace Go.Proofs.YtkgkebhlpjenaaaGreatDoor
open Go.Vl Go.RowKit Go.Dg

/-- A valid ratio. -/
def vRat (n : Bool) (s : ByteArray) (m : Bool) (t : ByteArray) : Bool := validB n s.data.toList && (validB m t.data.toList && (!m && !(t.data.toList == [])))
theorem bnum_pos {n : Bool} {l : List UInt8} (h : validB n l = true) (h0 : l ≠ []) : 0 < bnum l := by
  cases l with
  | nil => exact absurd rfl h0
  | cons c r =>
    simp only [validB, Bool.and_eq_true] at h
    have hc : c.toNat ≠ 0 := fun e => by
      have : c ≠ 0 := by simpa using h.2
      exact this (UInt8.toNat_inj.1 (by simpa using e))
    rw [bnum_cons]
    have hp : 0 < c.toNat * 256 ^ r.length := Nat.mul_pos (Nat.pos_of_ne_zero hc) (Nat.pow_pos (by decide))
    omega
theorem wnum_sign {m : Bool} {t : ByteArray} (h : validB m t.data.toList = true) : decide (0 < (wnum m t).sign) = (!m && !(t.data.toList == [])) := by
  by_cases h0 : t.data.toList = []
  · have e : wnum m t = 0 := by unfold wnum sv; rw [h0]; cases m <;> rfl
    rw [e, h0]; simp
  · have hb := bnum_pos h h0
    rw [empty_eq h0]
    unfold wnum sv
    cases m with
    | false => simp only [Bool.false_eq_true, if_false, Bool.not_false, Bool.and_self]; rw [Int.sign_eq_one_of_pos (by omega)]; rfl
    | true => simp only [if_true, Bool.not_true, Bool.false_and]; rw [Int.sign_eq_neg_one_of_neg (by omega)]; rfl
theorem wValidRatio_v (n : Bool) (s : ByteArray) (m : Bool) (t : ByteArray) (ht : t.size ≤ 100000) : SoundAt Tryz.prog 26 [.agg [.bool n, .str s, .bool m, .str t]] (.bool (vRat n s m t)) := by
  have hb := both_v n m s t
  unfold vRat
  cases h1 : validB n s.data.toList with
  | false =>
    rw [h1, Bool.false_and] at hb
    rw [Bool.false_and]
    refine sound_go (tb := []) 14 [.tmp 2] [0, 1, 2] mixed Tryz.func26 rfl (by kernel_rfl) (by kernel_rfl) (by kernel_rfl) (by kernel_rfl) ?_
    repeat (first | (simp -implicitDefEqProofs only [go_sem, Nat.reduceAdd, Nat.reduceMul, Nat.reduceEqDiff, Nat.reduceLT, Nat.reduceLeDiff, Nat.reduceSub, Nat.reduceBEq, reduceIte, reduceCtorEq, Int.reduceEq, Int.reduceNe, Nat.reduceBneDiff, Int.reduceLE, Int.reduceLT, Int.reduceToNat, Int.reduceAdd, Int.reduceSub, Int.reduceMul, Int.reduceNeg, T_ok3, T_agg3, T_isinfo3, T_info3, T_cells3, T_zero3, T_int3, T_ok4, T_agg4, T_isinfo4, T_info4, T_cells4, T_zero4, T_bool4, T_ok9, T_agg9, T_isinfo9, T_info9, T_cells9, T_zero9, T_str9, T_len9t, T_ok23, T_agg23, T_isinfo23, T_info23, T_cells23, T_zero23, T_build23, T_f23_0, T_p23_0, T_f23_1, T_p23_1, T_eqs23, T_ok42, T_agg42, T_isinfo42, T_info42, T_cells42, T_zero42, T_build42, T_f42_0, T_p42_0, T_f42_1, T_p42_1, T_eqs42]) | ((with_reducible refine gcall_eq (hb) ?_ ?_ ?_); (with_reducible rfl); rfl) | (with_reducible exact drawQ_true _ _ (by kernel_rfl)) | (with_reducible refine And.intro (drawQ_true _ _ (by kernel_rfl)) ?_))
  | true =>
    rw [h1, Bool.true_and] at hb
    rw [Bool.true_and]
    cases h2 : validB m t.data.toList with
    | false =>
      rw [h2] at hb
      rw [Bool.false_and]
      refine sound_go (tb := []) 14 [.tmp 2] [0, 1, 2] mixed Tryz.func26 rfl (by kernel_rfl) (by kernel_rfl) (by kernel_rfl) (by kernel_rfl) ?_
      repeat (first | (simp -implicitDefEqProofs only [go_sem, Nat.reduceAdd, Nat.reduceMul, Nat.reduceEqDiff, Nat.reduceLT, Nat.reduceLeDiff, Nat.reduceSub, Nat.reduceBEq, reduceIte, reduceCtorEq, Int.reduceEq, Int.reduceNe, Nat.reduceBneDiff, Int.reduceLE, Int.reduceLT, Int.reduceToNat, Int.reduceAdd, Int.reduceSub, Int.reduceMul, Int.reduceNeg, T_ok3, T_agg3, T_isinfo3, T_info3, T_cells3, T_zero3, T_int3, T_ok4, T_agg4, T_isinfo4, T_info4, T_cells4, T_zero4, T_bool4, T_ok9, T_agg9, T_isinfo9, T_info9, T_cells9, T_zero9, T_str9, T_len9t, T_ok23, T_agg23, T_isinfo23, T_info23, T_cells23, T_zero23, T_build23, T_f23_0, T_p23_0, T_f23_1, T_p23_1, T_eqs23, T_ok42, T_agg42, T_isinfo42, T_info42, T_cells42, T_zero42, T_build42, T_f42_0, T_p42_0, T_f42_1, T_p42_1, T_eqs42]) | ((with_reducible refine gcall_eq (hb) ?_ ?_ ?_); (with_reducible rfl); rfl) | (with_reducible exact drawQ_true _ _ (by kernel_rfl)) | (with_reducible refine And.intro (drawQ_true _ _ (by kernel_rfl)) ?_))
    | true =>
      rw [h2] at hb
      have hs := wSign_v m t h2 ht
      rw [Bool.true_and, ← wnum_sign h2]
      refine sound_go (tb := []) 14 [.tmp 2] [0, 1, 2] mixed Tryz.func26 rfl (by kernel_rfl) (by kernel_rfl) (by kernel_rfl) (by kernel_rfl) ?_
      repeat (first | (simp -implicitDefEqProofs only [go_sem, Nat.reduceAdd, Nat.reduceMul, Nat.reduceEqDiff, Nat.reduceLT, Nat.reduceLeDiff, Nat.reduceSub, Nat.reduceBEq, reduceIte, reduceCtorEq, Int.reduceEq, Int.reduceNe, Nat.reduceBneDiff, Int.reduceLE, Int.reduceLT, Int.reduceToNat, Int.reduceAdd, Int.reduceSub, Int.reduceMul, Int.reduceNeg, T_ok3, T_agg3, T_isinfo3, T_info3, T_cells3, T_zero3, T_int3, T_ok4, T_agg4, T_isinfo4, T_info4, T_cells4, T_zero4, T_bool4, T_ok9, T_agg9, T_isinfo9, T_info9, T_cells9, T_zero9, T_str9, T_len9t, T_ok23, T_agg23, T_isinfo23, T_info23, T_cells23, T_zero23, T_build23, T_f23_0, T_p23_0, T_f23_1, T_p23_1, T_eqs23, T_ok42, T_agg42, T_isinfo42, T_info42, T_cells42, T_zero42, T_build42, T_f42_0, T_p42_0, T_f42_1, T_p42_1, T_eqs42]) | ((with_reducible refine gcall_eq (hb) ?_ ?_ ?_); (with_reducible rfl); rfl) | ((with_reducible refine gcall_eq (hs) ?_ ?_ ?_); (with_reducible rfl); rfl) | (with_reducible exact drawQ_true _ _ (by kernel_rfl)) | (with_reducible refine And.intro (drawQ_true _ _ (by kernel_rfl)) ?_))
theorem wpair_v (n1 m1 n2 m2 : Bool) (s1 t1 s2 t2 : ByteArray) (h1 : t1.size ≤ 100000) (h2 : t2.size ≤ 100000) : SoundAt Tryz.prog 81 [.agg [.bool n1, .str s1, .bool m1, .str t1], .agg [.bool n2, .str s2, .bool m2, .str t2]] (.bool (vRat n1 s1 m1 t1 && vRat n2 s2 m2 t2)) := by
  have a1 := wValidRatio_v n1 s1 m1 t1 h1
  have a2 := wValidRatio_v n2 s2 m2 t2 h2
  cases hv : vRat n1 s1 m1 t1 with
  | false =>
    rw [hv] at a1
    rw [Bool.false_and]
    refine sound_go (tb := []) 11 [.tmp 4] [0, 1, 2, 3, 4] mixed Tryz.func81 rfl (by kernel_rfl) (by kernel_rfl) (by kernel_rfl) (by kernel_rfl) ?_
    repeat (first | (simp -implicitDefEqProofs only [go_sem, Nat.reduceAdd, Nat.reduceMul, Nat.reduceEqDiff, Nat.reduceLT, Nat.reduceLeDiff, Nat.reduceSub, Nat.reduceBEq, reduceIte, reduceCtorEq, Int.reduceEq, Int.reduceNe, Nat.reduceBneDiff, Int.reduceLE, Int.reduceLT, Int.reduceToNat, Int.reduceAdd, Int.reduceSub, Int.reduceMul, Int.reduceNeg, T_ok4, T_agg4, T_isinfo4, T_info4, T_cells4, T_zero4, T_bool4, T_ok9, T_agg9, T_isinfo9, T_info9, T_cells9, T_zero9, T_str9, T_len9t, T_ok23, T_agg23, T_isinfo23, T_info23, T_cells23, T_zero23, T_build23, T_f23_0, T_p23_0, T_f23_1, T_p23_1, T_eqs23, T_ok42, T_agg42, T_isinfo42, T_info42, T_cells42, T_zero42, T_build42, T_f42_0, T_p42_0, T_f42_1, T_p42_1, T_eqs42]) | ((with_reducible refine gcall_eq (a1) ?_ ?_ ?_); (with_reducible rfl); rfl) | (with_reducible exact drawQ_true _ _ (by kernel_rfl)) | (with_reducible refine And.intro (drawQ_true _ _ (by kernel_rfl)) ?_))
  | true =>
    rw [hv] at a1
    rw [Bool.true_and]
    refine sound_go (tb := []) 11 [.tmp 4] [0, 1, 2, 3, 4] mixed Tryz.func81 rfl (by kernel_rfl) (by kernel_rfl) (by kernel_rfl) (by kernel_rfl) ?_
    repeat (first | (simp -implicitDefEqProofs only [go_sem, Nat.reduceAdd, Nat.reduceMul, Nat.reduceEqDiff, Nat.reduceLT, Nat.reduceLeDiff, Nat.reduceSub, Nat.reduceBEq, reduceIte, reduceCtorEq, Int.reduceEq, Int.reduceNe, Nat.reduceBneDiff, Int.reduceLE, Int.reduceLT, Int.reduceToNat, Int.reduceAdd, Int.reduceSub, Int.reduceMul, Int.reduceNeg, T_ok4, T_agg4, T_isinfo4, T_info4, T_cells4, T_zero4, T_bool4, T_ok9, T_agg9, T_isinfo9, T_info9, T_cells9, T_zero9, T_str9, T_len9t, T_ok23, T_agg23, T_isinfo23, T_info23, T_cells23, T_zero23, T_build23, T_f23_0, T_p23_0, T_f23_1, T_p23_1, T_eqs23, T_ok42, T_agg42, T_isinfo42, T_info42, T_cells42, T_zero42, T_build42, T_f42_0, T_p42_0, T_f42_1, T_p42_1, T_eqs42]) | ((with_reducible refine gcall_eq (a1) ?_ ?_ ?_); (with_reducible rfl); rfl) | ((with_reducible refine gcall_eq (a2) ?_ ?_ ?_); (with_reducible rfl); rfl) | (with_reducible exact drawQ_true _ _ (by kernel_rfl)) | (with_reducible refine And.intro (drawQ_true _ _ (by kernel_rfl)) ?_))
/-- The greatest common divisor, with the sign of the denominator. -/
def gN (x y : Int) : Int := if y < 0 then -((Nat.gcd x.natAbs y.natAbs : Nat) : Int) else ((Nat.gcd x.natAbs y.natAbs : Nat) : Int)
def lowN (x y : Int) : Int := x / gN x y
def lowD (x y : Int) : Int := y / gN x y
/-- A ratio, as the calls hand it back. -/
def ratPV (x y : Int) : PV := .agg [.bool (decide (x < 0)), .str ⟨(magL x.natAbs).toArray⟩, .bool (decide (y < 0)), .str ⟨(magL y.natAbs).toArray⟩]
def big (x y : Int) : Bool := decide (65536 < blen x.natAbs) || decide (65536 < blen y.natAbs)
def noRat (e : Int) : PV := .tup [.agg [.bool false, .str ⟨#[]⟩, .bool false, .str ⟨#[]⟩], .int .i64 e]
def outQ (x y : Int) : PV := if big x y = true then noRat 7 else .tup [ratPV x y, .int .i64 0]
theorem outQ_t {x y : Int} (h : big x y = true) : outQ x y = noRat 7 := by rw [outQ, if_pos h]
theorem outQ_f {x y : Int} (h : big x y = false) : outQ x y = .tup [ratPV x y, .int .i64 0] := by rw [outQ, if_neg (by rw [h]; decide)]
theorem sv_abs (n : Bool) (m : Nat) : (sv n m).natAbs = m := by cases n <;> simp [sv]
theorem sv_neg {n : Bool} {m : Nat} (h : 0 < m) : (sv n m < 0) = (n = true) := by cases n <;> simp [sv] <;> omega
theorem gN_sv (xn yn : Bool) (a b : Nat) (hb : 0 < b) : gN (sv xn a) (sv yn b) = sv yn (Nat.gcd a b) := by
  unfold gN
  rw [sv_abs, sv_abs]
  simp only [sv_neg hb]
  cases yn <;> rfl
theorem outPV_no {n : Int} (h : 65536 < blen n.natAbs) : outPV n = .tup [.agg [.bool false, .str ⟨#[]⟩], .int .i64 7] := by rw [outPV, if_pos h, wPV_zero]
theorem outPV_yes {n : Int} (h : ¬ 65536 < blen n.natAbs) : outPV n = .tup [.agg [.bool (decide (n < 0)), .str ⟨(magL n.natAbs).toArray⟩], .int .i64 0] := by rw [outPV, if_neg h]; rfl
theorem wlowest_v (xn yn : Bool) (a b : Nat) (hb : 0 < b) (ha : (digs BW a).length ≤ 900000) (hbl : (digs BW b).length ≤ 900000) :
    SoundAt Tryz.prog 77 [nP xn a, nP yn b] (outQ (lowN (sv xn a) (sv yn b)) (lowD (sv xn a) (sv yn b))) := by
  have hg := wgcd_v a b (by omega) (by omega)
  have hgp : 0 < Nat.gcd a b := Nat.gcd_pos_of_pos_right _ hb
  have hgl : (digs BW (Nat.gcd a b)).length ≤ 900000 := Nat.le_trans (LW_mono (Nat.gcd_le_right _ hb)) hbl
  have d1 := ndiv_v xn yn a (Nat.gcd a b) hgp (by omega) (by omega)
  have d2 := ndiv_v yn yn b (Nat.gcd a b) hgp (by omega) (by omega)
  have w1 := nwide_v (!(xn == yn)) (nqn xn a (Nat.gcd a b)) (Nat.le_trans (LW_mono (nqn_le _ _ _)) (Nat.le_trans (LW_succ _) (by omega)))
  have w2 := nwide_v (!(yn == yn)) (nqn yn b (Nat.gcd a b)) (Nat.le_trans (LW_mono (nqn_le _ _ _)) (Nat.le_trans (LW_succ _) (by omega)))
  rw [(div_sv xn yn a _ hgp).1] at w1
  rw [(div_sv yn yn b _ hgp).1] at w2
  have e0 : (!(yn == yn)) = false := by cases yn <;> rfl
  rw [e0] at d2 w2
  unfold lowN lowD
  rw [gN_sv _ _ _ _ hb]
  generalize sv xn a / sv yn (Nat.gcd a b) = n at *
  generalize sv yn b / sv yn (Nat.gcd a b) = d at *
  generalize nqn xn a (Nat.gcd a b) = q1 at *
  generalize nqn yn b (Nat.gcd a b) = q2 at *
  generalize nrn xn a (Nat.gcd a b) = r1 at *
  generalize nrn yn b (Nat.gcd a b) = r2 at *
  generalize Nat.gcd a b = g at *
  generalize (!(xn == yn)) = s at *
  have z1 : ((7 : Int) != 0) = true := rfl
  have z0 : ((0 : Int) != 0) = false := rfl
  by_cases h1 : 65536 < blen n.natAbs
  · rw [outQ_t (by simp [big, h1])]
    rw [outPV_no h1] at w1
    by_cases h2 : 65536 < blen d.natAbs
    · rw [outPV_no h2] at w2
      refine sound_go (tb := []) 51 [.cell 4 42, .tmp 5] [0, 1, 2, 3, 4, 5, 6, 7, 8, 9, 10, 46] mixed Tryz.func77 rfl (by kernel_rfl) (by kernel_rfl) (by kernel_rfl) (by kernel_rfl) ?_
      repeat (first | (simp -implicitDefEqProofs only [go_sem, Nat.reduceAdd, Nat.reduceMul, Nat.reduceEqDiff, Nat.reduceLT, Nat.reduceLeDiff, Nat.reduceSub, Nat.reduceBEq, reduceIte, reduceCtorEq, Int.reduceEq, Int.reduceNe, Nat.reduceBneDiff, Int.reduceLE, Int.reduceLT, Int.reduceToNat, Int.reduceAdd, Int.reduceSub, Int.reduceMul, Int.reduceNeg, T_ok4, T_agg4, T_isinfo4, T_info4, T_cells4, T_zero4, T_bool4, T_ok9, T_agg9, T_isinfo9, T_info9, T_cells9, T_zero9, T_str9, T_len9t, T_ok23, T_agg23, T_isinfo23, T_info23, T_cells23, T_zero23, T_build23, T_f23_0, T_p23_0, T_f23_1, T_p23_1, T_eqs23, T_ok26, T_agg26, T_isinfo26, T_info26, T_cells26, T_zero26, T_int26, T_ok42, T_agg42, T_isinfo42, T_info42, T_cells42, T_zero42, T_build42, T_f42_0, T_p42_0, T_f42_1, T_p42_1, T_eqs42, T_ok84, T_agg84, T_isinfo84, T_info84, T_cells84, T_zero84, T_elem84, T_under84, T_len84s, T_len84n, T_len84b, T_ok86, T_agg86, T_isinfo86, T_info86, T_cells86, T_zero86, T_build86, T_f86_0, T_p86_0, T_f86_1, T_p86_1, T_ok92, T_agg92, T_isinfo92, T_info92, T_cells92, T_zero92, T_int92, nP, dw, z1, z0, noRat]) | ((with_reducible refine gcall_eq (hg) ?_ ?_ ?_); (with_reducible rfl); rfl) | ((with_reducible refine gcall_eq (d1) ?_ ?_ ?_); (with_reducible rfl); rfl) | ((with_reducible refine gcall_eq (d2) ?_ ?_ ?_); (with_reducible rfl); rfl) | ((with_reducible refine gcall_eq (w1) ?_ ?_ ?_); (with_reducible rfl); rfl) | ((with_reducible refine gcall_eq (w2) ?_ ?_ ?_); (with_reducible rfl); rfl) | (with_reducible exact drawQ_true _ _ (by kernel_rfl)) | (with_reducible refine And.intro (drawQ_true _ _ (by kernel_rfl)) ?_))
    · rw [outPV_yes h2] at w2
      refine sound_go (tb := []) 51 [.cell 4 42, .tmp 5] [0, 1, 2, 3, 4, 5, 6, 7, 8, 9, 10, 46] mixed Tryz.func77 rfl (by kernel_rfl) (by kernel_rfl) (by kernel_rfl) (by kernel_rfl) ?_
      repeat (first | (simp -implicitDefEqProofs only [go_sem, Nat.reduceAdd, Nat.reduceMul, Nat.reduceEqDiff, Nat.reduceLT, Nat.reduceLeDiff, Nat.reduceSub, Nat.reduceBEq, reduceIte, reduceCtorEq, Int.reduceEq, Int.reduceNe, Nat.reduceBneDiff, Int.reduceLE, Int.reduceLT, Int.reduceToNat, Int.reduceAdd, Int.reduceSub, Int.reduceMul, Int.reduceNeg, T_ok4, T_agg4, T_isinfo4, T_info4, T_cells4, T_zero4, T_bool4, T_ok9, T_agg9, T_isinfo9, T_info9, T_cells9, T_zero9, T_str9, T_len9t, T_ok23, T_agg23, T_isinfo23, T_info23, T_cells23, T_zero23, T_build23, T_f23_0, T_p23_0, T_f23_1, T_p23_1, T_eqs23, T_ok26, T_agg26, T_isinfo26, T_info26, T_cells26, T_zero26, T_int26, T_ok42, T_agg42, T_isinfo42, T_info42, T_cells42, T_zero42, T_build42, T_f42_0, T_p42_0, T_f42_1, T_p42_1, T_eqs42, T_ok84, T_agg84, T_isinfo84, T_info84, T_cells84, T_zero84, T_elem84, T_under84, T_len84s, T_len84n, T_len84b, T_ok86, T_agg86, T_isinfo86, T_info86, T_cells86, T_zero86, T_build86, T_f86_0, T_p86_0, T_f86_1, T_p86_1, T_ok92, T_agg92, T_isinfo92, T_info92, T_cells92, T_zero92, T_int92, nP, dw, z1, z0, noRat]) | ((with_reducible refine gcall_eq (hg) ?_ ?_ ?_); (with_reducible rfl); rfl) | ((with_reducible refine gcall_eq (d1) ?_ ?_ ?_); (with_reducible rfl); rfl) | ((with_reducible refine gcall_eq (d2) ?_ ?_ ?_); (with_reducible rfl); rfl) | ((with_reducible refine gcall_eq (w1) ?_ ?_ ?_); (with_reducible rfl); rfl) | ((with_reducible refine gcall_eq (w2) ?_ ?_ ?_); (with_reducible rfl); rfl) | (with_reducible exact drawQ_true _ _ (by kernel_rfl)) | (with_reducible refine And.intro (drawQ_true _ _ (by kernel_rfl)) ?_))
  · rw [outPV_yes h1] at w1
    by_cases h2 : 65536 < blen d.natAbs
    · rw [outQ_t (by simp [big, h2])]
      rw [outPV_no h2] at w2
      refine sound_go (tb := []) 51 [.cell 4 42, .tmp 5] [0, 1, 2, 3, 4, 5, 6, 7, 8, 9, 10, 46] mixed Tryz.func77 rfl (by kernel_rfl) (by kernel_rfl) (by kernel_rfl) (by kernel_rfl) ?_
      repeat (first | (simp -implicitDefEqProofs only [go_sem, Nat.reduceAdd, Nat.reduceMul, Nat.reduceEqDiff, Nat.reduceLT, Nat.reduceLeDiff, Nat.reduceSub, Nat.reduceBEq, reduceIte, reduceCtorEq, Int.reduceEq, Int.reduceNe, Nat.reduceBneDiff, Int.reduceLE, Int.reduceLT, Int.reduceToNat, Int.reduceAdd, Int.reduceSub, Int.reduceMul, Int.reduceNeg, T_ok4, T_agg4, T_isinfo4, T_info4, T_cells4, T_zero4, T_bool4, T_ok9, T_agg9, T_isinfo9, T_info9, T_cells9, T_zero9, T_str9, T_len9t, T_ok23, T_agg23, T_isinfo23, T_info23, T_cells23, T_zero23, T_build23, T_f23_0, T_p23_0, T_f23_1, T_p23_1, T_eqs23, T_ok26, T_agg26, T_isinfo26, T_info26, T_cells26, T_zero26, T_int26, T_ok42, T_agg42, T_isinfo42, T_info42, T_cells42, T_zero42, T_build42, T_f42_0, T_p42_0, T_f42_1, T_p42_1, T_eqs42, T_ok84, T_agg84, T_isinfo84, T_info84, T_cells84, T_zero84, T_elem84, T_under84, T_len84s, T_len84n, T_len84b, T_ok86, T_agg86, T_isinfo86, T_info86, T_cells86, T_zero86, T_build86, T_f86_0, T_p86_0, T_f86_1, T_p86_1, T_ok92, T_agg92, T_isinfo92, T_info92, T_cells92, T_zero92, T_int92, nP, dw, z1, z0, noRat]) | ((with_reducible refine gcall_eq (hg) ?_ ?_ ?_); (with_reducible rfl); rfl) | ((with_reducible refine gcall_eq (d1) ?_ ?_ ?_); (with_reducible rfl); rfl) | ((with_reducible refine gcall_eq (d2) ?_ ?_ ?_); (with_reducible rfl); rfl) | ((with_reducible refine gcall_eq (w1) ?_ ?_ ?_); (with_reducible rfl); rfl) | ((with_reducible refine gcall_eq (w2) ?_ ?_ ?_); (with_reducible rfl); rfl) | (with_reducible exact drawQ_true _ _ (by kernel_rfl)) | (with_reducible refine And.intro (drawQ_true _ _ (by kernel_rfl)) ?_))
    · rw [outQ_f (by simp only [big, h1, h2, decide_false, Bool.or_self])]
      rw [outPV_yes h2] at w2
      refine sound_go (tb := []) 51 [.cell 4 42, .tmp 5] [0, 1, 2, 3, 4, 5, 6, 7, 8, 9, 10, 46] mixed Tryz.func77 rfl (by kernel_rfl) (by kernel_rfl) (by kernel_rfl) (by kernel_rfl) ?_
      repeat (first | (simp -implicitDefEqProofs only [go_sem, Nat.reduceAdd, Nat.reduceMul, Nat.reduceEqDiff, Nat.reduceLT, Nat.reduceLeDiff, Nat.reduceSub, Nat.reduceBEq, reduceIte, reduceCtorEq, Int.reduceEq, Int.reduceNe, Nat.reduceBneDiff, Int.reduceLE, Int.reduceLT, Int.reduceToNat, Int.reduceAdd, Int.reduceSub, Int.reduceMul, Int.reduceNeg, T_ok4, T_agg4, T_isinfo4, T_info4, T_cells4, T_zero4, T_bool4, T_ok9, T_agg9, T_isinfo9, T_info9, T_cells9, T_zero9, T_str9, T_len9t, T_ok23, T_agg23, T_isinfo23, T_info23, T_cells23, T_zero23, T_build23, T_f23_0, T_p23_0, T_f23_1, T_p23_1, T_eqs23, T_ok26, T_agg26, T_isinfo26, T_info26, T_cells26, T_zero26, T_int26, T_ok42, T_agg42, T_isinfo42, T_info42, T_cells42, T_zero42, T_build42, T_f42_0, T_p42_0, T_f42_1, T_p42_1, T_eqs42, T_ok84, T_agg84, T_isinfo84, T_info84, T_cells84, T_zero84, T_elem84, T_under84, T_len84s, T_len84n, T_len84b, T_ok86, T_agg86, T_isinfo86, T_info86, T_cells86, T_zero86, T_build86, T_f86_0, T_p86_0, T_f86_1, T_p86_1, T_ok92, T_agg92, T_isinfo92, T_info92, T_cells92, T_zero92, T_int92, nP, dw, z1, z0, ratPV]) | ((with_reducible refine gcall_eq (hg) ?_ ?_ ?_); (with_reducible rfl); rfl) | ((with_reducible refine gcall_eq (d1) ?_ ?_ ?_); (with_reducible rfl); rfl) | ((with_reducible refine gcall_eq (d2) ?_ ?_ ?_); (with_reducible rfl); rfl) | ((with_reducible refine gcall_eq (w1) ?_ ?_ ?_); (with_reducible rfl); rfl) | ((with_reducible refine gcall_eq (w2) ?_ ?_ ?_); (with_reducible rfl); rfl) | (with_reducible exact drawQ_true _ _ (by kernel_rfl)) | (with_reducible refine And.intro (drawQ_true _ _ (by kernel_rfl)) ?_))
theorem wRatio_no (an bn : Bool) (a b : ByteArray) (h : (validB an a.data.toList && validB bn b.data.toList) = false) : SoundAt Tryz.prog 23 [.agg [.bool an, .str a], .agg [.bool bn, .str b]] (noRat 2) := by
  have hv := both_v an bn a b
  rw [h] at hv
  refine sound_go (tb := []) 22 [.cell 4 42, .tmp 5] [0, 1, 2, 3, 4, 5, 9, 13] mixed Tryz.func23 rfl (by kernel_rfl) (by kernel_rfl) (by kernel_rfl) (by kernel_rfl) ?_
  repeat (first | (simp -implicitDefEqProofs only [go_sem, Nat.reduceAdd, Nat.reduceMul, Nat.reduceEqDiff, Nat.reduceLT, Nat.reduceLeDiff, Nat.reduceSub, Nat.reduceBEq, reduceIte, reduceCtorEq, Int.reduceEq, Int.reduceNe, Nat.reduceBneDiff, Int.reduceLE, Int.reduceLT, Int.reduceToNat, Int.reduceAdd, Int.reduceSub, Int.reduceMul, Int.reduceNeg, T_ok4, T_agg4, T_isinfo4, T_info4, T_cells4, T_zero4, T_bool4, T_ok9, T_agg9, T_isinfo9, T_info9, T_cells9, T_zero9, T_str9, T_len9t, T_ok23, T_agg23, T_isinfo23, T_info23, T_cells23, T_zero23, T_build23, T_f23_0, T_p23_0, T_f23_1, T_p23_1, T_eqs23, T_ok42, T_agg42, T_isinfo42, T_info42, T_cells42, T_zero42, T_build42, T_f42_0, T_p42_0, T_f42_1, T_p42_1, T_eqs42, T_ok84, T_agg84, T_isinfo84, T_info84, T_cells84, T_zero84, T_elem84, T_under84, T_len84s, T_len84n, T_len84b, T_ok86, T_agg86, T_isinfo86, T_info86, T_cells86, T_zero86, T_build86, T_f86_0, T_p86_0, T_f86_1, T_p86_1, T_ok92, T_agg92, T_isinfo92, T_info92, T_cells92, T_zero92, T_int92, noRat]) | ((with_reducible refine gcall_eq (hv) ?_ ?_ ?_); (with_reducible rfl); rfl) | (with_reducible exact drawQ_true _ _ (by kernel_rfl)) | (with_reducible refine And.intro (drawQ_true _ _ (by kernel_rfl)) ?_))
theorem wRatio_zero (an bn : Bool) (a b : ByteArray) (h1 : validB an a.data.toList = true) (h2 : validB bn b.data.toList = true) (h0 : b.data.toList = []) : SoundAt Tryz.prog 23 [.agg [.bool an, .str a], .agg [.bool bn, .str b]] (noRat 3) := by
  have hv := both_v an bn a b
  rw [h1, h2, Bool.true_and] at hv
  have e : (([] : List UInt8) == []) = true := rfl
  refine sound_go (tb := []) 22 [.cell 4 42, .tmp 5] [0, 1, 2, 3, 4, 5, 9, 13] mixed Tryz.func23 rfl (by kernel_rfl) (by kernel_rfl) (by kernel_rfl) (by kernel_rfl) ?_
  repeat (first | (simp -implicitDefEqProofs only [go_sem, Nat.reduceAdd, Nat.reduceMul, Nat.reduceEqDiff, Nat.reduceLT, Nat.reduceLeDiff, Nat.reduceSub, Nat.reduceBEq, reduceIte, reduceCtorEq, Int.reduceEq, Int.reduceNe, Nat.reduceBneDiff, Int.reduceLE, Int.reduceLT, Int.reduceToNat, Int.reduceAdd, Int.reduceSub, Int.reduceMul, Int.reduceNeg, T_ok4, T_agg4, T_isinfo4, T_info4, T_cells4, T_zero4, T_bool4, T_ok9, T_agg9, T_isinfo9, T_info9, T_cells9, T_zero9, T_str9, T_len9t, T_ok23, T_agg23, T_isinfo23, T_info23, T_cells23, T_zero23, T_build23, T_f23_0, T_p23_0, T_f23_1, T_p23_1, T_eqs23, T_ok42, T_agg42, T_isinfo42, T_info42, T_cells42, T_zero42, T_build42, T_f42_0, T_p42_0, T_f42_1, T_p42_1, T_eqs42, T_ok84, T_agg84, T_isinfo84, T_info84, T_cells84, T_zero84, T_elem84, T_under84, T_len84s, T_len84n, T_len84b, T_ok86, T_agg86, T_isinfo86, T_info86, T_cells86, T_zero86, T_build86, T_f86_0, T_p86_0, T_f86_1, T_p86_1, T_ok92, T_agg92, T_isinfo92, T_info92, T_cells92, T_zero92, T_int92, noRat, h0, e]) | ((with_reducible refine gcall_eq (hv) ?_ ?_ ?_); (with_reducible rfl); rfl) | (with_reducible exact drawQ_true _ _ (by kernel_rfl)) | (with_reducible refine And.intro (drawQ_true _ _ (by kernel_rfl)) ?_))
theorem wRatio_v (an bn : Bool) (a b : ByteArray) (h1 : validB an a.data.toList = true) (h2 : validB bn b.data.toList = true) (h0 : b.data.toList ≠ []) (ha : a.size ≤ 100000) (hb : b.size ≤ 100000) :
    SoundAt Tryz.prog 23 [.agg [.bool an, .str a], .agg [.bool bn, .str b]] (outQ (lowN (wnum an a) (wnum bn b)) (lowD (wnum an a) (wnum bn b))) := by
  have hv := both_v an bn a b
  rw [h1, h2, Bool.true_and] at hv
  have hL1 := L_bnum a ha
  have hL2 := L_bnum b hb
  have hoa := wof_v an a h1 (by omega)
  have hob := wof_v bn b h2 (by omega)
  have he := empty_eq h0
  have hl := wlowest_v an bn _ _ (bnum_pos h2 h0) (by omega : (digs BW (bnum a.data.toList)).length ≤ 900000) (by omega)
  unfold wnum
  generalize lowN (sv an (bnum a.data.toList)) (sv bn (bnum b.data.toList)) = N at *
  generalize lowD (sv an (bnum a.data.toList)) (sv bn (bnum b.data.toList)) = D at *
  cases hB : big N D with
  | true =>
    rw [outQ_t hB] at hl ⊢
    refine sound_go (tb := []) 22 [.cell 4 42, .tmp 5] [0, 1, 2, 3, 4, 5, 9, 13] mixed Tryz.func23 rfl (by kernel_rfl) (by kernel_rfl) (by kernel_rfl) (by kernel_rfl) ?_
    repeat (first | (simp -implicitDefEqProofs only [go_sem, Nat.reduceAdd, Nat.reduceMul, Nat.reduceEqDiff, Nat.reduceLT, Nat.reduceLeDiff, Nat.reduceSub, Nat.reduceBEq, reduceIte, reduceCtorEq, Int.reduceEq, Int.reduceNe, Nat.reduceBneDiff, Int.reduceLE, Int.reduceLT, Int.reduceToNat, Int.reduceAdd, Int.reduceSub, Int.reduceMul, Int.reduceNeg, T_ok4, T_agg4, T_isinfo4, T_info4, T_cells4, T_zero4, T_bool4, T_ok9, T_agg9, T_isinfo9, T_info9, T_cells9, T_zero9, T_str9, T_len9t, T_ok23, T_agg23, T_isinfo23, T_info23, T_cells23, T_zero23, T_build23, T_f23_0, T_p23_0, T_f23_1, T_p23_1, T_eqs23, T_ok42, T_agg42, T_isinfo42, T_info42, T_cells42, T_zero42, T_build42, T_f42_0, T_p42_0, T_f42_1, T_p42_1, T_eqs42, T_ok84, T_agg84, T_isinfo84, T_info84, T_cells84, T_zero84, T_elem84, T_under84, T_len84s, T_len84n, T_len84b, T_ok86, T_agg86, T_isinfo86, T_info86, T_cells86, T_zero86, T_build86, T_f86_0, T_p86_0, T_f86_1, T_p86_1, T_ok92, T_agg92, T_isinfo92, T_info92, T_cells92, T_zero92, T_int92, he, nP, dw, noRat]) | ((with_reducible refine gcall_eq (hv) ?_ ?_ ?_); (with_reducible rfl); rfl) | ((with_reducible refine gcall_eq (hoa) ?_ ?_ ?_); (with_reducible rfl); rfl) | ((with_reducible refine gcall_eq (hob) ?_ ?_ ?_); (with_reducible rfl); rfl) | ((with_reducible refine gcall_eq (hl) ?_ ?_ ?_); (with_reducible rfl); rfl) | (with_reducible exact drawQ_true _ _ (by kernel_rfl)) | (with_reducible refine And.intro (drawQ_true _ _ (by kernel_rfl)) ?_))
  | false =>
    rw [outQ_f hB] at hl ⊢
    refine sound_go (tb := []) 22 [.cell 4 42, .tmp 5] [0, 1, 2, 3, 4, 5, 9, 13] mixed Tryz.func23 rfl (by kernel_rfl) (by kernel_rfl) (by kernel_rfl) (by kernel_rfl) ?_
    repeat (first | (simp -implicitDefEqProofs only [go_sem, Nat.reduceAdd, Nat.reduceMul, Nat.reduceEqDiff, Nat.reduceLT, Nat.reduceLeDiff, Nat.reduceSub, Nat.reduceBEq, reduceIte, reduceCtorEq, Int.reduceEq, Int.reduceNe, Nat.reduceBneDiff, Int.reduceLE, Int.reduceLT, Int.reduceToNat, Int.reduceAdd, Int.reduceSub, Int.reduceMul, Int.reduceNeg, T_ok4, T_agg4, T_isinfo4, T_info4, T_cells4, T_zero4, T_bool4, T_ok9, T_agg9, T_isinfo9, T_info9, T_cells9, T_zero9, T_str9, T_len9t, T_ok23, T_agg23, T_isinfo23, T_info23, T_cells23, T_zero23, T_build23, T_f23_0, T_p23_0, T_f23_1, T_p23_1, T_eqs23, T_ok42, T_agg42, T_isinfo42, T_info42, T_cells42, T_zero42, T_build42, T_f42_0, T_p42_0, T_f42_1, T_p42_1, T_eqs42, T_ok84, T_agg84, T_isinfo84, T_info84, T_cells84, T_zero84, T_elem84, T_under84, T_len84s, T_len84n, T_len84b, T_ok86, T_agg86, T_isinfo86, T_info86, T_cells86, T_zero86, T_build86, T_f86_0, T_p86_0, T_f86_1, T_p86_1, T_ok92, T_agg92, T_isinfo92, T_info92, T_cells92, T_zero92, T_int92, he, nP, dw, ratPV]) | ((with_reducible refine gcall_eq (hv) ?_ ?_ ?_); (with_reducible rfl); rfl) | ((with_reducible refine gcall_eq (hoa) ?_ ?_ ?_); (with_reducible rfl); rfl) | ((with_reducible refine gcall_eq (hob) ?_ ?_ ?_); (with_reducible rfl); rfl) | ((with_reducible refine gcall_eq (hl) ?_ ?_ ?_); (with_reducible rfl); rfl) | (with_reducible exact drawQ_true _ _ (by kernel_rfl)) | (with_reducible refine And.intro (drawQ_true _ _ (by kernel_rfl)) ?_))
end Go.Proofs.YtkgkebhlpjenaaaGreatDoor
