/-
  FW19, FW24, US3, FW20, De5, FW25, FW26 (merged for the claim).
-/
import Derived.Test.YtnpclmmmngmdkaaGreatFW22
import Derived.Test.YtnpclmmmngmdkaaGreatUW
import Derived.Test.YtnpclmmmngmdkaaGreatDe2
set_option linter.unusedSimpArgs false
set_option linter.unusedVariables false
namespace Go.Proofs.YtnpclmmmngmdkaaGreat
open Go.Vl Go.RowKit Go.Dg

attribute [local go_sem high] b_oru
theorem tdiv64 (n : Nat) : Int.tdiv (n : Int) 64 = ((n / 64 : Nat) : Int) := tdivN n 64
theorem tmod64 (n : Nat) : Int.tmod (n : Int) 64 = ((n % 64 : Nat) : Int) := tmodN n 64
theorem wshl_v (a k : Nat) (ha : (digs BW a).length ≤ 1000000000) (hk : k ≤ 1000000000) : SoundAt Tryz.prog 95 [dw (digs BW a), .int .i64 (k : Int)] (dw (digs BW (a * 2 ^ k))) := by
  refine sound_go (tb := []) 56 [.tmp 4] [0, 1, 4, 5, 6, 7, 8, 9, 12, 23, 24, 25, 26, 42] mixed Tryz.func95 rfl (by kernel_rfl) (by kernel_rfl) (by kernel_rfl) (by kernel_rfl) ?_
  by_cases h0 : a = 0
  · subst h0
    have h1 : (((0 : Nat) : Int) == 0) = true := rfl
    rw [Nat.zero_mul, digs_zero]
    simp -implicitDefEqProofs only [go_sem, Nat.reduceAdd, Nat.reduceMul, Nat.reduceEqDiff, Nat.reduceLT, Nat.reduceLeDiff, Nat.reduceSub, Nat.reduceBEq, reduceIte, reduceCtorEq, Int.reduceEq, Int.reduceNe, Nat.reduceBneDiff, Int.reduceLE, Int.reduceLT, Int.reduceToNat, Int.reduceAdd, Int.reduceSub, Int.reduceMul, Int.reduceNeg, dw, List.map_nil, List.length_nil, h1]
  have hp : 0 < (digs BW a).length := List.length_pos_iff.2 (mt (digs_eq_nil BW_2).1 h0)
  have h1 : (((digs BW a).length : Int) == 0) = false := by simp only [beq_eq_false_iff_ne, ne_eq]; omega
  have hlt : a < BW ^ (digs BW a).length := lt_pow_len BW_2 a
  obtain ⟨W, hW⟩ : ∃ W, W = k / 64 := ⟨_, rfl⟩
  obtain ⟨r, hr⟩ : ∃ r, r = k % 64 := ⟨_, rfl⟩
  have hr64 : r < 64 := by rw [hr]; exact Nat.mod_lt _ (by decide)
  have hkr : k = 64 * W + r := by omega
  have d1 : Int.tdiv (k : Int) 64 = (W : Int) := by rw [tdiv64, hW]
  have d2 : Int.tmod (k : Int) 64 = (r : Int) := by rw [tmod64, hr]
  have hWl : W ≤ 1000000000 := by omega
  clear hW hr
  generalize hN : (digs BW a).length = N at *
  have q1 := wrapn (n := W) (by omega)
  have q2 := wrap_add (a := N) (b := W) (by omega)
  have q3 := wrap_add1 (a := N + W) (by omega)
  have hn0 : ((0 : Int) ≤ ((N + W + 1 : Nat) : Int)) = True := by simp only [eq_iff_iff, iff_true]; omega
  have hn1 : ((8 : Nat) : Int) * ((N + W + 1 : Nat) : Int) ≤ 281474976710656 := by omega
  have hn2 : ((N + W + 1 : Nat) : Int) ≤ 9223372036854775807 := by omega
  simp -implicitDefEqProofs only [go_sem, Nat.reduceAdd, Nat.reduceMul, Nat.reduceEqDiff, Nat.reduceLT, Nat.reduceLeDiff, Nat.reduceSub, Nat.reduceBEq, reduceIte, reduceCtorEq, Int.reduceEq, Int.reduceNe, Nat.reduceBneDiff, Int.reduceLE, Int.reduceLT, Int.reduceToNat, Int.reduceAdd, Int.reduceSub, Int.reduceMul, Int.reduceNeg, dw, List.length_map, hN, h1, d1, d2, q1, q2, q3, hn0, hn1, hn2, Int.toNat_natCast]
  have hrep : List.replicate (N + W + 1) (PV.int .u64 0) = (lows BW (shlV a W r 0) (N + W + 1)).map fW := by rw [shlV_zero, lows_zero']; simp
  rw [hrep]
  have k1 : (((r : Nat) : Int) < 0) = False := by simp only [eq_iff_iff, iff_false]; omega
  have k2 : min r 64 = r := by omega
  have k3 : IntKind.i64.wrap (64 - ((r : Nat) : Int)) = ((64 - r : Nat) : Int) := by rw [wrap_i64 (by omega) (by omega)]; omega
  have k4 : ((((64 - r : Nat) : Nat) : Int) < 0) = False := by simp only [eq_iff_iff, iff_false]; omega
  have k5 : min (64 - r) 64 = 64 - r := by omega
  refine g_loop mixed (fun i : { i : Nat // i ≤ N } => St.of [(4, .nilS), (5, .int .i64 (W : Int)), (6, .int .i64 (r : Int)), (7, .bs 405 1 0 (N + W + 1)), (23, dw (digs BW a)), (24, .int .i64 (N : Int)), (25, .int .i64 (i.1 : Int))]
    [(405, { els := (lows BW (shlV a W r i.1) (N + W + 1)).map fW, esz := 1, ety := 137, fro := 0, live := true, arr := true })]) (fun i => N - i.1) ⟨0, Nat.zero_le _⟩ ?_ ?_
  · refine le_of (θ := [(405, 405)]) rfl ?_ ?_
    · simp [varsLe, lkp, ren1, ren0, dw]
    · simp [boxesLe, lkp, Box.renames]
  · rintro ⟨i, hi⟩
    have hll := lows_length (B := BW) (shlV a W r i) (N + W + 1)
    by_cases hA : i < N
    · have hA' : ((i : Int) < (N : Int)) = True := by simp; omega
      have hi0 : (0 ≤ (i : Int)) = True := by simp
      have hga := digs_get_lt BW_2 (show i < (digs BW a).length by omega)
      have hwk := wrap_add1 (a := i) (by omega)
      have w1 := wrap_add (a := i) (b := W) (by omega)
      have w2 := wrap_add1 (a := i + W) (by omega)
      have b1 : (0 ≤ ((i + W : Nat) : Int)) = True := by simp only [eq_iff_iff, iff_true]; omega
      have b2 : (((i + W : Nat) : Int) < ((N + W + 1 : Nat) : Int)) = True := by simp only [eq_iff_iff, iff_true]; omega
      have b3 : (0 ≤ ((i + W + 1 : Nat) : Int)) = True := by simp only [eq_iff_iff, iff_true]; omega
      have b4 : (((i + W + 1 : Nat) : Int) < ((N + W + 1 : Nat) : Int)) = True := by simp only [eq_iff_iff, iff_true]; omega
      have hgo : ((lows BW (shlV a W r i) (N + W + 1)).map fW)[i + W]? = some (PV.int .u64 ((shlC a r i : Nat) : Int)) := by
        rw [List.getElem?_map, lows_get _ _ _ (by omega), shlC_digit a W r i (by omega)]; rfl
      have hc2 : shlC a r i % 18446744073709551616 = shlC a r i := Nat.mod_eq_of_lt (Nat.lt_of_lt_of_le (shlC_lt a r i) (show 2 ^ r ≤ 18446744073709551616 from Nat.pow_le_pow_right (n := 2) (by decide) (show r ≤ 64 by omega)))
      by_cases hr0 : r = 0
      · subst hr0
        have g0 : ((0 : Int) < (((0 : Nat) : Nat) : Int)) = False := by simp
        have hset := shl_set1 a W i (N + W + 1) (by omega)
        have hc0 : shlC a 0 i = 0 := by have := shlC_lt a 0 i; simp at this; exact this
        have hval : (0 ||| a / BW ^ i % BW * 2 ^ 0 % 18446744073709551616) = a / BW ^ i % BW := by
          rw [Nat.zero_or, Nat.pow_zero, Nat.mul_one, show (18446744073709551616 : Nat) = BW from rfl, Nat.mod_mod]
        simp -implicitDefEqProofs only [go_sem, Nat.reduceAdd, Nat.reduceMul, Nat.reduceEqDiff, Nat.reduceLT, Nat.reduceLeDiff, Nat.reduceSub, Nat.reduceBEq, reduceIte, reduceCtorEq, Int.reduceEq, Int.reduceNe, Nat.reduceBneDiff, Int.reduceLE, Int.reduceLT, Int.reduceToNat, Int.reduceAdd, Int.reduceSub, Int.reduceMul, Int.reduceNeg, dw, hA', hi0, dw_get, hga, Int.toNat_natCast, w1, w2, b1, b2, hgo, k1, k2, g0, List.length_map, hll, hc0, shl_u64, hwk, Nat.mod_mod, Nat.zero_mod]
        refine ⟨drawQ_true _ _ (by kernel_rfl), ⟨i + 1, hA⟩, by simp only; omega, le_of (θ := [(405, 405)]) rfl ?_ ?_⟩
        · simp [varsLe, lkp, ren1, ren0, dw]
        · rw [hval, set_fW, hset]
          simp [boxesLe, lkp, Box.renames]
      · have g0 : ((0 : Int) < ((r : Nat) : Int)) = True := by simp only [eq_iff_iff, iff_true]; omega
        have hset := shl_set2 a W r i (N + W + 1) (by omega) (by omega)
        obtain ⟨e, hgo2⟩ : ∃ e : Nat, (((lows BW (shlV a W r i) (N + W + 1)).map fW).set (i + W) (.int .u64 ((shlC a r i ||| (a / BW ^ i % BW * 2 ^ r % 18446744073709551616) : Nat) : Int)))[i + W + 1]? = some (PV.int .u64 (e : Int)) := by
          rw [set_fW, List.getElem?_map]
          refine ⟨_, by rw [List.getElem?_set_ne (by omega), lows_get _ _ _ (by omega)]; rfl⟩
        simp -implicitDefEqProofs only [go_sem, Nat.reduceAdd, Nat.reduceMul, Nat.reduceEqDiff, Nat.reduceLT, Nat.reduceLeDiff, Nat.reduceSub, Nat.reduceBEq, reduceIte, reduceCtorEq, Int.reduceEq, Int.reduceNe, Nat.reduceBneDiff, Int.reduceLE, Int.reduceLT, Int.reduceToNat, Int.reduceAdd, Int.reduceSub, Int.reduceMul, Int.reduceNeg, dw, hA', hi0, dw_get, hga, Int.toNat_natCast, w1, w2, b1, b2, b3, b4, hgo, k1, k2, k3, k4, k5, g0, List.length_map, hll, hc2, shl_u64, fdivK, hwk, List.length_set, hgo2, Nat.mod_mod]
        refine ⟨drawQ_true _ _ (by kernel_rfl), ⟨i + 1, hA⟩, by simp only; omega, le_of (θ := [(405, 405)]) rfl ?_ ?_⟩
        · simp [varsLe, lkp, ren1, ren0, dw]
        · rw [set_fW, set_fW, hset]
          simp [boxesLe, lkp, Box.renames]
    · have hA' : ((i : Int) < (N : Int)) = False := by simp; omega
      obtain rfl : i = N := by omega
      have hV := shlV_done a W r i hlt
      rw [← hkr] at hV
      rw [hV] at hll
      have htk : ((lows BW (a * 2 ^ k) (i + W + 1)).map fW).take (i + W + 1) = (lows BW (a * 2 ^ k) (i + W + 1)).map fW := List.take_of_length_le (by simp [hll])
      simp -implicitDefEqProofs only [go_sem, Nat.reduceAdd, Nat.reduceMul, Nat.reduceEqDiff, Nat.reduceLT, Nat.reduceLeDiff, Nat.reduceSub, Nat.reduceBEq, reduceIte, reduceCtorEq, Int.reduceEq, Int.reduceNe, Nat.reduceBneDiff, Int.reduceLE, Int.reduceLT, Int.reduceToNat, Int.reduceAdd, Int.reduceSub, Int.reduceMul, Int.reduceNeg, hA', hV, List.length_map, hll, htk]
      refine gcall_intro _ _ _ _ _ _ _ _ _ (wtrim_v (lows BW (a * 2 ^ k) (i + W + 1)) (by rw [hll]; simp [maxLen]; omega)) ?_
      simp -implicitDefEqProofs only [go_sem, Nat.reduceAdd, Nat.reduceMul, Nat.reduceEqDiff, Nat.reduceLT, Nat.reduceLeDiff, Nat.reduceSub, Nat.reduceBEq, reduceIte, reduceCtorEq, Int.reduceEq, Int.reduceNe, Nat.reduceBneDiff, Int.reduceLE, Int.reduceLT, Int.reduceToNat, Int.reduceAdd, Int.reduceSub, Int.reduceMul, Int.reduceNeg, dw]
      rw [trimZ_lows BW_2, Nat.mod_eq_of_lt]
      rw [Nat.add_assoc, Nat.pow_add]
      have h2 : 2 ^ k < BW ^ (W + 1) := by
        rw [show BW = 2 ^ 64 from rfl, ← Nat.pow_mul]
        exact Nat.pow_lt_pow_right (by decide) (by omega)
      exact Nat.lt_of_lt_of_le (Nat.mul_lt_mul_of_pos_right hlt (Nat.pow_pos (by decide))) (Nat.mul_le_mul_left _ (Nat.le_of_lt h2))
end Go.Proofs.YtnpclmmmngmdkaaGreat

namespace Go.Proofs.YtnpclmmmngmdkaaGreat
open Go.Vl Go.RowKit Go.Dg

theorem fW_ok (l : List Nat) : ((l.map fW).all fun e => e.cells.length == 1 && e.cells.all PV.okCell) = true := by
  rw [List.all_map, List.all_eq_true]; intro _ _; rfl
theorem wclone_v (l : List Nat) (hl : 0 < l.length) (hl2 : l.length ≤ 1000000000) : SoundB Tryz.prog 130 [dw l] [] (.bs 302 1 0 l.length) [(302, wB l)] := by
  have h0 : l.isEmpty = false := by cases l with | nil => simp at hl | cons => rfl
  have h1 : (l.length * 8 ≤ 140737488355328) = True := by simp only [eq_iff_iff, iff_true]; omega
  have h2 : (l.length ≤ maxLen) = True := by simp only [eq_iff_iff, iff_true]; unfold maxLen; omega
  refine soundB_go (tb := []) 8 [.tmp 2] [0, 2, 4] mixed Tryz.func130 rfl (by kernel_rfl) (by kernel_rfl) (by kernel_rfl) (by kernel_rfl) (by rfl) ?_
  simp -implicitDefEqProofs only [go_sem, Nat.reduceAdd, Nat.reduceMul, Nat.reduceEqDiff, Nat.reduceLT, Nat.reduceLeDiff, Nat.reduceSub, Nat.reduceBEq, reduceIte, reduceCtorEq, Int.reduceEq, Int.reduceNe, Nat.reduceBneDiff, Int.reduceLE, Int.reduceLT, Int.reduceToNat, Int.reduceAdd, Int.reduceSub, Int.reduceMul, Int.reduceNeg, dw, h0, List.length_map, h1, h2, fW_ok]
  refine vretB_back (.inl rfl) ?_
  simp -implicitDefEqProofs only [go_sem, Nat.reduceAdd, Nat.reduceMul, Nat.reduceEqDiff, Nat.reduceLT, Nat.reduceLeDiff, Nat.reduceSub, Nat.reduceBEq, reduceIte, reduceCtorEq, Int.reduceEq, Int.reduceNe, Nat.reduceBneDiff, Int.reduceLE, Int.reduceLT, Int.reduceToNat, Int.reduceAdd, Int.reduceSub, Int.reduceMul, Int.reduceNeg, List.length_map]
  refine le_of (θ := [(302, 302)]) rfl ?_ ?_
  · simp [varsLe, lkp, ren1, ren0]
  · simp [boxesLe, lkp, Box.renames]

attribute [local go_sem high] b_oru
theorem wshr_v (a k : Nat) (ha : (digs BW a).length ≤ 1000000000) (hk : k ≤ 1000000000) : SoundAt Tryz.prog 125 [dw (digs BW a), .int .i64 (k : Int)] (dw (digs BW (a / 2 ^ k))) := by
  have hlt : a < BW ^ (digs BW a).length := lt_pow_len BW_2 a
  obtain ⟨W, hW⟩ : ∃ W, W = k / 64 := ⟨_, rfl⟩
  obtain ⟨r, hr⟩ : ∃ r, r = k % 64 := ⟨_, rfl⟩
  have hr64 : r < 64 := by rw [hr]; exact Nat.mod_lt _ (by decide)
  have hkr : k = 64 * W + r := by omega
  have d1 : Int.tdiv (k : Int) 64 = (W : Int) := by rw [tdiv64, hW]
  have d2 : Int.tmod (k : Int) 64 = (r : Int) := by rw [tmod64, hr]
  have hWl : W ≤ 1000000000 := by omega
  clear hW hr
  have q1 := wrapn (n := W) (by omega)
  have hpk : 2 ^ k = BW ^ W * 2 ^ r := by rw [hkr, Nat.pow_add, Nat.pow_mul]
  have hq : a / 2 ^ k = a / BW ^ W / 2 ^ r := by rw [hpk, Nat.div_div_eq_div_mul]
  
  refine sound_go (tb := [(403, [], [(302, 403)])]) 59 [.tmp 4] [0, 1, 4, 5, 6, 7, 8, 16, 22, 24, 25, 26, 39] mixed Tryz.func125 rfl (by kernel_rfl) (by kernel_rfl) (by kernel_rfl) (by kernel_rfl) ?_
  by_cases hN : (digs BW a).length ≤ W
  · have g1 : (((digs BW a).length : Int) ≤ (W : Int)) = True := by simp only [eq_iff_iff, iff_true]; omega
    have e : digs BW (a / 2 ^ k) = [] := by
      rw [hq, digit_beyond BW_2 hN, Nat.zero_div, digs_zero]
    rw [e]
    simp -implicitDefEqProofs only [go_sem, Nat.reduceAdd, Nat.reduceMul, Nat.reduceEqDiff, Nat.reduceLT, Nat.reduceLeDiff, Nat.reduceSub, Nat.reduceBEq, reduceIte, reduceCtorEq, Int.reduceEq, Int.reduceNe, Nat.reduceBneDiff, Int.reduceLE, Int.reduceLT, Int.reduceToNat, Int.reduceAdd, Int.reduceSub, Int.reduceMul, Int.reduceNeg, dw, List.length_map, d1, d2, q1, g1, List.map_nil]
  have g1 : (((digs BW a).length : Int) ≤ (W : Int)) = False := by simp only [eq_iff_iff, iff_false]; omega
  have hA0 : ∀ j, a / BW ^ (W + j) = a / BW ^ W / BW ^ j := fun j => by rw [Nat.pow_add, Nat.div_div_eq_div_mul]
  have hn0 : (0 ≤ (W : Int)) = True := by simp
  have hn1 : ((W : Int) ≤ ((digs BW a).length : Int)) = True := by simp only [eq_iff_iff, iff_true]; omega
  have hsl : (((digs BW a).map fW).take (digs BW a).length).drop W = (lows BW (a / BW ^ W) ((digs BW a).length - W)).map fW := by
    rw [List.take_of_length_le (by simp), ← List.map_drop]
    congr 1
    apply List.ext_getElem?
    intro j
    rw [List.getElem?_drop]
    by_cases hj : W + j < (digs BW a).length
    · rw [digs_get_lt BW_2 hj, lows_get _ _ _ (by omega), hA0]
    · rw [List.getElem?_eq_none (by omega), List.getElem?_eq_none (by rw [lows_length]; omega)]
  have hcell := dw_all (digs BW a)
  have hAlt : a / BW ^ W < BW ^ ((digs BW a).length - W) := by
    refine Nat.div_lt_of_lt_mul ?_
    rw [← Nat.pow_add, show W + ((digs BW a).length - W) = (digs BW a).length by omega]
    exact hlt
  have hll := lows_length (B := BW) (a / BW ^ W) ((digs BW a).length - W)
  simp -implicitDefEqProofs only [go_sem, Nat.reduceAdd, Nat.reduceMul, Nat.reduceEqDiff, Nat.reduceLT, Nat.reduceLeDiff, Nat.reduceSub, Nat.reduceBEq, reduceIte, reduceCtorEq, Int.reduceEq, Int.reduceNe, Nat.reduceBneDiff, Int.reduceLE, Int.reduceLT, Int.reduceToNat, Int.reduceAdd, Int.reduceSub, Int.reduceMul, Int.reduceNeg, dw, List.length_map, d1, d2, q1, g1, hn0, hn1, Int.toNat_natCast, hsl, hcell]
  refine gcallB_intro _ _ _ _ _ _ _ _ _ (wclone_v (lows BW (a / BW ^ W) ((digs BW a).length - W)) (by rw [hll]; omega) (by rw [hll]; omega)) ?_
  rw [hll]
  by_cases hr0 : r = 0
  · subst hr0
    have g0 : ((0 : Int) < (((0 : Nat) : Nat) : Int)) = False := by simp
    have htk : ((lows BW (a / BW ^ W) ((digs BW a).length - W)).map fW).take ((digs BW a).length - W) = (lows BW (a / BW ^ W) ((digs BW a).length - W)).map fW := List.take_of_length_le (by simp [hll])
    simp -implicitDefEqProofs only [go_sem, Nat.reduceAdd, Nat.reduceMul, Nat.reduceEqDiff, Nat.reduceLT, Nat.reduceLeDiff, Nat.reduceSub, Nat.reduceBEq, reduceIte, reduceCtorEq, Int.reduceEq, Int.reduceNe, Nat.reduceBneDiff, Int.reduceLE, Int.reduceLT, Int.reduceToNat, Int.reduceAdd, Int.reduceSub, Int.reduceMul, Int.reduceNeg, wB, g0, List.length_map, hll, htk]
    refine gcall_intro _ _ _ _ _ _ _ _ _ (wtrim_v (lows BW (a / BW ^ W) ((digs BW a).length - W)) (by rw [hll]; simp [maxLen]; omega)) ?_
    simp -implicitDefEqProofs only [go_sem, Nat.reduceAdd, Nat.reduceMul, Nat.reduceEqDiff, Nat.reduceLT, Nat.reduceLeDiff, Nat.reduceSub, Nat.reduceBEq, reduceIte, reduceCtorEq, Int.reduceEq, Int.reduceNe, Nat.reduceBneDiff, Int.reduceLE, Int.reduceLT, Int.reduceToNat, Int.reduceAdd, Int.reduceSub, Int.reduceMul, Int.reduceNeg, dw]
    rw [trimZ_lows BW_2, Nat.mod_eq_of_lt hAlt, hq, Nat.pow_zero, Nat.div_one]
  · have g0 : ((0 : Int) < ((r : Nat) : Int)) = True := by simp only [eq_iff_iff, iff_true]; omega
    simp -implicitDefEqProofs only [go_sem, Nat.reduceAdd, Nat.reduceMul, Nat.reduceEqDiff, Nat.reduceLT, Nat.reduceLeDiff, Nat.reduceSub, Nat.reduceBEq, reduceIte, reduceCtorEq, Int.reduceEq, Int.reduceNe, Nat.reduceBneDiff, Int.reduceLE, Int.reduceLT, Int.reduceToNat, Int.reduceAdd, Int.reduceSub, Int.reduceMul, Int.reduceNeg, wB, g0]
    have hdig := fun (j : Nat) (h : W + j < (digs BW a).length) => digs_get_lt (n := a) BW_2 h
    generalize hn : (digs BW a).length - W = n at *
    have hNn : (digs BW a).length = W + n := by omega
    have k1 : (((r : Nat) : Int) < 0) = False := by simp only [eq_iff_iff, iff_false]; omega
    have k2 : min r 64 = r := by omega
    have k3 : IntKind.i64.wrap (64 - ((r : Nat) : Int)) = ((64 - r : Nat) : Int) := by rw [wrap_i64 (by omega) (by omega)]; omega
    have k4 : ((((64 - r : Nat) : Nat) : Int) < 0) = False := by simp only [eq_iff_iff, iff_false]; omega
    have k5 : min (64 - r) 64 = 64 - r := by omega
    rw [hq]
    generalize hAA : a / BW ^ W = A at *
    refine g_loop mixed (fun i : { i : Nat // i ≤ n } => St.of [(0, dw (digs BW a)), (4, .nilS), (5, .int .i64 (W : Int)), (6, .int .i64 (r : Int)), (7, .bs 403 1 0 n), (24, .int .i64 (n : Int)), (25, .int .i64 (i.1 : Int))]
      [(403, wB (mix BW (A / 2 ^ r) A n i.1))]) (fun i => n - i.1) ⟨0, Nat.zero_le _⟩ ?_ ?_
    · refine le_of (θ := [(403, 403)]) rfl ?_ ?_
      · simp [varsLe, lkp, ren1, ren0, dw]
      · simp [boxesLe, lkp, Box.renames, mix_none]
    · rintro ⟨i, hi⟩
      have hml := mix_length (B := BW) (A / 2 ^ r) A n i
      by_cases hA : i < n
      · have hA' : ((i : Int) < (n : Int)) = True := by simp; omega
        have hi0 : (0 ≤ (i : Int)) = True := by simp
        have hwk := wrap_add1 (a := i) (by omega)
        have hgo : ((mix BW (A / 2 ^ r) A n i).map fW)[i]? = some (PV.int .u64 ((A / BW ^ i % BW : Nat) : Int)) := by
          rw [List.getElem?_map, mix_get _ _ _ _ _ hA, if_neg (Nat.lt_irrefl _)]; rfl
        by_cases hB : i + 1 < n
        · have hB' : (((i + 1 : Nat) : Int) < (n : Int)) = True := by simp only [eq_iff_iff, iff_true]; omega
          have hsd := shr_digit A i r (by omega) hr64
          have hset := mix_set (B := BW) (V := A / 2 ^ r) (W := A / 2 ^ r) (S := A) (n := n) (m := i) (by decide) hA rfl rfl
          have hga : (digs BW a)[W + i + 1]? = some (A / BW ^ (i + 1) % BW) := by
            have h := hdig (i + 1) (by omega)
            rw [hA0 (i + 1)] at h
            exact h
          have w1 := wrap_add (a := W) (b := i) (by omega)
          have w2 := wrap_add1 (a := W + i) (by omega)
          have b1 : (0 ≤ ((W + i + 1 : Nat) : Int)) = True := by simp only [eq_iff_iff, iff_true]; omega
          have hgo2 : (((mix BW (A / 2 ^ r) A n i).map fW).set i (.int .u64 ((A / BW ^ i % BW / 2 ^ r : Nat) : Int)))[i]? = some (PV.int .u64 ((A / BW ^ i % BW / 2 ^ r : Nat) : Int)) := by
            rw [List.getElem?_set_self (by rw [List.length_map, hml]; exact hA)]
          have e1 : A / BW ^ i % BW / 2 ^ r % 18446744073709551616 = A / BW ^ i % BW / 2 ^ r := Nat.mod_eq_of_lt (Nat.lt_of_le_of_lt (Nat.div_le_self _ _) (Nat.mod_lt _ (by decide)))
          simp -implicitDefEqProofs only [go_sem, Nat.reduceAdd, Nat.reduceMul, Nat.reduceEqDiff, Nat.reduceLT, Nat.reduceLeDiff, Nat.reduceSub, Nat.reduceBEq, reduceIte, reduceCtorEq, Int.reduceEq, Int.reduceNe, Nat.reduceBneDiff, Int.reduceLE, Int.reduceLT, Int.reduceToNat, Int.reduceAdd, Int.reduceSub, Int.reduceMul, Int.reduceNeg, wB, dw, hA', hi0, Int.toNat_natCast, List.length_map, hml, hgo, k1, k2, fdivK, hwk, hB', List.length_set, hgo2, w1, w2, b1, dw_get, hga, k3, k4, k5, shl_u64, Nat.mod_mod, e1, List.set_set]
          refine ⟨drawQ_true _ _ (by kernel_rfl), ⟨i + 1, hA⟩, by simp only; omega, le_of (θ := [(403, 403)]) rfl ?_ ?_⟩
          · simp [varsLe, lkp, ren1, ren0, dw]
          · simp only [WB] at hsd
            rw [set_fW, hsd, hset]
            simp [boxesLe, lkp, Box.renames]
        · have hB' : (((i + 1 : Nat) : Int) < (n : Int)) = False := by simp only [eq_iff_iff, iff_false]; omega
          have hsd := shr_top A i r (by rw [show i + 1 = n by omega]; exact Nat.div_eq_of_lt hAlt)
          have hset := mix_set (B := BW) (V := A / 2 ^ r) (W := A / 2 ^ r) (S := A) (n := n) (m := i) (by decide) hA rfl rfl
          simp -implicitDefEqProofs only [go_sem, Nat.reduceAdd, Nat.reduceMul, Nat.reduceEqDiff, Nat.reduceLT, Nat.reduceLeDiff, Nat.reduceSub, Nat.reduceBEq, reduceIte, reduceCtorEq, Int.reduceEq, Int.reduceNe, Nat.reduceBneDiff, Int.reduceLE, Int.reduceLT, Int.reduceToNat, Int.reduceAdd, Int.reduceSub, Int.reduceMul, Int.reduceNeg, wB, dw, hA', hi0, Int.toNat_natCast, List.length_map, hml, hgo, k1, k2, fdivK, hwk, hB', List.length_set]
          refine ⟨⟨i + 1, hA⟩, by simp only; omega, le_of (θ := [(403, 403)]) rfl ?_ ?_⟩
          · simp [varsLe, lkp, ren1, ren0, dw]
          · simp only [WB] at hsd
            rw [set_fW, hsd, hset]
            simp [boxesLe, lkp, Box.renames]
      · have hA' : ((i : Int) < (n : Int)) = False := by simp; omega
        obtain rfl : i = n := by omega
        have hm : mix BW (A / 2 ^ r) A i i = lows BW (A / 2 ^ r) i := mix_full _ _ _ _
        have hl2 := lows_length (B := BW) (A / 2 ^ r) i
        have htk : ((lows BW (A / 2 ^ r) i).map fW).take i = (lows BW (A / 2 ^ r) i).map fW := List.take_of_length_le (by simp [hl2])
        simp -implicitDefEqProofs only [go_sem, Nat.reduceAdd, Nat.reduceMul, Nat.reduceEqDiff, Nat.reduceLT, Nat.reduceLeDiff, Nat.reduceSub, Nat.reduceBEq, reduceIte, reduceCtorEq, Int.reduceEq, Int.reduceNe, Nat.reduceBneDiff, Int.reduceLE, Int.reduceLT, Int.reduceToNat, Int.reduceAdd, Int.reduceSub, Int.reduceMul, Int.reduceNeg, wB, hA', hm, List.length_map, hl2, htk]
        refine gcall_intro _ _ _ _ _ _ _ _ _ (wtrim_v (lows BW (A / 2 ^ r) i) (by rw [hl2]; simp [maxLen]; omega)) ?_
        simp -implicitDefEqProofs only [go_sem, Nat.reduceAdd, Nat.reduceMul, Nat.reduceEqDiff, Nat.reduceLT, Nat.reduceLeDiff, Nat.reduceSub, Nat.reduceBEq, reduceIte, reduceCtorEq, Int.reduceEq, Int.reduceNe, Nat.reduceBneDiff, Int.reduceLE, Int.reduceLT, Int.reduceToNat, Int.reduceAdd, Int.reduceSub, Int.reduceMul, Int.reduceNeg, dw]
        rw [trimZ_lows BW_2, Nat.mod_eq_of_lt (Nat.lt_of_le_of_lt (Nat.div_le_self _ _) hAlt)]
end Go.Proofs.YtnpclmmmngmdkaaGreat

namespace Go.Vl
open Go.RowKit
variable {P : Program} {tb : Tab} {nt : Nat} {ks : List Nat} {ops : Array Oper} {base i : Nat} {rest : List Oper} {accs : List Acc} {draw : Bool} {k : List It} {Q : Exit → St → Prop} {st : St}
theorem gcall_eq {dst : Option Tmp} {f f' : FuncId} {args args' : List PV} {es : List Eff} {l : Acc} {r : PV} (hs : SoundAt P f' args' r) (hf : f' = f) (ha : args' = args)
    (h : gops P tb nt ks ops base (i + 1) rest (l :: accs) draw k Q ((effsOn (if flatPV r then [] else es) st).put dst r)) : gcall P tb nt ks f args es l ops base i dst rest accs draw k Q st := by
  subst hf; subst ha; exact ⟨r, hs, h⟩
end Go.Vl

namespace Go.Proofs.YtnpclmmmngmdkaaGreat
open Go.Vl Go.RowKit Go.Dg

theorem trim_oneW {d : Nat} (h : d < BW) : trimZ [d] = digs BW d := by
  rw [trimZ_eq BW_2 [d] (by simpa using h)]; simp [val]
theorem blen_small {m : Nat} (h : m < 18446744073709551616) : blen m ≤ 64 := blen_le 64 m h
theorem u64_wrapI' (n : Int) : IntKind.u64.wrap n = n % 18446744073709551616 := by simp [IntKind.wrap, IntKind.bits, IntKind.signed]
theorem wOf_v (n : Int) (h1 : -9223372036854775808 ≤ n) (h2 : n ≤ 9223372036854775807) : SoundAt Tryz.prog 62 [.int .i64 n] (wPV n) := by
  obtain ⟨m, hm⟩ : ∃ m : Nat, m = n.natAbs := ⟨_, rfl⟩
  have hml : m < 18446744073709551616 := by omega
  have ht := wtrim_v [m] (by simp [maxLen])
  rw [trim_oneW hml] at ht
  have hL : (digs BW m).length ≤ 1000000 := Nat.le_trans ((digs_len_le BW_2 m 1).2 (by simpa using hml)) (by decide)
  have hw := fun neg => nwide_v neg m hL
  have hb : blen n.natAbs ≤ 64 := by rw [← hm]; exact blen_small hml
  by_cases hn : n < 0
  · have hn' : (n < 0) = True := by simp [hn]
    have e1 : IntKind.u64.wrap n = ((18446744073709551616 - m : Nat) : Int) := by rw [u64_wrapI']; omega
    have e2 : IntKind.u64.wrap (0 - ((18446744073709551616 - m : Nat) : Int)) = (m : Int) := by rw [u64_wrapI']; omega
    have hw1 := hw true
    have e3 : sv true m = n := by simp [sv]; omega
    rw [e3, outPV, if_neg (by omega)] at hw1
    refine sound_go (tb := []) 23 [.cell 2 30] [0, 2, 3, 4, 9] mixed Tryz.func62 rfl (by kernel_rfl) (by kernel_rfl) (by kernel_rfl) (by kernel_rfl) ?_
    repeat (first | (simp -implicitDefEqProofs only [go_sem, Nat.reduceAdd, Nat.reduceMul, Nat.reduceEqDiff, Nat.reduceLT, Nat.reduceLeDiff, Nat.reduceSub, Nat.reduceBEq, reduceIte, reduceCtorEq, Int.reduceEq, Int.reduceNe, Nat.reduceBneDiff, Int.reduceLE, Int.reduceLT, Int.reduceToNat, Int.reduceAdd, Int.reduceSub, Int.reduceMul, Int.reduceNeg, hn', e1, e2, nP, dw, wPV, List.map_cons, List.map_nil]) | ((with_reducible refine gcall_eq (ht) ?_ ?_ ?_); (with_reducible rfl); rfl) | ((with_reducible refine gcall_eq (hw1) ?_ ?_ ?_); (with_reducible rfl); rfl) | (with_reducible exact drawQ_true _ _ (by kernel_rfl)) | (with_reducible refine And.intro (drawQ_true _ _ (by kernel_rfl)) ?_))
  · have hn' : (n < 0) = False := by simp [hn]
    have e1 : IntKind.u64.wrap n = (m : Int) := by rw [u64_wrapI']; omega
    have hw1 := hw false
    have e3 : sv false m = n := by simp [sv]; omega
    rw [e3, outPV, if_neg (by omega)] at hw1
    refine sound_go (tb := []) 23 [.cell 2 30] [0, 2, 3, 4, 9] mixed Tryz.func62 rfl (by kernel_rfl) (by kernel_rfl) (by kernel_rfl) (by kernel_rfl) ?_
    repeat (first | (simp -implicitDefEqProofs only [go_sem, Nat.reduceAdd, Nat.reduceMul, Nat.reduceEqDiff, Nat.reduceLT, Nat.reduceLeDiff, Nat.reduceSub, Nat.reduceBEq, reduceIte, reduceCtorEq, Int.reduceEq, Int.reduceNe, Nat.reduceBneDiff, Int.reduceLE, Int.reduceLT, Int.reduceToNat, Int.reduceAdd, Int.reduceSub, Int.reduceMul, Int.reduceNeg, hn', e1, nP, dw, wPV, List.map_cons, List.map_nil]) | ((with_reducible refine gcall_eq (ht) ?_ ?_ ?_); (with_reducible rfl); rfl) | ((with_reducible refine gcall_eq (hw1) ?_ ?_ ?_); (with_reducible rfl); rfl) | (with_reducible exact drawQ_true _ _ (by kernel_rfl)) | (with_reducible refine And.intro (drawQ_true _ _ (by kernel_rfl)) ?_))

theorem wSign_v (neg : Bool) (s : ByteArray) (h : validB neg s.data.toList = true) (hs : s.size ≤ 100000) : SoundAt Tryz.prog 43 [.agg [.bool neg, .str s]] (.int .i64 (wnum neg s).sign) := by
  have hv := wvalid_v neg s
  rw [h] at hv
  have ho := wof_v neg s h (by omega)
  have hg := nsign_v neg (bnum s.data.toList)
  refine sound_go (tb := []) 9 [.tmp 2] [0, 1, 2, 5] mixed Tryz.func43 rfl (by kernel_rfl) (by kernel_rfl) (by kernel_rfl) (by kernel_rfl) ?_
  repeat (first | (simp -implicitDefEqProofs only [go_sem, Nat.reduceAdd, Nat.reduceMul, Nat.reduceEqDiff, Nat.reduceLT, Nat.reduceLeDiff, Nat.reduceSub, Nat.reduceBEq, reduceIte, reduceCtorEq, Int.reduceEq, Int.reduceNe, Nat.reduceBneDiff, Int.reduceLE, Int.reduceLT, Int.reduceToNat, Int.reduceAdd, Int.reduceSub, Int.reduceMul, Int.reduceNeg, nP, dw]) | ((with_reducible refine gcall_eq (hv) ?_ ?_ ?_); (with_reducible rfl); rfl) | ((with_reducible refine gcall_eq (ho) ?_ ?_ ?_); (with_reducible rfl); rfl) | ((with_reducible refine gcall_eq (hg) ?_ ?_ ?_); (with_reducible rfl); rfl) | (with_reducible exact drawQ_true _ _ (by kernel_rfl)) | (with_reducible refine And.intro (drawQ_true _ _ (by kernel_rfl)) ?_))
  rfl
theorem wLen_v (neg : Bool) (s : ByteArray) (h : validB neg s.data.toList = true) (hs : s.size ≤ 100000) : SoundAt Tryz.prog 79 [.agg [.bool neg, .str s]] (.int .i64 (blen (bnum s.data.toList) : Int)) := by
  have hv := wvalid_v neg s
  rw [h] at hv
  have ho := wload_v s (by omega)
  rw [load_digs h] at ho
  have hg := wsize_v (bnum s.data.toList) (Nat.le_trans (L_bnum s hs) (by decide))
  refine sound_go (tb := []) 10 [.tmp 2] [0, 1, 2, 5] mixed Tryz.func79 rfl (by kernel_rfl) (by kernel_rfl) (by kernel_rfl) (by kernel_rfl) ?_
  repeat (first | (simp -implicitDefEqProofs only [go_sem, Nat.reduceAdd, Nat.reduceMul, Nat.reduceEqDiff, Nat.reduceLT, Nat.reduceLeDiff, Nat.reduceSub, Nat.reduceBEq, reduceIte, reduceCtorEq, Int.reduceEq, Int.reduceNe, Nat.reduceBneDiff, Int.reduceLE, Int.reduceLT, Int.reduceToNat, Int.reduceAdd, Int.reduceSub, Int.reduceMul, Int.reduceNeg, dw]) | ((with_reducible refine gcall_eq (hv) ?_ ?_ ?_); (with_reducible rfl); rfl) | ((with_reducible refine gcall_eq (ho) ?_ ?_ ?_); (with_reducible rfl); rfl) | ((with_reducible refine gcall_eq (hg) ?_ ?_ ?_); (with_reducible rfl); rfl) | (with_reducible exact drawQ_true _ _ (by kernel_rfl)) | (with_reducible refine And.intro (drawQ_true _ _ (by kernel_rfl)) ?_))
end Go.Proofs.YtnpclmmmngmdkaaGreat

namespace Go.Dg
theorem clear_copy {α : Type} (E L : List α) (i n : Nat) (z : α) (hL : L.length ≤ n) (hi : i + n ≤ E.length) :
    (E.take i ++ List.replicate n z ++ E.drop (i + n)).take i ++ L ++ (E.take i ++ List.replicate n z ++ E.drop (i + n)).drop (i + L.length) = E.take i ++ (L ++ List.replicate (n - L.length) z) ++ E.drop (i + n) := by
  have hl : (E.take i).length = i := by simp; omega
  rw [List.append_assoc (E.take i) (List.replicate n z)]
  generalize hT : E.take i = T at *
  generalize E.drop (i + n) = D
  have e1 : (T ++ (List.replicate n z ++ D)).take i = T := by rw [← hl]; exact List.take_left
  have e2 : (T ++ (List.replicate n z ++ D)).drop (i + L.length) = List.replicate (n - L.length) z ++ D := by
    rw [← List.drop_drop, ← hl, List.drop_left, List.drop_append]
    simp only [List.drop_replicate, List.length_replicate]
    rw [show L.length - n = 0 by omega, List.drop_zero]
  rw [e1, e2]
  simp only [List.append_assoc]
/-- The divisor, moved up so that its first word begins with a bit 1, has as many words. -/
theorem up_len {b : Nat} (hb : b ≠ 0) :
    (digs WB (b * 2 ^ (64 - blen (b / WB ^ ((digs WB b).length - 1))))).length = (digs WB b).length := by
  have hp : 0 < (digs WB b).length := List.length_pos_iff.2 (mt (digs_eq_nil (by decide)).1 hb)
  have ht := top_digit (B := WB) (by decide) hb
  obtain ⟨K, hK⟩ : ∃ K, (digs WB b).length = K + 1 := ⟨(digs WB b).length - 1, by omega⟩
  rw [hK, Nat.add_sub_cancel] at ht ⊢
  have h64 := blen_le 64 _ ht.2
  have hlt : b / WB ^ K < 2 ^ blen (b / WB ^ K) := by
    rcases Nat.lt_or_ge (b / WB ^ K) (2 ^ blen (b / WB ^ K)) with h | h
    · exact h
    · have := blen_gt _ _ h; omega
  apply Nat.le_antisymm
  · refine (digs_len_le (by decide) _ _).2 ?_
    have h1 : b < 2 ^ blen (b / WB ^ K) * WB ^ K := (Nat.div_lt_iff_lt_mul (WBp K)).1 hlt
    have h2 := Nat.mul_lt_mul_of_pos_right h1 (show 0 < 2 ^ (64 - blen (b / WB ^ K)) from Nat.pow_pos (by decide))
    rw [Nat.mul_right_comm, ← Nat.pow_add, show blen (b / WB ^ K) + (64 - blen (b / WB ^ K)) = 64 by omega] at h2
    rw [Nat.pow_succ, Nat.mul_comm (WB ^ K)]
    exact h2
  · have h3 : K < (digs WB b).length := by omega
    have h4 := (digs_len (by decide) b K).1 h3
    refine (digs_len (by decide) _ K).2 ?_
    have h5 : b / WB ^ K ≤ b * 2 ^ (64 - blen (b / WB ^ K)) / WB ^ K := Nat.div_le_div_right (Nat.le_mul_of_pos_right b (Nat.pow_pos (by decide)))
    exact Nat.ne_of_gt (Nat.lt_of_lt_of_le (Nat.pos_of_ne_zero h4) h5)
end Go.Dg

namespace Go.Proofs.YtnpclmmmngmdkaaGreat
open Go.Vl Go.RowKit Go.Dg

theorem wdiv_lt (a b : Nat) (h : a < b) (ha : (digs BW a).length ≤ 100000000) (hbl : (digs BW b).length ≤ 100000000) : SoundAt Tryz.prog 115 [dw (digs BW a), dw (digs BW b)] (.tup [dw (digs BW (a / b)), dw (digs BW (a % b))]) := by
  have hc := wcompare_v a b (by omega) (by omega)
  have g1 : (cmpW a b < 0) = True := by simp only [eq_iff_iff, iff_true]; exact (cmpW_neg a b).2 h
  rw [Nat.div_eq_of_lt h, Nat.mod_eq_of_lt h, digs_zero]
  refine sound_go (tb := []) 145 [.tmp 4, .tmp 5] [0, 1, 4, 5, 6, 7, 8, 9, 10, 11, 12, 13, 14, 15, 16, 17, 21, 25, 68, 82, 121] mixed Tryz.func115 rfl (by kernel_rfl) (by kernel_rfl) (by kernel_rfl) (by kernel_rfl) ?_
  repeat (first | (simp -implicitDefEqProofs only [go_sem, Nat.reduceAdd, Nat.reduceMul, Nat.reduceEqDiff, Nat.reduceLT, Nat.reduceLeDiff, Nat.reduceSub, Nat.reduceBEq, reduceIte, reduceCtorEq, Int.reduceEq, Int.reduceNe, Nat.reduceBneDiff, Int.reduceLE, Int.reduceLT, Int.reduceToNat, Int.reduceAdd, Int.reduceSub, Int.reduceMul, Int.reduceNeg, dw, g1, List.map_nil]) | ((with_reducible refine gcall_eq (hc) ?_ ?_ ?_); (with_reducible rfl); rfl) | (with_reducible exact drawQ_true _ _ (by kernel_rfl)) | (with_reducible refine And.intro (drawQ_true _ _ (by kernel_rfl)) ?_))
theorem wdiv_one (a b : Nat) (h : b ≤ a) (hb : 0 < b) (h1 : b < 18446744073709551616) (ha : (digs BW a).length ≤ 100000000) : SoundAt Tryz.prog 115 [dw (digs BW a), dw (digs BW b)] (.tup [dw (digs BW (a / b)), dw (digs BW (a % b))]) := by
  have hd : digs BW b = [b] := by rw [digs_succ BW_2 (by omega), Nat.mod_eq_of_lt h1, Nat.div_eq_of_lt h1, digs_zero]
  have hc := wcompare_v a b (by omega) (by rw [hd]; simp)
  have g1 : (cmpW a b < 0) = False := by simp only [eq_iff_iff, iff_false]; rw [cmpW_neg]; omega
  have hs := wsmall_v a b hb h1 (by omega)
  have hr : a % b < BW := Nat.lt_trans (Nat.mod_lt _ hb) h1
  have ht := wtrim_v [a % b] (by simp [maxLen])
  rw [trim_oneW hr] at ht
  rw [hd] at hc ⊢
  have z1 : (((0 + 1 : Nat) : Int) == 1) = true := rfl
  have z2 : (((1 : Nat) : Int) == 1) = true := rfl
  refine sound_go (tb := []) 145 [.tmp 4, .tmp 5] [0, 1, 4, 5, 6, 7, 8, 9, 10, 11, 12, 13, 14, 15, 16, 17, 21, 25, 68, 82, 121] mixed Tryz.func115 rfl (by kernel_rfl) (by kernel_rfl) (by kernel_rfl) (by kernel_rfl) ?_
  repeat (first | (simp -implicitDefEqProofs only [go_sem, Nat.reduceAdd, Nat.reduceMul, Nat.reduceEqDiff, Nat.reduceLT, Nat.reduceLeDiff, Nat.reduceSub, Nat.reduceBEq, reduceIte, reduceCtorEq, Int.reduceEq, Int.reduceNe, Nat.reduceBneDiff, Int.reduceLE, Int.reduceLT, Int.reduceToNat, Int.reduceAdd, Int.reduceSub, Int.reduceMul, Int.reduceNeg, dw, g1, List.map_nil, List.map_cons, z1, z2]) | ((with_reducible refine gcall_eq (hc) ?_ ?_ ?_); (with_reducible rfl); rfl) | ((with_reducible refine gcall_eq (hs) ?_ ?_ ?_); (with_reducible rfl); rfl) | ((with_reducible refine gcall_eq (ht) ?_ ?_ ?_); (with_reducible rfl); rfl) | (with_reducible exact drawQ_true _ _ (by kernel_rfl)) | (with_reducible refine And.intro (drawQ_true _ _ (by kernel_rfl)) ?_))
end Go.Proofs.YtnpclmmmngmdkaaGreat

namespace Go.Proofs.YtnpclmmmngmdkaaGreat
open Go.Vl Go.RowKit Go.Dg

theorem fW_flat (l : List Nat) : ((l.map fW).all fun e => e.cells.length == 1 && e.cells.all flatc) = true := by
  rw [List.all_map, List.all_eq_true]; intro _ _; rfl
set_option maxHeartbeats 4000000 in
theorem wdiv_many (a b : Nat) (h : b ≤ a) (hb1 : 2 ≤ (digs BW b).length) (ha : (digs BW a).length ≤ 100000000) : SoundAt Tryz.prog 115 [dw (digs BW a), dw (digs BW b)] (.tup [dw (digs BW (a / b)), dw (digs BW (a % b))]) := by
  have hb0 : b ≠ 0 := by rintro rfl; rw [digs_zero] at hb1; simp at hb1
  have hkN : (digs BW b).length ≤ (digs BW a).length := (digs_len_le BW_2 b _).2 (Nat.lt_of_le_of_lt h (lt_pow_len BW_2 a))
  have hc := wcompare_v a b (by omega) (by omega)
  have g1 : (cmpW a b < 0) = False := by simp only [eq_iff_iff, iff_false]; rw [cmpW_neg]; omega
  have htop := top_digit BW_2 hb0
  have hga := digs_get_lt (n := b) (k := (digs BW b).length - 1) BW_2 (by omega)
  rw [Nat.mod_eq_of_lt htop.2] at hga
  have hdk := up_len hb0
  have hlz := lz64_v (b / BW ^ ((digs BW b).length - 1)) htop.2
  have hs64 : 64 - blen (b / BW ^ ((digs BW b).length - 1)) ≤ 64 := by omega
  obtain ⟨s, hs⟩ : ∃ s, s = 64 - blen (b / BW ^ ((digs BW b).length - 1)) := ⟨_, rfl⟩
  simp only [WB] at hdk
  simp only [BW] at hs hlz hdk
  rw [← hs] at hlz hdk hs64
  have hsb := wshl_v b s (by omega) (by omega)
  have hsa := wshl_v a s (by omega) (by omega)
  have hR0 : a * 2 ^ s < BW ^ ((digs BW a).length + 1) := by
    rw [Nat.pow_succ]
    exact Nat.mul_lt_mul_of_lt_of_le (lt_pow_len BW_2 a) (Nat.pow_le_pow_right (n := 2) (by decide) hs64) (by decide)
  have hL0 : (digs BW (a * 2 ^ s)).length ≤ (digs BW a).length + 1 := (digs_len_le BW_2 _ _).2 hR0
  have hbk : BW ^ ((digs BW b).length - 1) ≤ b := by
    have := (digs_len BW_2 b ((digs BW b).length - 1)).1 (by omega)
    rcases Nat.lt_or_ge b (BW ^ ((digs BW b).length - 1)) with h' | h'
    · exact absurd (Nat.div_eq_of_lt h') this
    · exact h'
  have hRd : a * 2 ^ s < b * 2 ^ s * BW ^ ((digs BW a).length + 1 - (digs BW b).length) := by
    have e : BW ^ (digs BW a).length = BW ^ ((digs BW b).length - 1) * BW ^ ((digs BW a).length + 1 - (digs BW b).length) := by
      rw [← Nat.pow_add]; congr 1; omega
    have h1 := lt_pow_len BW_2 a
    rw [e] at h1
    have h2 := Nat.lt_of_lt_of_le h1 (Nat.mul_le_mul_right _ hbk)
    rw [Nat.mul_right_comm]
    exact Nat.mul_lt_mul_of_pos_right h2 (Nat.pow_pos (by decide))
  have hq : a / b = a * 2 ^ s / (b * 2 ^ s) := (Nat.mul_div_mul_right a b (Nat.pow_pos (by decide))).symm
  have hm : a % b * 2 ^ s = a * 2 ^ s % (b * 2 ^ s) := (Nat.mul_mod_mul_right _ a b).symm
  have hd0 : 0 < b * 2 ^ s := Nat.mul_pos (by omega) (Nat.pow_pos (by decide))
  have hpad := digs_lows_pad BW_2 (a * 2 ^ s) ((digs BW a).length + 1) hL0
  generalize hRR : a * 2 ^ s = R0 at *
  generalize hdd : b * 2 ^ s = d at *
  generalize hN : (digs BW a).length = N at *
  generalize hkk : (digs BW b).length = k at *
  obtain ⟨nq, hnq⟩ : ∃ nq, nq = N + 1 - k := ⟨_, rfl⟩
  rw [← hnq] at hRd
  have z1 : ((k : Int) == 1) = false := by simp only [beq_eq_false_iff_ne, ne_eq]; omega
  have z2 : IntKind.i64.wrap ((k : Int) - 1) = ((k - 1 : Nat) : Int) := by rw [wrap_i64 (by omega) (by omega)]; omega
  have z3 : (0 ≤ ((k - 1 : Nat) : Int)) = True := by simp only [eq_iff_iff, iff_true]; exact Int.natCast_nonneg _
  have z4 := wrap_add1 (a := N) (by omega)
  have z5 : ((0 : Int) ≤ ((N + 1 : Nat) : Int)) = True := by simp only [eq_iff_iff, iff_true]; omega
  have z6 : ((8 : Nat) : Int) * ((N + 1 : Nat) : Int) ≤ 281474976710656 := by omega
  have z7 : ((N + 1 : Nat) : Int) ≤ 9223372036854775807 := by omega
  have z8 : IntKind.i64.wrap (((N + 1 : Nat) : Int) - (k : Int)) = (nq : Int) := by rw [wrap_i64 (by omega) (by omega)]; omega
  have z9 : ((0 : Int) ≤ (nq : Int)) = True := by simp only [eq_iff_iff, iff_true]; omega
  have z10 : ((8 : Nat) : Int) * (nq : Int) ≤ 281474976710656 := by omega
  have z11 : (nq : Int) ≤ 9223372036854775807 := by omega
  have z12 : IntKind.i64.wrap ((nq : Int) - 1) = (nq : Int) - 1 := wrap_i64 (by omega) (by omega)
  have z13 : Nat.ble 0 0 = true := rfl
  have z14 : Nat.ble (digs BW R0).length (N + 1) = true := Nat.ble_eq_true_of_le hL0
  have z15 : min (digs BW R0).length (N + 1) = (digs BW R0).length := Nat.min_eq_left hL0
  
  refine sound_go (tb := [(1901, [(1000000, 706)], []), (2201, [(1000000, 706)], []), (2203, [(1000000, 706)], [(102, 2203)])]) 145 [.tmp 4, .tmp 5] [0, 1, 4, 5, 6, 7, 8, 9, 10, 11, 12, 13, 14, 15, 16, 17, 21, 25, 68, 82, 121] mixed Tryz.func115 rfl (by kernel_rfl) (by kernel_rfl) (by kernel_rfl) (by kernel_rfl) ?_
  simp -implicitDefEqProofs only [go_sem, Nat.reduceAdd, Nat.reduceMul, Nat.reduceEqDiff, Nat.reduceLT, Nat.reduceLeDiff, Nat.reduceSub, Nat.reduceBEq, reduceIte, reduceCtorEq, Int.reduceEq, Int.reduceNe, Nat.reduceBneDiff, Int.reduceLE, Int.reduceLT, Int.reduceToNat, Int.reduceAdd, Int.reduceSub, Int.reduceMul, Int.reduceNeg, dw]
  refine gcall_intro _ _ _ _ _ _ _ _ _ hc ?_
  simp -implicitDefEqProofs only [go_sem, Nat.reduceAdd, Nat.reduceMul, Nat.reduceEqDiff, Nat.reduceLT, Nat.reduceLeDiff, Nat.reduceSub, Nat.reduceBEq, reduceIte, reduceCtorEq, Int.reduceEq, Int.reduceNe, Nat.reduceBneDiff, Int.reduceLE, Int.reduceLT, Int.reduceToNat, Int.reduceAdd, Int.reduceSub, Int.reduceMul, Int.reduceNeg, dw, g1, List.length_map, hkk, z1, z2, z3, dw_get, hga, Int.toNat_natCast]
  refine gcall_intro _ _ _ _ _ _ _ _ _ hlz ?_
  simp -implicitDefEqProofs only [go_sem, Nat.reduceAdd, Nat.reduceMul, Nat.reduceEqDiff, Nat.reduceLT, Nat.reduceLeDiff, Nat.reduceSub, Nat.reduceBEq, reduceIte, reduceCtorEq, Int.reduceEq, Int.reduceNe, Nat.reduceBneDiff, Int.reduceLE, Int.reduceLT, Int.reduceToNat, Int.reduceAdd, Int.reduceSub, Int.reduceMul, Int.reduceNeg, dw]
  refine gcall_intro _ _ _ _ _ _ _ _ _ hsb ?_
  simp -implicitDefEqProofs only [go_sem, Nat.reduceAdd, Nat.reduceMul, Nat.reduceEqDiff, Nat.reduceLT, Nat.reduceLeDiff, Nat.reduceSub, Nat.reduceBEq, reduceIte, reduceCtorEq, Int.reduceEq, Int.reduceNe, Nat.reduceBneDiff, Int.reduceLE, Int.reduceLT, Int.reduceToNat, Int.reduceAdd, Int.reduceSub, Int.reduceMul, Int.reduceNeg, dw, List.length_map, hN, z4, z5, z6, z7, Int.toNat_natCast]
  refine ⟨drawQ_true _ _ (by kernel_rfl), ?_⟩
  refine gcall_intro _ _ _ _ _ _ _ _ _ hsa ?_
  have hfl := fW_flat (digs BW R0)
  have htk0 : ((digs BW R0).map fW).take (digs BW R0).length = (digs BW R0).map fW := List.take_of_length_le (by simp)
  have hcp : (digs BW R0).map fW ++ (List.replicate (N + 1) (PV.int .u64 0)).drop (digs BW R0).length = (lows BW R0 (N + 1)).map fW := by
    rw [← hpad, List.map_append, List.drop_replicate, List.map_replicate]
    rfl
  have hrep : List.replicate nq (PV.int .u64 0) = (mix BW 0 (R0 / d) nq nq).map fW := by rw [mix_full, lows_zero']; simp
  simp -implicitDefEqProofs only [go_sem, Nat.reduceAdd, Nat.reduceMul, Nat.reduceEqDiff, Nat.reduceLT, Nat.reduceLeDiff, Nat.reduceSub, Nat.reduceBEq, reduceIte, reduceCtorEq, Int.reduceEq, Int.reduceNe, Nat.reduceBneDiff, Int.reduceLE, Int.reduceLT, Int.reduceToNat, Int.reduceAdd, Int.reduceSub, Int.reduceMul, Int.reduceNeg, dw, List.length_map, hfl, z13, z14, z15, htk0, hcp, List.length_replicate, hdk, z8, z9, z10, z11, z12, Int.toNat_natCast]
  rw [hrep]
  have hst : R0 % (d * BW ^ nq) = R0 := Nat.mod_eq_of_lt hRd
  refine g_loop mixed (fun i : { i : Nat // i ≤ nq } => St.of [(8, .int .i64 (s : Int)), (9, dw (digs BW d)), (10, .bs 706 1 0 (N + 1)), (11, .int .i64 (k : Int)), (12, .bs 1004 1 0 nq), (13, .int .i64 ((i.1 : Int) - 1))]
    [(706, wB (lows BW (R0 % (d * BW ^ i.1)) (N + 1))), (1004, wB (mix BW 0 (R0 / d) nq i.1))]) (fun i => i.1) ⟨nq, Nat.le_refl _⟩ ?_ ?_
  · refine le_of (θ := [(706, 706), (1004, 1004)]) rfl ?_ ?_
    · simp [varsLe, lkp, ren1, ren0, dw]
    · simp [boxesLe, lkp, Box.renames, hst]
  · rintro ⟨i, hi⟩
    cases i with
    | zero =>
      have h1 : ((0 : Int) ≤ ((0 : Nat) : Int) - 1) = False := by simp
      have e0 : R0 % (d * BW ^ 0) = R0 % d := by rw [Nat.pow_zero, Nat.mul_one]
      have hll := lows_length (B := BW) (R0 / d) nq
      have htk := List.take_of_length_le (l := (lows BW (R0 / d) nq).map fW) (i := nq) (by simp [hll])
      have hll2 := lows_length (B := BW) (R0 % d) (N + 1)
      have htk2 := List.take_of_length_le (l := (lows BW (R0 % d) (N + 1)).map fW) (i := N + 1) (by simp [hll2])
      have ht1 := wtrim_v (lows BW (R0 / d) nq) (by rw [hll]; unfold maxLen; omega)
      have ht2 := wtrim_v (lows BW (R0 % d) (N + 1)) (by rw [hll2]; unfold maxLen; omega)
      rw [trimZ_lows BW_2, Nat.mod_eq_of_lt (Nat.div_lt_of_lt_mul hRd)] at ht1
      rw [trimZ_lows BW_2, Nat.mod_eq_of_lt (Nat.lt_of_le_of_lt (Nat.mod_le _ _) hR0)] at ht2
      have hL3 : (digs BW (a % b * 2 ^ s)).length ≤ N + 1 := (digs_len_le BW_2 _ _).2 (by rw [hm]; exact Nat.lt_of_le_of_lt (Nat.mod_le _ _) hR0)
      have hsr := wshr_v (a % b * 2 ^ s) s (by omega) (by omega)
      rw [Nat.mul_div_cancel _ (Nat.pow_pos (by decide)), hm] at hsr
      rw [hq]
      repeat (first | (simp -implicitDefEqProofs only [go_sem, Nat.reduceAdd, Nat.reduceMul, Nat.reduceEqDiff, Nat.reduceLT, Nat.reduceLeDiff, Nat.reduceSub, Nat.reduceBEq, reduceIte, reduceCtorEq, Int.reduceEq, Int.reduceNe, Nat.reduceBneDiff, Int.reduceLE, Int.reduceLT, Int.reduceToNat, Int.reduceAdd, Int.reduceSub, Int.reduceMul, Int.reduceNeg, h1, e0, wB, mix_none, List.length_map, hll, htk, hll2, htk2, dw]) | ((with_reducible refine gcall_eq (ht1) ?_ ?_ ?_); (with_reducible rfl); rfl) | ((with_reducible refine gcall_eq (ht2) ?_ ?_ ?_); (with_reducible rfl); rfl) | ((with_reducible refine gcall_eq (hsr) ?_ ?_ ?_); (with_reducible rfl); rfl) | (with_reducible exact drawQ_true _ _ (by kernel_rfl)) | (with_reducible refine And.intro (drawQ_true _ _ (by kernel_rfl)) ?_))
    | succ i =>
      have hs1 : (((i + 1 : Nat) : Int) - 1) = (i : Int) := by omega
      have i0 : ((0 : Int) ≤ (i : Int)) = True := by simp
      have hik : i + k ≤ N := by omega
      obtain ⟨S, hS⟩ : ∃ S, S = R0 % (d * BW ^ (i + 1)) := ⟨_, rfl⟩
      obtain ⟨W, hW⟩ : ∃ W, W = S / BW ^ i := ⟨_, rfl⟩
      obtain ⟨Q, hQ⟩ : ∃ Q, Q = R0 / d / BW ^ i % BW := ⟨_, rfl⟩
      have hdg := dv_digit (B := BW) (by decide) R0 d i hd0
      rw [← hS, ← hW, ← hQ] at hdg
      have hQB : Q < BW := by rw [hQ]; exact Nat.mod_lt _ (by decide)
      have hdk2 : d < BW ^ k := by rw [← hdk]; exact lt_pow_len BW_2 d
      have hWd : W < d * BW := by
        rw [hW]
        refine Nat.div_lt_of_lt_mul ?_
        rw [hS, Nat.mul_comm (BW ^ i), Nat.mul_assoc, Nat.mul_comm BW, ← Nat.pow_succ]
        exact Nat.mod_lt _ (Nat.mul_pos hd0 (Nat.pow_pos (by decide)))
      have hWk : W < BW ^ (k + 1) := by
        rw [Nat.pow_succ]
        exact Nat.lt_trans hWd (Nat.mul_lt_mul_of_pos_right hdk2 (by decide))
      have hll := lows_length (B := BW) S (N + 1)
      have hSW : ∀ j, S / BW ^ (i + j) = W / BW ^ j := fun j => by rw [hW, Nat.pow_add, Nat.div_div_eq_div_mul]
      have hQle : d * Q ≤ W := by rw [← hdg]; exact Nat.mul_div_le W d
      have hQmax : ∀ p, d * p ≤ W → p ≤ Q := fun p hp => by rw [← hdg, Nat.le_div_iff_mul_le hd0, Nat.mul_comm]; exact hp
      have hLd : ∀ p, p < BW → (digs BW (d * p)).length ≤ 1000000000 := fun p hp => by
        refine Nat.le_trans ((digs_len_le BW_2 _ (k + 1)).2 ?_) (show k + 1 ≤ 1000000000 by omega)
        rw [Nat.pow_succ]
        exact Nat.mul_lt_mul_of_lt_of_le hdk2 (Nat.le_of_lt hp) (by decide)
      have hLW : (digs BW W).length ≤ k + 1 := (digs_len_le BW_2 _ _).2 hWk
      have hwin : ((lows BW S (N + 1)).drop i).take (k + 1) = lows BW W (k + 1) := by rw [lows_window _ _ _ _ _ (by omega), ← hW]
      have htB := wtrimB_v (lows BW S (N + 1)) i (k + 1) (by rw [hll]; omega) (by rw [hll]; unfold maxLen; omega)
      rw [hwin, trimZ_lows BW_2, Nat.mod_eq_of_lt hWk] at htB
      have hwd2 : ((lows BW S (N + 1)).drop i).take (digs BW W).length = digs BW W := by
        rw [lows_window _ _ _ _ _ (by omega), ← hW, lows_digs BW_2]
      have hesc : (((lows BW S (N + 1)).map fW).drop i).take (digs BW W).length = (digs BW W).map fW := by
        rw [← List.map_drop, ← List.map_take, hwd2]
      have b7 : (i + (digs BW W).length ≤ N + 1) = True := by simp only [eq_iff_iff, iff_true]; omega
      have hg1 : ((lows BW S (N + 1)).map fW)[i + k]? = some (PV.int .u64 ((W / BW ^ k : Nat) : Int)) := by
        have h5 : W / BW ^ k < BW := Nat.div_lt_of_lt_mul (by rw [← Nat.pow_succ]; exact hWk)
        rw [List.getElem?_map, lows_get _ _ _ (by omega), hSW, Nat.mod_eq_of_lt h5]; rfl
      have hg2 : ((lows BW S (N + 1)).map fW)[i + k - 1]? = some (PV.int .u64 ((W / BW ^ (k - 1) % BW : Nat) : Int)) := by
        rw [List.getElem?_map, show i + k - 1 = i + (k - 1) by omega, lows_get _ _ _ (by omega), hSW]; rfl
      have htd := top_digit BW_2 (show d ≠ 0 by omega)
      rw [hdk] at htd
      have hgd := digs_get_lt (n := d) (k := k - 1) BW_2 (by rw [hdk]; omega)
      rw [Nat.mod_eq_of_lt htd.2] at hgd
      have wik := wrap_add (a := i) (b := k) (by omega)
      have wik1 := wrap_add1 (a := i + k) (by omega)
      have wikm : IntKind.i64.wrap (((i + k : Nat) : Int) - 1) = ((i + k - 1 : Nat) : Int) := by rw [wrap_i64 (by omega) (by omega)]; omega
      have b1 : (0 ≤ ((i + k : Nat) : Int)) = True := by simp only [eq_iff_iff, iff_true]; exact Int.natCast_nonneg _
      have b2 : (((i + k : Nat) : Int) < ((N + 1 : Nat) : Int)) = True := by simp only [eq_iff_iff, iff_true]; omega
      have b2a : (0 ≤ ((i + k - 1 : Nat) : Int)) = True := by simp only [eq_iff_iff, iff_true]; exact Int.natCast_nonneg _
      have b2b : (((i + k - 1 : Nat) : Int) < ((N + 1 : Nat) : Int)) = True := by simp only [eq_iff_iff, iff_true]; omega
      have b3 : ((i : Int) ≤ ((i + k + 1 : Nat) : Int)) = True := by simp only [eq_iff_iff, iff_true]; omega
      have b4 : (((i + k + 1 : Nat) : Int) ≤ ((N + 1 : Nat) : Int)) = True := by simp only [eq_iff_iff, iff_true]; omega
      have b5 : (i < i + k + 1) = True := by simp only [eq_iff_iff, iff_true]; omega
      have hsub : i + k + 1 - i = k + 1 := by omega
      have hsB := wsubB_v (lows BW S (N + 1)) i W (d * Q) hQle hwd2 (by rw [hll]; omega) (by omega)
      have b8 : Nat.ble 0 i = true := Nat.ble_eq_true_of_le (Nat.zero_le _)
      have b9 : Nat.ble (i + (k + 1)) (N + 1) = true := Nat.ble_eq_true_of_le (by omega)
      have hWQ : W - d * Q < d := by
        have h5 := Nat.mod_lt W hd0
        have h6 := Nat.div_add_mod W d
        rw [hdg] at h6
        generalize d * Q = dq at *
        omega
      have hLq : (digs BW (W - d * Q)).length ≤ k := (digs_len_le BW_2 _ _).2 (Nat.lt_trans hWQ hdk2)
      have hLq2 : (digs BW (W - d * Q)).length ≤ (digs BW W).length := (digs_len_le BW_2 _ _).2 (Nat.lt_of_le_of_lt (Nat.sub_le _ _) (lt_pow_len BW_2 W))
      have hmn : min (digs BW (W - d * Q)).length (k + 1) = (digs BW (W - d * Q)).length := Nat.min_eq_left (by omega)
      have hllf := lows_length (B := BW) (W - d * Q) (digs BW W).length
      have b11 : ((digs BW (W - d * Q)).length ≤ (digs BW W).length) = True := by simp only [eq_iff_iff, iff_true]; exact hLq2
      have hlft : ((lows BW (W - d * Q) (digs BW W).length).map fW).take (digs BW (W - d * Q)).length = (digs BW (W - d * Q)).map fW := by
        rw [← List.map_take, lows_take _ _ _ hLq2, lows_digs BW_2]
      have hfl3 := fW_flat (digs BW (W - d * Q))
      have htk3 : ((digs BW (W - d * Q)).map fW).take (digs BW (W - d * Q)).length = (digs BW (W - d * Q)).map fW := List.take_of_length_le (by simp)
      have hlen3 : (((lows BW S (N + 1)).map fW).take i ++ List.replicate (k + 1) (PV.int .u64 0) ++ ((lows BW S (N + 1)).map fW).drop (i + (k + 1))).length = N + 1 := by simp [hll]; omega
      have b12 : Nat.ble (i + (digs BW (W - d * Q)).length) (N + 1) = true := Nat.ble_eq_true_of_le (by omega)
      have b10 : Nat.ble 0 0 = true := rfl
      have hinq : ((i : Int) < (nq : Int)) = True := by simp only [eq_iff_iff, iff_true]; omega
      have hmlq := mix_length (B := BW) 0 (R0 / d) nq (i + 1)
      obtain ⟨e, hgoq⟩ : ∃ e : Nat, ((mix BW 0 (R0 / d) nq (i + 1)).map fW)[i]? = some (PV.int .u64 (e : Int)) := ⟨_, by rw [List.getElem?_map, mix_get _ _ _ _ _ (by omega)]; rfl⟩
      have hsetq := mix_down (B := BW) (V := 0) (S := R0 / d) (N := nq) (i := i) (d := Q) (by omega) hQ.symm
      have w4 : IntKind.i64.wrap ((i : Int) - 1) = (i : Int) - 1 := wrap_i64 (by omega) (by omega)
      obtain ⟨S', hS'⟩ : ∃ S', S' = R0 % (d * BW ^ i) := ⟨_, rfl⟩
      have hnx : S % (d * BW ^ i) = S' := by rw [hS, hS']; exact dv_next R0 d i
      have hup : S' / BW ^ i = W - d * Q := by
        rw [← hnx, dv_upper (by decide) S d i hd0, ← hW]
        have h6 := Nat.div_add_mod W d
        rw [hdg] at h6
        omega
      have hlo : S % BW ^ i = S' % BW ^ i := by rw [← hnx, dv_lower (by decide)]
      have hpad2 := digs_lows_pad BW_2 (W - d * Q) (k + 1) (Nat.le_succ_of_le hLq)
      have hz1 : S / BW ^ (i + (k + 1)) = 0 := by rw [hSW]; exact Nat.div_eq_of_lt hWk
      have hz2 : S' / BW ^ (i + (k + 1)) = 0 := by
        rw [Nat.pow_add, ← Nat.div_div_eq_div_mul, hup]
        exact Nat.div_eq_of_lt (Nat.lt_of_le_of_lt (Nat.sub_le _ _) hWk)
      have hov2 := lows_over (B := BW) (V := S) (W := S') (n := N + 1) (j := i) (x := lows BW (W - d * Q) (k + 1)) (by decide) (by rw [lows_length]; omega) hlo (by rw [lows_length, hup]) (by rw [lows_length, hz1, hz2])
      rw [lows_length, ← hpad2] at hov2
      have hfin : (((lows BW S (N + 1)).map fW).take i ++ List.replicate (k + 1) (PV.int .u64 0) ++ ((lows BW S (N + 1)).map fW).drop (i + (k + 1))).take i ++ (digs BW (W - d * Q)).map fW ++
          (((lows BW S (N + 1)).map fW).take i ++ List.replicate (k + 1) (PV.int .u64 0) ++ ((lows BW S (N + 1)).map fW).drop (i + (k + 1))).drop (i + (digs BW (W - d * Q)).length) = (lows BW (R0 % (d * BW ^ i)) (N + 1)).map fW := by
        have h7 := clear_copy ((lows BW S (N + 1)).map fW) ((digs BW (W - d * Q)).map fW) i (k + 1) (PV.int .u64 0) (by rw [List.length_map]; omega) (by rw [List.length_map, hll]; omega)
        rw [List.length_map] at h7
        rw [h7, ← hS', ← hov2, List.map_append, List.map_append, List.map_append, List.map_take, List.map_drop, List.map_replicate]
        rfl
      by_cases hcase : W / BW ^ k < d / BW ^ (k - 1)
      · have g5 : (((W / BW ^ k : Nat) : Int) < ((d / BW ^ (k - 1) : Nat) : Int)) = True := by simp only [eq_iff_iff, iff_true]; omega
        have hdv := div64_v (W / BW ^ k) (W / BW ^ (k - 1) % BW) (d / BW ^ (k - 1)) hcase htd.2 (Nat.mod_lt _ (by decide))
        have htt := two_top (B := BW) (by decide) W (k - 1)
        rw [show k - 1 + 1 = k by omega] at htt
        simp only [BW] at hdv htt
        rw [← htt] at hdv
        have hov := guess_over (B := BW) (by decide) W d (k - 1) (Nat.pos_of_ne_zero htd.1)
        rw [hdg] at hov
        have hgB' : W / BW ^ (k - 1) / (d / BW ^ (k - 1)) < BW := by
          rw [Nat.div_lt_iff_lt_mul (Nat.pos_of_ne_zero htd.1)]
          simp only [BW]
          rw [htt]
          have h6 := Nat.mul_le_mul_right BW (show W / BW ^ k + 1 ≤ d / BW ^ (k - 1) from hcase)
          have h7 : W / BW ^ (k - 1) % BW < BW := Nat.mod_lt _ (by decide)
          simp only [BW] at h6 h7
          rw [Nat.add_mul, Nat.one_mul] at h6
          rw [Nat.mul_comm 18446744073709551616]
          omega
        simp -implicitDefEqProofs only [go_sem, Nat.reduceAdd, Nat.reduceMul, Nat.reduceEqDiff, Nat.reduceLT, Nat.reduceLeDiff, Nat.reduceSub, Nat.reduceBEq, reduceIte, reduceCtorEq, Int.reduceEq, Int.reduceNe, Nat.reduceBneDiff, Int.reduceLE, Int.reduceLT, Int.reduceToNat, Int.reduceAdd, Int.reduceSub, Int.reduceMul, Int.reduceNeg, dw, wB, hs1, i0, wik, wikm, b1, b2, b2a, b2b, z2, z3, List.length_map, hll, hdk, Int.toNat_natCast, ← hS, hg1, hg2, dw_get, hgd, g5]
        refine ⟨drawQ_true _ _ (by kernel_rfl), ?_⟩
        refine gcall_intro _ _ _ _ _ _ _ _ _ hdv ?_
        simp only [BW] at hov hgB'
        generalize W / 18446744073709551616 ^ (k - 1) / (d / 18446744073709551616 ^ (k - 1)) = g at *
        have hgQ : Q ≤ g := hov
        have hgB : g < BW := hgB'
        have htg := wtrim_v [g] (by simp [maxLen])
        rw [trim_oneW hgB] at htg
        have hmg := wmul_v d g (by rw [hdk]; have := (digs_len_le BW_2 g 1).2 (by simpa using hgB); omega)
        simp -implicitDefEqProofs only [go_sem, Nat.reduceAdd, Nat.reduceMul, Nat.reduceEqDiff, Nat.reduceLT, Nat.reduceLeDiff, Nat.reduceSub, Nat.reduceBEq, reduceIte, reduceCtorEq, Int.reduceEq, Int.reduceNe, Nat.reduceBneDiff, Int.reduceLE, Int.reduceLT, Int.reduceToNat, Int.reduceAdd, Int.reduceSub, Int.reduceMul, Int.reduceNeg]
        refine ⟨drawQ_true _ _ (by kernel_rfl), ?_⟩
        simp -implicitDefEqProofs only [go_sem, Nat.reduceAdd, Nat.reduceMul, Nat.reduceEqDiff, Nat.reduceLT, Nat.reduceLeDiff, Nat.reduceSub, Nat.reduceBEq, reduceIte, reduceCtorEq, Int.reduceEq, Int.reduceNe, Nat.reduceBneDiff, Int.reduceLE, Int.reduceLT, Int.reduceToNat, Int.reduceAdd, Int.reduceSub, Int.reduceMul, Int.reduceNeg, wB, i0, b1, b2, b3, b4, b5, wik, wik1, Int.toNat_natCast, hsub, Nat.zero_add]
        refine gcall_intro _ _ _ _ _ _ _ _ _ htg ?_
        simp -implicitDefEqProofs only [go_sem, Nat.reduceAdd, Nat.reduceMul, Nat.reduceEqDiff, Nat.reduceLT, Nat.reduceLeDiff, Nat.reduceSub, Nat.reduceBEq, reduceIte, reduceCtorEq, Int.reduceEq, Int.reduceNe, Nat.reduceBneDiff, Int.reduceLE, Int.reduceLT, Int.reduceToNat, Int.reduceAdd, Int.reduceSub, Int.reduceMul, Int.reduceNeg, dw]
        refine gcall_intro _ _ _ _ _ _ _ _ _ hmg ?_
        simp -implicitDefEqProofs only [go_sem, Nat.reduceAdd, Nat.reduceMul, Nat.reduceEqDiff, Nat.reduceLT, Nat.reduceLeDiff, Nat.reduceSub, Nat.reduceBEq, reduceIte, reduceCtorEq, Int.reduceEq, Int.reduceNe, Nat.reduceBneDiff, Int.reduceLE, Int.reduceLT, Int.reduceToNat, Int.reduceAdd, Int.reduceSub, Int.reduceMul, Int.reduceNeg, dw]
        refine g_loop mixed (fun p : { p : Nat // Q ≤ p ∧ p < BW } => St.of [(8, .int .i64 (s : Int)), (9, dw (digs BW d)), (10, .bs 706 1 0 (N + 1)), (11, .int .i64 (k : Int)), (12, .bs 1004 1 0 nq), (13, .int .i64 (i : Int)), (14, .int .u64 (p.1 : Int)), (15, .bs 706 1 i (k + 1)), (16, dw (digs BW (d * p.1)))]
          [(706, wB (lows BW S (N + 1))), (1004, wB (mix BW 0 (R0 / d) nq (i + 1)))]) (fun p => p.1) ⟨g, hgQ, hgB⟩ ?_ ?_
        · refine le_of (θ := [(706, 706), (1004, 1004)]) rfl ?_ ?_
          · simp [varsLe, lkp, ren1, ren0, dw]
          · simp [boxesLe, lkp, Box.renames]
        · rintro ⟨p, hp1, hp2⟩
          simp only at hp1 hp2 ⊢
          have hlp : (digs BW (d * p)).length ≤ 1000000000 := hLd p hp2
          have hcm := wcompare_v W (d * p) (by omega) hlp
          simp -implicitDefEqProofs only [go_sem, Nat.reduceAdd, Nat.reduceMul, Nat.reduceEqDiff, Nat.reduceLT, Nat.reduceLeDiff, Nat.reduceSub, Nat.reduceBEq, reduceIte, reduceCtorEq, Int.reduceEq, Int.reduceNe, Nat.reduceBneDiff, Int.reduceLE, Int.reduceLT, Int.reduceToNat, Int.reduceAdd, Int.reduceSub, Int.reduceMul, Int.reduceNeg, dw]
          refine gcallB_intro _ _ _ _ _ _ _ _ _ htB ?_
          simp -implicitDefEqProofs only [go_sem, Nat.reduceAdd, Nat.reduceMul, Nat.reduceEqDiff, Nat.reduceLT, Nat.reduceLeDiff, Nat.reduceSub, Nat.reduceBEq, reduceIte, reduceCtorEq, Int.reduceEq, Int.reduceNe, Nat.reduceBneDiff, Int.reduceLE, Int.reduceLT, Int.reduceToNat, Int.reduceAdd, Int.reduceSub, Int.reduceMul, Int.reduceNeg, wB, dw, List.length_map, hll, b7, hesc]
          refine gcall_intro _ _ _ _ _ _ _ _ _ hcm ?_
          by_cases hlt : W < d * p
          · have k1 : (cmpW W (d * p) < 0) = True := by simp only [eq_iff_iff, iff_true]; exact (cmpW_neg _ _).2 hlt
            have hpQ : Q < p := by
              rcases Nat.lt_or_ge Q p with h' | h'
              · exact h'
              · have := Nat.mul_le_mul_left d (show p ≤ Q from h')
                have := hQle
                omega
            have hsb2 := wsub_v (d * p) d (Nat.le_mul_of_pos_right d (by omega)) hlp
            have e6 : d * p - d = d * (p - 1) := by rw [Nat.mul_sub, Nat.mul_one]
            rw [e6] at hsb2
            have w5 : IntKind.u64.wrap ((p : Int) - 1) = ((p - 1 : Nat) : Int) := by rw [u64_wrapI]; simp only [BW] at hp2; omega
            simp -implicitDefEqProofs only [go_sem, Nat.reduceAdd, Nat.reduceMul, Nat.reduceEqDiff, Nat.reduceLT, Nat.reduceLeDiff, Nat.reduceSub, Nat.reduceBEq, reduceIte, reduceCtorEq, Int.reduceEq, Int.reduceNe, Nat.reduceBneDiff, Int.reduceLE, Int.reduceLT, Int.reduceToNat, Int.reduceAdd, Int.reduceSub, Int.reduceMul, Int.reduceNeg, k1, w5, dw]
            refine gcall_intro _ _ _ _ _ _ _ _ _ hsb2 ?_
            simp -implicitDefEqProofs only [go_sem, Nat.reduceAdd, Nat.reduceMul, Nat.reduceEqDiff, Nat.reduceLT, Nat.reduceLeDiff, Nat.reduceSub, Nat.reduceBEq, reduceIte, reduceCtorEq, Int.reduceEq, Int.reduceNe, Nat.reduceBneDiff, Int.reduceLE, Int.reduceLT, Int.reduceToNat, Int.reduceAdd, Int.reduceSub, Int.reduceMul, Int.reduceNeg, dw]
            refine ⟨⟨p - 1, by omega, by omega⟩, by simp only; omega, le_of (θ := [(706, 706), (1004, 1004)]) rfl ?_ ?_⟩
            · simp [varsLe, lkp, ren1, ren0, dw]
            · simp [boxesLe, lkp, Box.renames]
          · have k1 : (cmpW W (d * p) < 0) = False := by simp only [eq_iff_iff, iff_false]; rw [cmpW_neg]; exact hlt
            obtain rfl : p = Q := Nat.le_antisymm (hQmax p (by omega)) hp1
            simp -implicitDefEqProofs only [go_sem, Nat.reduceAdd, Nat.reduceMul, Nat.reduceEqDiff, Nat.reduceLT, Nat.reduceLeDiff, Nat.reduceSub, Nat.reduceBEq, reduceIte, reduceCtorEq, Int.reduceEq, Int.reduceNe, Nat.reduceBneDiff, Int.reduceLE, Int.reduceLT, Int.reduceToNat, Int.reduceAdd, Int.reduceSub, Int.reduceMul, Int.reduceNeg, k1, dw]
            refine gcallB_intro _ _ _ _ _ _ _ _ _ htB ?_
            simp -implicitDefEqProofs only [go_sem, Nat.reduceAdd, Nat.reduceMul, Nat.reduceEqDiff, Nat.reduceLT, Nat.reduceLeDiff, Nat.reduceSub, Nat.reduceBEq, reduceIte, reduceCtorEq, Int.reduceEq, Int.reduceNe, Nat.reduceBneDiff, Int.reduceLE, Int.reduceLT, Int.reduceToNat, Int.reduceAdd, Int.reduceSub, Int.reduceMul, Int.reduceNeg, wB, dw]
            refine gcallB_intro _ _ _ _ _ _ _ _ _ hsB ?_
            simp -implicitDefEqProofs only [go_sem, Nat.reduceAdd, Nat.reduceMul, Nat.reduceEqDiff, Nat.reduceLT, Nat.reduceLeDiff, Nat.reduceSub, Nat.reduceBEq, reduceIte, reduceCtorEq, Int.reduceEq, Int.reduceNe, Nat.reduceBneDiff, Int.reduceLE, Int.reduceLT, Int.reduceToNat, Int.reduceAdd, Int.reduceSub, Int.reduceMul, Int.reduceNeg, wB, List.length_map, hll, b8, b9, b10, z13, List.length_replicate, b11, b12, hmn, hlft, hllf, hlen3, hfl3, htk3, Nat.zero_add, i0, hinq, hmlq, hgoq, Int.toNat_natCast, w4]
            refine ⟨⟨i, by omega⟩, by simp only; omega, le_of (θ := [(706, 706), (1004, 1004)]) rfl ?_ ?_⟩
            · simp [varsLe, lkp, ren1, ren0, dw]
            · rw [set_fW, hsetq]
              simp only [boxesLe, lkp, Box.renames, hfin, if_true, if_false, reduceCtorEq, Nat.reduceEqDiff, and_self, and_true, true_and]
              exact ⟨.inl trivial, .inl trivial⟩
      · have g5 : (((W / BW ^ k : Nat) : Int) < ((d / BW ^ (k - 1) : Nat) : Int)) = False := by simp only [eq_iff_iff, iff_false]; omega
        obtain ⟨g, hg⟩ : ∃ g : Nat, g = 18446744073709551615 := ⟨_, rfl⟩
        have hgI : (18446744073709551615 : Int) = ((g : Nat) : Int) := by rw [hg]; rfl
        have hgQ : Q ≤ g := by rw [hg]; simp only [BW] at hQB; omega
        have hgB : g < BW := by rw [hg]; decide
        have htg := wtrim_v [g] (by simp [maxLen])
        rw [trim_oneW hgB] at htg
        have hmg := wmul_v d g (by rw [hdk]; have := (digs_len_le BW_2 g 1).2 (by simpa using hgB); omega)
        simp -implicitDefEqProofs only [go_sem, Nat.reduceAdd, Nat.reduceMul, Nat.reduceEqDiff, Nat.reduceLT, Nat.reduceLeDiff, Nat.reduceSub, Nat.reduceBEq, reduceIte, reduceCtorEq, Int.reduceEq, Int.reduceNe, Nat.reduceBneDiff, Int.reduceLE, Int.reduceLT, Int.reduceToNat, Int.reduceAdd, Int.reduceSub, Int.reduceMul, Int.reduceNeg, dw, wB, hs1, i0, wik, wikm, b1, b2, b2a, b2b, z2, z3, List.length_map, hll, hdk, Int.toNat_natCast, ← hS, hg1, hg2, dw_get, hgd, g5, hgI]
        refine ⟨drawQ_true _ _ (by kernel_rfl), ?_⟩
        simp -implicitDefEqProofs only [go_sem, Nat.reduceAdd, Nat.reduceMul, Nat.reduceEqDiff, Nat.reduceLT, Nat.reduceLeDiff, Nat.reduceSub, Nat.reduceBEq, reduceIte, reduceCtorEq, Int.reduceEq, Int.reduceNe, Nat.reduceBneDiff, Int.reduceLE, Int.reduceLT, Int.reduceToNat, Int.reduceAdd, Int.reduceSub, Int.reduceMul, Int.reduceNeg, wB, i0, b1, b2, b3, b4, b5, wik, wik1, Int.toNat_natCast, hsub, Nat.zero_add]
        refine gcall_intro _ _ _ _ _ _ _ _ _ htg ?_
        simp -implicitDefEqProofs only [go_sem, Nat.reduceAdd, Nat.reduceMul, Nat.reduceEqDiff, Nat.reduceLT, Nat.reduceLeDiff, Nat.reduceSub, Nat.reduceBEq, reduceIte, reduceCtorEq, Int.reduceEq, Int.reduceNe, Nat.reduceBneDiff, Int.reduceLE, Int.reduceLT, Int.reduceToNat, Int.reduceAdd, Int.reduceSub, Int.reduceMul, Int.reduceNeg, dw]
        refine gcall_intro _ _ _ _ _ _ _ _ _ hmg ?_
        simp -implicitDefEqProofs only [go_sem, Nat.reduceAdd, Nat.reduceMul, Nat.reduceEqDiff, Nat.reduceLT, Nat.reduceLeDiff, Nat.reduceSub, Nat.reduceBEq, reduceIte, reduceCtorEq, Int.reduceEq, Int.reduceNe, Nat.reduceBneDiff, Int.reduceLE, Int.reduceLT, Int.reduceToNat, Int.reduceAdd, Int.reduceSub, Int.reduceMul, Int.reduceNeg, dw]
        refine g_loop mixed (fun p : { p : Nat // Q ≤ p ∧ p < BW } => St.of [(8, .int .i64 (s : Int)), (9, dw (digs BW d)), (10, .bs 706 1 0 (N + 1)), (11, .int .i64 (k : Int)), (12, .bs 1004 1 0 nq), (13, .int .i64 (i : Int)), (14, .int .u64 (p.1 : Int)), (15, .bs 706 1 i (k + 1)), (16, dw (digs BW (d * p.1)))]
          [(706, wB (lows BW S (N + 1))), (1004, wB (mix BW 0 (R0 / d) nq (i + 1)))]) (fun p => p.1) ⟨g, hgQ, hgB⟩ ?_ ?_
        · refine le_of (θ := [(706, 706), (1004, 1004)]) rfl ?_ ?_
          · simp [varsLe, lkp, ren1, ren0, dw]
          · simp [boxesLe, lkp, Box.renames]
        · rintro ⟨p, hp1, hp2⟩
          simp only at hp1 hp2 ⊢
          have hlp : (digs BW (d * p)).length ≤ 1000000000 := hLd p hp2
          have hcm := wcompare_v W (d * p) (by omega) hlp
          simp -implicitDefEqProofs only [go_sem, Nat.reduceAdd, Nat.reduceMul, Nat.reduceEqDiff, Nat.reduceLT, Nat.reduceLeDiff, Nat.reduceSub, Nat.reduceBEq, reduceIte, reduceCtorEq, Int.reduceEq, Int.reduceNe, Nat.reduceBneDiff, Int.reduceLE, Int.reduceLT, Int.reduceToNat, Int.reduceAdd, Int.reduceSub, Int.reduceMul, Int.reduceNeg, dw]
          refine gcallB_intro _ _ _ _ _ _ _ _ _ htB ?_
          simp -implicitDefEqProofs only [go_sem, Nat.reduceAdd, Nat.reduceMul, Nat.reduceEqDiff, Nat.reduceLT, Nat.reduceLeDiff, Nat.reduceSub, Nat.reduceBEq, reduceIte, reduceCtorEq, Int.reduceEq, Int.reduceNe, Nat.reduceBneDiff, Int.reduceLE, Int.reduceLT, Int.reduceToNat, Int.reduceAdd, Int.reduceSub, Int.reduceMul, Int.reduceNeg, wB, dw, List.length_map, hll, b7, hesc]
          refine gcall_intro _ _ _ _ _ _ _ _ _ hcm ?_
          by_cases hlt : W < d * p
          · have k1 : (cmpW W (d * p) < 0) = True := by simp only [eq_iff_iff, iff_true]; exact (cmpW_neg _ _).2 hlt
            have hpQ : Q < p := by
              rcases Nat.lt_or_ge Q p with h' | h'
              · exact h'
              · have := Nat.mul_le_mul_left d (show p ≤ Q from h')
                have := hQle
                omega
            have hsb2 := wsub_v (d * p) d (Nat.le_mul_of_pos_right d (by omega)) hlp
            have e6 : d * p - d = d * (p - 1) := by rw [Nat.mul_sub, Nat.mul_one]
            rw [e6] at hsb2
            have w5 : IntKind.u64.wrap ((p : Int) - 1) = ((p - 1 : Nat) : Int) := by rw [u64_wrapI]; simp only [BW] at hp2; omega
            simp -implicitDefEqProofs only [go_sem, Nat.reduceAdd, Nat.reduceMul, Nat.reduceEqDiff, Nat.reduceLT, Nat.reduceLeDiff, Nat.reduceSub, Nat.reduceBEq, reduceIte, reduceCtorEq, Int.reduceEq, Int.reduceNe, Nat.reduceBneDiff, Int.reduceLE, Int.reduceLT, Int.reduceToNat, Int.reduceAdd, Int.reduceSub, Int.reduceMul, Int.reduceNeg, k1, w5, dw]
            refine gcall_intro _ _ _ _ _ _ _ _ _ hsb2 ?_
            simp -implicitDefEqProofs only [go_sem, Nat.reduceAdd, Nat.reduceMul, Nat.reduceEqDiff, Nat.reduceLT, Nat.reduceLeDiff, Nat.reduceSub, Nat.reduceBEq, reduceIte, reduceCtorEq, Int.reduceEq, Int.reduceNe, Nat.reduceBneDiff, Int.reduceLE, Int.reduceLT, Int.reduceToNat, Int.reduceAdd, Int.reduceSub, Int.reduceMul, Int.reduceNeg, dw]
            refine ⟨⟨p - 1, by omega, by omega⟩, by simp only; omega, le_of (θ := [(706, 706), (1004, 1004)]) rfl ?_ ?_⟩
            · simp [varsLe, lkp, ren1, ren0, dw]
            · simp [boxesLe, lkp, Box.renames]
          · have k1 : (cmpW W (d * p) < 0) = False := by simp only [eq_iff_iff, iff_false]; rw [cmpW_neg]; exact hlt
            obtain rfl : p = Q := Nat.le_antisymm (hQmax p (by omega)) hp1
            simp -implicitDefEqProofs only [go_sem, Nat.reduceAdd, Nat.reduceMul, Nat.reduceEqDiff, Nat.reduceLT, Nat.reduceLeDiff, Nat.reduceSub, Nat.reduceBEq, reduceIte, reduceCtorEq, Int.reduceEq, Int.reduceNe, Nat.reduceBneDiff, Int.reduceLE, Int.reduceLT, Int.reduceToNat, Int.reduceAdd, Int.reduceSub, Int.reduceMul, Int.reduceNeg, k1, dw]
            refine gcallB_intro _ _ _ _ _ _ _ _ _ htB ?_
            simp -implicitDefEqProofs only [go_sem, Nat.reduceAdd, Nat.reduceMul, Nat.reduceEqDiff, Nat.reduceLT, Nat.reduceLeDiff, Nat.reduceSub, Nat.reduceBEq, reduceIte, reduceCtorEq, Int.reduceEq, Int.reduceNe, Nat.reduceBneDiff, Int.reduceLE, Int.reduceLT, Int.reduceToNat, Int.reduceAdd, Int.reduceSub, Int.reduceMul, Int.reduceNeg, wB, dw]
            refine gcallB_intro _ _ _ _ _ _ _ _ _ hsB ?_
            simp -implicitDefEqProofs only [go_sem, Nat.reduceAdd, Nat.reduceMul, Nat.reduceEqDiff, Nat.reduceLT, Nat.reduceLeDiff, Nat.reduceSub, Nat.reduceBEq, reduceIte, reduceCtorEq, Int.reduceEq, Int.reduceNe, Nat.reduceBneDiff, Int.reduceLE, Int.reduceLT, Int.reduceToNat, Int.reduceAdd, Int.reduceSub, Int.reduceMul, Int.reduceNeg, wB, List.length_map, hll, b8, b9, b10, z13, List.length_replicate, b11, b12, hmn, hlft, hllf, hlen3, hfl3, htk3, Nat.zero_add, i0, hinq, hmlq, hgoq, Int.toNat_natCast, w4]
            refine ⟨⟨i, by omega⟩, by simp only; omega, le_of (θ := [(706, 706), (1004, 1004)]) rfl ?_ ?_⟩
            · simp [varsLe, lkp, ren1, ren0, dw]
            · rw [set_fW, hsetq]
              simp only [boxesLe, lkp, Box.renames, hfin, if_true, if_false, reduceCtorEq, Nat.reduceEqDiff, and_self, and_true, true_and]
              exact ⟨.inl trivial, .inl trivial⟩
end Go.Proofs.YtnpclmmmngmdkaaGreat
