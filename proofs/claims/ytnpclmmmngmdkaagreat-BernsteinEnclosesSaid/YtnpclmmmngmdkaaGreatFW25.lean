/-
  FW19, FW24, US3, FW20, De5, FW25 (merged for the claim).
-/
import Derived.Test.YtnpclmmmngmdkaaGreatFW22
import Derived.Test.YtnpclmmmngmdkaaGreatUW
import Derived.Test.YtnpclmmmngmdkaaGreatDe2
set_option linter.unusedSimpArgs false
set_option linter.unusedVariables false
namespace Go.Proofs.YtnpclmmmngmdkaaGreat
open Go.Vl Go.RowKit Go.Dg

attribute [local go_sem high] b_oru
theorem tdiv64 (n : Nat) : Int.tdiv (n : Int) 64 = ((n / 64 : Nat) : Int) := tdivN n 64
theorem tmod64 (n : Nat) : Int.tmod (n : Int) 64 = ((n % 64 : Nat) : Int) := tmodN n 64
theorem wshl_v (a k : Nat) (ha : (digs BW a).length ≤ 1000000000) (hk : k ≤ 1000000000) : SoundAt Tryz.prog 95 [dw (digs BW a), .int .i64 (k : Int)] (dw (digs BW (a * 2 ^ k))) := by
  refine sound_go (tb := []) 56 [.tmp 4] [0, 1, 4, 5, 6, 7, 8, 9, 12, 23, 24, 25, 26, 42] mixed Tryz.func95 rfl (by kernel_rfl) (by kernel_rfl) (by kernel_rfl) (by kernel_rfl) ?_
  by_cases h0 : a = 0
  · subst h0
    have h1 : (((0 : Nat) : Int) == 0) = true := rfl
    rw [Nat.zero_mul, digs_zero]
    simp -implicitDefEqProofs only [go_sem, Nat.reduceAdd, Nat.reduceMul, Nat.reduceEqDiff, Nat.reduceLT, Nat.reduceLeDiff, Nat.reduceSub, Nat.reduceBEq, reduceIte, reduceCtorEq, Int.reduceEq, Int.reduceNe, Nat.reduceBneDiff, Int.reduceLE, Int.reduceLT, Int.reduceToNat, Int.reduceAdd, Int.reduceSub, Int.reduceMul, Int.reduceNeg, dw, List.map_nil, List.length_nil, h1]
  have hp : 0 < (digs BW a).length := List.length_pos_iff.2 (mt (digs_eq_nil BW_2).1 h0)
  have h1 : (((digs BW a).length : Int) == 0) = false := by simp only [beq_eq_false_iff_ne, ne_eq]; omega
  have hlt : a < BW ^ (digs BW a).length := lt_pow_len BW_2 a
  obtain ⟨W, hW⟩ : ∃ W, W = k / 64 := ⟨_, rfl⟩
  obtain ⟨r, hr⟩ : ∃ r, r = k % 64 := ⟨_, rfl⟩
  have hr64 : r < 64 := by rw [hr]; exact Nat.mod_lt _ (by decide)
  have hkr : k = 64 * W + r := by omega
  have d1 : Int.tdiv (k : Int) 64 = (W : Int) := by rw [tdiv64, hW]
  have d2 : Int.tmod (k : Int) 64 = (r : Int) := by rw [tmod64, hr]
  have hWl : W ≤ 1000000000 := by omega
  clear hW hr
  generalize hN : (digs BW a).length = N at *
  have q1 := wrapn (n := W) (by omega)
  have q2 := wrap_add (a := N) (b := W) (by omega)
  have q3 := wrap_add1 (a := N + W) (by omega)
  have hn0 : ((0 : Int) ≤ ((N + W + 1 : Nat) : Int)) = True := by simp only [eq_iff_iff, iff_true]; omega
  have hn1 : ((8 : Nat) : Int) * ((N + W + 1 : Nat) : Int) ≤ 281474976710656 := by omega
  have hn2 : ((N + W + 1 : Nat) : Int) ≤ 9223372036854775807 := by omega
  simp -implicitDefEqProofs only [go_sem, Nat.reduceAdd, Nat.reduceMul, Nat.reduceEqDiff, Nat.reduceLT, Nat.reduceLeDiff, Nat.reduceSub, Nat.reduceBEq, reduceIte, reduceCtorEq, Int.reduceEq, Int.reduceNe, Nat.reduceBneDiff, Int.reduceLE, Int.reduceLT, Int.reduceToNat, Int.reduceAdd, Int.reduceSub, Int.reduceMul, Int.reduceNeg, dw, List.length_map, hN, h1, d1, d2, q1, q2, q3, hn0, hn1, hn2, Int.toNat_natCast]
  have hrep : List.replicate (N + W + 1) (PV.int .u64 0) = (lows BW (shlV a W r 0) (N + W + 1)).map fW := by rw [shlV_zero, lows_zero']; simp
  rw [hrep]
  have k1 : (((r : Nat) : Int) < 0) = False := by simp only [eq_iff_iff, iff_false]; omega
  have k2 : min r 64 = r := by omega
  have k3 : IntKind.i64.wrap (64 - ((r : Nat) : Int)) = ((64 - r : Nat) : Int) := by rw [wrap_i64 (by omega) (by omega)]; omega
  have k4 : ((((64 - r : Nat) : Nat) : Int) < 0) = False := by simp only [eq_iff_iff, iff_false]; omega
  have k5 : min (64 - r) 64 = 64 - r := by omega
  refine g_loop mixed (fun i : { i : Nat // i ≤ N } => St.of [(4, .nilS), (5, .int .i64 (W : Int)), (6, .int .i64 (r : Int)), (7, .bs 405 1 0 (N + W + 1)), (23, dw (digs BW a)), (24, .int .i64 (N : Int)), (25, .int .i64 (i.1 : Int))]
    [(405, { els := (lows BW (shlV a W r i.1) (N + W + 1)).map fW, esz := 1, ety := 137, fro := 0, live := true, arr := true })]) (fun i => N - i.1) ⟨0, Nat.zero_le _⟩ ?_ ?_
  · refine le_of (θ := [(405, 405)]) rfl ?_ ?_
    · simp [varsLe, lkp, ren1, ren0, dw]
    · simp [boxesLe, lkp, Box.renames]
  · rintro ⟨i, hi⟩
    have hll := lows_length (B := BW) (shlV a W r i) (N + W + 1)
    by_cases hA : i < N
    · have hA' : ((i : Int) < (N : Int)) = True := by simp; omega
      have hi0 : (0 ≤ (i : Int)) = True := by simp
      have hga := digs_get_lt BW_2 (show i < (digs BW a).length by omega)
      have hwk := wrap_add1 (a := i) (by omega)
      have w1 := wrap_add (a := i) (b := W) (by omega)
      have w2 := wrap_add1 (a := i + W) (by omega)
      have b1 : (0 ≤ ((i + W : Nat) : Int)) = True := by simp only [eq_iff_iff, iff_true]; omega
      have b2 : (((i + W : Nat) : Int) < ((N + W + 1 : Nat) : Int)) = True := by simp only [eq_iff_iff, iff_true]; omega
      have b3 : (0 ≤ ((i + W + 1 : Nat) : Int)) = True := by simp only [eq_iff_iff, iff_true]; omega
      have b4 : (((i + W + 1 : Nat) : Int) < ((N + W + 1 : Nat) : Int)) = True := by simp only [eq_iff_iff, iff_true]; omega
      have hgo : ((lows BW (shlV a W r i) (N + W + 1)).map fW)[i + W]? = some (PV.int .u64 ((shlC a r i : Nat) : Int)) := by
        rw [List.getElem?_map, lows_get _ _ _ (by omega), shlC_digit a W r i (by omega)]; rfl
      have hc2 : shlC a r i % 18446744073709551616 = shlC a r i := Nat.mod_eq_of_lt (Nat.lt_of_lt_of_le (shlC_lt a r i) (show 2 ^ r ≤ 18446744073709551616 from Nat.pow_le_pow_right (n := 2) (by decide) (show r ≤ 64 by omega)))
      by_cases hr0 : r = 0
      · subst hr0
        have g0 : ((0 : Int) < (((0 : Nat) : Nat) : Int)) = False := by simp
        have hset := shl_set1 a W i (N + W + 1) (by omega)
        have hc0 : shlC a 0 i = 0 := by have := shlC_lt a 0 i; simp at this; exact this
        have hval : (0 ||| a / BW ^ i % BW * 2 ^ 0 % 18446744073709551616) = a / BW ^ i % BW := by
          rw [Nat.zero_or, Nat.pow_zero, Nat.mul_one, show (18446744073709551616 : Nat) = BW from rfl, Nat.mod_mod]
        simp -implicitDefEqProofs only [go_sem, Nat.reduceAdd, Nat.reduceMul, Nat.reduceEqDiff, Nat.reduceLT, Nat.reduceLeDiff, Nat.reduceSub, Nat.reduceBEq, reduceIte, reduceCtorEq, Int.reduceEq, Int.reduceNe, Nat.reduceBneDiff, Int.reduceLE, Int.reduceLT, Int.reduceToNat, Int.reduceAdd, Int.reduceSub, Int.reduceMul, Int.reduceNeg, dw, hA', hi0, dw_get, hga, Int.toNat_natCast, w1, w2, b1, b2, hgo, k1, k2, g0, List.length_map, hll, hc0, shl_u64, hwk, Nat.mod_mod, Nat.zero_mod]
        refine ⟨drawQ_true _ _ (by kernel_rfl), ⟨i + 1, hA⟩, by simp only; omega, le_of (θ := [(405, 405)]) rfl ?_ ?_⟩
        · simp [varsLe, lkp, ren1, ren0, dw]
        · rw [hval, set_fW, hset]
          simp [boxesLe, lkp, Box.renames]
      · have g0 : ((0 : Int) < ((r : Nat) : Int)) = True := by simp only [eq_iff_iff, iff_true]; omega
        have hset := shl_set2 a W r i (N + W + 1) (by omega) (by omega)
        obtain ⟨e, hgo2⟩ : ∃ e : Nat, (((lows BW (shlV a W r i) (N + W + 1)).map fW).set (i + W) (.int .u64 ((shlC a r i ||| (a / BW ^ i % BW * 2 ^ r % 18446744073709551616) : Nat) : Int)))[i + W + 1]? = some (PV.int .u64 (e : Int)) := by
          rw [set_fW, List.getElem?_map]
          refine ⟨_, by rw [List.getElem?_set_ne (by omega), lows_get _ _ _ (by omega)]; rfl⟩
        simp -implicitDefEqProofs only [go_sem, Nat.reduceAdd, Nat.reduceMul, Nat.reduceEqDiff, Nat.reduceLT, Nat.reduceLeDiff, Nat.reduceSub, Nat.reduceBEq, reduceIte, reduceCtorEq, Int.reduceEq, Int.reduceNe, Nat.reduceBneDiff, Int.reduceLE, Int.reduceLT, Int.reduceToNat, Int.reduceAdd, Int.reduceSub, Int.reduceMul, Int.reduceNeg, dw, hA', hi0, dw_get, hga, Int.toNat_natCast, w1, w2, b1, b2, b3, b4, hgo, k1, k2, k3, k4, k5, g0, List.length_map, hll, hc2, shl_u64, fdivK, hwk, List.length_set, hgo2, Nat.mod_mod]
        refine ⟨drawQ_true _ _ (by kernel_rfl), ⟨i + 1, hA⟩, by simp only; omega, le_of (θ := [(405, 405)]) rfl ?_ ?_⟩
        · simp [varsLe, lkp, ren1, ren0, dw]
        · rw [set_fW, set_fW, hset]
          simp [boxesLe, lkp, Box.renames]
    · have hA' : ((i : Int) < (N : Int)) = False := by simp; omega
      obtain rfl : i = N := by omega
      have hV := shlV_done a W r i hlt
      rw [← hkr] at hV
      rw [hV] at hll
      have htk : ((lows BW (a * 2 ^ k) (i + W + 1)).map fW).take (i + W + 1) = (lows BW (a * 2 ^ k) (i + W + 1)).map fW := List.take_of_length_le (by simp [hll])
      simp -implicitDefEqProofs only [go_sem, Nat.reduceAdd, Nat.reduceMul, Nat.reduceEqDiff, Nat.reduceLT, Nat.reduceLeDiff, Nat.reduceSub, Nat.reduceBEq, reduceIte, reduceCtorEq, Int.reduceEq, Int.reduceNe, Nat.reduceBneDiff, Int.reduceLE, Int.reduceLT, Int.reduceToNat, Int.reduceAdd, Int.reduceSub, Int.reduceMul, Int.reduceNeg, hA', hV, List.length_map, hll, htk]
      refine gcall_intro _ _ _ _ _ _ _ _ _ (wtrim_v (lows BW (a * 2 ^ k) (i + W + 1)) (by rw [hll]; simp [maxLen]; omega)) ?_
      simp -implicitDefEqProofs only [go_sem, Nat.reduceAdd, Nat.reduceMul, Nat.reduceEqDiff, Nat.reduceLT, Nat.reduceLeDiff, Nat.reduceSub, Nat.reduceBEq, reduceIte, reduceCtorEq, Int.reduceEq, Int.reduceNe, Nat.reduceBneDiff, Int.reduceLE, Int.reduceLT, Int.reduceToNat, Int.reduceAdd, Int.reduceSub, Int.reduceMul, Int.reduceNeg, dw]
      rw [trimZ_lows BW_2, Nat.mod_eq_of_lt]
      rw [Nat.add_assoc, Nat.pow_add]
      have h2 : 2 ^ k < BW ^ (W + 1) := by
        rw [show BW = 2 ^ 64 from rfl, ← Nat.pow_mul]
        exact Nat.pow_lt_pow_right (by decide) (by omega)
      exact Nat.lt_of_lt_of_le (Nat.mul_lt_mul_of_pos_right hlt (Nat.pow_pos (by decide))) (Nat.mul_le_mul_left _ (Nat.le_of_lt h2))
end Go.Proofs.YtnpclmmmngmdkaaGreat

namespace Go.Proofs.YtnpclmmmngmdkaaGreat
open Go.Vl Go.RowKit Go.Dg

theorem fW_ok (l : List Nat) : ((l.map fW).all fun e => e.cells.length == 1 && e.cells.all PV.okCell) = true := by
  rw [List.all_map, List.all_eq_true]; intro _ _; rfl
theorem wclone_v (l : List Nat) (hl : 0 < l.length) (hl2 : l.length ≤ 1000000000) : SoundB Tryz.prog 130 [dw l] [] (.bs 302 1 0 l.length) [(302, wB l)] := by
  have h0 : l.isEmpty = false := by cases l with | nil => simp at hl | cons => rfl
  have h1 : (l.length * 8 ≤ 140737488355328) = True := by simp only [eq_iff_iff, iff_true]; omega
  have h2 : (l.length ≤ maxLen) = True := by simp only [eq_iff_iff, iff_true]; unfold maxLen; omega
  refine soundB_go (tb := []) 8 [.tmp 2] [0, 2, 4] mixed Tryz.func130 rfl (by kernel_rfl) (by kernel_rfl) (by kernel_rfl) (by kernel_rfl) (by rfl) ?_
  simp -implicitDefEqProofs only [go_sem, Nat.reduceAdd, Nat.reduceMul, Nat.reduceEqDiff, Nat.reduceLT, Nat.reduceLeDiff, Nat.reduceSub, Nat.reduceBEq, reduceIte, reduceCtorEq, Int.reduceEq, Int.reduceNe, Nat.reduceBneDiff, Int.reduceLE, Int.reduceLT, Int.reduceToNat, Int.reduceAdd, Int.reduceSub, Int.reduceMul, Int.reduceNeg, dw, h0, List.length_map, h1, h2, fW_ok]
  refine vretB_back (.inl rfl) ?_
  simp -implicitDefEqProofs only [go_sem, Nat.reduceAdd, Nat.reduceMul, Nat.reduceEqDiff, Nat.reduceLT, Nat.reduceLeDiff, Nat.reduceSub, Nat.reduceBEq, reduceIte, reduceCtorEq, Int.reduceEq, Int.reduceNe, Nat.reduceBneDiff, Int.reduceLE, Int.reduceLT, Int.reduceToNat, Int.reduceAdd, Int.reduceSub, Int.reduceMul, Int.reduceNeg, List.length_map]
  refine le_of (θ := [(302, 302)]) rfl ?_ ?_
  · simp [varsLe, lkp, ren1, ren0]
  · simp [boxesLe, lkp, Box.renames]

attribute [local go_sem high] b_oru
theorem wshr_v (a k : Nat) (ha : (digs BW a).length ≤ 1000000000) (hk : k ≤ 1000000000) : SoundAt Tryz.prog 125 [dw (digs BW a), .int .i64 (k : Int)] (dw (digs BW (a / 2 ^ k))) := by
  have hlt : a < BW ^ (digs BW a).length := lt_pow_len BW_2 a
  obtain ⟨W, hW⟩ : ∃ W, W = k / 64 := ⟨_, rfl⟩
  obtain ⟨r, hr⟩ : ∃ r, r = k % 64 := ⟨_, rfl⟩
  have hr64 : r < 64 := by rw [hr]; exact Nat.mod_lt _ (by decide)
  have hkr : k = 64 * W + r := by omega
  have d1 : Int.tdiv (k : Int) 64 = (W : Int) := by rw [tdiv64, hW]
  have d2 : Int.tmod (k : Int) 64 = (r : Int) := by rw [tmod64, hr]
  have hWl : W ≤ 1000000000 := by omega
  clear hW hr
  have q1 := wrapn (n := W) (by omega)
  have hpk : 2 ^ k = BW ^ W * 2 ^ r := by rw [hkr, Nat.pow_add, Nat.pow_mul]
  have hq : a / 2 ^ k = a / BW ^ W / 2 ^ r := by rw [hpk, Nat.div_div_eq_div_mul]
  
  refine sound_go (tb := [(403, [], [(302, 403)])]) 59 [.tmp 4] [0, 1, 4, 5, 6, 7, 8, 16, 22, 24, 25, 26, 39] mixed Tryz.func125 rfl (by kernel_rfl) (by kernel_rfl) (by kernel_rfl) (by kernel_rfl) ?_
  by_cases hN : (digs BW a).length ≤ W
  · have g1 : (((digs BW a).length : Int) ≤ (W : Int)) = True := by simp only [eq_iff_iff, iff_true]; omega
    have e : digs BW (a / 2 ^ k) = [] := by
      rw [hq, digit_beyond BW_2 hN, Nat.zero_div, digs_zero]
    rw [e]
    simp -implicitDefEqProofs only [go_sem, Nat.reduceAdd, Nat.reduceMul, Nat.reduceEqDiff, Nat.reduceLT, Nat.reduceLeDiff, Nat.reduceSub, Nat.reduceBEq, reduceIte, reduceCtorEq, Int.reduceEq, Int.reduceNe, Nat.reduceBneDiff, Int.reduceLE, Int.reduceLT, Int.reduceToNat, Int.reduceAdd, Int.reduceSub, Int.reduceMul, Int.reduceNeg, dw, List.length_map, d1, d2, q1, g1, List.map_nil]
  have g1 : (((digs BW a).length : Int) ≤ (W : Int)) = False := by simp only [eq_iff_iff, iff_false]; omega
  have hA0 : ∀ j, a / BW ^ (W + j) = a / BW ^ W / BW ^ j := fun j => by rw [Nat.pow_add, Nat.div_div_eq_div_mul]
  have hn0 : (0 ≤ (W : Int)) = True := by simp
  have hn1 : ((W : Int) ≤ ((digs BW a).length : Int)) = True := by simp only [eq_iff_iff, iff_true]; omega
  have hsl : (((digs BW a).map fW).take (digs BW a).length).drop W = (lows BW (a / BW ^ W) ((digs BW a).length - W)).map fW := by
    rw [List.take_of_length_le (by simp), ← List.map_drop]
    congr 1
    apply List.ext_getElem?
    intro j
    rw [List.getElem?_drop]
    by_cases hj : W + j < (digs BW a).length
    · rw [digs_get_lt BW_2 hj, lows_get _ _ _ (by omega), hA0]
    · rw [List.getElem?_eq_none (by omega), List.getElem?_eq_none (by rw [lows_length]; omega)]
  have hcell := dw_all (digs BW a)
  have hAlt : a / BW ^ W < BW ^ ((digs BW a).length - W) := by
    refine Nat.div_lt_of_lt_mul ?_
    rw [← Nat.pow_add, show W + ((digs BW a).length - W) = (digs BW a).length by omega]
    exact hlt
  have hll := lows_length (B := BW) (a / BW ^ W) ((digs BW a).length - W)
  simp -implicitDefEqProofs only [go_sem, Nat.reduceAdd, Nat.reduceMul, Nat.reduceEqDiff, Nat.reduceLT, Nat.reduceLeDiff, Nat.reduceSub, Nat.reduceBEq, reduceIte, reduceCtorEq, Int.reduceEq, Int.reduceNe, Nat.reduceBneDiff, Int.reduceLE, Int.reduceLT, Int.reduceToNat, Int.reduceAdd, Int.reduceSub, Int.reduceMul, Int.reduceNeg, dw, List.length_map, d1, d2, q1, g1, hn0, hn1, Int.toNat_natCast, hsl, hcell]
  refine gcallB_intro _ _ _ _ _ _ _ _ _ (wclone_v (lows BW (a / BW ^ W) ((digs BW a).length - W)) (by rw [hll]; omega) (by rw [hll]; omega)) ?_
  rw [hll]
  by_cases hr0 : r = 0
  · subst hr0
    have g0 : ((0 : Int) < (((0 : Nat) : Nat) : Int)) = False := by simp
    have htk : ((lows BW (a / BW ^ W) ((digs BW a).length - W)).map fW).take ((digs BW a).length - W) = (lows BW (a / BW ^ W) ((digs BW a).length - W)).map fW := List.take_of_length_le (by simp [hll])
    simp -implicitDefEqProofs only [go_sem, Nat.reduceAdd, Nat.reduceMul, Nat.reduceEqDiff, Nat.reduceLT, Nat.reduceLeDiff, Nat.reduceSub, Nat.reduceBEq, reduceIte, reduceCtorEq, Int.reduceEq, Int.reduceNe, Nat.reduceBneDiff, Int.reduceLE, Int.reduceLT, Int.reduceToNat, Int.reduceAdd, Int.reduceSub, Int.reduceMul, Int.reduceNeg, wB, g0, List.length_map, hll, htk]
    refine gcall_intro _ _ _ _ _ _ _ _ _ (wtrim_v (lows BW (a / BW ^ W) ((digs BW a).length - W)) (by rw [hll]; simp [maxLen]; omega)) ?_
    simp -implicitDefEqProofs only [go_sem, Nat.reduceAdd, Nat.reduceMul, Nat.reduceEqDiff, Nat.reduceLT, Nat.reduceLeDiff, Nat.reduceSub, Nat.reduceBEq, reduceIte, reduceCtorEq, Int.reduceEq, Int.reduceNe, Nat.reduceBneDiff, Int.reduceLE, Int.reduceLT, Int.reduceToNat, Int.reduceAdd, Int.reduceSub, Int.reduceMul, Int.reduceNeg, dw]
    rw [trimZ_lows BW_2, Nat.mod_eq_of_lt hAlt, hq, Nat.pow_zero, Nat.div_one]
  · have g0 : ((0 : Int) < ((r : Nat) : Int)) = True := by simp only [eq_iff_iff, iff_true]; omega
    simp -implicitDefEqProofs only [go_sem, Nat.reduceAdd, Nat.reduceMul, Nat.reduceEqDiff, Nat.reduceLT, Nat.reduceLeDiff, Nat.reduceSub, Nat.reduceBEq, reduceIte, reduceCtorEq, Int.reduceEq, Int.reduceNe, Nat.reduceBneDiff, Int.reduceLE, Int.reduceLT, Int.reduceToNat, Int.reduceAdd, Int.reduceSub, Int.reduceMul, Int.reduceNeg, wB, g0]
    have hdig := fun (j : Nat) (h : W + j < (digs BW a).length) => digs_get_lt (n := a) BW_2 h
    generalize hn : (digs BW a).length - W = n at *
    have hNn : (digs BW a).length = W + n := by omega
    have k1 : (((r : Nat) : Int) < 0) = False := by simp only [eq_iff_iff, iff_false]; omega
    have k2 : min r 64 = r := by omega
    have k3 : IntKind.i64.wrap (64 - ((r : Nat) : Int)) = ((64 - r : Nat) : Int) := by rw [wrap_i64 (by omega) (by omega)]; omega
    have k4 : ((((64 - r : Nat) : Nat) : Int) < 0) = False := by simp only [eq_iff_iff, iff_false]; omega
    have k5 : min (64 - r) 64 = 64 - r := by omega
    rw [hq]
    generalize hAA : a / BW ^ W = A at *
    refine g_loop mixed (fun i : { i : Nat // i ≤ n } => St.of [(0, dw (digs BW a)), (4, .nilS), (5, .int .i64 (W : Int)), (6, .int .i64 (r : Int)), (7, .bs 403 1 0 n), (24, .int .i64 (n : Int)), (25, .int .i64 (i.1 : Int))]
      [(403, wB (mix BW (A / 2 ^ r) A n i.1))]) (fun i => n - i.1) ⟨0, Nat.zero_le _⟩ ?_ ?_
    · refine le_of (θ := [(403, 403)]) rfl ?_ ?_
      · simp [varsLe, lkp, ren1, ren0, dw]
      · simp [boxesLe, lkp, Box.renames, mix_none]
    · rintro ⟨i, hi⟩
      have hml := mix_length (B := BW) (A / 2 ^ r) A n i
      by_cases hA : i < n
      · have hA' : ((i : Int) < (n : Int)) = True := by simp; omega
        have hi0 : (0 ≤ (i : Int)) = True := by simp
        have hwk := wrap_add1 (a := i) (by omega)
        have hgo : ((mix BW (A / 2 ^ r) A n i).map fW)[i]? = some (PV.int .u64 ((A / BW ^ i % BW : Nat) : Int)) := by
          rw [List.getElem?_map, mix_get _ _ _ _ _ hA, if_neg (Nat.lt_irrefl _)]; rfl
        by_cases hB : i + 1 < n
        · have hB' : (((i + 1 : Nat) : Int) < (n : Int)) = True := by simp only [eq_iff_iff, iff_true]; omega
          have hsd := shr_digit A i r (by omega) hr64
          have hset := mix_set (B := BW) (V := A / 2 ^ r) (W := A / 2 ^ r) (S := A) (n := n) (m := i) (by decide) hA rfl rfl
          have hga : (digs BW a)[W + i + 1]? = some (A / BW ^ (i + 1) % BW) := by
            have h := hdig (i + 1) (by omega)
            rw [hA0 (i + 1)] at h
            exact h
          have w1 := wrap_add (a := W) (b := i) (by omega)
          have w2 := wrap_add1 (a := W + i) (by omega)
          have b1 : (0 ≤ ((W + i + 1 : Nat) : Int)) = True := by simp only [eq_iff_iff, iff_true]; omega
          have hgo2 : (((mix BW (A / 2 ^ r) A n i).map fW).set i (.int .u64 ((A / BW ^ i % BW / 2 ^ r : Nat) : Int)))[i]? = some (PV.int .u64 ((A / BW ^ i % BW / 2 ^ r : Nat) : Int)) := by
            rw [List.getElem?_set_self (by rw [List.length_map, hml]; exact hA)]
          have e1 : A / BW ^ i % BW / 2 ^ r % 18446744073709551616 = A / BW ^ i % BW / 2 ^ r := Nat.mod_eq_of_lt (Nat.lt_of_le_of_lt (Nat.div_le_self _ _) (Nat.mod_lt _ (by decide)))
          simp -implicitDefEqProofs only [go_sem, Nat.reduceAdd, Nat.reduceMul, Nat.reduceEqDiff, Nat.reduceLT, Nat.reduceLeDiff, Nat.reduceSub, Nat.reduceBEq, reduceIte, reduceCtorEq, Int.reduceEq, Int.reduceNe, Nat.reduceBneDiff, Int.reduceLE, Int.reduceLT, Int.reduceToNat, Int.reduceAdd, Int.reduceSub, Int.reduceMul, Int.reduceNeg, wB, dw, hA', hi0, Int.toNat_natCast, List.length_map, hml, hgo, k1, k2, fdivK, hwk, hB', List.length_set, hgo2, w1, w2, b1, dw_get, hga, k3, k4, k5, shl_u64, Nat.mod_mod, e1, List.set_set]
          refine ⟨drawQ_true _ _ (by kernel_rfl), ⟨i + 1, hA⟩, by simp only; omega, le_of (θ := [(403, 403)]) rfl ?_ ?_⟩
          · simp [varsLe, lkp, ren1, ren0, dw]
          · simp only [WB] at hsd
            rw [set_fW, hsd, hset]
            simp [boxesLe, lkp, Box.renames]
        · have hB' : (((i + 1 : Nat) : Int) < (n : Int)) = False := by simp only [eq_iff_iff, iff_false]; omega
          have hsd := shr_top A i r (by rw [show i + 1 = n by omega]; exact Nat.div_eq_of_lt hAlt)
          have hset := mix_set (B := BW) (V := A / 2 ^ r) (W := A / 2 ^ r) (S := A) (n := n) (m := i) (by decide) hA rfl rfl
          simp -implicitDefEqProofs only [go_sem, Nat.reduceAdd, Nat.reduceMul, Nat.reduceEqDiff, Nat.reduceLT, Nat.reduceLeDiff, Nat.reduceSub, Nat.reduceBEq, reduceIte, reduceCtorEq, Int.reduceEq, Int.reduceNe, Nat.reduceBneDiff, Int.reduceLE, Int.reduceLT, Int.reduceToNat, Int.reduceAdd, Int.reduceSub, Int.reduceMul, Int.reduceNeg, wB, dw, hA', hi0, Int.toNat_natCast, List.length_map, hml, hgo, k1, k2, fdivK, hwk, hB', List.length_set]
          refine ⟨⟨i + 1, hA⟩, by simp only; omega, le_of (θ := [(403, 403)]) rfl ?_ ?_⟩
          · simp [varsLe, lkp, ren1, ren0, dw]
          · simp only [WB] at hsd
            rw [set_fW, hsd, hset]
            simp [boxesLe, lkp, Box.renames]
      · have hA' : ((i : Int) < (n : Int)) = False := by simp; omega
        obtain rfl : i = n := by omega
        have hm : mix BW (A / 2 ^ r) A i i = lows BW (A / 2 ^ r) i := mix_full _ _ _ _
        have hl2 := lows_length (B := BW) (A / 2 ^ r) i
        have htk : ((lows BW (A / 2 ^ r) i).map fW).take i = (lows BW (A / 2 ^ r) i).map fW := List.take_of_length_le (by simp [hl2])
        simp -implicitDefEqProofs only [go_sem, Nat.reduceAdd, Nat.reduceMul, Nat.reduceEqDiff, Nat.reduceLT, Nat.reduceLeDiff, Nat.reduceSub, Nat.reduceBEq, reduceIte, reduceCtorEq, Int.reduceEq, Int.reduceNe, Nat.reduceBneDiff, Int.reduceLE, Int.reduceLT, Int.reduceToNat, Int.reduceAdd, Int.reduceSub, Int.reduceMul, Int.reduceNeg, wB, hA', hm, List.length_map, hl2, htk]
        refine gcall_intro _ _ _ _ _ _ _ _ _ (wtrim_v (lows BW (A / 2 ^ r) i) (by rw [hl2]; simp [maxLen]; omega)) ?_
        simp -implicitDefEqProofs only [go_sem, Nat.reduceAdd, Nat.reduceMul, Nat.reduceEqDiff, Nat.reduceLT, Nat.reduceLeDiff, Nat.reduceSub, Nat.reduceBEq, reduceIte, reduceCtorEq, Int.reduceEq, Int.reduceNe, Nat.reduceBneDiff, Int.reduceLE, Int.reduceLT, Int.reduceToNat, Int.reduceAdd, Int.reduceSub, Int.reduceMul, Int.reduceNeg, dw]
        rw [trimZ_lows BW_2, Nat.mod_eq_of_lt (Nat.lt_of_le_of_lt (Nat.div_le_self _ _) hAlt)]
end Go.Proofs.YtnpclmmmngmdkaaGreat

namespace Go.Vl
open Go.RowKit
variable {P : Program} {tb : Tab} {nt : Nat} {ks : List Nat} {ops : Array Oper} {base i : Nat} {rest : List Oper} {accs : List Acc} {draw : Bool} {k : List It} {Q : Exit → St → Prop} {st : St}
theorem gcall_eq {dst : Option Tmp} {f f' : FuncId} {args args' : List PV} {es : List Eff} {l : Acc} {r : PV} (hs : SoundAt P f' args' r) (hf : f' = f) (ha : args' = args)
    (h : gops P tb nt ks ops base (i + 1) rest (l :: accs) draw k Q ((effsOn (if flatPV r then [] else es) st).put dst r)) : gcall P tb nt ks f args es l ops base i dst rest accs draw k Q st := by
  subst hf; subst ha; exact ⟨r, hs, h⟩
end Go.Vl

namespace Go.Proofs.YtnpclmmmngmdkaaGreat
open Go.Vl Go.RowKit Go.Dg

theorem trim_oneW {d : Nat} (h : d < BW) : trimZ [d] = digs BW d := by
  rw [trimZ_eq BW_2 [d] (by simpa using h)]; simp [val]
theorem blen_small {m : Nat} (h : m < 18446744073709551616) : blen m ≤ 64 := blen_le 64 m h
theorem u64_wrapI' (n : Int) : IntKind.u64.wrap n = n % 18446744073709551616 := by simp [IntKind.wrap, IntKind.bits, IntKind.signed]
theorem wOf_v (n : Int) (h1 : -9223372036854775808 ≤ n) (h2 : n ≤ 9223372036854775807) : SoundAt Tryz.prog 62 [.int .i64 n] (wPV n) := by
  obtain ⟨m, hm⟩ : ∃ m : Nat, m = n.natAbs := ⟨_, rfl⟩
  have hml : m < 18446744073709551616 := by omega
  have ht := wtrim_v [m] (by simp [maxLen])
  rw [trim_oneW hml] at ht
  have hL : (digs BW m).length ≤ 1000000 := Nat.le_trans ((digs_len_le BW_2 m 1).2 (by simpa using hml)) (by decide)
  have hw := fun neg => nwide_v neg m hL
  have hb : blen n.natAbs ≤ 64 := by rw [← hm]; exact blen_small hml
  by_cases hn : n < 0
  · have hn' : (n < 0) = True := by simp [hn]
    have e1 : IntKind.u64.wrap n = ((18446744073709551616 - m : Nat) : Int) := by rw [u64_wrapI']; omega
    have e2 : IntKind.u64.wrap (0 - ((18446744073709551616 - m : Nat) : Int)) = (m : Int) := by rw [u64_wrapI']; omega
    have hw1 := hw true
    have e3 : sv true m = n := by simp [sv]; omega
    rw [e3, outPV, if_neg (by omega)] at hw1
    refine sound_go (tb := []) 23 [.cell 2 30] [0, 2, 3, 4, 9] mixed Tryz.func62 rfl (by kernel_rfl) (by kernel_rfl) (by kernel_rfl) (by kernel_rfl) ?_
    repeat (first | (simp -implicitDefEqProofs only [go_sem, Nat.reduceAdd, Nat.reduceMul, Nat.reduceEqDiff, Nat.reduceLT, Nat.reduceLeDiff, Nat.reduceSub, Nat.reduceBEq, reduceIte, reduceCtorEq, Int.reduceEq, Int.reduceNe, Nat.reduceBneDiff, Int.reduceLE, Int.reduceLT, Int.reduceToNat, Int.reduceAdd, Int.reduceSub, Int.reduceMul, Int.reduceNeg, hn', e1, e2, nP, dw, wPV, List.map_cons, List.map_nil]) | ((with_reducible refine gcall_eq (ht) ?_ ?_ ?_); (with_reducible rfl); rfl) | ((with_reducible refine gcall_eq (hw1) ?_ ?_ ?_); (with_reducible rfl); rfl) | (with_reducible exact drawQ_true _ _ (by kernel_rfl)) | (with_reducible refine And.intro (drawQ_true _ _ (by kernel_rfl)) ?_))
  · have hn' : (n < 0) = False := by simp [hn]
    have e1 : IntKind.u64.wrap n = (m : Int) := by rw [u64_wrapI']; omega
    have hw1 := hw false
    have e3 : sv false m = n := by simp [sv]; omega
    rw [e3, outPV, if_neg (by omega)] at hw1
    refine sound_go (tb := []) 23 [.cell 2 30] [0, 2, 3, 4, 9] mixed Tryz.func62 rfl (by kernel_rfl) (by kernel_rfl) (by kernel_rfl) (by kernel_rfl) ?_
    repeat (first | (simp -implicitDefEqProofs only [go_sem, Nat.reduceAdd, Nat.reduceMul, Nat.reduceEqDiff, Nat.reduceLT, Nat.reduceLeDiff, Nat.reduceSub, Nat.reduceBEq, reduceIte, reduceCtorEq, Int.reduceEq, Int.reduceNe, Nat.reduceBneDiff, Int.reduceLE, Int.reduceLT, Int.reduceToNat, Int.reduceAdd, Int.reduceSub, Int.reduceMul, Int.reduceNeg, hn', e1, nP, dw, wPV, List.map_cons, List.map_nil]) | ((with_reducible refine gcall_eq (ht) ?_ ?_ ?_); (with_reducible rfl); rfl) | ((with_reducible refine gcall_eq (hw1) ?_ ?_ ?_); (with_reducible rfl); rfl) | (with_reducible exact drawQ_true _ _ (by kernel_rfl)) | (with_reducible refine And.intro (drawQ_true _ _ (by kernel_rfl)) ?_))

/-- An integer as an int, or the error. -/
def intPV (n : Int) : PV := if -9223372036854775808 ≤ n ∧ n ≤ 9223372036854775807 then .tup [.int .i64 n, .int .i64 0] else .tup [.int .i64 0, .int .i64 3]
theorem wSign_no (neg : Bool) (s : ByteArray) (h : validB neg s.data.toList = false) : SoundAt Tryz.prog 43 [.agg [.bool neg, .str s]] (.int .i64 0) := by
  have hv := wvalid_v neg s
  rw [h] at hv
  refine sound_go (tb := []) 9 [.tmp 2] [0, 1, 2, 5] mixed Tryz.func43 rfl (by kernel_rfl) (by kernel_rfl) (by kernel_rfl) (by kernel_rfl) ?_
  repeat (first | (simp -implicitDefEqProofs only [go_sem, Nat.reduceAdd, Nat.reduceMul, Nat.reduceEqDiff, Nat.reduceLT, Nat.reduceLeDiff, Nat.reduceSub, Nat.reduceBEq, reduceIte, reduceCtorEq, Int.reduceEq, Int.reduceNe, Nat.reduceBneDiff, Int.reduceLE, Int.reduceLT, Int.reduceToNat, Int.reduceAdd, Int.reduceSub, Int.reduceMul, Int.reduceNeg]) | ((with_reducible refine gcall_eq (hv) ?_ ?_ ?_); (with_reducible rfl); rfl) | (with_reducible exact drawQ_true _ _ (by kernel_rfl)) | (with_reducible refine And.intro (drawQ_true _ _ (by kernel_rfl)) ?_))
theorem wSign_v (neg : Bool) (s : ByteArray) (h : validB neg s.data.toList = true) (hs : s.size ≤ 100000) : SoundAt Tryz.prog 43 [.agg [.bool neg, .str s]] (.int .i64 (wnum neg s).sign) := by
  have hv := wvalid_v neg s
  rw [h] at hv
  have ho := wof_v neg s h (by omega)
  have hg := nsign_v neg (bnum s.data.toList)
  refine sound_go (tb := []) 9 [.tmp 2] [0, 1, 2, 5] mixed Tryz.func43 rfl (by kernel_rfl) (by kernel_rfl) (by kernel_rfl) (by kernel_rfl) ?_
  repeat (first | (simp -implicitDefEqProofs only [go_sem, Nat.reduceAdd, Nat.reduceMul, Nat.reduceEqDiff, Nat.reduceLT, Nat.reduceLeDiff, Nat.reduceSub, Nat.reduceBEq, reduceIte, reduceCtorEq, Int.reduceEq, Int.reduceNe, Nat.reduceBneDiff, Int.reduceLE, Int.reduceLT, Int.reduceToNat, Int.reduceAdd, Int.reduceSub, Int.reduceMul, Int.reduceNeg, nP, dw]) | ((with_reducible refine gcall_eq (hv) ?_ ?_ ?_); (with_reducible rfl); rfl) | ((with_reducible refine gcall_eq (ho) ?_ ?_ ?_); (with_reducible rfl); rfl) | ((with_reducible refine gcall_eq (hg) ?_ ?_ ?_); (with_reducible rfl); rfl) | (with_reducible exact drawQ_true _ _ (by kernel_rfl)) | (with_reducible refine And.intro (drawQ_true _ _ (by kernel_rfl)) ?_))
  rfl
theorem wLen_no (neg : Bool) (s : ByteArray) (h : validB neg s.data.toList = false) : SoundAt Tryz.prog 79 [.agg [.bool neg, .str s]] (.int .i64 0) := by
  have hv := wvalid_v neg s
  rw [h] at hv
  refine sound_go (tb := []) 10 [.tmp 2] [0, 1, 2, 5] mixed Tryz.func79 rfl (by kernel_rfl) (by kernel_rfl) (by kernel_rfl) (by kernel_rfl) ?_
  repeat (first | (simp -implicitDefEqProofs only [go_sem, Nat.reduceAdd, Nat.reduceMul, Nat.reduceEqDiff, Nat.reduceLT, Nat.reduceLeDiff, Nat.reduceSub, Nat.reduceBEq, reduceIte, reduceCtorEq, Int.reduceEq, Int.reduceNe, Nat.reduceBneDiff, Int.reduceLE, Int.reduceLT, Int.reduceToNat, Int.reduceAdd, Int.reduceSub, Int.reduceMul, Int.reduceNeg]) | ((with_reducible refine gcall_eq (hv) ?_ ?_ ?_); (with_reducible rfl); rfl) | (with_reducible exact drawQ_true _ _ (by kernel_rfl)) | (with_reducible refine And.intro (drawQ_true _ _ (by kernel_rfl)) ?_))
theorem wLen_v (neg : Bool) (s : ByteArray) (h : validB neg s.data.toList = true) (hs : s.size ≤ 100000) : SoundAt Tryz.prog 79 [.agg [.bool neg, .str s]] (.int .i64 (blen (bnum s.data.toList) : Int)) := by
  have hv := wvalid_v neg s
  rw [h] at hv
  have ho := wload_v s (by omega)
  rw [load_digs h] at ho
  have hg := wsize_v (bnum s.data.toList) (Nat.le_trans (L_bnum s hs) (by decide))
  refine sound_go (tb := []) 10 [.tmp 2] [0, 1, 2, 5] mixed Tryz.func79 rfl (by kernel_rfl) (by kernel_rfl) (by kernel_rfl) (by kernel_rfl) ?_
  repeat (first | (simp -implicitDefEqProofs only [go_sem, Nat.reduceAdd, Nat.reduceMul, Nat.reduceEqDiff, Nat.reduceLT, Nat.reduceLeDiff, Nat.reduceSub, Nat.reduceBEq, reduceIte, reduceCtorEq, Int.reduceEq, Int.reduceNe, Nat.reduceBneDiff, Int.reduceLE, Int.reduceLT, Int.reduceToNat, Int.reduceAdd, Int.reduceSub, Int.reduceMul, Int.reduceNeg, dw]) | ((with_reducible refine gcall_eq (hv) ?_ ?_ ?_); (with_reducible rfl); rfl) | ((with_reducible refine gcall_eq (ho) ?_ ?_ ?_); (with_reducible rfl); rfl) | ((with_reducible refine gcall_eq (hg) ?_ ?_ ?_); (with_reducible rfl); rfl) | (with_reducible exact drawQ_true _ _ (by kernel_rfl)) | (with_reducible refine And.intro (drawQ_true _ _ (by kernel_rfl)) ?_))
end Go.Proofs.YtnpclmmmngmdkaaGreat

namespace Go.Dg
theorem clear_copy {α : Type} (E L : List α) (i n : Nat) (z : α) (hL : L.length ≤ n) (hi : i + n ≤ E.length) :
    (E.take i ++ List.replicate n z ++ E.drop (i + n)).take i ++ L ++ (E.take i ++ List.replicate n z ++ E.drop (i + n)).drop (i + L.length) = E.take i ++ (L ++ List.replicate (n - L.length) z) ++ E.drop (i + n) := by
  have hl : (E.take i).length = i := by simp; omega
  rw [List.append_assoc (E.take i) (List.replicate n z)]
  generalize hT : E.take i = T at *
  generalize E.drop (i + n) = D
  have e1 : (T ++ (List.replicate n z ++ D)).take i = T := by rw [← hl]; exact List.take_left
  have e2 : (T ++ (List.replicate n z ++ D)).drop (i + L.length) = List.replicate (n - L.length) z ++ D := by
    rw [← List.drop_drop, ← hl, List.drop_left, List.drop_append]
    simp only [List.drop_replicate, List.length_replicate]
    rw [show L.length - n = 0 by omega, List.drop_zero]
  rw [e1, e2]
  simp only [List.append_assoc]
/-- The divisor, moved up so that its first word begins with a bit 1, has as many words. -/
theorem up_len {b : Nat} (hb : b ≠ 0) :
    (digs WB (b * 2 ^ (64 - blen (b / WB ^ ((digs WB b).length - 1))))).length = (digs WB b).length := by
  have hp : 0 < (digs WB b).length := List.length_pos_iff.2 (mt (digs_eq_nil (by decide)).1 hb)
  have ht := top_digit (B := WB) (by decide) hb
  obtain ⟨K, hK⟩ : ∃ K, (digs WB b).length = K + 1 := ⟨(digs WB b).length - 1, by omega⟩
  rw [hK, Nat.add_sub_cancel] at ht ⊢
  have h64 := blen_le 64 _ ht.2
  have hlt : b / WB ^ K < 2 ^ blen (b / WB ^ K) := by
    rcases Nat.lt_or_ge (b / WB ^ K) (2 ^ blen (b / WB ^ K)) with h | h
    · exact h
    · have := blen_gt _ _ h; omega
  apply Nat.le_antisymm
  · refine (digs_len_le (by decide) _ _).2 ?_
    have h1 : b < 2 ^ blen (b / WB ^ K) * WB ^ K := (Nat.div_lt_iff_lt_mul (WBp K)).1 hlt
    have h2 := Nat.mul_lt_mul_of_pos_right h1 (show 0 < 2 ^ (64 - blen (b / WB ^ K)) from Nat.pow_pos (by decide))
    rw [Nat.mul_right_comm, ← Nat.pow_add, show blen (b / WB ^ K) + (64 - blen (b / WB ^ K)) = 64 by omega] at h2
    rw [Nat.pow_succ, Nat.mul_comm (WB ^ K)]
    exact h2
  · have h3 : K < (digs WB b).length := by omega
    have h4 := (digs_len (by decide) b K).1 h3
    refine (digs_len (by decide) _ K).2 ?_
    have h5 : b / WB ^ K ≤ b * 2 ^ (64 - blen (b / WB ^ K)) / WB ^ K := Nat.div_le_div_right (Nat.le_mul_of_pos_right b (Nat.pow_pos (by decide)))
    exact Nat.ne_of_gt (Nat.lt_of_lt_of_le (Nat.pos_of_ne_zero h4) h5)
end Go.Dg

namespace Go.Proofs.YtnpclmmmngmdkaaGreat
open Go.Vl Go.RowKit Go.Dg

theorem wdiv_lt (a b : Nat) (h : a < b) (ha : (digs BW a).length ≤ 100000000) (hbl : (digs BW b).length ≤ 100000000) : SoundAt Tryz.prog 115 [dw (digs BW a), dw (digs BW b)] (.tup [dw (digs BW (a / b)), dw (digs BW (a % b))]) := by
  have hc := wcompare_v a b (by omega) (by omega)
  have g1 : (cmpW a b < 0) = True := by simp only [eq_iff_iff, iff_true]; exact (cmpW_neg a b).2 h
  rw [Nat.div_eq_of_lt h, Nat.mod_eq_of_lt h, digs_zero]
  refine sound_go (tb := []) 145 [.tmp 4, .tmp 5] [0, 1, 4, 5, 6, 7, 8, 9, 10, 11, 12, 13, 14, 15, 16, 17, 21, 25, 68, 82, 121] mixed Tryz.func115 rfl (by kernel_rfl) (by kernel_rfl) (by kernel_rfl) (by kernel_rfl) ?_
  repeat (first | (simp -implicitDefEqProofs only [go_sem, Nat.reduceAdd, Nat.reduceMul, Nat.reduceEqDiff, Nat.reduceLT, Nat.reduceLeDiff, Nat.reduceSub, Nat.reduceBEq, reduceIte, reduceCtorEq, Int.reduceEq, Int.reduceNe, Nat.reduceBneDiff, Int.reduceLE, Int.reduceLT, Int.reduceToNat, Int.reduceAdd, Int.reduceSub, Int.reduceMul, Int.reduceNeg, dw, g1, List.map_nil]) | ((with_reducible refine gcall_eq (hc) ?_ ?_ ?_); (with_reducible rfl); rfl) | (with_reducible exact drawQ_true _ _ (by kernel_rfl)) | (with_reducible refine And.intro (drawQ_true _ _ (by kernel_rfl)) ?_))
theorem wdiv_one (a b : Nat) (h : b ≤ a) (hb : 0 < b) (h1 : b < 18446744073709551616) (ha : (digs BW a).length ≤ 100000000) : SoundAt Tryz.prog 115 [dw (digs BW a), dw (digs BW b)] (.tup [dw (digs BW (a / b)), dw (digs BW (a % b))]) := by
  have hd : digs BW b = [b] := by rw [digs_succ BW_2 (by omega), Nat.mod_eq_of_lt h1, Nat.div_eq_of_lt h1, digs_zero]
  have hc := wcompare_v a b (by omega) (by rw [hd]; simp)
  have g1 : (cmpW a b < 0) = False := by simp only [eq_iff_iff, iff_false]; rw [cmpW_neg]; omega
  have hs := wsmall_v a b hb h1 (by omega)
  have hr : a % b < BW := Nat.lt_trans (Nat.mod_lt _ hb) h1
  have ht := wtrim_v [a % b] (by simp [maxLen])
  rw [trim_oneW hr] at ht
  rw [hd] at hc ⊢
  have z1 : (((0 + 1 : Nat) : Int) == 1) = true := rfl
  have z2 : (((1 : Nat) : Int) == 1) = true := rfl
  refine sound_go (tb := []) 145 [.tmp 4, .tmp 5] [0, 1, 4, 5, 6, 7, 8, 9, 10, 11, 12, 13, 14, 15, 16, 17, 21, 25, 68, 82, 121] mixed Tryz.func115 rfl (by kernel_rfl) (by kernel_rfl) (by kernel_rfl) (by kernel_rfl) ?_
  repeat (first | (simp -implicitDefEqProofs only [go_sem, Nat.reduceAdd, Nat.reduceMul, Nat.reduceEqDiff, Nat.reduceLT, Nat.reduceLeDiff, Nat.reduceSub, Nat.reduceBEq, reduceIte, reduceCtorEq, Int.reduceEq, Int.reduceNe, Nat.reduceBneDiff, Int.reduceLE, Int.reduceLT, Int.reduceToNat, Int.reduceAdd, Int.reduceSub, Int.reduceMul, Int.reduceNeg, dw, g1, List.map_nil, List.map_cons, z1, z2]) | ((with_reducible refine gcall_eq (hc) ?_ ?_ ?_); (with_reducible rfl); rfl) | ((with_reducible refine gcall_eq (hs) ?_ ?_ ?_); (with_reducible rfl); rfl) | ((with_reducible refine gcall_eq (ht) ?_ ?_ ?_); (with_reducible rfl); rfl) | (with_reducible exact drawQ_true _ _ (by kernel_rfl)) | (with_reducible refine And.intro (drawQ_true _ _ (by kernel_rfl)) ?_))
end Go.Proofs.YtnpclmmmngmdkaaGreat
