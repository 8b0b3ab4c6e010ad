/-
  ZW18, ZW21, ZW22, ZW19, ZW24 (merged for the claim).
-/
import Derived.Test.YtkgkebhlpjenaaaGreatDoorDe4
set_option linter.unusedSimpArgs false
set_option linter.unusedVariables false
namespace Go.Proofs.YtkgkebhlpjenaaaGreatDoor
open Go.Vl Go.RowKit Go.Dg

theorem wsmall_v (a d : Nat) (hd : 0 < d) (hdl : d < 18446744073709551616) (ha : (digs BW a).length ≤ 1000000000) : SoundAt Tryz.prog 89 [dw (digs BW a), .int .u64 (d : Int)] (.tup [dw (digs BW (a / d)), .int .u64 ((a % d : Nat) : Int)]) := by
  refine sound_go (tb := []) 35 [.tmp 4, .tmp 5] [0, 1, 4, 5, 6, 7, 8, 16] mixed Tryz.func89 rfl (by kernel_rfl) (by kernel_rfl) (by kernel_rfl) (by kernel_rfl) ?_
  have hn0 : ((0 : Int) ≤ ((digs BW a).length : Int)) = True := by simp
  have hn1 : ((8 : Nat) : Int) * ((digs BW a).length : Int) ≤ 281474976710656 := by omega
  have hn2 : ((digs BW a).length : Int) ≤ 9223372036854775807 := by omega
  have hlt : a < BW ^ (digs BW a).length := lt_pow_len BW_2 a
  have hw : IntKind.i64.wrap (((digs BW a).length : Int) - 1) = ((digs BW a).length : Int) - 1 := wrap_i64 (by omega) (by omega)
  simp -implicitDefEqProofs only [go_sem, Nat.reduceAdd, Nat.reduceMul, Nat.reduceEqDiff, Nat.reduceLT, Nat.reduceLeDiff, Nat.reduceSub, Nat.reduceBEq, reduceIte, reduceCtorEq, Int.reduceEq, Int.reduceNe, Nat.reduceBneDiff, Int.reduceLE, Int.reduceLT, Int.reduceToNat, Int.reduceAdd, Int.reduceSub, Int.reduceMul, Int.reduceNeg, T_ok3, T_agg3, T_isinfo3, T_info3, T_cells3, T_zero3, T_int3, T_ok84, T_agg84, T_isinfo84, T_info84, T_cells84, T_zero84, T_elem84, T_under84, T_len84s, T_len84n, T_len84b, T_ok92, T_agg92, T_isinfo92, T_info92, T_cells92, T_zero92, T_int92, dw, List.length_map, hn0, hn1, hn2, Int.toNat_natCast, hw]
  generalize hN : (digs BW a).length = N at *
  have hrep : List.replicate N (PV.int .u64 0) = (mix BW 0 (a / d) N N).map fW := by rw [mix_full, lows_zero']; simp
  rw [hrep]
  refine g_loop mixed (fun i : { i : Nat // i ≤ N } => St.of [(0, dw (digs BW a)), (1, .int .u64 (d : Int)), (4, .nilS), (5, .int .u64 0), (6, .bs 102 1 0 N), (7, .int .u64 ((a / BW ^ i.1 % d : Nat) : Int)), (8, .int .i64 ((i.1 : Int) - 1))]
    [(102, { els := (mix BW 0 (a / d) N i.1).map fW, esz := 1, ety := 92, fro := 0, live := true, arr := true })]) (fun i => i.1) ⟨N, Nat.le_refl _⟩ ?_ ?_
  · refine le_of (θ := [(102, 102)]) rfl ?_ ?_
    · simp [varsLe, lkp, ren1, ren0, dw, Nat.div_eq_of_lt hlt]
    · simp [boxesLe, lkp, Box.renames]
  · rintro ⟨i, hi⟩
    cases i with
    | zero =>
      have h1 : ((0 : Int) ≤ ((0 : Nat) : Int) - 1) = False := by simp
      have hll := lows_length (B := BW) (a / d) N
      have htk : ((lows BW (a / d) N).map fW).take N = (lows BW (a / d) N).map fW := List.take_of_length_le (by simp [hll])
      simp -implicitDefEqProofs only [go_sem, Nat.reduceAdd, Nat.reduceMul, Nat.reduceEqDiff, Nat.reduceLT, Nat.reduceLeDiff, Nat.reduceSub, Nat.reduceBEq, reduceIte, reduceCtorEq, Int.reduceEq, Int.reduceNe, Nat.reduceBneDiff, Int.reduceLE, Int.reduceLT, Int.reduceToNat, Int.reduceAdd, Int.reduceSub, Int.reduceMul, Int.reduceNeg, T_ok3, T_agg3, T_isinfo3, T_info3, T_cells3, T_zero3, T_int3, T_ok84, T_agg84, T_isinfo84, T_info84, T_cells84, T_zero84, T_elem84, T_under84, T_len84s, T_len84n, T_len84b, T_ok92, T_agg92, T_isinfo92, T_info92, T_cells92, T_zero92, T_int92, h1, mix_none, List.length_map, hll, htk]
      refine gcall_intro _ _ _ _ _ _ _ _ _ (wtrim_v (lows BW (a / d) N) (by rw [hll]; simp [maxLen]; omega)) ?_
      have e : a / BW ^ 0 % d = a % d := by rw [Nat.pow_zero, Nat.div_one]
      simp -implicitDefEqProofs only [go_sem, Nat.reduceAdd, Nat.reduceMul, Nat.reduceEqDiff, Nat.reduceLT, Nat.reduceLeDiff, Nat.reduceSub, Nat.reduceBEq, reduceIte, reduceCtorEq, Int.reduceEq, Int.reduceNe, Nat.reduceBneDiff, Int.reduceLE, Int.reduceLT, Int.reduceToNat, Int.reduceAdd, Int.reduceSub, Int.reduceMul, Int.reduceNeg, T_ok3, T_agg3, T_isinfo3, T_info3, T_cells3, T_zero3, T_int3, T_ok84, T_agg84, T_isinfo84, T_info84, T_cells84, T_zero84, T_elem84, T_under84, T_len84s, T_len84n, T_len84b, T_ok92, T_agg92, T_isinfo92, T_info92, T_cells92, T_zero92, T_int92, dw, e]
      rw [trimZ_lows BW_2, Nat.mod_eq_of_lt (Nat.lt_of_le_of_lt (Nat.div_le_self _ _) hlt)]
    | succ i =>
      have hs : (((i + 1 : Nat) : Int) - 1) = (i : Int) := by omega
      have h1 : ((0 : Int) ≤ (i : Int)) = True := by simp
      have h2 : ((i : Int) < (N : Int)) = True := by simp; omega
      have hga := digs_get_lt BW_2 (show i < (digs BW a).length by omega)
      have hml := mix_length (B := BW) 0 (a / d) N (i + 1)
      obtain ⟨e, hgo⟩ : ∃ e : Nat, ((mix BW 0 (a / d) N (i + 1)).map fW)[i]? = some (PV.int .u64 (e : Int)) := ⟨_, by rw [List.getElem?_map, mix_get _ _ _ _ _ (by omega)]; rfl⟩
      have e0 : a / BW ^ (i + 1) = a / BW ^ i / BW := by rw [Nat.pow_succ, Nat.div_div_eq_div_mul]
      obtain ⟨s1, s2⟩ := small_step (a / BW ^ i) d BW (by decide) hd
      have e1 : a / BW ^ i / d = a / d / BW ^ i := by rw [Nat.div_div_eq_div_mul, Nat.div_div_eq_div_mul, Nat.mul_comm]
      have hc := div64_v (a / BW ^ (i + 1) % d) (a / BW ^ i % BW) d (Nat.mod_lt _ hd) hdl (Nat.mod_lt _ (by decide))
      rw [e0, s1, s2, e1] at hc
      have hset := mix_down (B := BW) (V := 0) (S := a / d) (N := N) (i := i) (d := a / d / BW ^ i % BW) (by omega) rfl
      have w4 : IntKind.i64.wrap ((i : Int) - 1) = (i : Int) - 1 := wrap_i64 (by omega) (by omega)
      simp -implicitDefEqProofs only [go_sem, Nat.reduceAdd, Nat.reduceMul, Nat.reduceEqDiff, Nat.reduceLT, Nat.reduceLeDiff, Nat.reduceSub, Nat.reduceBEq, reduceIte, reduceCtorEq, Int.reduceEq, Int.reduceNe, Nat.reduceBneDiff, Int.reduceLE, Int.reduceLT, Int.reduceToNat, Int.reduceAdd, Int.reduceSub, Int.reduceMul, Int.reduceNeg, T_ok3, T_agg3, T_isinfo3, T_info3, T_cells3, T_zero3, T_int3, T_ok84, T_agg84, T_isinfo84, T_info84, T_cells84, T_zero84, T_elem84, T_under84, T_len84s, T_len84n, T_len84b, T_ok92, T_agg92, T_isinfo92, T_info92, T_cells92, T_zero92, T_int92, dw, hs, h1, h2, dw_get, hga, Int.toNat_natCast, e0]
      refine gcall_intro _ _ _ _ _ _ _ _ _ hc ?_
      simp -implicitDefEqProofs only [go_sem, Nat.reduceAdd, Nat.reduceMul, Nat.reduceEqDiff, Nat.reduceLT, Nat.reduceLeDiff, Nat.reduceSub, Nat.reduceBEq, reduceIte, reduceCtorEq, Int.reduceEq, Int.reduceNe, Nat.reduceBneDiff, Int.reduceLE, Int.reduceLT, Int.reduceToNat, Int.reduceAdd, Int.reduceSub, Int.reduceMul, Int.reduceNeg, T_ok3, T_agg3, T_isinfo3, T_info3, T_cells3, T_zero3, T_int3, T_ok84, T_agg84, T_isinfo84, T_info84, T_cells84, T_zero84, T_elem84, T_under84, T_len84s, T_len84n, T_len84b, T_ok92, T_agg92, T_isinfo92, T_info92, T_cells92, T_zero92, T_int92, h1, h2, List.length_map, hml, hgo, Int.toNat_natCast, w4]
      refine ⟨⟨i, by omega⟩, by simp only; omega, le_of (θ := [(102, 102)]) rfl ?_ ?_⟩
      · simp [varsLe, lkp, ren1, ren0, dw]
      · rw [set_fW, hset]
        simp [boxesLe, lkp, Box.renames]
end Go.Proofs.YtkgkebhlpjenaaaGreatDoor

namespace Go.Proofs.YtkgkebhlpjenaaaGreatDoor
open Go.Vl Go.RowKit Go.Dg

abbrev wB (E : List Nat) : Box := { els := E.map fW, esz := 1, ety := 92, fro := 0, live := true, arr := true }
theorem trimZ_pre (l : List Nat) : ∃ k, trimZ l = l.take k := ⟨_, trimZ_prefix l⟩
theorem wtrimB_v (E : List Nat) (off n : Nat) (hn : off + n ≤ E.length) (hE : E.length ≤ maxLen) :
    SoundB Tryz.prog 99 [.bs 1000000 1 off n] [(1000000, wB E)] (.bs 1000000 1 off (trimZ ((E.drop off).take n)).length) [(1000000, wB E)] := by
  have hm := maxLen_lt
  refine soundB_go (tb := []) 21 [.tmp 2] [0, 2, 14] mixed Tryz.func99 rfl (by kernel_rfl) (by kernel_rfl) (by kernel_rfl) (by kernel_rfl) (by rfl) ?_
  simp -implicitDefEqProofs only [go_sem, Nat.reduceAdd, Nat.reduceMul, Nat.reduceEqDiff, Nat.reduceLT, Nat.reduceLeDiff, Nat.reduceSub, Nat.reduceBEq, reduceIte, reduceCtorEq, Int.reduceEq, Int.reduceNe, Nat.reduceBneDiff, Int.reduceLE, Int.reduceLT, Int.reduceToNat, Int.reduceAdd, Int.reduceSub, Int.reduceMul, Int.reduceNeg, T_ok3, T_agg3, T_isinfo3, T_info3, T_cells3, T_zero3, T_int3, T_ok84, T_agg84, T_isinfo84, T_info84, T_cells84, T_zero84, T_elem84, T_under84, T_len84s, T_len84n, T_len84b, T_ok92, T_agg92, T_isinfo92, T_info92, T_cells92, T_zero92, T_int92]
  refine g_loop mixed (fun k : { k : Nat // k ≤ n ∧ trimZ ((E.drop off).take k) = trimZ ((E.drop off).take n) } => St.of [(0, .bs 1000000 1 off k.1), (2, .nilS)] [(1000000, wB E)]) (fun k => k.1) ⟨n, Nat.le_refl _, rfl⟩ ?_ ?_
  · refine le_of (θ := [(1000000, 1000000)]) rfl ?_ ?_
    · simp [varsLe, lkp, ren1, ren0]
    · simp [boxesLe, lkp, Box.renames]
  · rintro ⟨k, hk, ht⟩
    cases k with
    | zero =>
      have h1 : ((0 : Int) < ((0 : Nat) : Int)) = False := by simp
      simp -implicitDefEqProofs only [go_sem, Nat.reduceAdd, Nat.reduceMul, Nat.reduceEqDiff, Nat.reduceLT, Nat.reduceLeDiff, Nat.reduceSub, Nat.reduceBEq, reduceIte, reduceCtorEq, Int.reduceEq, Int.reduceNe, Nat.reduceBneDiff, Int.reduceLE, Int.reduceLT, Int.reduceToNat, Int.reduceAdd, Int.reduceSub, Int.reduceMul, Int.reduceNeg, T_ok3, T_agg3, T_isinfo3, T_info3, T_cells3, T_zero3, T_int3, T_ok84, T_agg84, T_isinfo84, T_info84, T_cells84, T_zero84, T_elem84, T_under84, T_len84s, T_len84n, T_len84b, T_ok92, T_agg92, T_isinfo92, T_info92, T_cells92, T_zero92, T_int92, h1]
      rw [← ht]
      refine vretB_back (.inl rfl) ?_
      simp -implicitDefEqProofs only [go_sem, Nat.reduceAdd, Nat.reduceMul, Nat.reduceEqDiff, Nat.reduceLT, Nat.reduceLeDiff, Nat.reduceSub, Nat.reduceBEq, reduceIte, reduceCtorEq, Int.reduceEq, Int.reduceNe, Nat.reduceBneDiff, Int.reduceLE, Int.reduceLT, Int.reduceToNat, Int.reduceAdd, Int.reduceSub, Int.reduceMul, Int.reduceNeg, T_ok3, T_agg3, T_isinfo3, T_info3, T_cells3, T_zero3, T_int3, T_ok84, T_agg84, T_isinfo84, T_info84, T_cells84, T_zero84, T_elem84, T_under84, T_len84s, T_len84n, T_len84b, T_ok92, T_agg92, T_isinfo92, T_info92, T_cells92, T_zero92, T_int92]
      refine le_of (θ := [(1000000, 1000000)]) rfl ?_ ?_
      · simp [varsLe, lkp, ren1, ren0, trimZ]
      · simp [boxesLe, lkp, Box.renames]
    | succ k =>
      have h1 : ((0 : Int) < ((k + 1 : Nat) : Int)) = True := by simp
      have h2 : (0 ≤ (k : Int)) = True := by simp
      have hw := wrap_sub1 (n := k) (by omega)
      have hlt : off + k < E.length := by omega
      have hget : (E.map fW)[off + k]? = some (.int .u64 (E[off + k] : Int)) := by simp [hlt]
      have hcut : (E.drop off).take (k + 1) = (E.drop off).take k ++ [E[off + k]] := by
        rw [List.take_add_one, List.getElem?_drop, List.getElem?_eq_getElem hlt]; rfl
      have h4 : ((k : Int) < ((k + 1 : Nat) : Int)) = True := by simp; omega
      cases hd : ((E[off + k] : Int) == 0) with
      | true =>
        have hd0 : E[off + k] = 0 := by simpa using hd
        have h3 : ((k : Int) ≤ ((k + 1 : Nat) : Int)) = True := by simp; omega
        simp -implicitDefEqProofs only [go_sem, Nat.reduceAdd, Nat.reduceMul, Nat.reduceEqDiff, Nat.reduceLT, Nat.reduceLeDiff, Nat.reduceSub, Nat.reduceBEq, reduceIte, reduceCtorEq, Int.reduceEq, Int.reduceNe, Nat.reduceBneDiff, Int.reduceLE, Int.reduceLT, Int.reduceToNat, Int.reduceAdd, Int.reduceSub, Int.reduceMul, Int.reduceNeg, T_ok3, T_agg3, T_isinfo3, T_info3, T_cells3, T_zero3, T_int3, T_ok84, T_agg84, T_isinfo84, T_info84, T_cells84, T_zero84, T_elem84, T_under84, T_len84s, T_len84n, T_len84b, T_ok92, T_agg92, T_isinfo92, T_info92, T_cells92, T_zero92, T_int92, h1, h2, hw, hget, hd, Int.toNat_natCast, h3, h4, wB]
        refine ⟨⟨k, by omega, ?_⟩, by simp, ?_⟩
        · rw [← ht, hcut, hd0, trimZ_snoc_zero]
        · refine le_of (θ := [(1000000, 1000000)]) rfl ?_ ?_
          · simp [varsLe, lkp, ren1, ren0]
          · simp [boxesLe, lkp, Box.renames]
      | false =>
        have hd0 : E[off + k] ≠ 0 := by simpa using hd
        simp -implicitDefEqProofs only [go_sem, Nat.reduceAdd, Nat.reduceMul, Nat.reduceEqDiff, Nat.reduceLT, Nat.reduceLeDiff, Nat.reduceSub, Nat.reduceBEq, reduceIte, reduceCtorEq, Int.reduceEq, Int.reduceNe, Nat.reduceBneDiff, Int.reduceLE, Int.reduceLT, Int.reduceToNat, Int.reduceAdd, Int.reduceSub, Int.reduceMul, Int.reduceNeg, T_ok3, T_agg3, T_isinfo3, T_info3, T_cells3, T_zero3, T_int3, T_ok84, T_agg84, T_isinfo84, T_info84, T_cells84, T_zero84, T_elem84, T_under84, T_len84s, T_len84n, T_len84b, T_ok92, T_agg92, T_isinfo92, T_info92, T_cells92, T_zero92, T_int92, h1, h2, hw, hget, hd, Int.toNat_natCast, h4, wB]
        rw [← ht, hcut, trimZ_snoc _ hd0]
        refine vretB_back (.inl rfl) ?_
        simp -implicitDefEqProofs only [go_sem, Nat.reduceAdd, Nat.reduceMul, Nat.reduceEqDiff, Nat.reduceLT, Nat.reduceLeDiff, Nat.reduceSub, Nat.reduceBEq, reduceIte, reduceCtorEq, Int.reduceEq, Int.reduceNe, Nat.reduceBneDiff, Int.reduceLE, Int.reduceLT, Int.reduceToNat, Int.reduceAdd, Int.reduceSub, Int.reduceMul, Int.reduceNeg, T_ok3, T_agg3, T_isinfo3, T_info3, T_cells3, T_zero3, T_int3, T_ok84, T_agg84, T_isinfo84, T_info84, T_cells84, T_zero84, T_elem84, T_under84, T_len84s, T_len84n, T_len84b, T_ok92, T_agg92, T_isinfo92, T_info92, T_cells92, T_zero92, T_int92]
        refine le_of (θ := [(1000000, 1000000)]) rfl ?_ ?_
        · simp [varsLe, lkp, ren1, ren0]; omega
        · simp [boxesLe, lkp, Box.renames]
end Go.Proofs.YtkgkebhlpjenaaaGreatDoor

namespace Go.Proofs.YtkgkebhlpjenaaaGreatDoor
open Go.Vl Go.RowKit Go.Dg

theorem wsubB_v (E : List Nat) (off a b : Nat) (hba : b ≤ a) (hE : (E.drop off).take (digs BW a).length = digs BW a) (hEl : off + (digs BW a).length ≤ E.length) (ha : (digs BW a).length ≤ 1000000000) :
    SoundB Tryz.prog 102 [.bs 1000000 1 off (digs BW a).length, dw (digs BW b)] [(1000000, wB E)] (.bs 102 1 0 (digs BW (a - b)).length) [(1000000, wB E), (102, wB (lows BW (a - b) (digs BW a).length))] := by
  
  refine soundB_go (tb := [(1101, [(1000000, 102)], [])]) 41 [.tmp 4] [0, 1, 4, 5, 6, 7, 8, 13, 14, 15, 20] mixed Tryz.func102 rfl (by kernel_rfl) (by kernel_rfl) (by kernel_rfl) (by kernel_rfl) (by rfl) ?_
  have hn0 : ((0 : Int) ≤ ((digs BW a).length : Int)) = True := by simp
  have hn1 : ((8 : Nat) : Int) * ((digs BW a).length : Int) ≤ 281474976710656 := by omega
  have hn2 : ((digs BW a).length : Int) ≤ 9223372036854775807 := by omega
  simp -implicitDefEqProofs only [go_sem, Nat.reduceAdd, Nat.reduceMul, Nat.reduceEqDiff, Nat.reduceLT, Nat.reduceLeDiff, Nat.reduceSub, Nat.reduceBEq, reduceIte, reduceCtorEq, Int.reduceEq, Int.reduceNe, Nat.reduceBneDiff, Int.reduceLE, Int.reduceLT, Int.reduceToNat, Int.reduceAdd, Int.reduceSub, Int.reduceMul, Int.reduceNeg, T_ok3, T_agg3, T_isinfo3, T_info3, T_cells3, T_zero3, T_int3, T_ok84, T_agg84, T_isinfo84, T_info84, T_cells84, T_zero84, T_elem84, T_under84, T_len84s, T_len84n, T_len84b, T_ok92, T_agg92, T_isinfo92, T_info92, T_cells92, T_zero92, T_int92, dw, wB, List.length_map, hn0, hn1, hn2, Int.toNat_natCast]
  generalize hN : (digs BW a).length = N at *
  rw [mix_start (a - b) N]
  refine g_loop mixed (fun i : { i : Nat // i ≤ N } => St.of [(0, .bs 1000000 1 off N), (1, dw (digs BW b)), (4, .nilS), (5, .bs 102 1 0 N), (6, .int .u64 (bor BW a b i.1 : Int)), (13, .int .i64 (N : Int)), (14, .int .i64 (i.1 : Int))]
    [(1000000, wB E), (102, { els := (mix BW (a - b) 0 N i.1).map fW, esz := 1, ety := 92, fro := 0, live := true, arr := true })]) (fun i => N - i.1) ⟨0, Nat.zero_le _⟩ ?_ ?_
  · refine le_of (θ := [(1000000, 1000000), (102, 102)]) rfl ?_ ?_
    · simp [varsLe, lkp, ren1, ren0, dw, bor_zero]
    · simp [boxesLe, lkp, Box.renames]
  · rintro ⟨i, hi⟩
    have hml := mix_length (B := BW) (a - b) 0 N i
    by_cases hA : i < N
    · have hA' : ((i : Int) < (N : Int)) = True := by simp; omega
      have h0 : (0 ≤ (i : Int)) = True := by simp
      have hga := digs_get_lt BW_2 (show i < (digs BW a).length by omega)
      have hgE : (E.map fW)[off + i]? = some (PV.int .u64 ((a / BW ^ i % BW : Nat) : Int)) := by
        rw [List.getElem?_map, ← List.getElem?_drop, ← List.getElem?_take_of_lt (show i < N by omega), hE, hga]; rfl
      have hwk := wrap_add1 (a := i) (by omega)
      have hbl := bor_le (B := BW) a b i
      have hbl2 := bor_le (B := BW) a b (i + 1)
      have hst := sub_step BW_2 hba i
      have hx : a / BW ^ i % BW < BW := Nat.mod_lt _ (by decide)
      have hy : b / BW ^ i % BW < BW := Nat.mod_lt _ (by decide)
      have hz : (a - b) / BW ^ i % BW < BW := Nat.mod_lt _ (by decide)
      have hset := mix_set (B := BW) (V := a - b) (W := a - b) (S := 0) (n := N) (m := i) (d := (a - b) / BW ^ i % BW) (by decide) hA rfl rfl
      have hy0 : ¬ i < (digs BW b).length → b / BW ^ i % BW = 0 := fun h => by rw [digit_beyond BW_2 (Nat.le_of_not_lt h), Nat.zero_mod]
      have hgb : i < (digs BW b).length → (digs BW b)[i]? = some (b / BW ^ i % BW) := fun h => digs_get_lt BW_2 h
      obtain ⟨e, hgo⟩ : ∃ e : Nat, ((mix BW (a - b) 0 N i).map fW)[i]? = some (PV.int .u64 (e : Int)) := ⟨_, by rw [List.getElem?_map, mix_get _ _ _ _ _ hA]; rfl⟩
      generalize a / BW ^ i % BW = x at *
      generalize b / BW ^ i % BW = y at *
      generalize (a - b) / BW ^ i % BW = z at *
      have s1 : (x + 18446744073709551616 - y - bor BW a b i) % 18446744073709551616 = z := by simp only [BW] at *; omega
      have s2 : (if x < y + bor BW a b i then 1 else 0) = bor BW a b (i + 1) := by
        simp only [BW] at *
        split <;> omega
      have hc := sub64_v x y (bor BW a b i) hbl
      rw [s1, s2] at hc
      by_cases hB : i < (digs BW b).length
      · have hB' : ((i : Int) < ((digs BW b).length : Int)) = True := by simp; omega
        have hgb := hgb hB
        simp -implicitDefEqProofs only [go_sem, Nat.reduceAdd, Nat.reduceMul, Nat.reduceEqDiff, Nat.reduceLT, Nat.reduceLeDiff, Nat.reduceSub, Nat.reduceBEq, reduceIte, reduceCtorEq, Int.reduceEq, Int.reduceNe, Nat.reduceBneDiff, Int.reduceLE, Int.reduceLT, Int.reduceToNat, Int.reduceAdd, Int.reduceSub, Int.reduceMul, Int.reduceNeg, T_ok3, T_agg3, T_isinfo3, T_info3, T_cells3, T_zero3, T_int3, T_ok84, T_agg84, T_isinfo84, T_info84, T_cells84, T_zero84, T_elem84, T_under84, T_len84s, T_len84n, T_len84b, T_ok92, T_agg92, T_isinfo92, T_info92, T_cells92, T_zero92, T_int92, dw, List.length_map, hA', hB', h0, dw_get, hgE, wB, hgb, Int.toNat_natCast]
        refine gcall_intro _ _ _ _ _ _ _ _ _ hc ?_
        simp -implicitDefEqProofs only [go_sem, Nat.reduceAdd, Nat.reduceMul, Nat.reduceEqDiff, Nat.reduceLT, Nat.reduceLeDiff, Nat.reduceSub, Nat.reduceBEq, reduceIte, reduceCtorEq, Int.reduceEq, Int.reduceNe, Nat.reduceBneDiff, Int.reduceLE, Int.reduceLT, Int.reduceToNat, Int.reduceAdd, Int.reduceSub, Int.reduceMul, Int.reduceNeg, T_ok3, T_agg3, T_isinfo3, T_info3, T_cells3, T_zero3, T_int3, T_ok84, T_agg84, T_isinfo84, T_info84, T_cells84, T_zero84, T_elem84, T_under84, T_len84s, T_len84n, T_len84b, T_ok92, T_agg92, T_isinfo92, T_info92, T_cells92, T_zero92, T_int92, hA', h0, Int.toNat_natCast, hwk, hgo, List.length_map, hml]
        refine ⟨⟨i + 1, hA⟩, by simp only; omega, ?_⟩
        refine le_of (θ := [(1000000, 1000000), (102, 102)]) rfl ?_ ?_
        · simp [varsLe, lkp, ren1, ren0, dw]
        · rw [set_fW, hset]
          simp [boxesLe, lkp, Box.renames]
      · have hB' : ((i : Int) < ((digs BW b).length : Int)) = False := by simp; omega
        obtain rfl := hy0 hB
        simp -implicitDefEqProofs only [go_sem, Nat.reduceAdd, Nat.reduceMul, Nat.reduceEqDiff, Nat.reduceLT, Nat.reduceLeDiff, Nat.reduceSub, Nat.reduceBEq, reduceIte, reduceCtorEq, Int.reduceEq, Int.reduceNe, Nat.reduceBneDiff, Int.reduceLE, Int.reduceLT, Int.reduceToNat, Int.reduceAdd, Int.reduceSub, Int.reduceMul, Int.reduceNeg, T_ok3, T_agg3, T_isinfo3, T_info3, T_cells3, T_zero3, T_int3, T_ok84, T_agg84, T_isinfo84, T_info84, T_cells84, T_zero84, T_elem84, T_under84, T_len84s, T_len84n, T_len84b, T_ok92, T_agg92, T_isinfo92, T_info92, T_cells92, T_zero92, T_int92, dw, List.length_map, hA', hB', h0, dw_get, hgE, wB, Int.toNat_natCast]
        refine gcall_intro _ _ _ _ _ _ _ _ _ hc ?_
        simp -implicitDefEqProofs only [go_sem, Nat.reduceAdd, Nat.reduceMul, Nat.reduceEqDiff, Nat.reduceLT, Nat.reduceLeDiff, Nat.reduceSub, Nat.reduceBEq, reduceIte, reduceCtorEq, Int.reduceEq, Int.reduceNe, Nat.reduceBneDiff, Int.reduceLE, Int.reduceLT, Int.reduceToNat, Int.reduceAdd, Int.reduceSub, Int.reduceMul, Int.reduceNeg, T_ok3, T_agg3, T_isinfo3, T_info3, T_cells3, T_zero3, T_int3, T_ok84, T_agg84, T_isinfo84, T_info84, T_cells84, T_zero84, T_elem84, T_under84, T_len84s, T_len84n, T_len84b, T_ok92, T_agg92, T_isinfo92, T_info92, T_cells92, T_zero92, T_int92, hA', h0, Int.toNat_natCast, hwk, hgo, List.length_map, hml]
        refine ⟨⟨i + 1, hA⟩, by simp only; omega, ?_⟩
        refine le_of (θ := [(1000000, 1000000), (102, 102)]) rfl ?_ ?_
        · simp [varsLe, lkp, ren1, ren0, dw]
        · rw [set_fW, hset]
          simp [boxesLe, lkp, Box.renames]
    · have hA' : ((i : Int) < (N : Int)) = False := by simp; omega
      obtain rfl : i = N := by omega
      have hll := lows_length (B := BW) (a - b) i
      have hlt : a < BW ^ i := by rw [← hN]; exact lt_pow_len BW_2 a
      have hm : mix BW (a - b) 0 i i = lows BW (a - b) i := mix_all (by decide) (by rw [Nat.div_eq_of_lt (Nat.lt_of_le_of_lt (Nat.sub_le _ _) hlt), Nat.zero_div])
      have hq : trimZ (((lows BW (a - b) i).drop 0).take i) = digs BW (a - b) := by
        rw [List.drop_zero, List.take_of_length_le (by rw [hll]; exact Nat.le_refl _), trimZ_lows BW_2, Nat.mod_eq_of_lt (Nat.lt_of_le_of_lt (Nat.sub_le _ _) hlt)]
      have hc := wtrimB_v (lows BW (a - b) i) 0 i (by rw [hll]; omega) (by rw [hll]; simp [maxLen]; omega)
      rw [hq] at hc
      simp -implicitDefEqProofs only [go_sem, Nat.reduceAdd, Nat.reduceMul, Nat.reduceEqDiff, Nat.reduceLT, Nat.reduceLeDiff, Nat.reduceSub, Nat.reduceBEq, reduceIte, reduceCtorEq, Int.reduceEq, Int.reduceNe, Nat.reduceBneDiff, Int.reduceLE, Int.reduceLT, Int.reduceToNat, Int.reduceAdd, Int.reduceSub, Int.reduceMul, Int.reduceNeg, T_ok3, T_agg3, T_isinfo3, T_info3, T_cells3, T_zero3, T_int3, T_ok84, T_agg84, T_isinfo84, T_info84, T_cells84, T_zero84, T_elem84, T_under84, T_len84s, T_len84n, T_len84b, T_ok92, T_agg92, T_isinfo92, T_info92, T_cells92, T_zero92, T_int92, hA', wB, hm]
      refine gcallB_intro _ _ _ _ _ _ _ _ _ hc ?_
      simp -implicitDefEqProofs only [go_sem, Nat.reduceAdd, Nat.reduceMul, Nat.reduceEqDiff, Nat.reduceLT, Nat.reduceLeDiff, Nat.reduceSub, Nat.reduceBEq, reduceIte, reduceCtorEq, Int.reduceEq, Int.reduceNe, Nat.reduceBneDiff, Int.reduceLE, Int.reduceLT, Int.reduceToNat, Int.reduceAdd, Int.reduceSub, Int.reduceMul, Int.reduceNeg, T_ok3, T_agg3, T_isinfo3, T_info3, T_cells3, T_zero3, T_int3, T_ok84, T_agg84, T_isinfo84, T_info84, T_cells84, T_zero84, T_elem84, T_under84, T_len84s, T_len84n, T_len84b, T_ok92, T_agg92, T_isinfo92, T_info92, T_cells92, T_zero92, T_int92, wB]
      refine vretB_back (.inl rfl) ?_
      simp -implicitDefEqProofs only [go_sem, Nat.reduceAdd, Nat.reduceMul, Nat.reduceEqDiff, Nat.reduceLT, Nat.reduceLeDiff, Nat.reduceSub, Nat.reduceBEq, reduceIte, reduceCtorEq, Int.reduceEq, Int.reduceNe, Nat.reduceBneDiff, Int.reduceLE, Int.reduceLT, Int.reduceToNat, Int.reduceAdd, Int.reduceSub, Int.reduceMul, Int.reduceNeg, T_ok3, T_agg3, T_isinfo3, T_info3, T_cells3, T_zero3, T_int3, T_ok84, T_agg84, T_isinfo84, T_info84, T_cells84, T_zero84, T_elem84, T_under84, T_len84s, T_len84n, T_len84b, T_ok92, T_agg92, T_isinfo92, T_info92, T_cells92, T_zero92, T_int92]
      refine le_of (θ := [(1000000, 1000000), (102, 102)]) rfl ?_ ?_
      · simp [varsLe, lkp, ren1, ren0]
      · simp [boxesLe, lkp, Box.renames]
end Go.Proofs.YtkgkebhlpjenaaaGreatDoor

namespace Go.Proofs.YtkgkebhlpjenaaaGreatDoor
open Go.Vl Go.RowKit Go.Dg

attribute [local go_sem high] b_oru
theorem tdiv64 (n : Nat) : Int.tdiv (n : Int) 64 = ((n / 64 : Nat) : Int) := tdivN n 64
theorem tmod64 (n : Nat) : Int.tmod (n : Int) 64 = ((n % 64 : Nat) : Int) := tmodN n 64
theorem wshl_v (a k : Nat) (ha : (digs BW a).length ≤ 1000000000) (hk : k ≤ 1000000000) : SoundAt Tryz.prog 63 [dw (digs BW a), .int .i64 (k : Int)] (dw (digs BW (a * 2 ^ k))) := by
  refine sound_go (tb := []) 56 [.tmp 4] [0, 1, 4, 5, 6, 7, 8, 9, 12, 23, 24, 25, 26, 42] mixed Tryz.func63 rfl (by kernel_rfl) (by kernel_rfl) (by kernel_rfl) (by kernel_rfl) ?_
  by_cases h0 : a = 0
  · subst h0
    have h1 : (((0 : Nat) : Int) == 0) = true := rfl
    rw [Nat.zero_mul, digs_zero]
    simp -implicitDefEqProofs only [go_sem, Nat.reduceAdd, Nat.reduceMul, Nat.reduceEqDiff, Nat.reduceLT, Nat.reduceLeDiff, Nat.reduceSub, Nat.reduceBEq, reduceIte, reduceCtorEq, Int.reduceEq, Int.reduceNe, Nat.reduceBneDiff, Int.reduceLE, Int.reduceLT, Int.reduceToNat, Int.reduceAdd, Int.reduceSub, Int.reduceMul, Int.reduceNeg, T_ok3, T_agg3, T_isinfo3, T_info3, T_cells3, T_zero3, T_int3, T_ok84, T_agg84, T_isinfo84, T_info84, T_cells84, T_zero84, T_elem84, T_under84, T_len84s, T_len84n, T_len84b, T_ok92, T_agg92, T_isinfo92, T_info92, T_cells92, T_zero92, T_int92, dw, List.map_nil, List.length_nil, h1]
  have hp : 0 < (digs BW a).length := List.length_pos_iff.2 (mt (digs_eq_nil BW_2).1 h0)
  have h1 : (((digs BW a).length : Int) == 0) = false := by simp only [beq_eq_false_iff_ne, ne_eq]; omega
  have hlt : a < BW ^ (digs BW a).length := lt_pow_len BW_2 a
  obtain ⟨W, hW⟩ : ∃ W, W = k / 64 := ⟨_, rfl⟩
  obtain ⟨r, hr⟩ : ∃ r, r = k % 64 := ⟨_, rfl⟩
  have hr64 : r < 64 := by rw [hr]; exact Nat.mod_lt _ (by decide)
  have hkr : k = 64 * W + r := by omega
  have d1 : Int.tdiv (k : Int) 64 = (W : Int) := by rw [tdiv64, hW]
  have d2 : Int.tmod (k : Int) 64 = (r : Int) := by rw [tmod64, hr]
  have hWl : W ≤ 1000000000 := by omega
  clear hW hr
  generalize hN : (digs BW a).length = N at *
  have q1 := wrapn (n := W) (by omega)
  have q2 := wrap_add (a := N) (b := W) (by omega)
  have q3 := wrap_add1 (a := N + W) (by omega)
  have hn0 : ((0 : Int) ≤ ((N + W + 1 : Nat) : Int)) = True := by simp only [eq_iff_iff, iff_true]; omega
  have hn1 : ((8 : Nat) : Int) * ((N + W + 1 : Nat) : Int) ≤ 281474976710656 := by omega
  have hn2 : ((N + W + 1 : Nat) : Int) ≤ 9223372036854775807 := by omega
  simp -implicitDefEqProofs only [go_sem, Nat.reduceAdd, Nat.reduceMul, Nat.reduceEqDiff, Nat.reduceLT, Nat.reduceLeDiff, Nat.reduceSub, Nat.reduceBEq, reduceIte, reduceCtorEq, Int.reduceEq, Int.reduceNe, Nat.reduceBneDiff, Int.reduceLE, Int.reduceLT, Int.reduceToNat, Int.reduceAdd, Int.reduceSub, Int.reduceMul, Int.reduceNeg, T_ok3, T_agg3, T_isinfo3, T_info3, T_cells3, T_zero3, T_int3, T_ok84, T_agg84, T_isinfo84, T_info84, T_cells84, T_zero84, T_elem84, T_under84, T_len84s, T_len84n, T_len84b, T_ok92, T_agg92, T_isinfo92, T_info92, T_cells92, T_zero92, T_int92, dw, List.length_map, hN, h1, d1, d2, q1, q2, q3, hn0, hn1, hn2, Int.toNat_natCast]
  have hrep : List.replicate (N + W + 1) (PV.int .u64 0) = (lows BW (shlV a W r 0) (N + W + 1)).map fW := by rw [shlV_zero, lows_zero']; simp
  rw [hrep]
  have k1 : (((r : Nat) : Int) < 0) = False := by simp only [eq_iff_iff, iff_false]; omega
  have k2 : min r 64 = r := by omega
  have k3 : IntKind.i64.wrap (64 - ((r : Nat) : Int)) = ((64 - r : Nat) : Int) := by rw [wrap_i64 (by omega) (by omega)]; omega
  have k4 : ((((64 - r : Nat) : Nat) : Int) < 0) = False := by simp only [eq_iff_iff, iff_false]; omega
  have k5 : min (64 - r) 64 = 64 - r := by omega
  refine g_loop mixed (fun i : { i : Nat // i ≤ N } => St.of [(4, .nilS), (5, .int .i64 (W : Int)), (6, .int .i64 (r : Int)), (7, .bs 405 1 0 (N + W + 1)), (23, dw (digs BW a)), (24, .int .i64 (N : Int)), (25, .int .i64 (i.1 : Int))]
    [(405, { els := (lows BW (shlV a W r i.1) (N + W + 1)).map fW, esz := 1, ety := 92, fro := 0, live := true, arr := true })]) (fun i => N - i.1) ⟨0, Nat.zero_le _⟩ ?_ ?_
  · refine le_of (θ := [(405, 405)]) rfl ?_ ?_
    · simp [varsLe, lkp, ren1, ren0, dw]
    · simp [boxesLe, lkp, Box.renames]
  · rintro ⟨i, hi⟩
    have hll := lows_length (B := BW) (shlV a W r i) (N + W + 1)
    by_cases hA : i < N
    · have hA' : ((i : Int) < (N : Int)) = True := by simp; omega
      have hi0 : (0 ≤ (i : Int)) = True := by simp
      have hga := digs_get_lt BW_2 (show i < (digs BW a).length by omega)
      have hwk := wrap_add1 (a := i) (by omega)
      have w1 := wrap_add (a := i) (b := W) (by omega)
      have w2 := wrap_add1 (a := i + W) (by omega)
      have b1 : (0 ≤ ((i + W : Nat) : Int)) = True := by simp only [eq_iff_iff, iff_true]; omega
      have b2 : (((i + W : Nat) : Int) < ((N + W + 1 : Nat) : Int)) = True := by simp only [eq_iff_iff, iff_true]; omega
      have b3 : (0 ≤ ((i + W + 1 : Nat) : Int)) = True := by simp only [eq_iff_iff, iff_true]; omega
      have b4 : (((i + W + 1 : Nat) : Int) < ((N + W + 1 : Nat) : Int)) = True := by simp only [eq_iff_iff, iff_true]; omega
      have hgo : ((lows BW (shlV a W r i) (N + W + 1)).map fW)[i + W]? = some (PV.int .u64 ((shlC a r i : Nat) : Int)) := by
        rw [List.getElem?_map, lows_get _ _ _ (by omega), shlC_digit a W r i (by omega)]; rfl
      have hc2 : shlC a r i % 18446744073709551616 = shlC a r i := Nat.mod_eq_of_lt (Nat.lt_of_lt_of_le (shlC_lt a r i) (show 2 ^ r ≤ 18446744073709551616 from Nat.pow_le_pow_right (n := 2) (by decide) (show r ≤ 64 by omega)))
      by_cases hr0 : r = 0
      · subst hr0
        have g0 : ((0 : Int) < (((0 : Nat) : Nat) : Int)) = False := by simp
        have hset := shl_set1 a W i (N + W + 1) (by omega)
        have hc0 : shlC a 0 i = 0 := by have := shlC_lt a 0 i; simp at this; exact this
        have hval : (0 ||| a / BW ^ i % BW * 2 ^ 0 % 18446744073709551616) = a / BW ^ i % BW := by
          rw [Nat.zero_or, Nat.pow_zero, Nat.mul_one, show (18446744073709551616 : Nat) = BW from rfl, Nat.mod_mod]
        simp -implicitDefEqProofs only [go_sem, Nat.reduceAdd, Nat.reduceMul, Nat.reduceEqDiff, Nat.reduceLT, Nat.reduceLeDiff, Nat.reduceSub, Nat.reduceBEq, reduceIte, reduceCtorEq, Int.reduceEq, Int.reduceNe, Nat.reduceBneDiff, Int.reduceLE, Int.reduceLT, Int.reduceToNat, Int.reduceAdd, Int.reduceSub, Int.reduceMul, Int.reduceNeg, T_ok3, T_agg3, T_isinfo3, T_info3, T_cells3, T_zero3, T_int3, T_ok84, T_agg84, T_isinfo84, T_info84, T_cells84, T_zero84, T_elem84, T_under84, T_len84s, T_len84n, T_len84b, T_ok92, T_agg92, T_isinfo92, T_info92, T_cells92, T_zero92, T_int92, dw, hA', hi0, dw_get, hga, Int.toNat_natCast, w1, w2, b1, b2, hgo, k1, k2, g0, List.length_map, hll, hc0, shl_u64, hwk, Nat.mod_mod, Nat.zero_mod]
        refine ⟨drawQ_true _ _ (by kernel_rfl), ⟨i + 1, hA⟩, by simp only; omega, le_of (θ := [(405, 405)]) rfl ?_ ?_⟩
        · simp [varsLe, lkp, ren1, ren0, dw]
        · rw [hval, set_fW, hset]
          simp [boxesLe, lkp, Box.renames]
      · have g0 : ((0 : Int) < ((r : Nat) : Int)) = True := by simp only [eq_iff_iff, iff_true]; omega
        have hset := shl_set2 a W r i (N + W + 1) (by omega) (by omega)
        obtain ⟨e, hgo2⟩ : ∃ e : Nat, (((lows BW (shlV a W r i) (N + W + 1)).map fW).set (i + W) (.int .u64 ((shlC a r i ||| (a / BW ^ i % BW * 2 ^ r % 18446744073709551616) : Nat) : Int)))[i + W + 1]? = some (PV.int .u64 (e : Int)) := by
          rw [set_fW, List.getElem?_map]
          refine ⟨_, by rw [List.getElem?_set_ne (by omega), lows_get _ _ _ (by omega)]; rfl⟩
        simp -implicitDefEqProofs only [go_sem, Nat.reduceAdd, Nat.reduceMul, Nat.reduceEqDiff, Nat.reduceLT, Nat.reduceLeDiff, Nat.reduceSub, Nat.reduceBEq, reduceIte, reduceCtorEq, Int.reduceEq, Int.reduceNe, Nat.reduceBneDiff, Int.reduceLE, Int.reduceLT, Int.reduceToNat, Int.reduceAdd, Int.reduceSub, Int.reduceMul, Int.reduceNeg, T_ok3, T_agg3, T_isinfo3, T_info3, T_cells3, T_zero3, T_int3, T_ok84, T_agg84, T_isinfo84, T_info84, T_cells84, T_zero84, T_elem84, T_under84, T_len84s, T_len84n, T_len84b, T_ok92, T_agg92, T_isinfo92, T_info92, T_cells92, T_zero92, T_int92, dw, hA', hi0, dw_get, hga, Int.toNat_natCast, w1, w2, b1, b2, b3, b4, hgo, k1, k2, k3, k4, k5, g0, List.length_map, hll, hc2, shl_u64, fdivK, hwk, List.length_set, hgo2, Nat.mod_mod]
        refine ⟨drawQ_true _ _ (by kernel_rfl), ⟨i + 1, hA⟩, by simp only; omega, le_of (θ := [(405, 405)]) rfl ?_ ?_⟩
        · simp [varsLe, lkp, ren1, ren0, dw]
        · rw [set_fW, set_fW, hset]
          simp [boxesLe, lkp, Box.renames]
    · have hA' : ((i : Int) < (N : Int)) = False := by simp; omega
      obtain rfl : i = N := by omega
      have hV := shlV_done a W r i hlt
      rw [← hkr] at hV
      rw [hV] at hll
      have htk : ((lows BW (a * 2 ^ k) (i + W + 1)).map fW).take (i + W + 1) = (lows BW (a * 2 ^ k) (i + W + 1)).map fW := List.take_of_length_le (by simp [hll])
      simp -implicitDefEqProofs only [go_sem, Nat.reduceAdd, Nat.reduceMul, Nat.reduceEqDiff, Nat.reduceLT, Nat.reduceLeDiff, Nat.reduceSub, Nat.reduceBEq, reduceIte, reduceCtorEq, Int.reduceEq, Int.reduceNe, Nat.reduceBneDiff, Int.reduceLE, Int.reduceLT, Int.reduceToNat, Int.reduceAdd, Int.reduceSub, Int.reduceMul, Int.reduceNeg, T_ok3, T_agg3, T_isinfo3, T_info3, T_cells3, T_zero3, T_int3, T_ok84, T_agg84, T_isinfo84, T_info84, T_cells84, T_zero84, T_elem84, T_under84, T_len84s, T_len84n, T_len84b, T_ok92, T_agg92, T_isinfo92, T_info92, T_cells92, T_zero92, T_int92, hA', hV, List.length_map, hll, htk]
      refine gcall_intro _ _ _ _ _ _ _ _ _ (wtrim_v (lows BW (a * 2 ^ k) (i + W + 1)) (by rw [hll]; simp [maxLen]; omega)) ?_
      simp -implicitDefEqProofs only [go_sem, Nat.reduceAdd, Nat.reduceMul, Nat.reduceEqDiff, Nat.reduceLT, Nat.reduceLeDiff, Nat.reduceSub, Nat.reduceBEq, reduceIte, reduceCtorEq, Int.reduceEq, Int.reduceNe, Nat.reduceBneDiff, Int.reduceLE, Int.reduceLT, Int.reduceToNat, Int.reduceAdd, Int.reduceSub, Int.reduceMul, Int.reduceNeg, T_ok3, T_agg3, T_isinfo3, T_info3, T_cells3, T_zero3, T_int3, T_ok84, T_agg84, T_isinfo84, T_info84, T_cells84, T_zero84, T_elem84, T_under84, T_len84s, T_len84n, T_len84b, T_ok92, T_agg92, T_isinfo92, T_info92, T_cells92, T_zero92, T_int92, dw]
      rw [trimZ_lows BW_2, Nat.mod_eq_of_lt]
      rw [Nat.add_assoc, Nat.pow_add]
      have h2 : 2 ^ k < BW ^ (W + 1) := by
        rw [show BW = 2 ^ 64 from rfl, ← Nat.pow_mul]
        exact Nat.pow_lt_pow_right (by decide) (by omega)
      exact Nat.lt_of_lt_of_le (Nat.mul_lt_mul_of_pos_right hlt (Nat.pow_pos (by decide))) (Nat.mul_le_mul_left _ (Nat.le_of_lt h2))
end Go.Proofs.YtkgkebhlpjenaaaGreatDoor

namespace Go.Proofs.YtkgkebhlpjenaaaGreatDoor
open Go.Vl Go.RowKit Go.Dg

theorem fW_ok (l : List Nat) : ((l.map fW).all fun e => e.cells.length == 1 && e.cells.all PV.okCell) = true := by
  rw [List.all_map, List.all_eq_true]; intro _ _; rfl
theorem wclone_v (l : List Nat) (hl : 0 < l.length) (hl2 : l.length ≤ 1000000000) : SoundB Tryz.prog 136 [dw l] [] (.bs 302 1 0 l.length) [(302, wB l)] := by
  have h0 : l.isEmpty = false := by cases l with | nil => simp at hl | cons => rfl
  have h1 : (l.length * 8 ≤ 140737488355328) = True := by simp only [eq_iff_iff, iff_true]; omega
  have h2 : (l.length ≤ maxLen) = True := by simp only [eq_iff_iff, iff_true]; unfold maxLen; omega
  refine soundB_go (tb := []) 8 [.tmp 2] [0, 2, 4] mixed Tryz.func136 rfl (by kernel_rfl) (by kernel_rfl) (by kernel_rfl) (by kernel_rfl) (by rfl) ?_
  simp -implicitDefEqProofs only [go_sem, Nat.reduceAdd, Nat.reduceMul, Nat.reduceEqDiff, Nat.reduceLT, Nat.reduceLeDiff, Nat.reduceSub, Nat.reduceBEq, reduceIte, reduceCtorEq, Int.reduceEq, Int.reduceNe, Nat.reduceBneDiff, Int.reduceLE, Int.reduceLT, Int.reduceToNat, Int.reduceAdd, Int.reduceSub, Int.reduceMul, Int.reduceNeg, T_ok84, T_agg84, T_isinfo84, T_info84, T_cells84, T_zero84, T_elem84, T_under84, T_len84s, T_len84n, T_len84b, T_ok92, T_agg92, T_isinfo92, T_info92, T_cells92, T_zero92, T_int92, dw, h0, List.length_map, h1, h2, fW_ok]
  refine vretB_back (.inl rfl) ?_
  simp -implicitDefEqProofs only [go_sem, Nat.reduceAdd, Nat.reduceMul, Nat.reduceEqDiff, Nat.reduceLT, Nat.reduceLeDiff, Nat.reduceSub, Nat.reduceBEq, reduceIte, reduceCtorEq, Int.reduceEq, Int.reduceNe, Nat.reduceBneDiff, Int.reduceLE, Int.reduceLT, Int.reduceToNat, Int.reduceAdd, Int.reduceSub, Int.reduceMul, Int.reduceNeg, T_ok84, T_agg84, T_isinfo84, T_info84, T_cells84, T_zero84, T_elem84, T_under84, T_len84s, T_len84n, T_len84b, T_ok92, T_agg92, T_isinfo92, T_info92, T_cells92, T_zero92, T_int92, List.length_map]
  refine le_of (θ := [(302, 302)]) rfl ?_ ?_
  · simp [varsLe, lkp, ren1, ren0]
  · simp [boxesLe, lkp, Box.renames]

attribute [local go_sem high] b_oru
theorem wshr_v (a k : Nat) (ha : (digs BW a).length ≤ 1000000000) (hk : k ≤ 1000000000) : SoundAt Tryz.prog 119 [dw (digs BW a), .int .i64 (k : Int)] (dw (digs BW (a / 2 ^ k))) := by
  have hlt : a < BW ^ (digs BW a).length := lt_pow_len BW_2 a
  obtain ⟨W, hW⟩ : ∃ W, W = k / 64 := ⟨_, rfl⟩
  obtain ⟨r, hr⟩ : ∃ r, r = k % 64 := ⟨_, rfl⟩
  have hr64 : r < 64 := by rw [hr]; exact Nat.mod_lt _ (by decide)
  have hkr : k = 64 * W + r := by omega
  have d1 : Int.tdiv (k : Int) 64 = (W : Int) := by rw [tdiv64, hW]
  have d2 : Int.tmod (k : Int) 64 = (r : Int) := by rw [tmod64, hr]
  have hWl : W ≤ 1000000000 := by omega
  clear hW hr
  have q1 := wrapn (n := W) (by omega)
  have hpk : 2 ^ k = BW ^ W * 2 ^ r := by rw [hkr, Nat.pow_add, Nat.pow_mul]
  have hq : a / 2 ^ k = a / BW ^ W / 2 ^ r := by rw [hpk, Nat.div_div_eq_div_mul]
  
  refine sound_go (tb := [(403, [], [(302, 403)])]) 59 [.tmp 4] [0, 1, 4, 5, 6, 7, 8, 16, 22, 24, 25, 26, 39] mixed Tryz.func119 rfl (by kernel_rfl) (by kernel_rfl) (by kernel_rfl) (by kernel_rfl) ?_
  by_cases hN : (digs BW a).length ≤ W
  · have g1 : (((digs BW a).length : Int) ≤ (W : Int)) = True := by simp only [eq_iff_iff, iff_true]; omega
    have e : digs BW (a / 2 ^ k) = [] := by
      rw [hq, digit_beyond BW_2 hN, Nat.zero_div, digs_zero]
    rw [e]
    simp -implicitDefEqProofs only [go_sem, Nat.reduceAdd, Nat.reduceMul, Nat.reduceEqDiff, Nat.reduceLT, Nat.reduceLeDiff, Nat.reduceSub, Nat.reduceBEq, reduceIte, reduceCtorEq, Int.reduceEq, Int.reduceNe, Nat.reduceBneDiff, Int.reduceLE, Int.reduceLT, Int.reduceToNat, Int.reduceAdd, Int.reduceSub, Int.reduceMul, Int.reduceNeg, T_ok3, T_agg3, T_isinfo3, T_info3, T_cells3, T_zero3, T_int3, T_ok84, T_agg84, T_isinfo84, T_info84, T_cells84, T_zero84, T_elem84, T_under84, T_len84s, T_len84n, T_len84b, T_ok92, T_agg92, T_isinfo92, T_info92, T_cells92, T_zero92, T_int92, dw, List.length_map, d1, d2, q1, g1, List.map_nil]
  have g1 : (((digs BW a).length : Int) ≤ (W : Int)) = False := by simp only [eq_iff_iff, iff_false]; omega
  have hA0 : ∀ j, a / BW ^ (W + j) = a / BW ^ W / BW ^ j := fun j => by rw [Nat.pow_add, Nat.div_div_eq_div_mul]
  have hn0 : (0 ≤ (W : Int)) = True := by simp
  have hn1 : ((W : Int) ≤ ((digs BW a).length : Int)) = True := by simp only [eq_iff_iff, iff_true]; omega
  have hsl : (((digs BW a).map fW).take (digs BW a).length).drop W = (lows BW (a / BW ^ W) ((digs BW a).length - W)).map fW := by
    rw [List.take_of_length_le (by simp), ← List.map_drop]
    congr 1
    apply List.ext_getElem?
    intro j
    rw [List.getElem?_drop]
    by_cases hj : W + j < (digs BW a).length
    · rw [digs_get_lt BW_2 hj, lows_get _ _ _ (by omega), hA0]
    · rw [List.getElem?_eq_none (by omega), List.getElem?_eq_none (by rw [lows_length]; omega)]
  have hcell := dw_all (digs BW a)
  have hAlt : a / BW ^ W < BW ^ ((digs BW a).length - W) := by
    refine Nat.div_lt_of_lt_mul ?_
    rw [← Nat.pow_add, show W + ((digs BW a).length - W) = (digs BW a).length by omega]
    exact hlt
  have hll := lows_length (B := BW) (a / BW ^ W) ((digs BW a).length - W)
  simp -implicitDefEqProofs only [go_sem, Nat.reduceAdd, Nat.reduceMul, Nat.reduceEqDiff, Nat.reduceLT, Nat.reduceLeDiff, Nat.reduceSub, Nat.reduceBEq, reduceIte, reduceCtorEq, Int.reduceEq, Int.reduceNe, Nat.reduceBneDiff, Int.reduceLE, Int.reduceLT, Int.reduceToNat, Int.reduceAdd, Int.reduceSub, Int.reduceMul, Int.reduceNeg, T_ok3, T_agg3, T_isinfo3, T_info3, T_cells3, T_zero3, T_int3, T_ok84, T_agg84, T_isinfo84, T_info84, T_cells84, T_zero84, T_elem84, T_under84, T_len84s, T_len84n, T_len84b, T_ok92, T_agg92, T_isinfo92, T_info92, T_cells92, T_zero92, T_int92, dw, List.length_map, d1, d2, q1, g1, hn0, hn1, Int.toNat_natCast, hsl, hcell]
  refine gcallB_intro _ _ _ _ _ _ _ _ _ (wclone_v (lows BW (a / BW ^ W) ((digs BW a).length - W)) (by rw [hll]; omega) (by rw [hll]; omega)) ?_
  rw [hll]
  by_cases hr0 : r = 0
  · subst hr0
    have g0 : ((0 : Int) < (((0 : Nat) : Nat) : Int)) = False := by simp
    have htk : ((lows BW (a / BW ^ W) ((digs BW a).length - W)).map fW).take ((digs BW a).length - W) = (lows BW (a / BW ^ W) ((digs BW a).length - W)).map fW := List.take_of_length_le (by simp [hll])
    simp -implicitDefEqProofs only [go_sem, Nat.reduceAdd, Nat.reduceMul, Nat.reduceEqDiff, Nat.reduceLT, Nat.reduceLeDiff, Nat.reduceSub, Nat.reduceBEq, reduceIte, reduceCtorEq, Int.reduceEq, Int.reduceNe, Nat.reduceBneDiff, Int.reduceLE, Int.reduceLT, Int.reduceToNat, Int.reduceAdd, Int.reduceSub, Int.reduceMul, Int.reduceNeg, T_ok3, T_agg3, T_isinfo3, T_info3, T_cells3, T_zero3, T_int3, T_ok84, T_agg84, T_isinfo84, T_info84, T_cells84, T_zero84, T_elem84, T_under84, T_len84s, T_len84n, T_len84b, T_ok92, T_agg92, T_isinfo92, T_info92, T_cells92, T_zero92, T_int92, wB, g0, List.length_map, hll, htk]
    refine gcall_intro _ _ _ _ _ _ _ _ _ (wtrim_v (lows BW (a / BW ^ W) ((digs BW a).length - W)) (by rw [hll]; simp [maxLen]; omega)) ?_
    simp -implicitDefEqProofs only [go_sem, Nat.reduceAdd, Nat.reduceMul, Nat.reduceEqDiff, Nat.reduceLT, Nat.reduceLeDiff, Nat.reduceSub, Nat.reduceBEq, reduceIte, reduceCtorEq, Int.reduceEq, Int.reduceNe, Nat.reduceBneDiff, Int.reduceLE, Int.reduceLT, Int.reduceToNat, Int.reduceAdd, Int.reduceSub, Int.reduceMul, Int.reduceNeg, T_ok3, T_agg3, T_isinfo3, T_info3, T_cells3, T_zero3, T_int3, T_ok84, T_agg84, T_isinfo84, T_info84, T_cells84, T_zero84, T_elem84, T_under84, T_len84s, T_len84n, T_len84b, T_ok92, T_agg92, T_isinfo92, T_info92, T_cells92, T_zero92, T_int92, dw]
    rw [trimZ_lows BW_2, Nat.mod_eq_of_lt hAlt, hq, Nat.pow_zero, Nat.div_one]
  · have g0 : ((0 : Int) < ((r : Nat) : Int)) = True := by simp only [eq_iff_iff, iff_true]; omega
    simp -implicitDefEqProofs only [go_sem, Nat.reduceAdd, Nat.reduceMul, Nat.reduceEqDiff, Nat.reduceLT, Nat.reduceLeDiff, Nat.reduceSub, Nat.reduceBEq, reduceIte, reduceCtorEq, Int.reduceEq, Int.reduceNe, Nat.reduceBneDiff, Int.reduceLE, Int.reduceLT, Int.reduceToNat, Int.reduceAdd, Int.reduceSub, Int.reduceMul, Int.reduceNeg, T_ok3, T_agg3, T_isinfo3, T_info3, T_cells3, T_zero3, T_int3, T_ok84, T_agg84, T_isinfo84, T_info84, T_cells84, T_zero84, T_elem84, T_under84, T_len84s, T_len84n, T_len84b, T_ok92, T_agg92, T_isinfo92, T_info92, T_cells92, T_zero92, T_int92, wB, g0]
    have hdig := fun (j : Nat) (h : W + j < (digs BW a).length) => digs_get_lt (n := a) BW_2 h
    generalize hn : (digs BW a).length - W = n at *
    have hNn : (digs BW a).length = W + n := by omega
    have k1 : (((r : Nat) : Int) < 0) = False := by simp only [eq_iff_iff, iff_false]; omega
    have k2 : min r 64 = r := by omega
    have k3 : IntKind.i64.wrap (64 - ((r : Nat) : Int)) = ((64 - r : Nat) : Int) := by rw [wrap_i64 (by omega) (by omega)]; omega
    have k4 : ((((64 - r : Nat) : Nat) : Int) < 0) = False := by simp only [eq_iff_iff, iff_false]; omega
    have k5 : min (64 - r) 64 = 64 - r := by omega
    rw [hq]
    generalize hAA : a / BW ^ W = A at *
    refine g_loop mixed (fun i : { i : Nat // i ≤ n } => St.of [(0, dw (digs BW a)), (4, .nilS), (5, .int .i64 (W : Int)), (6, .int .i64 (r : Int)), (7, .bs 403 1 0 n), (24, .int .i64 (n : Int)), (25, .int .i64 (i.1 : Int))]
      [(403, wB (mix BW (A / 2 ^ r) A n i.1))]) (fun i => n - i.1) ⟨0, Nat.zero_le _⟩ ?_ ?_
    · refine le_of (θ := [(403, 403)]) rfl ?_ ?_
      · simp [varsLe, lkp, ren1, ren0, dw]
      · simp [boxesLe, lkp, Box.renames, mix_none]
    · rintro ⟨i, hi⟩
      have hml := mix_length (B := BW) (A / 2 ^ r) A n i
      by_cases hA : i < n
      · have hA' : ((i : Int) < (n : Int)) = True := by simp; omega
        have hi0 : (0 ≤ (i : Int)) = True := by simp
        have hwk := wrap_add1 (a := i) (by omega)
        have hgo : ((mix BW (A / 2 ^ r) A n i).map fW)[i]? = some (PV.int .u64 ((A / BW ^ i % BW : Nat) : Int)) := by
          rw [List.getElem?_map, mix_get _ _ _ _ _ hA, if_neg (Nat.lt_irrefl _)]; rfl
        by_cases hB : i + 1 < n
        · have hB' : (((i + 1 : Nat) : Int) < (n : Int)) = True := by simp only [eq_iff_iff, iff_true]; omega
          have hsd := shr_digit A i r (by omega) hr64
          have hset := mix_set (B := BW) (V := A / 2 ^ r) (W := A / 2 ^ r) (S := A) (n := n) (m := i) (by decide) hA rfl rfl
          have hga : (digs BW a)[W + i + 1]? = some (A / BW ^ (i + 1) % BW) := by
            have h := hdig (i + 1) (by omega)
            rw [hA0 (i + 1)] at h
            exact h
          have w1 := wrap_add (a := W) (b := i) (by omega)
          have w2 := wrap_add1 (a := W + i) (by omega)
          have b1 : (0 ≤ ((W + i + 1 : Nat) : Int)) = True := by simp only [eq_iff_iff, iff_true]; omega
          have hgo2 : (((mix BW (A / 2 ^ r) A n i).map fW).set i (.int .u64 ((A / BW ^ i % BW / 2 ^ r : Nat) : Int)))[i]? = some (PV.int .u64 ((A / BW ^ i % BW / 2 ^ r : Nat) : Int)) := by
            rw [List.getElem?_set_self (by rw [List.length_map, hml]; exact hA)]
          have e1 : A / BW ^ i % BW / 2 ^ r % 18446744073709551616 = A / BW ^ i % BW / 2 ^ r := Nat.mod_eq_of_lt (Nat.lt_of_le_of_lt (Nat.div_le_self _ _) (Nat.mod_lt _ (by decide)))
          simp -implicitDefEqProofs only [go_sem, Nat.reduceAdd, Nat.reduceMul, Nat.reduceEqDiff, Nat.reduceLT, Nat.reduceLeDiff, Nat.reduceSub, Nat.reduceBEq, reduceIte, reduceCtorEq, Int.reduceEq, Int.reduceNe, Nat.reduceBneDiff, Int.reduceLE, Int.reduceLT, Int.reduceToNat, Int.reduceAdd, Int.reduceSub, Int.reduceMul, Int.reduceNeg, T_ok3, T_agg3, T_isinfo3, T_info3, T_cells3, T_zero3, T_int3, T_ok84, T_agg84, T_isinfo84, T_info84, T_cells84, T_zero84, T_elem84, T_under84, T_len84s, T_len84n, T_len84b, T_ok92, T_agg92, T_isinfo92, T_info92, T_cells92, T_zero92, T_int92, wB, dw, hA', hi0, Int.toNat_natCast, List.length_map, hml, hgo, k1, k2, fdivK, hwk, hB', List.length_set, hgo2, w1, w2, b1, dw_get, hga, k3, k4, k5, shl_u64, Nat.mod_mod, e1, List.set_set]
          refine ⟨drawQ_true _ _ (by kernel_rfl), ⟨i + 1, hA⟩, by simp only; omega, le_of (θ := [(403, 403)]) rfl ?_ ?_⟩
          · simp [varsLe, lkp, ren1, ren0, dw]
          · simp only [WB] at hsd
            rw [set_fW, hsd, hset]
            simp [boxesLe, lkp, Box.renames]
        · have hB' : (((i + 1 : Nat) : Int) < (n : Int)) = False := by simp only [eq_iff_iff, iff_false]; omega
          have hsd := shr_top A i r (by rw [show i + 1 = n by omega]; exact Nat.div_eq_of_lt hAlt)
          have hset := mix_set (B := BW) (V := A / 2 ^ r) (W := A / 2 ^ r) (S := A) (n := n) (m := i) (by decide) hA rfl rfl
          simp -implicitDefEqProofs only [go_sem, Nat.reduceAdd, Nat.reduceMul, Nat.reduceEqDiff, Nat.reduceLT, Nat.reduceLeDiff, Nat.reduceSub, Nat.reduceBEq, reduceIte, reduceCtorEq, Int.reduceEq, Int.reduceNe, Nat.reduceBneDiff, Int.reduceLE, Int.reduceLT, Int.reduceToNat, Int.reduceAdd, Int.reduceSub, Int.reduceMul, Int.reduceNeg, T_ok3, T_agg3, T_isinfo3, T_info3, T_cells3, T_zero3, T_int3, T_ok84, T_agg84, T_isinfo84, T_info84, T_cells84, T_zero84, T_elem84, T_under84, T_len84s, T_len84n, T_len84b, T_ok92, T_agg92, T_isinfo92, T_info92, T_cells92, T_zero92, T_int92, wB, dw, hA', hi0, Int.toNat_natCast, List.length_map, hml, hgo, k1, k2, fdivK, hwk, hB', List.length_set]
          refine ⟨⟨i + 1, hA⟩, by simp only; omega, le_of (θ := [(403, 403)]) rfl ?_ ?_⟩
          · simp [varsLe, lkp, ren1, ren0, dw]
          · simp only [WB] at hsd
            rw [set_fW, hsd, hset]
            simp [boxesLe, lkp, Box.renames]
      · have hA' : ((i : Int) < (n : Int)) = False := by simp; omega
        obtain rfl : i = n := by omega
        have hm : mix BW (A / 2 ^ r) A i i = lows BW (A / 2 ^ r) i := mix_full _ _ _ _
        have hl2 := lows_length (B := BW) (A / 2 ^ r) i
        have htk : ((lows BW (A / 2 ^ r) i).map fW).take i = (lows BW (A / 2 ^ r) i).map fW := List.take_of_length_le (by simp [hl2])
        simp -implicitDefEqProofs only [go_sem, Nat.reduceAdd, Nat.reduceMul, Nat.reduceEqDiff, Nat.reduceLT, Nat.reduceLeDiff, Nat.reduceSub, Nat.reduceBEq, reduceIte, reduceCtorEq, Int.reduceEq, Int.reduceNe, Nat.reduceBneDiff, Int.reduceLE, Int.reduceLT, Int.reduceToNat, Int.reduceAdd, Int.reduceSub, Int.reduceMul, Int.reduceNeg, T_ok3, T_agg3, T_isinfo3, T_info3, T_cells3, T_zero3, T_int3, T_ok84, T_agg84, T_isinfo84, T_info84, T_cells84, T_zero84, T_elem84, T_under84, T_len84s, T_len84n, T_len84b, T_ok92, T_agg92, T_isinfo92, T_info92, T_cells92, T_zero92, T_int92, wB, hA', hm, List.length_map, hl2, htk]
        refine gcall_intro _ _ _ _ _ _ _ _ _ (wtrim_v (lows BW (A / 2 ^ r) i) (by rw [hl2]; simp [maxLen]; omega)) ?_
        simp -implicitDefEqProofs only [go_sem, Nat.reduceAdd, Nat.reduceMul, Nat.reduceEqDiff, Nat.reduceLT, Nat.reduceLeDiff, Nat.reduceSub, Nat.reduceBEq, reduceIte, reduceCtorEq, Int.reduceEq, Int.reduceNe, Nat.reduceBneDiff, Int.reduceLE, Int.reduceLT, Int.reduceToNat, Int.reduceAdd, Int.reduceSub, Int.reduceMul, Int.reduceNeg, T_ok3, T_agg3, T_isinfo3, T_info3, T_cells3, T_zero3, T_int3, T_ok84, T_agg84, T_isinfo84, T_info84, T_cells84, T_zero84, T_elem84, T_under84, T_len84s, T_len84n, T_len84b, T_ok92, T_agg92, T_isinfo92, T_info92, T_cells92, T_zero92, T_int92, dw]
        rw [trimZ_lows BW_2, Nat.mod_eq_of_lt (Nat.lt_of_le_of_lt (Nat.div_le_self _ _) hAlt)]
end Go.Proofs.YtkgkebhlpjenaaaGreatDoor
