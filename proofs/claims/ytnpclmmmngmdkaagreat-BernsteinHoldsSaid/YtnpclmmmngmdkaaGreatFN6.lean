/-
  FN4, Du, FN5, FK3, FN3, FP4, FN6 (merged for the claim).
-/
import Derived.Test.YtnpclmmmngmdkaaGreatFP3
set_option linter.unusedSimpArgs false
set_option linter.unusedVariables false
namespace Go.Proofs.YtnpclmmmngmdkaaGreat
open Go.Vl Go.RowKit Go.Dg

theorem i64_p2 {n : Int} (h1 : -9223372036854775808 ≤ n) (h2 : n ≤ 9223372036854775807) : n.natAbs < 2 ^ 64 := by
  have : (2 : Nat) ^ 64 = 18446744073709551616 := rfl
  omega
theorem ll_v (l : List Int) (hl : l.length ≤ 1000) (hb : ∀ x ∈ l, -9223372036854775808 ≤ x ∧ x ≤ 9223372036854775807) : SoundAt Tryz.prog 37 [intsL l] (wL l) := by
  refine sound_go (tb := []) 20 [.tmp 2] [0, 2, 3, 5, 6, 7, 8, 9] mixed Tryz.func37 rfl (by kernel_rfl) (by kernel_rfl) (by kernel_rfl) (by kernel_rfl) ?_
  simp -implicitDefEqProofs only [go_sem, Nat.reduceAdd, Nat.reduceMul, Nat.reduceEqDiff, Nat.reduceLT, Nat.reduceLeDiff, Nat.reduceSub, Nat.reduceBEq, reduceIte, reduceCtorEq, Int.reduceEq, Int.reduceNe, Nat.reduceBneDiff, Int.reduceLE, Int.reduceLT, Int.reduceToNat, Int.reduceAdd, Int.reduceSub, Int.reduceMul, Int.reduceNeg, intsL, List.length_map]
  refine g_loop mixed (fun i : { i : Nat // i ≤ l.length } => St.of [(3, .bs 7 2 0 i.1), (6, intsL l), (7, .int .i64 (l.length : Int)), (8, .int .i64 (i.1 : Int))]
    [(7, { els := (l.take i.1).map wPV, esz := 2, ety := 30, fro := 0, live := true, arr := true })]) (fun i => l.length - i.1) ⟨0, Nat.zero_le _⟩ ?_ ?_
  · refine le_nil1 3 7 2 30 rfl rfl rfl (by decide) [(7, 7)] rfl ?_ ?_
    · simp [varsLe, lkp, ren1, ren0, intsL]
    · simp [boxesLe, lkp, Box.renames]
  · rintro ⟨i, hi⟩
    have hlen : ((l.take i).map wPV).length = i := by simp; omega
    by_cases hA : i < l.length
    · have hA' := ltT hA
      have h0 := nnT i
      have hg := ints_get l i hA
      have hwk := wrap_add1 (a := i) (by omega)
      have q1 : (i == i) = true := beq_self_eq_true i
      have q2 : ((i + 1) * 24 ≤ 140737488355328) = True := by simp only [eq_iff_iff, iff_true]; omega
      have q3 : (i + 1 ≤ maxLen) = True := by simp only [eq_iff_iff, iff_true]; unfold maxLen; omega
      obtain ⟨b1, b2⟩ := hb _ (List.getElem_mem hA)
      have hf := rnum_v l[i] b1 b2
      have hto := rto_i (p2_8M (i64_p2 b1 b2) (by decide))
      have htk := map_take wPV l i hA
      repeat (first | (simp -implicitDefEqProofs only [go_sem, Nat.reduceAdd, Nat.reduceMul, Nat.reduceEqDiff, Nat.reduceLT, Nat.reduceLeDiff, Nat.reduceSub, Nat.reduceBEq, reduceIte, reduceCtorEq, Int.reduceEq, Int.reduceNe, Nat.reduceBneDiff, Int.reduceLE, Int.reduceLT, Int.reduceToNat, Int.reduceAdd, Int.reduceSub, Int.reduceMul, Int.reduceNeg, intsL, rI, di, wPV, hA', h0, hg, Int.toNat_natCast, List.length_map, hlen, q1, q2, q3, wPV_okf, hwk]) | ((with_reducible refine gcall_eq (hf) ?_ ?_ ?_); (with_reducible rfl); rfl) | ((with_reducible refine gcall_eq (hto) ?_ ?_ ?_); (with_reducible rfl); rfl) | (with_reducible exact drawQ_true _ _ (by kernel_rfl)) | (with_reducible refine And.intro (drawQ_true _ _ (by kernel_rfl)) ?_))
      refine ⟨⟨i + 1, hA⟩, by simp only; omega, le_of (θ := [(7, 505)]) rfl ?_ ?_⟩
      · simp [varsLe, lkp, ren1, ren0, intsL]
      · simp only [htk]
        simp [boxesLe, lkp, Box.renames, wPV]
    · have hA' := ltF hA
      have e1 : ((l.take i).map wPV).take i = l.map wPV := by rw [List.take_of_length_le (by omega), List.take_of_length_le (show l.length ≤ i by omega)]
      simp -implicitDefEqProofs only [go_sem, Nat.reduceAdd, Nat.reduceMul, Nat.reduceEqDiff, Nat.reduceLT, Nat.reduceLeDiff, Nat.reduceSub, Nat.reduceBEq, reduceIte, reduceCtorEq, Int.reduceEq, Int.reduceNe, Nat.reduceBneDiff, Int.reduceLE, Int.reduceLT, Int.reduceToNat, Int.reduceAdd, Int.reduceSub, Int.reduceMul, Int.reduceNeg, intsL, hA', hlen, e1, wL, List.length_map]
theorem lp_v (l : List Int) (hl : l.length ≤ 1000) (hb : ∀ x ∈ l, -9223372036854775808 ≤ x ∧ x ≤ 9223372036854775807) : SoundAt Tryz.prog 36 [intsL l] (wL (trimI l)) := by
  have h1 := rNums_v l hl hb
  have h2 := rPTo_v (trimI l) (Nat.le_trans (trimI_length l) (by omega)) fun x hx => p2_8M (i64_p2 (hb x (trimI_mem hx)).1 (hb x (trimI_mem hx)).2) (by decide)
  unfold rL wL intsL at *
  refine sound_go (tb := []) 6 [.tmp 2] [0, 2] mixed Tryz.func36 rfl (by kernel_rfl) (by kernel_rfl) (by kernel_rfl) (by kernel_rfl) ?_
  repeat (first | (simp -implicitDefEqProofs only [go_sem, Nat.reduceAdd, Nat.reduceMul, Nat.reduceEqDiff, Nat.reduceLT, Nat.reduceLeDiff, Nat.reduceSub, Nat.reduceBEq, reduceIte, reduceCtorEq, Int.reduceEq, Int.reduceNe, Nat.reduceBneDiff, Int.reduceLE, Int.reduceLT, Int.reduceToNat, Int.reduceAdd, Int.reduceSub, Int.reduceMul, Int.reduceNeg]) | ((with_reducible refine gcall_eq (h1) ?_ ?_ ?_); (with_reducible rfl); rfl) | ((with_reducible refine gcall_eq (h2) ?_ ?_ ?_); (with_reducible rfl); rfl) | (with_reducible exact drawQ_true _ _ (by kernel_rfl)) | (with_reducible refine And.intro (drawQ_true _ _ (by kernel_rfl)) ?_))
theorem lq_v (n d : Int) (n1 : -9223372036854775808 ≤ n) (n2 : n ≤ 9223372036854775807) (d1 : -9223372036854775808 ≤ d) (d2 : d ≤ 9223372036854775807) : SoundAt Tryz.prog 38 [.int .i64 n, .int .i64 d] (ratPV n d) := by
  have h1 := rnum_v n n1 n2
  have h2 := rnum_v d d1 d2
  have h3 := rto_i (p2_8M (i64_p2 n1 n2) (by decide))
  have h4 := rto_i (p2_8M (i64_p2 d1 d2) (by decide))
  unfold ratPV
  refine sound_go (tb := []) 12 [.cell 4 32] [0, 1, 4] mixed Tryz.func38 rfl (by kernel_rfl) (by kernel_rfl) (by kernel_rfl) (by kernel_rfl) ?_
  repeat (first | (simp -implicitDefEqProofs only [go_sem, Nat.reduceAdd, Nat.reduceMul, Nat.reduceEqDiff, Nat.reduceLT, Nat.reduceLeDiff, Nat.reduceSub, Nat.reduceBEq, reduceIte, reduceCtorEq, Int.reduceEq, Int.reduceNe, Nat.reduceBneDiff, Int.reduceLE, Int.reduceLT, Int.reduceToNat, Int.reduceAdd, Int.reduceSub, Int.reduceMul, Int.reduceNeg, rI, di, wPV]) | ((with_reducible refine gcall_eq (h1) ?_ ?_ ?_); (with_reducible rfl); rfl) | ((with_reducible refine gcall_eq (h2) ?_ ?_ ?_); (with_reducible rfl); rfl) | ((with_reducible refine gcall_eq (h3) ?_ ?_ ?_); (with_reducible rfl); rfl) | ((with_reducible refine gcall_eq (h4) ?_ ?_ ?_); (with_reducible rfl); rfl) | (with_reducible exact drawQ_true _ _ (by kernel_rfl)) | (with_reducible refine And.intro (drawQ_true _ _ (by kernel_rfl)) ?_))
end Go.Proofs.YtnpclmmmngmdkaaGreat

namespace Go.Dg

theorem pow_abs_lt {d : Int} {D : Nat} (h : d.natAbs < 2 ^ D) (k : Nat) : (d ^ k).natAbs < 2 ^ (D * k + 1) := by
  rw [Int.natAbs_pow]
  have h1 : d.natAbs ^ k ≤ (2 ^ D) ^ k := Nat.pow_le_pow_left (Nat.le_of_lt h) k
  rw [← Nat.pow_mul] at h1
  rw [Nat.pow_succ]
  have := Nat.pow_pos (n := D * k) (show 0 < 2 by decide)
  omega
end Go.Dg

namespace Go.Proofs.YtnpclmmmngmdkaaGreat
open Go.Vl Go.RowKit Go.Dg

theorem rev_set {α : Type} (l : List α) (j : Nat) (v : α) (h : j < l.length) : l.reverse.set (l.length - 1 - j) v = (l.set j v).reverse := by
  refine List.ext_getElem? fun i => ?_
  rw [List.getElem?_set]
  by_cases hi : i < l.length
  · have a1 : l.reverse[i]? = l[l.length - 1 - i]? := List.getElem?_reverse hi
    have a2 : (l.set j v).reverse[i]? = (l.set j v)[(l.set j v).length - 1 - i]? := List.getElem?_reverse (by simpa using hi)
    rw [a1, a2, List.getElem?_set, List.length_set, List.length_reverse]
    by_cases e : l.length - 1 - j = i
    · rw [if_pos e, if_pos (by omega), if_pos (by omega), if_pos (by omega)]
    · rw [if_neg e, if_neg (by omega)]
  · rw [List.getElem?_eq_none (l := (l.set j v).reverse) (by simp; omega), List.getElem?_eq_none (l := l.reverse) (by simp; omega), List.length_reverse]
    rw [if_neg (by omega)]
theorem leftH_eq (xs : List Int) (n : Nat) : (List.range (n + 1)).map (fun j => sm (fterm xs n j) (j + 1) * 2 ^ (n - j)) = leftH xs n := by
  refine List.map_congr_left fun j hj => ?_
  have hj' := List.mem_range.1 hj
  have e : (Dg.trans xs 1 n).getD j 0 = sm (fterm xs n j) (j + 1) := by unfold Dg.trans; rw [ofFn_getD, if_pos hj']; rfl
  rw [e]
theorem getD_rev (xs : List Int) (i : Nat) (h : i < xs.length) : xs.reverse.getD i 0 = xs[xs.length - 1 - i] := by
  rw [List.getD_eq_getElem?_getD, List.getElem?_reverse h, List.getElem?_eq_getElem (by omega)]; rfl
theorem fterm_rev {xs : List Int} {n j i : Nat} (h : i < xs.length) : fterm xs.reverse n j i = xs[xs.length - 1 - i] * (bin (n - i) (j - i) : Int) := by
  unfold fterm; rw [Int.one_pow, Int.one_mul, getD_rev xs i h]
theorem shiftI_nat (x : Int) (k : Nat) : shiftI x (k : Int) = x * 2 ^ k := by unfold shiftI; rw [if_pos (by omega), Int.toNat_natCast]
set_option maxHeartbeats 4000000 in
theorem halves_v (xs : List Int) (n B : Nat) (hn : n ≤ 24) (hl : xs.length = n + 1) (hB : B + n + 29 ≤ 65536) (hx : ∀ x ∈ xs, x.natAbs < 2 ^ B) : SoundAt Tryz.prog 55 [wL xs] (.tup [wL (leftH xs n), wL (rightH xs n)]) := by
  have w0 : IntKind.i64.wrap (((n + 1 : Nat) : Int) - 1) = (n : Int) := by rw [wrap_i64 (by omega) (by omega)]; omega
  have w1 := wrap_add1 (a := n) (by omega)
  have m1 : ((24 : Nat) : Int) * ((n + 1 : Nat) : Int) ≤ 281474976710656 := by omega
  have m2 : ((n + 1 : Nat) : Int) ≤ 9223372036854775807 := by omega
  have m3 := nnT (n + 1)
  obtain ⟨F, hF⟩ : ∃ F : Nat → Int, F = fun j => sm (fterm xs n j) (j + 1) * 2 ^ (n - j) := ⟨_, rfl⟩
  obtain ⟨G, hG⟩ : ∃ G : Nat → Int, G = fun j => sm (fterm xs.reverse n j) (j + 1) * 2 ^ (n - j) := ⟨_, rfl⟩
  have hxr : ∀ x ∈ xs.reverse, x.natAbs < 2 ^ B := fun x h => hx x (List.mem_reverse.1 h)
  have hrz : List.replicate (n + 1) (0 : Int) = (List.replicate (n + 1) 0).reverse := by simp
  refine sound_go (tb := []) 86 [.tmp 2, .tmp 3] [0, 2, 3, 4, 5, 6, 7, 8, 9, 10, 21, 22, 23, 26, 27, 28] mixed Tryz.func55 rfl (by kernel_rfl) (by kernel_rfl) (by kernel_rfl) (by kernel_rfl) ?_
  repeat (first | (simp -implicitDefEqProofs only [go_sem, Nat.reduceAdd, Nat.reduceMul, Nat.reduceEqDiff, Nat.reduceLT, Nat.reduceLeDiff, Nat.reduceSub, Nat.reduceBEq, reduceIte, reduceCtorEq, Int.reduceEq, Int.reduceNe, Nat.reduceBneDiff, Int.reduceLE, Int.reduceLT, Int.reduceToNat, Int.reduceAdd, Int.reduceSub, Int.reduceMul, Int.reduceNeg, wL, List.length_map, hl, w0, w1, m1, m2, m3, Int.toNat_natCast, wzero]) | (with_reducible exact drawQ_true _ _ (by kernel_rfl)) | (with_reducible refine And.intro (drawQ_true _ _ (by kernel_rfl)) ?_))
  rw [← upto_zero F]
  refine g_loop mixed (fun j : { j : Nat // j ≤ n + 1 } => St.of [(0, wL xs), (4, .int .i64 (n : Int)), (5, .bs 202 2 0 (n + 1)), (6, .bs 205 2 0 (n + 1)), (21, .int .i64 ((n + 1 : Nat) : Int)), (22, .int .i64 (j.1 : Int))]
    [(202, { els := (upto F (n + 1) j.1).map wPV, esz := 2, ety := 30, fro := 0, live := true, arr := true }), (205, { els := ((upto G (n + 1) j.1).reverse).map wPV, esz := 2, ety := 30, fro := 0, live := true, arr := true })]) (fun j => n + 1 - j.1) ⟨0, Nat.zero_le _⟩ ?_ ?_
  · refine le_of (θ := [(202, 202), (205, 205)]) rfl ?_ ?_
    · simp [varsLe, lkp, ren1, ren0, wL]
    · refine ⟨⟨rfl, rfl, rfl, rfl, rfl, .inl ⟨rfl, rfl⟩⟩, ⟨rfl, rfl, rfl, rfl, rfl, .inl ⟨rfl, ?_⟩⟩, trivial⟩
      simp only [upto_zero]
      rw [← hrz]
  · rintro ⟨j, hj⟩
    by_cases hA : j < n + 1
    · have hA' := ltT hA
      have hwj := wrap_add1 (a := j) (by omega)
      have hpz : PV.agg [.bool false, .str ⟨#[]⟩] = wPV 0 := wPV_zero.symm
      repeat (first | (simp -implicitDefEqProofs only [go_sem, Nat.reduceAdd, Nat.reduceMul, Nat.reduceEqDiff, Nat.reduceLT, Nat.reduceLeDiff, Nat.reduceSub, Nat.reduceBEq, reduceIte, reduceCtorEq, Int.reduceEq, Int.reduceNe, Nat.reduceBneDiff, Int.reduceLE, Int.reduceLT, Int.reduceToNat, Int.reduceAdd, Int.reduceSub, Int.reduceMul, Int.reduceNeg, hA', hwj]) | (with_reducible exact drawQ_true _ _ (by kernel_rfl)) | (with_reducible refine And.intro (drawQ_true _ _ (by kernel_rfl)) ?_))
      refine g_loop mixed (fun i : { i : Nat // i ≤ j + 1 } => St.of [(0, wL xs), (4, .int .i64 (n : Int)), (5, .bs 202 2 0 (n + 1)), (6, .bs 205 2 0 (n + 1)), (7, .int .i64 (j : Int)), (8, .bp 600 2 0 0), (9, .bp 601 2 0 0), (21, .int .i64 ((n + 1 : Nat) : Int)), (22, .int .i64 (j : Int)), (26, .int .i64 ((j + 1 : Nat) : Int)), (27, .int .i64 (i.1 : Int))]
        [(202, { els := (upto F (n + 1) j).map wPV, esz := 2, ety := 30, fro := 0, live := true, arr := true }), (205, { els := ((upto G (n + 1) j).reverse).map wPV, esz := 2, ety := 30, fro := 0, live := true, arr := true }),
         (600, { els := [wPV (sm (fterm xs n j) i.1)], esz := 2, ety := 30, fro := 0, live := true, arr := false }), (601, { els := [wPV (sm (fterm xs.reverse n j) i.1)], esz := 2, ety := 30, fro := 0, live := true, arr := false })]) (fun i => j + 1 - i.1) ⟨0, Nat.zero_le _⟩ ?_ ?_
      · refine le_of (θ := [(202, 202), (205, 205), (600, 600), (601, 601)]) rfl ?_ ?_
        · simp [varsLe, lkp, ren1, ren0, wL]
        · refine ⟨⟨rfl, rfl, rfl, rfl, rfl, .inl ⟨rfl, rfl⟩⟩, ⟨rfl, rfl, rfl, rfl, rfl, .inl ⟨rfl, rfl⟩⟩, ⟨rfl, rfl, rfl, rfl, rfl, .inr ⟨rfl, _, _, rfl, rfl, ?_, rfl⟩⟩, ⟨rfl, rfl, rfl, rfl, rfl, .inr ⟨rfl, _, _, rfl, rfl, ?_, rfl⟩⟩, trivial⟩
          · simp only [sm, wPV_zero]; rfl
          · simp only [sm, wPV_zero]; rfl
      · rintro ⟨i, hi⟩
        by_cases hI : i < j + 1
        · have hI' := ltT hI
          have hij : i < xs.length := by omega
          have hir : n - i < xs.length := by omega
          have hni := nnT i
          have hnr := nnT (n - i)
          have hgx := wPV_get xs i hij
          have hgr := wPV_get xs (n - i) hir
          have w2 := wrap_sub (a := n) (b := i) (by omega) (by omega)
          have w3 := wrap_sub (a := j) (b := i) (by omega) (by omega)
          have hwi := wrap_add1 (a := i) (by omega)
          have hwy := ways_v (n - i) (j - i) (by omega) (by omega)
          have hb := bin_i64 (n := n - i) (k := j - i) (by omega)
          have hS : (sm (fterm xs n j) i).natAbs < 2 ^ (B + 29) := sm_bin_lt hn (by omega) fun i _ => fterm_abs hx n j i
          have hS1 : (sm (fterm xs n j) (i + 1)).natAbs < 2 ^ (B + 29) := sm_bin_lt hn (by omega) fun i _ => fterm_abs hx n j i
          have hT : (xs[i] * (bin (n - i) (j - i) : Int)).natAbs < 2 ^ (B + 29) := by
            have := sm_bin_lt (g := fun _ => fterm xs n j i) (m := 1) hn (by decide) fun _ _ => fterm_abs hx n j i
            simpa [sm, fterm_eq hij] using this
          have e1 : sm (fterm xs n j) i + xs[i] * (bin (n - i) (j - i) : Int) = sm (fterm xs n j) (i + 1) := by rw [sm, fterm_eq hij]
          have hpl := plus_v (sm (fterm xs n j) i) xs[i] (bin (n - i) (j - i) : Int) (by omega) (by omega) (p2_16 hS (by omega)) (p2_16 (hx _ (List.getElem_mem hij)) (by omega)) (p2_16 hT (by omega)) (by rw [e1]; exact p2_16 hS1 (by omega))
          rw [e1] at hpl
          have hft : fterm xs.reverse n j i = xs[n - i] * (bin (n - i) (j - i) : Int) := by
            rw [fterm_rev hij]; congr 2; omega
          have hU : (sm (fterm xs.reverse n j) i).natAbs < 2 ^ (B + 29) := sm_bin_lt hn (by omega) fun i _ => fterm_abs hxr n j i
          have hU1 : (sm (fterm xs.reverse n j) (i + 1)).natAbs < 2 ^ (B + 29) := sm_bin_lt hn (by omega) fun i _ => fterm_abs hxr n j i
          have hV : (xs[n - i] * (bin (n - i) (j - i) : Int)).natAbs < 2 ^ (B + 29) := by
            have := sm_bin_lt (g := fun _ => fterm xs.reverse n j i) (m := 1) hn (by decide) fun _ _ => fterm_abs hxr n j i
            simpa [sm, hft] using this
          have e2 : sm (fterm xs.reverse n j) i + xs[n - i] * (bin (n - i) (j - i) : Int) = sm (fterm xs.reverse n j) (i + 1) := by rw [sm, hft]
          have hpr := plus_v (sm (fterm xs.reverse n j) i) xs[n - i] (bin (n - i) (j - i) : Int) (by omega) (by omega) (p2_16 hU (by omega)) (p2_16 (hx _ (List.getElem_mem hir)) (by omega)) (p2_16 hV (by omega)) (by rw [e2]; exact p2_16 hU1 (by omega))
          rw [e2] at hpr
          generalize hS1e : sm (fterm xs n j) (i + 1) = S1 at *
          generalize hU1e : sm (fterm xs.reverse n j) (i + 1) = U1 at *
          generalize sm (fterm xs n j) i = S at *
          generalize sm (fterm xs.reverse n j) i = U at *
          generalize (bin (n - i) (j - i) : Int) = b at *
          repeat (first | (simp -implicitDefEqProofs only [go_sem, Nat.reduceAdd, Nat.reduceMul, Nat.reduceEqDiff, Nat.reduceLT, Nat.reduceLeDiff, Nat.reduceSub, Nat.reduceBEq, reduceIte, reduceCtorEq, Int.reduceEq, Int.reduceNe, Nat.reduceBneDiff, Int.reduceLE, Int.reduceLT, Int.reduceToNat, Int.reduceAdd, Int.reduceSub, Int.reduceMul, Int.reduceNeg, wL, wPV, List.length_map, hI', hni, hnr, hgx, hgr, w2, w3, hwi, Int.toNat_natCast]) | ((with_reducible refine gcall_eq (hwy) ?_ ?_ ?_); (with_reducible rfl); rfl) | ((with_reducible refine gcall_eq (hpl) ?_ ?_ ?_); (with_reducible rfl); rfl) | ((with_reducible refine gcall_eq (hpr) ?_ ?_ ?_); (with_reducible rfl); rfl) | (with_reducible exact drawQ_true _ _ (by kernel_rfl)) | (with_reducible refine And.intro (drawQ_true _ _ (by kernel_rfl)) ?_))
          refine ⟨⟨i + 1, by omega⟩, by simp only; omega, le_of (θ := [(202, 202), (205, 205), (600, 600), (601, 601)]) rfl ?_ ?_⟩
          · simp [varsLe, lkp, ren1, ren0, wL]
          · simp only [hS1e, hU1e]
            exact ⟨⟨rfl, rfl, rfl, rfl, rfl, .inl ⟨rfl, rfl⟩⟩, ⟨rfl, rfl, rfl, rfl, rfl, .inl ⟨rfl, rfl⟩⟩, ⟨rfl, rfl, rfl, rfl, rfl, .inr ⟨rfl, _, _, rfl, rfl, rfl, rfl⟩⟩, ⟨rfl, rfl, rfl, rfl, rfl, .inr ⟨rfl, _, _, rfl, rfl, rfl, rfl⟩⟩, trivial⟩
        · have hI' := ltF hI
          obtain rfl : i = j + 1 := by omega
          have hS : (sm (fterm xs n j) (j + 1)).natAbs < 2 ^ (B + 29) := sm_bin_lt hn (by omega) fun i _ => fterm_abs hx n j i
          have hU : (sm (fterm xs.reverse n j) (j + 1)).natAbs < 2 ^ (B + 29) := sm_bin_lt hn (by omega) fun i _ => fterm_abs hxr n j i
          have w2 := wrap_sub (a := n) (b := j) (by omega) (by omega)
          have eF : sm (fterm xs n j) (j + 1) * 2 ^ (n - j) = F j := by rw [hF]
          have eG : sm (fterm xs.reverse n j) (j + 1) * 2 ^ (n - j) = G j := by rw [hG]
          have p2 : ((2 : Int) ^ (n - j)).natAbs < 2 ^ (n - j + 1) := by
            rw [Int.natAbs_pow]; exact Nat.pow_lt_pow_right (by decide) (Nat.lt_succ_self _)
          have hFb : (F j).natAbs < 2 ^ 65536 := by
            rw [← eF, Int.natAbs_mul, Int.natAbs_pow]
            refine p2_16 (B := B + 29 + (n - j)) ?_ (by omega)
            rw [Nat.pow_add]
            exact Nat.mul_lt_mul_of_pos_right hS (Nat.pow_pos (by decide))
          have hGb : (G j).natAbs < 2 ^ 65536 := by
            rw [← eG, Int.natAbs_mul, Int.natAbs_pow]
            refine p2_16 (B := B + 29 + (n - j)) ?_ (by omega)
            rw [Nat.pow_add]
            exact Nat.mul_lt_mul_of_pos_right hU (Nat.pow_pos (by decide))
          have hs1 := wShift_i ((n - j : Nat) : Int) (p2_16 hS (by omega)) (by omega) (by omega)
          rw [shiftI_nat, eF, outPV_ok hFb] at hs1
          have hs2 := wShift_i ((n - j : Nat) : Int) (p2_16 hU (by omega)) (by omega) (by omega)
          rw [shiftI_nat, eG, outPV_ok hGb] at hs2
          have hnj := nnT j
          have hnnj := nnT (n - j)
          have hlt := ltT hA
          have hlt2 := ltT (show n - j < n + 1 by omega)
          have hgl := wget' (upto_get F (n + 1) j j hA)
          rw [if_neg (Nat.lt_irrefl j)] at hgl
          have hgr : ((upto G (n + 1) j).reverse)[n - j]? = some 0 := by
            rw [List.getElem?_reverse (by rw [upto_length]; omega), upto_length, show n + 1 - 1 - (n - j) = j by omega, upto_get _ _ _ _ hA, if_neg (Nat.lt_irrefl j)]
          replace hgr := wget' hgr
          have set1 := wset (upto F (n + 1) j) j (F j)
          rw [upto_set F (n + 1) j hA] at set1
          have set2 := wset ((upto G (n + 1) j).reverse) (n - j) (G j)
          have hrs := rev_set (upto G (n + 1) j) j (G j) (by rw [upto_length]; exact hA)
          rw [upto_length, show n + 1 - 1 - j = n - j by omega, upto_set G (n + 1) j hA] at hrs
          rw [hrs] at set2
          have lF := upto_length F (n + 1) j
          have lG := upto_length G (n + 1) j
          generalize sm (fterm xs n j) (j + 1) = S at *
          generalize sm (fterm xs.reverse n j) (j + 1) = U at *
          repeat (first | (simp -implicitDefEqProofs only [go_sem, Nat.reduceAdd, Nat.reduceMul, Nat.reduceEqDiff, Nat.reduceLT, Nat.reduceLeDiff, Nat.reduceSub, Nat.reduceBEq, reduceIte, reduceCtorEq, Int.reduceEq, Int.reduceNe, Nat.reduceBneDiff, Int.reduceLE, Int.reduceLT, Int.reduceToNat, Int.reduceAdd, Int.reduceSub, Int.reduceMul, Int.reduceNeg, wL, wPV, List.length_map, List.length_reverse, hI', w2, hnj, hnnj, hlt, hlt2, hgl, hgr, hwj, lF, lG, Int.toNat_natCast]) | ((with_reducible refine gcall_eq (hs1) ?_ ?_ ?_); (with_reducible rfl); rfl) | ((with_reducible refine gcall_eq (hs2) ?_ ?_ ?_); (with_reducible rfl); rfl) | (with_reducible exact drawQ_true _ _ (by kernel_rfl)) | (with_reducible refine And.intro (drawQ_true _ _ (by kernel_rfl)) ?_))
          refine ⟨⟨j + 1, by omega⟩, by simp only; omega, le_of (θ := [(202, 202), (205, 205)]) rfl ?_ ?_⟩
          · simp [varsLe, lkp, ren1, ren0, wL]
          · exact ⟨⟨rfl, rfl, rfl, rfl, rfl, .inl ⟨rfl, set1⟩⟩, ⟨rfl, rfl, rfl, rfl, rfl, .inl ⟨rfl, set2⟩⟩, trivial⟩
    · have hA' := ltF hA
      have e3 : ((upto F (n + 1) j).map wPV).take (n + 1) = (leftH xs n).map wPV := by
        rw [List.take_of_length_le (by rw [List.length_map, upto_length]; exact Nat.le_refl _), upto_full F (n + 1) j (by omega), hF, leftH_eq]
      have e4 : (((upto G (n + 1) j).reverse).map wPV).take (n + 1) = (rightH xs n).map wPV := by
        rw [List.take_of_length_le (by rw [List.length_map, List.length_reverse, upto_length]; exact Nat.le_refl _), upto_full G (n + 1) j (by omega), hG, leftH_eq]; rfl
      have lF := upto_length F (n + 1) j
      have lG := upto_length G (n + 1) j
      repeat (first | (simp -implicitDefEqProofs only [go_sem, Nat.reduceAdd, Nat.reduceMul, Nat.reduceEqDiff, Nat.reduceLT, Nat.reduceLeDiff, Nat.reduceSub, Nat.reduceBEq, reduceIte, reduceCtorEq, Int.reduceEq, Int.reduceNe, Nat.reduceBneDiff, Int.reduceLE, Int.reduceLT, Int.reduceToNat, Int.reduceAdd, Int.reduceSub, Int.reduceMul, Int.reduceNeg, hA', List.length_map, List.length_reverse, e3, e4, lF, lG, wL]) | (with_reducible exact drawQ_true _ _ (by kernel_rfl)) | (with_reducible refine And.intro (drawQ_true _ _ (by kernel_rfl)) ?_))
end Go.Proofs.YtnpclmmmngmdkaaGreat

namespace Go.Proofs.YtnpclmmmngmdkaaGreat
open Go.Vl Go.RowKit Go.Dg

/-! ### wide integers as values that are worked out -/
noncomputable def frcBy {α : Type} (l : List UInt8) (K : List UInt8 → α) : α := frcL (fun c K => frcN c.toNat fun n => K (UInt8.ofNat n)) l K
theorem frcBy_eq {α : Type} (l : List UInt8) (K : List UInt8 → α) : frcBy l K = K l := frcL_eq (fun v K => by rw [frcN_eq]; simp) l K
def byF : Nat → Nat → List UInt8 → List UInt8
  | 0, _, acc => acc
  | f + 1, m, acc => if m = 0 then acc else byF f (m / 256) (UInt8.ofNat (m % 256) :: acc)
theorem byF_eq : ∀ (f m : Nat) (acc : List UInt8), m < 256 ^ f → byF f m acc = magL m ++ acc
  | 0, m, acc, h => by
    obtain rfl : m = 0 := by simpa using h
    simp [byF, magL, digs_zero]
  | f + 1, m, acc, h => by
    rw [byF]
    split
    · rename_i h0; subst h0; simp [magL, digs_zero]
    · rename_i h0
      rw [byF_eq f (m / 256) _ (by rw [Nat.pow_succ] at h; omega)]
      have e : magL m = magL (m / 256) ++ [UInt8.ofNat (m % 256)] := by
        unfold magL
        rw [digs_succ (by decide) h0, List.reverse_cons, List.map_append]; rfl
      rw [e, List.append_assoc]; rfl
noncomputable def encK (z : Int) (K : PV → Option PV) : Option PV := frcI z fun z => match decide (z.natAbs < 256 ^ 40) with
  | true => frcBy (byF 40 z.natAbs []) fun l => frcB (decide (z < 0)) fun b => K (.agg [.bool b, .str ⟨l.toArray⟩])
  | false => none
theorem encK_eq {z : Int} {K : PV → Option PV} {r : PV} (h : encK z K = some r) : K (wPV z) = some r ∧ z.natAbs < 2 ^ 65536 := by
  unfold encK at h
  rw [frcI_eq] at h
  split at h
  · rename_i hd
    have hlt : z.natAbs < 256 ^ 40 := by simpa using hd
    rw [frcBy_eq, frcB_eq, byF_eq _ _ _ hlt, List.append_nil] at h
    exact ⟨h, p256_16 (k := 40) hlt (by decide)⟩
  · cases h
noncomputable def encR (x y : Int) (K : PV → Option PV) : Option PV := frcI x fun x => frcI y fun y => match decide (x.natAbs < 256 ^ 40) && decide (y.natAbs < 256 ^ 40) with
  | true => frcBy (byF 40 x.natAbs []) fun l => frcB (decide (x < 0)) fun b => frcBy (byF 40 y.natAbs []) fun m => frcB (decide (y < 0)) fun c => K (.agg [.bool b, .str ⟨l.toArray⟩, .bool c, .str ⟨m.toArray⟩])
  | false => none
theorem encR_eq {x y : Int} {K : PV → Option PV} {r : PV} (h : encR x y K = some r) : K (ratPV x y) = some r ∧ x.natAbs < 256 ^ 40 ∧ y.natAbs < 256 ^ 40 := by
  unfold encR at h
  rw [frcI_eq, frcI_eq] at h
  split at h
  · rename_i hd
    simp only [Bool.and_eq_true, decide_eq_true_eq] at hd
    rw [frcBy_eq, frcB_eq, frcBy_eq, frcB_eq, byF_eq _ _ _ hd.1, byF_eq _ _ _ hd.2, List.append_nil, List.append_nil] at h
    exact ⟨h, hd⟩
  · cases h
def decK : PV → Option Int
  | .agg [.bool n, .str s] => match validB n s.data.toList with
    | true => some (wnum n s)
    | false => none
  | _ => none
theorem validB_size {n : Bool} {s : ByteArray} (h : validB n s.data.toList = true) : s.size ≤ 8192 := by
  rw [ba_size]
  cases hl : s.data.toList with
  | nil => simp
  | cons c r =>
    rw [hl] at h
    simp only [validB, Bool.and_eq_true, decide_eq_true_eq] at h
    simpa using h.1
theorem wnum_ok {n : Bool} {s : ByteArray} (h : validB n s.data.toList = true) : (wnum n s).natAbs < 2 ^ 65536 := by
  have h1 := wnum_lt n s 8192 (validB_size h)
  exact p256_16 (k := 8192) h1 (by decide)
theorem decK_eq {v : PV} {x : Int} (h : decK v = some x) : v = wPV x ∧ x.natAbs < 2 ^ 65536 := by
  unfold decK at h
  split at h
  · rename_i n s
    split at h
    · rename_i hv
      cases h
      exact ⟨(wPV_wnum n s hv).symm, wnum_ok hv⟩
    · cases h
  · cases h
def decR : PV → Option (Int × Int)
  | .agg [.bool n, .str s, .bool m, .str t] => match vRat n s m t with
    | true => some (wnum n s, wnum m t)
    | false => none
  | _ => none
theorem decR_eq {v : PV} {x y : Int} (h : decR v = some (x, y)) : v = ratPV x y ∧ x.natAbs < 2 ^ 65536 ∧ y.natAbs < 2 ^ 65536 ∧ 0 < y := by
  unfold decR at h
  split at h
  · rename_i n s m t
    split at h
    · rename_i hv
      cases h
      obtain ⟨p1, p2, p3, p4⟩ := vRat_parts hv
      have e1 := wPV_wnum n s p1
      have e2 := wPV_wnum m t p2
      simp only [wPV, PV.agg.injEq, List.cons.injEq, PV.bool.injEq, PV.str.injEq, and_true] at e1 e2
      refine ⟨?_, wnum_ok p1, wnum_ok p2, ?_⟩
      · unfold ratPV; rw [e1.1, e1.2, e2.1, e2.2]
      · have := bnum_pos p2 p4
        subst p3
        unfold wnum sv; simp; omega
    · cases h
  · cases h
/-- The number of bits, by trial. -/
def blK (m : Nat) : Option Nat := match decide (m = 0) with
  | true => some 0
  | false => match decide (2 ^ Nat.log2 m ≤ m) && decide (m < 2 ^ (Nat.log2 m + 1)) with
    | true => some (Nat.log2 m + 1)
    | false => none
theorem blK_eq {m k : Nat} (h : blK m = some k) : blen m = k := by
  unfold blK at h
  split at h
  · rename_i h0
    cases h
    have : m = 0 := by simpa using h0
    rw [this, blen_zero]
  · split at h
    · rename_i h1
      simp only [Bool.and_eq_true, decide_eq_true_eq] at h1
      cases h
      have a := blen_gt _ _ h1.1
      have b := blen_le _ _ h1.2
      omega
    · cases h
/-! ### the table -/
noncomputable def eOf : List PV → Option PV
  | [.int .i64 n] => match decide (-9223372036854775808 ≤ n) && decide (n ≤ 9223372036854775807) with
    | true => encK n some
    | false => none
  | _ => none
noncomputable def eBin (op : Int → Int → Int) : List PV → Option PV
  | [a, b] => match decK a, decK b with
    | some x, some y => encK (op x y) fun v => some (.tup [v, .int .i64 0])
    | _, _ => none
  | _ => none
noncomputable def eShift : List PV → Option PV
  | [a, .int .i64 n] => match decK a, decide (-65536 ≤ n) && decide (n ≤ 65536) with
    | some x, true => encK (shiftI x n) fun v => some (.tup [v, .int .i64 0])
    | _, _ => none
  | _ => none
noncomputable def eRatio : List PV → Option PV
  | [a, b] => match decK a, decK b with
    | some x, some y => match decide (y = 0) with
      | false => encR (lowN x y) (lowD x y) fun v => some (.tup [v, .int .i64 0])
      | true => none
    | _, _ => none
  | _ => none
noncomputable def eMulR : List PV → Option PV
  | [a, b] => match decR a, decR b with
    | some (x, y), some (z, w) => encR (lowN (x * z) (y * w)) (lowD (x * z) (y * w)) fun v => some (.tup [v, .int .i64 0])
    | _, _ => none
  | _ => none
noncomputable def eCmpR : List PV → Option PV
  | [.agg [.bool n1, .str s1, .bool m1, .str t1], .agg [.bool n2, .str s2, .bool m2, .str t2]] => match decide (t1.size ≤ 100000) && decide (t2.size ≤ 100000), vRat n1 s1 m1 t1 && vRat n2 s2 m2 t2 with
    | true, false => some (.tup [.int .i64 0, .int .i64 2])
    | true, true => frcI (wnum n1 s1 * wnum m2 t2 - wnum n2 s2 * wnum m1 t1).sign fun z => some (.tup [.int .i64 z, .int .i64 0])
    | _, _ => none
  | _ => none
noncomputable def eLen : List PV → Option PV
  | [a] => match decK a with
    | some x => match blK x.natAbs with
      | some k => some (.int .i64 (k : Int))
      | none => none
    | none => none
  | _ => none
noncomputable def eSign : List PV → Option PV
  | [a] => match decK a with
    | some x => frcI x.sign fun z => some (.int .i64 z)
    | none => none
  | _ => none
def eValid : List PV → Option PV
  | [.agg [.bool n, .str s]] => some (.bool (validB n s.data.toList))
  | _ => none
theorem eOf_s (args : List PV) (r : PV) (h : eOf args = some r) : SoundAt Tryz.prog 62 args r := by
  unfold eOf at h
  split at h
  · split at h
    · rename_i n _ hd
      simp only [Bool.and_eq_true, decide_eq_true_eq] at hd
      obtain ⟨h1, _⟩ := encK_eq h
      cases h1
      exact wOf_v n hd.1 hd.2
    · cases h
  · cases h
theorem eMul_s (args : List PV) (r : PV) (h : eBin (· * ·) args = some r) : SoundAt Tryz.prog 80 args r := by
  unfold eBin at h
  split at h
  · split at h
    · rename_i a b _ _ x y h1 h2
      obtain ⟨rfl, hx⟩ := decK_eq h1
      obtain ⟨rfl, hy⟩ := decK_eq h2
      obtain ⟨h3, h4⟩ := encK_eq h
      cases h3
      have := wMul_i hx hy
      rwa [outPV_ok h4] at this
    · cases h
  · cases h
theorem eAdd_s (args : List PV) (r : PV) (h : eBin (· + ·) args = some r) : SoundAt Tryz.prog 81 args r := by
  unfold eBin at h
  split at h
  · split at h
    · rename_i a b _ _ x y h1 h2
      obtain ⟨rfl, hx⟩ := decK_eq h1
      obtain ⟨rfl, hy⟩ := decK_eq h2
      obtain ⟨h3, h4⟩ := encK_eq h
      cases h3
      have := wAdd_i hx hy
      rwa [outPV_ok h4] at this
    · cases h
  · cases h
theorem eShift_s (args : List PV) (r : PV) (h : eShift args = some r) : SoundAt Tryz.prog 61 args r := by
  unfold eShift at h
  split at h
  · split at h
    · rename_i a n _ _ x h1 h2
      obtain ⟨rfl, hx⟩ := decK_eq h1
      simp only [Bool.and_eq_true, decide_eq_true_eq] at h2
      obtain ⟨h3, h4⟩ := encK_eq h
      cases h3
      have := wShift_i n hx h2.1 h2.2
      rwa [outPV_ok h4] at this
    · cases h
  · cases h
theorem notBig {x y : Int} (hx : x.natAbs < 256 ^ 40) (hy : y.natAbs < 256 ^ 40) : big x y = false := by
  have h1 := blen_of256 (k := 40) hx
  have h2 := blen_of256 (k := 40) hy
  simp only [big, Bool.or_eq_false_iff, decide_eq_false_iff_not]; omega
theorem eRatio_s (args : List PV) (r : PV) (h : eRatio args = some r) : SoundAt Tryz.prog 84 args r := by
  unfold eRatio at h
  split at h
  · split at h
    · rename_i a b _ _ x y h1 h2
      split at h
      · rename_i h0
        obtain ⟨rfl, hx⟩ := decK_eq h1
        obtain ⟨rfl, hy⟩ := decK_eq h2
        obtain ⟨h3, h4, h5⟩ := encR_eq h
        cases h3
        have := wRatio_i hx hy (by simpa using h0)
        rwa [outQ_f (notBig h4 h5)] at this
      · cases h
    · cases h
  · cases h
theorem eMulR_s (args : List PV) (r : PV) (h : eMulR args = some r) : SoundAt Tryz.prog 63 args r := by
  unfold eMulR at h
  split at h
  · split at h
    · rename_i a b _ _ x y z w h1 h2
      obtain ⟨rfl, hx, hy, y0⟩ := decR_eq h1
      obtain ⟨rfl, hz, hw, w0⟩ := decR_eq h2
      obtain ⟨h3, h4, h5⟩ := encR_eq h
      cases h3
      have := wMulRatio_i hx hy hz hw y0 w0
      rwa [outQ_f (notBig h4 h5)] at this
    · cases h
  · cases h
theorem vRat_size {n : Bool} {s : ByteArray} {m : Bool} {t : ByteArray} (h : vRat n s m t = true) : s.size ≤ 100000 := by
  have := validB_size (vRat_parts h).1; omega
theorem eCmpR_s (args : List PV) (r : PV) (h : eCmpR args = some r) : SoundAt Tryz.prog 85 args r := by
  unfold eCmpR at h
  split at h
  · rename_i n1 s1 m1 t1 n2 s2 m2 t2
    split at h
    · rename_i h1 h2
      simp only [Bool.and_eq_true, decide_eq_true_eq] at h1
      cases h
      exact wCompareRatio_no n1 m1 n2 m2 s1 t1 s2 t2 h2 h1.1 h1.2
    · rename_i h1 h2
      simp only [Bool.and_eq_true, decide_eq_true_eq] at h1
      rw [frcI_eq] at h
      cases h
      rw [Bool.and_eq_true] at h2
      exact wCompareRatio_v n1 m1 n2 m2 s1 t1 s2 t2 h2.1 h2.2 (vRat_size h2.1) h1.1 (vRat_size h2.2) h1.2
    · cases h
  · cases h
theorem eLen_s (args : List PV) (r : PV) (h : eLen args = some r) : SoundAt Tryz.prog 79 args r := by
  unfold eLen at h
  split at h
  · split at h
    · rename_i x h1
      split at h
      · rename_i k h2
        obtain ⟨rfl, hx⟩ := decK_eq h1
        cases h
        have := wLen_i hx
        rwa [blK_eq h2] at this
      · cases h
    · cases h
  · cases h
theorem eSign_s (args : List PV) (r : PV) (h : eSign args = some r) : SoundAt Tryz.prog 43 args r := by
  unfold eSign at h
  split at h
  · split at h
    · rename_i x h1
      obtain ⟨rfl, hx⟩ := decK_eq h1
      rw [frcI_eq] at h
      cases h
      exact wSign_i hx
    · cases h
  · cases h
theorem eValid_s (args : List PV) (r : PV) (h : eValid args = some r) : SoundAt Tryz.prog 78 args r := by
  unfold eValid at h
  split at h
  · cases h; exact wvalid_v _ _
  · cases h
def decIs : List PV → Option (List Int)
  | [] => some []
  | .int .i64 n :: r => match decide (-9223372036854775808 ≤ n) && decide (n ≤ 9223372036854775807), decIs r with
    | true, some l => some (n :: l)
    | _, _ => none
  | _ => none
theorem decIs_eq : ∀ {vs : List PV} {l : List Int}, decIs vs = some l → vs = l.map (PV.int .i64) ∧ ∀ x ∈ l, -9223372036854775808 ≤ x ∧ x ≤ 9223372036854775807
  | [], l, h => by cases h; exact ⟨rfl, by simp⟩
  | v :: vs, l, h => by
    unfold decIs at h
    split at h
    · rename_i heq; cases heq
    · rename_i n r heq
      cases heq
      split at h
      · rename_i m h1 h2
        cases h
        simp only [Bool.and_eq_true, decide_eq_true_eq] at h1
        obtain ⟨e, h3⟩ := decIs_eq h2
        exact ⟨by rw [e]; rfl, fun x hx => by
          rcases List.mem_cons.1 hx with rfl | hx
          · exact h1
          · exact h3 x hx⟩
      · cases h
    · cases h
def decWs : List PV → Option (List Int)
  | [] => some []
  | v :: r => match decK v, decWs r with
    | some x, some l => some (x :: l)
    | _, _ => none
theorem decWs_eq : ∀ {vs : List PV} {l : List Int}, decWs vs = some l → vs = l.map wPV
  | [], l, h => by cases h; rfl
  | v :: vs, l, h => by
    unfold decWs at h
    split at h
    · rename_i x m h1 h2
      cases h
      rw [(decK_eq h1).1, decWs_eq h2]; rfl
    · cases h
noncomputable def encL : List Int → (List PV → Option PV) → Option PV
  | [], K => K []
  | x :: r, K => encK x fun v => encL r fun vs => K (v :: vs)
theorem encL_eq : ∀ {xs : List Int} {K : List PV → Option PV} {r : PV}, encL xs K = some r → K (xs.map wPV) = some r
  | [], _, _, h => h
  | x :: xs, K, r, h => encL_eq (K := fun vs => K (wPV x :: vs)) (encK_eq h).1
noncomputable def eLl : List PV → Option PV
  | [.slc es] => match decIs es with
    | some l => match Nat.ble l.length 1000 with
      | true => encL l fun vs => some (.slc vs)
      | false => none
    | none => none
  | _ => none
noncomputable def eLp : List PV → Option PV
  | [.slc es] => match decIs es with
    | some l => match Nat.ble l.length 1000 with
      | true => encL (trimI l) fun vs => some (.slc vs)
      | false => none
    | none => none
  | _ => none
noncomputable def eLq : List PV → Option PV
  | [.int .i64 n, .int .i64 d] => match decide (-9223372036854775808 ≤ n) && decide (n ≤ 9223372036854775807), decide (-9223372036854775808 ≤ d) && decide (d ≤ 9223372036854775807) with
    | true, true => encR n d some
    | _, _ => none
  | _ => none
noncomputable def eWays : List PV → Option PV
  | [.int .i64 (.ofNat n), .int .i64 (.ofNat k)] => match Nat.ble k n && Nat.ble n 50 with
    | true => frcN (bin n k) fun b => some (.int .i64 (b : Int))
    | false => none
  | _ => none
noncomputable def ePlus : List PV → Option PV
  | [a, b, .int .i64 k] => match decK a, decK b, decide (-9223372036854775808 ≤ k) && decide (k ≤ 9223372036854775807) with
    | some s, some w, true => match decide ((w * k).natAbs < 256 ^ 40) with
      | true => encK (s + w * k) some
      | false => none
    | _, _, _ => none
  | _ => none
noncomputable def eSame : List PV → Option PV
  | [.slc us, .slc vs] => match decWs us, decWs vs with
    | some xs, some ys => match decide (xs = ys) && Nat.ble xs.length 1000 with
      | true => some (.bool true)
      | false => none
    | _, _ => none
  | _ => none
def allS (xs : List Int) : Bool := xs.all fun x => decide (x.natAbs < 2 ^ 200)
theorem allS_eq {xs : List Int} (h : allS xs = true) : ∀ x ∈ xs, x.natAbs < 2 ^ 200 := fun x hx => by
  have := List.all_eq_true.1 h x hx
  simpa using this
noncomputable def eFm : List PV → Option PV
  | [.slc us, .int .i64 (.ofNat n)] => match decWs us with
    | some xs => match Nat.ble n 24 && Nat.ble xs.length 1000 && allS xs with
      | true => encL (Dg.trans xs 1 n) fun vs => some (.slc vs)
      | false => none
    | none => none
  | _ => none
noncomputable def eHv : List PV → Option PV
  | [.slc us] => match decWs us with
    | some xs => match Nat.ble xs.length 25 && Nat.ble 1 xs.length && allS xs with
      | true => encL (leftH xs (xs.length - 1)) fun l => encL (rightH xs (xs.length - 1)) fun r => some (.tup [.slc l, .slc r])
      | false => none
    | none => none
  | _ => none
theorem eFm_s (args : List PV) (r : PV) (h : eFm args = some r) : SoundAt Tryz.prog 60 args r := by
  unfold eFm at h
  split at h
  · split at h
    · rename_i xs h1
      split at h
      · rename_i h2
        simp only [Bool.and_eq_true] at h2
        have := encL_eq h
        cases this
        rw [decWs_eq h1]
        exact of_v xs _ 200 (Nat.le_of_ble_eq_true h2.1.1) (Nat.le_of_ble_eq_true h2.1.2) (by decide) (allS_eq h2.2)
      · cases h
    · cases h
  · cases h
theorem eHv_s (args : List PV) (r : PV) (h : eHv args = some r) : SoundAt Tryz.prog 55 args r := by
  unfold eHv at h
  split at h
  · split at h
    · rename_i xs h1
      split at h
      · rename_i h2
        simp only [Bool.and_eq_true] at h2
        have h3 := Nat.le_of_ble_eq_true h2.1.1
        have h4 := Nat.le_of_ble_eq_true h2.1.2
        have := encL_eq (encL_eq h)
        cases this
        rw [decWs_eq h1]
        exact halves_v xs (xs.length - 1) 200 (by omega) (by omega) (by omega) (allS_eq h2.2)
      · cases h
    · cases h
  · cases h
theorem eLl_s (args : List PV) (r : PV) (h : eLl args = some r) : SoundAt Tryz.prog 37 args r := by
  unfold eLl at h
  split at h
  · split at h
    · rename_i l hd
      obtain ⟨rfl, hb⟩ := decIs_eq hd
      split at h
      · rename_i hl
        have := encL_eq h
        cases this
        exact ll_v l (Nat.le_of_ble_eq_true hl) hb
      · cases h
    · cases h
  · cases h
theorem eLp_s (args : List PV) (r : PV) (h : eLp args = some r) : SoundAt Tryz.prog 36 args r := by
  unfold eLp at h
  split at h
  · split at h
    · rename_i l hd
      obtain ⟨rfl, hb⟩ := decIs_eq hd
      split at h
      · rename_i hl
        have := encL_eq h
        cases this
        exact lp_v l (Nat.le_of_ble_eq_true hl) hb
      · cases h
    · cases h
  · cases h
theorem eLq_s (args : List PV) (r : PV) (h : eLq args = some r) : SoundAt Tryz.prog 38 args r := by
  unfold eLq at h
  split at h
  · split at h
    · rename_i n d _ _ h1 h2
      simp only [Bool.and_eq_true, decide_eq_true_eq] at h1 h2
      obtain ⟨h3, _⟩ := encR_eq h
      cases h3
      exact lq_v n d h1.1 h1.2 h2.1 h2.2
    · cases h
  · cases h
theorem eWays_s (args : List PV) (r : PV) (h : eWays args = some r) : SoundAt Tryz.prog 41 args r := by
  unfold eWays at h
  split at h
  · split at h
    · rename_i n k _ h1
      simp only [Bool.and_eq_true] at h1
      rw [frcN_eq] at h
      cases h
      exact ways_v n k (Nat.le_of_ble_eq_true h1.1) (Nat.le_of_ble_eq_true h1.2)
    · cases h
  · cases h
theorem ePlus_s (args : List PV) (r : PV) (h : ePlus args = some r) : SoundAt Tryz.prog 42 args r := by
  unfold ePlus at h
  split at h
  · split at h
    · rename_i k _ _ _ s w h1 h2 h3
      obtain ⟨rfl, hs⟩ := decK_eq h1
      obtain ⟨rfl, hw⟩ := decK_eq h2
      simp only [Bool.and_eq_true, decide_eq_true_eq] at h3
      split at h
      · rename_i h4
        obtain ⟨h5, h6⟩ := encK_eq h
        cases h5
        exact plus_v s w k h3.1 h3.2 hs hw (p256_16 (k := 40) (by simpa using h4) (by decide)) h6
      · cases h
    · cases h
  · cases h
theorem eSame_s (args : List PV) (r : PV) (h : eSame args = some r) : SoundAt Tryz.prog 16 args r := by
  unfold eSame at h
  split at h
  · split at h
    · rename_i xs ys h1 h2
      split at h
      · rename_i h3
        simp only [Bool.and_eq_true, decide_eq_true_eq] at h3
        obtain ⟨rfl, h4⟩ := h3
        cases h
        rw [decWs_eq h1, decWs_eq h2]
        exact rSame_v xs (Nat.le_trans (Nat.le_of_ble_eq_true h4) (by decide))
      · cases h
    · cases h
  · cases h
noncomputable def tabL : List (Nat × (List PV → Option PV)) := [(62, eOf), (80, eBin (· * ·)), (81, eBin (· + ·)), (61, eShift), (84, eRatio), (63, eMulR), (85, eCmpR), (79, eLen), (43, eSign), (78, eValid),
  (37, eLl), (36, eLp), (38, eLq), (41, eWays), (42, ePlus), (16, eSame), (60, eFm), (55, eHv)]
noncomputable def tabF (f : FuncId) (args : List PV) : Option PV := match lkp tabL f with
  | some g => g args
  | none => none
theorem tabF_sound (f : FuncId) (args : List PV) (r : PV) (h : tabF f args = some r) : SoundAt Tryz.prog f args r := by
  unfold tabF at h
  split at h
  · rename_i g hg
    have hm := lkp_mem hg
    simp only [tabL, List.mem_cons, Prod.mk.injEq, List.not_mem_nil, or_false] at hm
    rcases hm with ⟨rfl, rfl⟩ | ⟨rfl, rfl⟩ | ⟨rfl, rfl⟩ | ⟨rfl, rfl⟩ | ⟨rfl, rfl⟩ | ⟨rfl, rfl⟩ | ⟨rfl, rfl⟩ | ⟨rfl, rfl⟩ | ⟨rfl, rfl⟩ | ⟨rfl, rfl⟩ | ⟨rfl, rfl⟩ | ⟨rfl, rfl⟩ | ⟨rfl, rfl⟩ | ⟨rfl, rfl⟩ | ⟨rfl, rfl⟩ | ⟨rfl, rfl⟩ | ⟨rfl, rfl⟩ | ⟨rfl, rfl⟩
    · exact eOf_s _ _ h
    · exact eMul_s _ _ h
    · exact eAdd_s _ _ h
    · exact eShift_s _ _ h
    · exact eRatio_s _ _ h
    · exact eMulR_s _ _ h
    · exact eCmpR_s _ _ h
    · exact eLen_s _ _ h
    · exact eSign_s _ _ h
    · exact eValid_s _ _ h
    · exact eLl_s _ _ h
    · exact eLp_s _ _ h
    · exact eLq_s _ _ h
    · exact eWays_s _ _ h
    · exact ePlus_s _ _ h
    · exact eSame_s _ _ h
    · exact eFm_s _ _ h
    · exact eHv_s _ _ h
  · cases h
theorem known_v : SoundAt Tryz.prog 9 [] (.bool true) := evF_sound mixed tabF_sound 2000 40 _ _ _ (by kernel_rfl)
end Go.Proofs.YtnpclmmmngmdkaaGreat

namespace Go.Proofs.YtnpclmmmngmdkaaGreat
open Go.Vl Go.RowKit Go.Dg

theorem validL_of {l : List (Bool × ByteArray)} (h : polyB l = true) : validL l = true ∧ l.length ≤ 25 := by
  unfold polyB at h
  simp only [Bool.and_eq_true, decide_eq_true_eq] at h
  exact ⟨h.1, h.2.1⟩
theorem Form_v (l : List (Bool × ByteArray)) (n B : Nat) (hs : ∀ p ∈ l, p.2.size ≤ 100000) (hp : polyB l = true) (hn : n ≤ 24) (h : l.length ≤ n + 1) (hx : ∀ x ∈ l.map wnP, x.natAbs < 2 ^ B) (hB : B + 30 ≤ 65536) :
    SoundAt Tryz.prog 28 [.slc (l.map wA), .int .i64 (n : Int)] (.tup [wL (trans (l.map wnP) 1 n), .int .i64 0]) := by
  obtain ⟨hval, h25⟩ := validL_of hp
  have hv := pValid_v l (by omega) hs
  rw [hp] at hv
  rw [wA_wPV hval] at hv ⊢
  have hxl : (l.map wnP).length = l.length := List.length_map _
  generalize l.map wnP = xs at *
  have hsz := size_v xs (by omega) fun x hx' => p2_16 (hx x hx') (by omega)
  have hof := of_v xs n B hn (by omega) (by omega) hx
  have hle : bitsF blen xs ≤ B := bitsF_le fun x hx' => p2_blen (hx x hx')
  have g1 : ((n : Int) < 0) = False := by simp only [eq_iff_iff, iff_false]; omega
  have g2 : ((24 : Int) < (n : Int)) = False := by simp only [eq_iff_iff, iff_false]; omega
  have w1 : IntKind.i64.wrap ((xs.length : Int) - 1) = (xs.length : Int) - 1 := wrap_i64 (by omega) (by omega)
  have g3 : ((n : Int) < (xs.length : Int) - 1) = False := by simp only [eq_iff_iff, iff_false]; omega
  have w2 : IntKind.i64.wrap ((bitsF blen xs : Int) + 30) = ((bitsF blen xs + 30 : Nat) : Int) := by rw [wrap_i64 (by omega) (by omega)]; omega
  have g4 : ((65536 : Int) < ((bitsF blen xs + 30 : Nat) : Int)) = False := by simp only [eq_iff_iff, iff_false]; omega
  generalize bitsF blen xs = bb at *
  unfold wL at *
  refine sound_go (tb := []) 32 [.tmp 4, .tmp 5] [0, 1, 4, 5, 6, 18, 24] mixed Tryz.func28 rfl (by kernel_rfl) (by kernel_rfl) (by kernel_rfl) (by kernel_rfl) ?_
  repeat (first | (simp -implicitDefEqProofs only [go_sem, Nat.reduceAdd, Nat.reduceMul, Nat.reduceEqDiff, Nat.reduceLT, Nat.reduceLeDiff, Nat.reduceSub, Nat.reduceBEq, reduceIte, reduceCtorEq, Int.reduceEq, Int.reduceNe, Nat.reduceBneDiff, Int.reduceLE, Int.reduceLT, Int.reduceToNat, Int.reduceAdd, Int.reduceSub, Int.reduceMul, Int.reduceNeg, g1, g2, w1, g3, w2, g4, List.length_map]) | ((with_reducible refine gcall_eq (hv) ?_ ?_ ?_); (with_reducible rfl); rfl) | ((with_reducible refine gcall_eq (hsz) ?_ ?_ ?_); (with_reducible rfl); rfl) | ((with_reducible refine gcall_eq (hof) ?_ ?_ ?_); (with_reducible rfl); rfl) | (with_reducible exact drawQ_true _ _ (by kernel_rfl)) | (with_reducible refine And.intro (drawQ_true _ _ (by kernel_rfl)) ?_))
end Go.Proofs.YtnpclmmmngmdkaaGreat

namespace Go.Proofs.YtnpclmmmngmdkaaGreat
open Go.Vl Go.RowKit Go.Dg

theorem rIPow_v (x : Int) (n B : Nat) (hn : n ≤ 100) (hB : B ≤ 10000) (hx : x.natAbs < 2 ^ B) : SoundAt Tryz.prog 71 [rI x, .int .i64 (n : Int)] (rI (x ^ n)) := by
  have h1 := rnum_v 1 (by decide) (by decide)
  refine sound_go (tb := []) 17 [.cell 4 37] [0, 1, 2, 4, 5, 6, 10] mixed Tryz.func71 rfl (by kernel_rfl) (by kernel_rfl) (by kernel_rfl) (by kernel_rfl) ?_
  repeat (first | (simp -implicitDefEqProofs only [go_sem, Nat.reduceAdd, Nat.reduceMul, Nat.reduceEqDiff, Nat.reduceLT, Nat.reduceLeDiff, Nat.reduceSub, Nat.reduceBEq, reduceIte, reduceCtorEq, Int.reduceEq, Int.reduceNe, Nat.reduceBneDiff, Int.reduceLE, Int.reduceLT, Int.reduceToNat, Int.reduceAdd, Int.reduceSub, Int.reduceMul, Int.reduceNeg, rI, di]) | ((with_reducible refine gcall_eq (h1) ?_ ?_ ?_); (with_reducible rfl); rfl) | (with_reducible exact drawQ_true _ _ (by kernel_rfl)) | (with_reducible refine And.intro (drawQ_true _ _ (by kernel_rfl)) ?_))
  refine g_loop mixed (fun i : { i : Nat // i ≤ n } => St.of [(1, .int .i64 (n : Int)), (2, .bp 0 2 0 0), (4, .bp 1 2 0 0), (5, .bp 101 2 0 0), (6, .int .i64 (i.1 : Int))]
    [(0, { els := [rI x], esz := 2, ety := 37, fro := 0, live := true, arr := false }), (1, { els := [.agg [.bool false, .nilS]], esz := 2, ety := 37, fro := 0, live := true, arr := false }), (101, { els := [rI (x ^ i.1)], esz := 2, ety := 37, fro := 0, live := true, arr := false })]) (fun i => n - i.1) ⟨0, Nat.zero_le _⟩ ?_ ?_
  · refine le_of (θ := [(0, 0), (1, 1), (101, 101)]) rfl ?_ ?_
    · simp [varsLe, lkp, ren1, ren0]
    · refine ⟨⟨rfl, rfl, rfl, rfl, rfl, .inr ⟨rfl, _, _, rfl, rfl, rfl, rfl⟩⟩, ⟨rfl, rfl, rfl, rfl, rfl, .inr ⟨rfl, _, _, rfl, rfl, rfl, rfl⟩⟩, ⟨rfl, rfl, rfl, rfl, rfl, .inr ⟨rfl, _, _, rfl, rfl, ?_, rfl⟩⟩, trivial⟩
      simp only [Int.pow_zero]; rfl
  · rintro ⟨i, hi⟩
    by_cases hA : i < n
    · have hA' := ltT hA
      have hwk := wrap_add1 (a := i) (by omega)
      have hb : B * i ≤ 10000 * 100 := Nat.mul_le_mul hB (by omega)
      have hm := rmul_i (p2_7M (pow_abs_lt hx i) (by omega)) (p2_7M hx (by omega))
      have e : x ^ i * x = x ^ (i + 1) := (Int.pow_succ x i).symm
      rw [e] at hm
      generalize hX : x ^ (i + 1) = Y at *
      generalize x ^ i = Z at *
      repeat (first | (simp -implicitDefEqProofs only [go_sem, Nat.reduceAdd, Nat.reduceMul, Nat.reduceEqDiff, Nat.reduceLT, Nat.reduceLeDiff, Nat.reduceSub, Nat.reduceBEq, reduceIte, reduceCtorEq, Int.reduceEq, Int.reduceNe, Nat.reduceBneDiff, Int.reduceLE, Int.reduceLT, Int.reduceToNat, Int.reduceAdd, Int.reduceSub, Int.reduceMul, Int.reduceNeg, rI, di, hA', hwk]) | ((with_reducible refine gcall_eq (hm) ?_ ?_ ?_); (with_reducible rfl); rfl) | (with_reducible exact drawQ_true _ _ (by kernel_rfl)) | (with_reducible refine And.intro (drawQ_true _ _ (by kernel_rfl)) ?_))
      refine ⟨⟨i + 1, hA⟩, by simp only; omega, le_of (θ := [(0, 0), (1, 1), (101, 101)]) rfl ?_ ?_⟩
      · simp [varsLe, lkp, ren1, ren0]
      · simp only [hX]
        exact ⟨⟨rfl, rfl, rfl, rfl, rfl, .inr ⟨rfl, _, _, rfl, rfl, rfl, rfl⟩⟩, ⟨rfl, rfl, rfl, rfl, rfl, .inr ⟨rfl, _, _, rfl, rfl, rfl, rfl⟩⟩, ⟨rfl, rfl, rfl, rfl, rfl, .inr ⟨rfl, _, _, rfl, rfl, rfl, rfl⟩⟩, trivial⟩
    · have hA' := ltF hA
      obtain rfl : i = n := by omega
      generalize x ^ i = Z at *
      repeat (first | (simp -implicitDefEqProofs only [go_sem, Nat.reduceAdd, Nat.reduceMul, Nat.reduceEqDiff, Nat.reduceLT, Nat.reduceLeDiff, Nat.reduceSub, Nat.reduceBEq, reduceIte, reduceCtorEq, Int.reduceEq, Int.reduceNe, Nat.reduceBneDiff, Int.reduceLE, Int.reduceLT, Int.reduceToNat, Int.reduceAdd, Int.reduceSub, Int.reduceMul, Int.reduceNeg, rI, di, hA']) | (with_reducible exact drawQ_true _ _ (by kernel_rfl)) | (with_reducible refine And.intro (drawQ_true _ _ (by kernel_rfl)) ?_))
end Go.Proofs.YtnpclmmmngmdkaaGreat

namespace Go.Proofs.YtnpclmmmngmdkaaGreat
open Go.Vl Go.RowKit Go.Dg

/-- A list that is a form. -/
def formB (l : List (Bool × ByteArray)) : Bool := validL l && (decide (1 ≤ l.length) && decide (l.length ≤ 25))
theorem rFValid_v (l : List (Bool × ByteArray)) (hl : l.length ≤ maxLen) : SoundAt Tryz.prog 12 [.slc (l.map wA)] (.bool (formB l)) := by
  unfold maxLen at hl
  refine sound_go (tb := []) 24 [.tmp 2] [0, 2, 3, 7, 15] mixed Tryz.func12 rfl (by kernel_rfl) (by kernel_rfl) (by kernel_rfl) (by kernel_rfl) ?_
  simp -implicitDefEqProofs only [go_sem, Nat.reduceAdd, Nat.reduceMul, Nat.reduceEqDiff, Nat.reduceLT, Nat.reduceLeDiff, Nat.reduceSub, Nat.reduceBEq, reduceIte, reduceCtorEq, Int.reduceEq, Int.reduceNe, Nat.reduceBneDiff, Int.reduceLE, Int.reduceLT, Int.reduceToNat, Int.reduceAdd, Int.reduceSub, Int.reduceMul, Int.reduceNeg]
  refine g_loop mixed (fun i : { i : Nat // i ≤ l.length ∧ (l.take i).all (fun p => validB p.1 p.2.data.toList) = true } => St.of [(0, .slc (l.map wA)), (3, .int .i64 (i.1 : Int))] []) (fun i => l.length - i.1) ⟨0, Nat.zero_le _, rfl⟩ ?_ ?_
  · exact le_vars (by simp [varsLe, lkp, ren1, ren0])
  · rintro ⟨i, hi, hall⟩
    by_cases hA : i < l.length
    · have hA' := ltT hA
      have h0 := nnT i
      have hg := wA_get l i hA
      have hwk := wrap_add1 (a := i) (by omega)
      have hv := rvalid_v l[i].1 l[i].2
      cases hs : validB l[i].1 l[i].2.data.toList with
      | true =>
        rw [hs] at hv
        repeat (first | (simp -implicitDefEqProofs only [go_sem, Nat.reduceAdd, Nat.reduceMul, Nat.reduceEqDiff, Nat.reduceLT, Nat.reduceLeDiff, Nat.reduceSub, Nat.reduceBEq, reduceIte, reduceCtorEq, Int.reduceEq, Int.reduceNe, Nat.reduceBneDiff, Int.reduceLE, Int.reduceLT, Int.reduceToNat, Int.reduceAdd, Int.reduceSub, Int.reduceMul, Int.reduceNeg, hA', h0, hg, Int.toNat_natCast, List.length_map, hwk]) | ((with_reducible refine gcall_eq (hv) ?_ ?_ ?_); (with_reducible rfl); rfl) | (with_reducible exact drawQ_true _ _ (by kernel_rfl)) | (with_reducible refine And.intro (drawQ_true _ _ (by kernel_rfl)) ?_))
        exact ⟨⟨i + 1, hA, all_snoc hA hall hs⟩, by simp only; omega, le_vars (by simp [varsLe, lkp, ren1, ren0])⟩
      | false =>
        rw [hs] at hv
        have e : formB l = false := by unfold formB validL; rw [all_not hA hs]; rfl
        repeat (first | (simp -implicitDefEqProofs only [go_sem, Nat.reduceAdd, Nat.reduceMul, Nat.reduceEqDiff, Nat.reduceLT, Nat.reduceLeDiff, Nat.reduceSub, Nat.reduceBEq, reduceIte, reduceCtorEq, Int.reduceEq, Int.reduceNe, Nat.reduceBneDiff, Int.reduceLE, Int.reduceLT, Int.reduceToNat, Int.reduceAdd, Int.reduceSub, Int.reduceMul, Int.reduceNeg, hA', h0, hg, Int.toNat_natCast, List.length_map, e]) | ((with_reducible refine gcall_eq (hv) ?_ ?_ ?_); (with_reducible rfl); rfl) | (with_reducible exact drawQ_true _ _ (by kernel_rfl)) | (with_reducible refine And.intro (drawQ_true _ _ (by kernel_rfl)) ?_))
    · have hA' := ltF hA
      rw [List.take_of_length_le (by omega)] at hall
      have e0 : formB l = (decide (1 ≤ l.length) && decide (l.length ≤ 25)) := by unfold formB validL; rw [hall, Bool.true_and]
      rw [e0]
      by_cases h1 : 1 ≤ l.length
      · have h1' : ((1 : Int) ≤ (l.length : Int)) = True := by simp only [eq_iff_iff, iff_true]; omega
        have e5 : decide ((l.length : Int) ≤ 25) = decide (l.length ≤ 25) := by simp only [decide_eq_decide]; omega
        rw [decide_eq_true h1, Bool.true_and]
        repeat (first | (simp -implicitDefEqProofs only [go_sem, Nat.reduceAdd, Nat.reduceMul, Nat.reduceEqDiff, Nat.reduceLT, Nat.reduceLeDiff, Nat.reduceSub, Nat.reduceBEq, reduceIte, reduceCtorEq, Int.reduceEq, Int.reduceNe, Nat.reduceBneDiff, Int.reduceLE, Int.reduceLT, Int.reduceToNat, Int.reduceAdd, Int.reduceSub, Int.reduceMul, Int.reduceNeg, hA', h1', e5, List.length_map]) | (with_reducible exact drawQ_true _ _ (by kernel_rfl)) | (with_reducible refine And.intro (drawQ_true _ _ (by kernel_rfl)) ?_))
      · have h1' : ((1 : Int) ≤ (l.length : Int)) = False := by simp only [eq_iff_iff, iff_false]; omega
        rw [decide_eq_false h1, Bool.false_and]
        repeat (first | (simp -implicitDefEqProofs only [go_sem, Nat.reduceAdd, Nat.reduceMul, Nat.reduceEqDiff, Nat.reduceLT, Nat.reduceLeDiff, Nat.reduceSub, Nat.reduceBEq, reduceIte, reduceCtorEq, Int.reduceEq, Int.reduceNe, Nat.reduceBneDiff, Int.reduceLE, Int.reduceLT, Int.reduceToNat, Int.reduceAdd, Int.reduceSub, Int.reduceMul, Int.reduceNeg, hA', h1', List.length_map]) | (with_reducible exact drawQ_true _ _ (by kernel_rfl)) | (with_reducible refine And.intro (drawQ_true _ _ (by kernel_rfl)) ?_))
theorem index_v (l : List (Bool × ByteArray)) (hl : l.length ≤ 1000000) (g : FuncId) (p : Bool × ByteArray → Bool) (hp : ∀ x ∈ l, SoundAt Tryz.prog g [.agg [.bool x.1, .str x.2]] (.bool (p x))) :
    ∃ k : Int, SoundAt Tryz.prog 104 [.slc (l.map wA), .fn g [] []] (.int .i64 k) ∧ decide (0 ≤ k) = l.any p := by
  cases hf : l.findIdx? p with
  | none =>
    rw [List.findIdx?_eq_none_iff] at hf
    refine ⟨-1, ?_, ?_⟩
    · refine sound_go (tb := []) 19 [.tmp 4] [0, 1, 4, 5, 7, 8, 9, 16] mixed Tryz.func104 rfl (by kernel_rfl) (by kernel_rfl) (by kernel_rfl) (by kernel_rfl) ?_
      simp -implicitDefEqProofs only [go_sem, Nat.reduceAdd, Nat.reduceMul, Nat.reduceEqDiff, Nat.reduceLT, Nat.reduceLeDiff, Nat.reduceSub, Nat.reduceBEq, reduceIte, reduceCtorEq, Int.reduceEq, Int.reduceNe, Nat.reduceBneDiff, Int.reduceLE, Int.reduceLT, Int.reduceToNat, Int.reduceAdd, Int.reduceSub, Int.reduceMul, Int.reduceNeg, List.length_map]
      refine g_loop mixed (fun i : { i : Nat // i ≤ l.length } => St.of [(0, .slc (l.map wA)), (1, .fn g [] []), (7, .int .i64 (l.length : Int)), (8, .int .i64 (i.1 : Int))] []) (fun i => l.length - i.1) ⟨0, Nat.zero_le _⟩ ?_ ?_
      · exact le_vars (by simp [varsLe, lkp, ren1, ren0, ren0L])
      · rintro ⟨i, hi⟩
        by_cases hA : i < l.length
        · have hA' := ltT hA
          have h0 := nnT i
          have hg := wA_get l i hA
          have hwk := wrap_add1 (a := i) (by omega)
          have hv := hp _ (List.getElem_mem hA)
          rw [hf _ (List.getElem_mem hA)] at hv
          repeat (first | (simp -implicitDefEqProofs only [go_sem, Nat.reduceAdd, Nat.reduceMul, Nat.reduceEqDiff, Nat.reduceLT, Nat.reduceLeDiff, Nat.reduceSub, Nat.reduceBEq, reduceIte, reduceCtorEq, Int.reduceEq, Int.reduceNe, Nat.reduceBneDiff, Int.reduceLE, Int.reduceLT, Int.reduceToNat, Int.reduceAdd, Int.reduceSub, Int.reduceMul, Int.reduceNeg, hA', h0, hg, Int.toNat_natCast, hwk]) | ((with_reducible refine gcall_eq (hv) ?_ ?_ ?_); (with_reducible rfl); rfl) | (with_reducible exact drawQ_true _ _ (by kernel_rfl)) | (with_reducible refine And.intro (drawQ_true _ _ (by kernel_rfl)) ?_))
          exact ⟨⟨i + 1, hA⟩, by simp only; omega, le_vars (by simp [varsLe, lkp, ren1, ren0, ren0L])⟩
        · have hA' := ltF hA
          repeat (first | (simp -implicitDefEqProofs only [go_sem, Nat.reduceAdd, Nat.reduceMul, Nat.reduceEqDiff, Nat.reduceLT, Nat.reduceLeDiff, Nat.reduceSub, Nat.reduceBEq, reduceIte, reduceCtorEq, Int.reduceEq, Int.reduceNe, Nat.reduceBneDiff, Int.reduceLE, Int.reduceLT, Int.reduceToNat, Int.reduceAdd, Int.reduceSub, Int.reduceMul, Int.reduceNeg, hA']) | (with_reducible exact drawQ_true _ _ (by kernel_rfl)) | (with_reducible refine And.intro (drawQ_true _ _ (by kernel_rfl)) ?_))
    · have : l.any p = false := by rw [List.any_eq_false]; intro x hx; rw [hf x hx]; decide
      rw [this]; rfl
  | some k =>
    obtain ⟨hk, hpk, hbef⟩ := List.findIdx?_eq_some_iff_getElem.1 hf
    refine ⟨(k : Int), ?_, ?_⟩
    · refine sound_go (tb := []) 19 [.tmp 4] [0, 1, 4, 5, 7, 8, 9, 16] mixed Tryz.func104 rfl (by kernel_rfl) (by kernel_rfl) (by kernel_rfl) (by kernel_rfl) ?_
      simp -implicitDefEqProofs only [go_sem, Nat.reduceAdd, Nat.reduceMul, Nat.reduceEqDiff, Nat.reduceLT, Nat.reduceLeDiff, Nat.reduceSub, Nat.reduceBEq, reduceIte, reduceCtorEq, Int.reduceEq, Int.reduceNe, Nat.reduceBneDiff, Int.reduceLE, Int.reduceLT, Int.reduceToNat, Int.reduceAdd, Int.reduceSub, Int.reduceMul, Int.reduceNeg, List.length_map]
      refine g_loop mixed (fun i : { i : Nat // i ≤ k } => St.of [(0, .slc (l.map wA)), (1, .fn g [] []), (7, .int .i64 (l.length : Int)), (8, .int .i64 (i.1 : Int))] []) (fun i => l.length - i.1) ⟨0, Nat.zero_le _⟩ ?_ ?_
      · exact le_vars (by simp [varsLe, lkp, ren1, ren0, ren0L])
      · rintro ⟨i, hi⟩
        have hA : i < l.length := by omega
        have hA' := ltT hA
        have h0 := nnT i
        have hg := wA_get l i hA
        have hwk := wrap_add1 (a := i) (by omega)
        have hv := hp _ (List.getElem_mem hA)
        by_cases hik : i < k
        · have hn := hbef i hik
          rw [show p l[i] = false from by simpa using hn] at hv
          repeat (first | (simp -implicitDefEqProofs only [go_sem, Nat.reduceAdd, Nat.reduceMul, Nat.reduceEqDiff, Nat.reduceLT, Nat.reduceLeDiff, Nat.reduceSub, Nat.reduceBEq, reduceIte, reduceCtorEq, Int.reduceEq, Int.reduceNe, Nat.reduceBneDiff, Int.reduceLE, Int.reduceLT, Int.reduceToNat, Int.reduceAdd, Int.reduceSub, Int.reduceMul, Int.reduceNeg, hA', h0, hg, Int.toNat_natCast, hwk]) | ((with_reducible refine gcall_eq (hv) ?_ ?_ ?_); (with_reducible rfl); rfl) | (with_reducible exact drawQ_true _ _ (by kernel_rfl)) | (with_reducible refine And.intro (drawQ_true _ _ (by kernel_rfl)) ?_))
          exact ⟨⟨i + 1, hik⟩, by simp only; omega, le_vars (by simp [varsLe, lkp, ren1, ren0, ren0L])⟩
        · obtain rfl : i = k := by omega
          rw [hpk] at hv
          repeat (first | (simp -implicitDefEqProofs only [go_sem, Nat.reduceAdd, Nat.reduceMul, Nat.reduceEqDiff, Nat.reduceLT, Nat.reduceLeDiff, Nat.reduceSub, Nat.reduceBEq, reduceIte, reduceCtorEq, Int.reduceEq, Int.reduceNe, Nat.reduceBneDiff, Int.reduceLE, Int.reduceLT, Int.reduceToNat, Int.reduceAdd, Int.reduceSub, Int.reduceMul, Int.reduceNeg, hA', h0, hg, Int.toNat_natCast]) | ((with_reducible refine gcall_eq (hv) ?_ ?_ ?_); (with_reducible rfl); rfl) | (with_reducible exact drawQ_true _ _ (by kernel_rfl)) | (with_reducible refine And.intro (drawQ_true _ _ (by kernel_rfl)) ?_))
    · have : l.any p = true := by rw [List.any_eq_true]; exact ⟨l[k], List.getElem_mem hk, hpk⟩
      rw [this]; simp
theorem contains_v (l : List (Bool × ByteArray)) (hl : l.length ≤ 1000000) (g : FuncId) (p : Bool × ByteArray → Bool) (hp : ∀ x ∈ l, SoundAt Tryz.prog g [.agg [.bool x.1, .str x.2]] (.bool (p x))) :
    SoundAt Tryz.prog 76 [.slc (l.map wA), .fn g [] []] (.bool (l.any p)) := by
  obtain ⟨k, hs, hk⟩ := index_v l hl g p hp
  rw [← hk]
  refine sound_go (tb := []) 9 [.tmp 4] [0, 1, 4] mixed Tryz.func76 rfl (by kernel_rfl) (by kernel_rfl) (by kernel_rfl) (by kernel_rfl) ?_
  repeat (first | (simp -implicitDefEqProofs only [go_sem, Nat.reduceAdd, Nat.reduceMul, Nat.reduceEqDiff, Nat.reduceLT, Nat.reduceLeDiff, Nat.reduceSub, Nat.reduceBEq, reduceIte, reduceCtorEq, Int.reduceEq, Int.reduceNe, Nat.reduceBneDiff, Int.reduceLE, Int.reduceLT, Int.reduceToNat, Int.reduceAdd, Int.reduceSub, Int.reduceMul, Int.reduceNeg]) | ((with_reducible refine gcall_eq (hs) ?_ ?_ ?_); (with_reducible rfl); rfl) | (with_reducible exact drawQ_true _ _ (by kernel_rfl)) | (with_reducible refine And.intro (drawQ_true _ _ (by kernel_rfl)) ?_))
theorem valid1_v (x : Bool × ByteArray) : SoundAt Tryz.prog 77 [.agg [.bool x.1, .str x.2]] (.bool (!validB x.1 x.2.data.toList)) := by
  have h := wvalid_v x.1 x.2
  refine sound_go (tb := []) 6 [.tmp 2] [0, 1, 2] mixed Tryz.func77 rfl (by kernel_rfl) (by kernel_rfl) (by kernel_rfl) (by kernel_rfl) ?_
  repeat (first | (simp -implicitDefEqProofs only [go_sem, Nat.reduceAdd, Nat.reduceMul, Nat.reduceEqDiff, Nat.reduceLT, Nat.reduceLeDiff, Nat.reduceSub, Nat.reduceBEq, reduceIte, reduceCtorEq, Int.reduceEq, Int.reduceNe, Nat.reduceBneDiff, Int.reduceLE, Int.reduceLT, Int.reduceToNat, Int.reduceAdd, Int.reduceSub, Int.reduceMul, Int.reduceNeg]) | ((with_reducible refine gcall_eq (h) ?_ ?_ ?_); (with_reducible rfl); rfl) | (with_reducible exact drawQ_true _ _ (by kernel_rfl)) | (with_reducible refine And.intro (drawQ_true _ _ (by kernel_rfl)) ?_))
theorem valid_v (l : List (Bool × ByteArray)) (hl : l.length ≤ maxLen) : SoundAt Tryz.prog 39 [.slc (l.map wA)] (.bool (formB l)) := by
  unfold maxLen at hl
  by_cases h1 : 1 ≤ l.length
  · have h1' : ((1 : Int) ≤ (l.length : Int)) = True := by simp only [eq_iff_iff, iff_true]; omega
    by_cases h2 : l.length ≤ 25
    · have h2' : ((l.length : Int) ≤ 25) = True := by simp only [eq_iff_iff, iff_true]; omega
      have hc := contains_v l (by omega) 77 (fun x => !validB x.1 x.2.data.toList) (fun x _ => valid1_v x)
      have e : (!l.any fun x => !validB x.1 x.2.data.toList) = formB l := by
        unfold formB validL
        rw [decide_eq_true h1, decide_eq_true h2, Bool.and_true, Bool.and_true, List.any_eq_not_all_not]
        simp
      refine sound_go (tb := []) 16 [.tmp 2] [0, 2] mixed Tryz.func39 rfl (by kernel_rfl) (by kernel_rfl) (by kernel_rfl) (by kernel_rfl) ?_
      repeat (first | (simp -implicitDefEqProofs only [go_sem, Nat.reduceAdd, Nat.reduceMul, Nat.reduceEqDiff, Nat.reduceLT, Nat.reduceLeDiff, Nat.reduceSub, Nat.reduceBEq, reduceIte, reduceCtorEq, Int.reduceEq, Int.reduceNe, Nat.reduceBneDiff, Int.reduceLE, Int.reduceLT, Int.reduceToNat, Int.reduceAdd, Int.reduceSub, Int.reduceMul, Int.reduceNeg, h1', h2', e, List.length_map]) | ((with_reducible refine gcall_eq (hc) ?_ ?_ ?_); (with_reducible rfl); rfl) | (with_reducible exact drawQ_true _ _ (by kernel_rfl)) | (with_reducible refine And.intro (drawQ_true _ _ (by kernel_rfl)) ?_))
    · have h2' : ((l.length : Int) ≤ 25) = False := by simp only [eq_iff_iff, iff_false]; omega
      have e : formB l = false := by unfold formB; rw [decide_eq_false h2, Bool.and_false, Bool.and_false]
      rw [e]
      refine sound_go (tb := []) 16 [.tmp 2] [0, 2] mixed Tryz.func39 rfl (by kernel_rfl) (by kernel_rfl) (by kernel_rfl) (by kernel_rfl) ?_
      repeat (first | (simp -implicitDefEqProofs only [go_sem, Nat.reduceAdd, Nat.reduceMul, Nat.reduceEqDiff, Nat.reduceLT, Nat.reduceLeDiff, Nat.reduceSub, Nat.reduceBEq, reduceIte, reduceCtorEq, Int.reduceEq, Int.reduceNe, Nat.reduceBneDiff, Int.reduceLE, Int.reduceLT, Int.reduceToNat, Int.reduceAdd, Int.reduceSub, Int.reduceMul, Int.reduceNeg, h1', h2', List.length_map]) | (with_reducible exact drawQ_true _ _ (by kernel_rfl)) | (with_reducible refine And.intro (drawQ_true _ _ (by kernel_rfl)) ?_))
  · have h1' : ((1 : Int) ≤ (l.length : Int)) = False := by simp only [eq_iff_iff, iff_false]; omega
    have e : formB l = false := by unfold formB; rw [decide_eq_false h1, Bool.false_and, Bool.and_false]
    rw [e]
    refine sound_go (tb := []) 16 [.tmp 2] [0, 2] mixed Tryz.func39 rfl (by kernel_rfl) (by kernel_rfl) (by kernel_rfl) (by kernel_rfl) ?_
    repeat (first | (simp -implicitDefEqProofs only [go_sem, Nat.reduceAdd, Nat.reduceMul, Nat.reduceEqDiff, Nat.reduceLT, Nat.reduceLeDiff, Nat.reduceSub, Nat.reduceBEq, reduceIte, reduceCtorEq, Int.reduceEq, Int.reduceNe, Nat.reduceBneDiff, Int.reduceLE, Int.reduceLT, Int.reduceToNat, Int.reduceAdd, Int.reduceSub, Int.reduceMul, Int.reduceNeg, h1', List.length_map]) | (with_reducible exact drawQ_true _ _ (by kernel_rfl)) | (with_reducible refine And.intro (drawQ_true _ _ (by kernel_rfl)) ?_))
end Go.Proofs.YtnpclmmmngmdkaaGreat
