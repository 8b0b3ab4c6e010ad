/-
  FP3, FP4, FN4 (merged for the claim).
-/
import Derived.Test.YtnpclmmmngmdkaaGreatFN5
set_option linter.unusedSimpArgs false
set_option linter.unusedVariables false
namespace Go.Proofs.YtnpclmmmngmdkaaGreat
open Go.Vl Go.RowKit Go.Dg

theorem wrap_len {n : Nat} (h : 0 < n) (hn : n < 9223372036854775808) : IntKind.i64.wrap ((n : Int) - 1) = ((n - 1 : Nat) : Int) := by rw [wrap_i64 (by omega) (by omega)]; omega
theorem rPTrim_v (xs : List Int) (hl : xs.length ≤ 1000000) : SoundAt Tryz.prog 94 [rL xs] (rL (trimI xs)) := by
  refine sound_go (tb := []) 22 [.tmp 2] [0, 2, 15] mixed Tryz.func94 rfl (by kernel_rfl) (by kernel_rfl) (by kernel_rfl) (by kernel_rfl) ?_
  simp -implicitDefEqProofs only [go_sem, Nat.reduceAdd, Nat.reduceMul, Nat.reduceEqDiff, Nat.reduceLT, Nat.reduceLeDiff, Nat.reduceSub, Nat.reduceBEq, reduceIte, reduceCtorEq, Int.reduceEq, Int.reduceNe, Nat.reduceBneDiff, Int.reduceLE, Int.reduceLT, Int.reduceToNat, Int.reduceAdd, Int.reduceSub, Int.reduceMul, Int.reduceNeg, rL]
  refine g_loop mixed (fun m : { m : Nat // m ≤ xs.length ∧ trimI (xs.take m) = trimI xs } => St.of [(0, rL (xs.take m.1))] []) (fun m => m.1) ⟨xs.length, Nat.le_refl _, by rw [List.take_length]⟩ ?_ ?_
  · exact le_vars (by simp [varsLe, lkp, ren1, ren0, rL])
  · rintro ⟨m, hm, ht⟩
    have hlen : (xs.take m).length = m := by rw [List.length_take]; omega
    simp only
    cases m with
    | zero =>
      have g1 : ((0 : Int) < ((0 : Nat) : Int)) = False := by simp
      have e : trimI xs = [] := by rw [← ht]; rfl
      repeat (first | (simp -implicitDefEqProofs only [go_sem, Nat.reduceAdd, Nat.reduceMul, Nat.reduceEqDiff, Nat.reduceLT, Nat.reduceLeDiff, Nat.reduceSub, Nat.reduceBEq, reduceIte, reduceCtorEq, Int.reduceEq, Int.reduceNe, Nat.reduceBneDiff, Int.reduceLE, Int.reduceLT, Int.reduceToNat, Int.reduceAdd, Int.reduceSub, Int.reduceMul, Int.reduceNeg, rL, List.length_map, hlen, g1, e, List.take_zero, List.map_nil, List.length_nil]) | (with_reducible exact drawQ_true _ _ (by kernel_rfl)) | (with_reducible refine And.intro (drawQ_true _ _ (by kernel_rfl)) ?_))
    | succ m =>
      have g1 : ((0 : Int) < ((m + 1 : Nat) : Int)) = True := by simp only [eq_iff_iff, iff_true]; omega
      have hlt : m < (xs.take (m + 1)).length := by omega
      have w1 : IntKind.i64.wrap (((m + 1 : Nat) : Int) - 1) = (m : Int) := by rw [wrap_i64 (by omega) (by omega)]; omega
      have h0 := nnT m
      have hg := rI_get (xs.take (m + 1)) m hlt
      have hgm : (xs.take (m + 1))[m] = xs[m]'(by omega) := List.getElem_take
      have htk : xs.take (m + 1) = xs.take m ++ [xs[m]'(by omega)] := take_snoc xs m (by omega)
      have hrs := rsign_v ((xs.take (m + 1))[m])
      by_cases hz : xs[m]'(by omega) = 0
      · have g2 : (((xs.take (m + 1))[m]).sign == 0) = true := by rw [hgm, hz]; rfl
        have e1 : ((xs.take (m + 1)).map rI).take m = (xs.take m).map rI := by rw [← List.map_take, List.take_take, Nat.min_eq_left (by omega)]
        have g3 : ((m : Int) ≤ ((m + 1 : Nat) : Int)) = True := by simp only [eq_iff_iff, iff_true]; omega
        have hcl : (((xs.take (m + 1)).map rI).all fun x => x.cells.length == 2) = true := by rw [List.all_map, List.all_eq_true]; intro _ _; rfl
        repeat (first | (simp -implicitDefEqProofs only [go_sem, Nat.reduceAdd, Nat.reduceMul, Nat.reduceEqDiff, Nat.reduceLT, Nat.reduceLeDiff, Nat.reduceSub, Nat.reduceBEq, reduceIte, reduceCtorEq, Int.reduceEq, Int.reduceNe, Nat.reduceBneDiff, Int.reduceLE, Int.reduceLT, Int.reduceToNat, Int.reduceAdd, Int.reduceSub, Int.reduceMul, Int.reduceNeg, rL, rI, di, List.length_map, hlen, g1, g2, g3, w1, h0, hg, Int.toNat_natCast, hcl, e1]) | ((with_reducible refine gcall_eq (hrs) ?_ ?_ ?_); (with_reducible rfl); rfl) | (with_reducible exact drawQ_true _ _ (by kernel_rfl)) | (with_reducible refine And.intro (drawQ_true _ _ (by kernel_rfl)) ?_))
        refine ⟨⟨m, by omega, ?_⟩, by simp only; omega, le_vars (by simp [varsLe, lkp, ren1, ren0, rL])⟩
        rw [← ht, htk, hz, trimI_snoc0]
      · have g2 : (((xs.take (m + 1))[m]).sign == 0) = false := by rw [hgm]; simp only [beq_eq_false_iff_ne, ne_eq, Int.sign_eq_zero_iff_zero]; exact hz
        have e : trimI xs = xs.take (m + 1) := by rw [← ht, htk, trimI_last _ _ hz]
        repeat (first | (simp -implicitDefEqProofs only [go_sem, Nat.reduceAdd, Nat.reduceMul, Nat.reduceEqDiff, Nat.reduceLT, Nat.reduceLeDiff, Nat.reduceSub, Nat.reduceBEq, reduceIte, reduceCtorEq, Int.reduceEq, Int.reduceNe, Nat.reduceBneDiff, Int.reduceLE, Int.reduceLT, Int.reduceToNat, Int.reduceAdd, Int.reduceSub, Int.reduceMul, Int.reduceNeg, rL, rI, di, List.length_map, hlen, g1, g2, w1, h0, hg, Int.toNat_natCast]) | ((with_reducible refine gcall_eq (hrs) ?_ ?_ ?_); (with_reducible rfl); rfl) | (with_reducible exact drawQ_true _ _ (by kernel_rfl)) | (with_reducible refine And.intro (drawQ_true _ _ (by kernel_rfl)) ?_))
        rw [e]
def intsL (l : List Int) : PV := .slc (l.map (PV.int .i64))
theorem ints_get (l : List Int) (i : Nat) (h : i < l.length) : (l.map (PV.int .i64))[i]? = some (.int .i64 l[i]) := by rw [List.getElem?_map, List.getElem?_eq_getElem h]; rfl
theorem map_take {α β : Type} (f : α → β) (l : List α) (i : Nat) (hi : i < l.length) : (l.take (i + 1)).map f = (l.take i).map f ++ [f l[i]] := by rw [take_snoc l i hi, List.map_append]; rfl
theorem rNums_v (l : List Int) (hl : l.length ≤ 1000) (hb : ∀ x ∈ l, -9223372036854775808 ≤ x ∧ x ≤ 9223372036854775807) : SoundAt Tryz.prog 54 [intsL l] (rL (trimI l)) := by
  refine sound_go (tb := []) 21 [.tmp 2] [0, 2, 3, 4, 8] mixed Tryz.func54 rfl (by kernel_rfl) (by kernel_rfl) (by kernel_rfl) (by kernel_rfl) ?_
  simp -implicitDefEqProofs only [go_sem, Nat.reduceAdd, Nat.reduceMul, Nat.reduceEqDiff, Nat.reduceLT, Nat.reduceLeDiff, Nat.reduceSub, Nat.reduceBEq, reduceIte, reduceCtorEq, Int.reduceEq, Int.reduceNe, Nat.reduceBneDiff, Int.reduceLE, Int.reduceLT, Int.reduceToNat, Int.reduceAdd, Int.reduceSub, Int.reduceMul, Int.reduceNeg, intsL]
  refine g_loop mixed (fun i : { i : Nat // i ≤ l.length } => St.of [(0, intsL l), (3, .bs 7 2 0 i.1), (4, .int .i64 (i.1 : Int))]
    [(7, { els := (l.take i.1).map rI, esz := 2, ety := 37, fro := 0, live := true, arr := true })]) (fun i => l.length - i.1) ⟨0, Nat.zero_le _⟩ ?_ ?_
  · refine le_nil1 3 7 2 37 rfl rfl rfl (by decide) [(7, 7)] rfl ?_ ?_
    · simp [varsLe, lkp, ren1, ren0, intsL]
    · simp [boxesLe, lkp, Box.renames]
  · rintro ⟨i, hi⟩
    have hlen : ((l.take i).map rI).length = i := by simp; omega
    by_cases hA : i < l.length
    · have hA' := ltT hA
      have h0 := nnT i
      have hg := ints_get l i hA
      have hwk := wrap_add1 (a := i) (by omega)
      have q1 : (i == i) = true := beq_self_eq_true i
      have q2 : ((i + 1) * 32 ≤ 140737488355328) = True := by simp only [eq_iff_iff, iff_true]; omega
      have q3 : (i + 1 ≤ maxLen) = True := by simp only [eq_iff_iff, iff_true]; unfold maxLen; omega
      obtain ⟨b1, b2⟩ := hb _ (List.getElem_mem hA)
      have hf := rnum_v l[i] b1 b2
      have htk := map_take rI l i hA
      repeat (first | (simp -implicitDefEqProofs only [go_sem, Nat.reduceAdd, Nat.reduceMul, Nat.reduceEqDiff, Nat.reduceLT, Nat.reduceLeDiff, Nat.reduceSub, Nat.reduceBEq, reduceIte, reduceCtorEq, Int.reduceEq, Int.reduceNe, Nat.reduceBneDiff, Int.reduceLE, Int.reduceLT, Int.reduceToNat, Int.reduceAdd, Int.reduceSub, Int.reduceMul, Int.reduceNeg, intsL, rI, di, hA', h0, hg, Int.toNat_natCast, List.length_map, hlen, q1, q2, q3, rI_okf, hwk]) | ((with_reducible refine gcall_eq (hf) ?_ ?_ ?_); (with_reducible rfl); rfl) | (with_reducible exact drawQ_true _ _ (by kernel_rfl)) | (with_reducible refine And.intro (drawQ_true _ _ (by kernel_rfl)) ?_))
      refine ⟨⟨i + 1, hA⟩, by simp only; omega, le_of (θ := [(7, 507)]) rfl ?_ ?_⟩
      · simp [varsLe, lkp, ren1, ren0, intsL]
      · simp only [htk]
        simp [boxesLe, lkp, Box.renames, rI, di]
    · have hA' := ltF hA
      have e1 : ((l.take i).map rI).take i = l.map rI := by rw [List.take_of_length_le (by omega), List.take_of_length_le (show l.length ≤ i by omega)]
      have ht := rPTrim_v l (by omega)
      unfold rL at ht ⊢
      repeat (first | (simp -implicitDefEqProofs only [go_sem, Nat.reduceAdd, Nat.reduceMul, Nat.reduceEqDiff, Nat.reduceLT, Nat.reduceLeDiff, Nat.reduceSub, Nat.reduceBEq, reduceIte, reduceCtorEq, Int.reduceEq, Int.reduceNe, Nat.reduceBneDiff, Int.reduceLE, Int.reduceLT, Int.reduceToNat, Int.reduceAdd, Int.reduceSub, Int.reduceMul, Int.reduceNeg, intsL, hA', hlen, e1, List.length_map]) | ((with_reducible refine gcall_eq (ht) ?_ ?_ ?_); (with_reducible rfl); rfl) | (with_reducible exact drawQ_true _ _ (by kernel_rfl)) | (with_reducible refine And.intro (drawQ_true _ _ (by kernel_rfl)) ?_))
theorem rPTo_v (xs : List Int) (hl : xs.length ≤ 1000000) (hx : ∀ x ∈ xs, x.natAbs < 2 ^ 8000000) : SoundAt Tryz.prog 17 [rL xs] (wL xs) := by
  refine sound_go (tb := []) 20 [.tmp 2] [0, 2, 3, 4, 8] mixed Tryz.func17 rfl (by kernel_rfl) (by kernel_rfl) (by kernel_rfl) (by kernel_rfl) ?_
  simp -implicitDefEqProofs only [go_sem, Nat.reduceAdd, Nat.reduceMul, Nat.reduceEqDiff, Nat.reduceLT, Nat.reduceLeDiff, Nat.reduceSub, Nat.reduceBEq, reduceIte, reduceCtorEq, Int.reduceEq, Int.reduceNe, Nat.reduceBneDiff, Int.reduceLE, Int.reduceLT, Int.reduceToNat, Int.reduceAdd, Int.reduceSub, Int.reduceMul, Int.reduceNeg]
  refine g_loop mixed (fun i : { i : Nat // i ≤ xs.length } => St.of [(0, rL xs), (3, .bs 7 2 0 i.1), (4, .int .i64 (i.1 : Int))]
    [(7, { els := (xs.take i.1).map wPV, esz := 2, ety := 30, fro := 0, live := true, arr := true })]) (fun i => xs.length - i.1) ⟨0, Nat.zero_le _⟩ ?_ ?_
  · refine le_nil1 3 7 2 30 rfl rfl rfl (by decide) [(7, 7)] rfl ?_ ?_
    · simp [varsLe, lkp, ren1, ren0, rL]
    · simp [boxesLe, lkp, Box.renames]
  · rintro ⟨i, hi⟩
    have hlen : ((xs.take i).map wPV).length = i := by simp; omega
    by_cases hA : i < xs.length
    · have hA' := ltT hA
      have h0 := nnT i
      have hg := rI_get xs i hA
      have hwk := wrap_add1 (a := i) (by omega)
      have q1 : (i == i) = true := beq_self_eq_true i
      have q2 : ((i + 1) * 24 ≤ 140737488355328) = True := by simp only [eq_iff_iff, iff_true]; omega
      have q3 : (i + 1 ≤ maxLen) = True := by simp only [eq_iff_iff, iff_true]; unfold maxLen; omega
      have hf := rto_i (hx _ (List.getElem_mem hA))
      have htk := map_take wPV xs i hA
      repeat (first | (simp -implicitDefEqProofs only [go_sem, Nat.reduceAdd, Nat.reduceMul, Nat.reduceEqDiff, Nat.reduceLT, Nat.reduceLeDiff, Nat.reduceSub, Nat.reduceBEq, reduceIte, reduceCtorEq, Int.reduceEq, Int.reduceNe, Nat.reduceBneDiff, Int.reduceLE, Int.reduceLT, Int.reduceToNat, Int.reduceAdd, Int.reduceSub, Int.reduceMul, Int.reduceNeg, rL, rI, di, wPV, hA', h0, hg, Int.toNat_natCast, List.length_map, hlen, q1, q2, q3, wPV_okf, hwk]) | ((with_reducible refine gcall_eq (hf) ?_ ?_ ?_); (with_reducible rfl); rfl) | (with_reducible exact drawQ_true _ _ (by kernel_rfl)) | (with_reducible refine And.intro (drawQ_true _ _ (by kernel_rfl)) ?_))
      refine ⟨⟨i + 1, hA⟩, by simp only; omega, le_of (θ := [(7, 507)]) rfl ?_ ?_⟩
      · simp [varsLe, lkp, ren1, ren0, rL]
      · simp only [htk]
        simp [boxesLe, lkp, Box.renames, wPV]
    · have hA' := ltF hA
      have e1 : ((xs.take i).map wPV).take i = xs.map wPV := by
        rw [List.take_of_length_le (by omega), List.take_of_length_le (show xs.length ≤ i by omega)]
      simp -implicitDefEqProofs only [go_sem, Nat.reduceAdd, Nat.reduceMul, Nat.reduceEqDiff, Nat.reduceLT, Nat.reduceLeDiff, Nat.reduceSub, Nat.reduceBEq, reduceIte, reduceCtorEq, Int.reduceEq, Int.reduceNe, Nat.reduceBneDiff, Int.reduceLE, Int.reduceLT, Int.reduceToNat, Int.reduceAdd, Int.reduceSub, Int.reduceMul, Int.reduceNeg, rL, hA', hlen, e1, wL, List.length_map]
theorem rAt_v (xs : List Int) (i : Nat) (hi : i ≤ 1000000) : SoundAt Tryz.prog 93 [rL xs, .int .i64 (i : Int)] (rI (xs.getD i 0)) := by
  have g1 : ((i : Int) < 0) = False := by simp only [eq_iff_iff, iff_false]; omega
  by_cases h : i < xs.length
  · have g2 : ((xs.length : Int) ≤ (i : Int)) = False := by simp only [eq_iff_iff, iff_false]; omega
    have h0 := nnT i
    have hg := rI_get xs i h
    rw [getD_lt h]
    refine sound_go (tb := []) 18 [.cell 4 37] [0, 1, 4, 12] mixed Tryz.func93 rfl (by kernel_rfl) (by kernel_rfl) (by kernel_rfl) (by kernel_rfl) ?_
    repeat (first | (simp -implicitDefEqProofs only [go_sem, Nat.reduceAdd, Nat.reduceMul, Nat.reduceEqDiff, Nat.reduceLT, Nat.reduceLeDiff, Nat.reduceSub, Nat.reduceBEq, reduceIte, reduceCtorEq, Int.reduceEq, Int.reduceNe, Nat.reduceBneDiff, Int.reduceLE, Int.reduceLT, Int.reduceToNat, Int.reduceAdd, Int.reduceSub, Int.reduceMul, Int.reduceNeg, rL, rI, di, g1, g2, h0, hg, List.length_map, Int.toNat_natCast]) | (with_reducible exact drawQ_true _ _ (by kernel_rfl)) | (with_reducible refine And.intro (drawQ_true _ _ (by kernel_rfl)) ?_))
  · have g2 : ((xs.length : Int) ≤ (i : Int)) = True := by simp only [eq_iff_iff, iff_true]; omega
    rw [getD_ge h, rI_z]
    refine sound_go (tb := []) 18 [.cell 4 37] [0, 1, 4, 12] mixed Tryz.func93 rfl (by kernel_rfl) (by kernel_rfl) (by kernel_rfl) (by kernel_rfl) ?_
    repeat (first | (simp -implicitDefEqProofs only [go_sem, Nat.reduceAdd, Nat.reduceMul, Nat.reduceEqDiff, Nat.reduceLT, Nat.reduceLeDiff, Nat.reduceSub, Nat.reduceBEq, reduceIte, reduceCtorEq, Int.reduceEq, Int.reduceNe, Nat.reduceBneDiff, Int.reduceLE, Int.reduceLT, Int.reduceToNat, Int.reduceAdd, Int.reduceSub, Int.reduceMul, Int.reduceNeg, rL, g1, g2, List.length_map]) | (with_reducible exact drawQ_true _ _ (by kernel_rfl)) | (with_reducible refine And.intro (drawQ_true _ _ (by kernel_rfl)) ?_))
theorem rPAdd_v (p q : List Int) (B : Nat) (hB : B ≤ 6000000) (hp : bd B p) (hq : bd B q) (hl : p.length ≤ 1000) (hl2 : q.length ≤ 1000) : SoundAt Tryz.prog 50 [rL p, rL q] (rL (pAdd p q)) := by
  have hz := zipA_length p q
  refine sound_go (tb := []) 31 [.tmp 4] [0, 1, 4, 5, 6, 16] mixed Tryz.func50 rfl (by kernel_rfl) (by kernel_rfl) (by kernel_rfl) (by kernel_rfl) ?_
  simp -implicitDefEqProofs only [go_sem, Nat.reduceAdd, Nat.reduceMul, Nat.reduceEqDiff, Nat.reduceLT, Nat.reduceLeDiff, Nat.reduceSub, Nat.reduceBEq, reduceIte, reduceCtorEq, Int.reduceEq, Int.reduceNe, Nat.reduceBneDiff, Int.reduceLE, Int.reduceLT, Int.reduceToNat, Int.reduceAdd, Int.reduceSub, Int.reduceMul, Int.reduceNeg]
  refine g_loop mixed (fun i : { i : Nat // i ≤ max p.length q.length } => St.of [(0, rL p), (1, rL q), (5, .bs 7 2 0 i.1), (6, .int .i64 (i.1 : Int))]
    [(7, { els := ((zipA p q).take i.1).map rI, esz := 2, ety := 37, fro := 0, live := true, arr := true })]) (fun i => max p.length q.length - i.1) ⟨0, Nat.zero_le _⟩ ?_ ?_
  · refine le_nil1 5 7 2 37 rfl rfl rfl (by decide) [(7, 7)] rfl ?_ ?_
    · simp [varsLe, lkp, ren1, ren0, rL]
    · simp [boxesLe, lkp, Box.renames]
  · rintro ⟨i, hi⟩
    have hlen : (((zipA p q).take i).map rI).length = i := by rw [List.length_map, List.length_take]; omega
    by_cases hA : i < max p.length q.length
    · have hAz : i < (zipA p q).length := by omega
      have hwk := wrap_add1 (a := i) (by omega)
      have q1 : (i == i) = true := beq_self_eq_true i
      have q2 : ((i + 1) * 32 ≤ 140737488355328) = True := by simp only [eq_iff_iff, iff_true]; omega
      have q3 : (i + 1 ≤ maxLen) = True := by simp only [eq_iff_iff, iff_true]; unfold maxLen; omega
      have a1 := rAt_v p i (by omega)
      have a2 := rAt_v q i (by omega)
      have ad := radd_i (p2_7M (bd_get hp i) (by omega)) (p2_7M (bd_get hq i) (by omega))
      have htk := map_take rI (zipA p q) i hAz
      have hgz : (zipA p q)[i] = p.getD i 0 + q.getD i 0 := by simp [zipA]
      rw [hgz] at htk
      unfold rL at *
      by_cases c1 : i < p.length
      · have c1' := ltT c1
        generalize p.getD i 0 + q.getD i 0 = S at *
        generalize p.getD i 0 = x at *
        generalize q.getD i 0 = y at *
        repeat (first | (simp -implicitDefEqProofs only [go_sem, Nat.reduceAdd, Nat.reduceMul, Nat.reduceEqDiff, Nat.reduceLT, Nat.reduceLeDiff, Nat.reduceSub, Nat.reduceBEq, reduceIte, reduceCtorEq, Int.reduceEq, Int.reduceNe, Nat.reduceBneDiff, Int.reduceLE, Int.reduceLT, Int.reduceToNat, Int.reduceAdd, Int.reduceSub, Int.reduceMul, Int.reduceNeg, rI, di, c1', Int.toNat_natCast, List.length_map, hlen, q1, q2, q3, rI_okf, hwk]) | ((with_reducible refine gcall_eq (a1) ?_ ?_ ?_); (with_reducible rfl); rfl) | ((with_reducible refine gcall_eq (a2) ?_ ?_ ?_); (with_reducible rfl); rfl) | ((with_reducible refine gcall_eq (ad) ?_ ?_ ?_); (with_reducible rfl); rfl) | (with_reducible exact drawQ_true _ _ (by kernel_rfl)) | (with_reducible refine And.intro (drawQ_true _ _ (by kernel_rfl)) ?_))
        refine ⟨⟨i + 1, hA⟩, by simp only; omega, le_of (θ := [(7, 509)]) rfl ?_ ?_⟩
        · simp [varsLe, lkp, ren1, ren0]
        · simp only [htk]
          simp [boxesLe, lkp, Box.renames, rI, di]
      · have c1' := ltF c1
        have c2' := ltT (show i < q.length by omega)
        generalize p.getD i 0 + q.getD i 0 = S at *
        generalize p.getD i 0 = x at *
        generalize q.getD i 0 = y at *
        repeat (first | (simp -implicitDefEqProofs only [go_sem, Nat.reduceAdd, Nat.reduceMul, Nat.reduceEqDiff, Nat.reduceLT, Nat.reduceLeDiff, Nat.reduceSub, Nat.reduceBEq, reduceIte, reduceCtorEq, Int.reduceEq, Int.reduceNe, Nat.reduceBneDiff, Int.reduceLE, Int.reduceLT, Int.reduceToNat, Int.reduceAdd, Int.reduceSub, Int.reduceMul, Int.reduceNeg, rI, di, c1', c2', Int.toNat_natCast, List.length_map, hlen, q1, q2, q3, rI_okf, hwk]) | ((with_reducible refine gcall_eq (a1) ?_ ?_ ?_); (with_reducible rfl); rfl) | ((with_reducible refine gcall_eq (a2) ?_ ?_ ?_); (with_reducible rfl); rfl) | ((with_reducible refine gcall_eq (ad) ?_ ?_ ?_); (with_reducible rfl); rfl) | (with_reducible exact drawQ_true _ _ (by kernel_rfl)) | (with_reducible refine And.intro (drawQ_true _ _ (by kernel_rfl)) ?_))
        refine ⟨⟨i + 1, hA⟩, by simp only; omega, le_of (θ := [(7, 509)]) rfl ?_ ?_⟩
        · simp [varsLe, lkp, ren1, ren0]
        · simp only [htk]
          simp [boxesLe, lkp, Box.renames, rI, di]
    · have c1' := ltF (show ¬ i < p.length by omega)
      have c2' := ltF (show ¬ i < q.length by omega)
      have e1 : (((zipA p q).take i).map rI).take i = (zipA p q).map rI := by rw [List.take_of_length_le (by omega), List.take_of_length_le (show (zipA p q).length ≤ i by omega)]
      have ht := rPTrim_v (zipA p q) (by omega)
      unfold rL pAdd at *
      repeat (first | (simp -implicitDefEqProofs only [go_sem, Nat.reduceAdd, Nat.reduceMul, Nat.reduceEqDiff, Nat.reduceLT, Nat.reduceLeDiff, Nat.reduceSub, Nat.reduceBEq, reduceIte, reduceCtorEq, Int.reduceEq, Int.reduceNe, Nat.reduceBneDiff, Int.reduceLE, Int.reduceLT, Int.reduceToNat, Int.reduceAdd, Int.reduceSub, Int.reduceMul, Int.reduceNeg, c1', c2', hlen, e1, List.length_map]) | ((with_reducible refine gcall_eq (ht) ?_ ?_ ?_); (with_reducible rfl); rfl) | (with_reducible exact drawQ_true _ _ (by kernel_rfl)) | (with_reducible refine And.intro (drawQ_true _ _ (by kernel_rfl)) ?_))
theorem rPScale_v (p : List Int) (c : Int) (B : Nat) (hB : B ≤ 6000000) (hp : bd B p) (hc : c.natAbs < 2 ^ B) (hl : p.length ≤ 1000) : SoundAt Tryz.prog 51 [rL p, rI c] (rL (pScale p c)) := by
  refine sound_go (tb := []) 24 [.tmp 4] [0, 1, 3, 4, 5, 6, 10] mixed Tryz.func51 rfl (by kernel_rfl) (by kernel_rfl) (by kernel_rfl) (by kernel_rfl) ?_
  simp -implicitDefEqProofs only [go_sem, Nat.reduceAdd, Nat.reduceMul, Nat.reduceEqDiff, Nat.reduceLT, Nat.reduceLeDiff, Nat.reduceSub, Nat.reduceBEq, reduceIte, reduceCtorEq, Int.reduceEq, Int.reduceNe, Nat.reduceBneDiff, Int.reduceLE, Int.reduceLT, Int.reduceToNat, Int.reduceAdd, Int.reduceSub, Int.reduceMul, Int.reduceNeg, rI, di]
  refine g_loop mixed (fun i : { i : Nat // i ≤ p.length } => St.of [(0, rL p), (3, .bp 0 2 0 0), (5, .bs 7 2 0 i.1), (6, .int .i64 (i.1 : Int))]
    [(0, { els := [rI c], esz := 2, ety := 37, fro := 0, live := true, arr := false }), (7, { els := ((p.map (· * c)).take i.1).map rI, esz := 2, ety := 37, fro := 0, live := true, arr := true })]) (fun i => p.length - i.1) ⟨0, Nat.zero_le _⟩ ?_ ?_
  · refine le_nil1 5 7 2 37 rfl rfl rfl (by decide) [(0, 0), (7, 7)] rfl ?_ ?_
    · simp [varsLe, lkp, ren1, ren0, rL]
    · exact ⟨⟨rfl, rfl, rfl, rfl, rfl, .inr ⟨rfl, _, _, rfl, rfl, rfl, rfl⟩⟩, ⟨rfl, rfl, rfl, rfl, rfl, .inl ⟨rfl, rfl⟩⟩, trivial⟩
  · rintro ⟨i, hi⟩
    have hlen : (((p.map (· * c)).take i).map rI).length = i := by rw [List.length_map, List.length_take, List.length_map]; omega
    by_cases hA : i < p.length
    · have hA' := ltT hA
      have h0 := nnT i
      have hg := rI_get p i hA
      have hwk := wrap_add1 (a := i) (by omega)
      have q1 : (i == i) = true := beq_self_eq_true i
      have q2 : ((i + 1) * 32 ≤ 140737488355328) = True := by simp only [eq_iff_iff, iff_true]; omega
      have q3 : (i + 1 ≤ maxLen) = True := by simp only [eq_iff_iff, iff_true]; unfold maxLen; omega
      have hm := rmul_i (p2_7M (hp _ (List.getElem_mem hA)) (by omega)) (p2_7M hc (by omega))
      have htk := map_take rI (p.map (· * c)) i (by rw [List.length_map]; exact hA)
      rw [List.getElem_map] at htk
      generalize p[i] * c = M at *
      repeat (first | (simp -implicitDefEqProofs only [go_sem, Nat.reduceAdd, Nat.reduceMul, Nat.reduceEqDiff, Nat.reduceLT, Nat.reduceLeDiff, Nat.reduceSub, Nat.reduceBEq, reduceIte, reduceCtorEq, Int.reduceEq, Int.reduceNe, Nat.reduceBneDiff, Int.reduceLE, Int.reduceLT, Int.reduceToNat, Int.reduceAdd, Int.reduceSub, Int.reduceMul, Int.reduceNeg, rL, rI, di, hA', h0, hg, Int.toNat_natCast, List.length_map, hlen, q1, q2, q3, rI_okf, hwk]) | ((with_reducible refine gcall_eq (hm) ?_ ?_ ?_); (with_reducible rfl); rfl) | (with_reducible exact drawQ_true _ _ (by kernel_rfl)) | (with_reducible refine And.intro (drawQ_true _ _ (by kernel_rfl)) ?_))
      refine ⟨⟨i + 1, hA⟩, by simp only; omega, le_of (θ := [(0, 0), (7, 508)]) rfl ?_ ?_⟩
      · simp [varsLe, lkp, ren1, ren0, rL]
      · exact ⟨⟨rfl, rfl, rfl, rfl, rfl, .inr ⟨rfl, _, _, rfl, rfl, rfl, rfl⟩⟩, ⟨rfl, rfl, rfl, rfl, rfl, .inl ⟨rfl, htk.symm⟩⟩, trivial⟩
    · have hA' := ltF hA
      have e1 : (((p.map (· * c)).take i).map rI).take i = (p.map (· * c)).map rI := by rw [List.take_of_length_le (by omega), List.take_of_length_le (by rw [List.length_map]; omega)]
      have ht := rPTrim_v (p.map (· * c)) (by rw [List.length_map]; omega)
      unfold rL pScale at *
      repeat (first | (simp -implicitDefEqProofs only [go_sem, Nat.reduceAdd, Nat.reduceMul, Nat.reduceEqDiff, Nat.reduceLT, Nat.reduceLeDiff, Nat.reduceSub, Nat.reduceBEq, reduceIte, reduceCtorEq, Int.reduceEq, Int.reduceNe, Nat.reduceBneDiff, Int.reduceLE, Int.reduceLT, Int.reduceToNat, Int.reduceAdd, Int.reduceSub, Int.reduceMul, Int.reduceNeg, hA', hlen, e1, List.length_map]) | ((with_reducible refine gcall_eq (ht) ?_ ?_ ?_); (with_reducible rfl); rfl) | (with_reducible exact drawQ_true _ _ (by kernel_rfl)) | (with_reducible refine And.intro (drawQ_true _ _ (by kernel_rfl)) ?_))
end Go.Proofs.YtnpclmmmngmdkaaGreat

namespace Go.Proofs.YtnpclmmmngmdkaaGreat
open Go.Vl Go.RowKit Go.Dg

theorem rPMul_v (p q : List Int) (B : Nat) (hB : B ≤ 1000000) (hp : bd B p) (hq : bd B q) (hl : p.length + q.length ≤ 64) : SoundAt Tryz.prog 52 [rL p, rL q] (rL (pMul p q)) := by
  have hcl := conv_length p q
  have w1 : IntKind.i64.wrap ((p.length : Int) + (q.length : Int)) = ((p.length + q.length : Nat) : Int) := by rw [wrap_i64 (by omega) (by omega)]; omega
  have w2 : IntKind.i64.wrap (((p.length + q.length : Nat) : Int) - 1) = ((p.length + q.length : Nat) : Int) - 1 := wrap_i64 (by omega) (by omega)
  refine sound_go (tb := []) 50 [.tmp 4] [0, 1, 4, 5, 6, 7, 8, 16, 22, 47] mixed Tryz.func52 rfl (by kernel_rfl) (by kernel_rfl) (by kernel_rfl) (by kernel_rfl) ?_
  simp -implicitDefEqProofs only [go_sem, Nat.reduceAdd, Nat.reduceMul, Nat.reduceEqDiff, Nat.reduceLT, Nat.reduceLeDiff, Nat.reduceSub, Nat.reduceBEq, reduceIte, reduceCtorEq, Int.reduceEq, Int.reduceNe, Nat.reduceBneDiff, Int.reduceLE, Int.reduceLT, Int.reduceToNat, Int.reduceAdd, Int.reduceSub, Int.reduceMul, Int.reduceNeg]
  refine g_loop mixed (fun i : { i : Nat // i ≤ p.length + q.length - 1 } => St.of [(0, rL p), (1, rL q), (5, .bs 7 2 0 i.1), (6, .int .i64 (i.1 : Int))]
    [(7, { els := ((conv p q).take i.1).map rI, esz := 2, ety := 37, fro := 0, live := true, arr := true })]) (fun i => p.length + q.length - 1 - i.1) ⟨0, Nat.zero_le _⟩ ?_ ?_
  · refine le_nil1 5 7 2 37 rfl rfl rfl (by decide) [(7, 7)] rfl ?_ ?_
    · simp [varsLe, lkp, ren1, ren0, rL]
    · simp [boxesLe, lkp, Box.renames]
  · rintro ⟨i, hi⟩
    have hlen : (((conv p q).take i).map rI).length = i := by rw [List.length_map, List.length_take]; omega
    by_cases hA : i < p.length + q.length - 1
    · have hA' : ((i : Int) < ((p.length + q.length : Nat) : Int) - 1) = True := by simp only [eq_iff_iff, iff_true]; omega
      have hAz : i < (conv p q).length := by omega
      have hwi := wrap_add1 (a := i) (by omega)
      repeat (first | (simp -implicitDefEqProofs only [go_sem, Nat.reduceAdd, Nat.reduceMul, Nat.reduceEqDiff, Nat.reduceLT, Nat.reduceLeDiff, Nat.reduceSub, Nat.reduceBEq, reduceIte, reduceCtorEq, Int.reduceEq, Int.reduceNe, Nat.reduceBneDiff, Int.reduceLE, Int.reduceLT, Int.reduceToNat, Int.reduceAdd, Int.reduceSub, Int.reduceMul, Int.reduceNeg, rL, List.length_map, w1, w2, hA']) | (with_reducible exact drawQ_true _ _ (by kernel_rfl)) | (with_reducible refine And.intro (drawQ_true _ _ (by kernel_rfl)) ?_))
      refine g_loop mixed (fun k : { k : Nat // k ≤ i + 1 } => St.of [(0, rL p), (1, rL q), (5, .bs 7 2 0 i), (6, .int .i64 (i : Int)), (7, .bp 501 2 0 0), (8, .int .i64 (k.1 : Int))]
        [(7, { els := ((conv p q).take i).map rI, esz := 2, ety := 37, fro := 0, live := true, arr := true }), (501, { els := [rI (sm (fun k => p.getD k 0 * q.getD (i - k) 0) k.1)], esz := 2, ety := 37, fro := 0, live := true, arr := false })]) (fun k => i + 1 - k.1) ⟨0, Nat.zero_le _⟩ ?_ ?_
      · refine Le.trans (le_upG 501 rfl) (le_of (θ := [(7, 7), (501, 501)]) rfl ?_ ?_)
        · simp [varsLe, lkp, ren1, ren0, rL]
        · refine ⟨⟨rfl, rfl, rfl, rfl, rfl, .inl ⟨rfl, rfl⟩⟩, ⟨rfl, rfl, rfl, rfl, rfl, .inr ⟨rfl, _, _, rfl, rfl, ?_, rfl⟩⟩, trivial⟩
          simp only [sm, rI_z]; rfl
      · rintro ⟨k, hk⟩
        by_cases hK : k < i + 1
        · have hK' := leT (show k ≤ i by omega)
          have hwk := wrap_add1 (a := k) (by omega)
          have w3 := wrap_sub (a := i) (b := k) (by omega) (by omega)
          have a1 := rAt_v p k (by omega)
          have a2 := rAt_v q (i - k) (by omega)
          have hS := conv_bd hp hq hl i k (by omega) hA
          have hT : (p.getD k 0 * q.getD (i - k) 0).natAbs < 2 ^ (B + B) := by rw [Int.natAbs_mul, Nat.pow_add]; exact Nat.mul_lt_mul'' (bd_get hp k) (bd_get hq (i - k))
          have mu := rmul_i (p2_7M (bd_get hp k) (by omega)) (p2_7M (bd_get hq (i - k)) (by omega))
          have ad := radd_i (p2_7M hS (by omega)) (p2_7M hT (by omega))
          have e1 : sm (fun k => p.getD k 0 * q.getD (i - k) 0) k + p.getD k 0 * q.getD (i - k) 0 = sm (fun k => p.getD k 0 * q.getD (i - k) 0) (k + 1) := rfl
          rw [e1] at ad
          generalize hS1 : sm (fun k => p.getD k 0 * q.getD (i - k) 0) (k + 1) = S1 at *
          generalize sm (fun k => p.getD k 0 * q.getD (i - k) 0) k = S at *
          generalize p.getD k 0 * q.getD (i - k) 0 = T at *
          generalize p.getD k 0 = x at *
          generalize q.getD (i - k) 0 = y at *
          unfold rL at *
          repeat (first | (simp -implicitDefEqProofs only [go_sem, Nat.reduceAdd, Nat.reduceMul, Nat.reduceEqDiff, Nat.reduceLT, Nat.reduceLeDiff, Nat.reduceSub, Nat.reduceBEq, reduceIte, reduceCtorEq, Int.reduceEq, Int.reduceNe, Nat.reduceBneDiff, Int.reduceLE, Int.reduceLT, Int.reduceToNat, Int.reduceAdd, Int.reduceSub, Int.reduceMul, Int.reduceNeg, rI, di, hK', hwk, w3, Int.toNat_natCast]) | ((with_reducible refine gcall_eq (a1) ?_ ?_ ?_); (with_reducible rfl); rfl) | ((with_reducible refine gcall_eq (a2) ?_ ?_ ?_); (with_reducible rfl); rfl) | ((with_reducible refine gcall_eq (mu) ?_ ?_ ?_); (with_reducible rfl); rfl) | ((with_reducible refine gcall_eq (ad) ?_ ?_ ?_); (with_reducible rfl); rfl) | (with_reducible exact drawQ_true _ _ (by kernel_rfl)) | (with_reducible refine And.intro (drawQ_true _ _ (by kernel_rfl)) ?_))
          refine ⟨⟨k + 1, by omega⟩, by simp only; omega, le_of (θ := [(7, 7), (501, 501)]) rfl ?_ ?_⟩
          · simp [varsLe, lkp, ren1, ren0]
          · simp only [hS1]
            exact ⟨⟨rfl, rfl, rfl, rfl, rfl, .inl ⟨rfl, rfl⟩⟩, ⟨rfl, rfl, rfl, rfl, rfl, .inr ⟨rfl, _, _, rfl, rfl, rfl, rfl⟩⟩, trivial⟩
        · have hK' := leF (show ¬ k ≤ i by omega)
          obtain rfl : k = i + 1 := by omega
          have q1 : (i == i) = true := beq_self_eq_true i
          have q2 : ((i + 1) * 32 ≤ 140737488355328) = True := by simp only [eq_iff_iff, iff_true]; omega
          have q3 : (i + 1 ≤ maxLen) = True := by simp only [eq_iff_iff, iff_true]; unfold maxLen; omega
          have htk := map_take rI (conv p q) i hAz
          have hgz : (conv p q)[i] = sm (fun k => p.getD k 0 * q.getD (i - k) 0) (i + 1) := by simp [conv]
          rw [hgz] at htk
          generalize sm (fun k => p.getD k 0 * q.getD (i - k) 0) (i + 1) = S at *
          repeat (first | (simp -implicitDefEqProofs only [go_sem, Nat.reduceAdd, Nat.reduceMul, Nat.reduceEqDiff, Nat.reduceLT, Nat.reduceLeDiff, Nat.reduceSub, Nat.reduceBEq, reduceIte, reduceCtorEq, Int.reduceEq, Int.reduceNe, Nat.reduceBneDiff, Int.reduceLE, Int.reduceLT, Int.reduceToNat, Int.reduceAdd, Int.reduceSub, Int.reduceMul, Int.reduceNeg, rL, rI, di, hK', Int.toNat_natCast, hlen, q1, q2, q3, rI_okf, hwi]) | (with_reducible exact drawQ_true _ _ (by kernel_rfl)) | (with_reducible refine And.intro (drawQ_true _ _ (by kernel_rfl)) ?_))
          refine ⟨⟨i + 1, by omega⟩, by simp only; omega, le_of (θ := [(7, 1003)]) rfl ?_ ?_⟩
          · simp [varsLe, lkp, ren1, ren0, rL]
          · exact ⟨⟨rfl, rfl, rfl, rfl, rfl, .inl ⟨rfl, htk.symm⟩⟩, trivial⟩
    · have hA' : ((i : Int) < ((p.length + q.length : Nat) : Int) - 1) = False := by simp only [eq_iff_iff, iff_false]; omega
      have e1 : (((conv p q).take i).map rI).take i = (conv p q).map rI := by rw [List.take_of_length_le (by omega), List.take_of_length_le (show (conv p q).length ≤ i by omega)]
      have ht := rPTrim_v (conv p q) (by omega)
      by_cases hz : p.length = 0
      · have hz' : ((p.length : Int) == 0) = true := by rw [hz]; rfl
        have e2 := pMul_nil (q := q) (.inl (List.length_eq_zero_iff.1 hz))
        rw [e2]
        repeat (first | (simp -implicitDefEqProofs only [go_sem, Nat.reduceAdd, Nat.reduceMul, Nat.reduceEqDiff, Nat.reduceLT, Nat.reduceLeDiff, Nat.reduceSub, Nat.reduceBEq, reduceIte, reduceCtorEq, Int.reduceEq, Int.reduceNe, Nat.reduceBneDiff, Int.reduceLE, Int.reduceLT, Int.reduceToNat, Int.reduceAdd, Int.reduceSub, Int.reduceMul, Int.reduceNeg, rL, List.length_map, w1, w2, hA', hz', List.map_nil]) | (with_reducible exact drawQ_true _ _ (by kernel_rfl)) | (with_reducible refine And.intro (drawQ_true _ _ (by kernel_rfl)) ?_))
      · have hz' : ((p.length : Int) == 0) = false := by simp only [beq_eq_false_iff_ne, ne_eq]; omega
        by_cases hy : q.length = 0
        · have hy' : ((q.length : Int) == 0) = true := by rw [hy]; rfl
          have e2 := pMul_nil (p := p) (.inr (List.length_eq_zero_iff.1 hy))
          rw [e2]
          repeat (first | (simp -implicitDefEqProofs only [go_sem, Nat.reduceAdd, Nat.reduceMul, Nat.reduceEqDiff, Nat.reduceLT, Nat.reduceLeDiff, Nat.reduceSub, Nat.reduceBEq, reduceIte, reduceCtorEq, Int.reduceEq, Int.reduceNe, Nat.reduceBneDiff, Int.reduceLE, Int.reduceLT, Int.reduceToNat, Int.reduceAdd, Int.reduceSub, Int.reduceMul, Int.reduceNeg, rL, List.length_map, w1, w2, hA', hz', hy', List.map_nil]) | (with_reducible exact drawQ_true _ _ (by kernel_rfl)) | (with_reducible refine And.intro (drawQ_true _ _ (by kernel_rfl)) ?_))
        · have hy' : ((q.length : Int) == 0) = false := by simp only [beq_eq_false_iff_ne, ne_eq]; omega
          unfold rL pMul at *
          repeat (first | (simp -implicitDefEqProofs only [go_sem, Nat.reduceAdd, Nat.reduceMul, Nat.reduceEqDiff, Nat.reduceLT, Nat.reduceLeDiff, Nat.reduceSub, Nat.reduceBEq, reduceIte, reduceCtorEq, Int.reduceEq, Int.reduceNe, Nat.reduceBneDiff, Int.reduceLE, Int.reduceLT, Int.reduceToNat, Int.reduceAdd, Int.reduceSub, Int.reduceMul, Int.reduceNeg, List.length_map, w1, w2, hA', hz', hy', hlen, e1]) | ((with_reducible refine gcall_eq (ht) ?_ ?_ ?_); (with_reducible rfl); rfl) | (with_reducible exact drawQ_true _ _ (by kernel_rfl)) | (with_reducible refine And.intro (drawQ_true _ _ (by kernel_rfl)) ?_))
theorem rIPow_v (x : Int) (n B : Nat) (hn : n ≤ 100) (hB : B ≤ 10000) (hx : x.natAbs < 2 ^ B) : SoundAt Tryz.prog 71 [rI x, .int .i64 (n : Int)] (rI (x ^ n)) := by
  have h1 := rnum_v 1 (by decide) (by decide)
  refine sound_go (tb := []) 17 [.cell 4 37] [0, 1, 2, 4, 5, 6, 10] mixed Tryz.func71 rfl (by kernel_rfl) (by kernel_rfl) (by kernel_rfl) (by kernel_rfl) ?_
  repeat (first | (simp -implicitDefEqProofs only [go_sem, Nat.reduceAdd, Nat.reduceMul, Nat.reduceEqDiff, Nat.reduceLT, Nat.reduceLeDiff, Nat.reduceSub, Nat.reduceBEq, reduceIte, reduceCtorEq, Int.reduceEq, Int.reduceNe, Nat.reduceBneDiff, Int.reduceLE, Int.reduceLT, Int.reduceToNat, Int.reduceAdd, Int.reduceSub, Int.reduceMul, Int.reduceNeg, rI, di]) | ((with_reducible refine gcall_eq (h1) ?_ ?_ ?_); (with_reducible rfl); rfl) | (with_reducible exact drawQ_true _ _ (by kernel_rfl)) | (with_reducible refine And.intro (drawQ_true _ _ (by kernel_rfl)) ?_))
  refine g_loop mixed (fun i : { i : Nat // i ≤ n } => St.of [(1, .int .i64 (n : Int)), (2, .bp 0 2 0 0), (4, .bp 1 2 0 0), (5, .bp 101 2 0 0), (6, .int .i64 (i.1 : Int))]
    [(0, { els := [rI x], esz := 2, ety := 37, fro := 0, live := true, arr := false }), (1, { els := [.agg [.bool false, .nilS]], esz := 2, ety := 37, fro := 0, live := true, arr := false }), (101, { els := [rI (x ^ i.1)], esz := 2, ety := 37, fro := 0, live := true, arr := false })]) (fun i => n - i.1) ⟨0, Nat.zero_le _⟩ ?_ ?_
  · refine le_of (θ := [(0, 0), (1, 1), (101, 101)]) rfl ?_ ?_
    · simp [varsLe, lkp, ren1, ren0]
    · refine ⟨⟨rfl, rfl, rfl, rfl, rfl, .inr ⟨rfl, _, _, rfl, rfl, rfl, rfl⟩⟩, ⟨rfl, rfl, rfl, rfl, rfl, .inr ⟨rfl, _, _, rfl, rfl, rfl, rfl⟩⟩, ⟨rfl, rfl, rfl, rfl, rfl, .inr ⟨rfl, _, _, rfl, rfl, ?_, rfl⟩⟩, trivial⟩
      simp only [Int.pow_zero]; rfl
  · rintro ⟨i, hi⟩
    by_cases hA : i < n
    · have hA' := ltT hA
      have hwk := wrap_add1 (a := i) (by omega)
      have hb : B * i ≤ 10000 * 100 := Nat.mul_le_mul hB (by omega)
      have hm := rmul_i (p2_7M (pow_abs_lt hx i) (by omega)) (p2_7M hx (by omega))
      have e : x ^ i * x = x ^ (i + 1) := (Int.pow_succ x i).symm
      rw [e] at hm
      generalize hX : x ^ (i + 1) = Y at *
      generalize x ^ i = Z at *
      repeat (first | (simp -implicitDefEqProofs only [go_sem, Nat.reduceAdd, Nat.reduceMul, Nat.reduceEqDiff, Nat.reduceLT, Nat.reduceLeDiff, Nat.reduceSub, Nat.reduceBEq, reduceIte, reduceCtorEq, Int.reduceEq, Int.reduceNe, Nat.reduceBneDiff, Int.reduceLE, Int.reduceLT, Int.reduceToNat, Int.reduceAdd, Int.reduceSub, Int.reduceMul, Int.reduceNeg, rI, di, hA', hwk]) | ((with_reducible refine gcall_eq (hm) ?_ ?_ ?_); (with_reducible rfl); rfl) | (with_reducible exact drawQ_true _ _ (by kernel_rfl)) | (with_reducible refine And.intro (drawQ_true _ _ (by kernel_rfl)) ?_))
      refine ⟨⟨i + 1, hA⟩, by simp only; omega, le_of (θ := [(0, 0), (1, 1), (101, 101)]) rfl ?_ ?_⟩
      · simp [varsLe, lkp, ren1, ren0]
      · simp only [hX]
        exact ⟨⟨rfl, rfl, rfl, rfl, rfl, .inr ⟨rfl, _, _, rfl, rfl, rfl, rfl⟩⟩, ⟨rfl, rfl, rfl, rfl, rfl, .inr ⟨rfl, _, _, rfl, rfl, rfl, rfl⟩⟩, ⟨rfl, rfl, rfl, rfl, rfl, .inr ⟨rfl, _, _, rfl, rfl, rfl, rfl⟩⟩, trivial⟩
    · have hA' := ltF hA
      obtain rfl : i = n := by omega
      generalize x ^ i = Z at *
      repeat (first | (simp -implicitDefEqProofs only [go_sem, Nat.reduceAdd, Nat.reduceMul, Nat.reduceEqDiff, Nat.reduceLT, Nat.reduceLeDiff, Nat.reduceSub, Nat.reduceBEq, reduceIte, reduceCtorEq, Int.reduceEq, Int.reduceNe, Nat.reduceBneDiff, Int.reduceLE, Int.reduceLT, Int.reduceToNat, Int.reduceAdd, Int.reduceSub, Int.reduceMul, Int.reduceNeg, rI, di, hA']) | (with_reducible exact drawQ_true _ _ (by kernel_rfl)) | (with_reducible refine And.intro (drawQ_true _ _ (by kernel_rfl)) ?_))
theorem one_bd : ∀ x ∈ ([1] : List Int), -9223372036854775808 ≤ x ∧ x ≤ 9223372036854775807 := by simp
theorem rCompose_v (p : List Int) (a b d : Int) (B : Nat) (hB : B ≤ 5000) (hp : bd B p) (ha : a.natAbs < 2 ^ B) (hb : b.natAbs < 2 ^ B) (hd : d.natAbs < 2 ^ B) (hl : p.length ≤ 30) :
    SoundAt Tryz.prog 57 [rL p, rI a, rI b, rI d] (rL (compS p a b d p.length)) := by
  have h1 := rNums_v [1] (by decide) one_bd
  unfold intsL at h1
  have hpl := trimI_pair_len a b
  have hpb := bd_pair ha hb
  have htr := rPTrim_v [a, b] (by simp)
  have ht1 : trimI [1] = pPow (trimI [a, b]) 0 := rfl
  refine sound_go (tb := []) 43 [.tmp 8] [0, 1, 2, 3, 5, 6, 7, 8, 9, 10, 11, 17] mixed Tryz.func57 rfl (by kernel_rfl) (by kernel_rfl) (by kernel_rfl) (by kernel_rfl) ?_
  repeat (first | (simp -implicitDefEqProofs only [go_sem, Nat.reduceAdd, Nat.reduceMul, Nat.reduceEqDiff, Nat.reduceLT, Nat.reduceLeDiff, Nat.reduceSub, Nat.reduceBEq, reduceIte, reduceCtorEq, Int.reduceEq, Int.reduceNe, Nat.reduceBneDiff, Int.reduceLE, Int.reduceLT, Int.reduceToNat, Int.reduceAdd, Int.reduceSub, Int.reduceMul, Int.reduceNeg, rL, rI, di, List.map_cons, List.map_nil]) | ((with_reducible refine gcall_eq (h1) ?_ ?_ ?_); (with_reducible rfl); rfl) | (with_reducible exact drawQ_true _ _ (by kernel_rfl)) | (with_reducible refine And.intro (drawQ_true _ _ (by kernel_rfl)) ?_))
  refine g_loop mixed (fun i : { i : Nat // i ≤ p.length } => St.of [(0, rL p), (5, .bp 0 2 0 0), (6, .bp 1 2 0 0), (7, .bp 2 2 0 0), (9, rL (compS p a b d i.1)), (10, rL (pPow (trimI [a, b]) i.1)), (11, .int .i64 (i.1 : Int))]
    [(0, { els := [rI a], esz := 2, ety := 37, fro := 0, live := true, arr := false }), (1, { els := [rI b], esz := 2, ety := 37, fro := 0, live := true, arr := false }), (2, { els := [rI d], esz := 2, ety := 37, fro := 0, live := true, arr := false })]) (fun i => p.length - i.1) ⟨0, Nat.zero_le _⟩ ?_ ?_
  · refine Le.trans (le_slc0G 9 rfl) (le_of (θ := [(0, 0), (1, 1), (2, 2)]) rfl ?_ ?_)
    · simp [varsLe, lkp, ren1, ren0, rL, compS, pPow]
    · exact ⟨⟨rfl, rfl, rfl, rfl, rfl, .inr ⟨rfl, _, _, rfl, rfl, rfl, rfl⟩⟩, ⟨rfl, rfl, rfl, rfl, rfl, .inr ⟨rfl, _, _, rfl, rfl, rfl, rfl⟩⟩, ⟨rfl, rfl, rfl, rfl, rfl, .inr ⟨rfl, _, _, rfl, rfl, rfl, rfl⟩⟩, trivial⟩
  · rintro ⟨i, hi⟩
    by_cases hA : i < p.length
    · have hA' := ltT hA
      have h0 := nnT i
      have hg := rI_get p i hA
      have hwk := wrap_add1 (a := i) (by omega)
      have w1 := wrap_len (n := p.length) (by omega) (by omega)
      have w2 := wrap_sub (a := p.length - 1) (b := i) (by omega) (by omega)
      have hpw := rIPow_v d (p.length - 1 - i) B (by omega) (by omega) hd
      have h2 : (B + 7) * i ≤ (B + 7) * 30 := Nat.mul_le_mul_left _ (by omega)
      have h4 : B * (p.length - 1 - i) ≤ B * 30 := Nat.mul_le_mul_left _ (by omega)
      have hD := pow_abs_lt hd (p.length - 1 - i)
      have hmu := rmul_i (p2_7M (hp _ (List.getElem_mem hA)) (by omega)) (p2_7M hD (by omega))
      have hM : (p[i] * d ^ (p.length - 1 - i)).natAbs < 2 ^ (B + (B * 30 + 1)) := by
        rw [Int.natAbs_mul, Nat.pow_add]
        exact Nat.mul_lt_mul'' (hp _ (List.getElem_mem hA)) (Nat.lt_of_lt_of_le hD (Nat.pow_le_pow_right (by decide) (by omega)))
      have hT := bd_pPow (m := 1) hpb hpl i (by omega)
      have hTl := pPow_length (m := 1) hpl i
      have hsc := rPScale_v (pPow (trimI [a, b]) i) (p[i] * d ^ (p.length - 1 - i)) ((B + 7) * 30 + 1 + (B + (B * 30 + 1))) (by omega) (bd_mono hT (by omega)) (p2_mono hM (by omega)) (by omega)
      have hSb := bd_compS hp ha hb hd hl i (by omega)
      have hSl := compS_length p a b d i
      have hscb := bd_pScale hT hM
      have hscl := pScale_length (pPow (trimI [a, b]) i) (p[i] * d ^ (p.length - 1 - i))
      have had := rPAdd_v (compS p a b d i) (pScale (pPow (trimI [a, b]) i) (p[i] * d ^ (p.length - 1 - i))) ((B + 7) * 30 + 1 + (B + (B * 30 + 1)) + i) (by omega) hSb (bd_mono hscb (by omega)) (by omega) (by omega)
      have e1 : pAdd (compS p a b d i) (pScale (pPow (trimI [a, b]) i) (p[i] * d ^ (p.length - 1 - i))) = compS p a b d (i + 1) := by rw [compS, getD_lt hA]
      rw [e1] at had
      have hml := rPMul_v (pPow (trimI [a, b]) i) (trimI [a, b]) ((B + 7) * 30 + 1) (by omega) (bd_mono hT (by omega)) (bd_mono hpb (by omega)) (by omega)
      have e2 : pMul (pPow (trimI [a, b]) i) (trimI [a, b]) = pPow (trimI [a, b]) (i + 1) := rfl
      rw [e2] at hml
      generalize hY1 : compS p a b d (i + 1) = S1 at *
      generalize compS p a b d i = S at *
      generalize hT1 : pPow (trimI [a, b]) (i + 1) = T1 at *
      generalize pScale (pPow (trimI [a, b]) i) (p[i] * d ^ (p.length - 1 - i)) = Q at *
      generalize pPow (trimI [a, b]) i = T at *
      generalize p[i] * d ^ (p.length - 1 - i) = M at *
      generalize d ^ (p.length - 1 - i) = D at *
      generalize trimI [a, b] = ab at *
      unfold rL at *
      repeat (first | (simp -implicitDefEqProofs only [go_sem, Nat.reduceAdd, Nat.reduceMul, Nat.reduceEqDiff, Nat.reduceLT, Nat.reduceLeDiff, Nat.reduceSub, Nat.reduceBEq, reduceIte, reduceCtorEq, Int.reduceEq, Int.reduceNe, Nat.reduceBneDiff, Int.reduceLE, Int.reduceLT, Int.reduceToNat, Int.reduceAdd, Int.reduceSub, Int.reduceMul, Int.reduceNeg, rI, di, List.map_cons, List.map_nil, List.length_map, hA', h0, hg, hwk, w1, w2, Int.toNat_natCast]) | ((with_reducible refine gcall_eq (hpw) ?_ ?_ ?_); (with_reducible rfl); rfl) | ((with_reducible refine gcall_eq (hmu) ?_ ?_ ?_); (with_reducible rfl); rfl) | ((with_reducible refine gcall_eq (hsc) ?_ ?_ ?_); (with_reducible rfl); rfl) | ((with_reducible refine gcall_eq (had) ?_ ?_ ?_); (with_reducible rfl); rfl) | ((with_reducible refine gcall_eq (htr) ?_ ?_ ?_); (with_reducible rfl); rfl) | ((with_reducible refine gcall_eq (hml) ?_ ?_ ?_); (with_reducible rfl); rfl) | (with_reducible exact drawQ_true _ _ (by kernel_rfl)) | (with_reducible refine And.intro (drawQ_true _ _ (by kernel_rfl)) ?_))
      refine ⟨⟨i + 1, hA⟩, by simp only; omega, le_of (θ := [(0, 0), (1, 1), (2, 2)]) rfl ?_ ?_⟩
      · simp only [hY1, hT1]
        simp [varsLe, lkp, ren1, ren0]
      · exact ⟨⟨rfl, rfl, rfl, rfl, rfl, .inr ⟨rfl, _, _, rfl, rfl, rfl, rfl⟩⟩, ⟨rfl, rfl, rfl, rfl, rfl, .inr ⟨rfl, _, _, rfl, rfl, rfl, rfl⟩⟩, ⟨rfl, rfl, rfl, rfl, rfl, .inr ⟨rfl, _, _, rfl, rfl, rfl, rfl⟩⟩, trivial⟩
    · have hA' := ltF hA
      obtain rfl : i = p.length := by omega
      repeat (first | (simp -implicitDefEqProofs only [go_sem, Nat.reduceAdd, Nat.reduceMul, Nat.reduceEqDiff, Nat.reduceLT, Nat.reduceLeDiff, Nat.reduceSub, Nat.reduceBEq, reduceIte, reduceCtorEq, Int.reduceEq, Int.reduceNe, Nat.reduceBneDiff, Int.reduceLE, Int.reduceLT, Int.reduceToNat, Int.reduceAdd, Int.reduceSub, Int.reduceMul, Int.reduceNeg, rL, List.length_map, hA']) | (with_reducible exact drawQ_true _ _ (by kernel_rfl)) | (with_reducible refine And.intro (drawQ_true _ _ (by kernel_rfl)) ?_))
end Go.Proofs.YtnpclmmmngmdkaaGreat

namespace Go.Proofs.YtnpclmmmngmdkaaGreat
open Go.Vl Go.RowKit Go.Dg

theorem i64_p2 {n : Int} (h1 : -9223372036854775808 ≤ n) (h2 : n ≤ 9223372036854775807) : n.natAbs < 2 ^ 64 := by
  have : (2 : Nat) ^ 64 = 18446744073709551616 := rfl
  omega
theorem ll_v (l : List Int) (hl : l.length ≤ 1000) (hb : ∀ x ∈ l, -9223372036854775808 ≤ x ∧ x ≤ 9223372036854775807) : SoundAt Tryz.prog 37 [intsL l] (wL l) := by
  refine sound_go (tb := []) 20 [.tmp 2] [0, 2, 3, 5, 6, 7, 8, 9] mixed Tryz.func37 rfl (by kernel_rfl) (by kernel_rfl) (by kernel_rfl) (by kernel_rfl) ?_
  simp -implicitDefEqProofs only [go_sem, Nat.reduceAdd, Nat.reduceMul, Nat.reduceEqDiff, Nat.reduceLT, Nat.reduceLeDiff, Nat.reduceSub, Nat.reduceBEq, reduceIte, reduceCtorEq, Int.reduceEq, Int.reduceNe, Nat.reduceBneDiff, Int.reduceLE, Int.reduceLT, Int.reduceToNat, Int.reduceAdd, Int.reduceSub, Int.reduceMul, Int.reduceNeg, intsL, List.length_map]
  refine g_loop mixed (fun i : { i : Nat // i ≤ l.length } => St.of [(3, .bs 7 2 0 i.1), (6, intsL l), (7, .int .i64 (l.length : Int)), (8, .int .i64 (i.1 : Int))]
    [(7, { els := (l.take i.1).map wPV, esz := 2, ety := 30, fro := 0, live := true, arr := true })]) (fun i => l.length - i.1) ⟨0, Nat.zero_le _⟩ ?_ ?_
  · refine le_nil1 3 7 2 30 rfl rfl rfl (by decide) [(7, 7)] rfl ?_ ?_
    · simp [varsLe, lkp, ren1, ren0, intsL]
    · simp [boxesLe, lkp, Box.renames]
  · rintro ⟨i, hi⟩
    have hlen : ((l.take i).map wPV).length = i := by simp; omega
    by_cases hA : i < l.length
    · have hA' := ltT hA
      have h0 := nnT i
      have hg := ints_get l i hA
      have hwk := wrap_add1 (a := i) (by omega)
      have q1 : (i == i) = true := beq_self_eq_true i
      have q2 : ((i + 1) * 24 ≤ 140737488355328) = True := by simp only [eq_iff_iff, iff_true]; omega
      have q3 : (i + 1 ≤ maxLen) = True := by simp only [eq_iff_iff, iff_true]; unfold maxLen; omega
      obtain ⟨b1, b2⟩ := hb _ (List.getElem_mem hA)
      have hf := rnum_v l[i] b1 b2
      have hto := rto_i (p2_8M (i64_p2 b1 b2) (by decide))
      have htk := map_take wPV l i hA
      repeat (first | (simp -implicitDefEqProofs only [go_sem, Nat.reduceAdd, Nat.reduceMul, Nat.reduceEqDiff, Nat.reduceLT, Nat.reduceLeDiff, Nat.reduceSub, Nat.reduceBEq, reduceIte, reduceCtorEq, Int.reduceEq, Int.reduceNe, Nat.reduceBneDiff, Int.reduceLE, Int.reduceLT, Int.reduceToNat, Int.reduceAdd, Int.reduceSub, Int.reduceMul, Int.reduceNeg, intsL, rI, di, wPV, hA', h0, hg, Int.toNat_natCast, List.length_map, hlen, q1, q2, q3, wPV_okf, hwk]) | ((with_reducible refine gcall_eq (hf) ?_ ?_ ?_); (with_reducible rfl); rfl) | ((with_reducible refine gcall_eq (hto) ?_ ?_ ?_); (with_reducible rfl); rfl) | (with_reducible exact drawQ_true _ _ (by kernel_rfl)) | (with_reducible refine And.intro (drawQ_true _ _ (by kernel_rfl)) ?_))
      refine ⟨⟨i + 1, hA⟩, by simp only; omega, le_of (θ := [(7, 505)]) rfl ?_ ?_⟩
      · simp [varsLe, lkp, ren1, ren0, intsL]
      · simp only [htk]
        simp [boxesLe, lkp, Box.renames, wPV]
    · have hA' := ltF hA
      have e1 : ((l.take i).map wPV).take i = l.map wPV := by rw [List.take_of_length_le (by omega), List.take_of_length_le (show l.length ≤ i by omega)]
      simp -implicitDefEqProofs only [go_sem, Nat.reduceAdd, Nat.reduceMul, Nat.reduceEqDiff, Nat.reduceLT, Nat.reduceLeDiff, Nat.reduceSub, Nat.reduceBEq, reduceIte, reduceCtorEq, Int.reduceEq, Int.reduceNe, Nat.reduceBneDiff, Int.reduceLE, Int.reduceLT, Int.reduceToNat, Int.reduceAdd, Int.reduceSub, Int.reduceMul, Int.reduceNeg, intsL, hA', hlen, e1, wL, List.length_map]
theorem lp_v (l : List Int) (hl : l.length ≤ 1000) (hb : ∀ x ∈ l, -9223372036854775808 ≤ x ∧ x ≤ 9223372036854775807) : SoundAt Tryz.prog 36 [intsL l] (wL (trimI l)) := by
  have h1 := rNums_v l hl hb
  have h2 := rPTo_v (trimI l) (Nat.le_trans (trimI_length l) (by omega)) fun x hx => p2_8M (i64_p2 (hb x (trimI_mem hx)).1 (hb x (trimI_mem hx)).2) (by decide)
  unfold rL wL intsL at *
  refine sound_go (tb := []) 6 [.tmp 2] [0, 2] mixed Tryz.func36 rfl (by kernel_rfl) (by kernel_rfl) (by kernel_rfl) (by kernel_rfl) ?_
  repeat (first | (simp -implicitDefEqProofs only [go_sem, Nat.reduceAdd, Nat.reduceMul, Nat.reduceEqDiff, Nat.reduceLT, Nat.reduceLeDiff, Nat.reduceSub, Nat.reduceBEq, reduceIte, reduceCtorEq, Int.reduceEq, Int.reduceNe, Nat.reduceBneDiff, Int.reduceLE, Int.reduceLT, Int.reduceToNat, Int.reduceAdd, Int.reduceSub, Int.reduceMul, Int.reduceNeg]) | ((with_reducible refine gcall_eq (h1) ?_ ?_ ?_); (with_reducible rfl); rfl) | ((with_reducible refine gcall_eq (h2) ?_ ?_ ?_); (with_reducible rfl); rfl) | (with_reducible exact drawQ_true _ _ (by kernel_rfl)) | (with_reducible refine And.intro (drawQ_true _ _ (by kernel_rfl)) ?_))
theorem lq_v (n d : Int) (n1 : -9223372036854775808 ≤ n) (n2 : n ≤ 9223372036854775807) (d1 : -9223372036854775808 ≤ d) (d2 : d ≤ 9223372036854775807) : SoundAt Tryz.prog 38 [.int .i64 n, .int .i64 d] (ratPV n d) := by
  have h1 := rnum_v n n1 n2
  have h2 := rnum_v d d1 d2
  have h3 := rto_i (p2_8M (i64_p2 n1 n2) (by decide))
  have h4 := rto_i (p2_8M (i64_p2 d1 d2) (by decide))
  unfold ratPV
  refine sound_go (tb := []) 12 [.cell 4 32] [0, 1, 4] mixed Tryz.func38 rfl (by kernel_rfl) (by kernel_rfl) (by kernel_rfl) (by kernel_rfl) ?_
  repeat (first | (simp -implicitDefEqProofs only [go_sem, Nat.reduceAdd, Nat.reduceMul, Nat.reduceEqDiff, Nat.reduceLT, Nat.reduceLeDiff, Nat.reduceSub, Nat.reduceBEq, reduceIte, reduceCtorEq, Int.reduceEq, Int.reduceNe, Nat.reduceBneDiff, Int.reduceLE, Int.reduceLT, Int.reduceToNat, Int.reduceAdd, Int.reduceSub, Int.reduceMul, Int.reduceNeg, rI, di, wPV]) | ((with_reducible refine gcall_eq (h1) ?_ ?_ ?_); (with_reducible rfl); rfl) | ((with_reducible refine gcall_eq (h2) ?_ ?_ ?_); (with_reducible rfl); rfl) | ((with_reducible refine gcall_eq (h3) ?_ ?_ ?_); (with_reducible rfl); rfl) | ((with_reducible refine gcall_eq (h4) ?_ ?_ ?_); (with_reducible rfl); rfl) | (with_reducible exact drawQ_true _ _ (by kernel_rfl)) | (with_reducible refine And.intro (drawQ_true _ _ (by kernel_rfl)) ?_))
end Go.Proofs.YtnpclmmmngmdkaaGreat
