/-
  EN10, EN11, By, EN12, EN13 (merged for the claim).
-/
import Derived.Test.YtnpclmmmngmdkaaEN9
import Derived.Test.YtnpclmmmngmdkaaDu
set_option linter.unusedSimpArgs false
set_option linter.unusedVariables false
namespace Go.Proofs.Ytnpclmmmngmdkaa
open Go.Vl Go.RowKit Go.Dg

def rats (g : Bool) (l : List (Int × Int)) : PV := ratPV (bestF g l).1 (bestF g l).2
theorem rats_nil (g : Bool) : rats g [] = .agg [.bool false, .str ⟨#[]⟩, .bool false, .str ⟨#[]⟩] := ratPV_00
theorem wL_get (fs : List (List Int)) (i : Nat) (h : i < fs.length) : (fs.map wL)[i]? = some (.slc (fs[i].map wPV)) := by rw [List.getElem?_map, List.getElem?_eq_getElem h]; rfl
theorem flat_snoc (fs : List (List Int)) (i : Nat) (h : i < fs.length) : (fs.take (i + 1)).flatMap coefs = (fs.take i).flatMap coefs ++ coefs fs[i] := by
  rw [take_snoc fs i h, List.flatMap_append, List.flatMap_singleton]
set_option maxHeartbeats 4000000 in
theorem least_v (fs : List (List Int)) (g : Bool) (n B : Nat) (hn : n ≤ 24) (hl : fs.length ≤ 1000000) (hf : ∀ f ∈ fs, f.length = n + 1 ∧ bd B f) (hB : B ≤ 65536) :
    SoundAt Try.prog 35 [.slc (fs.map wL), .bool g] (rats g (fs.flatMap coefs)) := by
  have hok : ∀ i, ∀ r ∈ (fs.take i).flatMap coefs, r.1.natAbs < 2 ^ B ∧ r.2.natAbs < 2 ^ 25 ∧ 0 < r.2 := by
    intro i r hr
    obtain ⟨f, hf1, hf2⟩ := List.mem_flatMap.1 hr
    obtain ⟨h1, h2⟩ := hf f (List.mem_of_mem_take hf1)
    exact coefs_ok (by omega) h2 r hf2
  have zm : ((-1 : Int) != 0) = true := rfl
  have zz : ((0 : Int) != 0) = false := rfl
  have z1 : ((1 : Int) != 0) = true := rfl
  refine sound_go (tb := []) 63 [.cell 4 44] [0, 1, 4, 5, 6, 7, 8, 9, 10, 12, 14, 15, 16, 17, 21, 22, 23, 24, 58] mixed Try.func35 rfl (by kernel_rfl) (by kernel_rfl) (by kernel_rfl) (by kernel_rfl) ?_
  simp -implicitDefEqProofs only [go_sem, Nat.reduceAdd, Nat.reduceMul, Nat.reduceEqDiff, Nat.reduceLT, Nat.reduceLeDiff, Nat.reduceSub, Nat.reduceBEq, reduceIte, reduceCtorEq, Int.reduceEq, Int.reduceNe, Nat.reduceBneDiff, Int.reduceLE, Int.reduceLT, Int.reduceToNat, Int.reduceAdd, Int.reduceSub, Int.reduceMul, Int.reduceNeg, List.length_map]
  rw [← rats_nil g]
  refine g_loop mixed (fun k : { k : Nat // k ≤ fs.length } => St.of [(1, .bool g), (4, .bp 0 4 0 0), (5, .bp 100 4 0 0), (14, .slc (fs.map wL)), (15, .int .i64 (fs.length : Int)), (16, .int .i64 (k.1 : Int))]
    [(0, { els := [rats g []], esz := 4, ety := 44, fro := 0, live := true, arr := false }), (100, { els := [rats g ((fs.take k.1).flatMap coefs)], esz := 4, ety := 44, fro := 0, live := true, arr := false })]) (fun k => fs.length - k.1) ⟨0, Nat.zero_le _⟩ ?_ ?_
  · refine le_of (θ := [(0, 0), (100, 100)]) rfl ?_ ?_
    · simp [varsLe, lkp, ren1, ren0, wL]
    · refine ⟨⟨rfl, rfl, rfl, rfl, rfl, .inr ⟨rfl, _, _, rfl, rfl, rfl, rfl⟩⟩, ⟨rfl, rfl, rfl, rfl, rfl, .inr ⟨rfl, _, _, rfl, rfl, rfl, rfl⟩⟩, trivial⟩
  · rintro ⟨k, hk⟩
    by_cases hA : k < fs.length
    · have hA' := ltT hA
      have hnk := nnT k
      have hgf := wL_get fs k hA
      obtain ⟨hfl, hfb⟩ := hf _ (List.getElem_mem hA)
      have hwk := wrap_add1 (a := k) (by omega)
      have hfs := flat_snoc fs k hA
      have hokk := hok (k + 1)
      rw [hfs] at hokk
      have hne : k ≠ 0 → (fs.take k).flatMap coefs ≠ [] := by
        intro h0 e
        have h1 : 0 < fs.length := by omega
        have h2 := List.flatMap_eq_nil_iff.1 e fs[0] (List.mem_take_iff_getElem.2 ⟨0, by omega, rfl⟩)
        have h3 := coefs_length fs[0]
        rw [h2, (hf _ (List.getElem_mem h1)).1] at h3
        cases h3
      repeat (first | (simp -implicitDefEqProofs only [go_sem, Nat.reduceAdd, Nat.reduceMul, Nat.reduceEqDiff, Nat.reduceLT, Nat.reduceLeDiff, Nat.reduceSub, Nat.reduceBEq, reduceIte, reduceCtorEq, Int.reduceEq, Int.reduceNe, Nat.reduceBneDiff, Int.reduceLE, Int.reduceLT, Int.reduceToNat, Int.reduceAdd, Int.reduceSub, Int.reduceMul, Int.reduceNeg, hA', hnk, hgf, Int.toNat_natCast, List.length_map]) | (with_reducible exact drawQ_true _ _ (by kernel_rfl)) | (with_reducible refine And.intro (drawQ_true _ _ (by kernel_rfl)) ?_))
      generalize fs[k] = f at *
      generalize hQ : (fs.take k).flatMap coefs = Q at *
      refine g_loop mixed (fun j : { j : Nat // j ≤ f.length } => St.of [(1, .bool g), (4, .bp 0 4 0 0), (5, .bp 100 4 0 0), (6, .int .i64 (k : Int)), (7, wL f), (14, .slc (fs.map wL)), (15, .int .i64 (fs.length : Int)), (16, .int .i64 (k : Int)), (21, wL f), (22, .int .i64 (f.length : Int)), (23, .int .i64 (j.1 : Int))]
        [(0, { els := [rats g []], esz := 4, ety := 44, fro := 0, live := true, arr := false }), (100, { els := [rats g (Q ++ (coefs f).take j.1)], esz := 4, ety := 44, fro := 0, live := true, arr := false })]) (fun j => f.length - j.1) ⟨0, Nat.zero_le _⟩ ?_ ?_
      · refine le_of (θ := [(0, 0), (100, 100)]) rfl ?_ ?_
        · simp [varsLe, lkp, ren1, ren0, wL]
        · simp only [List.take_zero, List.append_nil]
          refine ⟨⟨rfl, rfl, rfl, rfl, rfl, .inr ⟨rfl, _, _, rfl, rfl, rfl, rfl⟩⟩, ⟨rfl, rfl, rfl, rfl, rfl, .inr ⟨rfl, _, _, rfl, rfl, rfl, rfl⟩⟩, trivial⟩
      · rintro ⟨j, hj⟩
        by_cases hJ : j < f.length
        · have hJ' := ltT hJ
          have hnj := nnT j
          have hgx := wPV_get f j hJ
          have hwj := wrap_add1 (a := j) (by omega)
          have w1 : IntKind.i64.wrap ((f.length : Int) - 1) = (n : Int) := by rw [wrap_i64 (by omega) (by omega)]; omega
          have w2 : IntKind.i64.wrap ((k : Int) + (j : Int)) = ((k + j : Nat) : Int) := by rw [wrap_i64 (by omega) (by omega)]; omega
          have hwy := ways_v n j (by omega) (by omega)
          have hb := bin_i64 (n := n) (k := j) hn
          have hp := bin_posI (n := n) (j := j) (by omega)
          have hof := wOf_v (bin n j : Int) (by omega) (by omega)
          have hxb : f[j].natAbs < 2 ^ 65536 := p2_16 (hfb _ (List.getElem_mem hJ)) hB
          have hcb : (bin n j : Int).natAbs < 2 ^ 65536 := p2_16 (B := 25) (by rw [Int.natAbs_natCast]; have : (2 : Nat) ^ 25 = 33554432 := rfl; omega) (by decide)
          have hra := wRatio_i hxb hcb (by omega)
          have hsn := coefs_snoc (f := f) hJ
          have hr : lowN f[j] (bin (f.length - 1) j : Int) = lowN f[j] (bin n j : Int) ∧ lowD f[j] (bin (f.length - 1) j : Int) = lowD f[j] (bin n j : Int) := by rw [show f.length - 1 = n by omega]; exact ⟨rfl, rfl⟩
          rw [hr.1, hr.2] at hsn
          have hmem : (lowN f[j] (bin n j : Int), lowD f[j] (bin n j : Int)) ∈ Q ++ coefs f := List.mem_append_right _ (List.mem_of_mem_take (by rw [hsn]; exact List.mem_append_right _ (List.mem_singleton.2 rfl)))
          have hrk := hokk _ hmem
          rw [outQ_f (big_small (p2_16 hrk.1 hB) (p2_16 hrk.2.1 (by decide)))] at hra
          have hokq : ∀ r ∈ Q ++ (coefs f).take j, r.1.natAbs < 2 ^ B ∧ r.2.natAbs < 2 ^ 25 ∧ 0 < r.2 := fun r hr => hokk r (by
            rcases List.mem_append.1 hr with h | h
            · exact List.mem_append_left _ h
            · exact List.mem_append_right _ (List.mem_of_mem_take h))
          have hbest := okR_best (g := g) hokq
          have hstep := bestF_snoc g (Q ++ (coefs f).take j) (lowN f[j] (bin n j : Int), lowD f[j] (bin n j : Int))
          rw [List.append_assoc, ← hsn] at hstep
          have hcmp := cmp_v (lowN f[j] (bin n j : Int), lowD f[j] (bin n j : Int)) (bestF g (Q ++ (coefs f).take j)) ⟨p2_16 hrk.1 hB, p2_16 hrk.2.1 (by decide), hrk.2.2⟩ (by
            rcases bestF_mem g (Q ++ (coefs f).take j) with e | e
            · exact .inl e
            · have := hokq _ e
              exact .inr ⟨p2_16 this.1 hB, p2_16 this.2.1 (by decide), this.2.2⟩)
          have hrat : rats g (Q ++ (coefs f).take (j + 1)) = ratPV (bstep g (bestF g (Q ++ (coefs f).take j)) (lowN f[j] (bin n j : Int), lowD f[j] (bin n j : Int))).1 (bstep g (bestF g (Q ++ (coefs f).take j)) (lowN f[j] (bin n j : Int), lowD f[j] (bin n j : Int))).2 := by rw [rats, hstep]
          have hrat0 : rats g (Q ++ (coefs f).take j) = ratPV (bestF g (Q ++ (coefs f).take j)).1 (bestF g (Q ++ (coefs f).take j)).2 := rfl
          have hpos : k + j ≠ 0 → 0 < (bestF g (Q ++ (coefs f).take j)).2 := by
            intro h0
            refine best_pos (fun r hr => (hokq r hr).2.2) ?_
            intro e
            obtain ⟨e1, e2⟩ := List.append_eq_nil_iff.1 e
            by_cases hk0 : k = 0
            · have := congrArg List.length e2
              rw [List.length_take, coefs_length] at this
              simp only [List.length_nil] at this
              omega
            · exact hne hk0 e1
          have hzero : k + j = 0 → bestF g (Q ++ (coefs f).take j) = (0, 0) := by
            intro h0
            obtain ⟨rfl, rfl⟩ : k = 0 ∧ j = 0 := by omega
            rw [← hQ]; rfl
          simp only
          rw [hrat0]
          have fin : ∀ b, rats g (Q ++ (coefs f).take (j + 1)) = b → b = rats g (Q ++ (coefs f).take (j + 1)) := fun b h => h.symm
          generalize hR1 : rats g (Q ++ (coefs f).take (j + 1)) = R1 at *
          generalize bestF g (Q ++ (coefs f).take j) = b at *
          generalize lowN f[j] (bin n j : Int) = x at *
          generalize lowD f[j] (bin n j : Int) = y at *
          generalize (bin n j : Int) = c at *
          by_cases h0 : k + j = 0
          · have z0 : (((k + j : Nat) : Int) == 0) = true := by rw [h0]; rfl
            have hb0 := hzero h0
            subst hb0
            have hR : R1 = ratPV x y := by rw [hrat]; unfold bstep; rw [if_pos (.inl rfl)]
            rw [show cmpB (x, y) (0, 0) = 0 from rfl, show cmpE (0, 0) = 2 from rfl] at hcmp
            repeat (first | (simp -implicitDefEqProofs only [go_sem, Nat.reduceAdd, Nat.reduceMul, Nat.reduceEqDiff, Nat.reduceLT, Nat.reduceLeDiff, Nat.reduceSub, Nat.reduceBEq, reduceIte, reduceCtorEq, Int.reduceEq, Int.reduceNe, Nat.reduceBneDiff, Int.reduceLE, Int.reduceLT, Int.reduceToNat, Int.reduceAdd, Int.reduceSub, Int.reduceMul, Int.reduceNeg, wL, wPV, ratPV, hJ', hnj, hgx, w1, w2, hwj, z0, zm, zz, z1, List.length_map, Int.toNat_natCast]) | ((with_reducible refine gcall_eq (hwy) ?_ ?_ ?_); (with_reducible rfl); rfl) | ((with_reducible refine gcall_eq (hof) ?_ ?_ ?_); (with_reducible rfl); rfl) | ((with_reducible refine gcall_eq (hra) ?_ ?_ ?_); (with_reducible rfl); rfl) | ((with_reducible refine gcall_eq (hcmp) ?_ ?_ ?_); (with_reducible rfl); rfl) | (with_reducible exact drawQ_true _ _ (by kernel_rfl)) | (with_reducible refine And.intro (drawQ_true _ _ (by kernel_rfl)) ?_))
            refine ⟨⟨j + 1, hJ⟩, by simp only; omega, le_of (θ := [(0, 0), (100, 100)]) rfl ?_ ?_⟩
            · simp [varsLe, lkp, ren1, ren0, wL]
            · simp only [hR1, hR]
              refine ⟨⟨rfl, rfl, rfl, rfl, rfl, .inr ⟨rfl, _, _, rfl, rfl, rfl, rfl⟩⟩, ⟨rfl, rfl, rfl, rfl, rfl, .inr ⟨rfl, _, _, rfl, rfl, rfl, rfl⟩⟩, trivial⟩
          · have z0 : (((k + j : Nat) : Int) == 0) = false := by simp only [beq_eq_false_iff_ne, ne_eq]; omega
            have hbp := hpos h0
            rw [show cmpE b = 0 from if_neg (by omega), show cmpB (x, y) b = (x * b.2 - b.1 * y).sign from if_neg (by omega)] at hcmp
            have hbs : bstep g b (x, y) = if (if g = true then b.1 * y < x * b.2 else x * b.2 < b.1 * y) then (x, y) else b := by
              unfold bstep
              simp only [show ¬ b.2 = 0 by omega, false_or]
            rw [hbs] at hrat
            rcases Int.lt_trichotomy (x * b.2) (b.1 * y) with hs | hs | hs
            · rw [show (x * b.2 - b.1 * y).sign = -1 from Int.sign_eq_neg_one_of_neg (by omega)] at hcmp
              cases g with
              | false =>
                have hR : R1 = ratPV x y := by rw [hrat]; simp [hs]
                repeat (first | (simp -implicitDefEqProofs only [go_sem, Nat.reduceAdd, Nat.reduceMul, Nat.reduceEqDiff, Nat.reduceLT, Nat.reduceLeDiff, Nat.reduceSub, Nat.reduceBEq, reduceIte, reduceCtorEq, Int.reduceEq, Int.reduceNe, Nat.reduceBneDiff, Int.reduceLE, Int.reduceLT, Int.reduceToNat, Int.reduceAdd, Int.reduceSub, Int.reduceMul, Int.reduceNeg, wL, wPV, ratPV, hJ', hnj, hgx, w1, w2, hwj, z0, zm, zz, z1, List.length_map, Int.toNat_natCast]) | ((with_reducible refine gcall_eq (hwy) ?_ ?_ ?_); (with_reducible rfl); rfl) | ((with_reducible refine gcall_eq (hof) ?_ ?_ ?_); (with_reducible rfl); rfl) | ((with_reducible refine gcall_eq (hra) ?_ ?_ ?_); (with_reducible rfl); rfl) | ((with_reducible refine gcall_eq (hcmp) ?_ ?_ ?_); (with_reducible rfl); rfl) | (with_reducible exact drawQ_true _ _ (by kernel_rfl)) | (with_reducible refine And.intro (drawQ_true _ _ (by kernel_rfl)) ?_))
                refine ⟨⟨j + 1, hJ⟩, by simp only; omega, le_of (θ := [(0, 0), (100, 100)]) rfl ?_ ?_⟩
                · simp [varsLe, lkp, ren1, ren0, wL]
                · simp only [hR1, hR]
                  refine ⟨⟨rfl, rfl, rfl, rfl, rfl, .inr ⟨rfl, _, _, rfl, rfl, rfl, rfl⟩⟩, ⟨rfl, rfl, rfl, rfl, rfl, .inr ⟨rfl, _, _, rfl, rfl, rfl, rfl⟩⟩, trivial⟩
              | true =>
                have hR : R1 = ratPV b.1 b.2 := by rw [hrat]; simp [show ¬ b.1 * y < x * b.2 by omega]
                repeat (first | (simp -implicitDefEqProofs only [go_sem, Nat.reduceAdd, Nat.reduceMul, Nat.reduceEqDiff, Nat.reduceLT, Nat.reduceLeDiff, Nat.reduceSub, Nat.reduceBEq, reduceIte, reduceCtorEq, Int.reduceEq, Int.reduceNe, Nat.reduceBneDiff, Int.reduceLE, Int.reduceLT, Int.reduceToNat, Int.reduceAdd, Int.reduceSub, Int.reduceMul, Int.reduceNeg, wL, wPV, ratPV, hJ', hnj, hgx, w1, w2, hwj, z0, zm, zz, z1, List.length_map, Int.toNat_natCast]) | ((with_reducible refine gcall_eq (hwy) ?_ ?_ ?_); (with_reducible rfl); rfl) | ((with_reducible refine gcall_eq (hof) ?_ ?_ ?_); (with_reducible rfl); rfl) | ((with_reducible refine gcall_eq (hra) ?_ ?_ ?_); (with_reducible rfl); rfl) | ((with_reducible refine gcall_eq (hcmp) ?_ ?_ ?_); (with_reducible rfl); rfl) | (with_reducible exact drawQ_true _ _ (by kernel_rfl)) | (with_reducible refine And.intro (drawQ_true _ _ (by kernel_rfl)) ?_))
                refine ⟨⟨j + 1, hJ⟩, by simp only; omega, le_of (θ := [(0, 0), (100, 100)]) rfl ?_ ?_⟩
                · simp [varsLe, lkp, ren1, ren0, wL]
                · simp only [hR1, hR]
                  refine ⟨⟨rfl, rfl, rfl, rfl, rfl, .inr ⟨rfl, _, _, rfl, rfl, rfl, rfl⟩⟩, ⟨rfl, rfl, rfl, rfl, rfl, .inr ⟨rfl, _, _, rfl, rfl, rfl, rfl⟩⟩, trivial⟩
            · rw [show (x * b.2 - b.1 * y).sign = 0 from by rw [hs, Int.sub_self]; rfl] at hcmp
              cases g with
              | false =>
                have hR : R1 = ratPV b.1 b.2 := by rw [hrat]; simp [show ¬ x * b.2 < b.1 * y by omega]
                repeat (first | (simp -implicitDefEqProofs only [go_sem, Nat.reduceAdd, Nat.reduceMul, Nat.reduceEqDiff, Nat.reduceLT, Nat.reduceLeDiff, Nat.reduceSub, Nat.reduceBEq, reduceIte, reduceCtorEq, Int.reduceEq, Int.reduceNe, Nat.reduceBneDiff, Int.reduceLE, Int.reduceLT, Int.reduceToNat, Int.reduceAdd, Int.reduceSub, Int.reduceMul, Int.reduceNeg, wL, wPV, ratPV, hJ', hnj, hgx, w1, w2, hwj, z0, zm, zz, z1, List.length_map, Int.toNat_natCast]) | ((with_reducible refine gcall_eq (hwy) ?_ ?_ ?_); (with_reducible rfl); rfl) | ((with_reducible refine gcall_eq (hof) ?_ ?_ ?_); (with_reducible rfl); rfl) | ((with_reducible refine gcall_eq (hra) ?_ ?_ ?_); (with_reducible rfl); rfl) | ((with_reducible refine gcall_eq (hcmp) ?_ ?_ ?_); (with_reducible rfl); rfl) | (with_reducible exact drawQ_true _ _ (by kernel_rfl)) | (with_reducible refine And.intro (drawQ_true _ _ (by kernel_rfl)) ?_))
                refine ⟨⟨j + 1, hJ⟩, by simp only; omega, le_of (θ := [(0, 0), (100, 100)]) rfl ?_ ?_⟩
                · simp [varsLe, lkp, ren1, ren0, wL]
                · simp only [hR1, hR]
                  refine ⟨⟨rfl, rfl, rfl, rfl, rfl, .inr ⟨rfl, _, _, rfl, rfl, rfl, rfl⟩⟩, ⟨rfl, rfl, rfl, rfl, rfl, .inr ⟨rfl, _, _, rfl, rfl, rfl, rfl⟩⟩, trivial⟩
              | true =>
                have hR : R1 = ratPV b.1 b.2 := by rw [hrat]; simp [show ¬ b.1 * y < x * b.2 by omega]
                repeat (first | (simp -implicitDefEqProofs only [go_sem, Nat.reduceAdd, Nat.reduceMul, Nat.reduceEqDiff, Nat.reduceLT, Nat.reduceLeDiff, Nat.reduceSub, Nat.reduceBEq, reduceIte, reduceCtorEq, Int.reduceEq, Int.reduceNe, Nat.reduceBneDiff, Int.reduceLE, Int.reduceLT, Int.reduceToNat, Int.reduceAdd, Int.reduceSub, Int.reduceMul, Int.reduceNeg, wL, wPV, ratPV, hJ', hnj, hgx, w1, w2, hwj, z0, zm, zz, z1, List.length_map, Int.toNat_natCast]) | ((with_reducible refine gcall_eq (hwy) ?_ ?_ ?_); (with_reducible rfl); rfl) | ((with_reducible refine gcall_eq (hof) ?_ ?_ ?_); (with_reducible rfl); rfl) | ((with_reducible refine gcall_eq (hra) ?_ ?_ ?_); (with_reducible rfl); rfl) | ((with_reducible refine gcall_eq (hcmp) ?_ ?_ ?_); (with_reducible rfl); rfl) | (with_reducible exact drawQ_true _ _ (by kernel_rfl)) | (with_reducible refine And.intro (drawQ_true _ _ (by kernel_rfl)) ?_))
                refine ⟨⟨j + 1, hJ⟩, by simp only; omega, le_of (θ := [(0, 0), (100, 100)]) rfl ?_ ?_⟩
                · simp [varsLe, lkp, ren1, ren0, wL]
                · simp only [hR1, hR]
                  refine ⟨⟨rfl, rfl, rfl, rfl, rfl, .inr ⟨rfl, _, _, rfl, rfl, rfl, rfl⟩⟩, ⟨rfl, rfl, rfl, rfl, rfl, .inr ⟨rfl, _, _, rfl, rfl, rfl, rfl⟩⟩, trivial⟩
            · rw [show (x * b.2 - b.1 * y).sign = 1 from Int.sign_eq_one_of_pos (by omega)] at hcmp
              cases g with
              | false =>
                have hR : R1 = ratPV b.1 b.2 := by rw [hrat]; simp [show ¬ x * b.2 < b.1 * y by omega]
                repeat (first | (simp -implicitDefEqProofs only [go_sem, Nat.reduceAdd, Nat.reduceMul, Nat.reduceEqDiff, Nat.reduceLT, Nat.reduceLeDiff, Nat.reduceSub, Nat.reduceBEq, reduceIte, reduceCtorEq, Int.reduceEq, Int.reduceNe, Nat.reduceBneDiff, Int.reduceLE, Int.reduceLT, Int.reduceToNat, Int.reduceAdd, Int.reduceSub, Int.reduceMul, Int.reduceNeg, wL, wPV, ratPV, hJ', hnj, hgx, w1, w2, hwj, z0, zm, zz, z1, List.length_map, Int.toNat_natCast]) | ((with_reducible refine gcall_eq (hwy) ?_ ?_ ?_); (with_reducible rfl); rfl) | ((with_reducible refine gcall_eq (hof) ?_ ?_ ?_); (with_reducible rfl); rfl) | ((with_reducible refine gcall_eq (hra) ?_ ?_ ?_); (with_reducible rfl); rfl) | ((with_reducible refine gcall_eq (hcmp) ?_ ?_ ?_); (with_reducible rfl); rfl) | (with_reducible exact drawQ_true _ _ (by kernel_rfl)) | (with_reducible refine And.intro (drawQ_true _ _ (by kernel_rfl)) ?_))
                refine ⟨⟨j + 1, hJ⟩, by simp only; omega, le_of (θ := [(0, 0), (100, 100)]) rfl ?_ ?_⟩
                · simp [varsLe, lkp, ren1, ren0, wL]
                · simp only [hR1, hR]
                  refine ⟨⟨rfl, rfl, rfl, rfl, rfl, .inr ⟨rfl, _, _, rfl, rfl, rfl, rfl⟩⟩, ⟨rfl, rfl, rfl, rfl, rfl, .inr ⟨rfl, _, _, rfl, rfl, rfl, rfl⟩⟩, trivial⟩
              | true =>
                have hR : R1 = ratPV x y := by rw [hrat]; simp [hs]
                repeat (first | (simp -implicitDefEqProofs only [go_sem, Nat.reduceAdd, Nat.reduceMul, Nat.reduceEqDiff, Nat.reduceLT, Nat.reduceLeDiff, Nat.reduceSub, Nat.reduceBEq, reduceIte, reduceCtorEq, Int.reduceEq, Int.reduceNe, Nat.reduceBneDiff, Int.reduceLE, Int.reduceLT, Int.reduceToNat, Int.reduceAdd, Int.reduceSub, Int.reduceMul, Int.reduceNeg, wL, wPV, ratPV, hJ', hnj, hgx, w1, w2, hwj, z0, zm, zz, z1, List.length_map, Int.toNat_natCast]) | ((with_reducible refine gcall_eq (hwy) ?_ ?_ ?_); (with_reducible rfl); rfl) | ((with_reducible refine gcall_eq (hof) ?_ ?_ ?_); (with_reducible rfl); rfl) | ((with_reducible refine gcall_eq (hra) ?_ ?_ ?_); (with_reducible rfl); rfl) | ((with_reducible refine gcall_eq (hcmp) ?_ ?_ ?_); (with_reducible rfl); rfl) | (with_reducible exact drawQ_true _ _ (by kernel_rfl)) | (with_reducible refine And.intro (drawQ_true _ _ (by kernel_rfl)) ?_))
                refine ⟨⟨j + 1, hJ⟩, by simp only; omega, le_of (θ := [(0, 0), (100, 100)]) rfl ?_ ?_⟩
                · simp [varsLe, lkp, ren1, ren0, wL]
                · simp only [hR1, hR]
                  refine ⟨⟨rfl, rfl, rfl, rfl, rfl, .inr ⟨rfl, _, _, rfl, rfl, rfl, rfl⟩⟩, ⟨rfl, rfl, rfl, rfl, rfl, .inr ⟨rfl, _, _, rfl, rfl, rfl, rfl⟩⟩, trivial⟩
        · have hJ' := ltF hJ
          have e : (coefs f).take j = coefs f := List.take_of_length_le (by rw [coefs_length]; omega)
          simp only [e, ← hfs]
          repeat (first | (simp -implicitDefEqProofs only [go_sem, Nat.reduceAdd, Nat.reduceMul, Nat.reduceEqDiff, Nat.reduceLT, Nat.reduceLeDiff, Nat.reduceSub, Nat.reduceBEq, reduceIte, reduceCtorEq, Int.reduceEq, Int.reduceNe, Nat.reduceBneDiff, Int.reduceLE, Int.reduceLT, Int.reduceToNat, Int.reduceAdd, Int.reduceSub, Int.reduceMul, Int.reduceNeg, wL, hJ', hwk]) | (with_reducible exact drawQ_true _ _ (by kernel_rfl)) | (with_reducible refine And.intro (drawQ_true _ _ (by kernel_rfl)) ?_))
          refine ⟨⟨k + 1, hA⟩, by simp only; omega, le_of (θ := [(0, 0), (100, 100)]) rfl ?_ ?_⟩
          · simp [varsLe, lkp, ren1, ren0]
          · refine ⟨⟨rfl, rfl, rfl, rfl, rfl, .inr ⟨rfl, _, _, rfl, rfl, rfl, rfl⟩⟩, ⟨rfl, rfl, rfl, rfl, rfl, .inr ⟨rfl, _, _, rfl, rfl, rfl, rfl⟩⟩, trivial⟩
    · have hA' := ltF hA
      have e : fs.take k = fs := List.take_of_length_le (by omega)
      simp only [e]
      repeat (first | (simp -implicitDefEqProofs only [go_sem, Nat.reduceAdd, Nat.reduceMul, Nat.reduceEqDiff, Nat.reduceLT, Nat.reduceLeDiff, Nat.reduceSub, Nat.reduceBEq, reduceIte, reduceCtorEq, Int.reduceEq, Int.reduceNe, Nat.reduceBneDiff, Int.reduceLE, Int.reduceLT, Int.reduceToNat, Int.reduceAdd, Int.reduceSub, Int.reduceMul, Int.reduceNeg, hA', rats, ratPV]) | (with_reducible exact drawQ_true _ _ (by kernel_rfl)) | (with_reducible refine And.intro (drawQ_true _ _ (by kernel_rfl)) ?_))
end Go.Proofs.Ytnpclmmmngmdkaa

namespace Go.Proofs.Ytnpclmmmngmdkaa
open Go.Vl Go.RowKit Go.Dg

theorem noR_l (g : Bool) : rats g [] = .agg [.bool false, .str ⟨#[]⟩, .bool false, .str ⟨#[]⟩] := rats_nil g
theorem Bounds_no (l : List (Bool × ByteArray)) (hl : l.length ≤ maxLen) (h : formB l = false) :
    SoundAt Try.prog 14 [.slc (l.map wA)] (.tup [.agg [.bool false, .str ⟨#[]⟩, .bool false, .str ⟨#[]⟩], .agg [.bool false, .str ⟨#[]⟩, .bool false, .str ⟨#[]⟩], .int .i64 2]) := by
  have hv := valid_v l hl
  rw [h] at hv
  refine sound_go (tb := []) 26 [.cell 2 44, .cell 3 44, .tmp 4] [0, 2, 3, 4, 5, 7, 13] mixed Try.func14 rfl (by kernel_rfl) (by kernel_rfl) (by kernel_rfl) (by kernel_rfl) ?_
  repeat (first | (simp -implicitDefEqProofs only [go_sem, Nat.reduceAdd, Nat.reduceMul, Nat.reduceEqDiff, Nat.reduceLT, Nat.reduceLeDiff, Nat.reduceSub, Nat.reduceBEq, reduceIte, reduceCtorEq, Int.reduceEq, Int.reduceNe, Nat.reduceBneDiff, Int.reduceLE, Int.reduceLT, Int.reduceToNat, Int.reduceAdd, Int.reduceSub, Int.reduceMul, Int.reduceNeg]) | ((with_reducible refine gcall_eq (hv) ?_ ?_ ?_); (with_reducible rfl); rfl) | (with_reducible exact drawQ_true _ _ (by kernel_rfl)) | (with_reducible refine And.intro (drawQ_true _ _ (by kernel_rfl)) ?_))
theorem Bounds_full (l : List (Bool × ByteArray)) (h : formB l = true) (hs : ∀ x ∈ l.map wnP, x.natAbs < 2 ^ 65536) (hb : 65536 < bitsF blen (l.map wnP) + 30) :
    SoundAt Try.prog 14 [.slc (l.map wA)] (.tup [.agg [.bool false, .str ⟨#[]⟩, .bool false, .str ⟨#[]⟩], .agg [.bool false, .str ⟨#[]⟩, .bool false, .str ⟨#[]⟩], .int .i64 7]) := by
  obtain ⟨hval, h1, h25⟩ := formB_of h
  have hv := valid_v l (Nat.le_trans h25 (by decide))
  rw [h] at hv
  rw [wA_wPV hval] at hv ⊢
  have hxl : (l.map wnP).length = l.length := List.length_map _
  rw [← hxl] at h1 h25
  generalize l.map wnP = xs at *
  have hsz := size_v xs (by omega) hs
  have hle : bitsF blen xs ≤ 65536 := bitsF_le fun x hx' => p2_blen (hs x hx')
  have w3 : IntKind.i64.wrap ((bitsF blen xs : Int) + 30) = ((bitsF blen xs + 30 : Nat) : Int) := by rw [wrap_i64 (by omega) (by omega)]; omega
  have g4 : ((65536 : Int) < ((bitsF blen xs + 30 : Nat) : Int)) = True := by simp only [eq_iff_iff, iff_true]; omega
  generalize bitsF blen xs = bb at *
  unfold wL at *
  refine sound_go (tb := []) 26 [.cell 2 44, .cell 3 44, .tmp 4] [0, 2, 3, 4, 5, 7, 13] mixed Try.func14 rfl (by kernel_rfl) (by kernel_rfl) (by kernel_rfl) (by kernel_rfl) ?_
  repeat (first | (simp -implicitDefEqProofs only [go_sem, Nat.reduceAdd, Nat.reduceMul, Nat.reduceEqDiff, Nat.reduceLT, Nat.reduceLeDiff, Nat.reduceSub, Nat.reduceBEq, reduceIte, reduceCtorEq, Int.reduceEq, Int.reduceNe, Nat.reduceBneDiff, Int.reduceLE, Int.reduceLT, Int.reduceToNat, Int.reduceAdd, Int.reduceSub, Int.reduceMul, Int.reduceNeg, w3, g4, List.length_map]) | ((with_reducible refine gcall_eq (hv) ?_ ?_ ?_); (with_reducible rfl); rfl) | ((with_reducible refine gcall_eq (hsz) ?_ ?_ ?_); (with_reducible rfl); rfl) | (with_reducible exact drawQ_true _ _ (by kernel_rfl)) | (with_reducible refine And.intro (drawQ_true _ _ (by kernel_rfl)) ?_))
theorem Bounds_v (l : List (Bool × ByteArray)) (n B : Nat) (hn : l.length = n + 1) (h : formB l = true) (hx : ∀ x ∈ l.map wnP, x.natAbs < 2 ^ B) (hB : B + 30 ≤ 65536) :
    SoundAt Try.prog 14 [.slc (l.map wA)] (.tup [rats false (coefs (l.map wnP)), rats true (coefs (l.map wnP)), .int .i64 0]) := by
  obtain ⟨hval, h1, h25⟩ := formB_of h
  have hv := valid_v l (Nat.le_trans h25 (by decide))
  rw [h] at hv
  rw [wA_wPV hval] at hv ⊢
  have hxl : (l.map wnP).length = n + 1 := by rw [List.length_map]; exact hn
  have hn24 : n ≤ 24 := by omega
  generalize l.map wnP = xs at *
  have hsz := size_v xs (by omega) fun x hx' => p2_16 (hx x hx') (by omega)
  have hle : bitsF blen xs ≤ B := bitsF_le fun x hx' => p2_blen (hx x hx')
  have w3 : IntKind.i64.wrap ((bitsF blen xs : Int) + 30) = ((bitsF blen xs + 30 : Nat) : Int) := by rw [wrap_i64 (by omega) (by omega)]; omega
  have g4 : ((65536 : Int) < ((bitsF blen xs + 30 : Nat) : Int)) = False := by simp only [eq_iff_iff, iff_false]; omega
  have l1 := least_v [xs] false n B hn24 (by simp) (fun f hf => by rw [List.mem_singleton] at hf; subst hf; exact ⟨hxl, hx⟩) (by omega)
  have l2 := least_v [xs] true n B hn24 (by simp) (fun f hf => by rw [List.mem_singleton] at hf; subst hf; exact ⟨hxl, hx⟩) (by omega)
  rw [List.flatMap_singleton] at l1 l2
  unfold rats ratPV at l1 l2 ⊢
  simp only [List.map_cons, List.map_nil] at l1 l2
  generalize bestF false (coefs xs) = b1 at *
  generalize bestF true (coefs xs) = b2 at *
  generalize bitsF blen xs = bb at *
  unfold wL at *
  refine sound_go (tb := []) 26 [.cell 2 44, .cell 3 44, .tmp 4] [0, 2, 3, 4, 5, 7, 13] mixed Try.func14 rfl (by kernel_rfl) (by kernel_rfl) (by kernel_rfl) (by kernel_rfl) ?_
  repeat (first | (simp -implicitDefEqProofs only [go_sem, Nat.reduceAdd, Nat.reduceMul, Nat.reduceEqDiff, Nat.reduceLT, Nat.reduceLeDiff, Nat.reduceSub, Nat.reduceBEq, reduceIte, reduceCtorEq, Int.reduceEq, Int.reduceNe, Nat.reduceBneDiff, Int.reduceLE, Int.reduceLT, Int.reduceToNat, Int.reduceAdd, Int.reduceSub, Int.reduceMul, Int.reduceNeg, w3, g4, List.length_map]) | ((with_reducible refine gcall_eq (hv) ?_ ?_ ?_); (with_reducible rfl); rfl) | ((with_reducible refine gcall_eq (hsz) ?_ ?_ ?_); (with_reducible rfl); rfl) | ((with_reducible refine gcall_eq (l1) ?_ ?_ ?_); (with_reducible rfl); rfl) | ((with_reducible refine gcall_eq (l2) ?_ ?_ ?_); (with_reducible rfl); rfl) | (with_reducible exact drawQ_true _ _ (by kernel_rfl)) | (with_reducible refine And.intro (drawQ_true _ _ (by kernel_rfl)) ?_))
def rrats (g : Bool) (l : List (Int × Int)) : PV := rQ (bestF g l).1 (bestF g l).2
theorem rQ_00 : rQ 0 0 = .agg [.bool false, .slc [], .bool false, .slc []] := by unfold rQ di; rw [show (0 : Int).natAbs = 0 from rfl, digs_zero]; rfl
end Go.Proofs.Ytnpclmmmngmdkaa

namespace Go.Vl
open Go.RowKit

theorem le_esc {st : St} {t b esz off len : Nat} {B : Box} (ht : st.var t = some (.bs b esz off len)) (hB : st.box b = some B) (ha : B.arr = true) (he : B.esz = esz) (hn : off + len ≤ B.els.length) :
    Le st ((st.setBox b { B with fro := max B.fro (off + len), live := B.live && true }).setVar t (.slc ((B.els.drop off).take len))) := by
  rintro C a w ⟨ρ, im, h⟩
  obtain ⟨x, hx, hr⟩ := slc_of_bs h (h.var t _ ht) hB ha he hn
  have h1 := h.hold hx hB hn true (.inl rfl)
  refine ⟨ρ, _, h1.root, h1.nt, h1.dfr, h1.imc, ?_, h1.rho, h1.box, h1.inj⟩
  intro t' v' hv'
  simp only [St.setVar, upd] at hv'
  split at hv'
  · rename_i e
    cases hv'
    subst e
    exact .ext _ _ hr
  · exact h1.var t' v' hv'
theorem le_escG {vs : List (Nat × PV)} {bs : List (Nat × Box)} {o : List (List PV)} {y : Option (Nat × Nat)} (t : Nat) {b esz off len : Nat} {B : Box} (ht : lkp vs t = some (.bs b esz off len)) (hB : lkp bs b = some B)
    (ha : B.arr = true) (he : B.esz = esz) (hn : off + len ≤ B.els.length) :
    Le (St.ofG vs bs o y) (St.ofG ((t, .slc ((B.els.drop off).take len)) :: vs) ((b, { B with fro := max B.fro (off + len), live := B.live && true }) :: bs) o y) := le_esc (st := St.ofG vs bs o y) ht hB ha he hn
end Go.Vl

namespace Go.Proofs.Ytnpclmmmngmdkaa
open Go.Vl Go.RowKit Go.Dg

theorem check_arg (l : List (Bool × ByteArray)) (d : Int) (hl : l.length ≤ 100000) (hs : ∀ p ∈ l, p.2.size ≤ 100000) (h : polyB l = false ∨ d < 0 ∨ 8 < d) : SoundAt Try.prog 37 [.slc (l.map wA), .int .i64 d] (.int .i64 2) := by
  have hv := pValid_v l hl hs
  cases hp : polyB l with
  | false =>
    rw [hp] at hv
    refine sound_go (tb := []) 29 [.tmp 4] [0, 1, 4, 5, 17] mixed Try.func37 rfl (by kernel_rfl) (by kernel_rfl) (by kernel_rfl) (by kernel_rfl) ?_
    repeat (first | (simp -implicitDefEqProofs only [go_sem, Nat.reduceAdd, Nat.reduceMul, Nat.reduceEqDiff, Nat.reduceLT, Nat.reduceLeDiff, Nat.reduceSub, Nat.reduceBEq, reduceIte, reduceCtorEq, Int.reduceEq, Int.reduceNe, Nat.reduceBneDiff, Int.reduceLE, Int.reduceLT, Int.reduceToNat, Int.reduceAdd, Int.reduceSub, Int.reduceMul, Int.reduceNeg]) | ((with_reducible refine gcall_eq (hv) ?_ ?_ ?_); (with_reducible rfl); rfl) | (with_reducible exact drawQ_true _ _ (by kernel_rfl)) | (with_reducible refine And.intro (drawQ_true _ _ (by kernel_rfl)) ?_))
  | true =>
    rw [hp] at hv h
    by_cases h1 : d < 0
    · have g1 : (d < 0) = True := eq_true h1
      refine sound_go (tb := []) 29 [.tmp 4] [0, 1, 4, 5, 17] mixed Try.func37 rfl (by kernel_rfl) (by kernel_rfl) (by kernel_rfl) (by kernel_rfl) ?_
      repeat (first | (simp -implicitDefEqProofs only [go_sem, Nat.reduceAdd, Nat.reduceMul, Nat.reduceEqDiff, Nat.reduceLT, Nat.reduceLeDiff, Nat.reduceSub, Nat.reduceBEq, reduceIte, reduceCtorEq, Int.reduceEq, Int.reduceNe, Nat.reduceBneDiff, Int.reduceLE, Int.reduceLT, Int.reduceToNat, Int.reduceAdd, Int.reduceSub, Int.reduceMul, Int.reduceNeg, g1]) | ((with_reducible refine gcall_eq (hv) ?_ ?_ ?_); (with_reducible rfl); rfl) | (with_reducible exact drawQ_true _ _ (by kernel_rfl)) | (with_reducible refine And.intro (drawQ_true _ _ (by kernel_rfl)) ?_))
    · have g1 : (d < 0) = False := eq_false h1
      have g2 : (8 < d) = True := by
        rcases h with h | h | h
        · cases h
        · exact absurd h h1
        · exact eq_true h
      refine sound_go (tb := []) 29 [.tmp 4] [0, 1, 4, 5, 17] mixed Try.func37 rfl (by kernel_rfl) (by kernel_rfl) (by kernel_rfl) (by kernel_rfl) ?_
      repeat (first | (simp -implicitDefEqProofs only [go_sem, Nat.reduceAdd, Nat.reduceMul, Nat.reduceEqDiff, Nat.reduceLT, Nat.reduceLeDiff, Nat.reduceSub, Nat.reduceBEq, reduceIte, reduceCtorEq, Int.reduceEq, Int.reduceNe, Nat.reduceBneDiff, Int.reduceLE, Int.reduceLT, Int.reduceToNat, Int.reduceAdd, Int.reduceSub, Int.reduceMul, Int.reduceNeg, g1, g2]) | ((with_reducible refine gcall_eq (hv) ?_ ?_ ?_); (with_reducible rfl); rfl) | (with_reducible exact drawQ_true _ _ (by kernel_rfl)) | (with_reducible refine And.intro (drawQ_true _ _ (by kernel_rfl)) ?_))
theorem polyB_of {l : List (Bool × ByteArray)} (h : polyB l = true) : validL l = true ∧ l.length ≤ 25 := by
  unfold polyB at h
  simp only [Bool.and_eq_true, decide_eq_true_eq] at h
  exact ⟨h.1, h.2.1⟩
theorem check_v (l : List (Bool × ByteArray)) (n d : Nat) (hs : ∀ p ∈ l, p.2.size ≤ 100000) (hp : polyB l = true) (hn : n = l.length - 1) (hd : d ≤ 8) (hx : ∀ x ∈ l.map wnP, x.natAbs < 2 ^ 65536) :
    SoundAt Try.prog 37 [.slc (l.map wA), .int .i64 (d : Int)] (.int .i64 (if 65536 < bitsF blen (l.map wnP) + n * d + 60 then 7 else 0)) := by
  obtain ⟨hval, h25⟩ := polyB_of hp
  have hv := pValid_v l (by omega) hs
  rw [hp] at hv
  rw [wA_wPV hval] at hv ⊢
  have hxl : (l.map wnP).length = l.length := List.length_map _
  rw [← hxl] at h25 hn
  generalize l.map wnP = xs at *
  have hsz := size_v xs (by omega) hx
  have hle : bitsF blen xs ≤ 65536 := bitsF_le fun x hx' => p2_blen (hx x hx')
  have g1 : ((d : Int) < 0) = False := eq_false (by omega)
  have g2 : ((8 : Int) < (d : Int)) = False := eq_false (by omega)
  have hnd : n * d ≤ 24 * 8 := Nat.mul_le_mul (by omega) hd
  generalize bitsF blen xs = bb at *
  unfold wL at hsz
  by_cases h1 : 1 < xs.length
  · have w1 : IntKind.i64.wrap ((xs.length : Int) - 1) = (n : Int) := by rw [wrap_i64 (by omega) (by omega)]; omega
    have c1 : ((0 : Int) < (n : Int)) = True := eq_true (by omega)
    have w2 : IntKind.i64.wrap ((n : Int) * (d : Int)) = ((n * d : Nat) : Int) := by rw [← Int.natCast_mul]; exact wrapn (by omega)
    have w3 : IntKind.i64.wrap ((bb : Int) + ((n * d : Nat) : Int)) = ((bb + n * d : Nat) : Int) := by rw [wrap_i64 (by omega) (by omega)]; omega
    have w4 : IntKind.i64.wrap (((bb + n * d : Nat) : Int) + 60) = ((bb + n * d + 60 : Nat) : Int) := by rw [wrap_i64 (by omega) (by omega)]; omega
    by_cases hF : 65536 < bb + n * d + 60
    · have g4 : ((65536 : Int) < ((bb + n * d + 60 : Nat) : Int)) = True := eq_true (by omega)
      rw [if_pos hF]
      refine sound_go (tb := []) 29 [.tmp 4] [0, 1, 4, 5, 17] mixed Try.func37 rfl (by kernel_rfl) (by kernel_rfl) (by kernel_rfl) (by kernel_rfl) ?_
      repeat (first | (simp -implicitDefEqProofs only [go_sem, Nat.reduceAdd, Nat.reduceMul, Nat.reduceEqDiff, Nat.reduceLT, Nat.reduceLeDiff, Nat.reduceSub, Nat.reduceBEq, reduceIte, reduceCtorEq, Int.reduceEq, Int.reduceNe, Nat.reduceBneDiff, Int.reduceLE, Int.reduceLT, Int.reduceToNat, Int.reduceAdd, Int.reduceSub, Int.reduceMul, Int.reduceNeg, g1, g2, w1, c1, w2, w3, w4, g4, List.length_map]) | ((with_reducible refine gcall_eq (hv) ?_ ?_ ?_); (with_reducible rfl); rfl) | ((with_reducible refine gcall_eq (hsz) ?_ ?_ ?_); (with_reducible rfl); rfl) | (with_reducible exact drawQ_true _ _ (by kernel_rfl)) | (with_reducible refine And.intro (drawQ_true _ _ (by kernel_rfl)) ?_))
    · have g4 : ((65536 : Int) < ((bb + n * d + 60 : Nat) : Int)) = False := eq_false (by omega)
      rw [if_neg hF]
      refine sound_go (tb := []) 29 [.tmp 4] [0, 1, 4, 5, 17] mixed Try.func37 rfl (by kernel_rfl) (by kernel_rfl) (by kernel_rfl) (by kernel_rfl) ?_
      repeat (first | (simp -implicitDefEqProofs only [go_sem, Nat.reduceAdd, Nat.reduceMul, Nat.reduceEqDiff, Nat.reduceLT, Nat.reduceLeDiff, Nat.reduceSub, Nat.reduceBEq, reduceIte, reduceCtorEq, Int.reduceEq, Int.reduceNe, Nat.reduceBneDiff, Int.reduceLE, Int.reduceLT, Int.reduceToNat, Int.reduceAdd, Int.reduceSub, Int.reduceMul, Int.reduceNeg, g1, g2, w1, c1, w2, w3, w4, g4, List.length_map]) | ((with_reducible refine gcall_eq (hv) ?_ ?_ ?_); (with_reducible rfl); rfl) | ((with_reducible refine gcall_eq (hsz) ?_ ?_ ?_); (with_reducible rfl); rfl) | (with_reducible exact drawQ_true _ _ (by kernel_rfl)) | (with_reducible refine And.intro (drawQ_true _ _ (by kernel_rfl)) ?_))
  · have w1 : IntKind.i64.wrap ((xs.length : Int) - 1) = (xs.length : Int) - 1 := wrap_i64 (by omega) (by omega)
    have c1 : ((0 : Int) < (xs.length : Int) - 1) = False := eq_false (by omega)
    obtain rfl : n = 0 := by omega
    have w2 : IntKind.i64.wrap (0 * (d : Int)) = 0 := by rw [Int.zero_mul]; rfl
    have w3 : IntKind.i64.wrap ((bb : Int) + 0) = (bb : Int) := by rw [Int.add_zero]; exact wrapn (by omega)
    have w4 : IntKind.i64.wrap ((bb : Int) + 60) = ((bb + 60 : Nat) : Int) := by rw [wrap_i64 (by omega) (by omega)]; omega
    rw [Nat.zero_mul, Nat.add_zero]
    by_cases hF : 65536 < bb + 60
    · have g4 : ((65536 : Int) < ((bb + 60 : Nat) : Int)) = True := eq_true (by omega)
      rw [if_pos hF]
      refine sound_go (tb := []) 29 [.tmp 4] [0, 1, 4, 5, 17] mixed Try.func37 rfl (by kernel_rfl) (by kernel_rfl) (by kernel_rfl) (by kernel_rfl) ?_
      repeat (first | (simp -implicitDefEqProofs only [go_sem, Nat.reduceAdd, Nat.reduceMul, Nat.reduceEqDiff, Nat.reduceLT, Nat.reduceLeDiff, Nat.reduceSub, Nat.reduceBEq, reduceIte, reduceCtorEq, Int.reduceEq, Int.reduceNe, Nat.reduceBneDiff, Int.reduceLE, Int.reduceLT, Int.reduceToNat, Int.reduceAdd, Int.reduceSub, Int.reduceMul, Int.reduceNeg, g1, g2, w1, c1, w2, w3, w4, g4, List.length_map]) | ((with_reducible refine gcall_eq (hv) ?_ ?_ ?_); (with_reducible rfl); rfl) | ((with_reducible refine gcall_eq (hsz) ?_ ?_ ?_); (with_reducible rfl); rfl) | (with_reducible exact drawQ_true _ _ (by kernel_rfl)) | (with_reducible refine And.intro (drawQ_true _ _ (by kernel_rfl)) ?_))
    · have g4 : ((65536 : Int) < ((bb + 60 : Nat) : Int)) = False := eq_false (by omega)
      rw [if_neg hF]
      refine sound_go (tb := []) 29 [.tmp 4] [0, 1, 4, 5, 17] mixed Try.func37 rfl (by kernel_rfl) (by kernel_rfl) (by kernel_rfl) (by kernel_rfl) ?_
      repeat (first | (simp -implicitDefEqProofs only [go_sem, Nat.reduceAdd, Nat.reduceMul, Nat.reduceEqDiff, Nat.reduceLT, Nat.reduceLeDiff, Nat.reduceSub, Nat.reduceBEq, reduceIte, reduceCtorEq, Int.reduceEq, Int.reduceNe, Nat.reduceBneDiff, Int.reduceLE, Int.reduceLT, Int.reduceToNat, Int.reduceAdd, Int.reduceSub, Int.reduceMul, Int.reduceNeg, g1, g2, w1, c1, w2, w3, w4, g4, List.length_map]) | ((with_reducible refine gcall_eq (hv) ?_ ?_ ?_); (with_reducible rfl); rfl) | ((with_reducible refine gcall_eq (hsz) ?_ ?_ ?_); (with_reducible rfl); rfl) | (with_reducible exact drawQ_true _ _ (by kernel_rfl)) | (with_reducible refine And.intro (drawQ_true _ _ (by kernel_rfl)) ?_))
/-- Whether some halvings show that a form is at least 0. -/
def nonnegB (f : List Int) : Bool := f.all fun x => decide (0 ≤ x)
def shownF (n : Nat) : Nat → List Int → Bool
  | 0, f => nonnegB f
  | d + 1, f => nonnegB f || (shownF n d (leftH f n) && shownF n d (rightH f n))
def pairI (x : Int) : Bool × ByteArray := (decide (x < 0), mB x)
theorem pairI_wA (xs : List Int) : (xs.map pairI).map wA = xs.map wPV := by rw [List.map_map]; rfl
theorem wnum_pairI (x : Int) : wnum (pairI x).1 (pairI x).2 = x := wnum_magL x
theorem shown1_v (x : Int) (hx : x.natAbs < 2 ^ 65536) : SoundAt Try.prog 69 [.agg [.bool (decide (x < 0)), .str (mB x)]] (.bool (decide (x < 0))) := by
  have h := wSign_i hx
  by_cases h0 : x < 0
  · have g1 : (x.sign < 0) = True := eq_true (by rw [Int.sign_eq_neg_one_of_neg h0]; decide)
    simp only [h0, decide_true]
    simp only [h0, decide_true, wPV] at h
    refine sound_go (tb := []) 6 [.tmp 2] [0, 1, 2] mixed Try.func69 rfl (by kernel_rfl) (by kernel_rfl) (by kernel_rfl) (by kernel_rfl) ?_
    repeat (first | (simp -implicitDefEqProofs only [go_sem, Nat.reduceAdd, Nat.reduceMul, Nat.reduceEqDiff, Nat.reduceLT, Nat.reduceLeDiff, Nat.reduceSub, Nat.reduceBEq, reduceIte, reduceCtorEq, Int.reduceEq, Int.reduceNe, Nat.reduceBneDiff, Int.reduceLE, Int.reduceLT, Int.reduceToNat, Int.reduceAdd, Int.reduceSub, Int.reduceMul, Int.reduceNeg, g1]) | ((with_reducible refine gcall_eq (h) ?_ ?_ ?_); (with_reducible rfl); rfl) | (with_reducible exact drawQ_true _ _ (by kernel_rfl)) | (with_reducible refine And.intro (drawQ_true _ _ (by kernel_rfl)) ?_))
  · have g1 : (x.sign < 0) = False := eq_false (by intro h; exact h0 (Int.sign_neg_iff.1 h))
    simp only [h0, decide_false]
    simp only [h0, decide_false, wPV] at h
    refine sound_go (tb := []) 6 [.tmp 2] [0, 1, 2] mixed Try.func69 rfl (by kernel_rfl) (by kernel_rfl) (by kernel_rfl) (by kernel_rfl) ?_
    repeat (first | (simp -implicitDefEqProofs only [go_sem, Nat.reduceAdd, Nat.reduceMul, Nat.reduceEqDiff, Nat.reduceLT, Nat.reduceLeDiff, Nat.reduceSub, Nat.reduceBEq, reduceIte, reduceCtorEq, Int.reduceEq, Int.reduceNe, Nat.reduceBneDiff, Int.reduceLE, Int.reduceLT, Int.reduceToNat, Int.reduceAdd, Int.reduceSub, Int.reduceMul, Int.reduceNeg, g1]) | ((with_reducible refine gcall_eq (h) ?_ ?_ ?_); (with_reducible rfl); rfl) | (with_reducible exact drawQ_true _ _ (by kernel_rfl)) | (with_reducible refine And.intro (drawQ_true _ _ (by kernel_rfl)) ?_))
theorem containsS_v (f : List Int) (hl : f.length ≤ 1000000) (hf : ∀ x ∈ f, x.natAbs < 2 ^ 65536) : SoundAt Try.prog 54 [.slc (f.map wPV), .fn 69 [] []] (.bool (!nonnegB f)) := by
  have h := contains_v (f.map pairI) (by simpa using hl) 69 (fun q => decide (wnum q.1 q.2 < 0)) (fun q hq => by
    obtain ⟨x, hx, rfl⟩ := List.mem_map.1 hq
    have := shown1_v x (hf x hx)
    simp only [wnum_pairI]
    exact this)
  rw [pairI_wA] at h
  have e : (f.map pairI).any (fun q => decide (wnum q.1 q.2 < 0)) = !nonnegB f := by
    unfold nonnegB
    rw [List.any_map, List.not_all_eq_any_not]
    congr 1
    funext x
    simp only [Function.comp_apply, wnum_pairI]
    by_cases hx : x < 0
    · rw [decide_eq_true hx, decide_eq_false (by omega)]; rfl
    · rw [decide_eq_false hx, decide_eq_true (by omega)]; rfl
  rwa [e] at h
theorem shown_v (n : Nat) (hn : n ≤ 24) : ∀ (d : Nat) (f : List Int) (B : Nat), f.length = n + 1 → bd B f → B + 60 * d + 60 ≤ 60000 → SoundAt Try.prog 41 [wL f, .int .i64 (d : Int)] (.bool (shownF n d f)) := by
  intro d
  induction d with
  | zero =>
    intro f B hl hf hB
    have hc := containsS_v f (by omega) fun x hx => p2_16 (hf x hx) (by omega)
    have z0 : (((0 : Nat) : Int) == 0) = true := rfl
    rw [shownF]
    cases hb : nonnegB f with
    | true =>
      rw [hb] at hc
      refine sound_go (tb := []) 27 [.tmp 4] [0, 1, 4, 5, 6, 9, 11] mixed Try.func41 rfl (by kernel_rfl) (by kernel_rfl) (by kernel_rfl) (by kernel_rfl) ?_
      repeat (first | (simp -implicitDefEqProofs only [go_sem, Nat.reduceAdd, Nat.reduceMul, Nat.reduceEqDiff, Nat.reduceLT, Nat.reduceLeDiff, Nat.reduceSub, Nat.reduceBEq, reduceIte, reduceCtorEq, Int.reduceEq, Int.reduceNe, Nat.reduceBneDiff, Int.reduceLE, Int.reduceLT, Int.reduceToNat, Int.reduceAdd, Int.reduceSub, Int.reduceMul, Int.reduceNeg, wL, z0]) | ((with_reducible refine gcall_eq (hc) ?_ ?_ ?_); (with_reducible rfl); rfl) | (with_reducible exact drawQ_true _ _ (by kernel_rfl)) | (with_reducible refine And.intro (drawQ_true _ _ (by kernel_rfl)) ?_))
    | false =>
      rw [hb] at hc
      refine sound_go (tb := []) 27 [.tmp 4] [0, 1, 4, 5, 6, 9, 11] mixed Try.func41 rfl (by kernel_rfl) (by kernel_rfl) (by kernel_rfl) (by kernel_rfl) ?_
      repeat (first | (simp -implicitDefEqProofs only [go_sem, Nat.reduceAdd, Nat.reduceMul, Nat.reduceEqDiff, Nat.reduceLT, Nat.reduceLeDiff, Nat.reduceSub, Nat.reduceBEq, reduceIte, reduceCtorEq, Int.reduceEq, Int.reduceNe, Nat.reduceBneDiff, Int.reduceLE, Int.reduceLT, Int.reduceToNat, Int.reduceAdd, Int.reduceSub, Int.reduceMul, Int.reduceNeg, wL, z0]) | ((with_reducible refine gcall_eq (hc) ?_ ?_ ?_); (with_reducible rfl); rfl) | (with_reducible exact drawQ_true _ _ (by kernel_rfl)) | (with_reducible refine And.intro (drawQ_true _ _ (by kernel_rfl)) ?_))
  | succ d ih =>
    intro f B hl hf hB
    have hc := containsS_v f (by omega) fun x hx => p2_16 (hf x hx) (by omega)
    have z0 : (((d + 1 : Nat) : Int) == 0) = false := by simp only [beq_eq_false_iff_ne, ne_eq]; omega
    have w1 : IntKind.i64.wrap (((d + 1 : Nat) : Int) - 1) = (d : Int) := by rw [wrap_i64 (by omega) (by omega)]; omega
    rw [shownF]
    cases hb : nonnegB f with
    | true =>
      rw [hb] at hc
      refine sound_go (tb := []) 27 [.tmp 4] [0, 1, 4, 5, 6, 9, 11] mixed Try.func41 rfl (by kernel_rfl) (by kernel_rfl) (by kernel_rfl) (by kernel_rfl) ?_
      repeat (first | (simp -implicitDefEqProofs only [go_sem, Nat.reduceAdd, Nat.reduceMul, Nat.reduceEqDiff, Nat.reduceLT, Nat.reduceLeDiff, Nat.reduceSub, Nat.reduceBEq, reduceIte, reduceCtorEq, Int.reduceEq, Int.reduceNe, Nat.reduceBneDiff, Int.reduceLE, Int.reduceLT, Int.reduceToNat, Int.reduceAdd, Int.reduceSub, Int.reduceMul, Int.reduceNeg, wL, z0]) | ((with_reducible refine gcall_eq (hc) ?_ ?_ ?_); (with_reducible rfl); rfl) | (with_reducible exact drawQ_true _ _ (by kernel_rfl)) | (with_reducible refine And.intro (drawQ_true _ _ (by kernel_rfl)) ?_))
    | false =>
      rw [hb] at hc
      have hh := halves_v f n B hn hl (by omega) hf
      have i1 := ih (leftH f n) (B + 29 + n) (leftH_length f n) (bd_leftH hn hf) (by omega)
      have i2 := ih (rightH f n) (B + 29 + n) (rightH_length f n) (bd_rightH hn hf) (by omega)
      clear ih
      rw [Bool.false_or]
      generalize leftH f n = L at *
      generalize rightH f n = R at *
      unfold wL at *
      cases hL : shownF n d L with
      | false =>
        rw [hL] at i1
        refine sound_go (tb := []) 27 [.tmp 4] [0, 1, 4, 5, 6, 9, 11] mixed Try.func41 rfl (by kernel_rfl) (by kernel_rfl) (by kernel_rfl) (by kernel_rfl) ?_
        repeat (first | (simp -implicitDefEqProofs only [go_sem, Nat.reduceAdd, Nat.reduceMul, Nat.reduceEqDiff, Nat.reduceLT, Nat.reduceLeDiff, Nat.reduceSub, Nat.reduceBEq, reduceIte, reduceCtorEq, Int.reduceEq, Int.reduceNe, Nat.reduceBneDiff, Int.reduceLE, Int.reduceLT, Int.reduceToNat, Int.reduceAdd, Int.reduceSub, Int.reduceMul, Int.reduceNeg, z0, w1]) | ((with_reducible refine gcall_eq (hc) ?_ ?_ ?_); (with_reducible rfl); rfl) | ((with_reducible refine gcall_eq (hh) ?_ ?_ ?_); (with_reducible rfl); rfl) | ((with_reducible refine gcall_eq (i1) ?_ ?_ ?_); (with_reducible rfl); rfl) | ((with_reducible refine gcall_eq (i2) ?_ ?_ ?_); (with_reducible rfl); rfl) | (with_reducible exact drawQ_true _ _ (by kernel_rfl)) | (with_reducible refine And.intro (drawQ_true _ _ (by kernel_rfl)) ?_))
      | true =>
        rw [hL] at i1
        generalize shownF n d R = r at *
        refine sound_go (tb := []) 27 [.tmp 4] [0, 1, 4, 5, 6, 9, 11] mixed Try.func41 rfl (by kernel_rfl) (by kernel_rfl) (by kernel_rfl) (by kernel_rfl) ?_
        repeat (first | (simp -implicitDefEqProofs only [go_sem, Nat.reduceAdd, Nat.reduceMul, Nat.reduceEqDiff, Nat.reduceLT, Nat.reduceLeDiff, Nat.reduceSub, Nat.reduceBEq, reduceIte, reduceCtorEq, Int.reduceEq, Int.reduceNe, Nat.reduceBneDiff, Int.reduceLE, Int.reduceLT, Int.reduceToNat, Int.reduceAdd, Int.reduceSub, Int.reduceMul, Int.reduceNeg, z0, w1]) | ((with_reducible refine gcall_eq (hc) ?_ ?_ ?_); (with_reducible rfl); rfl) | ((with_reducible refine gcall_eq (hh) ?_ ?_ ?_); (with_reducible rfl); rfl) | ((with_reducible refine gcall_eq (i1) ?_ ?_ ?_); (with_reducible rfl); rfl) | ((with_reducible refine gcall_eq (i2) ?_ ?_ ?_); (with_reducible rfl); rfl) | (with_reducible exact drawQ_true _ _ (by kernel_rfl)) | (with_reducible refine And.intro (drawQ_true _ _ (by kernel_rfl)) ?_))
end Go.Proofs.Ytnpclmmmngmdkaa

namespace Go.Proofs.Ytnpclmmmngmdkaa
open Go.Vl Go.RowKit Go.Dg

/-- The form of a polynomial for its own degree. -/
def ownF (l : List (Bool × ByteArray)) : List Int := trans (l.map wnP) 1 (l.length - 1)
theorem Positive_arg (l : List (Bool × ByteArray)) (d : Int) (hl : l.length ≤ 100000) (hs : ∀ p ∈ l, p.2.size ≤ 100000) (h : polyB l = false ∨ d < 0 ∨ 8 < d) : SoundAt Try.prog 17 [.slc (l.map wA), .int .i64 d] (.tup [.bool false, .int .i64 2]) := by
  have hc := check_arg l d hl hs h
  have z2 : ((2 : Int) != 0) = true := rfl
  refine sound_go (tb := []) 21 [.tmp 4, .tmp 5] [0, 1, 4, 5, 6, 11] mixed Try.func17 rfl (by kernel_rfl) (by kernel_rfl) (by kernel_rfl) (by kernel_rfl) ?_
  repeat (first | (simp -implicitDefEqProofs only [go_sem, Nat.reduceAdd, Nat.reduceMul, Nat.reduceEqDiff, Nat.reduceLT, Nat.reduceLeDiff, Nat.reduceSub, Nat.reduceBEq, reduceIte, reduceCtorEq, Int.reduceEq, Int.reduceNe, Nat.reduceBneDiff, Int.reduceLE, Int.reduceLT, Int.reduceToNat, Int.reduceAdd, Int.reduceSub, Int.reduceMul, Int.reduceNeg, z2]) | ((with_reducible refine gcall_eq (hc) ?_ ?_ ?_); (with_reducible rfl); rfl) | (with_reducible exact drawQ_true _ _ (by kernel_rfl)) | (with_reducible refine And.intro (drawQ_true _ _ (by kernel_rfl)) ?_))
theorem Positive_full (l : List (Bool × ByteArray)) (n d : Nat) (hs : ∀ p ∈ l, p.2.size ≤ 100000) (hp : polyB l = true) (hn : n = l.length - 1) (hd : d ≤ 8) (hx : ∀ x ∈ l.map wnP, x.natAbs < 2 ^ 65536)
    (hF : 65536 < bitsF blen (l.map wnP) + n * d + 60) : SoundAt Try.prog 17 [.slc (l.map wA), .int .i64 (d : Int)] (.tup [.bool false, .int .i64 7]) := by
  have hc := check_v l n d hs hp hn hd hx
  rw [if_pos hF] at hc
  have z2 : ((7 : Int) != 0) = true := rfl
  refine sound_go (tb := []) 21 [.tmp 4, .tmp 5] [0, 1, 4, 5, 6, 11] mixed Try.func17 rfl (by kernel_rfl) (by kernel_rfl) (by kernel_rfl) (by kernel_rfl) ?_
  repeat (first | (simp -implicitDefEqProofs only [go_sem, Nat.reduceAdd, Nat.reduceMul, Nat.reduceEqDiff, Nat.reduceLT, Nat.reduceLeDiff, Nat.reduceSub, Nat.reduceBEq, reduceIte, reduceCtorEq, Int.reduceEq, Int.reduceNe, Nat.reduceBneDiff, Int.reduceLE, Int.reduceLT, Int.reduceToNat, Int.reduceAdd, Int.reduceSub, Int.reduceMul, Int.reduceNeg, z2]) | ((with_reducible refine gcall_eq (hc) ?_ ?_ ?_); (with_reducible rfl); rfl) | (with_reducible exact drawQ_true _ _ (by kernel_rfl)) | (with_reducible refine And.intro (drawQ_true _ _ (by kernel_rfl)) ?_))
theorem Positive_v (l : List (Bool × ByteArray)) (d B : Nat) (hs : ∀ p ∈ l, p.2.size ≤ 100000) (hp : polyB l = true) (hd : d ≤ 8) (hx : ∀ x ∈ l.map wnP, x.natAbs < 2 ^ B) (hB : B ≤ 50000) :
    SoundAt Try.prog 17 [.slc (l.map wA), .int .i64 (d : Int)] (.tup [.bool (shownF (l.length - 1) d (ownF l)), .int .i64 0]) := by
  obtain ⟨hval, h25⟩ := polyB_of hp
  have hc := check_v l (l.length - 1) d hs hp rfl hd fun x hx' => p2_16 (hx x hx') (by omega)
  have hnd : (l.length - 1) * d ≤ 24 * 8 := Nat.mul_le_mul (by omega) hd
  have hle : bitsF blen (l.map wnP) ≤ B := bitsF_le fun x hx' => p2_blen (hx x hx')
  rw [if_neg (by omega)] at hc
  unfold ownF
  have hxl : (l.map wnP).length = l.length := List.length_map _
  rw [wA_wPV hval] at hc ⊢
  rw [← hxl] at h25 hnd ⊢
  clear hval hp hs
  generalize l.map wnP = xs at *
  have hof := of_v xs (xs.length - 1) B (by omega) (by omega) (by omega) hx
  have hsh := shown_v (xs.length - 1) (by omega) d (trans xs 1 (xs.length - 1)) (B + 29) (trans_length _ _ _) (bd_trans rfl (by omega) hx) (by omega)
  have z0 : ((0 : Int) != 0) = false := rfl
  obtain ⟨n, hn⟩ : ∃ n : Nat, n = xs.length - 1 := ⟨_, rfl⟩
  rw [← hn] at hof hsh ⊢
  generalize trans xs 1 n = T at *
  generalize shownF n d T = r at *
  unfold wL at *
  by_cases h1 : 1 < xs.length
  · have w1 : IntKind.i64.wrap ((xs.length : Int) - 1) = (n : Int) := by rw [wrap_i64 (by omega) (by omega)]; omega
    have c1 : ((0 : Int) < (n : Int)) = True := eq_true (by omega)
    refine sound_go (tb := []) 21 [.tmp 4, .tmp 5] [0, 1, 4, 5, 6, 11] mixed Try.func17 rfl (by kernel_rfl) (by kernel_rfl) (by kernel_rfl) (by kernel_rfl) ?_
    repeat (first | (simp -implicitDefEqProofs only [go_sem, Nat.reduceAdd, Nat.reduceMul, Nat.reduceEqDiff, Nat.reduceLT, Nat.reduceLeDiff, Nat.reduceSub, Nat.reduceBEq, reduceIte, reduceCtorEq, Int.reduceEq, Int.reduceNe, Nat.reduceBneDiff, Int.reduceLE, Int.reduceLT, Int.reduceToNat, Int.reduceAdd, Int.reduceSub, Int.reduceMul, Int.reduceNeg, z0, w1, c1, List.length_map]) | ((with_reducible refine gcall_eq (hc) ?_ ?_ ?_); (with_reducible rfl); rfl) | ((with_reducible refine gcall_eq (hof) ?_ ?_ ?_); (with_reducible rfl); rfl) | ((with_reducible refine gcall_eq (hsh) ?_ ?_ ?_); (with_reducible rfl); rfl) | (with_reducible exact drawQ_true _ _ (by kernel_rfl)) | (with_reducible refine And.intro (drawQ_true _ _ (by kernel_rfl)) ?_))
  · have w1 : IntKind.i64.wrap ((xs.length : Int) - 1) = (xs.length : Int) - 1 := wrap_i64 (by omega) (by omega)
    have c1 : ((0 : Int) < (xs.length : Int) - 1) = False := eq_false (by omega)
    obtain rfl : n = 0 := by omega
    refine sound_go (tb := []) 21 [.tmp 4, .tmp 5] [0, 1, 4, 5, 6, 11] mixed Try.func17 rfl (by kernel_rfl) (by kernel_rfl) (by kernel_rfl) (by kernel_rfl) ?_
    repeat (first | (simp -implicitDefEqProofs only [go_sem, Nat.reduceAdd, Nat.reduceMul, Nat.reduceEqDiff, Nat.reduceLT, Nat.reduceLeDiff, Nat.reduceSub, Nat.reduceBEq, reduceIte, reduceCtorEq, Int.reduceEq, Int.reduceNe, Nat.reduceBneDiff, Int.reduceLE, Int.reduceLT, Int.reduceToNat, Int.reduceAdd, Int.reduceSub, Int.reduceMul, Int.reduceNeg, z0, w1, c1, List.length_map]) | ((with_reducible refine gcall_eq (hc) ?_ ?_ ?_); (with_reducible rfl); rfl) | ((with_reducible refine gcall_eq (hof) ?_ ?_ ?_); (with_reducible rfl); rfl) | ((with_reducible refine gcall_eq (hsh) ?_ ?_ ?_); (with_reducible rfl); rfl) | (with_reducible exact drawQ_true _ _ (by kernel_rfl)) | (with_reducible refine And.intro (drawQ_true _ _ (by kernel_rfl)) ?_))
end Go.Proofs.Ytnpclmmmngmdkaa
