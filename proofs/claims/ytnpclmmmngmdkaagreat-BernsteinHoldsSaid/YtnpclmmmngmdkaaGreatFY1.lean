/-
  FN8, FN13, FN25, FN26, FN27, FY1 (merged for the claim).
-/
import Derived.Test.YtnpclmmmngmdkaaGreatFN12
import Derived.Test.YtnpclmmmngmdkaaGreatFN24
import Derived.Test.YtnpclmmmngmdkaaGreatFN6
import Derived.Test.YtnpclmmmngmdkaaGreatFP3
import Derived.Test.YtnpclmmmngmdkaaGreatRows
import Derived.Test.YtnpclmmmngmdkaaGreatDn
set_option linter.unusedSimpArgs false
set_option linter.unusedVariables false
namespace Go.Proofs.YtnpclmmmngmdkaaGreat
open Go.Vl Go.RowKit Go.Dg

theorem tmod2 (n : Nat) : Int.tmod (n : Int) 2 = ((n % 2 : Nat) : Int) := by
  rw [Int.tmod_eq_emod_of_nonneg (by omega)]; rfl
set_option maxHeartbeats 4000000 in
theorem Poly_v (l : List (Bool × ByteArray)) (n B : Nat) (hn : l.length = n + 1) (h : formB l = true) (hx : ∀ x ∈ l.map wnP, x.natAbs < 2 ^ B) (hB : B + 30 ≤ 65536) :
    SoundAt Tryz.prog 10 [.slc (l.map wA)] (.tup [wL (trimI (trans (l.map wnP) (-1) n)), .int .i64 0]) := by
  obtain ⟨hval, h1, h25⟩ := formB_of h
  have hv := valid_v l (Nat.le_trans h25 (by decide))
  rw [h] at hv
  rw [wA_wPV hval] at hv ⊢
  have hxl : (l.map wnP).length = n + 1 := by rw [List.length_map]; exact hn
  have hn24 : n ≤ 24 := by omega
  generalize l.map wnP = xs at *
  have hsz := size_v xs (by omega) fun x hx' => p2_16 (hx x hx') (by omega)
  have hle : bitsF blen xs ≤ B := bitsF_le fun x hx' => p2_blen (hx x hx')
  have w3 : IntKind.i64.wrap ((bitsF blen xs : Int) + 30) = ((bitsF blen xs + 30 : Nat) : Int) := by rw [wrap_i64 (by omega) (by omega)]; omega
  have g4 : ((65536 : Int) < ((bitsF blen xs + 30 : Nat) : Int)) = False := by simp only [eq_iff_iff, iff_false]; omega
  have w0 : IntKind.i64.wrap (((n + 1 : Nat) : Int) - 1) = (n : Int) := by rw [wrap_i64 (by omega) (by omega)]; omega
  have w1 := wrap_add1 (a := n) (by omega)
  have m1 : ((24 : Nat) : Int) * ((n + 1 : Nat) : Int) ≤ 281474976710656 := by omega
  have m2 : ((n + 1 : Nat) : Int) ≤ 9223372036854775807 := by omega
  have m3 := nnT (n + 1)
  generalize bitsF blen xs = bb at *
  unfold wL at hsz
  have hTb : bd (B + 29) (trans xs (-1) n) := bd_trans rfl hn24 hx
  refine sound_go (tb := []) 86 [.tmp 2, .tmp 3] [0, 2, 3, 4, 5, 6, 7, 8, 9, 10, 12, 16, 27, 28, 29, 30, 37, 38, 39, 48, 79] mixed Tryz.func10 rfl (by kernel_rfl) (by kernel_rfl) (by kernel_rfl) (by kernel_rfl) ?_
  repeat (first | (simp -implicitDefEqProofs only [go_sem, Nat.reduceAdd, Nat.reduceMul, Nat.reduceEqDiff, Nat.reduceLT, Nat.reduceLeDiff, Nat.reduceSub, Nat.reduceBEq, reduceIte, reduceCtorEq, Int.reduceEq, Int.reduceNe, Nat.reduceBneDiff, Int.reduceLE, Int.reduceLT, Int.reduceToNat, Int.reduceAdd, Int.reduceSub, Int.reduceMul, Int.reduceNeg, wL, w3, g4, w0, w1, m1, m2, m3, List.length_map, hxl, Int.toNat_natCast, wzero]) | ((with_reducible refine gcall_eq (hv) ?_ ?_ ?_); (with_reducible rfl); rfl) | ((with_reducible refine gcall_eq (hsz) ?_ ?_ ?_); (with_reducible rfl); rfl) | (with_reducible exact drawQ_true _ _ (by kernel_rfl)) | (with_reducible refine And.intro (drawQ_true _ _ (by kernel_rfl)) ?_))
  rw [← rowsF_zero (pterm xs n)]
  refine g_loop mixed (fun j : { j : Nat // j ≤ n + 1 } => St.of [(5, .int .i64 (n : Int)), (6, .bs 702 2 0 (n + 1)), (27, wL xs), (28, .int .i64 ((n + 1 : Nat) : Int)), (29, .int .i64 (j.1 : Int))]
    [(702, { els := (rowsF (pterm xs n) n j.1 0).map wPV, esz := 2, ety := 30, fro := 0, live := true, arr := true })]) (fun j => n + 1 - j.1) ⟨0, Nat.zero_le _⟩ ?_ ?_
  · refine le_of (θ := [(702, 702)]) rfl ?_ ?_
    · simp [varsLe, lkp, ren1, ren0, wL]
    · simp [boxesLe, lkp, Box.renames]
  · rintro ⟨j, hj⟩
    by_cases hA : j < n + 1
    · have hA' := ltT hA
      have hnj := nnT j
      have hjl : j < xs.length := by omega
      have hgx := wPV_get xs j hjl
      have hwj := wrap_add1 (a := j) (by omega)
      have w2 := wrap_sub (a := n) (b := j) (by omega) (by omega)
      have w4 := wrap_add1 (a := n - j) (by omega)
      repeat (first | (simp -implicitDefEqProofs only [go_sem, Nat.reduceAdd, Nat.reduceMul, Nat.reduceEqDiff, Nat.reduceLT, Nat.reduceLeDiff, Nat.reduceSub, Nat.reduceBEq, reduceIte, reduceCtorEq, Int.reduceEq, Int.reduceNe, Nat.reduceBneDiff, Int.reduceLE, Int.reduceLT, Int.reduceToNat, Int.reduceAdd, Int.reduceSub, Int.reduceMul, Int.reduceNeg, wL, hA', hnj, hgx, Int.toNat_natCast, w2, w4]) | (with_reducible exact drawQ_true _ _ (by kernel_rfl)) | (with_reducible refine And.intro (drawQ_true _ _ (by kernel_rfl)) ?_))
      refine g_loop mixed (fun k : { k : Nat // k ≤ n - j + 1 } => St.of [(5, .int .i64 (n : Int)), (6, .bs 702 2 0 (n + 1)), (7, .int .i64 (j : Int)), (8, .bp 1003 2 0 0), (27, wL xs), (28, .int .i64 ((n + 1 : Nat) : Int)), (29, .int .i64 (j : Int)), (37, .int .i64 ((n - j + 1 : Nat) : Int)), (38, .int .i64 (k.1 : Int))]
        [(702, { els := (rowsF (pterm xs n) n j k.1).map wPV, esz := 2, ety := 30, fro := 0, live := true, arr := true }), (1003, { els := [wPV xs[j]], esz := 2, ety := 30, fro := 0, live := true, arr := false })]) (fun k => n - j + 1 - k.1) ⟨0, Nat.zero_le _⟩ ?_ ?_
      · refine le_of (θ := [(702, 702), (1003, 1003)]) rfl ?_ ?_
        · simp [varsLe, lkp, ren1, ren0, wL]
        · refine ⟨⟨rfl, rfl, rfl, rfl, rfl, .inl ⟨rfl, rfl⟩⟩, ⟨rfl, rfl, rfl, rfl, rfl, .inr ⟨rfl, _, _, rfl, rfl, rfl, rfl⟩⟩, trivial⟩
      · rintro ⟨k, hk⟩
        by_cases hK : k < n - j + 1
        · have hK' := ltT hK
          have hnk := nnT (j + k)
          have hlt : j + k < n + 1 := by omega
          have hlt' := ltT hlt
          have w5 : IntKind.i64.wrap ((j : Int) + (k : Int)) = ((j + k : Nat) : Int) := by rw [wrap_i64 (by omega) (by omega)]; omega
          have hwk := wrap_add1 (a := k) (by omega)
          have hgo := rowsF_get (pterm xs n) n j k (j + k) hlt
          rw [if_neg (by omega), if_neg (by omega)] at hgo
          replace hgo := wget' hgo
          have hwy := ways_v (n - j) k (by omega) (by omega)
          have hb := bin_i64 (n := n - j) (k := k) (by omega)
          have hS : (sm (pterm xs n (j + k)) j).natAbs < 2 ^ (B + 29) := sm_bin_lt hn24 (by omega) fun i _ => pterm_abs hx (j + k) i
          have hS1 : (sm (pterm xs n (j + k)) (j + 1)).natAbs < 2 ^ (B + 29) := sm_bin_lt hn24 (by omega) fun i _ => pterm_abs hx (j + k) i
          have ekk : j + k - j = k := by omega
          have hT : (pterm xs n (j + k) j).natAbs < 2 ^ (B + 29) := by
            have := sm_bin_lt (g := fun _ => pterm xs n (j + k) j) (m := 1) hn24 (by decide) fun _ _ => pterm_abs hx (j + k) j
            simpa [sm] using this
          have hset := rowsF_set (pterm xs n) n j k hlt
          have hs2 := wset (rowsF (pterm xs n) n j k) (j + k) (sm (pterm xs n (j + k)) (j + 1))
          rw [hset] at hs2
          have hl2 := rowsF_length (pterm xs n) n j k
          have htm := tmod2 k
          rcases Nat.mod_two_eq_zero_or_one k with he | ho
          · have g2 : (((k % 2 : Nat) : Int) == 1) = false := by rw [he]; rfl
            have hft : pterm xs n (j + k) j = xs[j] * (bin (n - j) k : Int) := by rw [pterm, ekk, neg1_even he, Int.one_mul, getD_lt hjl]
            rw [hft] at hT
            have e1 : sm (pterm xs n (j + k)) j + xs[j] * (bin (n - j) k : Int) = sm (pterm xs n (j + k)) (j + 1) := by rw [sm, hft]
            have hpl := plus_v (sm (pterm xs n (j + k)) j) xs[j] (bin (n - j) k : Int) (by omega) (by omega) (p2_16 hS (by omega)) (p2_16 (hx _ (List.getElem_mem hjl)) (by omega)) (p2_16 hT (by omega)) (by rw [e1]; exact p2_16 hS1 (by omega))
            rw [e1] at hpl
            generalize sm (pterm xs n (j + k)) (j + 1) = S1 at *
            generalize sm (pterm xs n (j + k)) j = S at *
            generalize (bin (n - j) k : Int) = b at *
            repeat (first | (simp -implicitDefEqProofs only [go_sem, Nat.reduceAdd, Nat.reduceMul, Nat.reduceEqDiff, Nat.reduceLT, Nat.reduceLeDiff, Nat.reduceSub, Nat.reduceBEq, reduceIte, reduceCtorEq, Int.reduceEq, Int.reduceNe, Nat.reduceBneDiff, Int.reduceLE, Int.reduceLT, Int.reduceToNat, Int.reduceAdd, Int.reduceSub, Int.reduceMul, Int.reduceNeg, wL, wPV, List.length_map, hK', hnj, hnk, hlt', hgo, w2, w5, hwk, htm, g2, Int.toNat_natCast]) | ((with_reducible refine gcall_eq (hwy) ?_ ?_ ?_); (with_reducible rfl); rfl) | ((with_reducible refine gcall_eq (hpl) ?_ ?_ ?_); (with_reducible rfl); rfl) | (with_reducible exact drawQ_true _ _ (by kernel_rfl)) | (with_reducible refine And.intro (drawQ_true _ _ (by kernel_rfl)) ?_))
            refine ⟨⟨k + 1, by omega⟩, by simp only; omega, le_of (θ := [(702, 702), (1003, 1003)]) rfl ?_ ?_⟩
            · simp [varsLe, lkp, ren1, ren0, wL]
            · rw [hs2]
              refine ⟨⟨rfl, rfl, rfl, rfl, rfl, .inl ⟨rfl, rfl⟩⟩, ⟨rfl, rfl, rfl, rfl, rfl, .inr ⟨rfl, _, _, rfl, rfl, rfl, rfl⟩⟩, trivial⟩
          · have g2 : (((k % 2 : Nat) : Int) == 1) = true := by rw [ho]; rfl
            have wn : IntKind.i64.wrap (0 - (bin (n - j) k : Int)) = -(bin (n - j) k : Int) := by rw [wrap_i64 (by omega) (by omega)]; omega
            have hft : pterm xs n (j + k) j = xs[j] * -(bin (n - j) k : Int) := by rw [pterm, ekk, neg1_odd ho, getD_lt hjl, Int.neg_mul, Int.one_mul]
            rw [hft] at hT
            have e1 : sm (pterm xs n (j + k)) j + xs[j] * -(bin (n - j) k : Int) = sm (pterm xs n (j + k)) (j + 1) := by rw [sm, hft]
            have hpl := plus_v (sm (pterm xs n (j + k)) j) xs[j] (-(bin (n - j) k : Int)) (by omega) (by omega) (p2_16 hS (by omega)) (p2_16 (hx _ (List.getElem_mem hjl)) (by omega)) (p2_16 hT (by omega)) (by rw [e1]; exact p2_16 hS1 (by omega))
            rw [e1] at hpl
            generalize sm (pterm xs n (j + k)) (j + 1) = S1 at *
            generalize sm (pterm xs n (j + k)) j = S at *
            generalize (bin (n - j) k : Int) = b at *
            repeat (first | (simp -implicitDefEqProofs only [go_sem, Nat.reduceAdd, Nat.reduceMul, Nat.reduceEqDiff, Nat.reduceLT, Nat.reduceLeDiff, Nat.reduceSub, Nat.reduceBEq, reduceIte, reduceCtorEq, Int.reduceEq, Int.reduceNe, Nat.reduceBneDiff, Int.reduceLE, Int.reduceLT, Int.reduceToNat, Int.reduceAdd, Int.reduceSub, Int.reduceMul, Int.reduceNeg, wL, wPV, List.length_map, hK', hnj, hnk, hlt', hgo, w2, w5, hwk, htm, g2, wn, Int.toNat_natCast]) | ((with_reducible refine gcall_eq (hwy) ?_ ?_ ?_); (with_reducible rfl); rfl) | ((with_reducible refine gcall_eq (hpl) ?_ ?_ ?_); (with_reducible rfl); rfl) | (with_reducible exact drawQ_true _ _ (by kernel_rfl)) | (with_reducible refine And.intro (drawQ_true _ _ (by kernel_rfl)) ?_))
            refine ⟨⟨k + 1, by omega⟩, by simp only; omega, le_of (θ := [(702, 702), (1003, 1003)]) rfl ?_ ?_⟩
            · simp [varsLe, lkp, ren1, ren0, wL]
            · rw [hs2]
              refine ⟨⟨rfl, rfl, rfl, rfl, rfl, .inl ⟨rfl, rfl⟩⟩, ⟨rfl, rfl, rfl, rfl, rfl, .inr ⟨rfl, _, _, rfl, rfl, rfl, rfl⟩⟩, trivial⟩
        · have hK' := ltF hK
          have e2 := rowsF_next (pterm xs n) n j k (by omega)
          repeat (first | (simp -implicitDefEqProofs only [go_sem, Nat.reduceAdd, Nat.reduceMul, Nat.reduceEqDiff, Nat.reduceLT, Nat.reduceLeDiff, Nat.reduceSub, Nat.reduceBEq, reduceIte, reduceCtorEq, Int.reduceEq, Int.reduceNe, Nat.reduceBneDiff, Int.reduceLE, Int.reduceLT, Int.reduceToNat, Int.reduceAdd, Int.reduceSub, Int.reduceMul, Int.reduceNeg, wL, List.length_map, hK', hwj]) | (with_reducible exact drawQ_true _ _ (by kernel_rfl)) | (with_reducible refine And.intro (drawQ_true _ _ (by kernel_rfl)) ?_))
          refine ⟨⟨j + 1, hA⟩, by simp only; omega, le_of (θ := [(702, 702)]) rfl ?_ ?_⟩
          · simp [varsLe, lkp, ren1, ren0, wL]
          · rw [e2]
            simp [boxesLe, lkp, Box.renames]
    · have hA' := ltF hA
      obtain rfl : j = n + 1 := by omega
      simp only [pterm_done]
      have hTl := trans_length xs (-1) n
      generalize trans xs (-1) n = T at *
      repeat (first | (simp -implicitDefEqProofs only [go_sem, Nat.reduceAdd, Nat.reduceMul, Nat.reduceEqDiff, Nat.reduceLT, Nat.reduceLeDiff, Nat.reduceSub, Nat.reduceBEq, reduceIte, reduceCtorEq, Int.reduceEq, Int.reduceNe, Nat.reduceBneDiff, Int.reduceLE, Int.reduceLT, Int.reduceToNat, Int.reduceAdd, Int.reduceSub, Int.reduceMul, Int.reduceNeg, hA']) | (with_reducible exact drawQ_true _ _ (by kernel_rfl)) | (with_reducible refine And.intro (drawQ_true _ _ (by kernel_rfl)) ?_))
      refine g_loop mixed (fun m : { m : Nat // m ≤ T.length ∧ trimI (T.take m) = trimI T } => St.of [(6, .bs 702 2 0 m.1)] [(702, { els := T.map wPV, esz := 2, ety := 30, fro := 0, live := true, arr := true })]) (fun m => m.1) ⟨T.length, Nat.le_refl _, by rw [List.take_length]⟩ ?_ ?_
      · refine le_of (θ := [(702, 702)]) rfl ?_ ?_
        · simp [varsLe, lkp, ren1, ren0, hTl]
        · simp [boxesLe, lkp, Box.renames]
      · rintro ⟨m, hm, ht⟩
        have hlen : (T.take m).length = m := by rw [List.length_take]; omega
        have etk : (T.map wPV).take m = (T.take m).map wPV := (List.map_take ..).symm
        simp only
        cases m with
        | zero =>
          have g1 : ((0 : Int) < ((0 : Nat) : Int)) = False := by simp
          have e : trimI T = [] := by rw [← ht]; rfl
          repeat (first | (simp -implicitDefEqProofs only [go_sem, Nat.reduceAdd, Nat.reduceMul, Nat.reduceEqDiff, Nat.reduceLT, Nat.reduceLeDiff, Nat.reduceSub, Nat.reduceBEq, reduceIte, reduceCtorEq, Int.reduceEq, Int.reduceNe, Nat.reduceBneDiff, Int.reduceLE, Int.reduceLT, Int.reduceToNat, Int.reduceAdd, Int.reduceSub, Int.reduceMul, Int.reduceNeg, wL, g1, e, List.length_map, List.take_zero, List.map_nil]) | (with_reducible exact drawQ_true _ _ (by kernel_rfl)) | (with_reducible refine And.intro (drawQ_true _ _ (by kernel_rfl)) ?_))
        | succ m =>
          have g1 : ((0 : Int) < ((m + 1 : Nat) : Int)) = True := by simp only [eq_iff_iff, iff_true]; omega
          have hlt : m < T.length := by omega
          have w6 : IntKind.i64.wrap (((m + 1 : Nat) : Int) - 1) = (m : Int) := by rw [wrap_i64 (by omega) (by omega)]; omega
          have h0 := nnT m
          have hg := wPV_get T m hlt
          have htk : T.take (m + 1) = T.take m ++ [T[m]] := take_snoc T m hlt
          have hrs := wSign_i (p2_16 (hTb _ (List.getElem_mem hlt)) (by omega))
          have l1 := ltT (show m < m + 1 by omega)
          have l2 := leT (show m ≤ m + 1 by omega)
          have l3 : (m + 1 ≤ T.length) = True := eq_true hlt
          by_cases hz : T[m] = 0
          · have g2 : ((T[m]).sign == 0) = true := by rw [hz]; rfl
            repeat (first | (simp -implicitDefEqProofs only [go_sem, Nat.reduceAdd, Nat.reduceMul, Nat.reduceEqDiff, Nat.reduceLT, Nat.reduceLeDiff, Nat.reduceSub, Nat.reduceBEq, reduceIte, reduceCtorEq, Int.reduceEq, Int.reduceNe, Nat.reduceBneDiff, Int.reduceLE, Int.reduceLT, Int.reduceToNat, Int.reduceAdd, Int.reduceSub, Int.reduceMul, Int.reduceNeg, g1, g2, w6, h0, hg, l1, l2, List.length_map, Int.toNat_natCast]) | ((with_reducible refine gcall_eq (hrs) ?_ ?_ ?_); (with_reducible rfl); rfl) | (with_reducible exact drawQ_true _ _ (by kernel_rfl)) | (with_reducible refine And.intro (drawQ_true _ _ (by kernel_rfl)) ?_))
            refine ⟨⟨m, by omega, ?_⟩, by simp only; omega, le_of (θ := [(702, 702)]) rfl ?_ ?_⟩
            · rw [← ht, htk, hz, trimI_snoc0]
            · simp [varsLe, lkp, ren1, ren0]
            · simp [boxesLe, lkp, Box.renames]
          · have g2 : ((T[m]).sign == 0) = false := by simp only [beq_eq_false_iff_ne, ne_eq, Int.sign_eq_zero_iff_zero]; exact hz
            have e : trimI T = T.take (m + 1) := by rw [← ht, htk, trimI_last _ _ hz]
            repeat (first | (simp -implicitDefEqProofs only [go_sem, Nat.reduceAdd, Nat.reduceMul, Nat.reduceEqDiff, Nat.reduceLT, Nat.reduceLeDiff, Nat.reduceSub, Nat.reduceBEq, reduceIte, reduceCtorEq, Int.reduceEq, Int.reduceNe, Nat.reduceBneDiff, Int.reduceLE, Int.reduceLT, Int.reduceToNat, Int.reduceAdd, Int.reduceSub, Int.reduceMul, Int.reduceNeg, wL, g1, g2, w6, h0, hg, l1, l2, l3, etk, e, decide_true, List.length_map, Int.toNat_natCast]) | ((with_reducible refine gcall_eq (hrs) ?_ ?_ ?_); (with_reducible rfl); rfl) | (with_reducible exact drawQ_true _ _ (by kernel_rfl)) | (with_reducible refine And.intro (drawQ_true _ _ (by kernel_rfl)) ?_))
end Go.Proofs.YtnpclmmmngmdkaaGreat

namespace Go.Proofs.YtnpclmmmngmdkaaGreat
open Go.Vl Go.RowKit Go.Dg

/-- The form of a polynomial for its own degree. -/
def ownF (l : List (Bool × ByteArray)) : List Int := trans (l.map wnP) 1 (l.length - 1)
theorem Positive_v (l : List (Bool × ByteArray)) (d B : Nat) (hs : ∀ p ∈ l, p.2.size ≤ 100000) (hp : polyB l = true) (hd : d ≤ 8) (hx : ∀ x ∈ l.map wnP, x.natAbs < 2 ^ B) (hB : B ≤ 50000) :
    SoundAt Tryz.prog 26 [.slc (l.map wA), .int .i64 (d : Int)] (.tup [.bool (shownF (l.length - 1) d (ownF l)), .int .i64 0]) := by
  obtain ⟨hval, h25⟩ := polyB_of hp
  have hc := check_v l (l.length - 1) d hs hp rfl hd fun x hx' => p2_16 (hx x hx') (by omega)
  have hnd : (l.length - 1) * d ≤ 24 * 8 := Nat.mul_le_mul (by omega) hd
  have hle : bitsF blen (l.map wnP) ≤ B := bitsF_le fun x hx' => p2_blen (hx x hx')
  rw [if_neg (by omega)] at hc
  unfold ownF
  have hxl : (l.map wnP).length = l.length := List.length_map _
  rw [wA_wPV hval] at hc ⊢
  rw [← hxl] at h25 hnd ⊢
  clear hval hp hs
  generalize l.map wnP = xs at *
  have hof := of_v xs (xs.length - 1) B (by omega) (by omega) (by omega) hx
  have hsh := shown_v (xs.length - 1) (by omega) d (trans xs 1 (xs.length - 1)) (B + 29) (trans_length _ _ _) (bd_trans rfl (by omega) hx) (by omega)
  have z0 : ((0 : Int) != 0) = false := rfl
  obtain ⟨n, hn⟩ : ∃ n : Nat, n = xs.length - 1 := ⟨_, rfl⟩
  rw [← hn] at hof hsh ⊢
  generalize trans xs 1 n = T at *
  generalize shownF n d T = r at *
  unfold wL at *
  by_cases h1 : 1 < xs.length
  · have w1 : IntKind.i64.wrap ((xs.length : Int) - 1) = (n : Int) := by rw [wrap_i64 (by omega) (by omega)]; omega
    have c1 : ((0 : Int) < (n : Int)) = True := eq_true (by omega)
    refine sound_go (tb := []) 21 [.tmp 4, .tmp 5] [0, 1, 4, 5, 6, 11] mixed Tryz.func26 rfl (by kernel_rfl) (by kernel_rfl) (by kernel_rfl) (by kernel_rfl) ?_
    repeat (first | (simp -implicitDefEqProofs only [go_sem, Nat.reduceAdd, Nat.reduceMul, Nat.reduceEqDiff, Nat.reduceLT, Nat.reduceLeDiff, Nat.reduceSub, Nat.reduceBEq, reduceIte, reduceCtorEq, Int.reduceEq, Int.reduceNe, Nat.reduceBneDiff, Int.reduceLE, Int.reduceLT, Int.reduceToNat, Int.reduceAdd, Int.reduceSub, Int.reduceMul, Int.reduceNeg, z0, w1, c1, List.length_map]) | ((with_reducible refine gcall_eq (hc) ?_ ?_ ?_); (with_reducible rfl); rfl) | ((with_reducible refine gcall_eq (hof) ?_ ?_ ?_); (with_reducible rfl); rfl) | ((with_reducible refine gcall_eq (hsh) ?_ ?_ ?_); (with_reducible rfl); rfl) | (with_reducible exact drawQ_true _ _ (by kernel_rfl)) | (with_reducible refine And.intro (drawQ_true _ _ (by kernel_rfl)) ?_))
  · have w1 : IntKind.i64.wrap ((xs.length : Int) - 1) = (xs.length : Int) - 1 := wrap_i64 (by omega) (by omega)
    have c1 : ((0 : Int) < (xs.length : Int) - 1) = False := eq_false (by omega)
    obtain rfl : n = 0 := by omega
    refine sound_go (tb := []) 21 [.tmp 4, .tmp 5] [0, 1, 4, 5, 6, 11] mixed Tryz.func26 rfl (by kernel_rfl) (by kernel_rfl) (by kernel_rfl) (by kernel_rfl) ?_
    repeat (first | (simp -implicitDefEqProofs only [go_sem, Nat.reduceAdd, Nat.reduceMul, Nat.reduceEqDiff, Nat.reduceLT, Nat.reduceLeDiff, Nat.reduceSub, Nat.reduceBEq, reduceIte, reduceCtorEq, Int.reduceEq, Int.reduceNe, Nat.reduceBneDiff, Int.reduceLE, Int.reduceLT, Int.reduceToNat, Int.reduceAdd, Int.reduceSub, Int.reduceMul, Int.reduceNeg, z0, w1, c1, List.length_map]) | ((with_reducible refine gcall_eq (hc) ?_ ?_ ?_); (with_reducible rfl); rfl) | ((with_reducible refine gcall_eq (hof) ?_ ?_ ?_); (with_reducible rfl); rfl) | ((with_reducible refine gcall_eq (hsh) ?_ ?_ ?_); (with_reducible rfl); rfl) | (with_reducible exact drawQ_true _ _ (by kernel_rfl)) | (with_reducible refine And.intro (drawQ_true _ _ (by kernel_rfl)) ?_))
end Go.Proofs.YtnpclmmmngmdkaaGreat

namespace Go.Proofs.YtnpclmmmngmdkaaGreat
open Go.Vl Go.RowKit Go.Dg

theorem pairI_wnP (T : List Int) : (T.map pairI).map wnP = T := by
  rw [List.map_map]
  conv => rhs; rw [← List.map_id T]
  exact List.map_congr_left fun x _ => wnum_pairI x
theorem pairI_valid {T : List Int} (h : ∀ x ∈ T, x.natAbs < 2 ^ 65536) : validL (T.map pairI) = true := by
  unfold validL
  rw [List.all_eq_true]
  intro p hp
  obtain ⟨x, hx, rfl⟩ := List.mem_map.1 hp
  exact mB_valid (h x hx)
theorem pairI_form {T : List Int} {n : Nat} (hn : n ≤ 24) (hl : T.length = n + 1) (h : ∀ x ∈ T, x.natAbs < 2 ^ 65536) : formB (T.map pairI) = true := by
  unfold formB
  rw [pairI_valid h, List.length_map, hl, decide_eq_true (by omega), decide_eq_true (by omega)]; rfl
theorem PolyI_v (T : List Int) (n B : Nat) (hn : n ≤ 24) (hl : T.length = n + 1) (hx : bd B T) (hB : B + 30 ≤ 65536) : SoundAt Tryz.prog 10 [wL T] (.tup [wL (trimI (trans T (-1) n)), .int .i64 0]) := by
  have h := Poly_v (T.map pairI) n B (by rw [List.length_map]; exact hl) (pairI_form hn hl fun x hx' => p2_16 (hx x hx') (by omega)) (by rw [pairI_wnP]; exact hx) hB
  rwa [pairI_wA, pairI_wnP] at h
theorem BoundsI_v (T : List Int) (n B : Nat) (hn : n ≤ 24) (hl : T.length = n + 1) (hx : bd B T) (hB : B + 30 ≤ 65536) : SoundAt Tryz.prog 11 [wL T] (.tup [rats false (coefs T), rats true (coefs T), .int .i64 0]) := by
  have h := Bounds_v (T.map pairI) n B (by rw [List.length_map]; exact hl) (pairI_form hn hl fun x hx' => p2_16 (hx x hx') (by omega)) (by rw [pairI_wnP]; exact hx) hB
  rwa [pairI_wA, pairI_wnP] at h
theorem rFValidI_v (T : List Int) (n : Nat) (hn : n ≤ 24) (hl : T.length = n + 1) (hx : ∀ x ∈ T, x.natAbs < 2 ^ 65536) : SoundAt Tryz.prog 12 [wL T] (.bool true) := by
  have h := rFValid_v (T.map pairI) (by rw [List.length_map, hl]; unfold maxLen; omega)
  rwa [pairI_wA, pairI_form hn hl hx] at h
theorem rvalidRatioI_v (x y : Int) (hx : x.natAbs < 2 ^ 65536) (hy : y.natAbs < 2 ^ 65536) (h0 : 0 < y) : SoundAt Tryz.prog 29 [ratPV x y] (.bool true) := by
  have h := rvalidRatio_v (decide (x < 0)) (mB x) (decide (y < 0)) (mB y)
  rwa [vRat_i hx hy h0] at h
theorem rfromRatioI_v (x y : Int) (hx : x.natAbs < 2 ^ 65536) (hy : y.natAbs < 2 ^ 65536) : SoundAt Tryz.prog 34 [ratPV x y] (rQ x y) := by
  have h := rfromRatio_v (decide (x < 0)) (mB x) (decide (y < 0)) (mB y) (Nat.le_trans (mB_size hx) (by decide)) (Nat.le_trans (mB_size hy) (by decide))
  rwa [wnum_magL, wnum_magL] at h
/-- A ratio that is small, with a denominator above 0. -/
def okQ (C : Nat) (r : Int × Int) : Prop := r.1.natAbs < 2 ^ C ∧ r.2.natAbs < 2 ^ C ∧ 0 < r.2
theorem okQ_best {g : Bool} {T : List Int} {n C : Nat} (hn : n ≤ 24) (hT : T.length = n + 1) (hx : bd 93 T) (hC : 93 ≤ C) : okQ C (bestF g (coefs T)) := by
  have hc := coefs_ok (f := T) (by omega) hx
  have hne : coefs T ≠ [] := by
    intro e
    have := coefs_length T
    rw [e, hT] at this; cases this
  have k := okR_best (g := g) hc
  exact ⟨p2_mono k.1 hC, p2_mono k.2.1 (by omega), best_pos (fun r hr => (hc r hr).2.2) hne⟩
theorem okQ_enc {g : Bool} {T : List Int} {n d C : Nat} (hn : n ≤ 24) (hd : d ≤ 8) (hT : T.length = n + 1) (hx : bd 93 T) (hC : 800 ≤ C) : okQ C (encQ g n d T) := by
  have hfo := flat_ok (d := d) hn hT hx
  have hne := flat_ne (d := d) hT fun f hf => (pcs_ok hn hT hx d f hf).1
  have kg := okR_best (g := g) hfo
  have qg := best_pos (g := g) (fun r hr => (hfo r hr).2.2) hne
  have hpp : 0 < (2 : Int) ^ (n * d) := Int.pow_pos (by decide)
  have hNm : n * d ≤ 24 * 8 := Nat.mul_le_mul hn hd
  have hpw := pow2_small (k := n * d) (by omega)
  have hd2 : ((bestF g ((pcs n T d).flatMap coefs)).2 * 2 ^ (n * d)).natAbs < 2 ^ 226 := by
    rw [Int.natAbs_mul, show 226 = 25 + 201 from rfl, Nat.pow_add]
    exact Nat.mul_lt_mul'' kg.2.1 hpw
  have ha := low_abs (x := (bestF g ((pcs n T d).flatMap coefs)).1) (Int.mul_pos qg hpp)
  exact ⟨Nat.lt_of_le_of_lt ha.1 (p2_mono kg.1 (by omega)), Nat.lt_of_le_of_lt ha.2 (p2_mono hd2 (by omega)), (encQ_cross qg).2⟩
theorem okQ_val {xs : List Int} {u v : Int} {C : Nat} (hl : xs.length ≤ 30) (hx : bd 64 xs) (hu : u.natAbs < 2 ^ 64) (hv : v.natAbs < 2 ^ 64) (h0 : 0 < v) (hC : 6000 ≤ C) : okQ C (valQ xs u v) := by
  obtain ⟨D, hD, hh⟩ := hev_bd (C := 64) (by decide) hl hx hu hv
  have hp := pow_abs_lt hv (xs.length - 1)
  have hpp : 0 < v ^ (xs.length - 1) := Int.pow_pos h0
  have ha := low_abs (x := hev xs u v) hpp
  exact ⟨Nat.lt_of_le_of_lt ha.1 (p2_mono hh (by omega)), Nat.lt_of_le_of_lt ha.2 (p2_mono hp (by omega)), (valQ_cross xs u h0).2⟩
/-- CompareQ of small ratios of which the first is not above the second one. -/
theorem cmpQ_v {C : Nat} (hC : C ≤ 60000) {x y : Int × Int} (hx : okQ C x) (hy : okQ C y) : SoundAt Tryz.prog 33 [rQ x.1 x.2, rQ y.1 y.2] (.int .i64 (x.1 * y.2 - y.1 * x.2).sign) := by
  obtain ⟨k, hk⟩ : ∃ k : Nat, k = 8000 := ⟨_, rfl⟩
  exact rcompareQ_v _ _ _ _ k (by omega) (p2_256 hx.1 (by omega)) (p2_256 hx.2.1 (by omega)) (p2_256 hy.1 (by omega)) (p2_256 hy.2.1 (by omega))
theorem sign_le {a b : Int} (h : a ≤ b) : (0 < (a - b).sign) = False := eq_false (by intro hs; have := Int.sign_pos_iff.1 hs; omega)
/-- What the polynomials' check says of the last number. -/
theorem polyB_trim {l : List (Bool × ByteArray)} (h : polyB l = true) : trimI (l.map wnP) = l.map wnP := by
  rcases Nat.eq_zero_or_pos l.length with h0 | h0
  · obtain rfl := List.length_eq_zero_iff.1 h0; rfl
  · obtain ⟨hval, _⟩ := polyB_of h
    have hk : l.length - 1 < l.length := by omega
    have ht : topB l = true := by
      unfold polyB at h
      simp only [Bool.and_eq_true, decide_eq_true_eq] at h
      exact h.2.2
    rw [topB_last hk, decide_eq_true_eq] at ht
    have hv : validB (l[l.length - 1]).1 (l[l.length - 1]).2.data.toList = true := (List.all_eq_true.1 hval) _ (List.getElem_mem hk)
    have hne : (l[l.length - 1]).2.data.toList ≠ [] := by
      intro e
      rw [ba_size, e] at ht
      simp at ht
    have hw := wnum_ne hv hne
    have e : l = l.take (l.length - 1) ++ [l[l.length - 1]] := by
      have h1 := take_snoc l (l.length - 1) hk
      rw [show l.length - 1 + 1 = l.length by omega, List.take_length] at h1
      exact h1
    rw [e, List.map_append, List.map_cons, List.map_nil]
    exact trimI_last _ _ hw
end Go.Proofs.YtnpclmmmngmdkaaGreat

namespace Go.Proofs.YtnpclmmmngmdkaaGreat
open Go.Vl Go.RowKit Go.Dg

def ratL (rs : List (Int × Int)) : List PV := rs.map fun r => ratPV r.1 r.2
theorem ratL_get (rs : List (Int × Int)) (i : Nat) (h : i < rs.length) : (ratL rs)[i]? = some (ratPV rs[i].1 rs[i].2) := by rw [ratL, List.getElem?_map, List.getElem?_eq_getElem h]; rfl
set_option maxRecDepth 100000 in
set_option maxHeartbeats 8000000 in
theorem BernsteinHolds_in (l : List (Bool × ByteArray)) (n d u v : Nat) (hS : smallB l = true) (h6 : l.length ≤ 6) (hp : polyB l = true) (hn : l.length ≤ n + 1) (hn8 : n ≤ 8) (hd : d ≤ 3) (hv1 : 1 ≤ v) (hv2 : v ≤ 1000) (huv : u ≤ v) :
    SoundAt Tryz.prog 7 [.slc (l.map wA), .int .i64 (n : Int), .int .i64 (d : Int), .int .i64 (u : Int), .int .i64 (v : Int)] (.bool true) := by
  have hk := known_v
  have hsm := small_v l (Nat.le_trans h6 (by decide))
  have hvr := rPValid_v l (by omega)
  rw [hS] at hsm
  rw [hp] at hvr
  obtain ⟨hs8, _⟩ := smallB_of hS
  have hs : ∀ p ∈ l, p.2.size ≤ 100000 := fun p hp => Nat.le_trans (hs8 p hp) (by decide)
  obtain ⟨hval, h25⟩ := polyB_of hp
  have hx := wnP_bound hs8
  have htr := polyB_trim hp
  have c1 := Form_v l n 64 hs hp (by omega) hn hx (by decide)
  obtain ⟨N, hN⟩ : ∃ N : Nat, N = l.length - 1 := ⟨_, rfl⟩
  have c6 := Enclose_v l N d 64 hs hp hN (by omega) hx (by decide)
  have c7 := Enclose_v l N (d + 1) 64 hs hp hN (by omega) hx (by decide)
  have c8 := Positive_v l d 64 hs hp (by omega) hx (by decide)
  have c9 := Positive_v l (d + 1) 64 hs hp (by omega) hx (by decide)
  have c10 := rPFrom_v l (by omega) fun p hp' => Nat.le_trans (hs8 p hp') (by decide)
  unfold ownF at c8 c9
  rw [← hN] at c8 c9
  rw [wA_wPV hval] at c1 c6 c7 c8 c9 c10 hsm hvr ⊢
  have hxl : (l.map wnP).length = l.length := List.length_map _
  rw [← hxl] at h6 hn hN
  have q1 : ((6 : Int) < ((l.map wnP).length : Int)) = False := eq_false (by omega)
  generalize l.map wnP = xs at *
  have g2 : ((n : Int) < (xs.length : Int) - 1) = False := eq_false (by omega)
  have w0 : IntKind.i64.wrap ((xs.length : Int) - 1) = (xs.length : Int) - 1 := wrap_i64 (by omega) (by omega)
  have g3 : ((n : Int) < 0) = False := eq_false (by omega)
  have g4 : ((8 : Int) < (n : Int)) = False := eq_false (by omega)
  have g5 : ((d : Int) < 0) = False := eq_false (by omega)
  have g6 : ((3 : Int) < (d : Int)) = False := eq_false (by omega)
  have g7 : ((v : Int) < 1) = False := eq_false (by omega)
  have g8 : ((1000 : Int) < (v : Int)) = False := eq_false (by omega)
  have g9 : ((u : Int) < 0) = False := eq_false (by omega)
  have g10 : ((v : Int) < (u : Int)) = False := eq_false (by omega)
  have wn := wrap_add1 (a := n) (by omega)
  have wd := wrap_add1 (a := d) (by omega)
  have hT1 := trans_length xs 1 n
  have hT2 : bd (64 + 29) (trans xs 1 n) := bd_trans rfl (by omega) hx
  have c2 := PolyI_v (trans xs 1 n) n (64 + 29) (by omega) hT1 hT2 (by decide)
  have c5 := BoundsI_v (trans xs 1 n) n (64 + 29) (by omega) hT1 hT2 (by decide)
  have c4 := rFValidI_v (trans xs 1 n) n (by omega) hT1 fun x hx => p2_16 (hT2 x hx) (by decide)
  have ne1 : (((n + 1 : Nat) : Int) != ((n + 1 : Nat) : Int)) = false := by simp
  have i0 : ((0 : Int) != 0) = false := rfl
  rw [poly_form hn htr] at c2
  have c3 := rSame_v xs (by omega)
  unfold rats at c5
  obtain ⟨C, hC⟩ : ∃ C : Nat, C = 6000 := ⟨_, rfl⟩
  have hu0 : (0 : Int) ≤ (u : Int) := by omega
  have hw0 : (0 : Int) ≤ (v : Int) - (u : Int) := by omega
  have huv' : (u : Int) + ((v : Int) - (u : Int)) = (v : Int) := by omega
  obtain ⟨j1, j2⟩ := bounds_le (xs := xs) (n := n) hn (by omega) hu0 hw0 (by omega)
  obtain ⟨j3, j4⟩ := enclose_le (xs := xs) (n := N) hN (d + 1) (by omega) hu0 hw0 (by omega)
  obtain ⟨j5, j6⟩ := enclose_mono (n := N) (d := d) (f0 := trans xs 1 N) (trans_length _ _ _)
  rw [huv'] at j1 j2 j3 j4
  have hT3 := trans_length xs 1 N
  have hT4 : bd (64 + 29) (trans xs 1 N) := bd_trans rfl (by omega) hx
  have p64 : (2 : Nat) ^ 64 = 18446744073709551616 := rfl
  have ub : ((u : Nat) : Int).natAbs < 2 ^ 64 := by rw [Int.natAbs_natCast]; omega
  have vb : ((v : Nat) : Int).natAbs < 2 ^ 64 := by rw [Int.natAbs_natCast]; omega
  have oV := okQ_val (C := C) (by omega) hx ub vb (by omega) (by omega)
  have o1 := okQ_best (g := false) (n := n) (C := C) (by omega) hT1 hT2 (by omega)
  have o2 := okQ_best (g := true) (n := n) (C := C) (by omega) hT1 hT2 (by omega)
  have o3 := okQ_enc (g := false) (n := N) (d := d) (C := C) (by omega) (by omega) hT3 hT4 (by omega)
  have o4 := okQ_enc (g := true) (n := N) (d := d) (C := C) (by omega) (by omega) hT3 hT4 (by omega)
  have o5 := okQ_enc (g := false) (n := N) (d := d + 1) (C := C) (by omega) (by omega) hT3 hT4 (by omega)
  have o6 := okQ_enc (g := true) (n := N) (d := d + 1) (C := C) (by omega) (by omega) hT3 hT4 (by omega)
  have vv := rValue_v xs u v 64 (by decide) (by omega) hx ub vb (by omega)
  have hsh : shownF N d (trans xs 1 N) = true → shownF N (d + 1) (trans xs 1 N) = true ∧ (0 ≤ (valQ xs u v).1.sign) = True := by
    intro h
    have hv0 : (0 : Int) < (v : Int) := by omega
    refine ⟨shown_more d _ h, eq_true ?_⟩
    have h1 := val_pos (u := u) (w := (v : Int) - (u : Int)) (show xs.length ≤ N + 1 by omega) (by omega) (shown_hev d _ hT3 h u ((v : Int) - (u : Int)) hu0 hw0)
    rw [huv'] at h1
    obtain ⟨k1, k2⟩ := valQ_cross xs u hv0
    have hP : (0 : Int) < (v : Int) ^ (xs.length - 1) := Int.pow_pos hv0
    have h2 : 0 ≤ (valQ xs u v).1 * (v : Int) ^ (xs.length - 1) := by rw [k1]; exact Int.mul_nonneg h1 (Int.le_of_lt k2)
    exact Int.sign_nonneg_iff.2 (by
      by_cases c : 0 ≤ (valQ xs u v).1
      · exact c
      · have := Int.mul_neg_of_neg_of_pos (Int.not_le.1 c) hP
        omega)
  have vv' : SoundAt Tryz.prog 30 [rL xs, rQ u v] (rQ (valQ xs u v).1 (valQ xs u v).2) := vv
  clear vv
  have lt16 : ∀ {x : Int}, x.natAbs < 2 ^ C → x.natAbs < 2 ^ 65536 := fun h => p2_16 h (by omega)
  have low1 : ∀ x : Int, lowN x 1 = x ∧ lowD x 1 = 1 := fun x => by simp [lowN, lowD, gN]
  have vf := rValue_v xs 0 1 64 (by decide) (by omega) hx (by decide) (by decide) (by decide)
  have vl := rValue_v xs 1 1 64 (by decide) (by omega) hx (by decide) (by decide) (by decide)
  rw [Int.one_pow, (low1 _).1, (low1 _).2, form_first hn] at vf
  rw [Int.one_pow, (low1 _).1, (low1 _).2, form_last hn] at vl
  have t0 : (trans xs 1 n).getD 0 0 = (trans xs 1 n)[0]'(by omega) := getD_lt (by omega)
  have tn : (trans xs 1 n).getD n 0 = (trans xs 1 n)[n]'(by omega) := getD_lt (by omega)
  rw [t0] at vf
  rw [tn] at vl
  have gt0 := wPV_get (trans xs 1 n) 0 (by omega)
  have gtn := wPV_get (trans xs 1 n) n (by omega)
  have to0 := rto_i (x := (trans xs 1 n)[0]'(by omega)) (p2_8M (hT2 _ (List.getElem_mem _)) (by decide))
  have ton := rto_i (x := (trans xs 1 n)[n]'(by omega)) (p2_8M (hT2 _ (List.getElem_mem _)) (by decide))
  have nu := rnum_v (u : Int) (by omega) (by omega)
  have nv := rnum_v (v : Int) (by omega) (by omega)
  have n0 := rnum_v 0 (by decide) (by decide)
  have n1 := rnum_v 1 (by decide) (by decide)
  have k1 := cmpQ_v (by omega) o1 oV
  have k2 := cmpQ_v (by omega) oV o2
  have k3 := cmpQ_v (by omega) o5 oV
  have k4 := cmpQ_v (by omega) oV o6
  have k5 := cmpQ_v (by omega) o3 o5
  have k6 := cmpQ_v (by omega) o6 o4
  have s1 := sign_le j1
  have s2 := sign_le j2
  have s3 := sign_le j3
  have s4 := sign_le j4
  have s5 := sign_le j5
  have s6 := sign_le j6
  have f1 := rfromRatioI_v _ _ (lt16 o1.1) (lt16 o1.2.1)
  have f2 := rfromRatioI_v _ _ (lt16 o2.1) (lt16 o2.2.1)
  have f3 := rfromRatioI_v _ _ (lt16 o3.1) (lt16 o3.2.1)
  have f4 := rfromRatioI_v _ _ (lt16 o4.1) (lt16 o4.2.1)
  have f5 := rfromRatioI_v _ _ (lt16 o5.1) (lt16 o5.2.1)
  have f6 := rfromRatioI_v _ _ (lt16 o6.1) (lt16 o6.2.1)
  have rs := rsign_v (valQ xs u v).1
  have e1 := rvalidRatioI_v _ _ (lt16 o1.1) (lt16 o1.2.1) o1.2.2
  have e2 := rvalidRatioI_v _ _ (lt16 o2.1) (lt16 o2.2.1) o2.2.2
  have e3 := rvalidRatioI_v _ _ (lt16 o3.1) (lt16 o3.2.1) o3.2.2
  have e4 := rvalidRatioI_v _ _ (lt16 o4.1) (lt16 o4.2.1) o4.2.2
  have e5 := rvalidRatioI_v _ _ (lt16 o5.1) (lt16 o5.2.1) o5.2.2
  have e6 := rvalidRatioI_v _ _ (lt16 o6.1) (lt16 o6.2.1) o6.2.2
  clear j1 j2 j3 j4 j5 j6 oV o1 o2 o3 o4 o5 o6
  clear t0 tn
  generalize (trans xs 1 n)[0]'(by omega) = x0 at *
  generalize (trans xs 1 n)[n]'(by omega) = xn at *
  generalize valQ xs u v = V at *
  generalize encQ false N d (trans xs 1 N) = r3 at *
  generalize encQ true N d (trans xs 1 N) = r4 at *
  generalize encQ false N (d + 1) (trans xs 1 N) = r5 at *
  generalize encQ true N (d + 1) (trans xs 1 N) = r6 at *
  generalize bestF false (coefs (trans xs 1 n)) = r1 at *
  generalize bestF true (coefs (trans xs 1 n)) = r2 at *
  generalize hTT : trans xs 1 n = T at *
  simp only [wL, ratPV] at c1 c2 c3 c4 c5 c6 c7
  refine sound_go (tb := []) 281 [.tmp 10] [0, 1, 2, 3, 4, 10, 11, 12, 13, 14, 15, 16, 17, 18, 19, 20, 21, 23, 24, 25, 26, 27, 28, 29, 30, 31, 84, 120, 151, 158, 159, 160, 161, 166, 203, 245] mixed Tryz.func7 rfl (by kernel_rfl) (by kernel_rfl) (by kernel_rfl) (by kernel_rfl) ?_
  repeat (first | (simp -implicitDefEqProofs only [go_sem, Nat.reduceAdd, Nat.reduceMul, Nat.reduceEqDiff, Nat.reduceLT, Nat.reduceLeDiff, Nat.reduceSub, Nat.reduceBEq, reduceIte, reduceCtorEq, Int.reduceEq, Int.reduceNe, Nat.reduceBneDiff, Int.reduceLE, Int.reduceLT, Int.reduceToNat, Int.reduceAdd, Int.reduceSub, Int.reduceMul, Int.reduceNeg, q1, g2, w0, g3, g4, g5, g6, g7, g8, g9, g10, wn, wd, hT1, ne1, i0, List.length_map]) | ((with_reducible refine gcall_eq (hsm) ?_ ?_ ?_); (with_reducible rfl); rfl) | ((with_reducible refine gcall_eq (hvr) ?_ ?_ ?_); (with_reducible rfl); rfl) | ((with_reducible refine gcall_eq (c1) ?_ ?_ ?_); (with_reducible rfl); rfl) | ((with_reducible refine gcall_eq (c2) ?_ ?_ ?_); (with_reducible rfl); rfl) | ((with_reducible refine gcall_eq (c3) ?_ ?_ ?_); (with_reducible rfl); rfl) | ((with_reducible refine gcall_eq (c4) ?_ ?_ ?_); (with_reducible rfl); rfl) | ((with_reducible refine gcall_eq (c5) ?_ ?_ ?_); (with_reducible rfl); rfl) | ((with_reducible refine gcall_eq (c6) ?_ ?_ ?_); (with_reducible rfl); rfl) | ((with_reducible refine gcall_eq (c7) ?_ ?_ ?_); (with_reducible rfl); rfl) | (with_reducible exact drawQ_true _ _ (by kernel_rfl)) | (with_reducible refine And.intro (drawQ_true _ _ (by kernel_rfl)) ?_))
  refine g_loop mixed (fun i : { i : Nat // i ≤ 6 } => St.of [(0, .slc (xs.map wPV)), (1, .int .i64 (n : Int)), (2, .int .i64 (d : Int)), (3, .int .i64 (u : Int)), (4, .int .i64 (v : Int)), (11, .slc (T.map wPV)), (15, .bp 706 4 0 0), (16, .bp 707 4 0 0), (17, .bp 807 4 0 0), (18, .bp 808 4 0 0), (19, .bp 908 4 0 0), (20, .bp 909 4 0 0), (158, .bs 1206 4 0 6), (159, .int .i64 6), (160, .int .i64 (i.1 : Int))]
    [(1206, { els := ratL [r1, r2, r3, r4, r5, r6], esz := 4, ety := 32, fro := 0, live := true, arr := true }), (706, { els := [ratPV r1.1 r1.2], esz := 4, ety := 32, fro := 0, live := true, arr := false }), (707, { els := [ratPV r2.1 r2.2], esz := 4, ety := 32, fro := 0, live := true, arr := false }), (807, { els := [ratPV r3.1 r3.2], esz := 4, ety := 32, fro := 0, live := true, arr := false }), (808, { els := [ratPV r4.1 r4.2], esz := 4, ety := 32, fro := 0, live := true, arr := false }), (908, { els := [ratPV r5.1 r5.2], esz := 4, ety := 32, fro := 0, live := true, arr := false }), (909, { els := [ratPV r6.1 r6.2], esz := 4, ety := 32, fro := 0, live := true, arr := false })] ) (fun i => 6 - i.1) ⟨0, Nat.zero_le _⟩ ?_ ?_
  · refine le_of (θ := [(1206, 1206), (706, 706), (707, 707), (807, 807), (808, 808), (908, 908), (909, 909)]) rfl ?_ ?_
    · simp [varsLe, lkp, ren1, ren0]
    · exact ⟨⟨rfl, rfl, rfl, rfl, rfl, .inl ⟨rfl, rfl⟩⟩, ⟨rfl, rfl, rfl, rfl, rfl, .inr ⟨rfl, _, _, rfl, rfl, rfl, rfl⟩⟩, ⟨rfl, rfl, rfl, rfl, rfl, .inr ⟨rfl, _, _, rfl, rfl, rfl, rfl⟩⟩, ⟨rfl, rfl, rfl, rfl, rfl, .inr ⟨rfl, _, _, rfl, rfl, rfl, rfl⟩⟩, ⟨rfl, rfl, rfl, rfl, rfl, .inr ⟨rfl, _, _, rfl, rfl, rfl, rfl⟩⟩, ⟨rfl, rfl, rfl, rfl, rfl, .inr ⟨rfl, _, _, rfl, rfl, rfl, rfl⟩⟩, ⟨rfl, rfl, rfl, rfl, rfl, .inr ⟨rfl, _, _, rfl, rfl, rfl, rfl⟩⟩, trivial⟩
  · rintro ⟨i, hi⟩
    by_cases hA : i < 6
    · have hA' : ((i : Int) < 6) = True := eq_true (by omega)
      have h0 := nnT i
      have hlr : i < [r1, r2, r3, r4, r5, r6].length := hA
      have hg := ratL_get [r1, r2, r3, r4, r5, r6] i hlr
      have hwk := wrap_add1 (a := i) (by omega)
      have hi6 := ltT hA
      have he : SoundAt Tryz.prog 29 [ratPV ([r1, r2, r3, r4, r5, r6][i]).1 ([r1, r2, r3, r4, r5, r6][i]).2] (.bool true) := by
        match i, hlr with
        | 0, _ => exact e1
        | 1, _ => exact e2
        | 2, _ => exact e3
        | 3, _ => exact e4
        | 4, _ => exact e5
        | 5, _ => exact e6
      generalize [r1, r2, r3, r4, r5, r6][i] = r at *
      unfold ratPV at hg he
      repeat (first | (simp -implicitDefEqProofs only [go_sem, Nat.reduceAdd, Nat.reduceMul, Nat.reduceEqDiff, Nat.reduceLT, Nat.reduceLeDiff, Nat.reduceSub, Nat.reduceBEq, reduceIte, reduceCtorEq, Int.reduceEq, Int.reduceNe, Nat.reduceBneDiff, Int.reduceLE, Int.reduceLT, Int.reduceToNat, Int.reduceAdd, Int.reduceSub, Int.reduceMul, Int.reduceNeg, hA', hi6, h0, hg, hwk, Int.toNat_natCast]) | ((with_reducible refine gcall_eq (he) ?_ ?_ ?_); (with_reducible rfl); rfl) | (with_reducible exact drawQ_true _ _ (by kernel_rfl)) | (with_reducible refine And.intro (drawQ_true _ _ (by kernel_rfl)) ?_))
      refine ⟨⟨i + 1, hA⟩, by simp only; omega, le_of (θ := [(1206, 1206), (706, 706), (707, 707), (807, 807), (808, 808), (908, 908), (909, 909)]) rfl ?_ ?_⟩
      · simp [varsLe, lkp, ren1, ren0]
      · exact ⟨⟨rfl, rfl, rfl, rfl, rfl, .inl ⟨rfl, rfl⟩⟩, ⟨rfl, rfl, rfl, rfl, rfl, .inr ⟨rfl, _, _, rfl, rfl, rfl, rfl⟩⟩, ⟨rfl, rfl, rfl, rfl, rfl, .inr ⟨rfl, _, _, rfl, rfl, rfl, rfl⟩⟩, ⟨rfl, rfl, rfl, rfl, rfl, .inr ⟨rfl, _, _, rfl, rfl, rfl, rfl⟩⟩, ⟨rfl, rfl, rfl, rfl, rfl, .inr ⟨rfl, _, _, rfl, rfl, rfl, rfl⟩⟩, ⟨rfl, rfl, rfl, rfl, rfl, .inr ⟨rfl, _, _, rfl, rfl, rfl, rfl⟩⟩, ⟨rfl, rfl, rfl, rfl, rfl, .inr ⟨rfl, _, _, rfl, rfl, rfl, rfl⟩⟩, trivial⟩
    · have hA' : ((i : Int) < 6) = False := eq_false (by omega)
      have z00 : ((0 : Int) == 0) = true := rfl
      have b1 : ∀ b : Bool, (b == b) = true := fun b => by cases b <;> rfl
      have y0 := nnT 0
      have yn := nnT n
      have l0 := ltT (show 0 < n + 1 by omega)
      have ln := ltT (show n < n + 1 by omega)
      repeat (first | (simp -implicitDefEqProofs only [go_sem, Nat.reduceAdd, Nat.reduceMul, Nat.reduceEqDiff, Nat.reduceLT, Nat.reduceLeDiff, Nat.reduceSub, Nat.reduceBEq, reduceIte, reduceCtorEq, Int.reduceEq, Int.reduceNe, Nat.reduceBneDiff, Int.reduceLE, Int.reduceLT, Int.reduceToNat, Int.reduceAdd, Int.reduceSub, Int.reduceMul, Int.reduceNeg, hA', wd, i0, z00, rL, rQ, rI, di]) | ((with_reducible refine gcall_eq (c10) ?_ ?_ ?_); (with_reducible rfl); rfl) | ((with_reducible refine gcall_eq (nu) ?_ ?_ ?_); (with_reducible rfl); rfl) | ((with_reducible refine gcall_eq (nv) ?_ ?_ ?_); (with_reducible rfl); rfl) | ((with_reducible refine gcall_eq (vv') ?_ ?_ ?_); (with_reducible rfl); rfl) | (with_reducible exact drawQ_true _ _ (by kernel_rfl)) | (with_reducible refine And.intro (drawQ_true _ _ (by kernel_rfl)) ?_))
      repeat (first | (simp -implicitDefEqProofs only [go_sem, Nat.reduceAdd, Nat.reduceMul, Nat.reduceEqDiff, Nat.reduceLT, Nat.reduceLeDiff, Nat.reduceSub, Nat.reduceBEq, reduceIte, reduceCtorEq, Int.reduceEq, Int.reduceNe, Nat.reduceBneDiff, Int.reduceLE, Int.reduceLT, Int.reduceToNat, Int.reduceAdd, Int.reduceSub, Int.reduceMul, Int.reduceNeg, hA', wd, i0, z00, rL, rQ, rI, di]) | ((with_reducible refine gcall_eq (n0) ?_ ?_ ?_); (with_reducible rfl); rfl) | ((with_reducible refine gcall_eq (n1) ?_ ?_ ?_); (with_reducible rfl); rfl) | ((with_reducible refine gcall_eq (vf) ?_ ?_ ?_); (with_reducible rfl); rfl) | ((with_reducible refine gcall_eq (vl) ?_ ?_ ?_); (with_reducible rfl); rfl) | (with_reducible exact drawQ_true _ _ (by kernel_rfl)) | (with_reducible refine And.intro (drawQ_true _ _ (by kernel_rfl)) ?_))
      repeat (first | (simp -implicitDefEqProofs only [go_sem, Nat.reduceAdd, Nat.reduceMul, Nat.reduceEqDiff, Nat.reduceLT, Nat.reduceLeDiff, Nat.reduceSub, Nat.reduceBEq, reduceIte, reduceCtorEq, Int.reduceEq, Int.reduceNe, Nat.reduceBneDiff, Int.reduceLE, Int.reduceLT, Int.reduceToNat, Int.reduceAdd, Int.reduceSub, Int.reduceMul, Int.reduceNeg, hA', wd, i0, z00, y0, yn, l0, ln, gt0, gtn, b1, ba_self, rL, rQ, rI, di, ratPV, wPV, List.length_map, Int.toNat_natCast]) | ((with_reducible refine gcall_eq (to0) ?_ ?_ ?_); (with_reducible rfl); rfl) | ((with_reducible refine gcall_eq (ton) ?_ ?_ ?_); (with_reducible rfl); rfl) | (with_reducible exact drawQ_true _ _ (by kernel_rfl)) | (with_reducible refine And.intro (drawQ_true _ _ (by kernel_rfl)) ?_))
      repeat (first | (simp -implicitDefEqProofs only [go_sem, Nat.reduceAdd, Nat.reduceMul, Nat.reduceEqDiff, Nat.reduceLT, Nat.reduceLeDiff, Nat.reduceSub, Nat.reduceBEq, reduceIte, reduceCtorEq, Int.reduceEq, Int.reduceNe, Nat.reduceBneDiff, Int.reduceLE, Int.reduceLT, Int.reduceToNat, Int.reduceAdd, Int.reduceSub, Int.reduceMul, Int.reduceNeg, rL, rQ, rI, di, ratPV, wPV, s1, s2, s3, s4, s5, s6]) | ((with_reducible refine gcall_eq (f1) ?_ ?_ ?_); (with_reducible rfl); rfl) | ((with_reducible refine gcall_eq (f2) ?_ ?_ ?_); (with_reducible rfl); rfl) | ((with_reducible refine gcall_eq (f3) ?_ ?_ ?_); (with_reducible rfl); rfl) | ((with_reducible refine gcall_eq (f4) ?_ ?_ ?_); (with_reducible rfl); rfl) | ((with_reducible refine gcall_eq (f5) ?_ ?_ ?_); (with_reducible rfl); rfl) | ((with_reducible refine gcall_eq (f6) ?_ ?_ ?_); (with_reducible rfl); rfl) | ((with_reducible refine gcall_eq (k1) ?_ ?_ ?_); (with_reducible rfl); rfl) | ((with_reducible refine gcall_eq (k2) ?_ ?_ ?_); (with_reducible rfl); rfl) | ((with_reducible refine gcall_eq (k3) ?_ ?_ ?_); (with_reducible rfl); rfl) | ((with_reducible refine gcall_eq (k4) ?_ ?_ ?_); (with_reducible rfl); rfl) | ((with_reducible refine gcall_eq (k5) ?_ ?_ ?_); (with_reducible rfl); rfl) | ((with_reducible refine gcall_eq (k6) ?_ ?_ ?_); (with_reducible rfl); rfl) | (with_reducible exact drawQ_true _ _ (by kernel_rfl)) | (with_reducible refine And.intro (drawQ_true _ _ (by kernel_rfl)) ?_))
      cases hb : shownF N d (trans xs 1 N) with
      | false =>
        rw [hb] at c8
        generalize shownF N (d + 1) (trans xs 1 N) = m at *
        cases m <;> repeat (first | (simp -implicitDefEqProofs only [go_sem, Nat.reduceAdd, Nat.reduceMul, Nat.reduceEqDiff, Nat.reduceLT, Nat.reduceLeDiff, Nat.reduceSub, Nat.reduceBEq, reduceIte, reduceCtorEq, Int.reduceEq, Int.reduceNe, Nat.reduceBneDiff, Int.reduceLE, Int.reduceLT, Int.reduceToNat, Int.reduceAdd, Int.reduceSub, Int.reduceMul, Int.reduceNeg, wd, i0, z00, rL, rQ, rI, di]) | ((with_reducible refine gcall_eq (c8) ?_ ?_ ?_); (with_reducible rfl); rfl) | ((with_reducible refine gcall_eq (c9) ?_ ?_ ?_); (with_reducible rfl); rfl) | ((with_reducible refine gcall_eq (rs) ?_ ?_ ?_); (with_reducible rfl); rfl) | ((with_reducible refine gcall_eq (hk) ?_ ?_ ?_); (with_reducible rfl); rfl) | (with_reducible exact drawQ_true _ _ (by kernel_rfl)) | (with_reducible refine And.intro (drawQ_true _ _ (by kernel_rfl)) ?_))
      | true =>
        obtain ⟨m1, m2⟩ := hsh hb
        rw [hb] at c8
        rw [m1] at c9
        repeat (first | (simp -implicitDefEqProofs only [go_sem, Nat.reduceAdd, Nat.reduceMul, Nat.reduceEqDiff, Nat.reduceLT, Nat.reduceLeDiff, Nat.reduceSub, Nat.reduceBEq, reduceIte, reduceCtorEq, Int.reduceEq, Int.reduceNe, Nat.reduceBneDiff, Int.reduceLE, Int.reduceLT, Int.reduceToNat, Int.reduceAdd, Int.reduceSub, Int.reduceMul, Int.reduceNeg, wd, i0, z00, rL, rQ, rI, di, m2]) | ((with_reducible refine gcall_eq (c8) ?_ ?_ ?_); (with_reducible rfl); rfl) | ((with_reducible refine gcall_eq (c9) ?_ ?_ ?_); (with_reducible rfl); rfl) | ((with_reducible refine gcall_eq (rs) ?_ ?_ ?_); (with_reducible rfl); rfl) | ((with_reducible refine gcall_eq (hk) ?_ ?_ ?_); (with_reducible rfl); rfl) | (with_reducible exact drawQ_true _ _ (by kernel_rfl)) | (with_reducible refine And.intro (drawQ_true _ _ (by kernel_rfl)) ?_))
end Go.Proofs.YtnpclmmmngmdkaaGreat

namespace Go.Proofs.YtnpclmmmngmdkaaGreat
open Go.Vl Go.RowKit Go.Dg

set_option maxRecDepth 100000 in
set_option maxHeartbeats 4000000 in
theorem BernsteinHolds_v (l : List (Bool × ByteArray)) (n d u v : Int) (hl : l.length ≤ maxLen) :
    SoundAt Tryz.prog 7 [.slc (l.map wA), .int .i64 n, .int .i64 d, .int .i64 u, .int .i64 v] (.bool true) := by
  have hk := known_v
  have hsm := small_v l hl
  unfold maxLen at hl
  cases hS : smallB l with
  | false =>
    rw [hS] at hsm
    refine sound_go (tb := []) 281 [.tmp 10] [0, 1, 2, 3, 4, 10, 11, 12, 13, 14, 15, 16, 17, 18, 19, 20, 21, 23, 24, 25, 26, 27, 28, 29, 30, 31, 84, 120, 151, 158, 159, 160, 161, 166, 203, 245] mixed Tryz.func7 rfl (by kernel_rfl) (by kernel_rfl) (by kernel_rfl) (by kernel_rfl) ?_
    repeat (first | (simp -implicitDefEqProofs only [go_sem, Nat.reduceAdd, Nat.reduceMul, Nat.reduceEqDiff, Nat.reduceLT, Nat.reduceLeDiff, Nat.reduceSub, Nat.reduceBEq, reduceIte, reduceCtorEq, Int.reduceEq, Int.reduceNe, Nat.reduceBneDiff, Int.reduceLE, Int.reduceLT, Int.reduceToNat, Int.reduceAdd, Int.reduceSub, Int.reduceMul, Int.reduceNeg, List.length_map]) | ((with_reducible refine gcall_eq (hsm) ?_ ?_ ?_); (with_reducible rfl); rfl) | ((with_reducible refine gcall_eq (hk) ?_ ?_ ?_); (with_reducible rfl); rfl) | (with_reducible exact drawQ_true _ _ (by kernel_rfl)) | (with_reducible refine And.intro (drawQ_true _ _ (by kernel_rfl)) ?_))
  | true =>
  rw [hS] at hsm
  by_cases h6 : l.length ≤ 6
  case neg =>
    have q1 : ((6 : Int) < (l.length : Int)) = True := eq_true (by omega)
    refine sound_go (tb := []) 281 [.tmp 10] [0, 1, 2, 3, 4, 10, 11, 12, 13, 14, 15, 16, 17, 18, 19, 20, 21, 23, 24, 25, 26, 27, 28, 29, 30, 31, 84, 120, 151, 158, 159, 160, 161, 166, 203, 245] mixed Tryz.func7 rfl (by kernel_rfl) (by kernel_rfl) (by kernel_rfl) (by kernel_rfl) ?_
    repeat (first | (simp -implicitDefEqProofs only [go_sem, Nat.reduceAdd, Nat.reduceMul, Nat.reduceEqDiff, Nat.reduceLT, Nat.reduceLeDiff, Nat.reduceSub, Nat.reduceBEq, reduceIte, reduceCtorEq, Int.reduceEq, Int.reduceNe, Nat.reduceBneDiff, Int.reduceLE, Int.reduceLT, Int.reduceToNat, Int.reduceAdd, Int.reduceSub, Int.reduceMul, Int.reduceNeg, List.length_map, q1]) | ((with_reducible refine gcall_eq (hsm) ?_ ?_ ?_); (with_reducible rfl); rfl) | ((with_reducible refine gcall_eq (hk) ?_ ?_ ?_); (with_reducible rfl); rfl) | (with_reducible exact drawQ_true _ _ (by kernel_rfl)) | (with_reducible refine And.intro (drawQ_true _ _ (by kernel_rfl)) ?_))
  have q1 : ((6 : Int) < (l.length : Int)) = False := eq_false (by omega)
  have hvr := rPValid_v l (by omega)
  have w0 : IntKind.i64.wrap ((l.length : Int) - 1) = (l.length : Int) - 1 := wrap_i64 (by omega) (by omega)
  cases hp : polyB l with
  | false =>
    rw [hp] at hvr
    refine sound_go (tb := []) 281 [.tmp 10] [0, 1, 2, 3, 4, 10, 11, 12, 13, 14, 15, 16, 17, 18, 19, 20, 21, 23, 24, 25, 26, 27, 28, 29, 30, 31, 84, 120, 151, 158, 159, 160, 161, 166, 203, 245] mixed Tryz.func7 rfl (by kernel_rfl) (by kernel_rfl) (by kernel_rfl) (by kernel_rfl) ?_
    repeat (first | (simp -implicitDefEqProofs only [go_sem, Nat.reduceAdd, Nat.reduceMul, Nat.reduceEqDiff, Nat.reduceLT, Nat.reduceLeDiff, Nat.reduceSub, Nat.reduceBEq, reduceIte, reduceCtorEq, Int.reduceEq, Int.reduceNe, Nat.reduceBneDiff, Int.reduceLE, Int.reduceLT, Int.reduceToNat, Int.reduceAdd, Int.reduceSub, Int.reduceMul, Int.reduceNeg, List.length_map, q1]) | ((with_reducible refine gcall_eq (hsm) ?_ ?_ ?_); (with_reducible rfl); rfl) | ((with_reducible refine gcall_eq (hvr) ?_ ?_ ?_); (with_reducible rfl); rfl) | ((with_reducible refine gcall_eq (hk) ?_ ?_ ?_); (with_reducible rfl); rfl) | (with_reducible exact drawQ_true _ _ (by kernel_rfl)) | (with_reducible refine And.intro (drawQ_true _ _ (by kernel_rfl)) ?_))
  | true =>
  rw [hp] at hvr
  by_cases g2 : n < (l.length : Int) - 1
  · have g2' := eq_true g2
    refine sound_go (tb := []) 281 [.tmp 10] [0, 1, 2, 3, 4, 10, 11, 12, 13, 14, 15, 16, 17, 18, 19, 20, 21, 23, 24, 25, 26, 27, 28, 29, 30, 31, 84, 120, 151, 158, 159, 160, 161, 166, 203, 245] mixed Tryz.func7 rfl (by kernel_rfl) (by kernel_rfl) (by kernel_rfl) (by kernel_rfl) ?_
    repeat (first | (simp -implicitDefEqProofs only [go_sem, Nat.reduceAdd, Nat.reduceMul, Nat.reduceEqDiff, Nat.reduceLT, Nat.reduceLeDiff, Nat.reduceSub, Nat.reduceBEq, reduceIte, reduceCtorEq, Int.reduceEq, Int.reduceNe, Nat.reduceBneDiff, Int.reduceLE, Int.reduceLT, Int.reduceToNat, Int.reduceAdd, Int.reduceSub, Int.reduceMul, Int.reduceNeg, List.length_map, q1, w0, g2']) | ((with_reducible refine gcall_eq (hsm) ?_ ?_ ?_); (with_reducible rfl); rfl) | ((with_reducible refine gcall_eq (hvr) ?_ ?_ ?_); (with_reducible rfl); rfl) | ((with_reducible refine gcall_eq (hk) ?_ ?_ ?_); (with_reducible rfl); rfl) | (with_reducible exact drawQ_true _ _ (by kernel_rfl)) | (with_reducible refine And.intro (drawQ_true _ _ (by kernel_rfl)) ?_))
  have g2' := eq_false g2
  by_cases g3 : n < 0
  · have g3' := eq_true g3
    refine sound_go (tb := []) 281 [.tmp 10] [0, 1, 2, 3, 4, 10, 11, 12, 13, 14, 15, 16, 17, 18, 19, 20, 21, 23, 24, 25, 26, 27, 28, 29, 30, 31, 84, 120, 151, 158, 159, 160, 161, 166, 203, 245] mixed Tryz.func7 rfl (by kernel_rfl) (by kernel_rfl) (by kernel_rfl) (by kernel_rfl) ?_
    repeat (first | (simp -implicitDefEqProofs only [go_sem, Nat.reduceAdd, Nat.reduceMul, Nat.reduceEqDiff, Nat.reduceLT, Nat.reduceLeDiff, Nat.reduceSub, Nat.reduceBEq, reduceIte, reduceCtorEq, Int.reduceEq, Int.reduceNe, Nat.reduceBneDiff, Int.reduceLE, Int.reduceLT, Int.reduceToNat, Int.reduceAdd, Int.reduceSub, Int.reduceMul, Int.reduceNeg, List.length_map, q1, w0, g2', g3']) | ((with_reducible refine gcall_eq (hsm) ?_ ?_ ?_); (with_reducible rfl); rfl) | ((with_reducible refine gcall_eq (hvr) ?_ ?_ ?_); (with_reducible rfl); rfl) | ((with_reducible refine gcall_eq (hk) ?_ ?_ ?_); (with_reducible rfl); rfl) | (with_reducible exact drawQ_true _ _ (by kernel_rfl)) | (with_reducible refine And.intro (drawQ_true _ _ (by kernel_rfl)) ?_))
  have g3' := eq_false g3
  by_cases g4 : 8 < n
  · have g4' := eq_true g4
    refine sound_go (tb := []) 281 [.tmp 10] [0, 1, 2, 3, 4, 10, 11, 12, 13, 14, 15, 16, 17, 18, 19, 20, 21, 23, 24, 25, 26, 27, 28, 29, 30, 31, 84, 120, 151, 158, 159, 160, 161, 166, 203, 245] mixed Tryz.func7 rfl (by kernel_rfl) (by kernel_rfl) (by kernel_rfl) (by kernel_rfl) ?_
    repeat (first | (simp -implicitDefEqProofs only [go_sem, Nat.reduceAdd, Nat.reduceMul, Nat.reduceEqDiff, Nat.reduceLT, Nat.reduceLeDiff, Nat.reduceSub, Nat.reduceBEq, reduceIte, reduceCtorEq, Int.reduceEq, Int.reduceNe, Nat.reduceBneDiff, Int.reduceLE, Int.reduceLT, Int.reduceToNat, Int.reduceAdd, Int.reduceSub, Int.reduceMul, Int.reduceNeg, List.length_map, q1, w0, g2', g3', g4']) | ((with_reducible refine gcall_eq (hsm) ?_ ?_ ?_); (with_reducible rfl); rfl) | ((with_reducible refine gcall_eq (hvr) ?_ ?_ ?_); (with_reducible rfl); rfl) | ((with_reducible refine gcall_eq (hk) ?_ ?_ ?_); (with_reducible rfl); rfl) | (with_reducible exact drawQ_true _ _ (by kernel_rfl)) | (with_reducible refine And.intro (drawQ_true _ _ (by kernel_rfl)) ?_))
  have g4' := eq_false g4
  by_cases g5 : d < 0
  · have g5' := eq_true g5
    refine sound_go (tb := []) 281 [.tmp 10] [0, 1, 2, 3, 4, 10, 11, 12, 13, 14, 15, 16, 17, 18, 19, 20, 21, 23, 24, 25, 26, 27, 28, 29, 30, 31, 84, 120, 151, 158, 159, 160, 161, 166, 203, 245] mixed Tryz.func7 rfl (by kernel_rfl) (by kernel_rfl) (by kernel_rfl) (by kernel_rfl) ?_
    repeat (first | (simp -implicitDefEqProofs only [go_sem, Nat.reduceAdd, Nat.reduceMul, Nat.reduceEqDiff, Nat.reduceLT, Nat.reduceLeDiff, Nat.reduceSub, Nat.reduceBEq, reduceIte, reduceCtorEq, Int.reduceEq, Int.reduceNe, Nat.reduceBneDiff, Int.reduceLE, Int.reduceLT, Int.reduceToNat, Int.reduceAdd, Int.reduceSub, Int.reduceMul, Int.reduceNeg, List.length_map, q1, w0, g2', g3', g4', g5']) | ((with_reducible refine gcall_eq (hsm) ?_ ?_ ?_); (with_reducible rfl); rfl) | ((with_reducible refine gcall_eq (hvr) ?_ ?_ ?_); (with_reducible rfl); rfl) | ((with_reducible refine gcall_eq (hk) ?_ ?_ ?_); (with_reducible rfl); rfl) | (with_reducible exact drawQ_true _ _ (by kernel_rfl)) | (with_reducible refine And.intro (drawQ_true _ _ (by kernel_rfl)) ?_))
  have g5' := eq_false g5
  by_cases g6 : 3 < d
  · have g6' := eq_true g6
    refine sound_go (tb := []) 281 [.tmp 10] [0, 1, 2, 3, 4, 10, 11, 12, 13, 14, 15, 16, 17, 18, 19, 20, 21, 23, 24, 25, 26, 27, 28, 29, 30, 31, 84, 120, 151, 158, 159, 160, 161, 166, 203, 245] mixed Tryz.func7 rfl (by kernel_rfl) (by kernel_rfl) (by kernel_rfl) (by kernel_rfl) ?_
    repeat (first | (simp -implicitDefEqProofs only [go_sem, Nat.reduceAdd, Nat.reduceMul, Nat.reduceEqDiff, Nat.reduceLT, Nat.reduceLeDiff, Nat.reduceSub, Nat.reduceBEq, reduceIte, reduceCtorEq, Int.reduceEq, Int.reduceNe, Nat.reduceBneDiff, Int.reduceLE, Int.reduceLT, Int.reduceToNat, Int.reduceAdd, Int.reduceSub, Int.reduceMul, Int.reduceNeg, List.length_map, q1, w0, g2', g3', g4', g5', g6']) | ((with_reducible refine gcall_eq (hsm) ?_ ?_ ?_); (with_reducible rfl); rfl) | ((with_reducible refine gcall_eq (hvr) ?_ ?_ ?_); (with_reducible rfl); rfl) | ((with_reducible refine gcall_eq (hk) ?_ ?_ ?_); (with_reducible rfl); rfl) | (with_reducible exact drawQ_true _ _ (by kernel_rfl)) | (with_reducible refine And.intro (drawQ_true _ _ (by kernel_rfl)) ?_))
  have g6' := eq_false g6
  by_cases g7 : v < 1
  · have g7' := eq_true g7
    refine sound_go (tb := []) 281 [.tmp 10] [0, 1, 2, 3, 4, 10, 11, 12, 13, 14, 15, 16, 17, 18, 19, 20, 21, 23, 24, 25, 26, 27, 28, 29, 30, 31, 84, 120, 151, 158, 159, 160, 161, 166, 203, 245] mixed Tryz.func7 rfl (by kernel_rfl) (by kernel_rfl) (by kernel_rfl) (by kernel_rfl) ?_
    repeat (first | (simp -implicitDefEqProofs only [go_sem, Nat.reduceAdd, Nat.reduceMul, Nat.reduceEqDiff, Nat.reduceLT, Nat.reduceLeDiff, Nat.reduceSub, Nat.reduceBEq, reduceIte, reduceCtorEq, Int.reduceEq, Int.reduceNe, Nat.reduceBneDiff, Int.reduceLE, Int.reduceLT, Int.reduceToNat, Int.reduceAdd, Int.reduceSub, Int.reduceMul, Int.reduceNeg, List.length_map, q1, w0, g2', g3', g4', g5', g6', g7']) | ((with_reducible refine gcall_eq (hsm) ?_ ?_ ?_); (with_reducible rfl); rfl) | ((with_reducible refine gcall_eq (hvr) ?_ ?_ ?_); (with_reducible rfl); rfl) | ((with_reducible refine gcall_eq (hk) ?_ ?_ ?_); (with_reducible rfl); rfl) | (with_reducible exact drawQ_true _ _ (by kernel_rfl)) | (with_reducible refine And.intro (drawQ_true _ _ (by kernel_rfl)) ?_))
  have g7' := eq_false g7
  by_cases g8 : 1000 < v
  · have g8' := eq_true g8
    refine sound_go (tb := []) 281 [.tmp 10] [0, 1, 2, 3, 4, 10, 11, 12, 13, 14, 15, 16, 17, 18, 19, 20, 21, 23, 24, 25, 26, 27, 28, 29, 30, 31, 84, 120, 151, 158, 159, 160, 161, 166, 203, 245] mixed Tryz.func7 rfl (by kernel_rfl) (by kernel_rfl) (by kernel_rfl) (by kernel_rfl) ?_
    repeat (first | (simp -implicitDefEqProofs only [go_sem, Nat.reduceAdd, Nat.reduceMul, Nat.reduceEqDiff, Nat.reduceLT, Nat.reduceLeDiff, Nat.reduceSub, Nat.reduceBEq, reduceIte, reduceCtorEq, Int.reduceEq, Int.reduceNe, Nat.reduceBneDiff, Int.reduceLE, Int.reduceLT, Int.reduceToNat, Int.reduceAdd, Int.reduceSub, Int.reduceMul, Int.reduceNeg, List.length_map, q1, w0, g2', g3', g4', g5', g6', g7', g8']) | ((with_reducible refine gcall_eq (hsm) ?_ ?_ ?_); (with_reducible rfl); rfl) | ((with_reducible refine gcall_eq (hvr) ?_ ?_ ?_); (with_reducible rfl); rfl) | ((with_reducible refine gcall_eq (hk) ?_ ?_ ?_); (with_reducible rfl); rfl) | (with_reducible exact drawQ_true _ _ (by kernel_rfl)) | (with_reducible refine And.intro (drawQ_true _ _ (by kernel_rfl)) ?_))
  have g8' := eq_false g8
  by_cases g9 : u < 0
  · have g9' := eq_true g9
    refine sound_go (tb := []) 281 [.tmp 10] [0, 1, 2, 3, 4, 10, 11, 12, 13, 14, 15, 16, 17, 18, 19, 20, 21, 23, 24, 25, 26, 27, 28, 29, 30, 31, 84, 120, 151, 158, 159, 160, 161, 166, 203, 245] mixed Tryz.func7 rfl (by kernel_rfl) (by kernel_rfl) (by kernel_rfl) (by kernel_rfl) ?_
    repeat (first | (simp -implicitDefEqProofs only [go_sem, Nat.reduceAdd, Nat.reduceMul, Nat.reduceEqDiff, Nat.reduceLT, Nat.reduceLeDiff, Nat.reduceSub, Nat.reduceBEq, reduceIte, reduceCtorEq, Int.reduceEq, Int.reduceNe, Nat.reduceBneDiff, Int.reduceLE, Int.reduceLT, Int.reduceToNat, Int.reduceAdd, Int.reduceSub, Int.reduceMul, Int.reduceNeg, List.length_map, q1, w0, g2', g3', g4', g5', g6', g7', g8', g9']) | ((with_reducible refine gcall_eq (hsm) ?_ ?_ ?_); (with_reducible rfl); rfl) | ((with_reducible refine gcall_eq (hvr) ?_ ?_ ?_); (with_reducible rfl); rfl) | ((with_reducible refine gcall_eq (hk) ?_ ?_ ?_); (with_reducible rfl); rfl) | (with_reducible exact drawQ_true _ _ (by kernel_rfl)) | (with_reducible refine And.intro (drawQ_true _ _ (by kernel_rfl)) ?_))
  have g9' := eq_false g9
  by_cases g10 : v < u
  · have g10' := eq_true g10
    refine sound_go (tb := []) 281 [.tmp 10] [0, 1, 2, 3, 4, 10, 11, 12, 13, 14, 15, 16, 17, 18, 19, 20, 21, 23, 24, 25, 26, 27, 28, 29, 30, 31, 84, 120, 151, 158, 159, 160, 161, 166, 203, 245] mixed Tryz.func7 rfl (by kernel_rfl) (by kernel_rfl) (by kernel_rfl) (by kernel_rfl) ?_
    repeat (first | (simp -implicitDefEqProofs only [go_sem, Nat.reduceAdd, Nat.reduceMul, Nat.reduceEqDiff, Nat.reduceLT, Nat.reduceLeDiff, Nat.reduceSub, Nat.reduceBEq, reduceIte, reduceCtorEq, Int.reduceEq, Int.reduceNe, Nat.reduceBneDiff, Int.reduceLE, Int.reduceLT, Int.reduceToNat, Int.reduceAdd, Int.reduceSub, Int.reduceMul, Int.reduceNeg, List.length_map, q1, w0, g2', g3', g4', g5', g6', g7', g8', g9', g10']) | ((with_reducible refine gcall_eq (hsm) ?_ ?_ ?_); (with_reducible rfl); rfl) | ((with_reducible refine gcall_eq (hvr) ?_ ?_ ?_); (with_reducible rfl); rfl) | ((with_reducible refine gcall_eq (hk) ?_ ?_ ?_); (with_reducible rfl); rfl) | (with_reducible exact drawQ_true _ _ (by kernel_rfl)) | (with_reducible refine And.intro (drawQ_true _ _ (by kernel_rfl)) ?_))
  obtain ⟨n, rfl⟩ : ∃ m : Nat, n = m := ⟨n.toNat, by omega⟩
  obtain ⟨d, rfl⟩ : ∃ m : Nat, d = m := ⟨d.toNat, by omega⟩
  obtain ⟨u, rfl⟩ : ∃ m : Nat, u = m := ⟨u.toNat, by omega⟩
  obtain ⟨v, rfl⟩ : ∃ m : Nat, v = m := ⟨v.toNat, by omega⟩
  exact BernsteinHolds_in l n d u v hS h6 hp (by omega) (by omega) (by omega) (by omega) (by omega) (by omega)
end Go.Proofs.YtnpclmmmngmdkaaGreat

namespace Go.Proofs.YtnpclmmmngmdkaaGreat
open Go.Vl Go.RowKit

theorem own : ownKnob Tryz.prog.godebug = none := by kernel_rfl
theorem laidOut : laidOutB Tryz.prog = true := by kernel_rfl
def wideT : TT := .agg [.bool, .str]
theorem wideT_inv {c : List PV} (h : HasTT wideT c) : ∃ (n : Bool) (s : ByteArray), wideT.mk c = .agg [.bool n, .str s] ∧ s.size ≤ maxLen := by
  simp only [wideT, HasTT, HasTTs] at h
  obtain ⟨_, _, rfl, ⟨n, rfl⟩, _, _, rfl, ⟨s, rfl, hs⟩, rfl⟩ := h
  exact ⟨n, s, rfl, hs⟩
theorem intT_inv {k : IntKind} {c : List PV} (h : HasTT (.int k) c) : ∃ n : Int, TT.mk (.int k) c = .int k n ∧ (Lit.int k n).wf = true := by
  simp only [HasTT] at h
  obtain ⟨x, rfl, hx⟩ := h
  exact ⟨x, rfl, hx⟩
theorem i64_bounds {n : Int} (h : (Lit.int .i64 n).wf = true) : -9223372036854775808 ≤ n ∧ n ≤ 9223372036854775807 := by
  have := h
  simp [Lit.wf, IntKind.min, IntKind.max, IntKind.signed, IntKind.bits] at this
  omega
theorem i64T_inv {c : List PV} (h : HasTT (.int .i64) c) : ∃ n : Int, TT.mk (.int .i64) c = .int .i64 n ∧ -9223372036854775808 ≤ n ∧ n ≤ 9223372036854775807 := by
  obtain ⟨n, e, w⟩ := intT_inv h
  exact ⟨n, e, i64_bounds w⟩
theorem map_inv {e : TT} {α : Type} {f : α → PV} (hf : ∀ c, HasTT e c → ∃ a, e.mk c = f a) : ∀ ess : List (List PV), (∀ c ∈ ess, HasTT e c) → ∃ l : List α, ess.map e.mk = l.map f ∧ l.length = ess.length
  | [], _ => ⟨[], rfl, rfl⟩
  | c :: cs, h => by
    obtain ⟨a, ha⟩ := hf c (h c (by simp))
    obtain ⟨l, hl, hn⟩ := map_inv hf cs (fun c hc => h c (by simp [hc]))
    exact ⟨a :: l, by simp [ha, hl], by simp [hn]⟩
theorem widesT_inv {c : List PV} (h : HasTT (.slc wideT) c) : ∃ l : List (Bool × ByteArray), TT.mk (.slc wideT) c = .slc (l.map wA) ∧ l.length ≤ maxLen := by
  simp only [HasTT] at h
  obtain ⟨ess, rfl, hm, h⟩ := h
  obtain ⟨l, e, hn⟩ := map_inv (f := wA) (fun c h => by obtain ⟨n, s, e, _⟩ := wideT_inv h; exact ⟨(n, s), e⟩) ess h
  exact ⟨l, by simp only [TT.mk, List.headD_cons]; rw [e], by omega⟩
end Go.Proofs.YtnpclmmmngmdkaaGreat
