/-
  FN11 (merged for the claim).
-/
import Derived.Test.YtnpclmmmngmdkaaGreatFN10
set_option linter.unusedSimpArgs false
set_option linter.unusedVariables false
namespace Go.Proofs.YtnpclmmmngmdkaaGreat
open Go.Vl Go.RowKit Go.Dg

theorem noR_l (g : Bool) : rats g [] = .agg [.bool false, .str ⟨#[]⟩, .bool false, .str ⟨#[]⟩] := rats_nil g
theorem Bounds_no (l : List (Bool × ByteArray)) (hl : l.length ≤ maxLen) (h : formB l = false) :
    SoundAt Tryz.prog 11 [.slc (l.map wA)] (.tup [.agg [.bool false, .str ⟨#[]⟩, .bool false, .str ⟨#[]⟩], .agg [.bool false, .str ⟨#[]⟩, .bool false, .str ⟨#[]⟩], .int .i64 2]) := by
  have hv := valid_v l hl
  rw [h] at hv
  refine sound_go (tb := []) 26 [.cell 2 32, .cell 3 32, .tmp 4] [0, 2, 3, 4, 5, 7, 13] mixed Tryz.func11 rfl (by kernel_rfl) (by kernel_rfl) (by kernel_rfl) (by kernel_rfl) ?_
  repeat (first | (simp -implicitDefEqProofs only [go_sem, Nat.reduceAdd, Nat.reduceMul, Nat.reduceEqDiff, Nat.reduceLT, Nat.reduceLeDiff, Nat.reduceSub, Nat.reduceBEq, reduceIte, reduceCtorEq, Int.reduceEq, Int.reduceNe, Nat.reduceBneDiff, Int.reduceLE, Int.reduceLT, Int.reduceToNat, Int.reduceAdd, Int.reduceSub, Int.reduceMul, Int.reduceNeg]) | ((with_reducible refine gcall_eq (hv) ?_ ?_ ?_); (with_reducible rfl); rfl) | (with_reducible exact drawQ_true _ _ (by kernel_rfl)) | (with_reducible refine And.intro (drawQ_true _ _ (by kernel_rfl)) ?_))
theorem Bounds_full (l : List (Bool × ByteArray)) (h : formB l = true) (hs : ∀ x ∈ l.map wnP, x.natAbs < 2 ^ 65536) (hb : 65536 < bitsF blen (l.map wnP) + 30) :
    SoundAt Tryz.prog 11 [.slc (l.map wA)] (.tup [.agg [.bool false, .str ⟨#[]⟩, .bool false, .str ⟨#[]⟩], .agg [.bool false, .str ⟨#[]⟩, .bool false, .str ⟨#[]⟩], .int .i64 7]) := by
  obtain ⟨hval, h1, h25⟩ := formB_of h
  have hv := valid_v l (Nat.le_trans h25 (by decide))
  rw [h] at hv
  rw [wA_wPV hval] at hv ⊢
  have hxl : (l.map wnP).length = l.length := List.length_map _
  rw [← hxl] at h1 h25
  generalize l.map wnP = xs at *
  have hsz := size_v xs (by omega) hs
  have hle : bitsF blen xs ≤ 65536 := bitsF_le fun x hx' => p2_blen (hs x hx')
  have w3 : IntKind.i64.wrap ((bitsF blen xs : Int) + 30) = ((bitsF blen xs + 30 : Nat) : Int) := by rw [wrap_i64 (by omega) (by omega)]; omega
  have g4 : ((65536 : Int) < ((bitsF blen xs + 30 : Nat) : Int)) = True := by simp only [eq_iff_iff, iff_true]; omega
  generalize bitsF blen xs = bb at *
  unfold wL at *
  refine sound_go (tb := []) 26 [.cell 2 32, .cell 3 32, .tmp 4] [0, 2, 3, 4, 5, 7, 13] mixed Tryz.func11 rfl (by kernel_rfl) (by kernel_rfl) (by kernel_rfl) (by kernel_rfl) ?_
  repeat (first | (simp -implicitDefEqProofs only [go_sem, Nat.reduceAdd, Nat.reduceMul, Nat.reduceEqDiff, Nat.reduceLT, Nat.reduceLeDiff, Nat.reduceSub, Nat.reduceBEq, reduceIte, reduceCtorEq, Int.reduceEq, Int.reduceNe, Nat.reduceBneDiff, Int.reduceLE, Int.reduceLT, Int.reduceToNat, Int.reduceAdd, Int.reduceSub, Int.reduceMul, Int.reduceNeg, w3, g4, List.length_map]) | ((with_reducible refine gcall_eq (hv) ?_ ?_ ?_); (with_reducible rfl); rfl) | ((with_reducible refine gcall_eq (hsz) ?_ ?_ ?_); (with_reducible rfl); rfl) | (with_reducible exact drawQ_true _ _ (by kernel_rfl)) | (with_reducible refine And.intro (drawQ_true _ _ (by kernel_rfl)) ?_))
theorem Bounds_v (l : List (Bool × ByteArray)) (n B : Nat) (hn : l.length = n + 1) (h : formB l = true) (hx : ∀ x ∈ l.map wnP, x.natAbs < 2 ^ B) (hB : B + 30 ≤ 65536) :
    SoundAt Tryz.prog 11 [.slc (l.map wA)] (.tup [rats false (coefs (l.map wnP)), rats true (coefs (l.map wnP)), .int .i64 0]) := by
  obtain ⟨hval, h1, h25⟩ := formB_of h
  have hv := valid_v l (Nat.le_trans h25 (by decide))
  rw [h] at hv
  rw [wA_wPV hval] at hv ⊢
  have hxl : (l.map wnP).length = n + 1 := by rw [List.length_map]; exact hn
  have hn24 : n ≤ 24 := by omega
  generalize l.map wnP = xs at *
  have hsz := size_v xs (by omega) fun x hx' => p2_16 (hx x hx') (by omega)
  have hle : bitsF blen xs ≤ B := bitsF_le fun x hx' => p2_blen (hx x hx')
  have w3 : IntKind.i64.wrap ((bitsF blen xs : Int) + 30) = ((bitsF blen xs + 30 : Nat) : Int) := by rw [wrap_i64 (by omega) (by omega)]; omega
  have g4 : ((65536 : Int) < ((bitsF blen xs + 30 : Nat) : Int)) = False := by simp only [eq_iff_iff, iff_false]; omega
  have l1 := least_v [xs] false n B hn24 (by simp) (fun f hf => by rw [List.mem_singleton] at hf; subst hf; exact ⟨hxl, hx⟩) (by omega)
  have l2 := least_v [xs] true n B hn24 (by simp) (fun f hf => by rw [List.mem_singleton] at hf; subst hf; exact ⟨hxl, hx⟩) (by omega)
  rw [List.flatMap_singleton] at l1 l2
  unfold rats ratPV at l1 l2 ⊢
  simp only [List.map_cons, List.map_nil] at l1 l2
  generalize bestF false (coefs xs) = b1 at *
  generalize bestF true (coefs xs) = b2 at *
  generalize bitsF blen xs = bb at *
  unfold wL at *
  refine sound_go (tb := []) 26 [.cell 2 32, .cell 3 32, .tmp 4] [0, 2, 3, 4, 5, 7, 13] mixed Tryz.func11 rfl (by kernel_rfl) (by kernel_rfl) (by kernel_rfl) (by kernel_rfl) ?_
  repeat (first | (simp -implicitDefEqProofs only [go_sem, Nat.reduceAdd, Nat.reduceMul, Nat.reduceEqDiff, Nat.reduceLT, Nat.reduceLeDiff, Nat.reduceSub, Nat.reduceBEq, reduceIte, reduceCtorEq, Int.reduceEq, Int.reduceNe, Nat.reduceBneDiff, Int.reduceLE, Int.reduceLT, Int.reduceToNat, Int.reduceAdd, Int.reduceSub, Int.reduceMul, Int.reduceNeg, w3, g4, List.length_map]) | ((with_reducible refine gcall_eq (hv) ?_ ?_ ?_); (with_reducible rfl); rfl) | ((with_reducible refine gcall_eq (hsz) ?_ ?_ ?_); (with_reducible rfl); rfl) | ((with_reducible refine gcall_eq (l1) ?_ ?_ ?_); (with_reducible rfl); rfl) | ((with_reducible refine gcall_eq (l2) ?_ ?_ ?_); (with_reducible rfl); rfl) | (with_reducible exact drawQ_true _ _ (by kernel_rfl)) | (with_reducible refine And.intro (drawQ_true _ _ (by kernel_rfl)) ?_))
def rrats (g : Bool) (l : List (Int × Int)) : PV := rQ (bestF g l).1 (bestF g l).2
theorem rQ_00 : rQ 0 0 = .agg [.bool false, .slc [], .bool false, .slc []] := by unfold rQ di; rw [show (0 : Int).natAbs = 0 from rfl, digs_zero]; rfl
set_option maxHeartbeats 4000000 in
theorem rLeast_v (f : List Int) (n B : Nat) (hn : n ≤ 24) (hfl : f.length = n + 1) (hfb : bd B f) (k : Nat) (hk : k ≤ 10000) (hB : B ≤ 8 * k) (hB2 : 25 ≤ 8 * k) :
    SoundAt Tryz.prog 13 [rL f] (.tup [rrats false (coefs f), rrats true (coefs f)]) := by
  have hok := coefs_ok (f := f) (by omega) hfb
  refine sound_go (tb := []) 45 [.cell 2 39, .cell 3 39] [0, 2, 3, 4, 5, 6, 7, 11, 32, 41] mixed Tryz.func13 rfl (by kernel_rfl) (by kernel_rfl) (by kernel_rfl) (by kernel_rfl) ?_
  simp -implicitDefEqProofs only [go_sem, Nat.reduceAdd, Nat.reduceMul, Nat.reduceEqDiff, Nat.reduceLT, Nat.reduceLeDiff, Nat.reduceSub, Nat.reduceBEq, reduceIte, reduceCtorEq, Int.reduceEq, Int.reduceNe, Nat.reduceBneDiff, Int.reduceLE, Int.reduceLT, Int.reduceToNat, Int.reduceAdd, Int.reduceSub, Int.reduceMul, Int.reduceNeg]
  refine g_loop mixed (fun j : { j : Nat // j ≤ f.length } => St.of [(0, rL f), (2, .bp 0 4 0 0), (3, .bp 1 4 0 0), (4, .bp 100 4 0 0), (5, .bp 101 4 0 0), (6, .int .i64 (j.1 : Int))]
    [(0, { els := [rrats false []], esz := 4, ety := 39, fro := 0, live := true, arr := false }), (1, { els := [rrats false []], esz := 4, ety := 39, fro := 0, live := true, arr := false }),
     (100, { els := [rrats false ((coefs f).take j.1)], esz := 4, ety := 39, fro := 0, live := true, arr := false }), (101, { els := [rrats true ((coefs f).take j.1)], esz := 4, ety := 39, fro := 0, live := true, arr := false })]) (fun j => f.length - j.1) ⟨0, Nat.zero_le _⟩ ?_ ?_
  · refine Le.trans (le_upG 0 rfl) (Le.trans (le_upG 1 rfl) (Le.trans (le_upG 100 rfl) (Le.trans (le_upG 101 rfl) (le_of (θ := [(0, 0), (1, 1), (100, 100), (101, 101)]) rfl ?_ ?_))))
    · simp [varsLe, lkp, ren1, ren0, rL]
    · simp only [rrats, bestF, List.take_zero, List.foldl_nil, rQ_00]
      refine ⟨⟨rfl, rfl, rfl, rfl, rfl, .inr ⟨rfl, _, _, rfl, rfl, rfl, rfl⟩⟩, ⟨rfl, rfl, rfl, rfl, rfl, .inr ⟨rfl, _, _, rfl, rfl, rfl, rfl⟩⟩, ⟨rfl, rfl, rfl, rfl, rfl, .inr ⟨rfl, _, _, rfl, rfl, rfl, rfl⟩⟩, ⟨rfl, rfl, rfl, rfl, rfl, .inr ⟨rfl, _, _, rfl, rfl, rfl, rfl⟩⟩, trivial⟩
  · rintro ⟨j, hj⟩
    by_cases hJ : j < f.length
    · have hJ' := ltT hJ
      have hnj := nnT j
      have hgx := rI_get f j hJ
      have hwj := wrap_add1 (a := j) (by omega)
      have w1 : IntKind.i64.wrap ((f.length : Int) - 1) = (n : Int) := by rw [wrap_i64 (by omega) (by omega)]; omega
      have hwy := rways_v n j (by omega) (by omega)
      have hb := bin_i64 (n := n) (k := j) hn
      have hp := bin_posI (n := n) (j := j) (by omega)
      have hnu := rnum_v (bin n j : Int) (by omega) (by omega)
      have hx2 : f[j].natAbs < 256 ^ k := p2_256 (hfb _ (List.getElem_mem hJ)) (by omega)
      have hc2 : (bin n j : Int).natAbs < 256 ^ k := p2_256 (B := 25) (by rw [Int.natAbs_natCast]; have : (2 : Nat) ^ 25 = 33554432 := rfl; omega) hB2
      have hlo := rlowest_v f[j] (bin n j : Int) (by omega) k (by omega) hx2 hc2
      have hsn := coefs_snoc (f := f) hJ
      have hr : lowN f[j] (bin (f.length - 1) j : Int) = lowN f[j] (bin n j : Int) ∧ lowD f[j] (bin (f.length - 1) j : Int) = lowD f[j] (bin n j : Int) := by rw [show f.length - 1 = n by omega]; exact ⟨rfl, rfl⟩
      rw [hr.1, hr.2] at hsn
      have hmem : (lowN f[j] (bin n j : Int), lowD f[j] (bin n j : Int)) ∈ coefs f := List.mem_of_mem_take (by rw [hsn]; exact List.mem_append_right _ (List.mem_singleton.2 rfl))
      have hrk := hok _ hmem
      have hokq : ∀ r ∈ (coefs f).take j, r.1.natAbs < 2 ^ B ∧ r.2.natAbs < 2 ^ 25 ∧ 0 < r.2 := fun r hr => hok r (List.mem_of_mem_take hr)
      have hpos : ∀ g, j ≠ 0 → 0 < (bestF g ((coefs f).take j)).2 := by
        intro g h0
        refine best_pos (fun r hr => (hokq r hr).2.2) ?_
        intro e
        have := congrArg List.length e
        rw [List.length_take, coefs_length] at this
        simp only [List.length_nil] at this
        omega
      have hst : ∀ g, rrats g ((coefs f).take (j + 1)) = rQ (bstep g (bestF g ((coefs f).take j)) (lowN f[j] (bin n j : Int), lowD f[j] (bin n j : Int))).1 (bstep g (bestF g ((coefs f).take j)) (lowN f[j] (bin n j : Int), lowD f[j] (bin n j : Int))).2 := fun g => by
        rw [rrats, hsn, bestF_snoc]
      have k1 : ∀ g, okR B (bestF g ((coefs f).take j)) := fun g => okR_best hokq
      have hcq : ∀ g, SoundAt Tryz.prog 33 [rQ (lowN f[j] (bin n j : Int)) (lowD f[j] (bin n j : Int)), rQ (bestF g ((coefs f).take j)).1 (bestF g ((coefs f).take j)).2] (.int .i64 (lowN f[j] (bin n j : Int) * (bestF g ((coefs f).take j)).2 - (bestF g ((coefs f).take j)).1 * lowD f[j] (bin n j : Int)).sign) :=
        fun g => rcompareQ_v _ _ _ _ k hk (p2_256 hrk.1 (by omega)) (p2_256 hrk.2.1 hB2) (p2_256 (k1 g).1 (by omega)) (p2_256 (k1 g).2.1 hB2)
      have c0 := hcq false
      have c1 := hcq true
      have s0 := hst false
      have s1 := hst true
      have p0 := hpos false
      have p1 := hpos true
      clear hst k1 hcq hpos
      simp only
      rw [show rrats false ((coefs f).take j) = rQ (bestF false ((coefs f).take j)).1 (bestF false ((coefs f).take j)).2 from rfl, show rrats true ((coefs f).take j) = rQ (bestF true ((coefs f).take j)).1 (bestF true ((coefs f).take j)).2 from rfl]
      by_cases h0 : j = 0
      · subst h0
        have z0 : (((0 : Nat) : Int) == 0) = true := rfl
        have r0 : rrats false ((coefs f).take (0 + 1)) = rQ (lowN f[0] (bin n 0 : Int)) (lowD f[0] (bin n 0 : Int)) := by rw [s0]; unfold bstep; rw [if_pos (.inl rfl)]
        have r1 : rrats true ((coefs f).take (0 + 1)) = rQ (lowN f[0] (bin n 0 : Int)) (lowD f[0] (bin n 0 : Int)) := by rw [s1]; unfold bstep; rw [if_pos (.inl rfl)]
        generalize bestF false ((coefs f).take 0) = b at *
        generalize bestF true ((coefs f).take 0) = d at *
        generalize lowN f[0] (bin n 0 : Int) = x at *
        generalize lowD f[0] (bin n 0 : Int) = y at *
        generalize (bin n 0 : Int) = c at *
        repeat (first | (simp -implicitDefEqProofs only [go_sem, Nat.reduceAdd, Nat.reduceMul, Nat.reduceEqDiff, Nat.reduceLT, Nat.reduceLeDiff, Nat.reduceSub, Nat.reduceBEq, reduceIte, reduceCtorEq, Int.reduceEq, Int.reduceNe, Nat.reduceBneDiff, Int.reduceLE, Int.reduceLT, Int.reduceToNat, Int.reduceAdd, Int.reduceSub, Int.reduceMul, Int.reduceNeg, rL, rI, rQ, di, hJ', hnj, hgx, w1, hwj, z0, List.length_map, Int.toNat_natCast]) | ((with_reducible refine gcall_eq (hwy) ?_ ?_ ?_); (with_reducible rfl); rfl) | ((with_reducible refine gcall_eq (hnu) ?_ ?_ ?_); (with_reducible rfl); rfl) | ((with_reducible refine gcall_eq (hlo) ?_ ?_ ?_); (with_reducible rfl); rfl) | ((with_reducible refine gcall_eq (c0) ?_ ?_ ?_); (with_reducible rfl); rfl) | ((with_reducible refine gcall_eq (c1) ?_ ?_ ?_); (with_reducible rfl); rfl) | (with_reducible exact drawQ_true _ _ (by kernel_rfl)) | (with_reducible refine And.intro (drawQ_true _ _ (by kernel_rfl)) ?_))
        refine ⟨⟨0 + 1, hJ⟩, by simp only; omega, le_of (θ := [(0, 0), (1, 1), (100, 100), (101, 101)]) rfl ?_ ?_⟩
        · simp [varsLe, lkp, ren1, ren0, rL]
        · simp only [r0, r1]
          refine ⟨⟨rfl, rfl, rfl, rfl, rfl, .inr ⟨rfl, _, _, rfl, rfl, rfl, rfl⟩⟩, ⟨rfl, rfl, rfl, rfl, rfl, .inr ⟨rfl, _, _, rfl, rfl, rfl, rfl⟩⟩, ⟨rfl, rfl, rfl, rfl, rfl, .inr ⟨rfl, _, _, rfl, rfl, rfl, rfl⟩⟩, ⟨rfl, rfl, rfl, rfl, rfl, .inr ⟨rfl, _, _, rfl, rfl, rfl, rfl⟩⟩, trivial⟩
      · have z0 : ((j : Int) == 0) = false := by simp only [beq_eq_false_iff_ne, ne_eq]; omega
        have q0 := p0 h0
        have q1 := p1 h0
        generalize bestF false ((coefs f).take j) = b at *
        generalize bestF true ((coefs f).take j) = d at *
        generalize hX : lowN f[j] (bin n j : Int) = x at *
        generalize hY : lowD f[j] (bin n j : Int) = y at *
        have u0 : bstep false b (x, y) = if x * b.2 < b.1 * y then (x, y) else b := by unfold bstep; simp only [show ¬ b.2 = 0 by omega, false_or, Bool.false_eq_true, if_false]
        have u1 : bstep true d (x, y) = if d.1 * y < x * d.2 then (x, y) else d := by unfold bstep; simp only [show ¬ d.2 = 0 by omega, false_or, if_true]
        rw [u0] at s0
        rw [u1] at s1
        by_cases g1 : x * b.2 < b.1 * y
        · rw [if_pos g1] at s0
          have r0 := s0
          have f1 : ((x * b.2 - b.1 * y).sign < 0) = True := by simp only [eq_iff_iff, iff_true]; rw [Int.sign_eq_neg_one_of_neg (by omega)]; decide
          by_cases g2 : d.1 * y < x * d.2
          · rw [if_pos g2] at s1
            have r1 := s1
            have f2 : (0 < (x * d.2 - d.1 * y).sign) = True := by simp only [eq_iff_iff, iff_true]; rw [Int.sign_eq_one_of_pos (by omega)]; decide
            repeat (first | (simp -implicitDefEqProofs only [go_sem, Nat.reduceAdd, Nat.reduceMul, Nat.reduceEqDiff, Nat.reduceLT, Nat.reduceLeDiff, Nat.reduceSub, Nat.reduceBEq, reduceIte, reduceCtorEq, Int.reduceEq, Int.reduceNe, Nat.reduceBneDiff, Int.reduceLE, Int.reduceLT, Int.reduceToNat, Int.reduceAdd, Int.reduceSub, Int.reduceMul, Int.reduceNeg, rL, rI, rQ, di, hJ', hnj, hgx, w1, hwj, z0, f1, f2, List.length_map, Int.toNat_natCast]) | ((with_reducible refine gcall_eq (hwy) ?_ ?_ ?_); (with_reducible rfl); rfl) | ((with_reducible refine gcall_eq (hnu) ?_ ?_ ?_); (with_reducible rfl); rfl) | ((with_reducible refine gcall_eq (hlo) ?_ ?_ ?_); (with_reducible rfl); rfl) | ((with_reducible refine gcall_eq (c0) ?_ ?_ ?_); (with_reducible rfl); rfl) | ((with_reducible refine gcall_eq (c1) ?_ ?_ ?_); (with_reducible rfl); rfl) | (with_reducible exact drawQ_true _ _ (by kernel_rfl)) | (with_reducible refine And.intro (drawQ_true _ _ (by kernel_rfl)) ?_))
            refine ⟨⟨j + 1, hJ⟩, by simp only; omega, le_of (θ := [(0, 0), (1, 1), (100, 100), (101, 101)]) rfl ?_ ?_⟩
            · simp [varsLe, lkp, ren1, ren0, rL]
            · simp only [r0, r1]
              refine ⟨⟨rfl, rfl, rfl, rfl, rfl, .inr ⟨rfl, _, _, rfl, rfl, rfl, rfl⟩⟩, ⟨rfl, rfl, rfl, rfl, rfl, .inr ⟨rfl, _, _, rfl, rfl, rfl, rfl⟩⟩, ⟨rfl, rfl, rfl, rfl, rfl, .inr ⟨rfl, _, _, rfl, rfl, rfl, rfl⟩⟩, ⟨rfl, rfl, rfl, rfl, rfl, .inr ⟨rfl, _, _, rfl, rfl, rfl, rfl⟩⟩, trivial⟩
          · rw [if_neg g2] at s1
            have r1 := s1
            have f2 : (0 < (x * d.2 - d.1 * y).sign) = False := by simp only [eq_iff_iff, iff_false]; intro h; have := Int.sign_pos_iff.1 h; omega
            repeat (first | (simp -implicitDefEqProofs only [go_sem, Nat.reduceAdd, Nat.reduceMul, Nat.reduceEqDiff, Nat.reduceLT, Nat.reduceLeDiff, Nat.reduceSub, Nat.reduceBEq, reduceIte, reduceCtorEq, Int.reduceEq, Int.reduceNe, Nat.reduceBneDiff, Int.reduceLE, Int.reduceLT, Int.reduceToNat, Int.reduceAdd, Int.reduceSub, Int.reduceMul, Int.reduceNeg, rL, rI, rQ, di, hJ', hnj, hgx, w1, hwj, z0, f1, f2, List.length_map, Int.toNat_natCast]) | ((with_reducible refine gcall_eq (hwy) ?_ ?_ ?_); (with_reducible rfl); rfl) | ((with_reducible refine gcall_eq (hnu) ?_ ?_ ?_); (with_reducible rfl); rfl) | ((with_reducible refine gcall_eq (hlo) ?_ ?_ ?_); (with_reducible rfl); rfl) | ((with_reducible refine gcall_eq (c0) ?_ ?_ ?_); (with_reducible rfl); rfl) | ((with_reducible refine gcall_eq (c1) ?_ ?_ ?_); (with_reducible rfl); rfl) | (with_reducible exact drawQ_true _ _ (by kernel_rfl)) | (with_reducible refine And.intro (drawQ_true _ _ (by kernel_rfl)) ?_))
            refine ⟨⟨j + 1, hJ⟩, by simp only; omega, le_of (θ := [(0, 0), (1, 1), (100, 100), (101, 101)]) rfl ?_ ?_⟩
            · simp [varsLe, lkp, ren1, ren0, rL]
            · simp only [r0, r1]
              refine ⟨⟨rfl, rfl, rfl, rfl, rfl, .inr ⟨rfl, _, _, rfl, rfl, rfl, rfl⟩⟩, ⟨rfl, rfl, rfl, rfl, rfl, .inr ⟨rfl, _, _, rfl, rfl, rfl, rfl⟩⟩, ⟨rfl, rfl, rfl, rfl, rfl, .inr ⟨rfl, _, _, rfl, rfl, rfl, rfl⟩⟩, ⟨rfl, rfl, rfl, rfl, rfl, .inr ⟨rfl, _, _, rfl, rfl, rfl, rfl⟩⟩, trivial⟩
        · rw [if_neg g1] at s0
          have r0 := s0
          have f1 : ((x * b.2 - b.1 * y).sign < 0) = False := by simp only [eq_iff_iff, iff_false]; intro h; have := Int.sign_neg_iff.1 h; omega
          by_cases g2 : d.1 * y < x * d.2
          · rw [if_pos g2] at s1
            have r1 := s1
            have f2 : (0 < (x * d.2 - d.1 * y).sign) = True := by simp only [eq_iff_iff, iff_true]; rw [Int.sign_eq_one_of_pos (by omega)]; decide
            repeat (first | (simp -implicitDefEqProofs only [go_sem, Nat.reduceAdd, Nat.reduceMul, Nat.reduceEqDiff, Nat.reduceLT, Nat.reduceLeDiff, Nat.reduceSub, Nat.reduceBEq, reduceIte, reduceCtorEq, Int.reduceEq, Int.reduceNe, Nat.reduceBneDiff, Int.reduceLE, Int.reduceLT, Int.reduceToNat, Int.reduceAdd, Int.reduceSub, Int.reduceMul, Int.reduceNeg, rL, rI, rQ, di, hJ', hnj, hgx, w1, hwj, z0, f1, f2, List.length_map, Int.toNat_natCast]) | ((with_reducible refine gcall_eq (hwy) ?_ ?_ ?_); (with_reducible rfl); rfl) | ((with_reducible refine gcall_eq (hnu) ?_ ?_ ?_); (with_reducible rfl); rfl) | ((with_reducible refine gcall_eq (hlo) ?_ ?_ ?_); (with_reducible rfl); rfl) | ((with_reducible refine gcall_eq (c0) ?_ ?_ ?_); (with_reducible rfl); rfl) | ((with_reducible refine gcall_eq (c1) ?_ ?_ ?_); (with_reducible rfl); rfl) | (with_reducible exact drawQ_true _ _ (by kernel_rfl)) | (with_reducible refine And.intro (drawQ_true _ _ (by kernel_rfl)) ?_))
            refine ⟨⟨j + 1, hJ⟩, by simp only; omega, le_of (θ := [(0, 0), (1, 1), (100, 100), (101, 101)]) rfl ?_ ?_⟩
            · simp [varsLe, lkp, ren1, ren0, rL]
            · simp only [r0, r1]
              refine ⟨⟨rfl, rfl, rfl, rfl, rfl, .inr ⟨rfl, _, _, rfl, rfl, rfl, rfl⟩⟩, ⟨rfl, rfl, rfl, rfl, rfl, .inr ⟨rfl, _, _, rfl, rfl, rfl, rfl⟩⟩, ⟨rfl, rfl, rfl, rfl, rfl, .inr ⟨rfl, _, _, rfl, rfl, rfl, rfl⟩⟩, ⟨rfl, rfl, rfl, rfl, rfl, .inr ⟨rfl, _, _, rfl, rfl, rfl, rfl⟩⟩, trivial⟩
          · rw [if_neg g2] at s1
            have r1 := s1
            have f2 : (0 < (x * d.2 - d.1 * y).sign) = False := by simp only [eq_iff_iff, iff_false]; intro h; have := Int.sign_pos_iff.1 h; omega
            repeat (first | (simp -implicitDefEqProofs only [go_sem, Nat.reduceAdd, Nat.reduceMul, Nat.reduceEqDiff, Nat.reduceLT, Nat.reduceLeDiff, Nat.reduceSub, Nat.reduceBEq, reduceIte, reduceCtorEq, Int.reduceEq, Int.reduceNe, Nat.reduceBneDiff, Int.reduceLE, Int.reduceLT, Int.reduceToNat, Int.reduceAdd, Int.reduceSub, Int.reduceMul, Int.reduceNeg, rL, rI, rQ, di, hJ', hnj, hgx, w1, hwj, z0, f1, f2, List.length_map, Int.toNat_natCast]) | ((with_reducible refine gcall_eq (hwy) ?_ ?_ ?_); (with_reducible rfl); rfl) | ((with_reducible refine gcall_eq (hnu) ?_ ?_ ?_); (with_reducible rfl); rfl) | ((with_reducible refine gcall_eq (hlo) ?_ ?_ ?_); (with_reducible rfl); rfl) | ((with_reducible refine gcall_eq (c0) ?_ ?_ ?_); (with_reducible rfl); rfl) | ((with_reducible refine gcall_eq (c1) ?_ ?_ ?_); (with_reducible rfl); rfl) | (with_reducible exact drawQ_true _ _ (by kernel_rfl)) | (with_reducible refine And.intro (drawQ_true _ _ (by kernel_rfl)) ?_))
            refine ⟨⟨j + 1, hJ⟩, by simp only; omega, le_of (θ := [(0, 0), (1, 1), (100, 100), (101, 101)]) rfl ?_ ?_⟩
            · simp [varsLe, lkp, ren1, ren0, rL]
            · simp only [r0, r1]
              refine ⟨⟨rfl, rfl, rfl, rfl, rfl, .inr ⟨rfl, _, _, rfl, rfl, rfl, rfl⟩⟩, ⟨rfl, rfl, rfl, rfl, rfl, .inr ⟨rfl, _, _, rfl, rfl, rfl, rfl⟩⟩, ⟨rfl, rfl, rfl, rfl, rfl, .inr ⟨rfl, _, _, rfl, rfl, rfl, rfl⟩⟩, ⟨rfl, rfl, rfl, rfl, rfl, .inr ⟨rfl, _, _, rfl, rfl, rfl, rfl⟩⟩, trivial⟩
    · have hJ' := ltF hJ
      have e : (coefs f).take j = coefs f := List.take_of_length_le (by rw [coefs_length]; omega)
      simp only [e]
      repeat (first | (simp -implicitDefEqProofs only [go_sem, Nat.reduceAdd, Nat.reduceMul, Nat.reduceEqDiff, Nat.reduceLT, Nat.reduceLeDiff, Nat.reduceSub, Nat.reduceBEq, reduceIte, reduceCtorEq, Int.reduceEq, Int.reduceNe, Nat.reduceBneDiff, Int.reduceLE, Int.reduceLT, Int.reduceToNat, Int.reduceAdd, Int.reduceSub, Int.reduceMul, Int.reduceNeg, rL, rI, di, rrats, rQ, hJ', List.length_map]) | (with_reducible exact drawQ_true _ _ (by kernel_rfl)) | (with_reducible refine And.intro (drawQ_true _ _ (by kernel_rfl)) ?_))
set_option maxHeartbeats 4000000 in
theorem BernsteinPolys_v (l : List (Bool × ByteArray)) (hl : l.length ≤ maxLen) : SoundAt Tryz.prog 3 [.slc (l.map wA)] (.bool true) := by
  have hsm := small_v l hl
  have hk := known_v
  have b1 : ∀ b : Bool, (b == b) = true := fun b => by cases b <;> rfl
  have z0 : ((0 : Int) == 0) = true := rfl
  have z2 : ((2 : Int) == 2) = true := rfl
  have zz : (((0 : Nat) : Int) == 0) = true := rfl
  have ze : ((⟨#[]⟩ : ByteArray) == ⟨#[]⟩) = true := ba_self _
  cases hS : smallB l with
  | false =>
    rw [hS] at hsm
    refine sound_go (tb := []) 99 [.tmp 2] [0, 2, 3, 4, 5, 6, 7, 8, 9, 10, 12, 16, 31] mixed Tryz.func3 rfl (by kernel_rfl) (by kernel_rfl) (by kernel_rfl) (by kernel_rfl) ?_
    repeat (first | (simp -implicitDefEqProofs only [go_sem, Nat.reduceAdd, Nat.reduceMul, Nat.reduceEqDiff, Nat.reduceLT, Nat.reduceLeDiff, Nat.reduceSub, Nat.reduceBEq, reduceIte, reduceCtorEq, Int.reduceEq, Int.reduceNe, Nat.reduceBneDiff, Int.reduceLE, Int.reduceLT, Int.reduceToNat, Int.reduceAdd, Int.reduceSub, Int.reduceMul, Int.reduceNeg]) | ((with_reducible refine gcall_eq (hsm) ?_ ?_ ?_); (with_reducible rfl); rfl) | ((with_reducible refine gcall_eq (hk) ?_ ?_ ?_); (with_reducible rfl); rfl) | (with_reducible exact drawQ_true _ _ (by kernel_rfl)) | (with_reducible refine And.intro (drawQ_true _ _ (by kernel_rfl)) ?_))
  | true =>
    rw [hS] at hsm
    obtain ⟨hs8, hlen⟩ := smallB_of hS
    have hvr := rFValid_v l hl
    cases hf : formB l with
    | false =>
      rw [hf] at hvr
      have hpo := Poly_no l hl hf
      have hbo := Bounds_no l hl hf
      refine sound_go (tb := []) 99 [.tmp 2] [0, 2, 3, 4, 5, 6, 7, 8, 9, 10, 12, 16, 31] mixed Tryz.func3 rfl (by kernel_rfl) (by kernel_rfl) (by kernel_rfl) (by kernel_rfl) ?_
      repeat (first | (simp -implicitDefEqProofs only [go_sem, Nat.reduceAdd, Nat.reduceMul, Nat.reduceEqDiff, Nat.reduceLT, Nat.reduceLeDiff, Nat.reduceSub, Nat.reduceBEq, reduceIte, reduceCtorEq, Int.reduceEq, Int.reduceNe, Nat.reduceBneDiff, Int.reduceLE, Int.reduceLT, Int.reduceToNat, Int.reduceAdd, Int.reduceSub, Int.reduceMul, Int.reduceNeg, z2, zz, ze, b1]) | ((with_reducible refine gcall_eq (hsm) ?_ ?_ ?_); (with_reducible rfl); rfl) | ((with_reducible refine gcall_eq (hpo) ?_ ?_ ?_); (with_reducible rfl); rfl) | ((with_reducible refine gcall_eq (hbo) ?_ ?_ ?_); (with_reducible rfl); rfl) | ((with_reducible refine gcall_eq (hvr) ?_ ?_ ?_); (with_reducible rfl); rfl) | ((with_reducible refine gcall_eq (hk) ?_ ?_ ?_); (with_reducible rfl); rfl) | (with_reducible exact drawQ_true _ _ (by kernel_rfl)) | (with_reducible refine And.intro (drawQ_true _ _ (by kernel_rfl)) ?_))
    | true =>
      rw [hf] at hvr
      obtain ⟨hval, h1, h25⟩ := formB_of hf
      obtain ⟨n, hn⟩ : ∃ n : Nat, l.length = n + 1 := ⟨l.length - 1, by omega⟩
      have hx := wnP_bound hs8
      have hpo := Poly_v l n 64 hn hf hx (by decide)
      have hbo := Bounds_v l n 64 hn hf hx (by decide)
      have hfr := rFFrom_v l (by omega) fun p hp' => Nat.le_trans (hs8 p hp') (by decide)
      have hxl : (l.map wnP).length = n + 1 := by rw [List.length_map]; exact hn
      have hle := rLeast_v (l.map wnP) n 64 (by omega) hxl hx 8 (by decide) (by decide) (by decide)
      have hrp := rFPoly_v (l.map wnP) n 64 (by omega) hxl (by decide) hx
      rw [polyS_eq hxl] at hrp
      have hT := bd_trimI (bd_trans (B := 64) (n := n) (c := -1) rfl (by omega) hx)
      have hTl : (trimI (trans (l.map wnP) (-1) n)).length ≤ 1000000 := Nat.le_trans (trimI_length _) (by rw [trans_length]; omega)
      have t1 := rPTo_v (trimI (trans (l.map wnP) (-1) n)) hTl fun x hx' => p2_8M (hT x hx') (by decide)
      have s1 := rSame_v (trimI (trans (l.map wnP) (-1) n)) hTl
      have k0 := okR_best (g := false) (coefs_ok (f := l.map wnP) (by omega) hx)
      have k1 := okR_best (g := true) (coefs_ok (f := l.map wnP) (by omega) hx)
      have o0 := routRatio_v (bestF false (coefs (l.map wnP))).1 (bestF false (coefs (l.map wnP))).2 8 (by decide) (p2_256 k0.1 (by decide)) (p2_256 k0.2.1 (by decide))
      have o1 := routRatio_v (bestF true (coefs (l.map wnP))).1 (bestF true (coefs (l.map wnP))).2 8 (by decide) (p2_256 k1.1 (by decide)) (p2_256 k1.2.1 (by decide))
      rw [outQ_f (big_small (p2_16 k0.1 (by decide)) (p2_16 k0.2.1 (by decide)))] at o0
      rw [outQ_f (big_small (p2_16 k1.1 (by decide)) (p2_16 k1.2.1 (by decide)))] at o1
      unfold rats ratPV at hbo
      unfold rrats rQ at hle
      unfold rQ ratPV at o0 o1
      generalize trimI (trans (l.map wnP) (-1) n) = T at *
      generalize bestF false (coefs (l.map wnP)) = b at *
      generalize bestF true (coefs (l.map wnP)) = d at *
      generalize l.map wnP = xs at *
      unfold wL rL at *
      refine sound_go (tb := []) 99 [.tmp 2] [0, 2, 3, 4, 5, 6, 7, 8, 9, 10, 12, 16, 31] mixed Tryz.func3 rfl (by kernel_rfl) (by kernel_rfl) (by kernel_rfl) (by kernel_rfl) ?_
      repeat (first | (simp -implicitDefEqProofs only [go_sem, Nat.reduceAdd, Nat.reduceMul, Nat.reduceEqDiff, Nat.reduceLT, Nat.reduceLeDiff, Nat.reduceSub, Nat.reduceBEq, reduceIte, reduceCtorEq, Int.reduceEq, Int.reduceNe, Nat.reduceBneDiff, Int.reduceLE, Int.reduceLT, Int.reduceToNat, Int.reduceAdd, Int.reduceSub, Int.reduceMul, Int.reduceNeg, di, z0, b1, ba_self, List.length_map]) | ((with_reducible refine gcall_eq (hsm) ?_ ?_ ?_); (with_reducible rfl); rfl) | ((with_reducible refine gcall_eq (hpo) ?_ ?_ ?_); (with_reducible rfl); rfl) | ((with_reducible refine gcall_eq (hbo) ?_ ?_ ?_); (with_reducible rfl); rfl) | ((with_reducible refine gcall_eq (hvr) ?_ ?_ ?_); (with_reducible rfl); rfl) | ((with_reducible refine gcall_eq (hfr) ?_ ?_ ?_); (with_reducible rfl); rfl) | ((with_reducible refine gcall_eq (hle) ?_ ?_ ?_); (with_reducible rfl); rfl) | ((with_reducible refine gcall_eq (hrp) ?_ ?_ ?_); (with_reducible rfl); rfl) | ((with_reducible refine gcall_eq (t1) ?_ ?_ ?_); (with_reducible rfl); rfl) | ((with_reducible refine gcall_eq (s1) ?_ ?_ ?_); (with_reducible rfl); rfl) | ((with_reducible refine gcall_eq (o0) ?_ ?_ ?_); (with_reducible rfl); rfl) | ((with_reducible refine gcall_eq (o1) ?_ ?_ ?_); (with_reducible rfl); rfl) | ((with_reducible refine gcall_eq (hk) ?_ ?_ ?_); (with_reducible rfl); rfl) | (with_reducible exact drawQ_true _ _ (by kernel_rfl)) | (with_reducible refine And.intro (drawQ_true _ _ (by kernel_rfl)) ?_))
end Go.Proofs.YtnpclmmmngmdkaaGreat
