/-
  FA12, FA13, Dq, FP1 (merged for the claim).
-/
import Derived.Test.YtnpclmmmngmdkaaGreatFA11
import Derived.Test.YtnpclmmmngmdkaaGreatFW1
import Derived.Test.YtnpclmmmngmdkaaGreatFW30
import Derived.Test.YtnpclmmmngmdkaaGreatFW25
set_option linter.unusedSimpArgs false
set_option linter.unusedVariables false
namespace Go.Proofs.YtnpclmmmngmdkaaGreat
open Go.Vl Go.RowKit Go.Dg

theorem rI_parts (n : Int) : rI n = .agg [.bool (decide (n < 0)), di (digs E9 n.natAbs)] := rfl
theorem E9_mul (a b : Nat) : (digs E9 (a * b)).length ≤ (digs E9 a).length + (digs E9 b).length := by
  refine (digs_len_le E9_2 _ _).2 ?_
  rw [Nat.pow_add]
  exact Nat.mul_lt_mul'' (lt_pow_len E9_2 _) (lt_pow_len E9_2 _)
theorem E9_add (a b k : Nat) (h1 : (digs E9 a).length ≤ k) (h2 : (digs E9 b).length ≤ k) : (digs E9 (a + b)).length ≤ k + 1 := by
  rw [digs_len_le E9_2] at h1 h2 ⊢
  rw [Nat.pow_succ]
  generalize E9 ^ k = K at *
  simp only [E9]
  omega
/-- The Euclidean quotient from the truncated one. -/
theorem quo_fix (x y : Int) (hy : y ≠ 0) : (0 ≤ x - Int.tdiv x y * y → Int.tdiv x y = x / y ∧ x - Int.tdiv x y * y = x % y) ∧
    (x - Int.tdiv x y * y < 0 → (if 0 < y then Int.tdiv x y - 1 else Int.tdiv x y + 1) = x / y ∧ x - (if 0 < y then Int.tdiv x y - 1 else Int.tdiv x y + 1) * y = x % y) := by
  have h1 : y * Int.tdiv x y + Int.tmod x y = x := Int.mul_tdiv_add_tmod x y
  have h2 := Int.natAbs_tmod x y
  have h3 := Nat.mod_lt x.natAbs (show 0 < y.natAbs by omega)
  rw [← h2] at h3
  generalize Int.tdiv x y = q at *
  generalize Int.tmod x y = r at *
  have e : q * y = y * q := Int.mul_comm _ _
  have key : ∀ q' r' : Int, r' + y * q' = x → 0 ≤ r' → r' < y.natAbs → q' = x / y ∧ r' = x % y := by
    intro q' r' a1 a2 a3
    rcases Int.lt_or_gt_of_ne hy with hn | hp
    · have := (Int.ediv_emod_unique' (a := x) (b := y) (r := r') (q := q') hn).2 ⟨a1, a2, by omega⟩
      exact ⟨this.1.symm, this.2.symm⟩
    · have := (Int.ediv_emod_unique (a := x) (b := y) (r := r') (q := q') hp).2 ⟨a1, a2, by omega⟩
      exact ⟨this.1.symm, this.2.symm⟩
  rw [e]
  constructor
  · intro h0
    exact key q (x - y * q) (by omega) h0 (by omega)
  · intro h0
    by_cases hp : 0 < y
    · rw [if_pos hp]
      have e2 : (q - 1) * y = y * q - y := by rw [Int.sub_mul, Int.one_mul, e]
      have e3 : y * (q - 1) = y * q - y := by rw [Int.mul_comm, e2]
      exact key (q - 1) (x - (q - 1) * y) (by omega) (by omega) (by omega)
    · rw [if_neg hp]
      have e2 : (q + 1) * y = y * q + y := by rw [Int.add_mul, Int.one_mul, e]
      have e3 : y * (q + 1) = y * q + y := by rw [Int.mul_comm, e2]
      exact key (q + 1) (x - (q + 1) * y) (by omega) (by omega) (by omega)
theorem E9_le {a b : Nat} (h : a ≤ b) : (digs E9 a).length ≤ (digs E9 b).length := L_mono h
theorem tdiv_signs (x y : Int) : (if (!(decide (x < 0) == decide (y < 0))) = true then -((x.natAbs / y.natAbs : Nat) : Int) else ((x.natAbs / y.natAbs : Nat) : Int)) = Int.tdiv x y := by
  cases x with
  | ofNat m => cases y with
    | ofNat n =>
      have h1 : ¬ Int.ofNat m < 0 := by simp
      have h2 : ¬ Int.ofNat n < 0 := by simp
      simp only [h1, h2, decide_false, beq_self_eq_true, Bool.not_true, Bool.false_eq_true, if_false]; rfl
    | negSucc n =>
      have h1 : ¬ Int.ofNat m < 0 := by simp
      have h2 : Int.negSucc n < 0 := Int.negSucc_lt_zero n
      simp only [h1, h2, decide_false, decide_true, Bool.false_beq, Bool.not_true, Bool.not_false, if_true]; rfl
  | negSucc m => cases y with
    | ofNat n =>
      have h1 : Int.negSucc m < 0 := Int.negSucc_lt_zero m
      have h2 : ¬ Int.ofNat n < 0 := by simp
      simp only [h1, h2, decide_false, decide_true, Bool.true_beq, Bool.not_false, if_true]; rfl
    | negSucc n =>
      have h1 : Int.negSucc m < 0 := Int.negSucc_lt_zero m
      have h2 : Int.negSucc n < 0 := Int.negSucc_lt_zero n
      simp only [h1, h2, decide_true, beq_self_eq_true, Bool.not_true, Bool.false_eq_true, if_false]; rfl
set_option maxHeartbeats 1000000 in
theorem rquo_v (x y : Int) (hy : y ≠ 0) (hx : (digs E9 x.natAbs).length ≤ 1000000) (hyl : (digs E9 y.natAbs).length ≤ 1000000) : SoundAt Tryz.prog 88 [rI x, rI y] (.tup [rI (x / y), rI (x % y)]) := by
  have ho := rover_v x.natAbs y.natAbs (by omega) (by omega) (by omega)
  have hm := rmade_v (!(decide (x < 0) == decide (y < 0))) (x.natAbs / y.natAbs)
  rw [tdiv_signs] at hm
  have hql : (digs E9 (Int.tdiv x y).natAbs).length ≤ 1000000 := by
    rw [Int.natAbs_tdiv]; exact Nat.le_trans (E9_le (Nat.div_le_self _ _)) hx
  have h1l : (digs E9 1).length ≤ 1000000 := Nat.le_trans (L_small (by decide)) (by decide)
  obtain ⟨f1, f2⟩ := quo_fix x y hy
  have hnum := rnum_v 1 (by decide) (by decide)
  generalize hq : Int.tdiv x y = q at *
  have hmq : (digs E9 (q * y).natAbs).length ≤ 2000000 := by rw [Int.natAbs_mul]; have := E9_mul q.natAbs y.natAbs; omega
  have m1 := rmul_v q y (by omega)
  have s1 := rsub_v x (q * y) (Nat.le_trans (E9_add _ _ 2000000 (by omega) hmq) (by decide))
  have g1 := rsign_v (x - q * y)
  have g2 := rsign_v y
  by_cases h0 : x - q * y < 0
  · have c1 : ((x - q * y).sign < 0) = True := by simp only [eq_iff_iff, iff_true]; rw [Int.sign_eq_neg_one_of_neg h0]; decide
    obtain ⟨e1, e2⟩ := f2 h0
    by_cases hp : 0 < y
    · have c2 : (0 < y.sign) = True := by simp only [eq_iff_iff, iff_true]; rw [Int.sign_eq_one_of_pos hp]; decide
      rw [if_pos hp] at e1 e2
      have s2 := rsub_v q 1 (Nat.le_trans (E9_add _ _ 1000000 hql h1l) (by decide))
      have hq2 : (digs E9 (q - 1).natAbs).length ≤ 1000001 := Nat.le_trans (E9_le (show (q - 1).natAbs ≤ q.natAbs + 1 by omega)) (E9_add _ _ 1000000 hql h1l)
      have m2 := rmul_v (q - 1) y (by omega)
      have hmq2 : (digs E9 ((q - 1) * y).natAbs).length ≤ 2000001 := by rw [Int.natAbs_mul]; have := E9_mul (q - 1).natAbs y.natAbs; omega
      have s3 := rsub_v x ((q - 1) * y) (Nat.le_trans (E9_add _ _ 2000001 (by omega) hmq2) (by decide))
      rw [e1] at s2 m2 s3
      rw [e1] at e2
      rw [e2] at s3
      generalize x - q * y = r at *
      generalize q * y = p at *
      generalize x / y * y = p2 at *
      generalize x / y = Q at *
      generalize x % y = R at *
      generalize x.natAbs / y.natAbs = n1 at *
      generalize x.natAbs % y.natAbs = n2 at *
      refine sound_go (tb := []) 50 [.cell 4 37, .cell 5 37] [0, 1, 2, 3, 4, 5, 6, 7, 8, 9, 32, 35] mixed Tryz.func88 rfl (by kernel_rfl) (by kernel_rfl) (by kernel_rfl) (by kernel_rfl) ?_
      repeat (first | (simp -implicitDefEqProofs only [go_sem, Nat.reduceAdd, Nat.reduceMul, Nat.reduceEqDiff, Nat.reduceLT, Nat.reduceLeDiff, Nat.reduceSub, Nat.reduceBEq, reduceIte, reduceCtorEq, Int.reduceEq, Int.reduceNe, Nat.reduceBneDiff, Int.reduceLE, Int.reduceLT, Int.reduceToNat, Int.reduceAdd, Int.reduceSub, Int.reduceMul, Int.reduceNeg, rI, di, c1, c2]) | ((with_reducible refine gcall_eq (ho) ?_ ?_ ?_); (with_reducible rfl); rfl) | ((with_reducible refine gcall_eq (hm) ?_ ?_ ?_); (with_reducible rfl); rfl) | ((with_reducible refine gcall_eq (m1) ?_ ?_ ?_); (with_reducible rfl); rfl) | ((with_reducible refine gcall_eq (s1) ?_ ?_ ?_); (with_reducible rfl); rfl) | ((with_reducible refine gcall_eq (g1) ?_ ?_ ?_); (with_reducible rfl); rfl) | ((with_reducible refine gcall_eq (g2) ?_ ?_ ?_); (with_reducible rfl); rfl) | ((with_reducible refine gcall_eq (hnum) ?_ ?_ ?_); (with_reducible rfl); rfl) | ((with_reducible refine gcall_eq (s2) ?_ ?_ ?_); (with_reducible rfl); rfl) | ((with_reducible refine gcall_eq (m2) ?_ ?_ ?_); (with_reducible rfl); rfl) | ((with_reducible refine gcall_eq (s3) ?_ ?_ ?_); (with_reducible rfl); rfl) | (with_reducible exact drawQ_true _ _ (by kernel_rfl)) | (with_reducible refine And.intro (drawQ_true _ _ (by kernel_rfl)) ?_))
    · have c2 : (0 < y.sign) = False := by simp only [eq_iff_iff, iff_false]; rw [Int.sign_eq_neg_one_of_neg (by omega)]; decide
      rw [if_neg hp] at e1 e2
      have s2 := radd_v q 1 (Nat.le_trans (E9_add _ _ 1000000 hql h1l) (by decide))
      have hq2 : (digs E9 (q + 1).natAbs).length ≤ 1000001 := Nat.le_trans (E9_le (show (q + 1).natAbs ≤ q.natAbs + 1 by omega)) (E9_add _ _ 1000000 hql h1l)
      have m2 := rmul_v (q + 1) y (by omega)
      have hmq2 : (digs E9 ((q + 1) * y).natAbs).length ≤ 2000001 := by rw [Int.natAbs_mul]; have := E9_mul (q + 1).natAbs y.natAbs; omega
      have s3 := rsub_v x ((q + 1) * y) (Nat.le_trans (E9_add _ _ 2000001 (by omega) hmq2) (by decide))
      rw [e1] at s2 m2 s3
      rw [e1] at e2
      rw [e2] at s3
      generalize x - q * y = r at *
      generalize q * y = p at *
      generalize x / y * y = p2 at *
      generalize x / y = Q at *
      generalize x % y = R at *
      generalize x.natAbs / y.natAbs = n1 at *
      generalize x.natAbs % y.natAbs = n2 at *
      refine sound_go (tb := []) 50 [.cell 4 37, .cell 5 37] [0, 1, 2, 3, 4, 5, 6, 7, 8, 9, 32, 35] mixed Tryz.func88 rfl (by kernel_rfl) (by kernel_rfl) (by kernel_rfl) (by kernel_rfl) ?_
      repeat (first | (simp -implicitDefEqProofs only [go_sem, Nat.reduceAdd, Nat.reduceMul, Nat.reduceEqDiff, Nat.reduceLT, Nat.reduceLeDiff, Nat.reduceSub, Nat.reduceBEq, reduceIte, reduceCtorEq, Int.reduceEq, Int.reduceNe, Nat.reduceBneDiff, Int.reduceLE, Int.reduceLT, Int.reduceToNat, Int.reduceAdd, Int.reduceSub, Int.reduceMul, Int.reduceNeg, rI, di, c1, c2]) | ((with_reducible refine gcall_eq (ho) ?_ ?_ ?_); (with_reducible rfl); rfl) | ((with_reducible refine gcall_eq (hm) ?_ ?_ ?_); (with_reducible rfl); rfl) | ((with_reducible refine gcall_eq (m1) ?_ ?_ ?_); (with_reducible rfl); rfl) | ((with_reducible refine gcall_eq (s1) ?_ ?_ ?_); (with_reducible rfl); rfl) | ((with_reducible refine gcall_eq (g1) ?_ ?_ ?_); (with_reducible rfl); rfl) | ((with_reducible refine gcall_eq (g2) ?_ ?_ ?_); (with_reducible rfl); rfl) | ((with_reducible refine gcall_eq (hnum) ?_ ?_ ?_); (with_reducible rfl); rfl) | ((with_reducible refine gcall_eq (s2) ?_ ?_ ?_); (with_reducible rfl); rfl) | ((with_reducible refine gcall_eq (m2) ?_ ?_ ?_); (with_reducible rfl); rfl) | ((with_reducible refine gcall_eq (s3) ?_ ?_ ?_); (with_reducible rfl); rfl) | (with_reducible exact drawQ_true _ _ (by kernel_rfl)) | (with_reducible refine And.intro (drawQ_true _ _ (by kernel_rfl)) ?_))
  · have c1 : ((x - q * y).sign < 0) = False := by simp only [eq_iff_iff, iff_false]; have := Int.sign_nonneg_iff.2 (show 0 ≤ x - q * y by omega); omega
    obtain ⟨e1, e2⟩ := f1 (by omega)
    rw [e2] at s1 g1 c1
    rw [e1] at hm m1 s1
    generalize q * y = p at *
    generalize x / y * y = p2 at *
    generalize x / y = Q at *
    generalize x % y = R at *
    generalize x.natAbs / y.natAbs = n1 at *
    generalize x.natAbs % y.natAbs = n2 at *
    refine sound_go (tb := []) 50 [.cell 4 37, .cell 5 37] [0, 1, 2, 3, 4, 5, 6, 7, 8, 9, 32, 35] mixed Tryz.func88 rfl (by kernel_rfl) (by kernel_rfl) (by kernel_rfl) (by kernel_rfl) ?_
    repeat (first | (simp -implicitDefEqProofs only [go_sem, Nat.reduceAdd, Nat.reduceMul, Nat.reduceEqDiff, Nat.reduceLT, Nat.reduceLeDiff, Nat.reduceSub, Nat.reduceBEq, reduceIte, reduceCtorEq, Int.reduceEq, Int.reduceNe, Nat.reduceBneDiff, Int.reduceLE, Int.reduceLT, Int.reduceToNat, Int.reduceAdd, Int.reduceSub, Int.reduceMul, Int.reduceNeg, rI, di, c1]) | ((with_reducible refine gcall_eq (ho) ?_ ?_ ?_); (with_reducible rfl); rfl) | ((with_reducible refine gcall_eq (hm) ?_ ?_ ?_); (with_reducible rfl); rfl) | ((with_reducible refine gcall_eq (m1) ?_ ?_ ?_); (with_reducible rfl); rfl) | ((with_reducible refine gcall_eq (s1) ?_ ?_ ?_); (with_reducible rfl); rfl) | ((with_reducible refine gcall_eq (g1) ?_ ?_ ?_); (with_reducible rfl); rfl) | (with_reducible exact drawQ_true _ _ (by kernel_rfl)) | (with_reducible refine And.intro (drawQ_true _ _ (by kernel_rfl)) ?_))
theorem rgcd_v (x y : Int) (hx : (digs E9 x.natAbs).length ≤ 1000000) (hyl : (digs E9 y.natAbs).length ≤ 1000000) : SoundAt Tryz.prog 86 [rI x, rI y] (rI ((Nat.gcd x.natAbs y.natAbs : Nat) : Int)) := by
  have hm := rmade_v false (Nat.gcd x.natAbs y.natAbs)
  simp only [Bool.false_eq_true, if_false] at hm
  refine sound_go (tb := []) 26 [.cell 4 37] [0, 1, 2, 3, 4, 5, 6, 8, 15] mixed Tryz.func86 rfl (by kernel_rfl) (by kernel_rfl) (by kernel_rfl) (by kernel_rfl) ?_
  repeat (first | (simp -implicitDefEqProofs only [go_sem, Nat.reduceAdd, Nat.reduceMul, Nat.reduceEqDiff, Nat.reduceLT, Nat.reduceLeDiff, Nat.reduceSub, Nat.reduceBEq, reduceIte, reduceCtorEq, Int.reduceEq, Int.reduceNe, Nat.reduceBneDiff, Int.reduceLE, Int.reduceLT, Int.reduceToNat, Int.reduceAdd, Int.reduceSub, Int.reduceMul, Int.reduceNeg, rI, di]) | ((with_reducible refine gcall_eq (hm) ?_ ?_ ?_); (with_reducible rfl); rfl) | (with_reducible exact drawQ_true _ _ (by kernel_rfl)) | (with_reducible refine And.intro (drawQ_true _ _ (by kernel_rfl)) ?_))
  refine g_loop mixed (fun p : { p : Nat × Nat // Nat.gcd p.1 p.2 = Nat.gcd x.natAbs y.natAbs ∧ (digs E9 p.1).length ≤ 1000000 ∧ (digs E9 p.2).length ≤ 1000000 } => St.of [(4, .bp 2 2 0 0), (5, di (digs E9 p.1.1)), (6, di (digs E9 p.1.2))]
    [(2, { els := [.agg [.bool false, .nilS]], esz := 2, ety := 37, fro := 0, live := true, arr := false })]) (fun p => p.1.2) ⟨(x.natAbs, y.natAbs), rfl, hx, hyl⟩ ?_ ?_
  · refine le_of (θ := [(2, 2)]) rfl ?_ ?_
    · simp [varsLe, lkp, ren1, ren0, di]
    · refine ⟨⟨rfl, rfl, rfl, rfl, rfl, .inr ⟨rfl, _, _, rfl, rfl, rfl, rfl⟩⟩, trivial⟩
  · rintro ⟨⟨u, v⟩, h1, h2, h3⟩
    simp only at h1 h2 h3 ⊢
    by_cases hv : v = 0
    · subst hv
      have g1 : ((0 : Int) < ((0 : Nat) : Int)) = False := by simp
      rw [Nat.gcd_zero_right] at h1
      subst h1
      repeat (first | (simp -implicitDefEqProofs only [go_sem, Nat.reduceAdd, Nat.reduceMul, Nat.reduceEqDiff, Nat.reduceLT, Nat.reduceLeDiff, Nat.reduceSub, Nat.reduceBEq, reduceIte, reduceCtorEq, Int.reduceEq, Int.reduceNe, Nat.reduceBneDiff, Int.reduceLE, Int.reduceLT, Int.reduceToNat, Int.reduceAdd, Int.reduceSub, Int.reduceMul, Int.reduceNeg, rI, di, digs_zero, List.map_nil, List.length_nil, g1]) | ((with_reducible refine gcall_eq (hm) ?_ ?_ ?_); (with_reducible rfl); rfl) | (with_reducible exact drawQ_true _ _ (by kernel_rfl)) | (with_reducible refine And.intro (drawQ_true _ _ (by kernel_rfl)) ?_))
    · have hp : 0 < (digs E9 v).length := L_pos hv
      have g1 : ((0 : Int) < ((digs E9 v).length : Int)) = True := by simp only [eq_iff_iff, iff_true]; omega
      have hd := rover_v u v (Nat.pos_of_ne_zero hv) (by omega) (by omega)
      have hr := Nat.mod_lt u (Nat.pos_of_ne_zero hv)
      repeat (first | (simp -implicitDefEqProofs only [go_sem, Nat.reduceAdd, Nat.reduceMul, Nat.reduceEqDiff, Nat.reduceLT, Nat.reduceLeDiff, Nat.reduceSub, Nat.reduceBEq, reduceIte, reduceCtorEq, Int.reduceEq, Int.reduceNe, Nat.reduceBneDiff, Int.reduceLE, Int.reduceLT, Int.reduceToNat, Int.reduceAdd, Int.reduceSub, Int.reduceMul, Int.reduceNeg, di, List.length_map, g1]) | ((with_reducible refine gcall_eq (hd) ?_ ?_ ?_); (with_reducible rfl); rfl) | (with_reducible exact drawQ_true _ _ (by kernel_rfl)) | (with_reducible refine And.intro (drawQ_true _ _ (by kernel_rfl)) ?_))
      refine ⟨⟨(v, u % v), by rw [← h1, Nat.gcd_comm u v, Nat.gcd_rec v u, Nat.gcd_comm], h3, Nat.le_trans (L_mono (Nat.le_of_lt hr)) h3⟩, by simp only; exact hr, le_of (θ := [(2, 2)]) rfl ?_ ?_⟩
      · simp [varsLe, lkp, ren1, ren0, di]
      · refine ⟨⟨rfl, rfl, rfl, rfl, rfl, .inr ⟨rfl, _, _, rfl, rfl, rfl, rfl⟩⟩, trivial⟩
theorem pow2_len (k : Nat) (hk : k ≤ 100000) : (digs E9 ((2 : Int) ^ k).natAbs).length ≤ 100001 := by
  rw [Int.natAbs_pow]
  exact pow2_digs (by decide) k 100000 hk
theorem rpower_v (n : Nat) (hn : n ≤ 100000) : SoundAt Tryz.prog 56 [.int .i64 (n : Int)] (rI (2 ^ n)) := by
  have n1 := rnum_v 1 (by decide) (by decide)
  refine sound_go (tb := []) 20 [.cell 2 37] [0, 2, 3, 6, 13] mixed Tryz.func56 rfl (by kernel_rfl) (by kernel_rfl) (by kernel_rfl) (by kernel_rfl) ?_
  repeat (first | (simp -implicitDefEqProofs only [go_sem, Nat.reduceAdd, Nat.reduceMul, Nat.reduceEqDiff, Nat.reduceLT, Nat.reduceLeDiff, Nat.reduceSub, Nat.reduceBEq, reduceIte, reduceCtorEq, Int.reduceEq, Int.reduceNe, Nat.reduceBneDiff, Int.reduceLE, Int.reduceLT, Int.reduceToNat, Int.reduceAdd, Int.reduceSub, Int.reduceMul, Int.reduceNeg, rI, di]) | ((with_reducible refine gcall_eq (n1) ?_ ?_ ?_); (with_reducible rfl); rfl) | (with_reducible exact drawQ_true _ _ (by kernel_rfl)) | (with_reducible refine And.intro (drawQ_true _ _ (by kernel_rfl)) ?_))
  refine g_loop mixed (fun j : { j : Nat // j ≤ n } => St.of [(0, .int .i64 (j.1 : Int)), (2, .bp 0 2 0 0), (3, .bp 101 2 0 0)]
    [(0, { els := [.agg [.bool false, .nilS]], esz := 2, ety := 37, fro := 0, live := true, arr := false }), (101, { els := [rI (2 ^ (n - j.1))], esz := 2, ety := 37, fro := 0, live := true, arr := false })]) (fun j => j.1) ⟨n, Nat.le_refl _⟩ ?_ ?_
  · refine le_of (θ := [(0, 0), (101, 101)]) rfl ?_ ?_
    · simp [varsLe, lkp, ren1, ren0]
    · refine ⟨⟨rfl, rfl, rfl, rfl, rfl, .inr ⟨rfl, _, _, rfl, rfl, rfl, rfl⟩⟩, ⟨rfl, rfl, rfl, rfl, rfl, .inr ⟨rfl, _, _, rfl, rfl, ?_, rfl⟩⟩, trivial⟩
      simp only [Nat.sub_self, Int.pow_zero]; rfl
  · rintro ⟨j, hj⟩
    simp only
    by_cases h20 : 20 ≤ j
    · have g1 : ((20 : Int) ≤ (j : Int)) = True := by simp only [eq_iff_iff, iff_true]; omega
      have w1 : IntKind.i64.wrap ((j : Int) - 20) = ((j - 20 : Nat) : Int) := by rw [wrap_i64 (by omega) (by omega)]; omega
      have nb := rnum_v 1048576 (by decide) (by decide)
      have hl := pow2_len (n - j) (by omega)
      have m1 := rmul_v (2 ^ (n - j)) 1048576 (by have := (L_small (n := (1048576 : Int).natAbs) (by decide)); omega)
      have e : (2 : Int) ^ (n - j) * 1048576 = 2 ^ (n - (j - 20)) := by
        rw [show n - (j - 20) = (n - j) + 20 by omega, Int.pow_add]; rfl
      rw [e] at m1
      generalize (2 : Int) ^ (n - j) = A at *
      repeat (first | (simp -implicitDefEqProofs only [go_sem, Nat.reduceAdd, Nat.reduceMul, Nat.reduceEqDiff, Nat.reduceLT, Nat.reduceLeDiff, Nat.reduceSub, Nat.reduceBEq, reduceIte, reduceCtorEq, Int.reduceEq, Int.reduceNe, Nat.reduceBneDiff, Int.reduceLE, Int.reduceLT, Int.reduceToNat, Int.reduceAdd, Int.reduceSub, Int.reduceMul, Int.reduceNeg, rI, di, g1, w1]) | ((with_reducible refine gcall_eq (nb) ?_ ?_ ?_); (with_reducible rfl); rfl) | ((with_reducible refine gcall_eq (m1) ?_ ?_ ?_); (with_reducible rfl); rfl) | (with_reducible exact drawQ_true _ _ (by kernel_rfl)) | (with_reducible refine And.intro (drawQ_true _ _ (by kernel_rfl)) ?_))
      refine ⟨⟨j - 20, by omega⟩, by simp only; omega, le_of (θ := [(0, 0), (101, 101)]) rfl ?_ ?_⟩
      · simp [varsLe, lkp, ren1, ren0]
      · refine ⟨⟨rfl, rfl, rfl, rfl, rfl, .inr ⟨rfl, _, _, rfl, rfl, rfl, rfl⟩⟩, ⟨rfl, rfl, rfl, rfl, rfl, .inr ⟨rfl, _, _, rfl, rfl, rfl, rfl⟩⟩, trivial⟩
    · have g1 : ((20 : Int) ≤ (j : Int)) = False := by simp only [eq_iff_iff, iff_false]; omega
      repeat (first | (simp -implicitDefEqProofs only [go_sem, Nat.reduceAdd, Nat.reduceMul, Nat.reduceEqDiff, Nat.reduceLT, Nat.reduceLeDiff, Nat.reduceSub, Nat.reduceBEq, reduceIte, reduceCtorEq, Int.reduceEq, Int.reduceNe, Nat.reduceBneDiff, Int.reduceLE, Int.reduceLT, Int.reduceToNat, Int.reduceAdd, Int.reduceSub, Int.reduceMul, Int.reduceNeg, rI, di, g1]) | ((with_reducible refine gcall_eq (n1) ?_ ?_ ?_); (with_reducible rfl); rfl) | (with_reducible exact drawQ_true _ _ (by kernel_rfl)) | (with_reducible refine And.intro (drawQ_true _ _ (by kernel_rfl)) ?_))
      refine g_loop mixed (fun i : { i : Nat // i ≤ j } => St.of [(0, .int .i64 (i.1 : Int)), (2, .bp 0 2 0 0), (3, .bp 101 2 0 0)]
        [(0, { els := [.agg [.bool false, .nilS]], esz := 2, ety := 37, fro := 0, live := true, arr := false }), (101, { els := [rI (2 ^ (n - i.1))], esz := 2, ety := 37, fro := 0, live := true, arr := false })]) (fun i => i.1) ⟨j, Nat.le_refl _⟩ ?_ ?_
      · refine le_of (θ := [(0, 0), (101, 101)]) rfl ?_ ?_
        · simp [varsLe, lkp, ren1, ren0]
        · refine ⟨⟨rfl, rfl, rfl, rfl, rfl, .inr ⟨rfl, _, _, rfl, rfl, rfl, rfl⟩⟩, ⟨rfl, rfl, rfl, rfl, rfl, .inr ⟨rfl, _, _, rfl, rfl, rfl, rfl⟩⟩, trivial⟩
      · rintro ⟨i, hi⟩
        simp only
        by_cases h0 : 0 < i
        · have g2 : ((0 : Int) < (i : Int)) = True := by simp only [eq_iff_iff, iff_true]; omega
          have w1 : IntKind.i64.wrap ((i : Int) - 1) = ((i - 1 : Nat) : Int) := by rw [wrap_i64 (by omega) (by omega)]; omega
          have hl := pow2_len (n - i) (by omega)
          have m1 := radd_v (2 ^ (n - i)) (2 ^ (n - i)) (Nat.le_trans (E9_add _ _ 100001 hl hl) (by decide))
          have e : (2 : Int) ^ (n - i) + 2 ^ (n - i) = 2 ^ (n - (i - 1)) := by
            rw [show n - (i - 1) = (n - i) + 1 by omega, Int.pow_succ]; omega
          rw [e] at m1
          generalize (2 : Int) ^ (n - i) = A at *
          repeat (first | (simp -implicitDefEqProofs only [go_sem, Nat.reduceAdd, Nat.reduceMul, Nat.reduceEqDiff, Nat.reduceLT, Nat.reduceLeDiff, Nat.reduceSub, Nat.reduceBEq, reduceIte, reduceCtorEq, Int.reduceEq, Int.reduceNe, Nat.reduceBneDiff, Int.reduceLE, Int.reduceLT, Int.reduceToNat, Int.reduceAdd, Int.reduceSub, Int.reduceMul, Int.reduceNeg, rI, di, g2, w1]) | ((with_reducible refine gcall_eq (m1) ?_ ?_ ?_); (with_reducible rfl); rfl) | (with_reducible exact drawQ_true _ _ (by kernel_rfl)) | (with_reducible refine And.intro (drawQ_true _ _ (by kernel_rfl)) ?_))
          refine ⟨⟨i - 1, by omega⟩, by simp only; omega, le_of (θ := [(0, 0), (101, 101)]) rfl ?_ ?_⟩
          · simp [varsLe, lkp, ren1, ren0]
          · refine ⟨⟨rfl, rfl, rfl, rfl, rfl, .inr ⟨rfl, _, _, rfl, rfl, rfl, rfl⟩⟩, ⟨rfl, rfl, rfl, rfl, rfl, .inr ⟨rfl, _, _, rfl, rfl, rfl, rfl⟩⟩, trivial⟩
        · have g2 : ((0 : Int) < (i : Int)) = False := by simp only [eq_iff_iff, iff_false]; omega
          obtain rfl : i = 0 := by omega
          repeat (first | (simp -implicitDefEqProofs only [go_sem, Nat.reduceAdd, Nat.reduceMul, Nat.reduceEqDiff, Nat.reduceLT, Nat.reduceLeDiff, Nat.reduceSub, Nat.reduceBEq, reduceIte, reduceCtorEq, Int.reduceEq, Int.reduceNe, Nat.reduceBneDiff, Int.reduceLE, Int.reduceLT, Int.reduceToNat, Int.reduceAdd, Int.reduceSub, Int.reduceMul, Int.reduceNeg, rI, di, g2]) | ((with_reducible refine gcall_eq (n1) ?_ ?_ ?_); (with_reducible rfl); rfl) | (with_reducible exact drawQ_true _ _ (by kernel_rfl)) | (with_reducible refine And.intro (drawQ_true _ _ (by kernel_rfl)) ?_))
          rw [Nat.sub_zero]
end Go.Proofs.YtnpclmmmngmdkaaGreat

namespace Go.Proofs.YtnpclmmmngmdkaaGreat
open Go.Vl Go.RowKit Go.Dg

def rQ (x y : Int) : PV := .agg [.bool (decide (x < 0)), di (digs E9 x.natAbs), .bool (decide (y < 0)), di (digs E9 y.natAbs)]
theorem mul_lt {x y : Int} {k l : Nat} (hx : x.natAbs < 256 ^ k) (hy : y.natAbs < 256 ^ l) : (x * y).natAbs < 256 ^ (k + l) := by
  rw [Int.natAbs_mul, Nat.pow_add]; exact Nat.mul_lt_mul'' hx hy
theorem div_lt {x : Int} {k : Nat} (hx : x.natAbs < 256 ^ k) (y : Int) : (x / y).natAbs < 256 ^ (k + 1) := by
  have h1 : (x / y).natAbs ≤ x.natAbs + 1 := by
    have := Int.natAbs_ediv_le_natAbs x y
    omega
  rw [Nat.pow_succ]; have := Nat.pow_pos (n := k) (show 0 < 256 by decide); generalize 256 ^ k = K at *; omega
theorem mod_lt {y : Int} {k : Nat} (x : Int) (h0 : y ≠ 0) (hy : y.natAbs < 256 ^ k) : (x % y).natAbs < 256 ^ k := by
  have h1 := Int.emod_nonneg x h0
  have h2 := Int.emod_lt x h0
  omega
theorem gcd_lt {x y : Nat} {k : Nat} (hx : x < 256 ^ k) (hy : y < 256 ^ k) : ((Nat.gcd x y : Nat) : Int).natAbs < 256 ^ k := by
  rw [Int.natAbs_natCast]
  rcases Nat.eq_zero_or_pos x with h0 | h0
  · rw [h0, Nat.gcd_zero_left]; exact hy
  · exact Nat.lt_of_le_of_lt (Nat.gcd_le_left _ h0) hx
theorem wnum_ne {n : Bool} {s : ByteArray} (h : validB n s.data.toList = true) (h0 : s.data.toList ≠ []) : wnum n s ≠ 0 := by
  intro e
  have h1 := wPV_wnum n s h
  rw [e, wPV_zero] at h1
  simp only [PV.agg.injEq, List.cons.injEq, PV.str.injEq, PV.bool.injEq, and_true] at h1
  exact h0 (by rw [← h1.2])
theorem wnum_nil {n : Bool} {s : ByteArray} (h0 : s.data.toList = []) : wnum n s = 0 := by
  unfold wnum sv; rw [h0]; cases n <;> rfl
theorem pow_mono {m k l : Nat} (h : m < 256 ^ k) (hkl : k ≤ l) : m < 256 ^ l := Nat.lt_of_lt_of_le h (Nat.pow_le_pow_right (by decide) hkl)
theorem gN_ne {x y : Int} (h : y ≠ 0) : gN x y ≠ 0 := by
  have := Nat.gcd_pos_of_pos_right x.natAbs (show 0 < y.natAbs by omega)
  unfold gN; split <;> omega
theorem gN_lt {x y : Int} {k : Nat} (hx : x.natAbs < 256 ^ k) (hy : y.natAbs < 256 ^ k) : (gN x y).natAbs < 256 ^ k := by
  have := gcd_lt hx hy
  unfold gN; split
  · rw [Int.natAbs_neg]; exact this
  · exact this
theorem rlowest_v (x y : Int) (h : y ≠ 0) (k : Nat) (hk : k ≤ 100000) (hx : x.natAbs < 256 ^ k) (hy : y.natAbs < 256 ^ k) : SoundAt Tryz.prog 46 [rI x, rI y] (rQ (lowN x y) (lowD x y)) := by
  have hg := rgcd_v x y (Nat.le_trans (small_ok _ k hx).1 (by omega)) (Nat.le_trans (small_ok _ k hy).1 (by omega))
  have rs := rsign_v y
  have hq1 := rquo_v x (gN x y) (gN_ne h) (Nat.le_trans (small_ok _ k hx).1 (by omega)) (Nat.le_trans (small_ok _ k (gN_lt hx hy)).1 (by omega))
  have hq2 := rquo_v y (gN x y) (gN_ne h) (Nat.le_trans (small_ok _ k hy).1 (by omega)) (Nat.le_trans (small_ok _ k (gN_lt hx hy)).1 (by omega))
  have hn := rneg_v ((Nat.gcd x.natAbs y.natAbs : Nat) : Int)
  unfold lowN lowD
  by_cases hs : y < 0
  · have e : gN x y = -((Nat.gcd x.natAbs y.natAbs : Nat) : Int) := by unfold gN; rw [if_pos hs]
    have g1 : (y.sign < 0) = True := by simp only [eq_iff_iff, iff_true]; rw [Int.sign_eq_neg_one_of_neg hs]; decide
    rw [← e] at hn
    generalize gN x y = G at *
    generalize x / G = A at *
    generalize y / G = B at *
    generalize x % G = C at *
    generalize y % G = D at *
    generalize ((Nat.gcd x.natAbs y.natAbs : Nat) : Int) = H at *
    refine sound_go (tb := []) 33 [.cell 4 39] [0, 1, 2, 3, 4, 5, 6, 8, 15] mixed Tryz.func46 rfl (by kernel_rfl) (by kernel_rfl) (by kernel_rfl) (by kernel_rfl) ?_
    repeat (first | (simp -implicitDefEqProofs only [go_sem, Nat.reduceAdd, Nat.reduceMul, Nat.reduceEqDiff, Nat.reduceLT, Nat.reduceLeDiff, Nat.reduceSub, Nat.reduceBEq, reduceIte, reduceCtorEq, Int.reduceEq, Int.reduceNe, Nat.reduceBneDiff, Int.reduceLE, Int.reduceLT, Int.reduceToNat, Int.reduceAdd, Int.reduceSub, Int.reduceMul, Int.reduceNeg, g1, rI, di, rQ]) | ((with_reducible refine gcall_eq (hg) ?_ ?_ ?_); (with_reducible rfl); rfl) | ((with_reducible refine gcall_eq (rs) ?_ ?_ ?_); (with_reducible rfl); rfl) | ((with_reducible refine gcall_eq (hn) ?_ ?_ ?_); (with_reducible rfl); rfl) | ((with_reducible refine gcall_eq (hq1) ?_ ?_ ?_); (with_reducible rfl); rfl) | ((with_reducible refine gcall_eq (hq2) ?_ ?_ ?_); (with_reducible rfl); rfl) | (with_reducible exact drawQ_true _ _ (by kernel_rfl)) | (with_reducible refine And.intro (drawQ_true _ _ (by kernel_rfl)) ?_))
  · have e : gN x y = ((Nat.gcd x.natAbs y.natAbs : Nat) : Int) := by unfold gN; rw [if_neg hs]
    have g1 : (y.sign < 0) = False := by simp only [eq_iff_iff, iff_false]; have := Int.sign_nonneg_iff.2 (show 0 ≤ y by omega); omega
    rw [← e] at hg
    generalize gN x y = G at *
    generalize x / G = A at *
    generalize y / G = B at *
    generalize x % G = C at *
    generalize y % G = D at *
    refine sound_go (tb := []) 33 [.cell 4 39] [0, 1, 2, 3, 4, 5, 6, 8, 15] mixed Tryz.func46 rfl (by kernel_rfl) (by kernel_rfl) (by kernel_rfl) (by kernel_rfl) ?_
    repeat (first | (simp -implicitDefEqProofs only [go_sem, Nat.reduceAdd, Nat.reduceMul, Nat.reduceEqDiff, Nat.reduceLT, Nat.reduceLeDiff, Nat.reduceSub, Nat.reduceBEq, reduceIte, reduceCtorEq, Int.reduceEq, Int.reduceNe, Nat.reduceBneDiff, Int.reduceLE, Int.reduceLT, Int.reduceToNat, Int.reduceAdd, Int.reduceSub, Int.reduceMul, Int.reduceNeg, g1, rI, di, rQ]) | ((with_reducible refine gcall_eq (hg) ?_ ?_ ?_); (with_reducible rfl); rfl) | ((with_reducible refine gcall_eq (rs) ?_ ?_ ?_); (with_reducible rfl); rfl) | ((with_reducible refine gcall_eq (hq1) ?_ ?_ ?_); (with_reducible rfl); rfl) | ((with_reducible refine gcall_eq (hq2) ?_ ?_ ?_); (with_reducible rfl); rfl) | (with_reducible exact drawQ_true _ _ (by kernel_rfl)) | (with_reducible refine And.intro (drawQ_true _ _ (by kernel_rfl)) ?_))
theorem routRatio_v (x y : Int) (k : Nat) (hk : k ≤ 100000) (hx : x.natAbs < 256 ^ k) (hy : y.natAbs < 256 ^ k) : SoundAt Tryz.prog 15 [rQ x y] (outQ x y) := by
  have b1 := rbig_v x (Nat.le_trans (small_ok _ k hx).1 (by omega)) (Nat.le_trans (small_ok _ k hx).2 (by omega))
  have b2 := rbig_v y (Nat.le_trans (small_ok _ k hy).1 (by omega)) (Nat.le_trans (small_ok _ k hy).2 (by omega))
  have t1 := rto_v x (Nat.le_trans (small_ok _ k hx).1 (by omega)) (Nat.le_trans (small_ok _ k hx).2 (by omega))
  have t2 := rto_v y (Nat.le_trans (small_ok _ k hy).1 (by omega)) (Nat.le_trans (small_ok _ k hy).2 (by omega))
  by_cases h1 : 65536 < blen x.natAbs
  · rw [outQ_t (by simp [big, h1])]
    have e1 : decide (65536 < blen x.natAbs) = true := by simp [h1]
    rw [e1] at b1
    refine sound_go (tb := []) 20 [.cell 2 32, .tmp 3] [0, 1, 2, 3, 11] mixed Tryz.func15 rfl (by kernel_rfl) (by kernel_rfl) (by kernel_rfl) (by kernel_rfl) ?_
    repeat (first | (simp -implicitDefEqProofs only [go_sem, Nat.reduceAdd, Nat.reduceMul, Nat.reduceEqDiff, Nat.reduceLT, Nat.reduceLeDiff, Nat.reduceSub, Nat.reduceBEq, reduceIte, reduceCtorEq, Int.reduceEq, Int.reduceNe, Nat.reduceBneDiff, Int.reduceLE, Int.reduceLT, Int.reduceToNat, Int.reduceAdd, Int.reduceSub, Int.reduceMul, Int.reduceNeg, rQ, rI, di, noRat]) | ((with_reducible refine gcall_eq (b1) ?_ ?_ ?_); (with_reducible rfl); rfl) | ((with_reducible refine gcall_eq (b2) ?_ ?_ ?_); (with_reducible rfl); rfl) | (with_reducible exact drawQ_true _ _ (by kernel_rfl)) | (with_reducible refine And.intro (drawQ_true _ _ (by kernel_rfl)) ?_))
  · have e1 : decide (65536 < blen x.natAbs) = false := by simp only [h1, decide_false]
    rw [e1] at b1
    by_cases h2 : 65536 < blen y.natAbs
    · rw [outQ_t (by simp [big, h2])]
      have e2 : decide (65536 < blen y.natAbs) = true := by simp [h2]
      rw [e2] at b2
      refine sound_go (tb := []) 20 [.cell 2 32, .tmp 3] [0, 1, 2, 3, 11] mixed Tryz.func15 rfl (by kernel_rfl) (by kernel_rfl) (by kernel_rfl) (by kernel_rfl) ?_
      repeat (first | (simp -implicitDefEqProofs only [go_sem, Nat.reduceAdd, Nat.reduceMul, Nat.reduceEqDiff, Nat.reduceLT, Nat.reduceLeDiff, Nat.reduceSub, Nat.reduceBEq, reduceIte, reduceCtorEq, Int.reduceEq, Int.reduceNe, Nat.reduceBneDiff, Int.reduceLE, Int.reduceLT, Int.reduceToNat, Int.reduceAdd, Int.reduceSub, Int.reduceMul, Int.reduceNeg, rQ, rI, di, noRat]) | ((with_reducible refine gcall_eq (b1) ?_ ?_ ?_); (with_reducible rfl); rfl) | ((with_reducible refine gcall_eq (b2) ?_ ?_ ?_); (with_reducible rfl); rfl) | (with_reducible exact drawQ_true _ _ (by kernel_rfl)) | (with_reducible refine And.intro (drawQ_true _ _ (by kernel_rfl)) ?_))
    · rw [outQ_f (by simp only [big, h1, h2, decide_false, Bool.or_self])]
      have e2 : decide (65536 < blen y.natAbs) = false := by simp only [h2, decide_false]
      rw [e2] at b2
      refine sound_go (tb := []) 20 [.cell 2 32, .tmp 3] [0, 1, 2, 3, 11] mixed Tryz.func15 rfl (by kernel_rfl) (by kernel_rfl) (by kernel_rfl) (by kernel_rfl) ?_
      repeat (first | (simp -implicitDefEqProofs only [go_sem, Nat.reduceAdd, Nat.reduceMul, Nat.reduceEqDiff, Nat.reduceLT, Nat.reduceLeDiff, Nat.reduceSub, Nat.reduceBEq, reduceIte, reduceCtorEq, Int.reduceEq, Int.reduceNe, Nat.reduceBneDiff, Int.reduceLE, Int.reduceLT, Int.reduceToNat, Int.reduceAdd, Int.reduceSub, Int.reduceMul, Int.reduceNeg, rQ, rI, di, wPV, ratPV]) | ((with_reducible refine gcall_eq (b1) ?_ ?_ ?_); (with_reducible rfl); rfl) | ((with_reducible refine gcall_eq (b2) ?_ ?_ ?_); (with_reducible rfl); rfl) | ((with_reducible refine gcall_eq (t1) ?_ ?_ ?_); (with_reducible rfl); rfl) | ((with_reducible refine gcall_eq (t2) ?_ ?_ ?_); (with_reducible rfl); rfl) | (with_reducible exact drawQ_true _ _ (by kernel_rfl)) | (with_reducible refine And.intro (drawQ_true _ _ (by kernel_rfl)) ?_))
theorem rvalidRatio_v (n : Bool) (s : ByteArray) (m : Bool) (t : ByteArray) : SoundAt Tryz.prog 29 [.agg [.bool n, .str s, .bool m, .str t]] (.bool (vRat n s m t)) := by
  have h1 := rvalid_v n s
  have h2 := rvalid_v m t
  unfold vRat
  cases v1 : validB n s.data.toList with
  | false =>
    rw [v1] at h1
    rw [Bool.false_and]
    refine sound_go (tb := []) 24 [.tmp 2] [0, 1, 2] mixed Tryz.func29 rfl (by kernel_rfl) (by kernel_rfl) (by kernel_rfl) (by kernel_rfl) ?_
    repeat (first | (simp -implicitDefEqProofs only [go_sem, Nat.reduceAdd, Nat.reduceMul, Nat.reduceEqDiff, Nat.reduceLT, Nat.reduceLeDiff, Nat.reduceSub, Nat.reduceBEq, reduceIte, reduceCtorEq, Int.reduceEq, Int.reduceNe, Nat.reduceBneDiff, Int.reduceLE, Int.reduceLT, Int.reduceToNat, Int.reduceAdd, Int.reduceSub, Int.reduceMul, Int.reduceNeg]) | ((with_reducible refine gcall_eq (h1) ?_ ?_ ?_); (with_reducible rfl); rfl) | ((with_reducible refine gcall_eq (h2) ?_ ?_ ?_); (with_reducible rfl); rfl) | (with_reducible exact drawQ_true _ _ (by kernel_rfl)) | (with_reducible refine And.intro (drawQ_true _ _ (by kernel_rfl)) ?_))
  | true =>
    rw [v1] at h1
    rw [Bool.true_and]
    cases v2 : validB m t.data.toList with
    | false =>
      rw [v2] at h2
      rw [Bool.false_and]
      refine sound_go (tb := []) 24 [.tmp 2] [0, 1, 2] mixed Tryz.func29 rfl (by kernel_rfl) (by kernel_rfl) (by kernel_rfl) (by kernel_rfl) ?_
      repeat (first | (simp -implicitDefEqProofs only [go_sem, Nat.reduceAdd, Nat.reduceMul, Nat.reduceEqDiff, Nat.reduceLT, Nat.reduceLeDiff, Nat.reduceSub, Nat.reduceBEq, reduceIte, reduceCtorEq, Int.reduceEq, Int.reduceNe, Nat.reduceBneDiff, Int.reduceLE, Int.reduceLT, Int.reduceToNat, Int.reduceAdd, Int.reduceSub, Int.reduceMul, Int.reduceNeg]) | ((with_reducible refine gcall_eq (h1) ?_ ?_ ?_); (with_reducible rfl); rfl) | ((with_reducible refine gcall_eq (h2) ?_ ?_ ?_); (with_reducible rfl); rfl) | (with_reducible exact drawQ_true _ _ (by kernel_rfl)) | (with_reducible refine And.intro (drawQ_true _ _ (by kernel_rfl)) ?_))
    | true =>
      rw [v2] at h2
      rw [Bool.true_and]
      have hz := ba_size t
      cases m with
      | true =>
        rw [Bool.not_true, Bool.false_and]
        refine sound_go (tb := []) 24 [.tmp 2] [0, 1, 2] mixed Tryz.func29 rfl (by kernel_rfl) (by kernel_rfl) (by kernel_rfl) (by kernel_rfl) ?_
        repeat (first | (simp -implicitDefEqProofs only [go_sem, Nat.reduceAdd, Nat.reduceMul, Nat.reduceEqDiff, Nat.reduceLT, Nat.reduceLeDiff, Nat.reduceSub, Nat.reduceBEq, reduceIte, reduceCtorEq, Int.reduceEq, Int.reduceNe, Nat.reduceBneDiff, Int.reduceLE, Int.reduceLT, Int.reduceToNat, Int.reduceAdd, Int.reduceSub, Int.reduceMul, Int.reduceNeg]) | ((with_reducible refine gcall_eq (h1) ?_ ?_ ?_); (with_reducible rfl); rfl) | ((with_reducible refine gcall_eq (h2) ?_ ?_ ?_); (with_reducible rfl); rfl) | (with_reducible exact drawQ_true _ _ (by kernel_rfl)) | (with_reducible refine And.intro (drawQ_true _ _ (by kernel_rfl)) ?_))
      | false =>
        rw [Bool.not_false, Bool.true_and]
        by_cases h0 : t.data.toList = []
        · have g1 : ((0 : Int) < (t.size : Int)) = False := by rw [hz, h0]; simp
          have e : (!(t.data.toList == [])) = false := by rw [h0]; rfl
          rw [e]
          refine sound_go (tb := []) 24 [.tmp 2] [0, 1, 2] mixed Tryz.func29 rfl (by kernel_rfl) (by kernel_rfl) (by kernel_rfl) (by kernel_rfl) ?_
          repeat (first | (simp -implicitDefEqProofs only [go_sem, Nat.reduceAdd, Nat.reduceMul, Nat.reduceEqDiff, Nat.reduceLT, Nat.reduceLeDiff, Nat.reduceSub, Nat.reduceBEq, reduceIte, reduceCtorEq, Int.reduceEq, Int.reduceNe, Nat.reduceBneDiff, Int.reduceLE, Int.reduceLT, Int.reduceToNat, Int.reduceAdd, Int.reduceSub, Int.reduceMul, Int.reduceNeg, g1]) | ((with_reducible refine gcall_eq (h1) ?_ ?_ ?_); (with_reducible rfl); rfl) | ((with_reducible refine gcall_eq (h2) ?_ ?_ ?_); (with_reducible rfl); rfl) | (with_reducible exact drawQ_true _ _ (by kernel_rfl)) | (with_reducible refine And.intro (drawQ_true _ _ (by kernel_rfl)) ?_))
        · have g1 : ((0 : Int) < (t.size : Int)) = True := by rw [hz]; have := List.length_pos_iff.2 h0; simp only [eq_iff_iff, iff_true]; omega
          rw [empty_eq h0]
          refine sound_go (tb := []) 24 [.tmp 2] [0, 1, 2] mixed Tryz.func29 rfl (by kernel_rfl) (by kernel_rfl) (by kernel_rfl) (by kernel_rfl) ?_
          repeat (first | (simp -implicitDefEqProofs only [go_sem, Nat.reduceAdd, Nat.reduceMul, Nat.reduceEqDiff, Nat.reduceLT, Nat.reduceLeDiff, Nat.reduceSub, Nat.reduceBEq, reduceIte, reduceCtorEq, Int.reduceEq, Int.reduceNe, Nat.reduceBneDiff, Int.reduceLE, Int.reduceLT, Int.reduceToNat, Int.reduceAdd, Int.reduceSub, Int.reduceMul, Int.reduceNeg, g1]) | ((with_reducible refine gcall_eq (h1) ?_ ?_ ?_); (with_reducible rfl); rfl) | ((with_reducible refine gcall_eq (h2) ?_ ?_ ?_); (with_reducible rfl); rfl) | (with_reducible exact drawQ_true _ _ (by kernel_rfl)) | (with_reducible refine And.intro (drawQ_true _ _ (by kernel_rfl)) ?_))
theorem rfromRatio_v (n : Bool) (s : ByteArray) (m : Bool) (t : ByteArray) (h1 : s.size ≤ 1000000) (h2 : t.size ≤ 1000000) : SoundAt Tryz.prog 34 [.agg [.bool n, .str s, .bool m, .str t]] (rQ (wnum n s) (wnum m t)) := by
  have hf : SoundAt Tryz.prog 48 [.agg [.bool n, .str s]] (rI (wnum n s)) := rfrom_v n s h1
  have hg : SoundAt Tryz.prog 48 [.agg [.bool m, .str t]] (rI (wnum m t)) := rfrom_v m t h2
  generalize wnum n s = X at *
  generalize wnum m t = Y at *
  refine sound_go (tb := []) 10 [.cell 2 39] [0, 1, 2] mixed Tryz.func34 rfl (by kernel_rfl) (by kernel_rfl) (by kernel_rfl) (by kernel_rfl) ?_
  repeat (first | (simp -implicitDefEqProofs only [go_sem, Nat.reduceAdd, Nat.reduceMul, Nat.reduceEqDiff, Nat.reduceLT, Nat.reduceLeDiff, Nat.reduceSub, Nat.reduceBEq, reduceIte, reduceCtorEq, Int.reduceEq, Int.reduceNe, Nat.reduceBneDiff, Int.reduceLE, Int.reduceLT, Int.reduceToNat, Int.reduceAdd, Int.reduceSub, Int.reduceMul, Int.reduceNeg, rQ, rI, di]) | ((with_reducible refine gcall_eq (hf) ?_ ?_ ?_); (with_reducible rfl); rfl) | ((with_reducible refine gcall_eq (hg) ?_ ?_ ?_); (with_reducible rfl); rfl) | (with_reducible exact drawQ_true _ _ (by kernel_rfl)) | (with_reducible refine And.intro (drawQ_true _ _ (by kernel_rfl)) ?_))
section
variable (a b c d : Int) (k : Nat) (hk : k ≤ 10000) (ha : a.natAbs < 256 ^ k) (hb : b.natAbs < 256 ^ k) (hc : c.natAbs < 256 ^ k) (hd : d.natAbs < 256 ^ k)
include hk ha hb hc hd
theorem rcompareQ_v : SoundAt Tryz.prog 33 [rQ a b, rQ c d] (.int .i64 (a * d - c * b).sign) := by
  have m1 := rmul_v a d (by have := (small_ok _ k ha).1; have := (small_ok _ k hd).1; omega)
  have m2 := rmul_v c b (by have := (small_ok _ k hc).1; have := (small_ok _ k hb).1; omega)
  have hr := rcompare_v (a * d) (c * b) (e9_sum (k := k + k) (by omega) (mul_lt ha hd) (mul_lt hc hb))
  generalize a * d = X at *
  generalize c * b = Y at *
  refine sound_go (tb := []) 16 [.tmp 4] [0, 1, 2, 3, 4] mixed Tryz.func33 rfl (by kernel_rfl) (by kernel_rfl) (by kernel_rfl) (by kernel_rfl) ?_
  repeat (first | (simp -implicitDefEqProofs only [go_sem, Nat.reduceAdd, Nat.reduceMul, Nat.reduceEqDiff, Nat.reduceLT, Nat.reduceLeDiff, Nat.reduceSub, Nat.reduceBEq, reduceIte, reduceCtorEq, Int.reduceEq, Int.reduceNe, Nat.reduceBneDiff, Int.reduceLE, Int.reduceLT, Int.reduceToNat, Int.reduceAdd, Int.reduceSub, Int.reduceMul, Int.reduceNeg, rQ, rI, di]) | ((with_reducible refine gcall_eq (m1) ?_ ?_ ?_); (with_reducible rfl); rfl) | ((with_reducible refine gcall_eq (m2) ?_ ?_ ?_); (with_reducible rfl); rfl) | ((with_reducible refine gcall_eq (hr) ?_ ?_ ?_); (with_reducible rfl); rfl) | (with_reducible exact drawQ_true _ _ (by kernel_rfl)) | (with_reducible refine And.intro (drawQ_true _ _ (by kernel_rfl)) ?_))
end
end Go.Proofs.YtnpclmmmngmdkaaGreat

namespace Go.Dg

/-! ### sums -/
/-- The sum of the first n values. -/
def sm (f : Nat → Int) : Nat → Int
  | 0 => 0
  | n + 1 => sm f n + f n
theorem sm_congr {f g : Nat → Int} : ∀ (n : Nat), (∀ i, i < n → f i = g i) → sm f n = sm g n
  | 0, _ => rfl
  | n + 1, h => by rw [sm, sm, sm_congr n (fun i hi => h i (Nat.lt_succ_of_lt hi)), h n (Nat.lt_succ_self n)]
theorem sm_zero {f : Nat → Int} : ∀ (n : Nat), (∀ i, i < n → f i = 0) → sm f n = 0
  | 0, _ => rfl
  | n + 1, h => by rw [sm, sm_zero n (fun i hi => h i (Nat.lt_succ_of_lt hi)), h n (Nat.lt_succ_self n)]; rfl
theorem sm_add (f g : Nat → Int) : ∀ n, sm (fun i => f i + g i) n = sm f n + sm g n
  | 0 => rfl
  | n + 1 => by simp only [sm, sm_add f g n]; omega
theorem sm_mul (c : Int) (f : Nat → Int) : ∀ n, sm (fun i => c * f i) n = c * sm f n
  | 0 => by simp [sm]
  | n + 1 => by simp only [sm, sm_mul c f n, Int.mul_add]
theorem sm_first (f : Nat → Int) : ∀ n, sm f (n + 1) = f 0 + sm (fun i => f (i + 1)) n
  | 0 => by simp [sm]
  | n + 1 => by rw [sm, sm_first f n, sm]; omega
theorem sm_more (f : Nat → Int) {n m : Nat} (h : n ≤ m) (hz : ∀ i, n ≤ i → i < m → f i = 0) : sm f m = sm f n := by
  induction m with
  | zero => obtain rfl : n = 0 := by omega
            rfl
  | succ m ih =>
    rcases Nat.lt_or_eq_of_le h with h1 | h1
    · rw [sm, ih (by omega) (fun i a b => hz i a (by omega)), hz m (by omega) (by omega), Int.add_zero]
    · rw [h1]
theorem sm_rev (f : Nat → Int) : ∀ n, sm (fun i => f (n - 1 - i)) n = sm f n
  | 0 => rfl
  | n + 1 => by
    rw [sm_first, sm]
    have e : sm (fun i => f (n + 1 - 1 - (i + 1))) n = sm (fun i => f (n - 1 - i)) n := sm_congr n fun i _ => by congr 1; omega
    rw [e, sm_rev f n, Int.add_comm]; rfl
theorem sm_tri (g : Nat → Nat → Int) : ∀ n, sm (fun j => sm (fun i => g i j) (j + 1)) n = sm (fun i => sm (fun k => g i (i + k)) (n - i)) n
  | 0 => rfl
  | n + 1 => by
    rw [sm, sm_tri g n]
    have h1 : sm (fun i => sm (fun k => g i (i + k)) (n + 1 - i)) n = sm (fun i => sm (fun k => g i (i + k)) (n - i) + g i n) n :=
      sm_congr n fun i hi => by
        have e : n + 1 - i = (n - i) + 1 := by omega
        have e2 : i + (n - i) = n := by omega
        rw [e, sm, e2]
    have e3 : n + 1 - n = 1 := by omega
    rw [sm, sm, h1, sm_add, e3]
    simp only [sm, Nat.add_zero, Int.zero_add]
    omega
theorem sm_comm (f : Nat → Nat → Int) (m : Nat) : ∀ n, sm (fun i => sm (fun j => f i j) m) n = sm (fun j => sm (fun i => f i j) n) m
  | 0 => (sm_zero m (fun _ _ => rfl)).symm
  | n + 1 => by rw [sm, sm_comm f m n, ← sm_add]; rfl
theorem sm_nonneg {f : Nat → Int} : ∀ (n : Nat), (∀ i, i < n → 0 ≤ f i) → 0 ≤ sm f n
  | 0, _ => Int.le_refl 0
  | n + 1, h => Int.add_nonneg (sm_nonneg n fun i hi => h i (Nat.lt_succ_of_lt hi)) (h n (Nat.lt_succ_self n))
theorem sm_le {f g : Nat → Int} : ∀ (n : Nat), (∀ i, i < n → f i ≤ g i) → sm f n ≤ sm g n
  | 0, _ => Int.le_refl 0
  | n + 1, h => Int.add_le_add (sm_le n fun i hi => h i (Nat.lt_succ_of_lt hi)) (h n (Nat.lt_succ_self n))

/-! ### binomials -/
/-- The number of ways to choose k of n elements. -/
def bin : Nat → Nat → Nat
  | _, 0 => 1
  | 0, _ + 1 => 0
  | n + 1, k + 1 => bin n k + bin n (k + 1)
theorem bin_zero (n : Nat) : bin n 0 = 1 := by cases n <;> rfl
theorem bin_lt : ∀ {n k : Nat}, n < k → bin n k = 0
  | 0, 0, h => absurd h (Nat.lt_irrefl 0)
  | 0, _ + 1, _ => rfl
  | n + 1, 0, h => absurd h (Nat.not_lt_zero _)
  | n + 1, k + 1, h => by rw [bin, bin_lt (by omega), bin_lt (by omega)]
theorem bin_self : ∀ n, bin n n = 1
  | 0 => rfl
  | n + 1 => by rw [bin, bin_self n, bin_lt (Nat.lt_succ_self n)]
/-- The next one of a row. -/
theorem bin_step : ∀ (n k : Nat), (bin n (k + 1) : Int) * ((k : Int) + 1) = (bin n k : Int) * ((n : Int) - (k : Int))
  | 0, 0 => by simp [bin]
  | 0, k + 1 => by simp [bin]
  | n + 1, 0 => by
    have h := bin_step n 0
    rw [bin_zero] at h ⊢
    rw [bin, bin_zero]
    simp only [Int.natCast_add, Int.natCast_zero, Int.zero_add, Int.mul_one, Int.sub_zero, Int.one_mul] at h ⊢
    omega
  | n + 1, k + 1 => by
    have h1 := bin_step n k
    have h2 := bin_step n (k + 1)
    rw [bin, bin]
    simp only [Int.natCast_add] at h1 h2 ⊢
    generalize (bin n k : Int) = a at *
    generalize (bin n (k + 1) : Int) = b at *
    generalize (bin n (k + 1 + 1) : Int) = c at *
    generalize (n : Int) = N at *
    generalize (k : Int) = K at *
    simp only [Int.mul_add, Int.add_mul, Int.mul_sub, Int.sub_mul] at h1 h2 ⊢
    simp only [Int.mul_one] at h1 h2 ⊢
    omega
theorem bin_pos : ∀ {n k : Nat}, k ≤ n → 0 < bin n k
  | _, 0, _ => by rw [bin_zero]; decide
  | 0, k + 1, h => absurd h (by omega)
  | n + 1, k + 1, h => by rw [bin]; have := bin_pos (n := n) (k := k) (by omega); omega
theorem bin_le_pow : ∀ (n k : Nat), bin n k ≤ 2 ^ n
  | 0, 0 => by decide
  | 0, _ + 1 => by simp [bin]
  | n + 1, 0 => by rw [bin_zero]; exact Nat.pow_pos (by decide)
  | n + 1, k + 1 => by rw [bin, Nat.pow_succ]; have := bin_le_pow n k; have := bin_le_pow n (k + 1); omega
theorem bin_symm : ∀ {n k : Nat}, k ≤ n → bin n (n - k) = bin n k
  | 0, 0, _ => rfl
  | 0, k + 1, h => absurd h (by omega)
  | n + 1, 0, _ => by rw [Nat.sub_zero, bin_self, bin_zero]
  | n + 1, k + 1, h => by
    rcases Nat.lt_or_eq_of_le h with h1 | h1
    · have e : n + 1 - (k + 1) = (n - (k + 1)) + 1 := by omega
      have e2 : n - (k + 1) + 1 = n - k := by omega
      rw [e, bin, bin_symm (by omega : k + 1 ≤ n), e2, bin_symm (by omega : k ≤ n), bin, Nat.add_comm]
    · rw [h1, Nat.sub_self, bin_zero, bin_self]
theorem pow_s (x : Int) (n : Nat) : x ^ (n + 1) = x * x ^ n := by rw [Int.pow_succ, Int.mul_comm]
/-- The power of a sum. -/
theorem bin_thm (a b : Int) : ∀ n, sm (fun k => (bin n k : Int) * (a ^ k * b ^ (n - k))) (n + 1) = (a + b) ^ n
  | 0 => by simp [sm, bin]
  | n + 1 => by
    have ih := bin_thm a b n
    rw [sm_first]
    have h1 : sm (fun k => (bin (n + 1) (k + 1) : Int) * (a ^ (k + 1) * b ^ (n + 1 - (k + 1)))) (n + 1)
        = sm (fun k => a * ((bin n k : Int) * (a ^ k * b ^ (n - k))) + (bin n (k + 1) : Int) * (a ^ (k + 1) * b ^ (n - k))) (n + 1) :=
      sm_congr _ fun k _ => by
        have e : n + 1 - (k + 1) = n - k := by omega
        rw [e, bin, Int.natCast_add, Int.add_mul, pow_s]
        congr 1
        rw [Int.mul_assoc, Int.mul_left_comm]
    rw [h1, sm_add, sm_mul, ih]
    have h2 : sm (fun k => (bin n (k + 1) : Int) * (a ^ (k + 1) * b ^ (n - k))) (n + 1) = sm (fun k => b * ((bin n (k + 1) : Int) * (a ^ (k + 1) * b ^ (n - (k + 1))))) n := by
      rw [sm, bin_lt (Nat.lt_succ_self n), Int.natCast_zero, Int.zero_mul, Int.add_zero]
      refine sm_congr _ fun k hk => ?_
      have e : n - k = (n - (k + 1)) + 1 := by omega
      rw [e, pow_s b]
      simp only [Int.mul_comm, Int.mul_left_comm, Int.mul_assoc]
    have h3 := sm_first (fun k => (bin n k : Int) * (a ^ k * b ^ (n - k))) n
    rw [ih] at h3
    rw [h2, sm_mul, bin_zero]
    rw [bin_zero] at h3
    simp only [Int.pow_zero, Int.one_mul, Nat.sub_zero, Int.natCast_one] at h3 ⊢
    rw [pow_s, pow_s, Int.add_mul, h3]
    simp only [Int.mul_add]
    omega

/-! ### polynomials by their values -/
/-- A polynomial at x / y, times y to the power of its degree. -/
def hev : List Int → Int → Int → Int
  | [], _, _ => 0
  | c :: r, x, y => c * y ^ r.length + x * hev r x y
theorem hev_sm : ∀ (p : List Int) (x y : Int), hev p x y = sm (fun i => p.getD i 0 * (x ^ i * y ^ (p.length - 1 - i))) p.length
  | [], _, _ => rfl
  | c :: r, x, y => by
    rw [hev, List.length_cons, sm_first, hev_sm r x y, ← sm_mul]
    congr 1
    · simp
    · refine sm_congr _ fun i hi => ?_
      have e : r.length + 1 - 1 - (i + 1) = r.length - 1 - i := by omega
      rw [e, pow_s, List.getD_cons_succ]
      simp only [Int.mul_comm, Int.mul_left_comm, Int.mul_assoc]
/-- Lists of equal length with equal values are equal. -/
theorem hev_uniq : ∀ {p q : List Int}, p.length = q.length → (∀ x : Int, 1 ≤ x → hev p x 1 = hev q x 1) → p = q
  | [], [], _, _ => rfl
  | [], _ :: _, h, _ => by simp at h
  | _ :: _, [], h, _ => by simp at h
  | a :: p, b :: q, hl, h => by
    simp only [hev, Int.one_pow, Int.mul_one] at h
    have hab : a = b := by
      have h1 := h ((a - b).natAbs + 1) (by omega)
      generalize hev p _ 1 = A at h1
      generalize hev q _ 1 = B at h1
      have h2 : a - b = (((a - b).natAbs : Int) + 1) * (B - A) := by rw [Int.mul_sub]; omega
      have h3 : (((a - b).natAbs : Int) + 1) ∣ (a - b) := ⟨_, h2⟩
      have h4 := Int.natAbs_dvd_natAbs.2 h3
      rcases Nat.eq_zero_or_pos (a - b).natAbs with h0 | h0
      · omega
      · have := Nat.le_of_dvd h0 h4
        omega
    subst hab
    congr 1
    refine hev_uniq (by simpa using hl) fun x hx => ?_
    have h1 := h x hx
    have h2 : x * hev p x 1 = x * hev q x 1 := by omega
    exact Int.eq_of_mul_eq_mul_left (by omega) h2
theorem hev_append : ∀ (p q : List Int) (x y : Int), hev (p ++ q) x y = y ^ q.length * hev p x y + x ^ p.length * hev q x y
  | [], q, x, y => by simp [hev]
  | c :: r, q, x, y => by
    rw [List.cons_append, hev, hev, hev_append r q x y, List.length_append, List.length_cons, Int.pow_add, pow_s]
    simp only [Int.mul_add]
    simp only [Int.mul_comm, Int.mul_left_comm, Int.mul_assoc]
    omega
theorem hev_reverse : ∀ (p : List Int) (x y : Int), hev p.reverse x y = hev p y x
  | [], _, _ => rfl
  | c :: r, x, y => by
    rw [List.reverse_cons, hev_append, hev_reverse r x y]
    simp only [hev, List.length_nil, List.length_singleton, List.length_reverse, Int.pow_zero, Int.mul_one, Int.mul_zero, Int.add_zero]
    rw [show y ^ 1 = y from by rw [Int.pow_succ, Int.pow_zero, Int.one_mul], Int.mul_comm c]
    omega
/-- A list of sums of products, at two values. -/
theorem hev_ofFn (F : Nat → Int) (n : Nat) (x y : Int) : hev ((List.range (n + 1)).map F) x y = sm (fun j => F j * (x ^ j * y ^ (n - j))) (n + 1) := by
  rw [hev_sm]
  simp only [List.length_map, List.length_range]
  refine sm_congr _ fun j hj => ?_
  rw [List.getD_eq_getElem?_getD]
  simp [hj]

/-- The list whose value at x, y is the sum of f i x^i (c x + y)^(n - i). -/
def trans (f : List Int) (c : Int) (n : Nat) : List Int := (List.range (n + 1)).map fun j => sm (fun i => f.getD i 0 * (c ^ (j - i) * (bin (n - i) (j - i) : Int))) (j + 1)
theorem trans_length (f : List Int) (c : Int) (n : Nat) : (trans f c n).length = n + 1 := by simp [trans]
theorem mul_pow' (a b : Int) : ∀ n : Nat, (a * b) ^ n = a ^ n * b ^ n
  | 0 => by simp
  | n + 1 => by rw [pow_s, pow_s, pow_s, mul_pow' a b n]; simp only [Int.mul_comm, Int.mul_left_comm, Int.mul_assoc]
theorem sm_mulr (c : Int) (f : Nat → Int) (n : Nat) : sm (fun i => f i * c) n = sm f n * c := by
  rw [Int.mul_comm, ← sm_mul]; exact sm_congr n fun i _ => Int.mul_comm _ _
theorem trans_hev (f : List Int) (c : Int) (n : Nat) (x y : Int) : hev (trans f c n) x y = sm (fun i => f.getD i 0 * (x ^ i * (c * x + y) ^ (n - i))) (n + 1) := by
  rw [trans, hev_ofFn]
  have h1 : sm (fun j => sm (fun i => f.getD i 0 * (c ^ (j - i) * (bin (n - i) (j - i) : Int))) (j + 1) * (x ^ j * y ^ (n - j))) (n + 1)
      = sm (fun j => sm (fun i => f.getD i 0 * (c ^ (j - i) * (bin (n - i) (j - i) : Int)) * (x ^ j * y ^ (n - j))) (j + 1)) (n + 1) :=
    sm_congr _ fun j _ => (sm_mulr _ _ _).symm
  rw [h1, sm_tri (fun i j => f.getD i 0 * (c ^ (j - i) * (bin (n - i) (j - i) : Int)) * (x ^ j * y ^ (n - j)))]
  refine sm_congr _ fun i hi => ?_
  have e : n + 1 - i = (n - i) + 1 := by omega
  rw [← bin_thm (c * x) y (n - i), e, ← sm_mul, ← sm_mul]
  refine sm_congr _ fun k hk => ?_
  have e1 : i + k - i = k := by omega
  have e2 : n - (i + k) = n - i - k := by omega
  rw [e1, e2, mul_pow', Int.pow_add]
  simp only [Int.mul_comm, Int.mul_left_comm, Int.mul_assoc]
theorem hev_deg {f : List Int} {n : Nat} (h : f.length ≤ n + 1) (x s : Int) : sm (fun i => f.getD i 0 * (x ^ i * s ^ (n - i))) (n + 1) = s ^ (n + 1 - f.length) * hev f x s := by
  rw [sm_more _ h (fun i h1 _ => by rw [List.getD_eq_getElem?_getD, List.getElem?_eq_none h1]; simp), hev_sm, ← sm_mul]
  refine sm_congr _ fun i hi => ?_
  have e : n - i = (n + 1 - f.length) + (f.length - 1 - i) := by omega
  rw [e, Int.pow_add]
  simp only [Int.mul_comm, Int.mul_left_comm, Int.mul_assoc]
theorem trans_hev' {f : List Int} {n : Nat} (h : f.length ≤ n + 1) (c x y : Int) : hev (trans f c n) x y = (c * x + y) ^ (n + 1 - f.length) * hev f x (c * x + y) := by
  rw [trans_hev, hev_deg h]
theorem trans_full {f : List Int} {n : Nat} (h : f.length = n + 1) (c x y : Int) : hev (trans f c n) x y = hev f x (c * x + y) := by
  rw [trans_hev' (by omega), h, Nat.sub_self, Int.pow_zero, Int.one_mul]
/-- Each value times a power. -/
def scaleP (b : Int) (n : Nat) (f : List Int) : List Int := (List.range (n + 1)).map fun j => f.getD j 0 * b ^ (n - j)
theorem scaleP_hev {f : List Int} {n : Nat} (h : f.length = n + 1) (b x y : Int) : hev (scaleP b n f) x y = hev f x (b * y) := by
  rw [scaleP, hev_ofFn, hev_sm, h]
  refine sm_congr _ fun j hj => ?_
  rw [Nat.add_sub_cancel, mul_pow']
  simp only [Int.mul_comm, Int.mul_left_comm, Int.mul_assoc]
end Go.Dg

namespace Go.Proofs.YtnpclmmmngmdkaaGreat
open Go.Vl Go.RowKit Go.Dg

theorem p2_add {x y : Int} {B : Nat} (hx : x.natAbs < 2 ^ B) (hy : y.natAbs < 2 ^ B) : (x + y).natAbs < 2 ^ (B + 1) := by
  rw [Nat.pow_succ]; generalize 2 ^ B = K at *; omega
theorem p2_mul {x y : Int} {B C : Nat} (hx : x.natAbs < 2 ^ B) (hy : y.natAbs < 2 ^ C) : (x * y).natAbs < 2 ^ (B + C) := by
  rw [Int.natAbs_mul, Nat.pow_add]; exact Nat.mul_lt_mul'' hx hy
theorem p2_neg {x : Int} {B : Nat} (hx : x.natAbs < 2 ^ B) : (-x).natAbs < 2 ^ B := by rw [Int.natAbs_neg]; exact hx
theorem mag_ok {x : Int} (h : x.natAbs < 2 ^ 65536) : (digs 256 x.natAbs).length ≤ 8192 := (digs_len_le (by decide) x.natAbs 8192).2 (p2_256 (k := 8192) h (by decide))
theorem outPV_ok {n : Int} (h : n.natAbs < 2 ^ 65536) : outPV n = .tup [wPV n, .int .i64 0] := by
  rw [outPV, if_neg (Nat.not_lt.2 (blen_le 65536 _ h))]
theorem p2_blen {x : Int} {B : Nat} (h : x.natAbs < 2 ^ B) : blen x.natAbs ≤ B := blen_le B _ h
/-- The bytes of an integer. -/
abbrev mB (x : Int) : ByteArray := ⟨(magL x.natAbs).toArray⟩
theorem mB_size {x : Int} (h : x.natAbs < 2 ^ 65536) : (mB x).size ≤ 100000 := by rw [magL_size]; have := mag_ok h; omega
theorem mB_valid {x : Int} (h : x.natAbs < 2 ^ 65536) : validB (decide (x < 0)) (mB x).data.toList = true := validB_magL x (mag_ok h)
theorem sv_magL (x : Int) : (bnum (mB x).data.toList) = x.natAbs := by
  have h := wnum_magL x
  unfold wnum at h
  have h2 := congrArg Int.natAbs h
  rwa [sv_abs] at h2
theorem wMul_i {x y : Int} (hx : x.natAbs < 2 ^ 65536) (hy : y.natAbs < 2 ^ 65536) : SoundAt Tryz.prog 80 [wPV x, wPV y] (outPV (x * y)) := by
  have h := wMul_v (decide (x < 0)) (decide (y < 0)) (mB x) (mB y) (mB_valid hx) (mB_valid hy) (mB_size hx) (mB_size hy)
  rwa [wnum_magL, wnum_magL] at h
theorem wAdd_i {x y : Int} (hx : x.natAbs < 2 ^ 65536) (hy : y.natAbs < 2 ^ 65536) : SoundAt Tryz.prog 81 [wPV x, wPV y] (outPV (x + y)) := by
  have h := wAdd_v (decide (x < 0)) (decide (y < 0)) (mB x) (mB y) (mB_valid hx) (mB_valid hy) (mB_size hx) (mB_size hy)
  rwa [wnum_magL, wnum_magL] at h
theorem wShift_i {x : Int} (n : Int) (hx : x.natAbs < 2 ^ 65536) (h1 : -65536 ≤ n) (h2 : n ≤ 65536) : SoundAt Tryz.prog 61 [wPV x, .int .i64 n] (outPV (shiftI x n)) := by
  have h := wShift_v (decide (x < 0)) (mB x) n (mB_valid hx) h1 h2 (mB_size hx)
  rwa [wnum_magL] at h
theorem wSign_i {x : Int} (hx : x.natAbs < 2 ^ 65536) : SoundAt Tryz.prog 43 [wPV x] (.int .i64 x.sign) := by
  have h := wSign_v (decide (x < 0)) (mB x) (mB_valid hx) (mB_size hx)
  rwa [wnum_magL] at h
theorem wLen_i {x : Int} (hx : x.natAbs < 2 ^ 65536) : SoundAt Tryz.prog 79 [wPV x] (.int .i64 (blen x.natAbs : Int)) := by
  have h := wLen_v (decide (x < 0)) (mB x) (mB_valid hx) (mB_size hx)
  rwa [sv_magL] at h
theorem wValid_i {x : Int} (hx : x.natAbs < 2 ^ 65536) : SoundAt Tryz.prog 78 [wPV x] (.bool true) := by
  have h := wvalid_v (decide (x < 0)) (mB x)
  rwa [mB_valid hx] at h
theorem mB_ne {x : Int} (h : x ≠ 0) : (mB x).data.toList ≠ [] := fun e => h ((magL_nil x).1 e)
theorem wRatio_i {x y : Int} (hx : x.natAbs < 2 ^ 65536) (hy : y.natAbs < 2 ^ 65536) (h0 : y ≠ 0) : SoundAt Tryz.prog 84 [wPV x, wPV y] (outQ (lowN x y) (lowD x y)) := by
  have h := wRatio_v (decide (x < 0)) (decide (y < 0)) (mB x) (mB y) (mB_valid hx) (mB_valid hy) (mB_ne h0) (mB_size hx) (mB_size hy)
  rwa [wnum_magL, wnum_magL] at h
theorem vRat_i {x y : Int} (hx : x.natAbs < 2 ^ 65536) (hy : y.natAbs < 2 ^ 65536) (h0 : 0 < y) : vRat (decide (x < 0)) (mB x) (decide (y < 0)) (mB y) = true := by
  unfold vRat
  rw [mB_valid hx, mB_valid hy, empty_eq (mB_ne (show y ≠ 0 by omega))]
  have : decide (y < 0) = false := by simp; omega
  rw [this]; rfl
theorem wCompareRatio_i {a b c d : Int} (ha : a.natAbs < 2 ^ 65536) (hb : b.natAbs < 2 ^ 65536) (hc : c.natAbs < 2 ^ 65536) (hd : d.natAbs < 2 ^ 65536) (b0 : 0 < b) (d0 : 0 < d) :
    SoundAt Tryz.prog 85 [ratPV a b, ratPV c d] (.tup [.int .i64 (a * d - c * b).sign, .int .i64 0]) := by
  have h := wCompareRatio_v (decide (a < 0)) (decide (b < 0)) (decide (c < 0)) (decide (d < 0)) (mB a) (mB b) (mB c) (mB d) (vRat_i ha hb b0) (vRat_i hc hd d0) (mB_size ha) (mB_size hb) (mB_size hc) (mB_size hd)
  rwa [wnum_magL, wnum_magL, wnum_magL, wnum_magL] at h
theorem wMulRatio_i {a b c d : Int} (ha : a.natAbs < 2 ^ 65536) (hb : b.natAbs < 2 ^ 65536) (hc : c.natAbs < 2 ^ 65536) (hd : d.natAbs < 2 ^ 65536) (b0 : 0 < b) (d0 : 0 < d) :
    SoundAt Tryz.prog 63 [ratPV a b, ratPV c d] (outQ (lowN (a * c) (b * d)) (lowD (a * c) (b * d))) := by
  have h := wMulRatio_v (decide (a < 0)) (decide (b < 0)) (decide (c < 0)) (decide (d < 0)) (mB a) (mB b) (mB c) (mB d) (vRat_i ha hb b0) (vRat_i hc hd d0) (mB_size ha) (mB_size hb) (mB_size hc) (mB_size hd)
  rwa [wnum_magL, wnum_magL, wnum_magL, wnum_magL] at h
theorem e9_p2 {x : Int} {B k : Nat} (h : x.natAbs < 2 ^ B) (hk : B ≤ 8 * k) : (digs E9 x.natAbs).length ≤ k := (small_ok x k (p2_256 h hk)).1
theorem d8_p2 {x : Int} {B k : Nat} (h : x.natAbs < 2 ^ B) (hk : B ≤ 8 * k) : (digs 256 x.natAbs).length ≤ k := (small_ok x k (p2_256 h hk)).2
theorem rto_i {x : Int} (h : x.natAbs < 2 ^ 8000000) : SoundAt Tryz.prog 32 [rI x] (wPV x) := rto_v x (e9_p2 h (by decide)) (Nat.le_trans (d8_p2 h (k := 1000000) (by decide)) (by decide))
theorem radd_i {x y : Int} (hx : x.natAbs < 2 ^ 7000000) (hy : y.natAbs < 2 ^ 7000000) : SoundAt Tryz.prog 92 [rI x, rI y] (rI (x + y)) :=
  radd_v x y (e9_sum (k := 1000000) (by decide) (p2_256 (k := 1000000) hx (by decide)) (p2_256 (k := 1000000) hy (by decide)))
theorem rsub_i {x y : Int} (hx : x.natAbs < 2 ^ 7000000) (hy : y.natAbs < 2 ^ 7000000) : SoundAt Tryz.prog 74 [rI x, rI y] (rI (x - y)) :=
  rsub_v x y (e9_sum (k := 1000000) (by decide) (p2_256 (k := 1000000) hx (by decide)) (p2_256 (k := 1000000) hy (by decide)))
theorem rmul_i {x y : Int} (hx : x.natAbs < 2 ^ 7000000) (hy : y.natAbs < 2 ^ 7000000) : SoundAt Tryz.prog 66 [rI x, rI y] (rI (x * y)) :=
  rmul_v x y (by have := e9_p2 hx (k := 1000000) (by decide); have := e9_p2 hy (k := 1000000) (by decide); omega)
theorem rquo_i {x y : Int} (hx : x.natAbs < 2 ^ 7000000) (hy : y.natAbs < 2 ^ 7000000) (h0 : y ≠ 0) : SoundAt Tryz.prog 88 [rI x, rI y] (.tup [rI (x / y), rI (x % y)]) :=
  rquo_v x y h0 (e9_p2 hx (by decide)) (e9_p2 hy (by decide))
theorem rgcd_i {x y : Int} (hx : x.natAbs < 2 ^ 7000000) (hy : y.natAbs < 2 ^ 7000000) : SoundAt Tryz.prog 86 [rI x, rI y] (rI ((Nat.gcd x.natAbs y.natAbs : Nat) : Int)) :=
  rgcd_v x y (e9_p2 hx (by decide)) (e9_p2 hy (by decide))
theorem rcompare_i {x y : Int} (hx : x.natAbs < 2 ^ 7000000) (hy : y.natAbs < 2 ^ 7000000) : SoundAt Tryz.prog 75 [rI x, rI y] (.int .i64 (x - y).sign) :=
  rcompare_v x y (e9_sum (k := 1000000) (by decide) (p2_256 (k := 1000000) hx (by decide)) (p2_256 (k := 1000000) hy (by decide)))
end Go.Proofs.YtnpclmmmngmdkaaGreat
