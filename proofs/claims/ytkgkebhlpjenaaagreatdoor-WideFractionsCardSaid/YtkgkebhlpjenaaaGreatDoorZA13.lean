/-
  ZA12, ZA13 (merged for the claim).
-/
import Derived.Test.YtkgkebhlpjenaaaGreatDoorZA11
import Derived.Test.YtkgkebhlpjenaaaGreatDoorZW3
import Derived.Test.YtkgkebhlpjenaaaGreatDoorDp
import Derived.Test.YtkgkebhlpjenaaaGreatDoorZW16
set_option linter.unusedSimpArgs false
set_option linter.unusedVariables false
namespace Go.Proofs.YtkgkebhlpjenaaaGreatDoor
open Go.Vl Go.RowKit Go.Dg

theorem rI_parts (n : Int) : rI n = .agg [.bool (decide (n < 0)), di (digs E9 n.natAbs)] := rfl
theorem E9_mul (a b : Nat) : (digs E9 (a * b)).length ≤ (digs E9 a).length + (digs E9 b).length := by
  refine (digs_len_le E9_2 _ _).2 ?_
  rw [Nat.pow_add]
  exact Nat.mul_lt_mul'' (lt_pow_len E9_2 _) (lt_pow_len E9_2 _)
theorem E9_add (a b k : Nat) (h1 : (digs E9 a).length ≤ k) (h2 : (digs E9 b).length ≤ k) : (digs E9 (a + b)).length ≤ k + 1 := by
  rw [digs_len_le E9_2] at h1 h2 ⊢
  rw [Nat.pow_succ]
  generalize E9 ^ k = K at *
  simp only [E9]
  omega
/-- The Euclidean quotient from the truncated one. -/
theorem quo_fix (x y : Int) (hy : y ≠ 0) : (0 ≤ x - Int.tdiv x y * y → Int.tdiv x y = x / y ∧ x - Int.tdiv x y * y = x % y) ∧
    (x - Int.tdiv x y * y < 0 → (if 0 < y then Int.tdiv x y - 1 else Int.tdiv x y + 1) = x / y ∧ x - (if 0 < y then Int.tdiv x y - 1 else Int.tdiv x y + 1) * y = x % y) := by
  have h1 : y * Int.tdiv x y + Int.tmod x y = x := Int.mul_tdiv_add_tmod x y
  have h2 := Int.natAbs_tmod x y
  have h3 := Nat.mod_lt x.natAbs (show 0 < y.natAbs by omega)
  rw [← h2] at h3
  generalize Int.tdiv x y = q at *
  generalize Int.tmod x y = r at *
  have e : q * y = y * q := Int.mul_comm _ _
  have key : ∀ q' r' : Int, r' + y * q' = x → 0 ≤ r' → r' < y.natAbs → q' = x / y ∧ r' = x % y := by
    intro q' r' a1 a2 a3
    rcases Int.lt_or_gt_of_ne hy with hn | hp
    · have := (Int.ediv_emod_unique' (a := x) (b := y) (r := r') (q := q') hn).2 ⟨a1, a2, by omega⟩
      exact ⟨this.1.symm, this.2.symm⟩
    · have := (Int.ediv_emod_unique (a := x) (b := y) (r := r') (q := q') hp).2 ⟨a1, a2, by omega⟩
      exact ⟨this.1.symm, this.2.symm⟩
  rw [e]
  constructor
  · intro h0
    exact key q (x - y * q) (by omega) h0 (by omega)
  · intro h0
    by_cases hp : 0 < y
    · rw [if_pos hp]
      have e2 : (q - 1) * y = y * q - y := by rw [Int.sub_mul, Int.one_mul, e]
      have e3 : y * (q - 1) = y * q - y := by rw [Int.mul_comm, e2]
      exact key (q - 1) (x - (q - 1) * y) (by omega) (by omega) (by omega)
    · rw [if_neg hp]
      have e2 : (q + 1) * y = y * q + y := by rw [Int.add_mul, Int.one_mul, e]
      have e3 : y * (q + 1) = y * q + y := by rw [Int.mul_comm, e2]
      exact key (q + 1) (x - (q + 1) * y) (by omega) (by omega) (by omega)
theorem E9_le {a b : Nat} (h : a ≤ b) : (digs E9 a).length ≤ (digs E9 b).length := L_mono h
theorem tdiv_signs (x y : Int) : (if (!(decide (x < 0) == decide (y < 0))) = true then -((x.natAbs / y.natAbs : Nat) : Int) else ((x.natAbs / y.natAbs : Nat) : Int)) = Int.tdiv x y := by
  cases x with
  | ofNat m => cases y with
    | ofNat n =>
      have h1 : ¬ Int.ofNat m < 0 := by simp
      have h2 : ¬ Int.ofNat n < 0 := by simp
      simp only [h1, h2, decide_false, beq_self_eq_true, Bool.not_true, Bool.false_eq_true, if_false]; rfl
    | negSucc n =>
      have h1 : ¬ Int.ofNat m < 0 := by simp
      have h2 : Int.negSucc n < 0 := Int.negSucc_lt_zero n
      simp only [h1, h2, decide_false, decide_true, Bool.false_beq, Bool.not_true, Bool.not_false, if_true]; rfl
  | negSucc m => cases y with
    | ofNat n =>
      have h1 : Int.negSucc m < 0 := Int.negSucc_lt_zero m
      have h2 : ¬ Int.ofNat n < 0 := by simp
      simp only [h1, h2, decide_false, decide_true, Bool.true_beq, Bool.not_false, if_true]; rfl
    | negSucc n =>
      have h1 : Int.negSucc m < 0 := Int.negSucc_lt_zero m
      have h2 : Int.negSucc n < 0 := Int.negSucc_lt_zero n
      simp only [h1, h2, decide_true, beq_self_eq_true, Bool.not_true, Bool.false_eq_true, if_false]; rfl
set_option maxHeartbeats 1000000 in
theorem rquo_v (x y : Int) (hy : y ≠ 0) (hx : (digs E9 x.natAbs).length ≤ 1000000) (hyl : (digs E9 y.natAbs).length ≤ 1000000) : SoundAt Tryz.prog 16 [rI x, rI y] (.tup [rI (x / y), rI (x % y)]) := by
  have ho := rover_v x.natAbs y.natAbs (by omega) (by omega) (by omega)
  have hm := rmade_v (!(decide (x < 0) == decide (y < 0))) (x.natAbs / y.natAbs)
  rw [tdiv_signs] at hm
  have hql : (digs E9 (Int.tdiv x y).natAbs).length ≤ 1000000 := by
    rw [Int.natAbs_tdiv]; exact Nat.le_trans (E9_le (Nat.div_le_self _ _)) hx
  have h1l : (digs E9 1).length ≤ 1000000 := Nat.le_trans (L_small (by decide)) (by decide)
  obtain ⟨f1, f2⟩ := quo_fix x y hy
  have hnum := rnum_v 1 (by decide) (by decide)
  generalize hq : Int.tdiv x y = q at *
  have hmq : (digs E9 (q * y).natAbs).length ≤ 2000000 := by rw [Int.natAbs_mul]; have := E9_mul q.natAbs y.natAbs; omega
  have m1 := rmul_v q y (by omega)
  have s1 := rsub_v x (q * y) (Nat.le_trans (E9_add _ _ 2000000 (by omega) hmq) (by decide))
  have g1 := rsign_v (x - q * y)
  have g2 := rsign_v y
  by_cases h0 : x - q * y < 0
  · have c1 : ((x - q * y).sign < 0) = True := by simp only [eq_iff_iff, iff_true]; rw [Int.sign_eq_neg_one_of_neg h0]; decide
    obtain ⟨e1, e2⟩ := f2 h0
    by_cases hp : 0 < y
    · have c2 : (0 < y.sign) = True := by simp only [eq_iff_iff, iff_true]; rw [Int.sign_eq_one_of_pos hp]; decide
      rw [if_pos hp] at e1 e2
      have s2 := rsub_v q 1 (Nat.le_trans (E9_add _ _ 1000000 hql h1l) (by decide))
      have hq2 : (digs E9 (q - 1).natAbs).length ≤ 1000001 := Nat.le_trans (E9_le (show (q - 1).natAbs ≤ q.natAbs + 1 by omega)) (E9_add _ _ 1000000 hql h1l)
      have m2 := rmul_v (q - 1) y (by omega)
      have hmq2 : (digs E9 ((q - 1) * y).natAbs).length ≤ 2000001 := by rw [Int.natAbs_mul]; have := E9_mul (q - 1).natAbs y.natAbs; omega
      have s3 := rsub_v x ((q - 1) * y) (Nat.le_trans (E9_add _ _ 2000001 (by omega) hmq2) (by decide))
      rw [e1] at s2 m2 s3
      rw [e1] at e2
      rw [e2] at s3
      generalize x - q * y = r at *
      generalize q * y = p at *
      generalize x / y * y = p2 at *
      generalize x / y = Q at *
      generalize x % y = R at *
      generalize x.natAbs / y.natAbs = n1 at *
      generalize x.natAbs % y.natAbs = n2 at *
      refine sound_go (tb := []) 50 [.cell 4 31, .cell 5 31] [0, 1, 2, 3, 4, 5, 6, 7, 8, 9, 32, 35] mixed Tryz.func16 rfl (by kernel_rfl) (by kernel_rfl) (by kernel_rfl) (by kernel_rfl) ?_
      repeat (first | (simp -implicitDefEqProofs only [go_sem, Nat.reduceAdd, Nat.reduceMul, Nat.reduceEqDiff, Nat.reduceLT, Nat.reduceLeDiff, Nat.reduceSub, Nat.reduceBEq, reduceIte, reduceCtorEq, Int.reduceEq, Int.reduceNe, Nat.reduceBneDiff, Int.reduceLE, Int.reduceLT, Int.reduceToNat, Int.reduceAdd, Int.reduceSub, Int.reduceMul, Int.reduceNeg, T_ok3, T_agg3, T_isinfo3, T_info3, T_cells3, T_zero3, T_int3, T_ok4, T_agg4, T_isinfo4, T_info4, T_cells4, T_zero4, T_bool4, T_ok29, T_agg29, T_isinfo29, T_info29, T_cells29, T_zero29, T_elem29, T_under29, T_len29s, T_len29n, T_len29b, T_ok31, T_agg31, T_isinfo31, T_info31, T_cells31, T_zero31, T_build31, T_f31_0, T_p31_0, T_f31_1, T_p31_1, rI, di, c1, c2]) | ((with_reducible refine gcall_eq (ho) ?_ ?_ ?_); (with_reducible rfl); rfl) | ((with_reducible refine gcall_eq (hm) ?_ ?_ ?_); (with_reducible rfl); rfl) | ((with_reducible refine gcall_eq (m1) ?_ ?_ ?_); (with_reducible rfl); rfl) | ((with_reducible refine gcall_eq (s1) ?_ ?_ ?_); (with_reducible rfl); rfl) | ((with_reducible refine gcall_eq (g1) ?_ ?_ ?_); (with_reducible rfl); rfl) | ((with_reducible refine gcall_eq (g2) ?_ ?_ ?_); (with_reducible rfl); rfl) | ((with_reducible refine gcall_eq (hnum) ?_ ?_ ?_); (with_reducible rfl); rfl) | ((with_reducible refine gcall_eq (s2) ?_ ?_ ?_); (with_reducible rfl); rfl) | ((with_reducible refine gcall_eq (m2) ?_ ?_ ?_); (with_reducible rfl); rfl) | ((with_reducible refine gcall_eq (s3) ?_ ?_ ?_); (with_reducible rfl); rfl) | (with_reducible exact drawQ_true _ _ (by kernel_rfl)) | (with_reducible refine And.intro (drawQ_true _ _ (by kernel_rfl)) ?_))
    · have c2 : (0 < y.sign) = False := by simp only [eq_iff_iff, iff_false]; rw [Int.sign_eq_neg_one_of_neg (by omega)]; decide
      rw [if_neg hp] at e1 e2
      have s2 := radd_v q 1 (Nat.le_trans (E9_add _ _ 1000000 hql h1l) (by decide))
      have hq2 : (digs E9 (q + 1).natAbs).length ≤ 1000001 := Nat.le_trans (E9_le (show (q + 1).natAbs ≤ q.natAbs + 1 by omega)) (E9_add _ _ 1000000 hql h1l)
      have m2 := rmul_v (q + 1) y (by omega)
      have hmq2 : (digs E9 ((q + 1) * y).natAbs).length ≤ 2000001 := by rw [Int.natAbs_mul]; have := E9_mul (q + 1).natAbs y.natAbs; omega
      have s3 := rsub_v x ((q + 1) * y) (Nat.le_trans (E9_add _ _ 2000001 (by omega) hmq2) (by decide))
      rw [e1] at s2 m2 s3
      rw [e1] at e2
      rw [e2] at s3
      generalize x - q * y = r at *
      generalize q * y = p at *
      generalize x / y * y = p2 at *
      generalize x / y = Q at *
      generalize x % y = R at *
      generalize x.natAbs / y.natAbs = n1 at *
      generalize x.natAbs % y.natAbs = n2 at *
      refine sound_go (tb := []) 50 [.cell 4 31, .cell 5 31] [0, 1, 2, 3, 4, 5, 6, 7, 8, 9, 32, 35] mixed Tryz.func16 rfl (by kernel_rfl) (by kernel_rfl) (by kernel_rfl) (by kernel_rfl) ?_
      repeat (first | (simp -implicitDefEqProofs only [go_sem, Nat.reduceAdd, Nat.reduceMul, Nat.reduceEqDiff, Nat.reduceLT, Nat.reduceLeDiff, Nat.reduceSub, Nat.reduceBEq, reduceIte, reduceCtorEq, Int.reduceEq, Int.reduceNe, Nat.reduceBneDiff, Int.reduceLE, Int.reduceLT, Int.reduceToNat, Int.reduceAdd, Int.reduceSub, Int.reduceMul, Int.reduceNeg, T_ok3, T_agg3, T_isinfo3, T_info3, T_cells3, T_zero3, T_int3, T_ok4, T_agg4, T_isinfo4, T_info4, T_cells4, T_zero4, T_bool4, T_ok29, T_agg29, T_isinfo29, T_info29, T_cells29, T_zero29, T_elem29, T_under29, T_len29s, T_len29n, T_len29b, T_ok31, T_agg31, T_isinfo31, T_info31, T_cells31, T_zero31, T_build31, T_f31_0, T_p31_0, T_f31_1, T_p31_1, rI, di, c1, c2]) | ((with_reducible refine gcall_eq (ho) ?_ ?_ ?_); (with_reducible rfl); rfl) | ((with_reducible refine gcall_eq (hm) ?_ ?_ ?_); (with_reducible rfl); rfl) | ((with_reducible refine gcall_eq (m1) ?_ ?_ ?_); (with_reducible rfl); rfl) | ((with_reducible refine gcall_eq (s1) ?_ ?_ ?_); (with_reducible rfl); rfl) | ((with_reducible refine gcall_eq (g1) ?_ ?_ ?_); (with_reducible rfl); rfl) | ((with_reducible refine gcall_eq (g2) ?_ ?_ ?_); (with_reducible rfl); rfl) | ((with_reducible refine gcall_eq (hnum) ?_ ?_ ?_); (with_reducible rfl); rfl) | ((with_reducible refine gcall_eq (s2) ?_ ?_ ?_); (with_reducible rfl); rfl) | ((with_reducible refine gcall_eq (m2) ?_ ?_ ?_); (with_reducible rfl); rfl) | ((with_reducible refine gcall_eq (s3) ?_ ?_ ?_); (with_reducible rfl); rfl) | (with_reducible exact drawQ_true _ _ (by kernel_rfl)) | (with_reducible refine And.intro (drawQ_true _ _ (by kernel_rfl)) ?_))
  · have c1 : ((x - q * y).sign < 0) = False := by simp only [eq_iff_iff, iff_false]; have := Int.sign_nonneg_iff.2 (show 0 ≤ x - q * y by omega); omega
    obtain ⟨e1, e2⟩ := f1 (by omega)
    rw [e2] at s1 g1 c1
    rw [e1] at hm m1 s1
    generalize q * y = p at *
    generalize x / y * y = p2 at *
    generalize x / y = Q at *
    generalize x % y = R at *
    generalize x.natAbs / y.natAbs = n1 at *
    generalize x.natAbs % y.natAbs = n2 at *
    refine sound_go (tb := []) 50 [.cell 4 31, .cell 5 31] [0, 1, 2, 3, 4, 5, 6, 7, 8, 9, 32, 35] mixed Tryz.func16 rfl (by kernel_rfl) (by kernel_rfl) (by kernel_rfl) (by kernel_rfl) ?_
    repeat (first | (simp -implicitDefEqProofs only [go_sem, Nat.reduceAdd, Nat.reduceMul, Nat.reduceEqDiff, Nat.reduceLT, Nat.reduceLeDiff, Nat.reduceSub, Nat.reduceBEq, reduceIte, reduceCtorEq, Int.reduceEq, Int.reduceNe, Nat.reduceBneDiff, Int.reduceLE, Int.reduceLT, Int.reduceToNat, Int.reduceAdd, Int.reduceSub, Int.reduceMul, Int.reduceNeg, T_ok3, T_agg3, T_isinfo3, T_info3, T_cells3, T_zero3, T_int3, T_ok4, T_agg4, T_isinfo4, T_info4, T_cells4, T_zero4, T_bool4, T_ok29, T_agg29, T_isinfo29, T_info29, T_cells29, T_zero29, T_elem29, T_under29, T_len29s, T_len29n, T_len29b, T_ok31, T_agg31, T_isinfo31, T_info31, T_cells31, T_zero31, T_build31, T_f31_0, T_p31_0, T_f31_1, T_p31_1, rI, di, c1]) | ((with_reducible refine gcall_eq (ho) ?_ ?_ ?_); (with_reducible rfl); rfl) | ((with_reducible refine gcall_eq (hm) ?_ ?_ ?_); (with_reducible rfl); rfl) | ((with_reducible refine gcall_eq (m1) ?_ ?_ ?_); (with_reducible rfl); rfl) | ((with_reducible refine gcall_eq (s1) ?_ ?_ ?_); (with_reducible rfl); rfl) | ((with_reducible refine gcall_eq (g1) ?_ ?_ ?_); (with_reducible rfl); rfl) | (with_reducible exact drawQ_true _ _ (by kernel_rfl)) | (with_reducible refine And.intro (drawQ_true _ _ (by kernel_rfl)) ?_))
theorem rgcd_v (x y : Int) (hx : (digs E9 x.natAbs).length ≤ 1000000) (hyl : (digs E9 y.natAbs).length ≤ 1000000) : SoundAt Tryz.prog 34 [rI x, rI y] (rI ((Nat.gcd x.natAbs y.natAbs : Nat) : Int)) := by
  have hm := rmade_v false (Nat.gcd x.natAbs y.natAbs)
  simp only [Bool.false_eq_true, if_false] at hm
  refine sound_go (tb := []) 26 [.cell 4 31] [0, 1, 2, 3, 4, 5, 6, 8, 15] mixed Tryz.func34 rfl (by kernel_rfl) (by kernel_rfl) (by kernel_rfl) (by kernel_rfl) ?_
  repeat (first | (simp -implicitDefEqProofs only [go_sem, Nat.reduceAdd, Nat.reduceMul, Nat.reduceEqDiff, Nat.reduceLT, Nat.reduceLeDiff, Nat.reduceSub, Nat.reduceBEq, reduceIte, reduceCtorEq, Int.reduceEq, Int.reduceNe, Nat.reduceBneDiff, Int.reduceLE, Int.reduceLT, Int.reduceToNat, Int.reduceAdd, Int.reduceSub, Int.reduceMul, Int.reduceNeg, T_ok3, T_agg3, T_isinfo3, T_info3, T_cells3, T_zero3, T_int3, T_ok4, T_agg4, T_isinfo4, T_info4, T_cells4, T_zero4, T_bool4, T_ok29, T_agg29, T_isinfo29, T_info29, T_cells29, T_zero29, T_elem29, T_under29, T_len29s, T_len29n, T_len29b, T_ok31, T_agg31, T_isinfo31, T_info31, T_cells31, T_zero31, T_build31, T_f31_0, T_p31_0, T_f31_1, T_p31_1, rI, di]) | ((with_reducible refine gcall_eq (hm) ?_ ?_ ?_); (with_reducible rfl); rfl) | (with_reducible exact drawQ_true _ _ (by kernel_rfl)) | (with_reducible refine And.intro (drawQ_true _ _ (by kernel_rfl)) ?_))
  refine g_loop mixed (fun p : { p : Nat × Nat // Nat.gcd p.1 p.2 = Nat.gcd x.natAbs y.natAbs ∧ (digs E9 p.1).length ≤ 1000000 ∧ (digs E9 p.2).length ≤ 1000000 } => St.of [(4, .bp 2 2 0 0), (5, di (digs E9 p.1.1)), (6, di (digs E9 p.1.2))]
    [(2, { els := [.agg [.bool false, .nilS]], esz := 2, ety := 31, fro := 0, live := true, arr := false })]) (fun p => p.1.2) ⟨(x.natAbs, y.natAbs), rfl, hx, hyl⟩ ?_ ?_
  · refine le_of (θ := [(2, 2)]) rfl ?_ ?_
    · simp [varsLe, lkp, ren1, ren0, di]
    · refine ⟨⟨rfl, rfl, rfl, rfl, rfl, .inr ⟨rfl, _, _, rfl, rfl, rfl, rfl⟩⟩, trivial⟩
  · rintro ⟨⟨u, v⟩, h1, h2, h3⟩
    simp only at h1 h2 h3 ⊢
    by_cases hv : v = 0
    · subst hv
      have g1 : ((0 : Int) < ((0 : Nat) : Int)) = False := by simp
      rw [Nat.gcd_zero_right] at h1
      subst h1
      repeat (first | (simp -implicitDefEqProofs only [go_sem, Nat.reduceAdd, Nat.reduceMul, Nat.reduceEqDiff, Nat.reduceLT, Nat.reduceLeDiff, Nat.reduceSub, Nat.reduceBEq, reduceIte, reduceCtorEq, Int.reduceEq, Int.reduceNe, Nat.reduceBneDiff, Int.reduceLE, Int.reduceLT, Int.reduceToNat, Int.reduceAdd, Int.reduceSub, Int.reduceMul, Int.reduceNeg, T_ok3, T_agg3, T_isinfo3, T_info3, T_cells3, T_zero3, T_int3, T_ok4, T_agg4, T_isinfo4, T_info4, T_cells4, T_zero4, T_bool4, T_ok29, T_agg29, T_isinfo29, T_info29, T_cells29, T_zero29, T_elem29, T_under29, T_len29s, T_len29n, T_len29b, T_ok31, T_agg31, T_isinfo31, T_info31, T_cells31, T_zero31, T_build31, T_f31_0, T_p31_0, T_f31_1, T_p31_1, rI, di, digs_zero, List.map_nil, List.length_nil, g1]) | ((with_reducible refine gcall_eq (hm) ?_ ?_ ?_); (with_reducible rfl); rfl) | (with_reducible exact drawQ_true _ _ (by kernel_rfl)) | (with_reducible refine And.intro (drawQ_true _ _ (by kernel_rfl)) ?_))
    · have hp : 0 < (digs E9 v).length := L_pos hv
      have g1 : ((0 : Int) < ((digs E9 v).length : Int)) = True := by simp only [eq_iff_iff, iff_true]; omega
      have hd := rover_v u v (Nat.pos_of_ne_zero hv) (by omega) (by omega)
      have hr := Nat.mod_lt u (Nat.pos_of_ne_zero hv)
      repeat (first | (simp -implicitDefEqProofs only [go_sem, Nat.reduceAdd, Nat.reduceMul, Nat.reduceEqDiff, Nat.reduceLT, Nat.reduceLeDiff, Nat.reduceSub, Nat.reduceBEq, reduceIte, reduceCtorEq, Int.reduceEq, Int.reduceNe, Nat.reduceBneDiff, Int.reduceLE, Int.reduceLT, Int.reduceToNat, Int.reduceAdd, Int.reduceSub, Int.reduceMul, Int.reduceNeg, T_ok3, T_agg3, T_isinfo3, T_info3, T_cells3, T_zero3, T_int3, T_ok4, T_agg4, T_isinfo4, T_info4, T_cells4, T_zero4, T_bool4, T_ok29, T_agg29, T_isinfo29, T_info29, T_cells29, T_zero29, T_elem29, T_under29, T_len29s, T_len29n, T_len29b, T_ok31, T_agg31, T_isinfo31, T_info31, T_cells31, T_zero31, T_build31, T_f31_0, T_p31_0, T_f31_1, T_p31_1, di, List.length_map, g1]) | ((with_reducible refine gcall_eq (hd) ?_ ?_ ?_); (with_reducible rfl); rfl) | (with_reducible exact drawQ_true _ _ (by kernel_rfl)) | (with_reducible refine And.intro (drawQ_true _ _ (by kernel_rfl)) ?_))
      refine ⟨⟨(v, u % v), by rw [← h1, Nat.gcd_comm u v, Nat.gcd_rec v u, Nat.gcd_comm], h3, Nat.le_trans (L_mono (Nat.le_of_lt hr)) h3⟩, by simp only; exact hr, le_of (θ := [(2, 2)]) rfl ?_ ?_⟩
      · simp [varsLe, lkp, ren1, ren0, di]
      · refine ⟨⟨rfl, rfl, rfl, rfl, rfl, .inr ⟨rfl, _, _, rfl, rfl, rfl, rfl⟩⟩, trivial⟩
theorem pow2_len (k : Nat) (hk : k ≤ 100000) : (digs E9 ((2 : Int) ^ k).natAbs).length ≤ 100001 := by
  rw [Int.natAbs_pow]
  exact pow2_digs (by decide) k 100000 hk
theorem rpower_v (n : Nat) (hn : n ≤ 100000) : SoundAt Tryz.prog 17 [.int .i64 (n : Int)] (rI (2 ^ n)) := by
  have n1 := rnum_v 1 (by decide) (by decide)
  refine sound_go (tb := []) 20 [.cell 2 31] [0, 2, 3, 6, 13] mixed Tryz.func17 rfl (by kernel_rfl) (by kernel_rfl) (by kernel_rfl) (by kernel_rfl) ?_
  repeat (first | (simp -implicitDefEqProofs only [go_sem, Nat.reduceAdd, Nat.reduceMul, Nat.reduceEqDiff, Nat.reduceLT, Nat.reduceLeDiff, Nat.reduceSub, Nat.reduceBEq, reduceIte, reduceCtorEq, Int.reduceEq, Int.reduceNe, Nat.reduceBneDiff, Int.reduceLE, Int.reduceLT, Int.reduceToNat, Int.reduceAdd, Int.reduceSub, Int.reduceMul, Int.reduceNeg, T_ok3, T_agg3, T_isinfo3, T_info3, T_cells3, T_zero3, T_int3, T_ok4, T_agg4, T_isinfo4, T_info4, T_cells4, T_zero4, T_bool4, T_ok29, T_agg29, T_isinfo29, T_info29, T_cells29, T_zero29, T_elem29, T_under29, T_len29s, T_len29n, T_len29b, T_ok31, T_agg31, T_isinfo31, T_info31, T_cells31, T_zero31, T_build31, T_f31_0, T_p31_0, T_f31_1, T_p31_1, rI, di]) | ((with_reducible refine gcall_eq (n1) ?_ ?_ ?_); (with_reducible rfl); rfl) | (with_reducible exact drawQ_true _ _ (by kernel_rfl)) | (with_reducible refine And.intro (drawQ_true _ _ (by kernel_rfl)) ?_))
  refine g_loop mixed (fun j : { j : Nat // j ≤ n } => St.of [(0, .int .i64 (j.1 : Int)), (2, .bp 0 2 0 0), (3, .bp 101 2 0 0)]
    [(0, { els := [.agg [.bool false, .nilS]], esz := 2, ety := 31, fro := 0, live := true, arr := false }), (101, { els := [rI (2 ^ (n - j.1))], esz := 2, ety := 31, fro := 0, live := true, arr := false })]) (fun j => j.1) ⟨n, Nat.le_refl _⟩ ?_ ?_
  · refine le_of (θ := [(0, 0), (101, 101)]) rfl ?_ ?_
    · simp [varsLe, lkp, ren1, ren0]
    · refine ⟨⟨rfl, rfl, rfl, rfl, rfl, .inr ⟨rfl, _, _, rfl, rfl, rfl, rfl⟩⟩, ⟨rfl, rfl, rfl, rfl, rfl, .inr ⟨rfl, _, _, rfl, rfl, ?_, rfl⟩⟩, trivial⟩
      simp only [Nat.sub_self, Int.pow_zero]; rfl
  · rintro ⟨j, hj⟩
    simp only
    by_cases h20 : 20 ≤ j
    · have g1 : ((20 : Int) ≤ (j : Int)) = True := by simp only [eq_iff_iff, iff_true]; omega
      have w1 : IntKind.i64.wrap ((j : Int) - 20) = ((j - 20 : Nat) : Int) := by rw [wrap_i64 (by omega) (by omega)]; omega
      have nb := rnum_v 1048576 (by decide) (by decide)
      have hl := pow2_len (n - j) (by omega)
      have m1 := rmul_v (2 ^ (n - j)) 1048576 (by have := (L_small (n := (1048576 : Int).natAbs) (by decide)); omega)
      have e : (2 : Int) ^ (n - j) * 1048576 = 2 ^ (n - (j - 20)) := by
        rw [show n - (j - 20) = (n - j) + 20 by omega, Int.pow_add]; rfl
      rw [e] at m1
      generalize (2 : Int) ^ (n - j) = A at *
      repeat (first | (simp -implicitDefEqProofs only [go_sem, Nat.reduceAdd, Nat.reduceMul, Nat.reduceEqDiff, Nat.reduceLT, Nat.reduceLeDiff, Nat.reduceSub, Nat.reduceBEq, reduceIte, reduceCtorEq, Int.reduceEq, Int.reduceNe, Nat.reduceBneDiff, Int.reduceLE, Int.reduceLT, Int.reduceToNat, Int.reduceAdd, Int.reduceSub, Int.reduceMul, Int.reduceNeg, T_ok3, T_agg3, T_isinfo3, T_info3, T_cells3, T_zero3, T_int3, T_ok4, T_agg4, T_isinfo4, T_info4, T_cells4, T_zero4, T_bool4, T_ok29, T_agg29, T_isinfo29, T_info29, T_cells29, T_zero29, T_elem29, T_under29, T_len29s, T_len29n, T_len29b, T_ok31, T_agg31, T_isinfo31, T_info31, T_cells31, T_zero31, T_build31, T_f31_0, T_p31_0, T_f31_1, T_p31_1, rI, di, g1, w1]) | ((with_reducible refine gcall_eq (nb) ?_ ?_ ?_); (with_reducible rfl); rfl) | ((with_reducible refine gcall_eq (m1) ?_ ?_ ?_); (with_reducible rfl); rfl) | (with_reducible exact drawQ_true _ _ (by kernel_rfl)) | (with_reducible refine And.intro (drawQ_true _ _ (by kernel_rfl)) ?_))
      refine ⟨⟨j - 20, by omega⟩, by simp only; omega, le_of (θ := [(0, 0), (101, 101)]) rfl ?_ ?_⟩
      · simp [varsLe, lkp, ren1, ren0]
      · refine ⟨⟨rfl, rfl, rfl, rfl, rfl, .inr ⟨rfl, _, _, rfl, rfl, rfl, rfl⟩⟩, ⟨rfl, rfl, rfl, rfl, rfl, .inr ⟨rfl, _, _, rfl, rfl, rfl, rfl⟩⟩, trivial⟩
    · have g1 : ((20 : Int) ≤ (j : Int)) = False := by simp only [eq_iff_iff, iff_false]; omega
      repeat (first | (simp -implicitDefEqProofs only [go_sem, Nat.reduceAdd, Nat.reduceMul, Nat.reduceEqDiff, Nat.reduceLT, Nat.reduceLeDiff, Nat.reduceSub, Nat.reduceBEq, reduceIte, reduceCtorEq, Int.reduceEq, Int.reduceNe, Nat.reduceBneDiff, Int.reduceLE, Int.reduceLT, Int.reduceToNat, Int.reduceAdd, Int.reduceSub, Int.reduceMul, Int.reduceNeg, T_ok3, T_agg3, T_isinfo3, T_info3, T_cells3, T_zero3, T_int3, T_ok4, T_agg4, T_isinfo4, T_info4, T_cells4, T_zero4, T_bool4, T_ok29, T_agg29, T_isinfo29, T_info29, T_cells29, T_zero29, T_elem29, T_under29, T_len29s, T_len29n, T_len29b, T_ok31, T_agg31, T_isinfo31, T_info31, T_cells31, T_zero31, T_build31, T_f31_0, T_p31_0, T_f31_1, T_p31_1, rI, di, g1]) | ((with_reducible refine gcall_eq (n1) ?_ ?_ ?_); (with_reducible rfl); rfl) | (with_reducible exact drawQ_true _ _ (by kernel_rfl)) | (with_reducible refine And.intro (drawQ_true _ _ (by kernel_rfl)) ?_))
      refine g_loop mixed (fun i : { i : Nat // i ≤ j } => St.of [(0, .int .i64 (i.1 : Int)), (2, .bp 0 2 0 0), (3, .bp 101 2 0 0)]
        [(0, { els := [.agg [.bool false, .nilS]], esz := 2, ety := 31, fro := 0, live := true, arr := false }), (101, { els := [rI (2 ^ (n - i.1))], esz := 2, ety := 31, fro := 0, live := true, arr := false })]) (fun i => i.1) ⟨j, Nat.le_refl _⟩ ?_ ?_
      · refine le_of (θ := [(0, 0), (101, 101)]) rfl ?_ ?_
        · simp [varsLe, lkp, ren1, ren0]
        · refine ⟨⟨rfl, rfl, rfl, rfl, rfl, .inr ⟨rfl, _, _, rfl, rfl, rfl, rfl⟩⟩, ⟨rfl, rfl, rfl, rfl, rfl, .inr ⟨rfl, _, _, rfl, rfl, rfl, rfl⟩⟩, trivial⟩
      · rintro ⟨i, hi⟩
        simp only
        by_cases h0 : 0 < i
        · have g2 : ((0 : Int) < (i : Int)) = True := by simp only [eq_iff_iff, iff_true]; omega
          have w1 : IntKind.i64.wrap ((i : Int) - 1) = ((i - 1 : Nat) : Int) := by rw [wrap_i64 (by omega) (by omega)]; omega
          have hl := pow2_len (n - i) (by omega)
          have m1 := radd_v (2 ^ (n - i)) (2 ^ (n - i)) (Nat.le_trans (E9_add _ _ 100001 hl hl) (by decide))
          have e : (2 : Int) ^ (n - i) + 2 ^ (n - i) = 2 ^ (n - (i - 1)) := by
            rw [show n - (i - 1) = (n - i) + 1 by omega, Int.pow_succ]; omega
          rw [e] at m1
          generalize (2 : Int) ^ (n - i) = A at *
          repeat (first | (simp -implicitDefEqProofs only [go_sem, Nat.reduceAdd, Nat.reduceMul, Nat.reduceEqDiff, Nat.reduceLT, Nat.reduceLeDiff, Nat.reduceSub, Nat.reduceBEq, reduceIte, reduceCtorEq, Int.reduceEq, Int.reduceNe, Nat.reduceBneDiff, Int.reduceLE, Int.reduceLT, Int.reduceToNat, Int.reduceAdd, Int.reduceSub, Int.reduceMul, Int.reduceNeg, T_ok3, T_agg3, T_isinfo3, T_info3, T_cells3, T_zero3, T_int3, T_ok4, T_agg4, T_isinfo4, T_info4, T_cells4, T_zero4, T_bool4, T_ok29, T_agg29, T_isinfo29, T_info29, T_cells29, T_zero29, T_elem29, T_under29, T_len29s, T_len29n, T_len29b, T_ok31, T_agg31, T_isinfo31, T_info31, T_cells31, T_zero31, T_build31, T_f31_0, T_p31_0, T_f31_1, T_p31_1, rI, di, g2, w1]) | ((with_reducible refine gcall_eq (m1) ?_ ?_ ?_); (with_reducible rfl); rfl) | (with_reducible exact drawQ_true _ _ (by kernel_rfl)) | (with_reducible refine And.intro (drawQ_true _ _ (by kernel_rfl)) ?_))
          refine ⟨⟨i - 1, by omega⟩, by simp only; omega, le_of (θ := [(0, 0), (101, 101)]) rfl ?_ ?_⟩
          · simp [varsLe, lkp, ren1, ren0]
          · refine ⟨⟨rfl, rfl, rfl, rfl, rfl, .inr ⟨rfl, _, _, rfl, rfl, rfl, rfl⟩⟩, ⟨rfl, rfl, rfl, rfl, rfl, .inr ⟨rfl, _, _, rfl, rfl, rfl, rfl⟩⟩, trivial⟩
        · have g2 : ((0 : Int) < (i : Int)) = False := by simp only [eq_iff_iff, iff_false]; omega
          obtain rfl : i = 0 := by omega
          repeat (first | (simp -implicitDefEqProofs only [go_sem, Nat.reduceAdd, Nat.reduceMul, Nat.reduceEqDiff, Nat.reduceLT, Nat.reduceLeDiff, Nat.reduceSub, Nat.reduceBEq, reduceIte, reduceCtorEq, Int.reduceEq, Int.reduceNe, Nat.reduceBneDiff, Int.reduceLE, Int.reduceLT, Int.reduceToNat, Int.reduceAdd, Int.reduceSub, Int.reduceMul, Int.reduceNeg, T_ok3, T_agg3, T_isinfo3, T_info3, T_cells3, T_zero3, T_int3, T_ok4, T_agg4, T_isinfo4, T_info4, T_cells4, T_zero4, T_bool4, T_ok29, T_agg29, T_isinfo29, T_info29, T_cells29, T_zero29, T_elem29, T_under29, T_len29s, T_len29n, T_len29b, T_ok31, T_agg31, T_isinfo31, T_info31, T_cells31, T_zero31, T_build31, T_f31_0, T_p31_0, T_f31_1, T_p31_1, rI, di, g2]) | ((with_reducible refine gcall_eq (n1) ?_ ?_ ?_); (with_reducible rfl); rfl) | (with_reducible exact drawQ_true _ _ (by kernel_rfl)) | (with_reducible refine And.intro (drawQ_true _ _ (by kernel_rfl)) ?_))
          rw [Nat.sub_zero]
end Go.Proofs.YtkgkebhlpjenaaaGreatDoor

namespace Go.Proofs.YtkgkebhlpjenaaaGreatDoor
open Go.Vl Go.RowKit Go.Dg

def rQ (x y : Int) : PV := .agg [.bool (decide (x < 0)), di (digs E9 x.natAbs), .bool (decide (y < 0)), di (digs E9 y.natAbs)]
theorem mul_lt {x y : Int} {k l : Nat} (hx : x.natAbs < 256 ^ k) (hy : y.natAbs < 256 ^ l) : (x * y).natAbs < 256 ^ (k + l) := by
  rw [Int.natAbs_mul, Nat.pow_add]; exact Nat.mul_lt_mul'' hx hy
theorem div_lt {x : Int} {k : Nat} (hx : x.natAbs < 256 ^ k) (y : Int) : (x / y).natAbs < 256 ^ (k + 1) := by
  have h1 : (x / y).natAbs ≤ x.natAbs + 1 := by
    have := Int.natAbs_ediv_le_natAbs x y
    omega
  rw [Nat.pow_succ]; have := Nat.pow_pos (n := k) (show 0 < 256 by decide); generalize 256 ^ k = K at *; omega
theorem mod_lt {y : Int} {k : Nat} (x : Int) (h0 : y ≠ 0) (hy : y.natAbs < 256 ^ k) : (x % y).natAbs < 256 ^ k := by
  have h1 := Int.emod_nonneg x h0
  have h2 := Int.emod_lt x h0
  omega
theorem gcd_lt {x y : Nat} {k : Nat} (hx : x < 256 ^ k) (hy : y < 256 ^ k) : ((Nat.gcd x y : Nat) : Int).natAbs < 256 ^ k := by
  rw [Int.natAbs_natCast]
  rcases Nat.eq_zero_or_pos x with h0 | h0
  · rw [h0, Nat.gcd_zero_left]; exact hy
  · exact Nat.lt_of_le_of_lt (Nat.gcd_le_left _ h0) hx
theorem wnum_ne {n : Bool} {s : ByteArray} (h : validB n s.data.toList = true) (h0 : s.data.toList ≠ []) : wnum n s ≠ 0 := by
  intro e
  have h1 := wPV_wnum n s h
  rw [e, wPV_zero] at h1
  simp only [PV.agg.injEq, List.cons.injEq, PV.str.injEq, PV.bool.injEq, and_true] at h1
  exact h0 (by rw [← h1.2])
theorem wnum_nil {n : Bool} {s : ByteArray} (h0 : s.data.toList = []) : wnum n s = 0 := by
  unfold wnum sv; rw [h0]; cases n <;> rfl
theorem pow_mono {m k l : Nat} (h : m < 256 ^ k) (hkl : k ≤ l) : m < 256 ^ l := Nat.lt_of_lt_of_le h (Nat.pow_le_pow_right (by decide) hkl)
theorem gN_ne {x y : Int} (h : y ≠ 0) : gN x y ≠ 0 := by
  have := Nat.gcd_pos_of_pos_right x.natAbs (show 0 < y.natAbs by omega)
  unfold gN; split <;> omega
theorem gN_lt {x y : Int} {k : Nat} (hx : x.natAbs < 256 ^ k) (hy : y.natAbs < 256 ^ k) : (gN x y).natAbs < 256 ^ k := by
  have := gcd_lt hx hy
  unfold gN; split
  · rw [Int.natAbs_neg]; exact this
  · exact this
theorem rlowest_v (x y : Int) (h : y ≠ 0) (k : Nat) (hk : k ≤ 100000) (hx : x.natAbs < 256 ^ k) (hy : y.natAbs < 256 ^ k) : SoundAt Tryz.prog 29 [rI x, rI y] (rQ (lowN x y) (lowD x y)) := by
  have hg := rgcd_v x y (Nat.le_trans (small_ok _ k hx).1 (by omega)) (Nat.le_trans (small_ok _ k hy).1 (by omega))
  have rs := rsign_v y
  have hq1 := rquo_v x (gN x y) (gN_ne h) (Nat.le_trans (small_ok _ k hx).1 (by omega)) (Nat.le_trans (small_ok _ k (gN_lt hx hy)).1 (by omega))
  have hq2 := rquo_v y (gN x y) (gN_ne h) (Nat.le_trans (small_ok _ k hy).1 (by omega)) (Nat.le_trans (small_ok _ k (gN_lt hx hy)).1 (by omega))
  have hn := rneg_v ((Nat.gcd x.natAbs y.natAbs : Nat) : Int)
  unfold lowN lowD
  by_cases hs : y < 0
  · have e : gN x y = -((Nat.gcd x.natAbs y.natAbs : Nat) : Int) := by unfold gN; rw [if_pos hs]
    have g1 : (y.sign < 0) = True := by simp only [eq_iff_iff, iff_true]; rw [Int.sign_eq_neg_one_of_neg hs]; decide
    rw [← e] at hn
    generalize gN x y = G at *
    generalize x / G = A at *
    generalize y / G = B at *
    generalize x % G = C at *
    generalize y % G = D at *
    generalize ((Nat.gcd x.natAbs y.natAbs : Nat) : Int) = H at *
    refine sound_go (tb := []) 33 [.cell 4 50] [0, 1, 2, 3, 4, 5, 6, 8, 15] mixed Tryz.func29 rfl (by kernel_rfl) (by kernel_rfl) (by kernel_rfl) (by kernel_rfl) ?_
    repeat (first | (simp -implicitDefEqProofs only [go_sem, Nat.reduceAdd, Nat.reduceMul, Nat.reduceEqDiff, Nat.reduceLT, Nat.reduceLeDiff, Nat.reduceSub, Nat.reduceBEq, reduceIte, reduceCtorEq, Int.reduceEq, Int.reduceNe, Nat.reduceBneDiff, Int.reduceLE, Int.reduceLT, Int.reduceToNat, Int.reduceAdd, Int.reduceSub, Int.reduceMul, Int.reduceNeg, T_ok3, T_agg3, T_isinfo3, T_info3, T_cells3, T_zero3, T_int3, T_ok4, T_agg4, T_isinfo4, T_info4, T_cells4, T_zero4, T_bool4, T_ok29, T_agg29, T_isinfo29, T_info29, T_cells29, T_zero29, T_elem29, T_under29, T_len29s, T_len29n, T_len29b, T_ok31, T_agg31, T_isinfo31, T_info31, T_cells31, T_zero31, T_build31, T_f31_0, T_p31_0, T_f31_1, T_p31_1, T_ok50, T_agg50, T_isinfo50, T_info50, T_cells50, T_zero50, T_build50, T_f50_0, T_p50_0, T_f50_1, T_p50_1, g1, rI, di, rQ]) | ((with_reducible refine gcall_eq (hg) ?_ ?_ ?_); (with_reducible rfl); rfl) | ((with_reducible refine gcall_eq (rs) ?_ ?_ ?_); (with_reducible rfl); rfl) | ((with_reducible refine gcall_eq (hn) ?_ ?_ ?_); (with_reducible rfl); rfl) | ((with_reducible refine gcall_eq (hq1) ?_ ?_ ?_); (with_reducible rfl); rfl) | ((with_reducible refine gcall_eq (hq2) ?_ ?_ ?_); (with_reducible rfl); rfl) | (with_reducible exact drawQ_true _ _ (by kernel_rfl)) | (with_reducible refine And.intro (drawQ_true _ _ (by kernel_rfl)) ?_))
  · have e : gN x y = ((Nat.gcd x.natAbs y.natAbs : Nat) : Int) := by unfold gN; rw [if_neg hs]
    have g1 : (y.sign < 0) = False := by simp only [eq_iff_iff, iff_false]; have := Int.sign_nonneg_iff.2 (show 0 ≤ y by omega); omega
    rw [← e] at hg
    generalize gN x y = G at *
    generalize x / G = A at *
    generalize y / G = B at *
    generalize x % G = C at *
    generalize y % G = D at *
    refine sound_go (tb := []) 33 [.cell 4 50] [0, 1, 2, 3, 4, 5, 6, 8, 15] mixed Tryz.func29 rfl (by kernel_rfl) (by kernel_rfl) (by kernel_rfl) (by kernel_rfl) ?_
    repeat (first | (simp -implicitDefEqProofs only [go_sem, Nat.reduceAdd, Nat.reduceMul, Nat.reduceEqDiff, Nat.reduceLT, Nat.reduceLeDiff, Nat.reduceSub, Nat.reduceBEq, reduceIte, reduceCtorEq, Int.reduceEq, Int.reduceNe, Nat.reduceBneDiff, Int.reduceLE, Int.reduceLT, Int.reduceToNat, Int.reduceAdd, Int.reduceSub, Int.reduceMul, Int.reduceNeg, T_ok3, T_agg3, T_isinfo3, T_info3, T_cells3, T_zero3, T_int3, T_ok4, T_agg4, T_isinfo4, T_info4, T_cells4, T_zero4, T_bool4, T_ok29, T_agg29, T_isinfo29, T_info29, T_cells29, T_zero29, T_elem29, T_under29, T_len29s, T_len29n, T_len29b, T_ok31, T_agg31, T_isinfo31, T_info31, T_cells31, T_zero31, T_build31, T_f31_0, T_p31_0, T_f31_1, T_p31_1, T_ok50, T_agg50, T_isinfo50, T_info50, T_cells50, T_zero50, T_build50, T_f50_0, T_p50_0, T_f50_1, T_p50_1, g1, rI, di, rQ]) | ((with_reducible refine gcall_eq (hg) ?_ ?_ ?_); (with_reducible rfl); rfl) | ((with_reducible refine gcall_eq (rs) ?_ ?_ ?_); (with_reducible rfl); rfl) | ((with_reducible refine gcall_eq (hq1) ?_ ?_ ?_); (with_reducible rfl); rfl) | ((with_reducible refine gcall_eq (hq2) ?_ ?_ ?_); (with_reducible rfl); rfl) | (with_reducible exact drawQ_true _ _ (by kernel_rfl)) | (with_reducible refine And.intro (drawQ_true _ _ (by kernel_rfl)) ?_))
theorem routRatio_v (x y : Int) (k : Nat) (hk : k ≤ 100000) (hx : x.natAbs < 256 ^ k) (hy : y.natAbs < 256 ^ k) : SoundAt Tryz.prog 78 [rQ x y] (outQ x y) := by
  have b1 := rbig_v x (Nat.le_trans (small_ok _ k hx).1 (by omega)) (Nat.le_trans (small_ok _ k hx).2 (by omega))
  have b2 := rbig_v y (Nat.le_trans (small_ok _ k hy).1 (by omega)) (Nat.le_trans (small_ok _ k hy).2 (by omega))
  have t1 := rto_v x (Nat.le_trans (small_ok _ k hx).1 (by omega)) (Nat.le_trans (small_ok _ k hx).2 (by omega))
  have t2 := rto_v y (Nat.le_trans (small_ok _ k hy).1 (by omega)) (Nat.le_trans (small_ok _ k hy).2 (by omega))
  by_cases h1 : 65536 < blen x.natAbs
  · rw [outQ_t (by simp [big, h1])]
    have e1 : decide (65536 < blen x.natAbs) = true := by simp [h1]
    rw [e1] at b1
    refine sound_go (tb := []) 20 [.cell 2 42, .tmp 3] [0, 1, 2, 3, 11] mixed Tryz.func78 rfl (by kernel_rfl) (by kernel_rfl) (by kernel_rfl) (by kernel_rfl) ?_
    repeat (first | (simp -implicitDefEqProofs only [go_sem, Nat.reduceAdd, Nat.reduceMul, Nat.reduceEqDiff, Nat.reduceLT, Nat.reduceLeDiff, Nat.reduceSub, Nat.reduceBEq, reduceIte, reduceCtorEq, Int.reduceEq, Int.reduceNe, Nat.reduceBneDiff, Int.reduceLE, Int.reduceLT, Int.reduceToNat, Int.reduceAdd, Int.reduceSub, Int.reduceMul, Int.reduceNeg, T_ok3, T_agg3, T_isinfo3, T_info3, T_cells3, T_zero3, T_int3, T_ok4, T_agg4, T_isinfo4, T_info4, T_cells4, T_zero4, T_bool4, T_ok9, T_agg9, T_isinfo9, T_info9, T_cells9, T_zero9, T_str9, T_len9t, T_ok23, T_agg23, T_isinfo23, T_info23, T_cells23, T_zero23, T_build23, T_f23_0, T_p23_0, T_f23_1, T_p23_1, T_eqs23, T_ok29, T_agg29, T_isinfo29, T_info29, T_cells29, T_zero29, T_elem29, T_under29, T_len29s, T_len29n, T_len29b, T_ok31, T_agg31, T_isinfo31, T_info31, T_cells31, T_zero31, T_build31, T_f31_0, T_p31_0, T_f31_1, T_p31_1, T_ok42, T_agg42, T_isinfo42, T_info42, T_cells42, T_zero42, T_build42, T_f42_0, T_p42_0, T_f42_1, T_p42_1, T_eqs42, T_ok50, T_agg50, T_isinfo50, T_info50, T_cells50, T_zero50, T_build50, T_f50_0, T_p50_0, T_f50_1, T_p50_1, rQ, rI, di, noRat]) | ((with_reducible refine gcall_eq (b1) ?_ ?_ ?_); (with_reducible rfl); rfl) | ((with_reducible refine gcall_eq (b2) ?_ ?_ ?_); (with_reducible rfl); rfl) | (with_reducible exact drawQ_true _ _ (by kernel_rfl)) | (with_reducible refine And.intro (drawQ_true _ _ (by kernel_rfl)) ?_))
  · have e1 : decide (65536 < blen x.natAbs) = false := by simp only [h1, decide_false]
    rw [e1] at b1
    by_cases h2 : 65536 < blen y.natAbs
    · rw [outQ_t (by simp [big, h2])]
      have e2 : decide (65536 < blen y.natAbs) = true := by simp [h2]
      rw [e2] at b2
      refine sound_go (tb := []) 20 [.cell 2 42, .tmp 3] [0, 1, 2, 3, 11] mixed Tryz.func78 rfl (by kernel_rfl) (by kernel_rfl) (by kernel_rfl) (by kernel_rfl) ?_
      repeat (first | (simp -implicitDefEqProofs only [go_sem, Nat.reduceAdd, Nat.reduceMul, Nat.reduceEqDiff, Nat.reduceLT, Nat.reduceLeDiff, Nat.reduceSub, Nat.reduceBEq, reduceIte, reduceCtorEq, Int.reduceEq, Int.reduceNe, Nat.reduceBneDiff, Int.reduceLE, Int.reduceLT, Int.reduceToNat, Int.reduceAdd, Int.reduceSub, Int.reduceMul, Int.reduceNeg, T_ok3, T_agg3, T_isinfo3, T_info3, T_cells3, T_zero3, T_int3, T_ok4, T_agg4, T_isinfo4, T_info4, T_cells4, T_zero4, T_bool4, T_ok9, T_agg9, T_isinfo9, T_info9, T_cells9, T_zero9, T_str9, T_len9t, T_ok23, T_agg23, T_isinfo23, T_info23, T_cells23, T_zero23, T_build23, T_f23_0, T_p23_0, T_f23_1, T_p23_1, T_eqs23, T_ok29, T_agg29, T_isinfo29, T_info29, T_cells29, T_zero29, T_elem29, T_under29, T_len29s, T_len29n, T_len29b, T_ok31, T_agg31, T_isinfo31, T_info31, T_cells31, T_zero31, T_build31, T_f31_0, T_p31_0, T_f31_1, T_p31_1, T_ok42, T_agg42, T_isinfo42, T_info42, T_cells42, T_zero42, T_build42, T_f42_0, T_p42_0, T_f42_1, T_p42_1, T_eqs42, T_ok50, T_agg50, T_isinfo50, T_info50, T_cells50, T_zero50, T_build50, T_f50_0, T_p50_0, T_f50_1, T_p50_1, rQ, rI, di, noRat]) | ((with_reducible refine gcall_eq (b1) ?_ ?_ ?_); (with_reducible rfl); rfl) | ((with_reducible refine gcall_eq (b2) ?_ ?_ ?_); (with_reducible rfl); rfl) | (with_reducible exact drawQ_true _ _ (by kernel_rfl)) | (with_reducible refine And.intro (drawQ_true _ _ (by kernel_rfl)) ?_))
    · rw [outQ_f (by simp only [big, h1, h2, decide_false, Bool.or_self])]
      have e2 : decide (65536 < blen y.natAbs) = false := by simp only [h2, decide_false]
      rw [e2] at b2
      refine sound_go (tb := []) 20 [.cell 2 42, .tmp 3] [0, 1, 2, 3, 11] mixed Tryz.func78 rfl (by kernel_rfl) (by kernel_rfl) (by kernel_rfl) (by kernel_rfl) ?_
      repeat (first | (simp -implicitDefEqProofs only [go_sem, Nat.reduceAdd, Nat.reduceMul, Nat.reduceEqDiff, Nat.reduceLT, Nat.reduceLeDiff, Nat.reduceSub, Nat.reduceBEq, reduceIte, reduceCtorEq, Int.reduceEq, Int.reduceNe, Nat.reduceBneDiff, Int.reduceLE, Int.reduceLT, Int.reduceToNat, Int.reduceAdd, Int.reduceSub, Int.reduceMul, Int.reduceNeg, T_ok3, T_agg3, T_isinfo3, T_info3, T_cells3, T_zero3, T_int3, T_ok4, T_agg4, T_isinfo4, T_info4, T_cells4, T_zero4, T_bool4, T_ok9, T_agg9, T_isinfo9, T_info9, T_cells9, T_zero9, T_str9, T_len9t, T_ok23, T_agg23, T_isinfo23, T_info23, T_cells23, T_zero23, T_build23, T_f23_0, T_p23_0, T_f23_1, T_p23_1, T_eqs23, T_ok29, T_agg29, T_isinfo29, T_info29, T_cells29, T_zero29, T_elem29, T_under29, T_len29s, T_len29n, T_len29b, T_ok31, T_agg31, T_isinfo31, T_info31, T_cells31, T_zero31, T_build31, T_f31_0, T_p31_0, T_f31_1, T_p31_1, T_ok42, T_agg42, T_isinfo42, T_info42, T_cells42, T_zero42, T_build42, T_f42_0, T_p42_0, T_f42_1, T_p42_1, T_eqs42, T_ok50, T_agg50, T_isinfo50, T_info50, T_cells50, T_zero50, T_build50, T_f50_0, T_p50_0, T_f50_1, T_p50_1, rQ, rI, di, wPV, ratPV]) | ((with_reducible refine gcall_eq (b1) ?_ ?_ ?_); (with_reducible rfl); rfl) | ((with_reducible refine gcall_eq (b2) ?_ ?_ ?_); (with_reducible rfl); rfl) | ((with_reducible refine gcall_eq (t1) ?_ ?_ ?_); (with_reducible rfl); rfl) | ((with_reducible refine gcall_eq (t2) ?_ ?_ ?_); (with_reducible rfl); rfl) | (with_reducible exact drawQ_true _ _ (by kernel_rfl)) | (with_reducible refine And.intro (drawQ_true _ _ (by kernel_rfl)) ?_))
theorem rvalidRatio_v (n : Bool) (s : ByteArray) (m : Bool) (t : ByteArray) : SoundAt Tryz.prog 27 [.agg [.bool n, .str s, .bool m, .str t]] (.bool (vRat n s m t)) := by
  have h1 := rvalid_v n s
  have h2 := rvalid_v m t
  unfold vRat
  cases v1 : validB n s.data.toList with
  | false =>
    rw [v1] at h1
    rw [Bool.false_and]
    refine sound_go (tb := []) 24 [.tmp 2] [0, 1, 2] mixed Tryz.func27 rfl (by kernel_rfl) (by kernel_rfl) (by kernel_rfl) (by kernel_rfl) ?_
    repeat (first | (simp -implicitDefEqProofs only [go_sem, Nat.reduceAdd, Nat.reduceMul, Nat.reduceEqDiff, Nat.reduceLT, Nat.reduceLeDiff, Nat.reduceSub, Nat.reduceBEq, reduceIte, reduceCtorEq, Int.reduceEq, Int.reduceNe, Nat.reduceBneDiff, Int.reduceLE, Int.reduceLT, Int.reduceToNat, Int.reduceAdd, Int.reduceSub, Int.reduceMul, Int.reduceNeg, T_ok3, T_agg3, T_isinfo3, T_info3, T_cells3, T_zero3, T_int3, T_ok4, T_agg4, T_isinfo4, T_info4, T_cells4, T_zero4, T_bool4, T_ok9, T_agg9, T_isinfo9, T_info9, T_cells9, T_zero9, T_str9, T_len9t, T_ok23, T_agg23, T_isinfo23, T_info23, T_cells23, T_zero23, T_build23, T_f23_0, T_p23_0, T_f23_1, T_p23_1, T_eqs23, T_ok42, T_agg42, T_isinfo42, T_info42, T_cells42, T_zero42, T_build42, T_f42_0, T_p42_0, T_f42_1, T_p42_1, T_eqs42]) | ((with_reducible refine gcall_eq (h1) ?_ ?_ ?_); (with_reducible rfl); rfl) | ((with_reducible refine gcall_eq (h2) ?_ ?_ ?_); (with_reducible rfl); rfl) | (with_reducible exact drawQ_true _ _ (by kernel_rfl)) | (with_reducible refine And.intro (drawQ_true _ _ (by kernel_rfl)) ?_))
  | true =>
    rw [v1] at h1
    rw [Bool.true_and]
    cases v2 : validB m t.data.toList with
    | false =>
      rw [v2] at h2
      rw [Bool.false_and]
      refine sound_go (tb := []) 24 [.tmp 2] [0, 1, 2] mixed Tryz.func27 rfl (by kernel_rfl) (by kernel_rfl) (by kernel_rfl) (by kernel_rfl) ?_
      repeat (first | (simp -implicitDefEqProofs only [go_sem, Nat.reduceAdd, Nat.reduceMul, Nat.reduceEqDiff, Nat.reduceLT, Nat.reduceLeDiff, Nat.reduceSub, Nat.reduceBEq, reduceIte, reduceCtorEq, Int.reduceEq, Int.reduceNe, Nat.reduceBneDiff, Int.reduceLE, Int.reduceLT, Int.reduceToNat, Int.reduceAdd, Int.reduceSub, Int.reduceMul, Int.reduceNeg, T_ok3, T_agg3, T_isinfo3, T_info3, T_cells3, T_zero3, T_int3, T_ok4, T_agg4, T_isinfo4, T_info4, T_cells4, T_zero4, T_bool4, T_ok9, T_agg9, T_isinfo9, T_info9, T_cells9, T_zero9, T_str9, T_len9t, T_ok23, T_agg23, T_isinfo23, T_info23, T_cells23, T_zero23, T_build23, T_f23_0, T_p23_0, T_f23_1, T_p23_1, T_eqs23, T_ok42, T_agg42, T_isinfo42, T_info42, T_cells42, T_zero42, T_build42, T_f42_0, T_p42_0, T_f42_1, T_p42_1, T_eqs42]) | ((with_reducible refine gcall_eq (h1) ?_ ?_ ?_); (with_reducible rfl); rfl) | ((with_reducible refine gcall_eq (h2) ?_ ?_ ?_); (with_reducible rfl); rfl) | (with_reducible exact drawQ_true _ _ (by kernel_rfl)) | (with_reducible refine And.intro (drawQ_true _ _ (by kernel_rfl)) ?_))
    | true =>
      rw [v2] at h2
      rw [Bool.true_and]
      have hz := ba_size t
      cases m with
      | true =>
        rw [Bool.not_true, Bool.false_and]
        refine sound_go (tb := []) 24 [.tmp 2] [0, 1, 2] mixed Tryz.func27 rfl (by kernel_rfl) (by kernel_rfl) (by kernel_rfl) (by kernel_rfl) ?_
        repeat (first | (simp -implicitDefEqProofs only [go_sem, Nat.reduceAdd, Nat.reduceMul, Nat.reduceEqDiff, Nat.reduceLT, Nat.reduceLeDiff, Nat.reduceSub, Nat.reduceBEq, reduceIte, reduceCtorEq, Int.reduceEq, Int.reduceNe, Nat.reduceBneDiff, Int.reduceLE, Int.reduceLT, Int.reduceToNat, Int.reduceAdd, Int.reduceSub, Int.reduceMul, Int.reduceNeg, T_ok3, T_agg3, T_isinfo3, T_info3, T_cells3, T_zero3, T_int3, T_ok4, T_agg4, T_isinfo4, T_info4, T_cells4, T_zero4, T_bool4, T_ok9, T_agg9, T_isinfo9, T_info9, T_cells9, T_zero9, T_str9, T_len9t, T_ok23, T_agg23, T_isinfo23, T_info23, T_cells23, T_zero23, T_build23, T_f23_0, T_p23_0, T_f23_1, T_p23_1, T_eqs23, T_ok42, T_agg42, T_isinfo42, T_info42, T_cells42, T_zero42, T_build42, T_f42_0, T_p42_0, T_f42_1, T_p42_1, T_eqs42]) | ((with_reducible refine gcall_eq (h1) ?_ ?_ ?_); (with_reducible rfl); rfl) | ((with_reducible refine gcall_eq (h2) ?_ ?_ ?_); (with_reducible rfl); rfl) | (with_reducible exact drawQ_true _ _ (by kernel_rfl)) | (with_reducible refine And.intro (drawQ_true _ _ (by kernel_rfl)) ?_))
      | false =>
        rw [Bool.not_false, Bool.true_and]
        by_cases h0 : t.data.toList = []
        · have g1 : ((0 : Int) < (t.size : Int)) = False := by rw [hz, h0]; simp
          have e : (!(t.data.toList == [])) = false := by rw [h0]; rfl
          rw [e]
          refine sound_go (tb := []) 24 [.tmp 2] [0, 1, 2] mixed Tryz.func27 rfl (by kernel_rfl) (by kernel_rfl) (by kernel_rfl) (by kernel_rfl) ?_
          repeat (first | (simp -implicitDefEqProofs only [go_sem, Nat.reduceAdd, Nat.reduceMul, Nat.reduceEqDiff, Nat.reduceLT, Nat.reduceLeDiff, Nat.reduceSub, Nat.reduceBEq, reduceIte, reduceCtorEq, Int.reduceEq, Int.reduceNe, Nat.reduceBneDiff, Int.reduceLE, Int.reduceLT, Int.reduceToNat, Int.reduceAdd, Int.reduceSub, Int.reduceMul, Int.reduceNeg, T_ok3, T_agg3, T_isinfo3, T_info3, T_cells3, T_zero3, T_int3, T_ok4, T_agg4, T_isinfo4, T_info4, T_cells4, T_zero4, T_bool4, T_ok9, T_agg9, T_isinfo9, T_info9, T_cells9, T_zero9, T_str9, T_len9t, T_ok23, T_agg23, T_isinfo23, T_info23, T_cells23, T_zero23, T_build23, T_f23_0, T_p23_0, T_f23_1, T_p23_1, T_eqs23, T_ok42, T_agg42, T_isinfo42, T_info42, T_cells42, T_zero42, T_build42, T_f42_0, T_p42_0, T_f42_1, T_p42_1, T_eqs42, g1]) | ((with_reducible refine gcall_eq (h1) ?_ ?_ ?_); (with_reducible rfl); rfl) | ((with_reducible refine gcall_eq (h2) ?_ ?_ ?_); (with_reducible rfl); rfl) | (with_reducible exact drawQ_true _ _ (by kernel_rfl)) | (with_reducible refine And.intro (drawQ_true _ _ (by kernel_rfl)) ?_))
        · have g1 : ((0 : Int) < (t.size : Int)) = True := by rw [hz]; have := List.length_pos_iff.2 h0; simp only [eq_iff_iff, iff_true]; omega
          rw [empty_eq h0]
          refine sound_go (tb := []) 24 [.tmp 2] [0, 1, 2] mixed Tryz.func27 rfl (by kernel_rfl) (by kernel_rfl) (by kernel_rfl) (by kernel_rfl) ?_
          repeat (first | (simp -implicitDefEqProofs only [go_sem, Nat.reduceAdd, Nat.reduceMul, Nat.reduceEqDiff, Nat.reduceLT, Nat.reduceLeDiff, Nat.reduceSub, Nat.reduceBEq, reduceIte, reduceCtorEq, Int.reduceEq, Int.reduceNe, Nat.reduceBneDiff, Int.reduceLE, Int.reduceLT, Int.reduceToNat, Int.reduceAdd, Int.reduceSub, Int.reduceMul, Int.reduceNeg, T_ok3, T_agg3, T_isinfo3, T_info3, T_cells3, T_zero3, T_int3, T_ok4, T_agg4, T_isinfo4, T_info4, T_cells4, T_zero4, T_bool4, T_ok9, T_agg9, T_isinfo9, T_info9, T_cells9, T_zero9, T_str9, T_len9t, T_ok23, T_agg23, T_isinfo23, T_info23, T_cells23, T_zero23, T_build23, T_f23_0, T_p23_0, T_f23_1, T_p23_1, T_eqs23, T_ok42, T_agg42, T_isinfo42, T_info42, T_cells42, T_zero42, T_build42, T_f42_0, T_p42_0, T_f42_1, T_p42_1, T_eqs42, g1]) | ((with_reducible refine gcall_eq (h1) ?_ ?_ ?_); (with_reducible rfl); rfl) | ((with_reducible refine gcall_eq (h2) ?_ ?_ ?_); (with_reducible rfl); rfl) | (with_reducible exact drawQ_true _ _ (by kernel_rfl)) | (with_reducible refine And.intro (drawQ_true _ _ (by kernel_rfl)) ?_))
theorem rfromRatio_v (n : Bool) (s : ByteArray) (m : Bool) (t : ByteArray) (h1 : s.size ≤ 1000000) (h2 : t.size ≤ 1000000) : SoundAt Tryz.prog 39 [.agg [.bool n, .str s, .bool m, .str t]] (rQ (wnum n s) (wnum m t)) := by
  have hf : SoundAt Tryz.prog 15 [.agg [.bool n, .str s]] (rI (wnum n s)) := rfrom_v n s h1
  have hg : SoundAt Tryz.prog 15 [.agg [.bool m, .str t]] (rI (wnum m t)) := rfrom_v m t h2
  generalize wnum n s = X at *
  generalize wnum m t = Y at *
  refine sound_go (tb := []) 10 [.cell 2 50] [0, 1, 2] mixed Tryz.func39 rfl (by kernel_rfl) (by kernel_rfl) (by kernel_rfl) (by kernel_rfl) ?_
  repeat (first | (simp -implicitDefEqProofs only [go_sem, Nat.reduceAdd, Nat.reduceMul, Nat.reduceEqDiff, Nat.reduceLT, Nat.reduceLeDiff, Nat.reduceSub, Nat.reduceBEq, reduceIte, reduceCtorEq, Int.reduceEq, Int.reduceNe, Nat.reduceBneDiff, Int.reduceLE, Int.reduceLT, Int.reduceToNat, Int.reduceAdd, Int.reduceSub, Int.reduceMul, Int.reduceNeg, T_ok3, T_agg3, T_isinfo3, T_info3, T_cells3, T_zero3, T_int3, T_ok4, T_agg4, T_isinfo4, T_info4, T_cells4, T_zero4, T_bool4, T_ok9, T_agg9, T_isinfo9, T_info9, T_cells9, T_zero9, T_str9, T_len9t, T_ok23, T_agg23, T_isinfo23, T_info23, T_cells23, T_zero23, T_build23, T_f23_0, T_p23_0, T_f23_1, T_p23_1, T_eqs23, T_ok29, T_agg29, T_isinfo29, T_info29, T_cells29, T_zero29, T_elem29, T_under29, T_len29s, T_len29n, T_len29b, T_ok31, T_agg31, T_isinfo31, T_info31, T_cells31, T_zero31, T_build31, T_f31_0, T_p31_0, T_f31_1, T_p31_1, T_ok42, T_agg42, T_isinfo42, T_info42, T_cells42, T_zero42, T_build42, T_f42_0, T_p42_0, T_f42_1, T_p42_1, T_eqs42, T_ok50, T_agg50, T_isinfo50, T_info50, T_cells50, T_zero50, T_build50, T_f50_0, T_p50_0, T_f50_1, T_p50_1, rQ, rI, di]) | ((with_reducible refine gcall_eq (hf) ?_ ?_ ?_); (with_reducible rfl); rfl) | ((with_reducible refine gcall_eq (hg) ?_ ?_ ?_); (with_reducible rfl); rfl) | (with_reducible exact drawQ_true _ _ (by kernel_rfl)) | (with_reducible refine And.intro (drawQ_true _ _ (by kernel_rfl)) ?_))
section
variable (a b c d : Int) (k : Nat) (hk : k ≤ 10000) (ha : a.natAbs < 256 ^ k) (hb : b.natAbs < 256 ^ k) (hc : c.natAbs < 256 ^ k) (hd : d.natAbs < 256 ^ k)
include hk ha hb hc hd
theorem rcompareQ_v : SoundAt Tryz.prog 40 [rQ a b, rQ c d] (.int .i64 (a * d - c * b).sign) := by
  have m1 := rmul_v a d (by have := (small_ok _ k ha).1; have := (small_ok _ k hd).1; omega)
  have m2 := rmul_v c b (by have := (small_ok _ k hc).1; have := (small_ok _ k hb).1; omega)
  have hr := rcompare_v (a * d) (c * b) (e9_sum (k := k + k) (by omega) (mul_lt ha hd) (mul_lt hc hb))
  generalize a * d = X at *
  generalize c * b = Y at *
  refine sound_go (tb := []) 16 [.tmp 4] [0, 1, 2, 3, 4] mixed Tryz.func40 rfl (by kernel_rfl) (by kernel_rfl) (by kernel_rfl) (by kernel_rfl) ?_
  repeat (first | (simp -implicitDefEqProofs only [go_sem, Nat.reduceAdd, Nat.reduceMul, Nat.reduceEqDiff, Nat.reduceLT, Nat.reduceLeDiff, Nat.reduceSub, Nat.reduceBEq, reduceIte, reduceCtorEq, Int.reduceEq, Int.reduceNe, Nat.reduceBneDiff, Int.reduceLE, Int.reduceLT, Int.reduceToNat, Int.reduceAdd, Int.reduceSub, Int.reduceMul, Int.reduceNeg, T_ok3, T_agg3, T_isinfo3, T_info3, T_cells3, T_zero3, T_int3, T_ok4, T_agg4, T_isinfo4, T_info4, T_cells4, T_zero4, T_bool4, T_ok29, T_agg29, T_isinfo29, T_info29, T_cells29, T_zero29, T_elem29, T_under29, T_len29s, T_len29n, T_len29b, T_ok31, T_agg31, T_isinfo31, T_info31, T_cells31, T_zero31, T_build31, T_f31_0, T_p31_0, T_f31_1, T_p31_1, T_ok50, T_agg50, T_isinfo50, T_info50, T_cells50, T_zero50, T_build50, T_f50_0, T_p50_0, T_f50_1, T_p50_1, rQ, rI, di]) | ((with_reducible refine gcall_eq (m1) ?_ ?_ ?_); (with_reducible rfl); rfl) | ((with_reducible refine gcall_eq (m2) ?_ ?_ ?_); (with_reducible rfl); rfl) | ((with_reducible refine gcall_eq (hr) ?_ ?_ ?_); (with_reducible rfl); rfl) | (with_reducible exact drawQ_true _ _ (by kernel_rfl)) | (with_reducible refine And.intro (drawQ_true _ _ (by kernel_rfl)) ?_))
theorem raddQ_v (h1 : b ≠ 0) (h2 : d ≠ 0) : SoundAt Tryz.prog 41 [rQ a b, rQ c d] (rQ (addQN a b c d) (addQD a b c d)) := by
  have m1 := rmul_v a d (by have := (small_ok _ k ha).1; have := (small_ok _ k hd).1; omega)
  have m2 := rmul_v c b (by have := (small_ok _ k hc).1; have := (small_ok _ k hb).1; omega)
  have m3 := rmul_v b d (by have := (small_ok _ k hb).1; have := (small_ok _ k hd).1; omega)
  have hr := radd_v (a * d) (c * b) (e9_sum (k := k + k) (by omega) (mul_lt ha hd) (mul_lt hc hb))
  have hl := rlowest_v (a * d + c * b) (b * d) (Int.mul_ne_zero h1 h2) (k + k + 1) (by omega) (sum_lt (mul_lt ha hd) (mul_lt hc hb)) (pow_mono (mul_lt hb hd) (by omega))
  unfold addQN addQD
  generalize a * d = X at *
  generalize c * b = Y at *
  generalize b * d = Z at *
  generalize lowN (X + Y) Z = N at *
  generalize lowD (X + Y) Z = D at *
  generalize X + Y = W at *
  refine sound_go (tb := []) 22 [.cell 4 50] [0, 1, 2, 3, 4] mixed Tryz.func41 rfl (by kernel_rfl) (by kernel_rfl) (by kernel_rfl) (by kernel_rfl) ?_
  repeat (first | (simp -implicitDefEqProofs only [go_sem, Nat.reduceAdd, Nat.reduceMul, Nat.reduceEqDiff, Nat.reduceLT, Nat.reduceLeDiff, Nat.reduceSub, Nat.reduceBEq, reduceIte, reduceCtorEq, Int.reduceEq, Int.reduceNe, Nat.reduceBneDiff, Int.reduceLE, Int.reduceLT, Int.reduceToNat, Int.reduceAdd, Int.reduceSub, Int.reduceMul, Int.reduceNeg, T_ok3, T_agg3, T_isinfo3, T_info3, T_cells3, T_zero3, T_int3, T_ok4, T_agg4, T_isinfo4, T_info4, T_cells4, T_zero4, T_bool4, T_ok29, T_agg29, T_isinfo29, T_info29, T_cells29, T_zero29, T_elem29, T_under29, T_len29s, T_len29n, T_len29b, T_ok31, T_agg31, T_isinfo31, T_info31, T_cells31, T_zero31, T_build31, T_f31_0, T_p31_0, T_f31_1, T_p31_1, T_ok50, T_agg50, T_isinfo50, T_info50, T_cells50, T_zero50, T_build50, T_f50_0, T_p50_0, T_f50_1, T_p50_1, rQ, rI, di]) | ((with_reducible refine gcall_eq (m1) ?_ ?_ ?_); (with_reducible rfl); rfl) | ((with_reducible refine gcall_eq (m2) ?_ ?_ ?_); (with_reducible rfl); rfl) | ((with_reducible refine gcall_eq (m3) ?_ ?_ ?_); (with_reducible rfl); rfl) | ((with_reducible refine gcall_eq (hr) ?_ ?_ ?_); (with_reducible rfl); rfl) | ((with_reducible refine gcall_eq (hl) ?_ ?_ ?_); (with_reducible rfl); rfl) | (with_reducible exact drawQ_true _ _ (by kernel_rfl)) | (with_reducible refine And.intro (drawQ_true _ _ (by kernel_rfl)) ?_))
theorem rsubQ_v (h1 : b ≠ 0) (h2 : d ≠ 0) : SoundAt Tryz.prog 42 [rQ a b, rQ c d] (rQ (subQN a b c d) (subQD a b c d)) := by
  have m1 := rmul_v a d (by have := (small_ok _ k ha).1; have := (small_ok _ k hd).1; omega)
  have m2 := rmul_v c b (by have := (small_ok _ k hc).1; have := (small_ok _ k hb).1; omega)
  have m3 := rmul_v b d (by have := (small_ok _ k hb).1; have := (small_ok _ k hd).1; omega)
  have hr := rsub_v (a * d) (c * b) (e9_sum (k := k + k) (by omega) (mul_lt ha hd) (mul_lt hc hb))
  have hl := rlowest_v (a * d - c * b) (b * d) (Int.mul_ne_zero h1 h2) (k + k + 1) (by omega) (by rw [Int.sub_eq_add_neg]; exact sum_lt (mul_lt ha hd) (by rw [Int.natAbs_neg]; exact mul_lt hc hb)) (pow_mono (mul_lt hb hd) (by omega))
  unfold subQN subQD
  generalize a * d = X at *
  generalize c * b = Y at *
  generalize b * d = Z at *
  generalize lowN (X - Y) Z = N at *
  generalize lowD (X - Y) Z = D at *
  generalize X - Y = W at *
  refine sound_go (tb := []) 22 [.cell 4 50] [0, 1, 2, 3, 4] mixed Tryz.func42 rfl (by kernel_rfl) (by kernel_rfl) (by kernel_rfl) (by kernel_rfl) ?_
  repeat (first | (simp -implicitDefEqProofs only [go_sem, Nat.reduceAdd, Nat.reduceMul, Nat.reduceEqDiff, Nat.reduceLT, Nat.reduceLeDiff, Nat.reduceSub, Nat.reduceBEq, reduceIte, reduceCtorEq, Int.reduceEq, Int.reduceNe, Nat.reduceBneDiff, Int.reduceLE, Int.reduceLT, Int.reduceToNat, Int.reduceAdd, Int.reduceSub, Int.reduceMul, Int.reduceNeg, T_ok3, T_agg3, T_isinfo3, T_info3, T_cells3, T_zero3, T_int3, T_ok4, T_agg4, T_isinfo4, T_info4, T_cells4, T_zero4, T_bool4, T_ok29, T_agg29, T_isinfo29, T_info29, T_cells29, T_zero29, T_elem29, T_under29, T_len29s, T_len29n, T_len29b, T_ok31, T_agg31, T_isinfo31, T_info31, T_cells31, T_zero31, T_build31, T_f31_0, T_p31_0, T_f31_1, T_p31_1, T_ok50, T_agg50, T_isinfo50, T_info50, T_cells50, T_zero50, T_build50, T_f50_0, T_p50_0, T_f50_1, T_p50_1, rQ, rI, di]) | ((with_reducible refine gcall_eq (m1) ?_ ?_ ?_); (with_reducible rfl); rfl) | ((with_reducible refine gcall_eq (m2) ?_ ?_ ?_); (with_reducible rfl); rfl) | ((with_reducible refine gcall_eq (m3) ?_ ?_ ?_); (with_reducible rfl); rfl) | ((with_reducible refine gcall_eq (hr) ?_ ?_ ?_); (with_reducible rfl); rfl) | ((with_reducible refine gcall_eq (hl) ?_ ?_ ?_); (with_reducible rfl); rfl) | (with_reducible exact drawQ_true _ _ (by kernel_rfl)) | (with_reducible refine And.intro (drawQ_true _ _ (by kernel_rfl)) ?_))
theorem rmulQ_v (h1 : b ≠ 0) (h2 : d ≠ 0) : SoundAt Tryz.prog 43 [rQ a b, rQ c d] (rQ (lowN (a * c) (b * d)) (lowD (a * c) (b * d))) := by
  have m1 := rmul_v a c (by have := (small_ok _ k ha).1; have := (small_ok _ k hc).1; omega)
  have m3 := rmul_v b d (by have := (small_ok _ k hb).1; have := (small_ok _ k hd).1; omega)
  have hl := rlowest_v (a * c) (b * d) (Int.mul_ne_zero h1 h2) (k + k) (by omega) (mul_lt ha hc) (mul_lt hb hd)
  generalize a * c = X at *
  generalize b * d = Z at *
  generalize lowN X Z = N at *
  generalize lowD X Z = D at *
  refine sound_go (tb := []) 16 [.cell 4 50] [0, 1, 2, 3, 4] mixed Tryz.func43 rfl (by kernel_rfl) (by kernel_rfl) (by kernel_rfl) (by kernel_rfl) ?_
  repeat (first | (simp -implicitDefEqProofs only [go_sem, Nat.reduceAdd, Nat.reduceMul, Nat.reduceEqDiff, Nat.reduceLT, Nat.reduceLeDiff, Nat.reduceSub, Nat.reduceBEq, reduceIte, reduceCtorEq, Int.reduceEq, Int.reduceNe, Nat.reduceBneDiff, Int.reduceLE, Int.reduceLT, Int.reduceToNat, Int.reduceAdd, Int.reduceSub, Int.reduceMul, Int.reduceNeg, T_ok3, T_agg3, T_isinfo3, T_info3, T_cells3, T_zero3, T_int3, T_ok4, T_agg4, T_isinfo4, T_info4, T_cells4, T_zero4, T_bool4, T_ok29, T_agg29, T_isinfo29, T_info29, T_cells29, T_zero29, T_elem29, T_under29, T_len29s, T_len29n, T_len29b, T_ok31, T_agg31, T_isinfo31, T_info31, T_cells31, T_zero31, T_build31, T_f31_0, T_p31_0, T_f31_1, T_p31_1, T_ok50, T_agg50, T_isinfo50, T_info50, T_cells50, T_zero50, T_build50, T_f50_0, T_p50_0, T_f50_1, T_p50_1, rQ, rI, di]) | ((with_reducible refine gcall_eq (m1) ?_ ?_ ?_); (with_reducible rfl); rfl) | ((with_reducible refine gcall_eq (m3) ?_ ?_ ?_); (with_reducible rfl); rfl) | ((with_reducible refine gcall_eq (hl) ?_ ?_ ?_); (with_reducible rfl); rfl) | (with_reducible exact drawQ_true _ _ (by kernel_rfl)) | (with_reducible refine And.intro (drawQ_true _ _ (by kernel_rfl)) ?_))
end
end Go.Proofs.YtkgkebhlpjenaaaGreatDoor
