/-
  FW27, FW23, FW28, FW29, Dp, FW30, FW31, FW32 (merged for the claim).
-/
import Derived.Test.YtnpclmmmngmdkaaGreatFW26
import Derived.Test.YtnpclmmmngmdkaaGreatUW
import Derived.Test.YtnpclmmmngmdkaaGreatFW1
set_option linter.unusedSimpArgs false
set_option linter.unusedVariables false
namespace Go.Proofs.YtnpclmmmngmdkaaGreat
open Go.Vl Go.RowKit Go.Dg

theorem wdiv_v (a b : Nat) (hb : 0 < b) (ha : (digs BW a).length ≤ 100000000) (hbl : (digs BW b).length ≤ 100000000) : SoundAt Tryz.prog 115 [dw (digs BW a), dw (digs BW b)] (.tup [dw (digs BW (a / b)), dw (digs BW (a % b))]) := by
  by_cases h : a < b
  · exact wdiv_lt a b h ha hbl
  · by_cases h1 : b < 18446744073709551616
    · exact wdiv_one a b (by omega) hb h1 ha
    · refine wdiv_many a b (by omega) ?_ ha
      refine (digs_len BW_2 b 1).2 ?_
      have := Nat.div_pos (show 18446744073709551616 ≤ b by omega) (by decide)
      rw [Nat.pow_one]
      simp only [BW]
      omega
theorem LW_mono {a b : Nat} (h : a ≤ b) : (digs BW a).length ≤ (digs BW b).length :=
  (digs_len_le BW_2 a _).2 (Nat.lt_of_le_of_lt h (lt_pow_len BW_2 b))
theorem wgcd_v (a b : Nat) (ha : (digs BW a).length ≤ 100000000) (hb : (digs BW b).length ≤ 100000000) : SoundAt Tryz.prog 119 [dw (digs BW a), dw (digs BW b)] (dw (digs BW (Nat.gcd a b))) := by
  refine sound_go (tb := []) 19 [.tmp 4] [0, 1, 4, 6, 9] mixed Tryz.func119 rfl (by kernel_rfl) (by kernel_rfl) (by kernel_rfl) (by kernel_rfl) ?_
  simp -implicitDefEqProofs only [go_sem, Nat.reduceAdd, Nat.reduceMul, Nat.reduceEqDiff, Nat.reduceLT, Nat.reduceLeDiff, Nat.reduceSub, Nat.reduceBEq, reduceIte, reduceCtorEq, Int.reduceEq, Int.reduceNe, Nat.reduceBneDiff, Int.reduceLE, Int.reduceLT, Int.reduceToNat, Int.reduceAdd, Int.reduceSub, Int.reduceMul, Int.reduceNeg, dw]
  refine g_loop mixed (fun p : { p : Nat × Nat // Nat.gcd p.1 p.2 = Nat.gcd a b ∧ (digs BW p.1).length ≤ 100000000 ∧ (digs BW p.2).length ≤ 100000000 } => St.of [(0, dw (digs BW p.1.1)), (1, dw (digs BW p.1.2)), (4, .nilS)] []) (fun p => p.1.2) ⟨(a, b), rfl, ha, hb⟩ ?_ ?_
  · exact le_vars (by simp [varsLe, lkp, ren1, ren0, dw])
  · rintro ⟨⟨x, y⟩, h1, h2, h3⟩
    simp only at h1 h2 h3 ⊢
    by_cases hy : y = 0
    · subst hy
      have g1 : ((0 : Int) < ((0 : Nat) : Int)) = False := by simp
      rw [Nat.gcd_zero_right] at h1
      subst h1
      simp -implicitDefEqProofs only [go_sem, Nat.reduceAdd, Nat.reduceMul, Nat.reduceEqDiff, Nat.reduceLT, Nat.reduceLeDiff, Nat.reduceSub, Nat.reduceBEq, reduceIte, reduceCtorEq, Int.reduceEq, Int.reduceNe, Nat.reduceBneDiff, Int.reduceLE, Int.reduceLT, Int.reduceToNat, Int.reduceAdd, Int.reduceSub, Int.reduceMul, Int.reduceNeg, dw, digs_zero, List.map_nil, List.length_nil, g1]
    · have hp : 0 < (digs BW y).length := List.length_pos_iff.2 (mt (digs_eq_nil BW_2).1 hy)
      have g1 : ((0 : Int) < ((digs BW y).length : Int)) = True := by simp only [eq_iff_iff, iff_true]; omega
      have hd := wdiv_v x y (Nat.pos_of_ne_zero hy) h2 h3
      have hr := Nat.mod_lt x (Nat.pos_of_ne_zero hy)
      simp -implicitDefEqProofs only [go_sem, Nat.reduceAdd, Nat.reduceMul, Nat.reduceEqDiff, Nat.reduceLT, Nat.reduceLeDiff, Nat.reduceSub, Nat.reduceBEq, reduceIte, reduceCtorEq, Int.reduceEq, Int.reduceNe, Nat.reduceBneDiff, Int.reduceLE, Int.reduceLT, Int.reduceToNat, Int.reduceAdd, Int.reduceSub, Int.reduceMul, Int.reduceNeg, dw, List.length_map, g1]
      refine gcall_intro _ _ _ _ _ _ _ _ _ hd ?_
      simp -implicitDefEqProofs only [go_sem, Nat.reduceAdd, Nat.reduceMul, Nat.reduceEqDiff, Nat.reduceLT, Nat.reduceLeDiff, Nat.reduceSub, Nat.reduceBEq, reduceIte, reduceCtorEq, Int.reduceEq, Int.reduceNe, Nat.reduceBneDiff, Int.reduceLE, Int.reduceLT, Int.reduceToNat, Int.reduceAdd, Int.reduceSub, Int.reduceMul, Int.reduceNeg, dw]
      refine ⟨⟨(y, x % y), by rw [← h1, Nat.gcd_comm x y, Nat.gcd_rec y x, Nat.gcd_comm], h3, Nat.le_trans (LW_mono (Nat.le_of_lt hr)) h3⟩, by simp only; exact hr, le_vars ?_⟩
      simp [varsLe, lkp, ren1, ren0, dw]
theorem nmul_v (xn yn : Bool) (a b : Nat) (hab : (digs BW a).length + (digs BW b).length ≤ 1000000000) : SoundAt Tryz.prog 101 [nP xn a, nP yn b] (nP (!(xn == yn)) (a * b)) := by
  have h := wmul_v a b hab
  refine sound_go (tb := []) 16 [.cell 4 121] [0, 1, 2, 3, 4] mixed Tryz.func101 rfl (by kernel_rfl) (by kernel_rfl) (by kernel_rfl) (by kernel_rfl) ?_
  repeat (first | (simp -implicitDefEqProofs only [go_sem, Nat.reduceAdd, Nat.reduceMul, Nat.reduceEqDiff, Nat.reduceLT, Nat.reduceLeDiff, Nat.reduceSub, Nat.reduceBEq, reduceIte, reduceCtorEq, Int.reduceEq, Int.reduceNe, Nat.reduceBneDiff, Int.reduceLE, Int.reduceLT, Int.reduceToNat, Int.reduceAdd, Int.reduceSub, Int.reduceMul, Int.reduceNeg, nP, dw]) | ((with_reducible refine gcall_eq (h) ?_ ?_ ?_); (with_reducible rfl); rfl) | (with_reducible exact drawQ_true _ _ (by kernel_rfl)) | (with_reducible refine And.intro (drawQ_true _ _ (by kernel_rfl)) ?_))
theorem mul_sv (xn yn : Bool) (a b : Nat) : sv (!(xn == yn)) (a * b) = sv xn a * sv yn b := by
  cases xn <;> cases yn <;> simp [sv, Int.natCast_mul, Int.neg_mul, Int.mul_neg]
/-- The Euclidean quotient and remainder, by magnitudes. -/
def nqn (xn : Bool) (a b : Nat) : Nat := if (xn && decide (0 < a % b)) = true then a / b + 1 else a / b
def nrn (xn : Bool) (a b : Nat) : Nat := if (xn && decide (0 < a % b)) = true then b - a % b else a % b
theorem div_pos_sv (xn : Bool) (a b : Nat) (hb : 0 < b) : sv xn (nqn xn a b) = sv xn a / (b : Int) ∧ ((nrn xn a b : Nat) : Int) = sv xn a % (b : Int) := by
  have hb' : (0 : Int) < (b : Int) := by omega
  have h := Nat.div_add_mod a b
  have hr := Nat.mod_lt a hb
  have key := (Int.ediv_emod_unique (a := sv xn a) (r := ((nrn xn a b : Nat) : Int)) (q := sv xn (nqn xn a b)) hb').2
  refine (fun t => ⟨(key t).1.symm, (key t).2.symm⟩) ?_
  have e : ((b * (a / b) : Nat) : Int) + ((a % b : Nat) : Int) = (a : Int) := by rw [← Int.natCast_add, h]
  rw [Int.natCast_mul] at e
  cases xn with
  | false =>
    simp only [sv, nqn, nrn, Bool.false_and, Bool.false_eq_true, if_false]
    refine ⟨by omega, by omega, by omega⟩
  | true =>
    by_cases h0 : 0 < a % b
    · simp only [sv, nqn, nrn, Bool.true_and, decide_eq_true_eq, h0, if_true]
      rw [Int.mul_neg, Int.natCast_add, Int.mul_add]
      generalize (b : Int) * ((a / b : Nat) : Int) = m at *
      refine ⟨by omega, by omega, by omega⟩
    · simp only [sv, nqn, nrn, Bool.true_and, decide_eq_true_eq, h0, if_false, if_true]
      rw [Int.mul_neg]
      generalize (b : Int) * ((a / b : Nat) : Int) = m at *
      refine ⟨by omega, by omega, by omega⟩
theorem div_sv (xn yn : Bool) (a b : Nat) (hb : 0 < b) : sv (!(xn == yn)) (nqn xn a b) = sv xn a / sv yn b ∧ ((nrn xn a b : Nat) : Int) = sv xn a % sv yn b := by
  obtain ⟨h1, h2⟩ := div_pos_sv xn a b hb
  have flip : ∀ (n : Bool) (m : Nat), sv (!n) m = -(sv n m) := by intro n m; cases n <;> simp [sv]
  cases yn with
  | false =>
    refine ⟨?_, by simpa [sv] using h2⟩
    have : (!(xn == false)) = xn := by cases xn <;> rfl
    rw [this, h1]; simp [sv]
  | true =>
    have : (!(xn == true)) = !xn := by cases xn <;> rfl
    rw [this, flip, h1, h2]
    simp [sv, Int.ediv_neg, Int.emod_neg]
theorem ndiv_v (xn yn : Bool) (a b : Nat) (hb : 0 < b) (ha : (digs BW a).length ≤ 100000000) (hbl : (digs BW b).length ≤ 100000000) : SoundAt Tryz.prog 97 [nP xn a, nP yn b] (.tup [nP (!(xn == yn)) (nqn xn a b), nP false (nrn xn a b)]) := by
  have hd := wdiv_v a b hb ha hbl
  have hr := Nat.mod_lt a hb
  cases xn with
  | false =>
    have e1 : nqn false a b = a / b := by simp [nqn]
    have e2 : nrn false a b = a % b := by simp [nrn]
    rw [e1, e2]
    refine sound_go (tb := []) 39 [.cell 4 121, .cell 5 121] [0, 1, 2, 3, 4, 5, 6, 7, 22] mixed Tryz.func97 rfl (by kernel_rfl) (by kernel_rfl) (by kernel_rfl) (by kernel_rfl) ?_
    repeat (first | (simp -implicitDefEqProofs only [go_sem, Nat.reduceAdd, Nat.reduceMul, Nat.reduceEqDiff, Nat.reduceLT, Nat.reduceLeDiff, Nat.reduceSub, Nat.reduceBEq, reduceIte, reduceCtorEq, Int.reduceEq, Int.reduceNe, Nat.reduceBneDiff, Int.reduceLE, Int.reduceLT, Int.reduceToNat, Int.reduceAdd, Int.reduceSub, Int.reduceMul, Int.reduceNeg, nP, dw]) | ((with_reducible refine gcall_eq (hd) ?_ ?_ ?_); (with_reducible rfl); rfl) | (with_reducible exact drawQ_true _ _ (by kernel_rfl)) | (with_reducible refine And.intro (drawQ_true _ _ (by kernel_rfl)) ?_))
  | true =>
    by_cases h0 : a % b = 0
    · have g1 : ((0 : Int) < ((0 : Nat) : Int)) = False := by simp
      have e1 : nqn true a b = a / b := by simp [nqn, h0]
      have e2 : nrn true a b = 0 := by simp [nrn, h0]
      rw [e1, e2]
      rw [h0, digs_zero] at hd
      refine sound_go (tb := []) 39 [.cell 4 121, .cell 5 121] [0, 1, 2, 3, 4, 5, 6, 7, 22] mixed Tryz.func97 rfl (by kernel_rfl) (by kernel_rfl) (by kernel_rfl) (by kernel_rfl) ?_
      repeat (first | (simp -implicitDefEqProofs only [go_sem, Nat.reduceAdd, Nat.reduceMul, Nat.reduceEqDiff, Nat.reduceLT, Nat.reduceLeDiff, Nat.reduceSub, Nat.reduceBEq, reduceIte, reduceCtorEq, Int.reduceEq, Int.reduceNe, Nat.reduceBneDiff, Int.reduceLE, Int.reduceLT, Int.reduceToNat, Int.reduceAdd, Int.reduceSub, Int.reduceMul, Int.reduceNeg, nP, dw, digs_zero, List.map_nil, List.length_nil, g1]) | ((with_reducible refine gcall_eq (hd) ?_ ?_ ?_); (with_reducible rfl); rfl) | (with_reducible exact drawQ_true _ _ (by kernel_rfl)) | (with_reducible refine And.intro (drawQ_true _ _ (by kernel_rfl)) ?_))
    · have hp : 0 < (digs BW (a % b)).length := List.length_pos_iff.2 (mt (digs_eq_nil BW_2).1 h0)
      have g1 : ((0 : Int) < ((digs BW (a % b)).length : Int)) = True := by simp only [eq_iff_iff, iff_true]; omega
      have e1 : nqn true a b = a / b + 1 := by simp only [nqn, Bool.true_and, decide_eq_true_eq]; rw [if_pos (by omega)]
      have e2 : nrn true a b = b - a % b := by simp only [nrn, Bool.true_and, decide_eq_true_eq]; rw [if_pos (by omega)]
      have hd1 : digs BW 1 = [1] := by rw [digs_succ BW_2 (by decide), show 1 % BW = 1 from by decide, show 1 / BW = 0 from by decide, digs_zero]
      have hq := LW_mono (Nat.div_le_self a b)
      have had := wadd_v (a / b) 1 (by omega) (by rw [hd1]; simp)
      rw [hd1] at had
      have hsb := wsub_v b (a % b) (Nat.le_of_lt hr) (by omega)
      rw [e1, e2]
      refine sound_go (tb := []) 39 [.cell 4 121, .cell 5 121] [0, 1, 2, 3, 4, 5, 6, 7, 22] mixed Tryz.func97 rfl (by kernel_rfl) (by kernel_rfl) (by kernel_rfl) (by kernel_rfl) ?_
      repeat (first | (simp -implicitDefEqProofs only [go_sem, Nat.reduceAdd, Nat.reduceMul, Nat.reduceEqDiff, Nat.reduceLT, Nat.reduceLeDiff, Nat.reduceSub, Nat.reduceBEq, reduceIte, reduceCtorEq, Int.reduceEq, Int.reduceNe, Nat.reduceBneDiff, Int.reduceLE, Int.reduceLT, Int.reduceToNat, Int.reduceAdd, Int.reduceSub, Int.reduceMul, Int.reduceNeg, nP, dw, List.length_map, g1, List.map_cons, List.map_nil]) | ((with_reducible refine gcall_eq (hd) ?_ ?_ ?_); (with_reducible rfl); rfl) | ((with_reducible refine gcall_eq (had) ?_ ?_ ?_); (with_reducible rfl); rfl) | ((with_reducible refine gcall_eq (hsb) ?_ ?_ ?_); (with_reducible rfl); rfl) | (with_reducible exact drawQ_true _ _ (by kernel_rfl)) | (with_reducible refine And.intro (drawQ_true _ _ (by kernel_rfl)) ?_))
end Go.Proofs.YtnpclmmmngmdkaaGreat

namespace Go.Proofs.YtnpclmmmngmdkaaGreat
open Go.Vl Go.RowKit Go.Dg

theorem bnum_digs : ∀ l : List Nat, (∀ d ∈ l, d < 256) → bnum (l.reverse.map fun d => UInt8.ofNat d) = val 256 l
  | [], _ => rfl
  | d :: r, h => by
    rw [List.reverse_cons, List.map_append, List.map_cons, List.map_nil, bnum_snoc, bnum_digs r fun x hx => h x (by simp [hx])]
    rw [UInt8.toNat_ofNat_of_lt' (h d (by simp))]
    simp only [val]
    omega
theorem bnum_magL (m : Nat) : bnum (magL m) = m := by
  rw [magL, bnum_digs _ fun d hd => digs_mem_lt (by decide) hd, val_digs (by decide)]
theorem magL_bnum {neg : Bool} {l : List UInt8} (h : validB neg l = true) : magL (bnum l) = l := by
  have hv : bnum l = val 256 (l.reverse.map UInt8.toNat) := by
    have h2 := bnum_digs (l.reverse.map UInt8.toNat) (by intro d hd; obtain ⟨b, _, rfl⟩ := List.mem_map.1 hd; exact b.toNat_lt)
    rw [← h2, ← List.map_reverse, List.reverse_reverse, List.map_map]
    congr 1
    conv => lhs; rw [← List.map_id l]
    apply List.map_congr_left
    intro b _
    simp
  have ht : trimZ (l.reverse.map UInt8.toNat) = l.reverse.map UInt8.toNat := by
    refine trimZ_last ?_
    intro d hd
    cases l with
    | nil => simp at hd
    | cons b r =>
      simp at hd
      subst hd
      simp only [validB, Bool.and_eq_true] at h
      have hb : b ≠ 0 := by simpa using h.2
      intro e
      exact hb (UInt8.toNat_inj.1 (by simpa using e))
  have hd : digs 256 (bnum l) = l.reverse.map UInt8.toNat := by
    rw [hv, ← trimZ_eq (by decide) _ (by intro d hd; obtain ⟨b, _, rfl⟩ := List.mem_map.1 hd; exact b.toNat_lt), ht]
  rw [magL, hd, ← List.map_reverse, List.reverse_reverse, List.map_map]
  conv => rhs; rw [← List.map_id l]
  apply List.map_congr_left
  intro b _
  simp
theorem wnum_neg (neg : Bool) (s : ByteArray) (h : validB neg s.data.toList = true) : decide (wnum neg s < 0) = neg := by
  unfold wnum sv
  cases neg with
  | false => simp
  | true =>
    cases hl : s.data.toList with
    | nil => rw [hl] at h; simp [validB] at h
    | cons b r =>
      rw [hl] at h
      simp only [validB, Bool.and_eq_true] at h
      have hb : b.toNat ≠ 0 := fun e => by
        have : b ≠ 0 := by simpa using h.2
        exact this (UInt8.toNat_inj.1 (by simpa using e))
      have := bnum_cons b r
      have hp : 0 < b.toNat * 256 ^ r.length := Nat.mul_pos (Nat.pos_of_ne_zero hb) (Nat.pow_pos (by decide))
      simp
      omega
/-- A valid wide integer is that of its number. -/
theorem wPV_wnum (neg : Bool) (s : ByteArray) (h : validB neg s.data.toList = true) : wPV (wnum neg s) = .agg [.bool neg, .str s] := by
  have e : (wnum neg s).natAbs = bnum s.data.toList := by unfold wnum sv; cases neg <;> simp
  rw [wPV, wnum_neg neg s h, e, magL_bnum h]
theorem wnum_magL (n : Int) : wnum (decide (n < 0)) ⟨(magL n.natAbs).toArray⟩ = n := by
  unfold wnum sv
  rw [show (⟨(magL n.natAbs).toArray⟩ : ByteArray).data.toList = magL n.natAbs from rfl, bnum_magL]
  by_cases h : n < 0
  · simp [h]; omega
  · simp [h]; omega
theorem validB_magL (n : Int) (h : (digs 256 n.natAbs).length ≤ 8192) : validB (decide (n < 0)) (magL n.natAbs) = true := by
  by_cases h0 : n.natAbs = 0
  · have : n = 0 := by omega
    subst this
    simp [magL, digs_zero, validB]
  · obtain ⟨d, hd, hd2⟩ := magL_top h0
    have ht := top_digit (B := 256) (by decide) h0
    cases hl : magL n.natAbs with
    | nil =>
      have := magL_length n.natAbs
      rw [hl] at this
      exact absurd ((digs_eq_nil (by decide)).1 (List.length_eq_zero_iff.1 this.symm)) h0
    | cons b r =>
      have hlen := magL_length n.natAbs
      rw [hl] at hlen
      have hb : b = d := by
        have h3 : (⟨(magL n.natAbs).toArray⟩ : ByteArray)[0]? = (magL n.natAbs)[0]? := by
          rw [ba_get _ 0 (by show 0 < (magL n.natAbs).length; rw [hl]; simp)]
          exact (List.getElem?_eq_getElem _).symm
        rw [hd, hl] at h3
        simpa using h3.symm
      simp only [validB, Bool.and_eq_true, decide_eq_true_eq]
      refine ⟨by omega, ?_⟩
      simp only [bne_iff_ne, ne_eq]
      intro e
      rw [hb] at e
      subst e
      simp at hd2
      exact ht.1 hd2.symm
end Go.Proofs.YtnpclmmmngmdkaaGreat

namespace Go.Proofs.YtnpclmmmngmdkaaGreat
open Go.Vl Go.RowKit Go.Dg

theorem wMul_v (an bn : Bool) (a b : ByteArray) (h1 : validB an a.data.toList = true) (h2 : validB bn b.data.toList = true) (ha : a.size ≤ 100000) (hb : b.size ≤ 100000) :
    SoundAt Tryz.prog 80 [.agg [.bool an, .str a], .agg [.bool bn, .str b]] (outPV (wnum an a * wnum bn b)) := by
  have hv := both_v an bn a b
  rw [h1, h2, Bool.true_and] at hv
  have hL1 := L_bnum a ha
  have hL2 := L_bnum b hb
  have hoa := wof_v an a h1 (by omega)
  have hob := wof_v bn b h2 (by omega)
  have hm := nmul_v an bn (bnum a.data.toList) (bnum b.data.toList) (by omega)
  have hL : (digs BW (bnum a.data.toList * bnum b.data.toList)).length ≤ 1000000 := by
    refine Nat.le_trans ((digs_len_le BW_2 _ ((digs BW (bnum a.data.toList)).length + (digs BW (bnum b.data.toList)).length)).2 ?_) (by omega)
    rw [Nat.pow_add]
    exact Nat.mul_lt_mul'' (lt_pow_len BW_2 _) (lt_pow_len BW_2 _)
  have hw := nwide_v (!(an == bn)) _ hL
  rw [mul_sv, outPV_eq] at hw
  rw [wnum, wnum, outPV_eq]
  refine sound_go (tb := []) 19 [.cell 4 30, .tmp 5] [0, 1, 2, 3, 4, 5, 9] mixed Tryz.func80 rfl (by kernel_rfl) (by kernel_rfl) (by kernel_rfl) (by kernel_rfl) ?_
  repeat (first | (simp -implicitDefEqProofs only [go_sem, Nat.reduceAdd, Nat.reduceMul, Nat.reduceEqDiff, Nat.reduceLT, Nat.reduceLeDiff, Nat.reduceSub, Nat.reduceBEq, reduceIte, reduceCtorEq, Int.reduceEq, Int.reduceNe, Nat.reduceBneDiff, Int.reduceLE, Int.reduceLT, Int.reduceToNat, Int.reduceAdd, Int.reduceSub, Int.reduceMul, Int.reduceNeg, nP, dw, wPV]) | ((with_reducible refine gcall_eq (hv) ?_ ?_ ?_); (with_reducible rfl); rfl) | ((with_reducible refine gcall_eq (hoa) ?_ ?_ ?_); (with_reducible rfl); rfl) | ((with_reducible refine gcall_eq (hob) ?_ ?_ ?_); (with_reducible rfl); rfl) | ((with_reducible refine gcall_eq (hm) ?_ ?_ ?_); (with_reducible rfl); rfl) | ((with_reducible refine gcall_eq (hw) ?_ ?_ ?_); (with_reducible rfl); rfl) | (with_reducible exact drawQ_true _ _ (by kernel_rfl)) | (with_reducible refine And.intro (drawQ_true _ _ (by kernel_rfl)) ?_))
end Go.Proofs.YtnpclmmmngmdkaaGreat

namespace Go.Proofs.YtnpclmmmngmdkaaGreat
open Go.Vl Go.RowKit Go.Dg

theorem nqn_le (xn : Bool) (a b : Nat) : nqn xn a b ≤ a + 1 := by
  have := Nat.div_le_self a b
  unfold nqn; split <;> omega
theorem LW_succ (a : Nat) : (digs BW (a + 1)).length ≤ (digs BW a).length + 1 := by
  refine (digs_len_le BW_2 _ _).2 ?_
  have h := lt_pow_len BW_2 a
  rw [Nat.pow_succ]
  generalize BW ^ (digs BW a).length = M at *
  simp only [BW]
  omega
theorem empty_eq {l : List UInt8} (h : l ≠ []) : (l == []) = false := by cases l with | nil => exact absurd rfl h | cons => rfl
end Go.Proofs.YtnpclmmmngmdkaaGreat

namespace Go.Dg

theorem p256 (k : Nat) : (256 : Nat) ^ k = 2 ^ (8 * k) := by rw [show (256 : Nat) = 2 ^ 8 from rfl, ← Nat.pow_mul]
theorem p2_256 {m B k : Nat} (h : m < 2 ^ B) (hk : B ≤ 8 * k) : m < 256 ^ k := by
  rw [p256]; exact Nat.lt_of_lt_of_le h (Nat.pow_le_pow_right (by decide) hk)
theorem p2_mono {m B C : Nat} (h : m < 2 ^ B) (hk : B ≤ C) : m < 2 ^ C := Nat.lt_of_lt_of_le h (Nat.pow_le_pow_right (by decide) hk)
theorem p2_16 {m B : Nat} (h : m < 2 ^ B) (hk : B ≤ 65536) : m < 2 ^ 65536 := p2_mono (C := 65536) h hk
theorem p2_7M {m B : Nat} (h : m < 2 ^ B) (hk : B ≤ 7000000) : m < 2 ^ 7000000 := p2_mono (C := 7000000) h hk
theorem p2_8M {m B : Nat} (h : m < 2 ^ B) (hk : B ≤ 8000000) : m < 2 ^ 8000000 := p2_mono (C := 8000000) h hk
theorem p256_2 {m k : Nat} (h : m < 256 ^ k) : m < 2 ^ (8 * k) := by rw [← p256]; exact h
theorem p256_16 {m k : Nat} (h : m < 256 ^ k) (hk : 8 * k ≤ 65536) : m < 2 ^ 65536 := p2_16 (p256_2 h) hk
theorem blen_of256 {m k : Nat} (h : m < 256 ^ k) : blen m ≤ 8 * k := blen_le (8 * k) m (p256_2 h)
/-- A power of 2 has no more digits than its exponent. -/
theorem pow2_digs {B : Nat} (hB : 2 < B) (k K : Nat) (hk : k ≤ K) : (digs B (2 ^ k)).length ≤ K + 1 := by
  refine (digs_len_le (Nat.le_of_lt hB) _ (K + 1)).2 (Nat.lt_of_le_of_lt (Nat.pow_le_pow_right (show 0 < 2 by decide) (Nat.le_succ_of_le hk)) ?_)
  exact Nat.pow_lt_pow_left hB (Nat.succ_ne_zero K)
end Go.Dg

namespace Go.Proofs.YtnpclmmmngmdkaaGreat
open Go.Vl Go.RowKit Go.Dg

theorem hd1W : digs BW 1 = [1] := by rw [digs_succ BW_2 (by decide), show 1 % BW = 1 from by decide, show 1 / BW = 0 from by decide, digs_zero]
theorem pow_LW (k : Nat) (hk : k ≤ 65536) : (digs BW (2 ^ k)).length ≤ 65537 := pow2_digs (by decide) k 65536 hk
theorem mulL (a b : Nat) : (digs BW (a * b)).length ≤ (digs BW a).length + (digs BW b).length := by
  refine (digs_len_le BW_2 _ _).2 ?_
  rw [Nat.pow_add]
  exact Nat.mul_lt_mul'' (lt_pow_len BW_2 _) (lt_pow_len BW_2 _)
/-- Times a power of 2, rounded down. -/
def shiftI (x n : Int) : Int := if 0 ≤ n then x * 2 ^ n.toNat else x / 2 ^ (-n).toNat
theorem shl_sv (an : Bool) (m k : Nat) : sv an (m * 2 ^ k) = sv an m * 2 ^ k := by
  cases an <;> simp [sv, Int.natCast_mul, Int.neg_mul, Int.natCast_pow]
theorem wShift_v (an : Bool) (a : ByteArray) (n : Int) (h : validB an a.data.toList = true) (h1 : -65536 ≤ n) (h2 : n ≤ 65536) (ha : a.size ≤ 100000) :
    SoundAt Tryz.prog 61 [.agg [.bool an, .str a], .int .i64 n] (outPV (shiftI (wnum an a) n)) := by
  have hv := wvalid_v an a
  rw [h] at hv
  have hL1 := L_bnum a ha
  have hoa := wof_v an a h (by omega)
  have g1 : (n < -65536) = False := by simp only [eq_iff_iff, iff_false]; omega
  have g2 : (65536 < n) = False := by simp only [eq_iff_iff, iff_false]; omega
  unfold shiftI
  by_cases hn : 0 ≤ n
  · rw [if_pos hn]
    obtain ⟨k, rfl⟩ : ∃ k : Nat, n = k := ⟨n.toNat, by omega⟩
    have g3 : (0 ≤ (k : Int)) = True := by simp only [eq_iff_iff, iff_true]; omega
    have hs := wshl_v (bnum a.data.toList) k (by omega) (by omega)
    have hp := pow_LW k (by omega)
    have hm := mulL (bnum a.data.toList) (2 ^ k)
    have hw := nwide_v an (bnum a.data.toList * 2 ^ k) (by omega)
    rw [shl_sv, outPV_eq] at hw
    rw [Int.toNat_natCast, wnum, outPV_eq]
    generalize bnum a.data.toList * 2 ^ k = M at *
    refine sound_go (tb := []) 48 [.cell 4 30, .tmp 5] [0, 1, 2, 4, 5, 6, 7, 11, 18, 23] mixed Tryz.func61 rfl (by kernel_rfl) (by kernel_rfl) (by kernel_rfl) (by kernel_rfl) ?_
    repeat (first | (simp -implicitDefEqProofs only [go_sem, Nat.reduceAdd, Nat.reduceMul, Nat.reduceEqDiff, Nat.reduceLT, Nat.reduceLeDiff, Nat.reduceSub, Nat.reduceBEq, reduceIte, reduceCtorEq, Int.reduceEq, Int.reduceNe, Nat.reduceBneDiff, Int.reduceLE, Int.reduceLT, Int.reduceToNat, Int.reduceAdd, Int.reduceSub, Int.reduceMul, Int.reduceNeg, g1, g2, g3, nP, dw, wPV]) | ((with_reducible refine gcall_eq (hv) ?_ ?_ ?_); (with_reducible rfl); rfl) | ((with_reducible refine gcall_eq (hoa) ?_ ?_ ?_); (with_reducible rfl); rfl) | ((with_reducible refine gcall_eq (hs) ?_ ?_ ?_); (with_reducible rfl); rfl) | ((with_reducible refine gcall_eq (hw) ?_ ?_ ?_); (with_reducible rfl); rfl) | (with_reducible exact drawQ_true _ _ (by kernel_rfl)) | (with_reducible refine And.intro (drawQ_true _ _ (by kernel_rfl)) ?_))
  · rw [if_neg hn]
    have g3 : (0 ≤ n) = False := by simp only [eq_iff_iff, iff_false]; exact hn
    have hk : IntKind.i64.wrap (0 - n) = ((-n).toNat : Int) := by rw [wrap_i64 (by omega) (by omega)]; omega
    have hkl : (-n).toNat ≤ 65536 := by omega
    generalize (-n).toNat = k at *
    have hs := wshl_v 1 k (by rw [hd1W]; simp) (by omega)
    rw [hd1W, Nat.one_mul] at hs
    have hp := pow_LW k hkl
    have hpos : 0 < 2 ^ k := Nat.pow_pos (by decide)
    have hd := ndiv_v an false (bnum a.data.toList) (2 ^ k) hpos (by omega) (by omega)
    have hw := nwide_v (!(an == false)) (nqn an (bnum a.data.toList) (2 ^ k)) (Nat.le_trans (LW_mono (nqn_le _ _ _)) (Nat.le_trans (LW_succ _) (by omega)))
    have e : sv false (2 ^ k) = 2 ^ k := by simp [sv, Int.natCast_pow]
    rw [(div_sv an false _ _ hpos).1, e, outPV_eq] at hw
    have e4 : (!(an == false)) = an := by cases an <;> rfl
    rw [e4] at hd hw
    rw [wnum, outPV_eq]
    generalize 2 ^ k = M at hs hd hw hp hpos
    refine sound_go (tb := []) 48 [.cell 4 30, .tmp 5] [0, 1, 2, 4, 5, 6, 7, 11, 18, 23] mixed Tryz.func61 rfl (by kernel_rfl) (by kernel_rfl) (by kernel_rfl) (by kernel_rfl) ?_
    repeat (first | (simp -implicitDefEqProofs only [go_sem, Nat.reduceAdd, Nat.reduceMul, Nat.reduceEqDiff, Nat.reduceLT, Nat.reduceLeDiff, Nat.reduceSub, Nat.reduceBEq, reduceIte, reduceCtorEq, Int.reduceEq, Int.reduceNe, Nat.reduceBneDiff, Int.reduceLE, Int.reduceLT, Int.reduceToNat, Int.reduceAdd, Int.reduceSub, Int.reduceMul, Int.reduceNeg, g1, g2, g3, hk, nP, dw, wPV, List.map_cons, List.map_nil]) | ((with_reducible refine gcall_eq (hv) ?_ ?_ ?_); (with_reducible rfl); rfl) | ((with_reducible refine gcall_eq (hoa) ?_ ?_ ?_); (with_reducible rfl); rfl) | ((with_reducible refine gcall_eq (hs) ?_ ?_ ?_); (with_reducible rfl); rfl) | ((with_reducible refine gcall_eq (hd) ?_ ?_ ?_); (with_reducible rfl); rfl) | ((with_reducible refine gcall_eq (hw) ?_ ?_ ?_); (with_reducible rfl); rfl) | (with_reducible exact drawQ_true _ _ (by kernel_rfl)) | (with_reducible refine And.intro (drawQ_true _ _ (by kernel_rfl)) ?_))
end Go.Proofs.YtnpclmmmngmdkaaGreat

namespace Go.Proofs.YtnpclmmmngmdkaaGreat
open Go.Vl Go.RowKit Go.Dg

/-- A valid ratio. -/
def vRat (n : Bool) (s : ByteArray) (m : Bool) (t : ByteArray) : Bool := validB n s.data.toList && (validB m t.data.toList && (!m && !(t.data.toList == [])))
theorem bnum_pos {n : Bool} {l : List UInt8} (h : validB n l = true) (h0 : l ≠ []) : 0 < bnum l := by
  cases l with
  | nil => exact absurd rfl h0
  | cons c r =>
    simp only [validB, Bool.and_eq_true] at h
    have hc : c.toNat ≠ 0 := fun e => by
      have : c ≠ 0 := by simpa using h.2
      exact this (UInt8.toNat_inj.1 (by simpa using e))
    rw [bnum_cons]
    have hp : 0 < c.toNat * 256 ^ r.length := Nat.mul_pos (Nat.pos_of_ne_zero hc) (Nat.pow_pos (by decide))
    omega
theorem wnum_sign {m : Bool} {t : ByteArray} (h : validB m t.data.toList = true) : decide (0 < (wnum m t).sign) = (!m && !(t.data.toList == [])) := by
  by_cases h0 : t.data.toList = []
  · have e : wnum m t = 0 := by unfold wnum sv; rw [h0]; cases m <;> rfl
    rw [e, h0]; simp
  · have hb := bnum_pos h h0
    rw [empty_eq h0]
    unfold wnum sv
    cases m with
    | false => simp only [Bool.false_eq_true, if_false, Bool.not_false, Bool.and_self]; rw [Int.sign_eq_one_of_pos (by omega)]; rfl
    | true => simp only [if_true, Bool.not_true, Bool.false_and]; rw [Int.sign_eq_neg_one_of_neg (by omega)]; rfl
theorem wValidRatio_v (n : Bool) (s : ByteArray) (m : Bool) (t : ByteArray) (ht : t.size ≤ 100000) : SoundAt Tryz.prog 118 [.agg [.bool n, .str s, .bool m, .str t]] (.bool (vRat n s m t)) := by
  have hb := both_v n m s t
  unfold vRat
  cases h1 : validB n s.data.toList with
  | false =>
    rw [h1, Bool.false_and] at hb
    rw [Bool.false_and]
    refine sound_go (tb := []) 14 [.tmp 2] [0, 1, 2] mixed Tryz.func118 rfl (by kernel_rfl) (by kernel_rfl) (by kernel_rfl) (by kernel_rfl) ?_
    repeat (first | (simp -implicitDefEqProofs only [go_sem, Nat.reduceAdd, Nat.reduceMul, Nat.reduceEqDiff, Nat.reduceLT, Nat.reduceLeDiff, Nat.reduceSub, Nat.reduceBEq, reduceIte, reduceCtorEq, Int.reduceEq, Int.reduceNe, Nat.reduceBneDiff, Int.reduceLE, Int.reduceLT, Int.reduceToNat, Int.reduceAdd, Int.reduceSub, Int.reduceMul, Int.reduceNeg]) | ((with_reducible refine gcall_eq (hb) ?_ ?_ ?_); (with_reducible rfl); rfl) | (with_reducible exact drawQ_true _ _ (by kernel_rfl)) | (with_reducible refine And.intro (drawQ_true _ _ (by kernel_rfl)) ?_))
  | true =>
    rw [h1, Bool.true_and] at hb
    rw [Bool.true_and]
    cases h2 : validB m t.data.toList with
    | false =>
      rw [h2] at hb
      rw [Bool.false_and]
      refine sound_go (tb := []) 14 [.tmp 2] [0, 1, 2] mixed Tryz.func118 rfl (by kernel_rfl) (by kernel_rfl) (by kernel_rfl) (by kernel_rfl) ?_
      repeat (first | (simp -implicitDefEqProofs only [go_sem, Nat.reduceAdd, Nat.reduceMul, Nat.reduceEqDiff, Nat.reduceLT, Nat.reduceLeDiff, Nat.reduceSub, Nat.reduceBEq, reduceIte, reduceCtorEq, Int.reduceEq, Int.reduceNe, Nat.reduceBneDiff, Int.reduceLE, Int.reduceLT, Int.reduceToNat, Int.reduceAdd, Int.reduceSub, Int.reduceMul, Int.reduceNeg]) | ((with_reducible refine gcall_eq (hb) ?_ ?_ ?_); (with_reducible rfl); rfl) | (with_reducible exact drawQ_true _ _ (by kernel_rfl)) | (with_reducible refine And.intro (drawQ_true _ _ (by kernel_rfl)) ?_))
    | true =>
      rw [h2] at hb
      have hs := wSign_v m t h2 ht
      rw [Bool.true_and, ← wnum_sign h2]
      refine sound_go (tb := []) 14 [.tmp 2] [0, 1, 2] mixed Tryz.func118 rfl (by kernel_rfl) (by kernel_rfl) (by kernel_rfl) (by kernel_rfl) ?_
      repeat (first | (simp -implicitDefEqProofs only [go_sem, Nat.reduceAdd, Nat.reduceMul, Nat.reduceEqDiff, Nat.reduceLT, Nat.reduceLeDiff, Nat.reduceSub, Nat.reduceBEq, reduceIte, reduceCtorEq, Int.reduceEq, Int.reduceNe, Nat.reduceBneDiff, Int.reduceLE, Int.reduceLT, Int.reduceToNat, Int.reduceAdd, Int.reduceSub, Int.reduceMul, Int.reduceNeg]) | ((with_reducible refine gcall_eq (hb) ?_ ?_ ?_); (with_reducible rfl); rfl) | ((with_reducible refine gcall_eq (hs) ?_ ?_ ?_); (with_reducible rfl); rfl) | (with_reducible exact drawQ_true _ _ (by kernel_rfl)) | (with_reducible refine And.intro (drawQ_true _ _ (by kernel_rfl)) ?_))
theorem wpair_v (n1 m1 n2 m2 : Bool) (s1 t1 s2 t2 : ByteArray) (h1 : t1.size ≤ 100000) (h2 : t2.size ≤ 100000) : SoundAt Tryz.prog 99 [.agg [.bool n1, .str s1, .bool m1, .str t1], .agg [.bool n2, .str s2, .bool m2, .str t2]] (.bool (vRat n1 s1 m1 t1 && vRat n2 s2 m2 t2)) := by
  have a1 := wValidRatio_v n1 s1 m1 t1 h1
  have a2 := wValidRatio_v n2 s2 m2 t2 h2
  cases hv : vRat n1 s1 m1 t1 with
  | false =>
    rw [hv] at a1
    rw [Bool.false_and]
    refine sound_go (tb := []) 11 [.tmp 4] [0, 1, 2, 3, 4] mixed Tryz.func99 rfl (by kernel_rfl) (by kernel_rfl) (by kernel_rfl) (by kernel_rfl) ?_
    repeat (first | (simp -implicitDefEqProofs only [go_sem, Nat.reduceAdd, Nat.reduceMul, Nat.reduceEqDiff, Nat.reduceLT, Nat.reduceLeDiff, Nat.reduceSub, Nat.reduceBEq, reduceIte, reduceCtorEq, Int.reduceEq, Int.reduceNe, Nat.reduceBneDiff, Int.reduceLE, Int.reduceLT, Int.reduceToNat, Int.reduceAdd, Int.reduceSub, Int.reduceMul, Int.reduceNeg]) | ((with_reducible refine gcall_eq (a1) ?_ ?_ ?_); (with_reducible rfl); rfl) | (with_reducible exact drawQ_true _ _ (by kernel_rfl)) | (with_reducible refine And.intro (drawQ_true _ _ (by kernel_rfl)) ?_))
  | true =>
    rw [hv] at a1
    rw [Bool.true_and]
    refine sound_go (tb := []) 11 [.tmp 4] [0, 1, 2, 3, 4] mixed Tryz.func99 rfl (by kernel_rfl) (by kernel_rfl) (by kernel_rfl) (by kernel_rfl) ?_
    repeat (first | (simp -implicitDefEqProofs only [go_sem, Nat.reduceAdd, Nat.reduceMul, Nat.reduceEqDiff, Nat.reduceLT, Nat.reduceLeDiff, Nat.reduceSub, Nat.reduceBEq, reduceIte, reduceCtorEq, Int.reduceEq, Int.reduceNe, Nat.reduceBneDiff, Int.reduceLE, Int.reduceLT, Int.reduceToNat, Int.reduceAdd, Int.reduceSub, Int.reduceMul, Int.reduceNeg]) | ((with_reducible refine gcall_eq (a1) ?_ ?_ ?_); (with_reducible rfl); rfl) | ((with_reducible refine gcall_eq (a2) ?_ ?_ ?_); (with_reducible rfl); rfl) | (with_reducible exact drawQ_true _ _ (by kernel_rfl)) | (with_reducible refine And.intro (drawQ_true _ _ (by kernel_rfl)) ?_))
/-- The greatest common divisor, with the sign of the denominator. -/
def gN (x y : Int) : Int := if y < 0 then -((Nat.gcd x.natAbs y.natAbs : Nat) : Int) else ((Nat.gcd x.natAbs y.natAbs : Nat) : Int)
def lowN (x y : Int) : Int := x / gN x y
def lowD (x y : Int) : Int := y / gN x y
/-- A ratio, as the calls hand it back. -/
def ratPV (x y : Int) : PV := .agg [.bool (decide (x < 0)), .str ⟨(magL x.natAbs).toArray⟩, .bool (decide (y < 0)), .str ⟨(magL y.natAbs).toArray⟩]
def big (x y : Int) : Bool := decide (65536 < blen x.natAbs) || decide (65536 < blen y.natAbs)
def noRat (e : Int) : PV := .tup [.agg [.bool false, .str ⟨#[]⟩, .bool false, .str ⟨#[]⟩], .int .i64 e]
def outQ (x y : Int) : PV := if big x y = true then noRat 7 else .tup [ratPV x y, .int .i64 0]
theorem outQ_t {x y : Int} (h : big x y = true) : outQ x y = noRat 7 := by rw [outQ, if_pos h]
theorem outQ_f {x y : Int} (h : big x y = false) : outQ x y = .tup [ratPV x y, .int .i64 0] := by rw [outQ, if_neg (by rw [h]; decide)]
theorem sv_abs (n : Bool) (m : Nat) : (sv n m).natAbs = m := by cases n <;> simp [sv]
theorem sv_neg {n : Bool} {m : Nat} (h : 0 < m) : (sv n m < 0) = (n = true) := by cases n <;> simp [sv] <;> omega
theorem gN_sv (xn yn : Bool) (a b : Nat) (hb : 0 < b) : gN (sv xn a) (sv yn b) = sv yn (Nat.gcd a b) := by
  unfold gN
  rw [sv_abs, sv_abs]
  simp only [sv_neg hb]
  cases yn <;> rfl
theorem outPV_no {n : Int} (h : 65536 < blen n.natAbs) : outPV n = .tup [.agg [.bool false, .str ⟨#[]⟩], .int .i64 7] := by rw [outPV, if_pos h, wPV_zero]
theorem outPV_yes {n : Int} (h : ¬ 65536 < blen n.natAbs) : outPV n = .tup [.agg [.bool (decide (n < 0)), .str ⟨(magL n.natAbs).toArray⟩], .int .i64 0] := by rw [outPV, if_neg h]; rfl
theorem wlowest_v (xn yn : Bool) (a b : Nat) (hb : 0 < b) (ha : (digs BW a).length ≤ 900000) (hbl : (digs BW b).length ≤ 900000) :
    SoundAt Tryz.prog 100 [nP xn a, nP yn b] (outQ (lowN (sv xn a) (sv yn b)) (lowD (sv xn a) (sv yn b))) := by
  have hg := wgcd_v a b (by omega) (by omega)
  have hgp : 0 < Nat.gcd a b := Nat.gcd_pos_of_pos_right _ hb
  have hgl : (digs BW (Nat.gcd a b)).length ≤ 900000 := Nat.le_trans (LW_mono (Nat.gcd_le_right _ hb)) hbl
  have d1 := ndiv_v xn yn a (Nat.gcd a b) hgp (by omega) (by omega)
  have d2 := ndiv_v yn yn b (Nat.gcd a b) hgp (by omega) (by omega)
  have w1 := nwide_v (!(xn == yn)) (nqn xn a (Nat.gcd a b)) (Nat.le_trans (LW_mono (nqn_le _ _ _)) (Nat.le_trans (LW_succ _) (by omega)))
  have w2 := nwide_v (!(yn == yn)) (nqn yn b (Nat.gcd a b)) (Nat.le_trans (LW_mono (nqn_le _ _ _)) (Nat.le_trans (LW_succ _) (by omega)))
  rw [(div_sv xn yn a _ hgp).1] at w1
  rw [(div_sv yn yn b _ hgp).1] at w2
  have e0 : (!(yn == yn)) = false := by cases yn <;> rfl
  rw [e0] at d2 w2
  unfold lowN lowD
  rw [gN_sv _ _ _ _ hb]
  generalize sv xn a / sv yn (Nat.gcd a b) = n at *
  generalize sv yn b / sv yn (Nat.gcd a b) = d at *
  generalize nqn xn a (Nat.gcd a b) = q1 at *
  generalize nqn yn b (Nat.gcd a b) = q2 at *
  generalize nrn xn a (Nat.gcd a b) = r1 at *
  generalize nrn yn b (Nat.gcd a b) = r2 at *
  generalize Nat.gcd a b = g at *
  generalize (!(xn == yn)) = s at *
  have z1 : ((7 : Int) != 0) = true := rfl
  have z0 : ((0 : Int) != 0) = false := rfl
  by_cases h1 : 65536 < blen n.natAbs
  · rw [outQ_t (by simp [big, h1])]
    rw [outPV_no h1] at w1
    by_cases h2 : 65536 < blen d.natAbs
    · rw [outPV_no h2] at w2
      refine sound_go (tb := []) 51 [.cell 4 32, .tmp 5] [0, 1, 2, 3, 4, 5, 6, 7, 8, 9, 10, 46] mixed Tryz.func100 rfl (by kernel_rfl) (by kernel_rfl) (by kernel_rfl) (by kernel_rfl) ?_
      repeat (first | (simp -implicitDefEqProofs only [go_sem, Nat.reduceAdd, Nat.reduceMul, Nat.reduceEqDiff, Nat.reduceLT, Nat.reduceLeDiff, Nat.reduceSub, Nat.reduceBEq, reduceIte, reduceCtorEq, Int.reduceEq, Int.reduceNe, Nat.reduceBneDiff, Int.reduceLE, Int.reduceLT, Int.reduceToNat, Int.reduceAdd, Int.reduceSub, Int.reduceMul, Int.reduceNeg, nP, dw, z1, z0, noRat]) | ((with_reducible refine gcall_eq (hg) ?_ ?_ ?_); (with_reducible rfl); rfl) | ((with_reducible refine gcall_eq (d1) ?_ ?_ ?_); (with_reducible rfl); rfl) | ((with_reducible refine gcall_eq (d2) ?_ ?_ ?_); (with_reducible rfl); rfl) | ((with_reducible refine gcall_eq (w1) ?_ ?_ ?_); (with_reducible rfl); rfl) | ((with_reducible refine gcall_eq (w2) ?_ ?_ ?_); (with_reducible rfl); rfl) | (with_reducible exact drawQ_true _ _ (by kernel_rfl)) | (with_reducible refine And.intro (drawQ_true _ _ (by kernel_rfl)) ?_))
    · rw [outPV_yes h2] at w2
      refine sound_go (tb := []) 51 [.cell 4 32, .tmp 5] [0, 1, 2, 3, 4, 5, 6, 7, 8, 9, 10, 46] mixed Tryz.func100 rfl (by kernel_rfl) (by kernel_rfl) (by kernel_rfl) (by kernel_rfl) ?_
      repeat (first | (simp -implicitDefEqProofs only [go_sem, Nat.reduceAdd, Nat.reduceMul, Nat.reduceEqDiff, Nat.reduceLT, Nat.reduceLeDiff, Nat.reduceSub, Nat.reduceBEq, reduceIte, reduceCtorEq, Int.reduceEq, Int.reduceNe, Nat.reduceBneDiff, Int.reduceLE, Int.reduceLT, Int.reduceToNat, Int.reduceAdd, Int.reduceSub, Int.reduceMul, Int.reduceNeg, nP, dw, z1, z0, noRat]) | ((with_reducible refine gcall_eq (hg) ?_ ?_ ?_); (with_reducible rfl); rfl) | ((with_reducible refine gcall_eq (d1) ?_ ?_ ?_); (with_reducible rfl); rfl) | ((with_reducible refine gcall_eq (d2) ?_ ?_ ?_); (with_reducible rfl); rfl) | ((with_reducible refine gcall_eq (w1) ?_ ?_ ?_); (with_reducible rfl); rfl) | ((with_reducible refine gcall_eq (w2) ?_ ?_ ?_); (with_reducible rfl); rfl) | (with_reducible exact drawQ_true _ _ (by kernel_rfl)) | (with_reducible refine And.intro (drawQ_true _ _ (by kernel_rfl)) ?_))
  · rw [outPV_yes h1] at w1
    by_cases h2 : 65536 < blen d.natAbs
    · rw [outQ_t (by simp [big, h2])]
      rw [outPV_no h2] at w2
      refine sound_go (tb := []) 51 [.cell 4 32, .tmp 5] [0, 1, 2, 3, 4, 5, 6, 7, 8, 9, 10, 46] mixed Tryz.func100 rfl (by kernel_rfl) (by kernel_rfl) (by kernel_rfl) (by kernel_rfl) ?_
      repeat (first | (simp -implicitDefEqProofs only [go_sem, Nat.reduceAdd, Nat.reduceMul, Nat.reduceEqDiff, Nat.reduceLT, Nat.reduceLeDiff, Nat.reduceSub, Nat.reduceBEq, reduceIte, reduceCtorEq, Int.reduceEq, Int.reduceNe, Nat.reduceBneDiff, Int.reduceLE, Int.reduceLT, Int.reduceToNat, Int.reduceAdd, Int.reduceSub, Int.reduceMul, Int.reduceNeg, nP, dw, z1, z0, noRat]) | ((with_reducible refine gcall_eq (hg) ?_ ?_ ?_); (with_reducible rfl); rfl) | ((with_reducible refine gcall_eq (d1) ?_ ?_ ?_); (with_reducible rfl); rfl) | ((with_reducible refine gcall_eq (d2) ?_ ?_ ?_); (with_reducible rfl); rfl) | ((with_reducible refine gcall_eq (w1) ?_ ?_ ?_); (with_reducible rfl); rfl) | ((with_reducible refine gcall_eq (w2) ?_ ?_ ?_); (with_reducible rfl); rfl) | (with_reducible exact drawQ_true _ _ (by kernel_rfl)) | (with_reducible refine And.intro (drawQ_true _ _ (by kernel_rfl)) ?_))
    · rw [outQ_f (by simp only [big, h1, h2, decide_false, Bool.or_self])]
      rw [outPV_yes h2] at w2
      refine sound_go (tb := []) 51 [.cell 4 32, .tmp 5] [0, 1, 2, 3, 4, 5, 6, 7, 8, 9, 10, 46] mixed Tryz.func100 rfl (by kernel_rfl) (by kernel_rfl) (by kernel_rfl) (by kernel_rfl) ?_
      repeat (first | (simp -implicitDefEqProofs only [go_sem, Nat.reduceAdd, Nat.reduceMul, Nat.reduceEqDiff, Nat.reduceLT, Nat.reduceLeDiff, Nat.reduceSub, Nat.reduceBEq, reduceIte, reduceCtorEq, Int.reduceEq, Int.reduceNe, Nat.reduceBneDiff, Int.reduceLE, Int.reduceLT, Int.reduceToNat, Int.reduceAdd, Int.reduceSub, Int.reduceMul, Int.reduceNeg, nP, dw, z1, z0, ratPV]) | ((with_reducible refine gcall_eq (hg) ?_ ?_ ?_); (with_reducible rfl); rfl) | ((with_reducible refine gcall_eq (d1) ?_ ?_ ?_); (with_reducible rfl); rfl) | ((with_reducible refine gcall_eq (d2) ?_ ?_ ?_); (with_reducible rfl); rfl) | ((with_reducible refine gcall_eq (w1) ?_ ?_ ?_); (with_reducible rfl); rfl) | ((with_reducible refine gcall_eq (w2) ?_ ?_ ?_); (with_reducible rfl); rfl) | (with_reducible exact drawQ_true _ _ (by kernel_rfl)) | (with_reducible refine And.intro (drawQ_true _ _ (by kernel_rfl)) ?_))
theorem wRatio_v (an bn : Bool) (a b : ByteArray) (h1 : validB an a.data.toList = true) (h2 : validB bn b.data.toList = true) (h0 : b.data.toList ≠ []) (ha : a.size ≤ 100000) (hb : b.size ≤ 100000) :
    SoundAt Tryz.prog 84 [.agg [.bool an, .str a], .agg [.bool bn, .str b]] (outQ (lowN (wnum an a) (wnum bn b)) (lowD (wnum an a) (wnum bn b))) := by
  have hv := both_v an bn a b
  rw [h1, h2, Bool.true_and] at hv
  have hL1 := L_bnum a ha
  have hL2 := L_bnum b hb
  have hoa := wof_v an a h1 (by omega)
  have hob := wof_v bn b h2 (by omega)
  have he := empty_eq h0
  have hl := wlowest_v an bn _ _ (bnum_pos h2 h0) (by omega : (digs BW (bnum a.data.toList)).length ≤ 900000) (by omega)
  unfold wnum
  generalize lowN (sv an (bnum a.data.toList)) (sv bn (bnum b.data.toList)) = N at *
  generalize lowD (sv an (bnum a.data.toList)) (sv bn (bnum b.data.toList)) = D at *
  cases hB : big N D with
  | true =>
    rw [outQ_t hB] at hl ⊢
    refine sound_go (tb := []) 22 [.cell 4 32, .tmp 5] [0, 1, 2, 3, 4, 5, 9, 13] mixed Tryz.func84 rfl (by kernel_rfl) (by kernel_rfl) (by kernel_rfl) (by kernel_rfl) ?_
    repeat (first | (simp -implicitDefEqProofs only [go_sem, Nat.reduceAdd, Nat.reduceMul, Nat.reduceEqDiff, Nat.reduceLT, Nat.reduceLeDiff, Nat.reduceSub, Nat.reduceBEq, reduceIte, reduceCtorEq, Int.reduceEq, Int.reduceNe, Nat.reduceBneDiff, Int.reduceLE, Int.reduceLT, Int.reduceToNat, Int.reduceAdd, Int.reduceSub, Int.reduceMul, Int.reduceNeg, he, nP, dw, noRat]) | ((with_reducible refine gcall_eq (hv) ?_ ?_ ?_); (with_reducible rfl); rfl) | ((with_reducible refine gcall_eq (hoa) ?_ ?_ ?_); (with_reducible rfl); rfl) | ((with_reducible refine gcall_eq (hob) ?_ ?_ ?_); (with_reducible rfl); rfl) | ((with_reducible refine gcall_eq (hl) ?_ ?_ ?_); (with_reducible rfl); rfl) | (with_reducible exact drawQ_true _ _ (by kernel_rfl)) | (with_reducible refine And.intro (drawQ_true _ _ (by kernel_rfl)) ?_))
  | false =>
    rw [outQ_f hB] at hl ⊢
    refine sound_go (tb := []) 22 [.cell 4 32, .tmp 5] [0, 1, 2, 3, 4, 5, 9, 13] mixed Tryz.func84 rfl (by kernel_rfl) (by kernel_rfl) (by kernel_rfl) (by kernel_rfl) ?_
    repeat (first | (simp -implicitDefEqProofs only [go_sem, Nat.reduceAdd, Nat.reduceMul, Nat.reduceEqDiff, Nat.reduceLT, Nat.reduceLeDiff, Nat.reduceSub, Nat.reduceBEq, reduceIte, reduceCtorEq, Int.reduceEq, Int.reduceNe, Nat.reduceBneDiff, Int.reduceLE, Int.reduceLT, Int.reduceToNat, Int.reduceAdd, Int.reduceSub, Int.reduceMul, Int.reduceNeg, he, nP, dw, ratPV]) | ((with_reducible refine gcall_eq (hv) ?_ ?_ ?_); (with_reducible rfl); rfl) | ((with_reducible refine gcall_eq (hoa) ?_ ?_ ?_); (with_reducible rfl); rfl) | ((with_reducible refine gcall_eq (hob) ?_ ?_ ?_); (with_reducible rfl); rfl) | ((with_reducible refine gcall_eq (hl) ?_ ?_ ?_); (with_reducible rfl); rfl) | (with_reducible exact drawQ_true _ _ (by kernel_rfl)) | (with_reducible refine And.intro (drawQ_true _ _ (by kernel_rfl)) ?_))
end Go.Proofs.YtnpclmmmngmdkaaGreat

namespace Go.Proofs.YtnpclmmmngmdkaaGreat
open Go.Vl Go.RowKit Go.Dg

theorem magL_nil (n : Int) : (magL n.natAbs = []) ↔ n = 0 := by
  have h := magL_length n.natAbs
  constructor
  · intro e
    rw [e] at h
    have := (digs_eq_nil (B := 256) (by decide)).1 (List.length_eq_zero_iff.1 h.symm)
    omega
  · rintro rfl; simp [magL, digs_zero]
theorem vRat_parts {n m : Bool} {s t : ByteArray} (h : vRat n s m t = true) : validB n s.data.toList = true ∧ validB m t.data.toList = true ∧ m = false ∧ t.data.toList ≠ [] := by
  simp only [vRat, Bool.and_eq_true] at h
  refine ⟨h.1, h.2.1, by simpa using h.2.2.1, by simpa using h.2.2.2⟩
theorem wcrossed_v (n1 m1 n2 m2 : Bool) (s1 t1 s2 t2 : ByteArray) (hv1 : vRat n1 s1 m1 t1 = true) (hv2 : vRat n2 s2 m2 t2 = true) (a1 : s1.size ≤ 100000) (a2 : t1.size ≤ 100000) (a3 : s2.size ≤ 100000) (a4 : t2.size ≤ 100000) :
    SoundAt Tryz.prog 109 [.agg [.bool n1, .str s1, .bool m1, .str t1], .agg [.bool n2, .str s2, .bool m2, .str t2]]
      (.tup [nP (!(n1 == m2)) (bnum s1.data.toList * bnum t2.data.toList), nP (!(n2 == m1)) (bnum s2.data.toList * bnum t1.data.toList), nP (!(m1 == m2)) (bnum t1.data.toList * bnum t2.data.toList)]) := by
  obtain ⟨p1, p2, _, _⟩ := vRat_parts hv1
  obtain ⟨p3, p4, _, _⟩ := vRat_parts hv2
  have o1 := wof_v n1 s1 p1 (by omega)
  have o2 := wof_v m1 t1 p2 (by omega)
  have o3 := wof_v n2 s2 p3 (by omega)
  have o4 := wof_v m2 t2 p4 (by omega)
  have l1 := L_bnum s1 a1
  have l2 := L_bnum t1 a2
  have l3 := L_bnum s2 a3
  have l4 := L_bnum t2 a4
  have x1 := nmul_v n1 m2 (bnum s1.data.toList) (bnum t2.data.toList) (by omega)
  have x2 := nmul_v n2 m1 (bnum s2.data.toList) (bnum t1.data.toList) (by omega)
  have x3 := nmul_v m1 m2 (bnum t1.data.toList) (bnum t2.data.toList) (by omega)
  generalize (!(n1 == m2)) = b1 at *
  generalize (!(n2 == m1)) = b2 at *
  generalize (!(m1 == m2)) = b3 at *
  refine sound_go (tb := []) 28 [.cell 4 121, .cell 5 121, .cell 6 121] [0, 1, 2, 3, 4, 5, 6] mixed Tryz.func109 rfl (by kernel_rfl) (by kernel_rfl) (by kernel_rfl) (by kernel_rfl) ?_
  repeat (first | (simp -implicitDefEqProofs only [go_sem, Nat.reduceAdd, Nat.reduceMul, Nat.reduceEqDiff, Nat.reduceLT, Nat.reduceLeDiff, Nat.reduceSub, Nat.reduceBEq, reduceIte, reduceCtorEq, Int.reduceEq, Int.reduceNe, Nat.reduceBneDiff, Int.reduceLE, Int.reduceLT, Int.reduceToNat, Int.reduceAdd, Int.reduceSub, Int.reduceMul, Int.reduceNeg, nP, dw]) | ((with_reducible refine gcall_eq (o1) ?_ ?_ ?_); (with_reducible rfl); rfl) | ((with_reducible refine gcall_eq (o2) ?_ ?_ ?_); (with_reducible rfl); rfl) | ((with_reducible refine gcall_eq (o3) ?_ ?_ ?_); (with_reducible rfl); rfl) | ((with_reducible refine gcall_eq (o4) ?_ ?_ ?_); (with_reducible rfl); rfl) | ((with_reducible refine gcall_eq (x1) ?_ ?_ ?_); (with_reducible rfl); rfl) | ((with_reducible refine gcall_eq (x2) ?_ ?_ ?_); (with_reducible rfl); rfl) | ((with_reducible refine gcall_eq (x3) ?_ ?_ ?_); (with_reducible rfl); rfl) | (with_reducible exact drawQ_true _ _ (by kernel_rfl)) | (with_reducible refine And.intro (drawQ_true _ _ (by kernel_rfl)) ?_))
theorem wCompareRatio_no (n1 m1 n2 m2 : Bool) (s1 t1 s2 t2 : ByteArray) (h : (vRat n1 s1 m1 t1 && vRat n2 s2 m2 t2) = false) (a2 : t1.size ≤ 100000) (a4 : t2.size ≤ 100000) :
    SoundAt Tryz.prog 85 [.agg [.bool n1, .str s1, .bool m1, .str t1], .agg [.bool n2, .str s2, .bool m2, .str t2]] (.tup [.int .i64 0, .int .i64 2]) := by
  have hp := wpair_v n1 m1 n2 m2 s1 t1 s2 t2 a2 a4
  rw [h] at hp
  refine sound_go (tb := []) 25 [.tmp 4, .tmp 5] [0, 1, 2, 3, 4, 5, 6, 7, 12] mixed Tryz.func85 rfl (by kernel_rfl) (by kernel_rfl) (by kernel_rfl) (by kernel_rfl) ?_
  repeat (first | (simp -implicitDefEqProofs only [go_sem, Nat.reduceAdd, Nat.reduceMul, Nat.reduceEqDiff, Nat.reduceLT, Nat.reduceLeDiff, Nat.reduceSub, Nat.reduceBEq, reduceIte, reduceCtorEq, Int.reduceEq, Int.reduceNe, Nat.reduceBneDiff, Int.reduceLE, Int.reduceLT, Int.reduceToNat, Int.reduceAdd, Int.reduceSub, Int.reduceMul, Int.reduceNeg]) | ((with_reducible refine gcall_eq (hp) ?_ ?_ ?_); (with_reducible rfl); rfl) | (with_reducible exact drawQ_true _ _ (by kernel_rfl)) | (with_reducible refine And.intro (drawQ_true _ _ (by kernel_rfl)) ?_))
theorem wCompareRatio_v (n1 m1 n2 m2 : Bool) (s1 t1 s2 t2 : ByteArray) (hv1 : vRat n1 s1 m1 t1 = true) (hv2 : vRat n2 s2 m2 t2 = true) (a1 : s1.size ≤ 100000) (a2 : t1.size ≤ 100000) (a3 : s2.size ≤ 100000) (a4 : t2.size ≤ 100000) :
    SoundAt Tryz.prog 85 [.agg [.bool n1, .str s1, .bool m1, .str t1], .agg [.bool n2, .str s2, .bool m2, .str t2]] (.tup [.int .i64 (wnum n1 s1 * wnum m2 t2 - wnum n2 s2 * wnum m1 t1).sign, .int .i64 0]) := by
  have hp := wpair_v n1 m1 n2 m2 s1 t1 s2 t2 a2 a4
  rw [hv1, hv2, Bool.true_and] at hp
  have hc := wcrossed_v n1 m1 n2 m2 s1 t1 s2 t2 hv1 hv2 a1 a2 a3 a4
  have l1 := L_bnum s1 a1
  have l2 := L_bnum t1 a2
  have l3 := L_bnum s2 a3
  have l4 := L_bnum t2 a4
  have q1 := mulL (bnum s1.data.toList) (bnum t2.data.toList)
  have q2 := mulL (bnum s2.data.toList) (bnum t1.data.toList)
  have hn := nneg_v (!(n2 == m1)) (bnum s2.data.toList * bnum t1.data.toList)
  obtain ⟨n, m, hs, e, hm⟩ := nadd_v (!(n1 == m2)) (!(!(n2 == m1))) (bnum s1.data.toList * bnum t2.data.toList) (bnum s2.data.toList * bnum t1.data.toList) (by omega) (by omega)
  have hg := nsign_v n m
  have e3 : sv n m = wnum n1 s1 * wnum m2 t2 - wnum n2 s2 * wnum m1 t1 := by
    have flip : ∀ (b : Bool) (m : Nat), sv (!b) m = -(sv b m) := by intro b m; cases b <;> simp [sv]
    rw [e, flip (!(n2 == m1)), mul_sv, mul_sv, Int.sub_eq_add_neg]; rfl
  rw [e3] at hg
  generalize (!(n1 == m2)) = b1 at *
  generalize (!(n2 == m1)) = b2 at *
  generalize (!(m1 == m2)) = b3 at *
  generalize (!b2) = b4 at *
  refine sound_go (tb := []) 25 [.tmp 4, .tmp 5] [0, 1, 2, 3, 4, 5, 6, 7, 12] mixed Tryz.func85 rfl (by kernel_rfl) (by kernel_rfl) (by kernel_rfl) (by kernel_rfl) ?_
  repeat (first | (simp -implicitDefEqProofs only [go_sem, Nat.reduceAdd, Nat.reduceMul, Nat.reduceEqDiff, Nat.reduceLT, Nat.reduceLeDiff, Nat.reduceSub, Nat.reduceBEq, reduceIte, reduceCtorEq, Int.reduceEq, Int.reduceNe, Nat.reduceBneDiff, Int.reduceLE, Int.reduceLT, Int.reduceToNat, Int.reduceAdd, Int.reduceSub, Int.reduceMul, Int.reduceNeg, nP, dw]) | ((with_reducible refine gcall_eq (hp) ?_ ?_ ?_); (with_reducible rfl); rfl) | ((with_reducible refine gcall_eq (hc) ?_ ?_ ?_); (with_reducible rfl); rfl) | ((with_reducible refine gcall_eq (hn) ?_ ?_ ?_); (with_reducible rfl); rfl) | ((with_reducible refine gcall_eq (hs) ?_ ?_ ?_); (with_reducible rfl); rfl) | ((with_reducible refine gcall_eq (hg) ?_ ?_ ?_); (with_reducible rfl); rfl) | (with_reducible exact drawQ_true _ _ (by kernel_rfl)) | (with_reducible refine And.intro (drawQ_true _ _ (by kernel_rfl)) ?_))
theorem wMulRatio_v (n1 m1 n2 m2 : Bool) (s1 t1 s2 t2 : ByteArray) (hv1 : vRat n1 s1 m1 t1 = true) (hv2 : vRat n2 s2 m2 t2 = true) (a1 : s1.size ≤ 100000) (a2 : t1.size ≤ 100000) (a3 : s2.size ≤ 100000) (a4 : t2.size ≤ 100000) :
    SoundAt Tryz.prog 63 [.agg [.bool n1, .str s1, .bool m1, .str t1], .agg [.bool n2, .str s2, .bool m2, .str t2]] (outQ (lowN (wnum n1 s1 * wnum n2 s2) (wnum m1 t1 * wnum m2 t2)) (lowD (wnum n1 s1 * wnum n2 s2) (wnum m1 t1 * wnum m2 t2))) := by
  have hp := wpair_v n1 m1 n2 m2 s1 t1 s2 t2 a2 a4
  rw [hv1, hv2, Bool.true_and] at hp
  obtain ⟨p1, p2, _, p5⟩ := vRat_parts hv1
  obtain ⟨p3, p4, _, p6⟩ := vRat_parts hv2
  have o1 := wof_v n1 s1 p1 (by omega)
  have o2 := wof_v m1 t1 p2 (by omega)
  have o3 := wof_v n2 s2 p3 (by omega)
  have o4 := wof_v m2 t2 p4 (by omega)
  have l1 := L_bnum s1 a1
  have l2 := L_bnum t1 a2
  have l3 := L_bnum s2 a3
  have l4 := L_bnum t2 a4
  have q1 := mulL (bnum s1.data.toList) (bnum s2.data.toList)
  have q3 := mulL (bnum t1.data.toList) (bnum t2.data.toList)
  have x1 := nmul_v n1 n2 (bnum s1.data.toList) (bnum s2.data.toList) (by omega)
  have x2 := nmul_v m1 m2 (bnum t1.data.toList) (bnum t2.data.toList) (by omega)
  have hlo := wlowest_v (!(n1 == n2)) (!(m1 == m2)) (bnum s1.data.toList * bnum s2.data.toList) (bnum t1.data.toList * bnum t2.data.toList) (Nat.mul_pos (bnum_pos p2 p5) (bnum_pos p4 p6)) (by omega) (by omega)
  rw [mul_sv, mul_sv] at hlo
  unfold wnum
  generalize lowN (sv n1 (bnum s1.data.toList) * sv n2 (bnum s2.data.toList)) (sv m1 (bnum t1.data.toList) * sv m2 (bnum t2.data.toList)) = N at *
  generalize lowD (sv n1 (bnum s1.data.toList) * sv n2 (bnum s2.data.toList)) (sv m1 (bnum t1.data.toList) * sv m2 (bnum t2.data.toList)) = D at *
  generalize (!(n1 == n2)) = b1 at *
  generalize (!(m1 == m2)) = b3 at *
  cases hB : big N D with
  | true =>
    rw [outQ_t hB] at hlo ⊢
    refine sound_go (tb := []) 28 [.cell 4 32, .tmp 5] [0, 1, 2, 3, 4, 5, 9] mixed Tryz.func63 rfl (by kernel_rfl) (by kernel_rfl) (by kernel_rfl) (by kernel_rfl) ?_
    repeat (first | (simp -implicitDefEqProofs only [go_sem, Nat.reduceAdd, Nat.reduceMul, Nat.reduceEqDiff, Nat.reduceLT, Nat.reduceLeDiff, Nat.reduceSub, Nat.reduceBEq, reduceIte, reduceCtorEq, Int.reduceEq, Int.reduceNe, Nat.reduceBneDiff, Int.reduceLE, Int.reduceLT, Int.reduceToNat, Int.reduceAdd, Int.reduceSub, Int.reduceMul, Int.reduceNeg, nP, dw, noRat]) | ((with_reducible refine gcall_eq (hp) ?_ ?_ ?_); (with_reducible rfl); rfl) | ((with_reducible refine gcall_eq (o1) ?_ ?_ ?_); (with_reducible rfl); rfl) | ((with_reducible refine gcall_eq (o2) ?_ ?_ ?_); (with_reducible rfl); rfl) | ((with_reducible refine gcall_eq (o3) ?_ ?_ ?_); (with_reducible rfl); rfl) | ((with_reducible refine gcall_eq (o4) ?_ ?_ ?_); (with_reducible rfl); rfl) | ((with_reducible refine gcall_eq (x1) ?_ ?_ ?_); (with_reducible rfl); rfl) | ((with_reducible refine gcall_eq (x2) ?_ ?_ ?_); (with_reducible rfl); rfl) | ((with_reducible refine gcall_eq (hlo) ?_ ?_ ?_); (with_reducible rfl); rfl) | (with_reducible exact drawQ_true _ _ (by kernel_rfl)) | (with_reducible refine And.intro (drawQ_true _ _ (by kernel_rfl)) ?_))
  | false =>
    rw [outQ_f hB] at hlo ⊢
    refine sound_go (tb := []) 28 [.cell 4 32, .tmp 5] [0, 1, 2, 3, 4, 5, 9] mixed Tryz.func63 rfl (by kernel_rfl) (by kernel_rfl) (by kernel_rfl) (by kernel_rfl) ?_
    repeat (first | (simp -implicitDefEqProofs only [go_sem, Nat.reduceAdd, Nat.reduceMul, Nat.reduceEqDiff, Nat.reduceLT, Nat.reduceLeDiff, Nat.reduceSub, Nat.reduceBEq, reduceIte, reduceCtorEq, Int.reduceEq, Int.reduceNe, Nat.reduceBneDiff, Int.reduceLE, Int.reduceLT, Int.reduceToNat, Int.reduceAdd, Int.reduceSub, Int.reduceMul, Int.reduceNeg, nP, dw, ratPV]) | ((with_reducible refine gcall_eq (hp) ?_ ?_ ?_); (with_reducible rfl); rfl) | ((with_reducible refine gcall_eq (o1) ?_ ?_ ?_); (with_reducible rfl); rfl) | ((with_reducible refine gcall_eq (o2) ?_ ?_ ?_); (with_reducible rfl); rfl) | ((with_reducible refine gcall_eq (o3) ?_ ?_ ?_); (with_reducible rfl); rfl) | ((with_reducible refine gcall_eq (o4) ?_ ?_ ?_); (with_reducible rfl); rfl) | ((with_reducible refine gcall_eq (x1) ?_ ?_ ?_); (with_reducible rfl); rfl) | ((with_reducible refine gcall_eq (x2) ?_ ?_ ?_); (with_reducible rfl); rfl) | ((with_reducible refine gcall_eq (hlo) ?_ ?_ ?_); (with_reducible rfl); rfl) | (with_reducible exact drawQ_true _ _ (by kernel_rfl)) | (with_reducible refine And.intro (drawQ_true _ _ (by kernel_rfl)) ?_))
end Go.Proofs.YtnpclmmmngmdkaaGreat
