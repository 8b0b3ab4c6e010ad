/-
  FW31, FW32, FA11 (merged for the claim).
-/
import Derived.Test.YtnpclmmmngmdkaaGreatFW30
import Derived.Test.YtnpclmmmngmdkaaGreatFW1
import Derived.Test.YtnpclmmmngmdkaaGreatFW22
set_option linter.unusedSimpArgs false
set_option linter.unusedVariables false
namespace Go.Proofs.YtnpclmmmngmdkaaGreat
open Go.Vl Go.RowKit Go.Dg

/-- A valid ratio. -/
def vRat (n : Bool) (s : ByteArray) (m : Bool) (t : ByteArray) : Bool := validB n s.data.toList && (validB m t.data.toList && (!m && !(t.data.toList == [])))
theorem bnum_pos {n : Bool} {l : List UInt8} (h : validB n l = true) (h0 : l ≠ []) : 0 < bnum l := by
  cases l with
  | nil => exact absurd rfl h0
  | cons c r =>
    simp only [validB, Bool.and_eq_true] at h
    have hc : c.toNat ≠ 0 := fun e => by
      have : c ≠ 0 := by simpa using h.2
      exact this (UInt8.toNat_inj.1 (by simpa using e))
    rw [bnum_cons]
    have hp : 0 < c.toNat * 256 ^ r.length := Nat.mul_pos (Nat.pos_of_ne_zero hc) (Nat.pow_pos (by decide))
    omega
theorem wnum_sign {m : Bool} {t : ByteArray} (h : validB m t.data.toList = true) : decide (0 < (wnum m t).sign) = (!m && !(t.data.toList == [])) := by
  by_cases h0 : t.data.toList = []
  · have e : wnum m t = 0 := by unfold wnum sv; rw [h0]; cases m <;> rfl
    rw [e, h0]; simp
  · have hb := bnum_pos h h0
    rw [empty_eq h0]
    unfold wnum sv
    cases m with
    | false => simp only [Bool.false_eq_true, if_false, Bool.not_false, Bool.and_self]; rw [Int.sign_eq_one_of_pos (by omega)]; rfl
    | true => simp only [if_true, Bool.not_true, Bool.false_and]; rw [Int.sign_eq_neg_one_of_neg (by omega)]; rfl
theorem wValidRatio_v (n : Bool) (s : ByteArray) (m : Bool) (t : ByteArray) (ht : t.size ≤ 100000) : SoundAt Tryz.prog 118 [.agg [.bool n, .str s, .bool m, .str t]] (.bool (vRat n s m t)) := by
  have hb := both_v n m s t
  unfold vRat
  cases h1 : validB n s.data.toList with
  | false =>
    rw [h1, Bool.false_and] at hb
    rw [Bool.false_and]
    refine sound_go (tb := []) 14 [.tmp 2] [0, 1, 2] mixed Tryz.func118 rfl (by kernel_rfl) (by kernel_rfl) (by kernel_rfl) (by kernel_rfl) ?_
    repeat (first | (simp -implicitDefEqProofs only [go_sem, Nat.reduceAdd, Nat.reduceMul, Nat.reduceEqDiff, Nat.reduceLT, Nat.reduceLeDiff, Nat.reduceSub, Nat.reduceBEq, reduceIte, reduceCtorEq, Int.reduceEq, Int.reduceNe, Nat.reduceBneDiff, Int.reduceLE, Int.reduceLT, Int.reduceToNat, Int.reduceAdd, Int.reduceSub, Int.reduceMul, Int.reduceNeg]) | ((with_reducible refine gcall_eq (hb) ?_ ?_ ?_); (with_reducible rfl); rfl) | (with_reducible exact drawQ_true _ _ (by kernel_rfl)) | (with_reducible refine And.intro (drawQ_true _ _ (by kernel_rfl)) ?_))
  | true =>
    rw [h1, Bool.true_and] at hb
    rw [Bool.true_and]
    cases h2 : validB m t.data.toList with
    | false =>
      rw [h2] at hb
      rw [Bool.false_and]
      refine sound_go (tb := []) 14 [.tmp 2] [0, 1, 2] mixed Tryz.func118 rfl (by kernel_rfl) (by kernel_rfl) (by kernel_rfl) (by kernel_rfl) ?_
      repeat (first | (simp -implicitDefEqProofs only [go_sem, Nat.reduceAdd, Nat.reduceMul, Nat.reduceEqDiff, Nat.reduceLT, Nat.reduceLeDiff, Nat.reduceSub, Nat.reduceBEq, reduceIte, reduceCtorEq, Int.reduceEq, Int.reduceNe, Nat.reduceBneDiff, Int.reduceLE, Int.reduceLT, Int.reduceToNat, Int.reduceAdd, Int.reduceSub, Int.reduceMul, Int.reduceNeg]) | ((with_reducible refine gcall_eq (hb) ?_ ?_ ?_); (with_reducible rfl); rfl) | (with_reducible exact drawQ_true _ _ (by kernel_rfl)) | (with_reducible refine And.intro (drawQ_true _ _ (by kernel_rfl)) ?_))
    | true =>
      rw [h2] at hb
      have hs := wSign_v m t h2 ht
      rw [Bool.true_and, ← wnum_sign h2]
      refine sound_go (tb := []) 14 [.tmp 2] [0, 1, 2] mixed Tryz.func118 rfl (by kernel_rfl) (by kernel_rfl) (by kernel_rfl) (by kernel_rfl) ?_
      repeat (first | (simp -implicitDefEqProofs only [go_sem, Nat.reduceAdd, Nat.reduceMul, Nat.reduceEqDiff, Nat.reduceLT, Nat.reduceLeDiff, Nat.reduceSub, Nat.reduceBEq, reduceIte, reduceCtorEq, Int.reduceEq, Int.reduceNe, Nat.reduceBneDiff, Int.reduceLE, Int.reduceLT, Int.reduceToNat, Int.reduceAdd, Int.reduceSub, Int.reduceMul, Int.reduceNeg]) | ((with_reducible refine gcall_eq (hb) ?_ ?_ ?_); (with_reducible rfl); rfl) | ((with_reducible refine gcall_eq (hs) ?_ ?_ ?_); (with_reducible rfl); rfl) | (with_reducible exact drawQ_true _ _ (by kernel_rfl)) | (with_reducible refine And.intro (drawQ_true _ _ (by kernel_rfl)) ?_))
theorem wpair_v (n1 m1 n2 m2 : Bool) (s1 t1 s2 t2 : ByteArray) (h1 : t1.size ≤ 100000) (h2 : t2.size ≤ 100000) : SoundAt Tryz.prog 99 [.agg [.bool n1, .str s1, .bool m1, .str t1], .agg [.bool n2, .str s2, .bool m2, .str t2]] (.bool (vRat n1 s1 m1 t1 && vRat n2 s2 m2 t2)) := by
  have a1 := wValidRatio_v n1 s1 m1 t1 h1
  have a2 := wValidRatio_v n2 s2 m2 t2 h2
  cases hv : vRat n1 s1 m1 t1 with
  | false =>
    rw [hv] at a1
    rw [Bool.false_and]
    refine sound_go (tb := []) 11 [.tmp 4] [0, 1, 2, 3, 4] mixed Tryz.func99 rfl (by kernel_rfl) (by kernel_rfl) (by kernel_rfl) (by kernel_rfl) ?_
    repeat (first | (simp -implicitDefEqProofs only [go_sem, Nat.reduceAdd, Nat.reduceMul, Nat.reduceEqDiff, Nat.reduceLT, Nat.reduceLeDiff, Nat.reduceSub, Nat.reduceBEq, reduceIte, reduceCtorEq, Int.reduceEq, Int.reduceNe, Nat.reduceBneDiff, Int.reduceLE, Int.reduceLT, Int.reduceToNat, Int.reduceAdd, Int.reduceSub, Int.reduceMul, Int.reduceNeg]) | ((with_reducible refine gcall_eq (a1) ?_ ?_ ?_); (with_reducible rfl); rfl) | (with_reducible exact drawQ_true _ _ (by kernel_rfl)) | (with_reducible refine And.intro (drawQ_true _ _ (by kernel_rfl)) ?_))
  | true =>
    rw [hv] at a1
    rw [Bool.true_and]
    refine sound_go (tb := []) 11 [.tmp 4] [0, 1, 2, 3, 4] mixed Tryz.func99 rfl (by kernel_rfl) (by kernel_rfl) (by kernel_rfl) (by kernel_rfl) ?_
    repeat (first | (simp -implicitDefEqProofs only [go_sem, Nat.reduceAdd, Nat.reduceMul, Nat.reduceEqDiff, Nat.reduceLT, Nat.reduceLeDiff, Nat.reduceSub, Nat.reduceBEq, reduceIte, reduceCtorEq, Int.reduceEq, Int.reduceNe, Nat.reduceBneDiff, Int.reduceLE, Int.reduceLT, Int.reduceToNat, Int.reduceAdd, Int.reduceSub, Int.reduceMul, Int.reduceNeg]) | ((with_reducible refine gcall_eq (a1) ?_ ?_ ?_); (with_reducible rfl); rfl) | ((with_reducible refine gcall_eq (a2) ?_ ?_ ?_); (with_reducible rfl); rfl) | (with_reducible exact drawQ_true _ _ (by kernel_rfl)) | (with_reducible refine And.intro (drawQ_true _ _ (by kernel_rfl)) ?_))
/-- The greatest common divisor, with the sign of the denominator. -/
def gN (x y : Int) : Int := if y < 0 then -((Nat.gcd x.natAbs y.natAbs : Nat) : Int) else ((Nat.gcd x.natAbs y.natAbs : Nat) : Int)
def lowN (x y : Int) : Int := x / gN x y
def lowD (x y : Int) : Int := y / gN x y
/-- A ratio, as the calls hand it back. -/
def ratPV (x y : Int) : PV := .agg [.bool (decide (x < 0)), .str ⟨(magL x.natAbs).toArray⟩, .bool (decide (y < 0)), .str ⟨(magL y.natAbs).toArray⟩]
def big (x y : Int) : Bool := decide (65536 < blen x.natAbs) || decide (65536 < blen y.natAbs)
def noRat (e : Int) : PV := .tup [.agg [.bool false, .str ⟨#[]⟩, .bool false, .str ⟨#[]⟩], .int .i64 e]
def outQ (x y : Int) : PV := if big x y = true then noRat 7 else .tup [ratPV x y, .int .i64 0]
theorem outQ_t {x y : Int} (h : big x y = true) : outQ x y = noRat 7 := by rw [outQ, if_pos h]
theorem outQ_f {x y : Int} (h : big x y = false) : outQ x y = .tup [ratPV x y, .int .i64 0] := by rw [outQ, if_neg (by rw [h]; decide)]
theorem sv_abs (n : Bool) (m : Nat) : (sv n m).natAbs = m := by cases n <;> simp [sv]
theorem sv_neg {n : Bool} {m : Nat} (h : 0 < m) : (sv n m < 0) = (n = true) := by cases n <;> simp [sv] <;> omega
theorem gN_sv (xn yn : Bool) (a b : Nat) (hb : 0 < b) : gN (sv xn a) (sv yn b) = sv yn (Nat.gcd a b) := by
  unfold gN
  rw [sv_abs, sv_abs]
  simp only [sv_neg hb]
  cases yn <;> rfl
theorem outPV_no {n : Int} (h : 65536 < blen n.natAbs) : outPV n = .tup [.agg [.bool false, .str ⟨#[]⟩], .int .i64 7] := by rw [outPV, if_pos h, wPV_zero]
theorem outPV_yes {n : Int} (h : ¬ 65536 < blen n.natAbs) : outPV n = .tup [.agg [.bool (decide (n < 0)), .str ⟨(magL n.natAbs).toArray⟩], .int .i64 0] := by rw [outPV, if_neg h]; rfl
theorem wlowest_v (xn yn : Bool) (a b : Nat) (hb : 0 < b) (ha : (digs BW a).length ≤ 900000) (hbl : (digs BW b).length ≤ 900000) :
    SoundAt Tryz.prog 100 [nP xn a, nP yn b] (outQ (lowN (sv xn a) (sv yn b)) (lowD (sv xn a) (sv yn b))) := by
  have hg := wgcd_v a b (by omega) (by omega)
  have hgp : 0 < Nat.gcd a b := Nat.gcd_pos_of_pos_right _ hb
  have hgl : (digs BW (Nat.gcd a b)).length ≤ 900000 := Nat.le_trans (LW_mono (Nat.gcd_le_right _ hb)) hbl
  have d1 := ndiv_v xn yn a (Nat.gcd a b) hgp (by omega) (by omega)
  have d2 := ndiv_v yn yn b (Nat.gcd a b) hgp (by omega) (by omega)
  have w1 := nwide_v (!(xn == yn)) (nqn xn a (Nat.gcd a b)) (Nat.le_trans (LW_mono (nqn_le _ _ _)) (Nat.le_trans (LW_succ _) (by omega)))
  have w2 := nwide_v (!(yn == yn)) (nqn yn b (Nat.gcd a b)) (Nat.le_trans (LW_mono (nqn_le _ _ _)) (Nat.le_trans (LW_succ _) (by omega)))
  rw [(div_sv xn yn a _ hgp).1] at w1
  rw [(div_sv yn yn b _ hgp).1] at w2
  have e0 : (!(yn == yn)) = false := by cases yn <;> rfl
  rw [e0] at d2 w2
  unfold lowN lowD
  rw [gN_sv _ _ _ _ hb]
  generalize sv xn a / sv yn (Nat.gcd a b) = n at *
  generalize sv yn b / sv yn (Nat.gcd a b) = d at *
  generalize nqn xn a (Nat.gcd a b) = q1 at *
  generalize nqn yn b (Nat.gcd a b) = q2 at *
  generalize nrn xn a (Nat.gcd a b) = r1 at *
  generalize nrn yn b (Nat.gcd a b) = r2 at *
  generalize Nat.gcd a b = g at *
  generalize (!(xn == yn)) = s at *
  have z1 : ((7 : Int) != 0) = true := rfl
  have z0 : ((0 : Int) != 0) = false := rfl
  by_cases h1 : 65536 < blen n.natAbs
  · rw [outQ_t (by simp [big, h1])]
    rw [outPV_no h1] at w1
    by_cases h2 : 65536 < blen d.natAbs
    · rw [outPV_no h2] at w2
      refine sound_go (tb := []) 51 [.cell 4 32, .tmp 5] [0, 1, 2, 3, 4, 5, 6, 7, 8, 9, 10, 46] mixed Tryz.func100 rfl (by kernel_rfl) (by kernel_rfl) (by kernel_rfl) (by kernel_rfl) ?_
      repeat (first | (simp -implicitDefEqProofs only [go_sem, Nat.reduceAdd, Nat.reduceMul, Nat.reduceEqDiff, Nat.reduceLT, Nat.reduceLeDiff, Nat.reduceSub, Nat.reduceBEq, reduceIte, reduceCtorEq, Int.reduceEq, Int.reduceNe, Nat.reduceBneDiff, Int.reduceLE, Int.reduceLT, Int.reduceToNat, Int.reduceAdd, Int.reduceSub, Int.reduceMul, Int.reduceNeg, nP, dw, z1, z0, noRat]) | ((with_reducible refine gcall_eq (hg) ?_ ?_ ?_); (with_reducible rfl); rfl) | ((with_reducible refine gcall_eq (d1) ?_ ?_ ?_); (with_reducible rfl); rfl) | ((with_reducible refine gcall_eq (d2) ?_ ?_ ?_); (with_reducible rfl); rfl) | ((with_reducible refine gcall_eq (w1) ?_ ?_ ?_); (with_reducible rfl); rfl) | ((with_reducible refine gcall_eq (w2) ?_ ?_ ?_); (with_reducible rfl); rfl) | (with_reducible exact drawQ_true _ _ (by kernel_rfl)) | (with_reducible refine And.intro (drawQ_true _ _ (by kernel_rfl)) ?_))
    · rw [outPV_yes h2] at w2
      refine sound_go (tb := []) 51 [.cell 4 32, .tmp 5] [0, 1, 2, 3, 4, 5, 6, 7, 8, 9, 10, 46] mixed Tryz.func100 rfl (by kernel_rfl) (by kernel_rfl) (by kernel_rfl) (by kernel_rfl) ?_
      repeat (first | (simp -implicitDefEqProofs only [go_sem, Nat.reduceAdd, Nat.reduceMul, Nat.reduceEqDiff, Nat.reduceLT, Nat.reduceLeDiff, Nat.reduceSub, Nat.reduceBEq, reduceIte, reduceCtorEq, Int.reduceEq, Int.reduceNe, Nat.reduceBneDiff, Int.reduceLE, Int.reduceLT, Int.reduceToNat, Int.reduceAdd, Int.reduceSub, Int.reduceMul, Int.reduceNeg, nP, dw, z1, z0, noRat]) | ((with_reducible refine gcall_eq (hg) ?_ ?_ ?_); (with_reducible rfl); rfl) | ((with_reducible refine gcall_eq (d1) ?_ ?_ ?_); (with_reducible rfl); rfl) | ((with_reducible refine gcall_eq (d2) ?_ ?_ ?_); (with_reducible rfl); rfl) | ((with_reducible refine gcall_eq (w1) ?_ ?_ ?_); (with_reducible rfl); rfl) | ((with_reducible refine gcall_eq (w2) ?_ ?_ ?_); (with_reducible rfl); rfl) | (with_reducible exact drawQ_true _ _ (by kernel_rfl)) | (with_reducible refine And.intro (drawQ_true _ _ (by kernel_rfl)) ?_))
  · rw [outPV_yes h1] at w1
    by_cases h2 : 65536 < blen d.natAbs
    · rw [outQ_t (by simp [big, h2])]
      rw [outPV_no h2] at w2
      refine sound_go (tb := []) 51 [.cell 4 32, .tmp 5] [0, 1, 2, 3, 4, 5, 6, 7, 8, 9, 10, 46] mixed Tryz.func100 rfl (by kernel_rfl) (by kernel_rfl) (by kernel_rfl) (by kernel_rfl) ?_
      repeat (first | (simp -implicitDefEqProofs only [go_sem, Nat.reduceAdd, Nat.reduceMul, Nat.reduceEqDiff, Nat.reduceLT, Nat.reduceLeDiff, Nat.reduceSub, Nat.reduceBEq, reduceIte, reduceCtorEq, Int.reduceEq, Int.reduceNe, Nat.reduceBneDiff, Int.reduceLE, Int.reduceLT, Int.reduceToNat, Int.reduceAdd, Int.reduceSub, Int.reduceMul, Int.reduceNeg, nP, dw, z1, z0, noRat]) | ((with_reducible refine gcall_eq (hg) ?_ ?_ ?_); (with_reducible rfl); rfl) | ((with_reducible refine gcall_eq (d1) ?_ ?_ ?_); (with_reducible rfl); rfl) | ((with_reducible refine gcall_eq (d2) ?_ ?_ ?_); (with_reducible rfl); rfl) | ((with_reducible refine gcall_eq (w1) ?_ ?_ ?_); (with_reducible rfl); rfl) | ((with_reducible refine gcall_eq (w2) ?_ ?_ ?_); (with_reducible rfl); rfl) | (with_reducible exact drawQ_true _ _ (by kernel_rfl)) | (with_reducible refine And.intro (drawQ_true _ _ (by kernel_rfl)) ?_))
    · rw [outQ_f (by simp only [big, h1, h2, decide_false, Bool.or_self])]
      rw [outPV_yes h2] at w2
      refine sound_go (tb := []) 51 [.cell 4 32, .tmp 5] [0, 1, 2, 3, 4, 5, 6, 7, 8, 9, 10, 46] mixed Tryz.func100 rfl (by kernel_rfl) (by kernel_rfl) (by kernel_rfl) (by kernel_rfl) ?_
      repeat (first | (simp -implicitDefEqProofs only [go_sem, Nat.reduceAdd, Nat.reduceMul, Nat.reduceEqDiff, Nat.reduceLT, Nat.reduceLeDiff, Nat.reduceSub, Nat.reduceBEq, reduceIte, reduceCtorEq, Int.reduceEq, Int.reduceNe, Nat.reduceBneDiff, Int.reduceLE, Int.reduceLT, Int.reduceToNat, Int.reduceAdd, Int.reduceSub, Int.reduceMul, Int.reduceNeg, nP, dw, z1, z0, ratPV]) | ((with_reducible refine gcall_eq (hg) ?_ ?_ ?_); (with_reducible rfl); rfl) | ((with_reducible refine gcall_eq (d1) ?_ ?_ ?_); (with_reducible rfl); rfl) | ((with_reducible refine gcall_eq (d2) ?_ ?_ ?_); (with_reducible rfl); rfl) | ((with_reducible refine gcall_eq (w1) ?_ ?_ ?_); (with_reducible rfl); rfl) | ((with_reducible refine gcall_eq (w2) ?_ ?_ ?_); (with_reducible rfl); rfl) | (with_reducible exact drawQ_true _ _ (by kernel_rfl)) | (with_reducible refine And.intro (drawQ_true _ _ (by kernel_rfl)) ?_))
theorem wRatio_no (an bn : Bool) (a b : ByteArray) (h : (validB an a.data.toList && validB bn b.data.toList) = false) : SoundAt Tryz.prog 84 [.agg [.bool an, .str a], .agg [.bool bn, .str b]] (noRat 2) := by
  have hv := both_v an bn a b
  rw [h] at hv
  refine sound_go (tb := []) 22 [.cell 4 32, .tmp 5] [0, 1, 2, 3, 4, 5, 9, 13] mixed Tryz.func84 rfl (by kernel_rfl) (by kernel_rfl) (by kernel_rfl) (by kernel_rfl) ?_
  repeat (first | (simp -implicitDefEqProofs only [go_sem, Nat.reduceAdd, Nat.reduceMul, Nat.reduceEqDiff, Nat.reduceLT, Nat.reduceLeDiff, Nat.reduceSub, Nat.reduceBEq, reduceIte, reduceCtorEq, Int.reduceEq, Int.reduceNe, Nat.reduceBneDiff, Int.reduceLE, Int.reduceLT, Int.reduceToNat, Int.reduceAdd, Int.reduceSub, Int.reduceMul, Int.reduceNeg, noRat]) | ((with_reducible refine gcall_eq (hv) ?_ ?_ ?_); (with_reducible rfl); rfl) | (with_reducible exact drawQ_true _ _ (by kernel_rfl)) | (with_reducible refine And.intro (drawQ_true _ _ (by kernel_rfl)) ?_))
theorem wRatio_zero (an bn : Bool) (a b : ByteArray) (h1 : validB an a.data.toList = true) (h2 : validB bn b.data.toList = true) (h0 : b.data.toList = []) : SoundAt Tryz.prog 84 [.agg [.bool an, .str a], .agg [.bool bn, .str b]] (noRat 3) := by
  have hv := both_v an bn a b
  rw [h1, h2, Bool.true_and] at hv
  have e : (([] : List UInt8) == []) = true := rfl
  refine sound_go (tb := []) 22 [.cell 4 32, .tmp 5] [0, 1, 2, 3, 4, 5, 9, 13] mixed Tryz.func84 rfl (by kernel_rfl) (by kernel_rfl) (by kernel_rfl) (by kernel_rfl) ?_
  repeat (first | (simp -implicitDefEqProofs only [go_sem, Nat.reduceAdd, Nat.reduceMul, Nat.reduceEqDiff, Nat.reduceLT, Nat.reduceLeDiff, Nat.reduceSub, Nat.reduceBEq, reduceIte, reduceCtorEq, Int.reduceEq, Int.reduceNe, Nat.reduceBneDiff, Int.reduceLE, Int.reduceLT, Int.reduceToNat, Int.reduceAdd, Int.reduceSub, Int.reduceMul, Int.reduceNeg, noRat, h0, e]) | ((with_reducible refine gcall_eq (hv) ?_ ?_ ?_); (with_reducible rfl); rfl) | (with_reducible exact drawQ_true _ _ (by kernel_rfl)) | (with_reducible refine And.intro (drawQ_true _ _ (by kernel_rfl)) ?_))
theorem wRatio_v (an bn : Bool) (a b : ByteArray) (h1 : validB an a.data.toList = true) (h2 : validB bn b.data.toList = true) (h0 : b.data.toList ≠ []) (ha : a.size ≤ 100000) (hb : b.size ≤ 100000) :
    SoundAt Tryz.prog 84 [.agg [.bool an, .str a], .agg [.bool bn, .str b]] (outQ (lowN (wnum an a) (wnum bn b)) (lowD (wnum an a) (wnum bn b))) := by
  have hv := both_v an bn a b
  rw [h1, h2, Bool.true_and] at hv
  have hL1 := L_bnum a ha
  have hL2 := L_bnum b hb
  have hoa := wof_v an a h1 (by omega)
  have hob := wof_v bn b h2 (by omega)
  have he := empty_eq h0
  have hl := wlowest_v an bn _ _ (bnum_pos h2 h0) (by omega : (digs BW (bnum a.data.toList)).length ≤ 900000) (by omega)
  unfold wnum
  generalize lowN (sv an (bnum a.data.toList)) (sv bn (bnum b.data.toList)) = N at *
  generalize lowD (sv an (bnum a.data.toList)) (sv bn (bnum b.data.toList)) = D at *
  cases hB : big N D with
  | true =>
    rw [outQ_t hB] at hl ⊢
    refine sound_go (tb := []) 22 [.cell 4 32, .tmp 5] [0, 1, 2, 3, 4, 5, 9, 13] mixed Tryz.func84 rfl (by kernel_rfl) (by kernel_rfl) (by kernel_rfl) (by kernel_rfl) ?_
    repeat (first | (simp -implicitDefEqProofs only [go_sem, Nat.reduceAdd, Nat.reduceMul, Nat.reduceEqDiff, Nat.reduceLT, Nat.reduceLeDiff, Nat.reduceSub, Nat.reduceBEq, reduceIte, reduceCtorEq, Int.reduceEq, Int.reduceNe, Nat.reduceBneDiff, Int.reduceLE, Int.reduceLT, Int.reduceToNat, Int.reduceAdd, Int.reduceSub, Int.reduceMul, Int.reduceNeg, he, nP, dw, noRat]) | ((with_reducible refine gcall_eq (hv) ?_ ?_ ?_); (with_reducible rfl); rfl) | ((with_reducible refine gcall_eq (hoa) ?_ ?_ ?_); (with_reducible rfl); rfl) | ((with_reducible refine gcall_eq (hob) ?_ ?_ ?_); (with_reducible rfl); rfl) | ((with_reducible refine gcall_eq (hl) ?_ ?_ ?_); (with_reducible rfl); rfl) | (with_reducible exact drawQ_true _ _ (by kernel_rfl)) | (with_reducible refine And.intro (drawQ_true _ _ (by kernel_rfl)) ?_))
  | false =>
    rw [outQ_f hB] at hl ⊢
    refine sound_go (tb := []) 22 [.cell 4 32, .tmp 5] [0, 1, 2, 3, 4, 5, 9, 13] mixed Tryz.func84 rfl (by kernel_rfl) (by kernel_rfl) (by kernel_rfl) (by kernel_rfl) ?_
    repeat (first | (simp -implicitDefEqProofs only [go_sem, Nat.reduceAdd, Nat.reduceMul, Nat.reduceEqDiff, Nat.reduceLT, Nat.reduceLeDiff, Nat.reduceSub, Nat.reduceBEq, reduceIte, reduceCtorEq, Int.reduceEq, Int.reduceNe, Nat.reduceBneDiff, Int.reduceLE, Int.reduceLT, Int.reduceToNat, Int.reduceAdd, Int.reduceSub, Int.reduceMul, Int.reduceNeg, he, nP, dw, ratPV]) | ((with_reducible refine gcall_eq (hv) ?_ ?_ ?_); (with_reducible rfl); rfl) | ((with_reducible refine gcall_eq (hoa) ?_ ?_ ?_); (with_reducible rfl); rfl) | ((with_reducible refine gcall_eq (hob) ?_ ?_ ?_); (with_reducible rfl); rfl) | ((with_reducible refine gcall_eq (hl) ?_ ?_ ?_); (with_reducible rfl); rfl) | (with_reducible exact drawQ_true _ _ (by kernel_rfl)) | (with_reducible refine And.intro (drawQ_true _ _ (by kernel_rfl)) ?_))
end Go.Proofs.YtnpclmmmngmdkaaGreat

namespace Go.Proofs.YtnpclmmmngmdkaaGreat
open Go.Vl Go.RowKit Go.Dg

theorem magL_nil (n : Int) : (magL n.natAbs = []) ↔ n = 0 := by
  have h := magL_length n.natAbs
  constructor
  · intro e
    rw [e] at h
    have := (digs_eq_nil (B := 256) (by decide)).1 (List.length_eq_zero_iff.1 h.symm)
    omega
  · rintro rfl; simp [magL, digs_zero]
theorem vRat_parts {n m : Bool} {s t : ByteArray} (h : vRat n s m t = true) : validB n s.data.toList = true ∧ validB m t.data.toList = true ∧ m = false ∧ t.data.toList ≠ [] := by
  simp only [vRat, Bool.and_eq_true] at h
  refine ⟨h.1, h.2.1, by simpa using h.2.2.1, by simpa using h.2.2.2⟩
theorem sumL (x y m : Nat) (hm : m ≤ x + y) (k : Nat) (h1 : (digs BW x).length ≤ k) (h2 : (digs BW y).length ≤ k) : (digs BW m).length ≤ k + 1 := L_addW x y m k hm h1 h2
theorem wcrossed_v (n1 m1 n2 m2 : Bool) (s1 t1 s2 t2 : ByteArray) (hv1 : vRat n1 s1 m1 t1 = true) (hv2 : vRat n2 s2 m2 t2 = true) (a1 : s1.size ≤ 100000) (a2 : t1.size ≤ 100000) (a3 : s2.size ≤ 100000) (a4 : t2.size ≤ 100000) :
    SoundAt Tryz.prog 109 [.agg [.bool n1, .str s1, .bool m1, .str t1], .agg [.bool n2, .str s2, .bool m2, .str t2]]
      (.tup [nP (!(n1 == m2)) (bnum s1.data.toList * bnum t2.data.toList), nP (!(n2 == m1)) (bnum s2.data.toList * bnum t1.data.toList), nP (!(m1 == m2)) (bnum t1.data.toList * bnum t2.data.toList)]) := by
  obtain ⟨p1, p2, _, _⟩ := vRat_parts hv1
  obtain ⟨p3, p4, _, _⟩ := vRat_parts hv2
  have o1 := wof_v n1 s1 p1 (by omega)
  have o2 := wof_v m1 t1 p2 (by omega)
  have o3 := wof_v n2 s2 p3 (by omega)
  have o4 := wof_v m2 t2 p4 (by omega)
  have l1 := L_bnum s1 a1
  have l2 := L_bnum t1 a2
  have l3 := L_bnum s2 a3
  have l4 := L_bnum t2 a4
  have x1 := nmul_v n1 m2 (bnum s1.data.toList) (bnum t2.data.toList) (by omega)
  have x2 := nmul_v n2 m1 (bnum s2.data.toList) (bnum t1.data.toList) (by omega)
  have x3 := nmul_v m1 m2 (bnum t1.data.toList) (bnum t2.data.toList) (by omega)
  generalize (!(n1 == m2)) = b1 at *
  generalize (!(n2 == m1)) = b2 at *
  generalize (!(m1 == m2)) = b3 at *
  refine sound_go (tb := []) 28 [.cell 4 121, .cell 5 121, .cell 6 121] [0, 1, 2, 3, 4, 5, 6] mixed Tryz.func109 rfl (by kernel_rfl) (by kernel_rfl) (by kernel_rfl) (by kernel_rfl) ?_
  repeat (first | (simp -implicitDefEqProofs only [go_sem, Nat.reduceAdd, Nat.reduceMul, Nat.reduceEqDiff, Nat.reduceLT, Nat.reduceLeDiff, Nat.reduceSub, Nat.reduceBEq, reduceIte, reduceCtorEq, Int.reduceEq, Int.reduceNe, Nat.reduceBneDiff, Int.reduceLE, Int.reduceLT, Int.reduceToNat, Int.reduceAdd, Int.reduceSub, Int.reduceMul, Int.reduceNeg, nP, dw]) | ((with_reducible refine gcall_eq (o1) ?_ ?_ ?_); (with_reducible rfl); rfl) | ((with_reducible refine gcall_eq (o2) ?_ ?_ ?_); (with_reducible rfl); rfl) | ((with_reducible refine gcall_eq (o3) ?_ ?_ ?_); (with_reducible rfl); rfl) | ((with_reducible refine gcall_eq (o4) ?_ ?_ ?_); (with_reducible rfl); rfl) | ((with_reducible refine gcall_eq (x1) ?_ ?_ ?_); (with_reducible rfl); rfl) | ((with_reducible refine gcall_eq (x2) ?_ ?_ ?_); (with_reducible rfl); rfl) | ((with_reducible refine gcall_eq (x3) ?_ ?_ ?_); (with_reducible rfl); rfl) | (with_reducible exact drawQ_true _ _ (by kernel_rfl)) | (with_reducible refine And.intro (drawQ_true _ _ (by kernel_rfl)) ?_))
theorem wCompareRatio_no (n1 m1 n2 m2 : Bool) (s1 t1 s2 t2 : ByteArray) (h : (vRat n1 s1 m1 t1 && vRat n2 s2 m2 t2) = false) (a2 : t1.size ≤ 100000) (a4 : t2.size ≤ 100000) :
    SoundAt Tryz.prog 85 [.agg [.bool n1, .str s1, .bool m1, .str t1], .agg [.bool n2, .str s2, .bool m2, .str t2]] (.tup [.int .i64 0, .int .i64 2]) := by
  have hp := wpair_v n1 m1 n2 m2 s1 t1 s2 t2 a2 a4
  rw [h] at hp
  refine sound_go (tb := []) 25 [.tmp 4, .tmp 5] [0, 1, 2, 3, 4, 5, 6, 7, 12] mixed Tryz.func85 rfl (by kernel_rfl) (by kernel_rfl) (by kernel_rfl) (by kernel_rfl) ?_
  repeat (first | (simp -implicitDefEqProofs only [go_sem, Nat.reduceAdd, Nat.reduceMul, Nat.reduceEqDiff, Nat.reduceLT, Nat.reduceLeDiff, Nat.reduceSub, Nat.reduceBEq, reduceIte, reduceCtorEq, Int.reduceEq, Int.reduceNe, Nat.reduceBneDiff, Int.reduceLE, Int.reduceLT, Int.reduceToNat, Int.reduceAdd, Int.reduceSub, Int.reduceMul, Int.reduceNeg]) | ((with_reducible refine gcall_eq (hp) ?_ ?_ ?_); (with_reducible rfl); rfl) | (with_reducible exact drawQ_true _ _ (by kernel_rfl)) | (with_reducible refine And.intro (drawQ_true _ _ (by kernel_rfl)) ?_))
theorem wCompareRatio_v (n1 m1 n2 m2 : Bool) (s1 t1 s2 t2 : ByteArray) (hv1 : vRat n1 s1 m1 t1 = true) (hv2 : vRat n2 s2 m2 t2 = true) (a1 : s1.size ≤ 100000) (a2 : t1.size ≤ 100000) (a3 : s2.size ≤ 100000) (a4 : t2.size ≤ 100000) :
    SoundAt Tryz.prog 85 [.agg [.bool n1, .str s1, .bool m1, .str t1], .agg [.bool n2, .str s2, .bool m2, .str t2]] (.tup [.int .i64 (wnum n1 s1 * wnum m2 t2 - wnum n2 s2 * wnum m1 t1).sign, .int .i64 0]) := by
  have hp := wpair_v n1 m1 n2 m2 s1 t1 s2 t2 a2 a4
  rw [hv1, hv2, Bool.true_and] at hp
  have hc := wcrossed_v n1 m1 n2 m2 s1 t1 s2 t2 hv1 hv2 a1 a2 a3 a4
  have l1 := L_bnum s1 a1
  have l2 := L_bnum t1 a2
  have l3 := L_bnum s2 a3
  have l4 := L_bnum t2 a4
  have q1 := mulL (bnum s1.data.toList) (bnum t2.data.toList)
  have q2 := mulL (bnum s2.data.toList) (bnum t1.data.toList)
  have hn := nneg_v (!(n2 == m1)) (bnum s2.data.toList * bnum t1.data.toList)
  obtain ⟨n, m, hs, e, hm⟩ := nadd_v (!(n1 == m2)) (!(!(n2 == m1))) (bnum s1.data.toList * bnum t2.data.toList) (bnum s2.data.toList * bnum t1.data.toList) (by omega) (by omega)
  have hg := nsign_v n m
  have e3 : sv n m = wnum n1 s1 * wnum m2 t2 - wnum n2 s2 * wnum m1 t1 := by
    have flip : ∀ (b : Bool) (m : Nat), sv (!b) m = -(sv b m) := by intro b m; cases b <;> simp [sv]
    rw [e, flip (!(n2 == m1)), mul_sv, mul_sv, Int.sub_eq_add_neg]; rfl
  rw [e3] at hg
  generalize (!(n1 == m2)) = b1 at *
  generalize (!(n2 == m1)) = b2 at *
  generalize (!(m1 == m2)) = b3 at *
  generalize (!b2) = b4 at *
  refine sound_go (tb := []) 25 [.tmp 4, .tmp 5] [0, 1, 2, 3, 4, 5, 6, 7, 12] mixed Tryz.func85 rfl (by kernel_rfl) (by kernel_rfl) (by kernel_rfl) (by kernel_rfl) ?_
  repeat (first | (simp -implicitDefEqProofs only [go_sem, Nat.reduceAdd, Nat.reduceMul, Nat.reduceEqDiff, Nat.reduceLT, Nat.reduceLeDiff, Nat.reduceSub, Nat.reduceBEq, reduceIte, reduceCtorEq, Int.reduceEq, Int.reduceNe, Nat.reduceBneDiff, Int.reduceLE, Int.reduceLT, Int.reduceToNat, Int.reduceAdd, Int.reduceSub, Int.reduceMul, Int.reduceNeg, nP, dw]) | ((with_reducible refine gcall_eq (hp) ?_ ?_ ?_); (with_reducible rfl); rfl) | ((with_reducible refine gcall_eq (hc) ?_ ?_ ?_); (with_reducible rfl); rfl) | ((with_reducible refine gcall_eq (hn) ?_ ?_ ?_); (with_reducible rfl); rfl) | ((with_reducible refine gcall_eq (hs) ?_ ?_ ?_); (with_reducible rfl); rfl) | ((with_reducible refine gcall_eq (hg) ?_ ?_ ?_); (with_reducible rfl); rfl) | (with_reducible exact drawQ_true _ _ (by kernel_rfl)) | (with_reducible refine And.intro (drawQ_true _ _ (by kernel_rfl)) ?_))
theorem wMulRatio_no (n1 m1 n2 m2 : Bool) (s1 t1 s2 t2 : ByteArray) (h : (vRat n1 s1 m1 t1 && vRat n2 s2 m2 t2) = false) (a2 : t1.size ≤ 100000) (a4 : t2.size ≤ 100000) :
    SoundAt Tryz.prog 63 [.agg [.bool n1, .str s1, .bool m1, .str t1], .agg [.bool n2, .str s2, .bool m2, .str t2]] (noRat 2) := by
  have hp := wpair_v n1 m1 n2 m2 s1 t1 s2 t2 a2 a4
  rw [h] at hp
  refine sound_go (tb := []) 28 [.cell 4 32, .tmp 5] [0, 1, 2, 3, 4, 5, 9] mixed Tryz.func63 rfl (by kernel_rfl) (by kernel_rfl) (by kernel_rfl) (by kernel_rfl) ?_
  repeat (first | (simp -implicitDefEqProofs only [go_sem, Nat.reduceAdd, Nat.reduceMul, Nat.reduceEqDiff, Nat.reduceLT, Nat.reduceLeDiff, Nat.reduceSub, Nat.reduceBEq, reduceIte, reduceCtorEq, Int.reduceEq, Int.reduceNe, Nat.reduceBneDiff, Int.reduceLE, Int.reduceLT, Int.reduceToNat, Int.reduceAdd, Int.reduceSub, Int.reduceMul, Int.reduceNeg, noRat]) | ((with_reducible refine gcall_eq (hp) ?_ ?_ ?_); (with_reducible rfl); rfl) | (with_reducible exact drawQ_true _ _ (by kernel_rfl)) | (with_reducible refine And.intro (drawQ_true _ _ (by kernel_rfl)) ?_))
theorem wMulRatio_v (n1 m1 n2 m2 : Bool) (s1 t1 s2 t2 : ByteArray) (hv1 : vRat n1 s1 m1 t1 = true) (hv2 : vRat n2 s2 m2 t2 = true) (a1 : s1.size ≤ 100000) (a2 : t1.size ≤ 100000) (a3 : s2.size ≤ 100000) (a4 : t2.size ≤ 100000) :
    SoundAt Tryz.prog 63 [.agg [.bool n1, .str s1, .bool m1, .str t1], .agg [.bool n2, .str s2, .bool m2, .str t2]] (outQ (lowN (wnum n1 s1 * wnum n2 s2) (wnum m1 t1 * wnum m2 t2)) (lowD (wnum n1 s1 * wnum n2 s2) (wnum m1 t1 * wnum m2 t2))) := by
  have hp := wpair_v n1 m1 n2 m2 s1 t1 s2 t2 a2 a4
  rw [hv1, hv2, Bool.true_and] at hp
  obtain ⟨p1, p2, _, p5⟩ := vRat_parts hv1
  obtain ⟨p3, p4, _, p6⟩ := vRat_parts hv2
  have o1 := wof_v n1 s1 p1 (by omega)
  have o2 := wof_v m1 t1 p2 (by omega)
  have o3 := wof_v n2 s2 p3 (by omega)
  have o4 := wof_v m2 t2 p4 (by omega)
  have l1 := L_bnum s1 a1
  have l2 := L_bnum t1 a2
  have l3 := L_bnum s2 a3
  have l4 := L_bnum t2 a4
  have q1 := mulL (bnum s1.data.toList) (bnum s2.data.toList)
  have q3 := mulL (bnum t1.data.toList) (bnum t2.data.toList)
  have x1 := nmul_v n1 n2 (bnum s1.data.toList) (bnum s2.data.toList) (by omega)
  have x2 := nmul_v m1 m2 (bnum t1.data.toList) (bnum t2.data.toList) (by omega)
  have hlo := wlowest_v (!(n1 == n2)) (!(m1 == m2)) (bnum s1.data.toList * bnum s2.data.toList) (bnum t1.data.toList * bnum t2.data.toList) (Nat.mul_pos (bnum_pos p2 p5) (bnum_pos p4 p6)) (by omega) (by omega)
  rw [mul_sv, mul_sv] at hlo
  unfold wnum
  generalize lowN (sv n1 (bnum s1.data.toList) * sv n2 (bnum s2.data.toList)) (sv m1 (bnum t1.data.toList) * sv m2 (bnum t2.data.toList)) = N at *
  generalize lowD (sv n1 (bnum s1.data.toList) * sv n2 (bnum s2.data.toList)) (sv m1 (bnum t1.data.toList) * sv m2 (bnum t2.data.toList)) = D at *
  generalize (!(n1 == n2)) = b1 at *
  generalize (!(m1 == m2)) = b3 at *
  cases hB : big N D with
  | true =>
    rw [outQ_t hB] at hlo ⊢
    refine sound_go (tb := []) 28 [.cell 4 32, .tmp 5] [0, 1, 2, 3, 4, 5, 9] mixed Tryz.func63 rfl (by kernel_rfl) (by kernel_rfl) (by kernel_rfl) (by kernel_rfl) ?_
    repeat (first | (simp -implicitDefEqProofs only [go_sem, Nat.reduceAdd, Nat.reduceMul, Nat.reduceEqDiff, Nat.reduceLT, Nat.reduceLeDiff, Nat.reduceSub, Nat.reduceBEq, reduceIte, reduceCtorEq, Int.reduceEq, Int.reduceNe, Nat.reduceBneDiff, Int.reduceLE, Int.reduceLT, Int.reduceToNat, Int.reduceAdd, Int.reduceSub, Int.reduceMul, Int.reduceNeg, nP, dw, noRat]) | ((with_reducible refine gcall_eq (hp) ?_ ?_ ?_); (with_reducible rfl); rfl) | ((with_reducible refine gcall_eq (o1) ?_ ?_ ?_); (with_reducible rfl); rfl) | ((with_reducible refine gcall_eq (o2) ?_ ?_ ?_); (with_reducible rfl); rfl) | ((with_reducible refine gcall_eq (o3) ?_ ?_ ?_); (with_reducible rfl); rfl) | ((with_reducible refine gcall_eq (o4) ?_ ?_ ?_); (with_reducible rfl); rfl) | ((with_reducible refine gcall_eq (x1) ?_ ?_ ?_); (with_reducible rfl); rfl) | ((with_reducible refine gcall_eq (x2) ?_ ?_ ?_); (with_reducible rfl); rfl) | ((with_reducible refine gcall_eq (hlo) ?_ ?_ ?_); (with_reducible rfl); rfl) | (with_reducible exact drawQ_true _ _ (by kernel_rfl)) | (with_reducible refine And.intro (drawQ_true _ _ (by kernel_rfl)) ?_))
  | false =>
    rw [outQ_f hB] at hlo ⊢
    refine sound_go (tb := []) 28 [.cell 4 32, .tmp 5] [0, 1, 2, 3, 4, 5, 9] mixed Tryz.func63 rfl (by kernel_rfl) (by kernel_rfl) (by kernel_rfl) (by kernel_rfl) ?_
    repeat (first | (simp -implicitDefEqProofs only [go_sem, Nat.reduceAdd, Nat.reduceMul, Nat.reduceEqDiff, Nat.reduceLT, Nat.reduceLeDiff, Nat.reduceSub, Nat.reduceBEq, reduceIte, reduceCtorEq, Int.reduceEq, Int.reduceNe, Nat.reduceBneDiff, Int.reduceLE, Int.reduceLT, Int.reduceToNat, Int.reduceAdd, Int.reduceSub, Int.reduceMul, Int.reduceNeg, nP, dw, ratPV]) | ((with_reducible refine gcall_eq (hp) ?_ ?_ ?_); (with_reducible rfl); rfl) | ((with_reducible refine gcall_eq (o1) ?_ ?_ ?_); (with_reducible rfl); rfl) | ((with_reducible refine gcall_eq (o2) ?_ ?_ ?_); (with_reducible rfl); rfl) | ((with_reducible refine gcall_eq (o3) ?_ ?_ ?_); (with_reducible rfl); rfl) | ((with_reducible refine gcall_eq (o4) ?_ ?_ ?_); (with_reducible rfl); rfl) | ((with_reducible refine gcall_eq (x1) ?_ ?_ ?_); (with_reducible rfl); rfl) | ((with_reducible refine gcall_eq (x2) ?_ ?_ ?_); (with_reducible rfl); rfl) | ((with_reducible refine gcall_eq (hlo) ?_ ?_ ?_); (with_reducible rfl); rfl) | (with_reducible exact drawQ_true _ _ (by kernel_rfl)) | (with_reducible refine And.intro (drawQ_true _ _ (by kernel_rfl)) ?_))
end Go.Proofs.YtnpclmmmngmdkaaGreat

namespace Go.Proofs.YtnpclmmmngmdkaaGreat
open Go.Vl Go.RowKit Go.Dg

theorem digs_up (r d : Nat) (hd : d < E9) : trimZ (d :: digs E9 r) = digs E9 (r * E9 + d) := by
  rw [trimZ_eq E9_2 (d :: digs E9 r) (by
    intro x hx
    rcases List.mem_cons.1 hx with rfl | hx
    · exact hd
    · exact digs_mem_lt E9_2 hx)]
  congr 1
  simp only [val, val_digs E9_2]
  rw [Nat.mul_comm, Nat.add_comm]
theorem mix_same (V N i : Nat) (hi : i < N) (h : V / E9 ^ i % E9 = 0) : mix E9 0 V N (i + 1) = mix E9 0 V N i := by
  have h1 := mix_down (B := E9) (V := 0) (S := V) (N := N) (i := i) (d := 0) hi h
  rw [← h1]
  apply List.ext_getElem?
  intro j
  rw [List.getElem?_set]
  by_cases e : i = j
  · subst e
    simp only [if_true]
    rw [if_pos (by rw [mix_length]; exact hi), mix_get _ _ _ _ _ hi, if_pos (by omega)]
    simp
  · simp [e]
theorem app1 (d : Nat) (D : List PV) (bx : Bx) (hb : bx 606 = none) (h4 : bx 604 = some { els := [.int .i64 (d : Int)], esz := 1, ety := 3, fro := 0, live := true, arr := true }) (hD : D.length ≤ 1000000000) (hok : D.all (fun e => e.cells.length == 1 && e.cells.all PV.okCell) = true) :
    opVal Tryz.prog [] 606 (.call ⟨.builtin .append, #[.tmp 26, .tmp 27], #[35, 35]⟩) [.bs 604 1 0 1, .slc D] bx =
      some (.done (.bs 606 1 0 (1 + D.length)) [.kill 604, .new 606 { els := .int .i64 (d : Int) :: D, esz := 1, ety := 3, fro := 0, live := true, arr := true }], [(606, true), (604, true)]) := by
  have c1 : ((1 + D.length) * 8 ≤ 140737488355328) = True := by simp only [eq_iff_iff, iff_true]; omega
  have c2 : (1 + D.length ≤ maxLen) = True := by simp only [eq_iff_iff, iff_true]; unfold maxLen; omega
  skip
  simp -implicitDefEqProofs only [go_sem, Nat.reduceAdd, Nat.reduceMul, Nat.reduceEqDiff, Nat.reduceLT, Nat.reduceLeDiff, Nat.reduceSub, Nat.reduceBEq, reduceIte, reduceCtorEq, Int.reduceEq, Int.reduceNe, Nat.reduceBneDiff, Int.reduceLE, Int.reduceLT, Int.reduceToNat, Int.reduceAdd, Int.reduceSub, Int.reduceMul, Int.reduceNeg, hok, c1, c2, hb, h4]
theorem call_bs {P : Program} (id : Nat) (bx : Bx) (fo : Operand) (as0 : Array Operand) (ts : Array TypeId) (f b esz len : Nat) (B : Box) (xs : List PV) (hB : bx b = some B) (ha : B.arr = true) (he : B.esz = esz) (hx : B.els = xs) (hl : len = xs.length) :
    opVal P [] id (.call ⟨.value fo, as0, ts⟩) [.fn f [] [], .bs b esz 0 len] bx = some (.call f [.slc xs] [.fro b len], [(b, false)]) := by
  subst hx; subst hl; subst he
  rw [o_call0]
  have e1 : (B.soft.arr && B.soft.esz == B.esz && decide (B.els.length ≤ B.soft.els.length)) = true := by simp [Box.soft, ha]
  have e2 : (List.drop 0 B.soft.els).take B.els.length = B.els := by rw [List.drop_zero]; exact List.take_of_length_le (Nat.le_refl _)
  have h0 : esc0 (.bs b B.esz 0 B.els.length) bx = some ((.slc B.els, [.fro b B.els.length]), [(b, false)]) := by
    simp only [esc0, M.bind, M.soft, hB, M.ok, Nat.zero_add, e1, if_true, M.pure, List.nil_append, List.append_nil, e2, List.cons_append]
  have h1 : esc1L [.bs b B.esz 0 B.els.length] bx = some (([.slc B.els], [.fro b B.els.length]), [(b, false)]) := by
    simp only [esc1L, esc1, escC, M.bind, h0, M.pure, List.nil_append, List.append_nil]
  simp only [M.bind, escCL, M.pure, h1, List.nil_append, List.append_nil]
set_option maxHeartbeats 1000000 in
theorem rover_v (a b : Nat) (hb : 0 < b) (ha : (digs E9 a).length ≤ 10000000) (hbl : (digs E9 b).length ≤ 10000000) : SoundAt Tryz.prog 111 [di (digs E9 a), di (digs E9 b)] (.tup [di (digs E9 (a / b)), di (digs E9 (a % b))]) := by
  refine sound_go (tb := []) 63 [.tmp 4, .tmp 5] [0, 1, 4, 5, 6, 7, 8, 9, 10, 11, 19, 33, 36, 47] mixed Tryz.func111 rfl (by kernel_rfl) (by kernel_rfl) (by kernel_rfl) (by kernel_rfl) ?_
  have hn0 : ((0 : Int) ≤ ((digs E9 a).length : Int)) = True := by simp
  have hn1 : ((8 : Nat) : Int) * ((digs E9 a).length : Int) ≤ 281474976710656 := by omega
  have hn2 : ((digs E9 a).length : Int) ≤ 9223372036854775807 := by omega
  have hlt : a < E9 ^ (digs E9 a).length := lt_pow_len E9_2 a
  have hw : IntKind.i64.wrap (((digs E9 a).length : Int) - 1) = ((digs E9 a).length : Int) - 1 := wrap_i64 (by omega) (by omega)
  simp -implicitDefEqProofs only [go_sem, Nat.reduceAdd, Nat.reduceMul, Nat.reduceEqDiff, Nat.reduceLT, Nat.reduceLeDiff, Nat.reduceSub, Nat.reduceBEq, reduceIte, reduceCtorEq, Int.reduceEq, Int.reduceNe, Nat.reduceBneDiff, Int.reduceLE, Int.reduceLT, Int.reduceToNat, Int.reduceAdd, Int.reduceSub, Int.reduceMul, Int.reduceNeg, di, List.length_map, hn0, hn1, hn2, Int.toNat_natCast, hw]
  generalize hN : (digs E9 a).length = N at *
  have hrep : List.replicate N (PV.int .i64 0) = (mix E9 0 (a / b) N N).map fI := by rw [mix_full, lows_zero]; simp
  rw [hrep]
  refine g_loop mixed (fun i : { i : Nat // i ≤ N } => St.of [(0, di (digs E9 a)), (1, di (digs E9 b)), (6, .bs 102 1 0 N), (7, di (digs E9 (a / E9 ^ i.1 % b))), (8, .int .i64 ((i.1 : Int) - 1))]
    [(102, { els := (mix E9 0 (a / b) N i.1).map fI, esz := 1, ety := 3, fro := 0, live := true, arr := true })]) (fun i => i.1) ⟨N, Nat.le_refl _⟩ ?_ ?_
  · refine Le.trans (le_slc0G 7 rfl) (le_of (θ := [(102, 102)]) rfl ?_ ?_)
    · simp [varsLe, lkp, ren1, ren0, di, Nat.div_eq_of_lt hlt, digs_zero]
    · simp [boxesLe, lkp, Box.renames]
  · rintro ⟨i, hi⟩
    cases i with
    | zero =>
      have h1 : ((0 : Int) ≤ ((0 : Nat) : Int) - 1) = False := by simp
      have hll := lows_length (B := E9) (a / b) N
      have htk : ((lows E9 (a / b) N).map fI).take N = (lows E9 (a / b) N).map fI := List.take_of_length_le (by simp [hll])
      have e0 : a / E9 ^ 0 % b = a % b := by rw [Nat.pow_zero, Nat.div_one]
      simp -implicitDefEqProofs only [go_sem, Nat.reduceAdd, Nat.reduceMul, Nat.reduceEqDiff, Nat.reduceLT, Nat.reduceLeDiff, Nat.reduceSub, Nat.reduceBEq, reduceIte, reduceCtorEq, Int.reduceEq, Int.reduceNe, Nat.reduceBneDiff, Int.reduceLE, Int.reduceLT, Int.reduceToNat, Int.reduceAdd, Int.reduceSub, Int.reduceMul, Int.reduceNeg, h1, mix_none, List.length_map, hll, htk]
      refine gcall_intro _ _ _ _ _ _ _ _ _ (rtrim_v (lows E9 (a / b) N) (by rw [hll]; simp [maxLen]; omega)) ?_
      simp -implicitDefEqProofs only [go_sem, Nat.reduceAdd, Nat.reduceMul, Nat.reduceEqDiff, Nat.reduceLT, Nat.reduceLeDiff, Nat.reduceSub, Nat.reduceBEq, reduceIte, reduceCtorEq, Int.reduceEq, Int.reduceNe, Nat.reduceBneDiff, Int.reduceLE, Int.reduceLT, Int.reduceToNat, Int.reduceAdd, Int.reduceSub, Int.reduceMul, Int.reduceNeg, di, e0]
      rw [trimZ_lows E9_2, Nat.mod_eq_of_lt (Nat.lt_of_le_of_lt (Nat.div_le_self _ _) hlt)]
    | succ i =>
      have hs : (((i + 1 : Nat) : Int) - 1) = (i : Int) := by omega
      have h1 : ((0 : Int) ≤ (i : Int)) = True := by simp
      have h2 : ((i : Int) < (N : Int)) = True := by simp; omega
      have hga := digs_get_lt E9_2 (show i < (digs E9 a).length by omega)
      have e0 : a / E9 ^ (i + 1) = a / E9 ^ i / E9 := by rw [Nat.pow_succ, Nat.div_div_eq_div_mul]
      obtain ⟨s1, s2⟩ := small_step (a / E9 ^ i) b E9 (by decide) hb
      have e1 : a / E9 ^ i / b = a / b / E9 ^ i := by rw [Nat.div_div_eq_div_mul, Nat.div_div_eq_div_mul, Nat.mul_comm]
      rw [← e0] at s1 s2
      rw [e1] at s1
      have hset := mix_down (B := E9) (V := 0) (S := a / b) (N := N) (i := i) (d := a / b / E9 ^ i % E9) (by omega) rfl
      have hsame := mix_same (a / b) N i (by omega)
      have hml := mix_length (B := E9) 0 (a / b) N (i + 1)
      obtain ⟨e, hgo⟩ : ∃ e : Nat, ((mix E9 0 (a / b) N (i + 1)).map fI)[i]? = some (PV.int .i64 (e : Int)) := ⟨_, by rw [List.getElem?_map, mix_get _ _ _ _ _ (by omega)]; rfl⟩
      have hdl : a / E9 ^ i % E9 < E9 := Nat.mod_lt _ (by decide)
      have hrl : a / E9 ^ (i + 1) % b < b := Nat.mod_lt _ hb
      have hup := digs_up (a / E9 ^ (i + 1) % b) (a / E9 ^ i % E9) hdl
      have hL1 : (digs E9 (a / E9 ^ (i + 1) % b)).length ≤ 10000000 := Nat.le_trans (L_mono (Nat.le_of_lt hrl)) hbl
      have w4 : IntKind.i64.wrap ((i : Int) - 1) = (i : Int) - 1 := wrap_i64 (by omega) (by omega)
      generalize a / E9 ^ i % E9 = d at *
      generalize a / E9 ^ (i + 1) % b = ρ at *
      have ht := rtrim_v (d :: digs E9 ρ) (by rw [List.length_cons]; unfold maxLen; omega)
      rw [hup, di, List.map_cons] at ht
      have hL2 : (digs E9 (ρ * E9 + d)).length ≤ 10000001 := by
        refine Nat.le_trans ((digs_len_le E9_2 _ ((digs E9 b).length + 1)).2 ?_) (Nat.succ_le_succ hbl)
        have h5 := Nat.mul_le_mul_right E9 (show ρ + 1 ≤ b from hrl)
        have h6 := Nat.mul_lt_mul_of_pos_right (lt_pow_len E9_2 b) (show 0 < E9 by decide)
        rw [Nat.add_mul, Nat.one_mul] at h5
        rw [Nat.pow_succ]
        exact Nat.lt_trans (Nat.lt_of_lt_of_le (Nat.add_lt_add_left hdl _) h5) h6
      have c1 : ((1 + (digs E9 ρ).length) * 8 ≤ 140737488355328) = True := by simp only [eq_iff_iff, iff_true]; omega
      have c2 : (1 + (digs E9 ρ).length ≤ maxLen) = True := by simp only [eq_iff_iff, iff_true]; unfold maxLen; omega
      have hok : ((digs E9 ρ).map fI).all (fun e => e.cells.length == 1 && e.cells.all PV.okCell) = true := by rw [List.all_map, List.all_eq_true]; intro _ _; rfl
      have hor := rorder_v (ρ * E9 + d) b (by omega)
      have c3 : (1 + (digs E9 ρ).length ≤ (digs E9 ρ).length + 1) = True := by simp only [eq_iff_iff, iff_true]; omega
      have c4 : List.take (1 + (digs E9 ρ).length) (PV.int .i64 (d : Int) :: (digs E9 ρ).map fI) = PV.int .i64 (d : Int) :: (digs E9 ρ).map fI := List.take_of_length_le (by rw [List.length_cons, List.length_map, Nat.add_comm]; exact Nat.le_refl _)
      generalize hR : ρ * E9 + d = R at *
      generalize digs E9 ρ = D at *
      have hap := fun (bx : Bx) h1 h2 => app1 d (D.map fI) bx h1 h2 (by rw [List.length_map]; omega) hok
      rw [List.length_map] at hap
      have hca := fun (bx : Bx) hB => call_bs (P := Tryz.prog) 607 bx (.func 73) #[.tmp 28] #[35] 73 606 1 (1 + D.length) { els := .int .i64 (d : Int) :: D.map fI, esz := 1, ety := 3, fro := 0, live := true, arr := true } (.int .i64 (d : Int) :: D.map fI) hB rfl rfl rfl (by rw [List.length_cons, List.length_map, Nat.add_comm])
      simp -implicitDefEqProofs only [go_sem, Nat.reduceAdd, Nat.reduceMul, Nat.reduceEqDiff, Nat.reduceLT, Nat.reduceLeDiff, Nat.reduceSub, Nat.reduceBEq, reduceIte, reduceCtorEq, Int.reduceEq, Int.reduceNe, Nat.reduceBneDiff, Int.reduceLE, Int.reduceLT, Int.reduceToNat, Int.reduceAdd, Int.reduceSub, Int.reduceMul, Int.reduceNeg, di, hs, h1, h2, di_get, hga, Int.toNat_natCast, List.length_map, hap, hca]
      refine gcall_intro _ _ _ _ _ _ _ _ _ ht ?_
      simp -implicitDefEqProofs only [go_sem, Nat.reduceAdd, Nat.reduceMul, Nat.reduceEqDiff, Nat.reduceLT, Nat.reduceLeDiff, Nat.reduceSub, Nat.reduceBEq, reduceIte, reduceCtorEq, Int.reduceEq, Int.reduceNe, Nat.reduceBneDiff, Int.reduceLE, Int.reduceLT, Int.reduceToNat, Int.reduceAdd, Int.reduceSub, Int.reduceMul, Int.reduceNeg, di]
      refine gcall_intro _ _ _ _ _ _ _ _ _ hor ?_
      by_cases hc : R < b
      · have hc' : (cmpN R b < 0) = True := by rw [cmpN_lt hc]; simp
        have hq0 : R / b = 0 := Nat.div_eq_of_lt hc
        rw [hq0] at s1
        rw [Nat.mod_eq_of_lt hc] at s2
        simp -implicitDefEqProofs only [go_sem, Nat.reduceAdd, Nat.reduceMul, Nat.reduceEqDiff, Nat.reduceLT, Nat.reduceLeDiff, Nat.reduceSub, Nat.reduceBEq, reduceIte, reduceCtorEq, Int.reduceEq, Int.reduceNe, Nat.reduceBneDiff, Int.reduceLE, Int.reduceLT, Int.reduceToNat, Int.reduceAdd, Int.reduceSub, Int.reduceMul, Int.reduceNeg, hc', w4]
        refine ⟨⟨i, by omega⟩, by simp only; omega, le_of (θ := [(102, 102)]) rfl ?_ ?_⟩
        · simp [varsLe, lkp, ren1, ren0, di, ← s2]
        · simp [boxesLe, lkp, Box.renames, hsame s1.symm]
      · have hc' : (cmpN R b < 0) = False := by simp [cmpN]; omega
        have hQ : R / b < E9 := by
          rw [Nat.div_lt_iff_lt_mul hb, ← hR, Nat.mul_comm E9]
          have := Nat.mul_le_mul_right E9 (show ρ + 1 ≤ b from hrl)
          rw [Nat.add_mul] at this
          omega
        simp -implicitDefEqProofs only [go_sem, Nat.reduceAdd, Nat.reduceMul, Nat.reduceEqDiff, Nat.reduceLT, Nat.reduceLeDiff, Nat.reduceSub, Nat.reduceBEq, reduceIte, reduceCtorEq, Int.reduceEq, Int.reduceNe, Nat.reduceBneDiff, Int.reduceLE, Int.reduceLT, Int.reduceToNat, Int.reduceAdd, Int.reduceSub, Int.reduceMul, Int.reduceNeg, hc']
        refine g_loop mixed (fun p : { p : Nat × Nat // p.1 ≤ R / b ∧ R / b ≤ p.2 ∧ p.2 < E9 } => St.of [(0, di (digs E9 a)), (1, di (digs E9 b)), (6, .bs 102 1 0 N), (7, di (digs E9 R)), (8, .int .i64 (i : Int)), (9, .int .i64 (p.1.1 : Int)), (10, .int .i64 (p.1.2 : Int))]
          [(102, { els := (mix E9 0 (a / b) N (i + 1)).map fI, esz := 1, ety := 3, fro := 0, live := true, arr := true })]) (fun p => p.1.2 - p.1.1) ⟨(0, 999999999), Nat.zero_le _, by simp only [E9] at hQ; omega, by decide⟩ ?_ ?_
        · refine le_of (θ := [(102, 102)]) rfl ?_ ?_
          · simp [varsLe, lkp, ren1, ren0, di]
          · simp [boxesLe, lkp, Box.renames]
        · rintro ⟨⟨lo, hi⟩, p1, p2, p3⟩
          simp only at p1 p2 p3 ⊢
          simp only [E9] at p3
          by_cases hlh : lo < hi
          · have g1 : ((lo : Int) < (hi : Int)) = True := by simp; omega
            have w1 := wrap_add (a := lo) (b := hi) (by omega)
            have w2 := wrap_add1 (a := lo + hi) (by omega)
            have t2 : Int.tdiv ((lo + hi + 1 : Nat) : Int) 2 = (((lo + hi + 1) / 2 : Nat) : Int) := rfl
            have w3 := wrapn (n := (lo + hi + 1) / 2) (by omega)
            generalize hmid : (lo + hi + 1) / 2 = mid at *
            have hsm := rsmall_v b mid (by simp only [E9]; omega) (by omega)
            have hLb : (digs E9 (b * mid)).length ≤ 1000000000 := by
              refine Nat.le_trans ((digs_len_le E9_2 _ ((digs E9 b).length + 1)).2 ?_) (show (digs E9 b).length + 1 ≤ 1000000000 by omega)
              rw [Nat.pow_succ]
              exact Nat.mul_lt_mul_of_lt_of_le (lt_pow_len E9_2 b) (show mid ≤ E9 by simp only [E9]; omega) (by decide)
            have ho := rorder_v (b * mid) R hLb
            have hiff : b * mid ≤ R ↔ mid ≤ R / b := by rw [Nat.le_div_iff_mul_le hb, Nat.mul_comm]
            simp -implicitDefEqProofs only [go_sem, Nat.reduceAdd, Nat.reduceMul, Nat.reduceEqDiff, Nat.reduceLT, Nat.reduceLeDiff, Nat.reduceSub, Nat.reduceBEq, reduceIte, reduceCtorEq, Int.reduceEq, Int.reduceNe, Nat.reduceBneDiff, Int.reduceLE, Int.reduceLT, Int.reduceToNat, Int.reduceAdd, Int.reduceSub, Int.reduceMul, Int.reduceNeg, di, g1, w1, w2, t2, w3]
            refine gcall_intro _ _ _ _ _ _ _ _ _ hsm ?_
            simp -implicitDefEqProofs only [go_sem, Nat.reduceAdd, Nat.reduceMul, Nat.reduceEqDiff, Nat.reduceLT, Nat.reduceLeDiff, Nat.reduceSub, Nat.reduceBEq, reduceIte, reduceCtorEq, Int.reduceEq, Int.reduceNe, Nat.reduceBneDiff, Int.reduceLE, Int.reduceLT, Int.reduceToNat, Int.reduceAdd, Int.reduceSub, Int.reduceMul, Int.reduceNeg, di]
            refine gcall_intro _ _ _ _ _ _ _ _ _ ho ?_
            by_cases hm : b * mid ≤ R
            · have g2 : (cmpN (b * mid) R ≤ 0) = True := by simp [cmpN]; omega
              have hm2 := hiff.1 hm
              simp -implicitDefEqProofs only [go_sem, Nat.reduceAdd, Nat.reduceMul, Nat.reduceEqDiff, Nat.reduceLT, Nat.reduceLeDiff, Nat.reduceSub, Nat.reduceBEq, reduceIte, reduceCtorEq, Int.reduceEq, Int.reduceNe, Nat.reduceBneDiff, Int.reduceLE, Int.reduceLT, Int.reduceToNat, Int.reduceAdd, Int.reduceSub, Int.reduceMul, Int.reduceNeg, g2]
              refine ⟨⟨(mid, hi), hm2, p2, by simp only [E9]; omega⟩, by simp only; omega, le_of (θ := [(102, 102)]) rfl ?_ ?_⟩
              · simp [varsLe, lkp, ren1, ren0, di]
              · simp [boxesLe, lkp, Box.renames]
            · have g2 : (cmpN (b * mid) R ≤ 0) = False := by simp [cmpN]; omega
              have hm2 := mt hiff.2 hm
              have w5 : IntKind.i64.wrap ((mid : Int) - 1) = ((mid - 1 : Nat) : Int) := by rw [wrap_i64 (by omega) (by omega)]; omega
              simp -implicitDefEqProofs only [go_sem, Nat.reduceAdd, Nat.reduceMul, Nat.reduceEqDiff, Nat.reduceLT, Nat.reduceLeDiff, Nat.reduceSub, Nat.reduceBEq, reduceIte, reduceCtorEq, Int.reduceEq, Int.reduceNe, Nat.reduceBneDiff, Int.reduceLE, Int.reduceLT, Int.reduceToNat, Int.reduceAdd, Int.reduceSub, Int.reduceMul, Int.reduceNeg, g2, w5]
              refine ⟨⟨(lo, mid - 1), p1, by simp only; omega, by simp only [E9]; omega⟩, by simp only; omega, le_of (θ := [(102, 102)]) rfl ?_ ?_⟩
              · simp [varsLe, lkp, ren1, ren0, di]
              · simp [boxesLe, lkp, Box.renames]
          · have g1 : ((lo : Int) < (hi : Int)) = False := by simp; omega
            obtain rfl : lo = R / b := by omega
            have hsm := rsmall_v b (R / b) hQ (by omega)
            have hle : b * (R / b) ≤ R := Nat.mul_div_le R b
            have hmi := rminus_v R (b * (R / b)) hle (by omega)
            have e3 : R - b * (R / b) = R % b := by have := Nat.div_add_mod R b; omega
            rw [e3, s2] at hmi
            rw [← s1] at hset
            simp -implicitDefEqProofs only [go_sem, Nat.reduceAdd, Nat.reduceMul, Nat.reduceEqDiff, Nat.reduceLT, Nat.reduceLeDiff, Nat.reduceSub, Nat.reduceBEq, reduceIte, reduceCtorEq, Int.reduceEq, Int.reduceNe, Nat.reduceBneDiff, Int.reduceLE, Int.reduceLT, Int.reduceToNat, Int.reduceAdd, Int.reduceSub, Int.reduceMul, Int.reduceNeg, g1, di, hs, h1, h2, Int.toNat_natCast, List.length_map, hml, hgo]
            refine gcall_intro _ _ _ _ _ _ _ _ _ hsm ?_
            simp -implicitDefEqProofs only [go_sem, Nat.reduceAdd, Nat.reduceMul, Nat.reduceEqDiff, Nat.reduceLT, Nat.reduceLeDiff, Nat.reduceSub, Nat.reduceBEq, reduceIte, reduceCtorEq, Int.reduceEq, Int.reduceNe, Nat.reduceBneDiff, Int.reduceLE, Int.reduceLT, Int.reduceToNat, Int.reduceAdd, Int.reduceSub, Int.reduceMul, Int.reduceNeg, di]
            refine gcall_intro _ _ _ _ _ _ _ _ _ hmi ?_
            simp -implicitDefEqProofs only [go_sem, Nat.reduceAdd, Nat.reduceMul, Nat.reduceEqDiff, Nat.reduceLT, Nat.reduceLeDiff, Nat.reduceSub, Nat.reduceBEq, reduceIte, reduceCtorEq, Int.reduceEq, Int.reduceNe, Nat.reduceBneDiff, Int.reduceLE, Int.reduceLT, Int.reduceToNat, Int.reduceAdd, Int.reduceSub, Int.reduceMul, Int.reduceNeg, di, w4]
            refine ⟨⟨i, by omega⟩, by simp only; omega, le_of (θ := [(102, 102)]) rfl ?_ ?_⟩
            · simp [varsLe, lkp, ren1, ren0, di]
            · rw [set_fI, hset]
              simp [boxesLe, lkp, Box.renames]
end Go.Proofs.YtnpclmmmngmdkaaGreat
