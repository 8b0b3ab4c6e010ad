/-
  GG10, GG11 (merged for the claim).
-/
import Derived.Test.YtkajnimlfehmeaaGG9
set_option linter.unusedSimpArgs false
set_option linter.unusedVariables false
namespace Go.Proofs.Ytkajnimlfehmeaa
open Go.Vl Go.RowKit

theorem sq_bound {u : Int} (h : -2097152 ≤ u ∧ u ≤ 2097152) : 0 ≤ u * u ∧ u * u ≤ 4398046511104 := by
  rw [← Int.natAbs_mul_self]
  have h1 : u.natAbs ≤ 2097152 := by omega
  have h2 := Nat.mul_le_mul h1 h1
  omega
def dI (a b : Sky.V3) : Int := (a.x - b.x) * (a.x - b.x) + (a.y - b.y) * (a.y - b.y) + (a.z - b.z) * (a.z - b.z)
def dN (a b : Sky.V3) : Nat := (dI a b).toNat
theorem pt_in {v : Sky.V3} (h : ptU 1048576 v = true) : (-1048576 ≤ v.x ∧ v.x ≤ 1048576) ∧ (-1048576 ≤ v.y ∧ v.y ≤ 1048576) ∧ (-1048576 ≤ v.z ∧ v.z ≤ 1048576) := by
  simp [ptU, inU] at h
  omega
theorem pt_valid {v : Sky.V3} (h : ptU 1048576 v = true) : ptU 16777216 v = true := by
  have := pt_in h
  simp [ptU, inU]
  omega
theorem d_facts {a b : Sky.V3} (ha : ptU 1048576 a = true) (hb : ptU 1048576 b = true) :
    (IntKind.i64.wrap (a.x - b.x) = a.x - b.x ∧ IntKind.i64.wrap (a.y - b.y) = a.y - b.y ∧ IntKind.i64.wrap (a.z - b.z) = a.z - b.z) ∧
    (IntKind.i64.wrap ((a.x - b.x) * (a.x - b.x)) = (a.x - b.x) * (a.x - b.x) ∧ IntKind.i64.wrap ((a.y - b.y) * (a.y - b.y)) = (a.y - b.y) * (a.y - b.y) ∧ IntKind.i64.wrap ((a.z - b.z) * (a.z - b.z)) = (a.z - b.z) * (a.z - b.z)) ∧
    IntKind.i64.wrap ((a.x - b.x) * (a.x - b.x) + (a.y - b.y) * (a.y - b.y)) = (a.x - b.x) * (a.x - b.x) + (a.y - b.y) * (a.y - b.y) ∧
    IntKind.i64.wrap ((a.x - b.x) * (a.x - b.x) + (a.y - b.y) * (a.y - b.y) + (a.z - b.z) * (a.z - b.z)) = dI a b ∧ (dN a b : Int) = dI a b ∧ dN a b ≤ 13194139533312 := by
  have h1 := pt_in ha
  have h2 := pt_in hb
  have q1 := sq_bound (u := a.x - b.x) (by omega)
  have q2 := sq_bound (u := a.y - b.y) (by omega)
  have q3 := sq_bound (u := a.z - b.z) (by omega)
  unfold dN dI
  refine ⟨⟨wrap_i64 (by omega) (by omega), wrap_i64 (by omega) (by omega), wrap_i64 (by omega) (by omega)⟩, ⟨wrap_i64 (by omega) (by omega), wrap_i64 (by omega) (by omega), wrap_i64 (by omega) (by omega)⟩, wrap_i64 (by omega) (by omega), wrap_i64 (by omega) (by omega), by omega, by omega⟩
theorem Distance2_v (a b : Sky.V3) (ha : ptU 1048576 a = true) (hb : ptU 1048576 b = true) : SoundAt Try.prog 31 [v3PV a, v3PV b] (.tup [.int .i64 (dN a b : Int), .int .i64 0]) := by
  obtain ⟨⟨w1, w2, w3⟩, ⟨w4, w5, w6⟩, w7, w8, w9, _⟩ := d_facts ha hb
  have hj := join_v a b
  rw [w1, w2, w3] at hj
  have hd := dot_v ⟨a.x - b.x, a.y - b.y, a.z - b.z⟩ ⟨a.x - b.x, a.y - b.y, a.z - b.z⟩
  simp only [w4, w5, w6, w7, w8] at hd
  rw [w9]
  refine sound_go (tb := []) 21 [.tmp 4, .tmp 5] [0, 1, 2, 3, 4, 5, 6, 14] mixed Try.func31 rfl (by kernel_rfl) (by kernel_rfl) (by kernel_rfl) (by kernel_rfl) ?_
  simp -implicitDefEqProofs only [go_sem, Nat.reduceAdd, Nat.reduceMul, Nat.reduceEqDiff, Nat.reduceLT, Nat.reduceLeDiff, Nat.reduceSub, Nat.reduceBEq, reduceIte, reduceCtorEq, Int.reduceEq, Int.reduceNe, Nat.reduceBneDiff, Int.reduceLE, Int.reduceLT, Int.reduceToNat, Int.reduceAdd, Int.reduceSub, Int.reduceMul, Int.reduceNeg, T_ok3, T_agg3, T_isinfo3, T_info3, T_cells3, T_zero3, T_int3, T_ok4, T_agg4, T_isinfo4, T_info4, T_cells4, T_zero4, T_bool4, T_ok23, T_agg23, T_isinfo23, T_info23, T_cells23, T_zero23, T_build23, T_f23_0, T_p23_0, T_f23_1, T_p23_1, T_f23_2, T_p23_2, T_eqs23, T_ok84, T_agg84, T_isinfo84, T_info84, T_cells84, T_zero84, v3PV, vecPV]
  refine gcall_intro _ _ _ _ _ _ _ _ _ (Valid_v a) ?_
  simp -implicitDefEqProofs only [go_sem, Nat.reduceAdd, Nat.reduceMul, Nat.reduceEqDiff, Nat.reduceLT, Nat.reduceLeDiff, Nat.reduceSub, Nat.reduceBEq, reduceIte, reduceCtorEq, Int.reduceEq, Int.reduceNe, Nat.reduceBneDiff, Int.reduceLE, Int.reduceLT, Int.reduceToNat, Int.reduceAdd, Int.reduceSub, Int.reduceMul, Int.reduceNeg, T_ok3, T_agg3, T_isinfo3, T_info3, T_cells3, T_zero3, T_int3, T_ok4, T_agg4, T_isinfo4, T_info4, T_cells4, T_zero4, T_bool4, T_ok23, T_agg23, T_isinfo23, T_info23, T_cells23, T_zero23, T_build23, T_f23_0, T_p23_0, T_f23_1, T_p23_1, T_f23_2, T_p23_2, T_eqs23, T_ok84, T_agg84, T_isinfo84, T_info84, T_cells84, T_zero84, pt_valid ha]
  refine gcall_intro _ _ _ _ _ _ _ _ _ (Valid_v b) ?_
  simp -implicitDefEqProofs only [go_sem, Nat.reduceAdd, Nat.reduceMul, Nat.reduceEqDiff, Nat.reduceLT, Nat.reduceLeDiff, Nat.reduceSub, Nat.reduceBEq, reduceIte, reduceCtorEq, Int.reduceEq, Int.reduceNe, Nat.reduceBneDiff, Int.reduceLE, Int.reduceLT, Int.reduceToNat, Int.reduceAdd, Int.reduceSub, Int.reduceMul, Int.reduceNeg, T_ok3, T_agg3, T_isinfo3, T_info3, T_cells3, T_zero3, T_int3, T_ok4, T_agg4, T_isinfo4, T_info4, T_cells4, T_zero4, T_bool4, T_ok23, T_agg23, T_isinfo23, T_info23, T_cells23, T_zero23, T_build23, T_f23_0, T_p23_0, T_f23_1, T_p23_1, T_f23_2, T_p23_2, T_eqs23, T_ok84, T_agg84, T_isinfo84, T_info84, T_cells84, T_zero84, pt_valid hb]
  refine gcall_intro _ _ _ _ _ _ _ _ _ hj ?_
  simp -implicitDefEqProofs only [go_sem, Nat.reduceAdd, Nat.reduceMul, Nat.reduceEqDiff, Nat.reduceLT, Nat.reduceLeDiff, Nat.reduceSub, Nat.reduceBEq, reduceIte, reduceCtorEq, Int.reduceEq, Int.reduceNe, Nat.reduceBneDiff, Int.reduceLE, Int.reduceLT, Int.reduceToNat, Int.reduceAdd, Int.reduceSub, Int.reduceMul, Int.reduceNeg, T_ok3, T_agg3, T_isinfo3, T_info3, T_cells3, T_zero3, T_int3, T_ok4, T_agg4, T_isinfo4, T_info4, T_cells4, T_zero4, T_bool4, T_ok23, T_agg23, T_isinfo23, T_info23, T_cells23, T_zero23, T_build23, T_f23_0, T_p23_0, T_f23_1, T_p23_1, T_f23_2, T_p23_2, T_eqs23, T_ok84, T_agg84, T_isinfo84, T_info84, T_cells84, T_zero84, vecPV]
  refine gcall_intro _ _ _ _ _ _ _ _ _ hd ?_
  simp -implicitDefEqProofs only [go_sem, Nat.reduceAdd, Nat.reduceMul, Nat.reduceEqDiff, Nat.reduceLT, Nat.reduceLeDiff, Nat.reduceSub, Nat.reduceBEq, reduceIte, reduceCtorEq, Int.reduceEq, Int.reduceNe, Nat.reduceBneDiff, Int.reduceLE, Int.reduceLT, Int.reduceToNat, Int.reduceAdd, Int.reduceSub, Int.reduceMul, Int.reduceNeg, T_ok3, T_agg3, T_isinfo3, T_info3, T_cells3, T_zero3, T_int3, T_ok4, T_agg4, T_isinfo4, T_info4, T_cells4, T_zero4, T_bool4, T_ok23, T_agg23, T_isinfo23, T_info23, T_cells23, T_zero23, T_build23, T_f23_0, T_p23_0, T_f23_1, T_p23_1, T_f23_2, T_p23_2, T_eqs23, T_ok84, T_agg84, T_isinfo84, T_info84, T_cells84, T_zero84]

def keepsN (S F s c t : Nat) : Bool := !decide (64 * s * s * t * t < S) && !decide (3 * c * c * t * t * t * t < F)
def nbC (n : Nat) : List PV := [.int .u64 ((n / 18446744073709551616 : Nat) : Int), .int .u64 ((n % 18446744073709551616 : Nat) : Int)]
theorem prod5 (s t : Nat) (hs : s ≤ 10000) (ht : t ≤ 3600000) : SoundAt Try.prog 32 [di [64, s, s, t, t]] (nb (64 * s * s * t * t)) := by
  have := product_v [64, s, s, t, t] (by simp) (by simp; omega) (by
    intro k hk
    have b1 : 64 * s ≤ 64 * 10000 := Nat.mul_le_mul_left _ hs
    have b2 := Nat.mul_le_mul b1 hs
    have b3 := Nat.mul_le_mul b2 ht
    have b4 := Nat.mul_le_mul b3 ht
    simp only [List.length_cons, List.length_nil] at hk
    match k, hk with
    | 0, _ => simp [prodN]
    | 1, _ => simp [prodN]
    | 2, _ => simp [prodN]; omega
    | 3, _ => simp [prodN]; omega
    | 4, _ => simp [prodN]; omega
    | 5, _ => simp [prodN]; omega)
  simpa [prodN] using this
theorem prod7 (c t : Nat) (hc : c ≤ 10000) (ht : t ≤ 3600000) : SoundAt Try.prog 32 [di [3, c, c, t, t, t, t]] (nb (3 * c * c * t * t * t * t)) := by
  have := product_v [3, c, c, t, t, t, t] (by simp) (by simp; omega) (by
    intro k hk
    have b1 : 3 * c ≤ 3 * 10000 := Nat.mul_le_mul_left _ hc
    have b2 := Nat.mul_le_mul b1 hc
    have b3 := Nat.mul_le_mul b2 ht
    have b4 := Nat.mul_le_mul b3 ht
    have b5 := Nat.mul_le_mul b4 ht
    have b6 := Nat.mul_le_mul b5 ht
    simp only [List.length_cons, List.length_nil] at hk
    match k, hk with
    | 0, _ => simp [prodN]
    | 1, _ => simp [prodN]
    | 2, _ => simp [prodN]; omega
    | 3, _ => simp [prodN]; omega
    | 4, _ => simp [prodN]; omega
    | 5, _ => simp [prodN]; omega
    | 6, _ => simp [prodN]; omega
    | 7, _ => simp [prodN]; omega)
  simpa [prodN] using this
theorem product3 (a b c : Nat) (ha : a < 9223372036854775808) (hb : b < 9223372036854775808) (hc : c < 9223372036854775808) (h2 : a * b < 340282366920938463463374607431768211456) (h3 : a * b * c < 340282366920938463463374607431768211456) :
    SoundAt Try.prog 32 [di [a, b, c]] (nb (a * b * c)) := by
  have := product_v [a, b, c] (by simp) (by simp [ha, hb, hc]) (by
    intro k hk
    simp only [List.length_cons, List.length_nil] at hk
    match k, hk with
    | 0, _ => simp [prodN]
    | 1, _ => simp [prodN]; omega
    | 2, _ => simp [prodN]; exact h2
    | 3, _ => simp [prodN]; exact h3)
  simpa [prodN] using this
theorem product4 (a b c d : Nat) (ha : a < 9223372036854775808) (hb : b < 9223372036854775808) (hc : c < 9223372036854775808) (hd : d < 9223372036854775808) (h2 : a * b < 340282366920938463463374607431768211456) (h3 : a * b * c < 340282366920938463463374607431768211456)
    (h4 : a * b * c * d < 340282366920938463463374607431768211456) : SoundAt Try.prog 32 [di [a, b, c, d]] (nb (a * b * c * d)) := by
  have := product_v [a, b, c, d] (by simp) (by simp [ha, hb, hc, hd]) (by
    intro k hk
    simp only [List.length_cons, List.length_nil] at hk
    match k, hk with
    | 0, _ => simp [prodN]
    | 1, _ => simp [prodN]; omega
    | 2, _ => simp [prodN]; exact h2
    | 3, _ => simp [prodN]; exact h3
    | 4, _ => simp [prodN]; exact h4)
  simpa [prodN] using this
theorem prodS (d : Nat) (hd : d ≤ 13194139533312) : SoundAt Try.prog 32 [di [225, d, 1000000]] (nb (225 * d * 1000000)) :=
  have b1 := Nat.mul_le_mul_left 225 hd
  have b2 := Nat.mul_le_mul_right 1000000 b1
  product3 225 d 1000000 (by decide) (Nat.lt_of_le_of_lt hd (by decide)) (by decide) (Nat.lt_of_le_of_lt b1 (by decide)) (Nat.lt_of_le_of_lt b2 (by decide))
theorem prodF (d : Nat) (hd : d ≤ 13194139533312) : SoundAt Try.prog 32 [di [100, d, 1000000, 1000000]] (nb (100 * d * 1000000 * 1000000)) :=
  have b1 := Nat.mul_le_mul_left 100 hd
  have b2 := Nat.mul_le_mul_right 1000000 b1
  have b3 := Nat.mul_le_mul_right 1000000 b2
  product4 100 d 1000000 1000000 (by decide) (Nat.lt_of_le_of_lt hd (by decide)) (by decide) (by decide) (Nat.lt_of_le_of_lt b1 (by decide)) (Nat.lt_of_le_of_lt b2 (by decide)) (Nat.lt_of_le_of_lt b3 (by decide))

theorem keeps_v (S F s c t : Nat) (hs : s ≤ 10000) (hc : c ≤ 10000) (ht : t ≤ 3600000) :
    SoundAt Try.prog 33 [.int .i64 (t : Int), .rp (nbC S), .rp [.int .i64 (s : Int), .int .i64 (c : Int)], .rp (nbC F)] (.bool (keepsN S F s c t)) := by
  refine sound_go (tb := []) 32 [.tmp 5] [0, 1, 2, 3, 5] mixed Try.func33 rfl (by kernel_rfl) (by kernel_rfl) (by kernel_rfl) (by kernel_rfl) ?_
  simp -implicitDefEqProofs only [go_sem, Nat.reduceAdd, Nat.reduceMul, Nat.reduceEqDiff, Nat.reduceLT, Nat.reduceLeDiff, Nat.reduceSub, Nat.reduceBEq, reduceIte, reduceCtorEq, Int.reduceEq, Int.reduceNe, Nat.reduceBneDiff, Int.reduceLE, Int.reduceLT, Int.reduceToNat, Int.reduceAdd, Int.reduceSub, Int.reduceMul, Int.reduceNeg, T_ok3, T_agg3, T_isinfo3, T_info3, T_cells3, T_zero3, T_int3, T_ok4, T_agg4, T_isinfo4, T_info4, T_cells4, T_zero4, T_bool4, T_ok36, T_agg36, T_isinfo36, T_info36, T_cells36, T_zero36, T_elem36, T_under36, T_len36s, T_len36n, T_len36b, T_ok44, T_agg44, T_isinfo44, T_info44, T_cells44, T_zero44, T_build44, T_f44_0, T_p44_0, T_f44_1, T_p44_1, T_eqs44, T_ok66, T_agg66, T_isinfo66, T_info66, T_cells66, T_zero66, T_int66, T_ok68, T_agg68, T_isinfo68, T_info68, T_cells68, T_zero68, T_build68, T_f68_0, T_p68_0, T_f68_1, T_p68_1, T_eqs68, nbC]
  refine gcall_intro _ _ _ _ _ _ _ _ _ (prod5 s t hs ht) ?_
  simp -implicitDefEqProofs only [go_sem, Nat.reduceAdd, Nat.reduceMul, Nat.reduceEqDiff, Nat.reduceLT, Nat.reduceLeDiff, Nat.reduceSub, Nat.reduceBEq, reduceIte, reduceCtorEq, Int.reduceEq, Int.reduceNe, Nat.reduceBneDiff, Int.reduceLE, Int.reduceLT, Int.reduceToNat, Int.reduceAdd, Int.reduceSub, Int.reduceMul, Int.reduceNeg, T_ok3, T_agg3, T_isinfo3, T_info3, T_cells3, T_zero3, T_int3, T_ok4, T_agg4, T_isinfo4, T_info4, T_cells4, T_zero4, T_bool4, T_ok36, T_agg36, T_isinfo36, T_info36, T_cells36, T_zero36, T_elem36, T_under36, T_len36s, T_len36n, T_len36b, T_ok44, T_agg44, T_isinfo44, T_info44, T_cells44, T_zero44, T_build44, T_f44_0, T_p44_0, T_f44_1, T_p44_1, T_eqs44, T_ok66, T_agg66, T_isinfo66, T_info66, T_cells66, T_zero66, T_int66, T_ok68, T_agg68, T_isinfo68, T_info68, T_cells68, T_zero68, T_build68, T_f68_0, T_p68_0, T_f68_1, T_p68_1, T_eqs68, nb]
  refine gcall_intro _ _ _ _ _ _ _ _ _ (more_v S (64 * s * s * t * t)) ?_
  cases h1 : decide (64 * s * s * t * t < S) with
  | true =>
    have e : keepsN S F s c t = false := by simp only [keepsN, h1]; rfl
    simp -implicitDefEqProofs only [go_sem, Nat.reduceAdd, Nat.reduceMul, Nat.reduceEqDiff, Nat.reduceLT, Nat.reduceLeDiff, Nat.reduceSub, Nat.reduceBEq, reduceIte, reduceCtorEq, Int.reduceEq, Int.reduceNe, Nat.reduceBneDiff, Int.reduceLE, Int.reduceLT, Int.reduceToNat, Int.reduceAdd, Int.reduceSub, Int.reduceMul, Int.reduceNeg, T_ok3, T_agg3, T_isinfo3, T_info3, T_cells3, T_zero3, T_int3, T_ok4, T_agg4, T_isinfo4, T_info4, T_cells4, T_zero4, T_bool4, T_ok36, T_agg36, T_isinfo36, T_info36, T_cells36, T_zero36, T_elem36, T_under36, T_len36s, T_len36n, T_len36b, T_ok44, T_agg44, T_isinfo44, T_info44, T_cells44, T_zero44, T_build44, T_f44_0, T_p44_0, T_f44_1, T_p44_1, T_eqs44, T_ok66, T_agg66, T_isinfo66, T_info66, T_cells66, T_zero66, T_int66, T_ok68, T_agg68, T_isinfo68, T_info68, T_cells68, T_zero68, T_build68, T_f68_0, T_p68_0, T_f68_1, T_p68_1, T_eqs68, e]
    exact drawQ_true _ _ (by kernel_rfl)
  | false =>
    simp -implicitDefEqProofs only [go_sem, Nat.reduceAdd, Nat.reduceMul, Nat.reduceEqDiff, Nat.reduceLT, Nat.reduceLeDiff, Nat.reduceSub, Nat.reduceBEq, reduceIte, reduceCtorEq, Int.reduceEq, Int.reduceNe, Nat.reduceBneDiff, Int.reduceLE, Int.reduceLT, Int.reduceToNat, Int.reduceAdd, Int.reduceSub, Int.reduceMul, Int.reduceNeg, T_ok3, T_agg3, T_isinfo3, T_info3, T_cells3, T_zero3, T_int3, T_ok4, T_agg4, T_isinfo4, T_info4, T_cells4, T_zero4, T_bool4, T_ok36, T_agg36, T_isinfo36, T_info36, T_cells36, T_zero36, T_elem36, T_under36, T_len36s, T_len36n, T_len36b, T_ok44, T_agg44, T_isinfo44, T_info44, T_cells44, T_zero44, T_build44, T_f44_0, T_p44_0, T_f44_1, T_p44_1, T_eqs44, T_ok66, T_agg66, T_isinfo66, T_info66, T_cells66, T_zero66, T_int66, T_ok68, T_agg68, T_isinfo68, T_info68, T_cells68, T_zero68, T_build68, T_f68_0, T_p68_0, T_f68_1, T_p68_1, T_eqs68]
    refine gcall_intro _ _ _ _ _ _ _ _ _ (prod7 c t hc ht) ?_
    simp -implicitDefEqProofs only [go_sem, Nat.reduceAdd, Nat.reduceMul, Nat.reduceEqDiff, Nat.reduceLT, Nat.reduceLeDiff, Nat.reduceSub, Nat.reduceBEq, reduceIte, reduceCtorEq, Int.reduceEq, Int.reduceNe, Nat.reduceBneDiff, Int.reduceLE, Int.reduceLT, Int.reduceToNat, Int.reduceAdd, Int.reduceSub, Int.reduceMul, Int.reduceNeg, T_ok3, T_agg3, T_isinfo3, T_info3, T_cells3, T_zero3, T_int3, T_ok4, T_agg4, T_isinfo4, T_info4, T_cells4, T_zero4, T_bool4, T_ok36, T_agg36, T_isinfo36, T_info36, T_cells36, T_zero36, T_elem36, T_under36, T_len36s, T_len36n, T_len36b, T_ok44, T_agg44, T_isinfo44, T_info44, T_cells44, T_zero44, T_build44, T_f44_0, T_p44_0, T_f44_1, T_p44_1, T_eqs44, T_ok66, T_agg66, T_isinfo66, T_info66, T_cells66, T_zero66, T_int66, T_ok68, T_agg68, T_isinfo68, T_info68, T_cells68, T_zero68, T_build68, T_f68_0, T_p68_0, T_f68_1, T_p68_1, T_eqs68, nb]
    refine gcall_intro _ _ _ _ _ _ _ _ _ (more_v F (3 * c * c * t * t * t * t)) ?_
    have e : keepsN S F s c t = !decide (3 * c * c * t * t * t * t < F) := by simp only [keepsN, h1]; rfl
    rw [e]
    simp -implicitDefEqProofs only [go_sem, Nat.reduceAdd, Nat.reduceMul, Nat.reduceEqDiff, Nat.reduceLT, Nat.reduceLeDiff, Nat.reduceSub, Nat.reduceBEq, reduceIte, reduceCtorEq, Int.reduceEq, Int.reduceNe, Nat.reduceBneDiff, Int.reduceLE, Int.reduceLT, Int.reduceToNat, Int.reduceAdd, Int.reduceSub, Int.reduceMul, Int.reduceNeg, T_ok3, T_agg3, T_isinfo3, T_info3, T_cells3, T_zero3, T_int3, T_ok4, T_agg4, T_isinfo4, T_info4, T_cells4, T_zero4, T_bool4, T_ok36, T_agg36, T_isinfo36, T_info36, T_cells36, T_zero36, T_elem36, T_under36, T_len36s, T_len36n, T_len36b, T_ok44, T_agg44, T_isinfo44, T_info44, T_cells44, T_zero44, T_build44, T_f44_0, T_p44_0, T_f44_1, T_p44_1, T_eqs44, T_ok66, T_agg66, T_isinfo66, T_info66, T_cells66, T_zero66, T_int66, T_ok68, T_agg68, T_isinfo68, T_info68, T_cells68, T_zero68, T_build68, T_f68_0, T_p68_0, T_f68_1, T_p68_1, T_eqs68]
    exact drawQ_true _ _ (by kernel_rfl)

/-- A search by halves ends at r. -/
inductive Bis (p : Nat → Bool) : Nat → Nat → Nat → Prop
  | done (lo hi : Nat) (h : hi ≤ lo) : Bis p lo hi lo
  | left (lo hi r : Nat) (h : lo < hi) (hp : p (lo + (hi - lo) / 2) = true) (t : Bis p lo (lo + (hi - lo) / 2) r) : Bis p lo hi r
  | right (lo hi r : Nat) (h : lo < hi) (hp : p (lo + (hi - lo) / 2) = false) (t : Bis p (lo + (hi - lo) / 2 + 1) hi r) : Bis p lo hi r
theorem Bis.exist (p : Nat → Bool) : ∀ n lo hi, hi - lo ≤ n → ∃ r, Bis p lo hi r
  | 0, lo, hi, h => ⟨lo, .done lo hi (by omega)⟩
  | n + 1, lo, hi, h => by
    by_cases hl : lo < hi
    · cases hp : p (lo + (hi - lo) / 2) with
      | true =>
        obtain ⟨r, hr⟩ := Bis.exist p n lo (lo + (hi - lo) / 2) (by omega)
        exact ⟨r, .left lo hi r hl hp hr⟩
      | false =>
        obtain ⟨r, hr⟩ := Bis.exist p n (lo + (hi - lo) / 2 + 1) hi (by omega)
        exact ⟨r, .right lo hi r hl hp hr⟩
    · exact ⟨lo, .done lo hi (by omega)⟩
theorem Bis.spec {p : Nat → Bool} {lo hi r : Nat} (h : Bis p lo hi r) : lo ≤ hi → lo ≤ r ∧ r ≤ hi ∧ (p hi = true → p r = true) ∧ (r = lo ∨ p (r - 1) = false) := by
  induction h with
  | done lo hi h => 
    intro hl
    have e : hi = lo := by omega
    subst e
    exact ⟨Nat.le_refl _, Nat.le_refl _, id, .inl rfl⟩
  | left lo hi r h hp t ih =>
    intro _
    obtain ⟨a, b, c, d⟩ := ih (by omega)
    exact ⟨a, by omega, fun _ => c hp, d⟩
  | right lo hi r h hp t ih =>
    intro _
    obtain ⟨a, b, c, d⟩ := ih (by omega)
    refine ⟨by omega, b, c, ?_⟩
    rcases d with d | d
    · right; rw [d, Nat.add_sub_cancel]; exact hp
    · exact .inr d
theorem tdiv2 (n : Nat) : Int.tdiv (n : Int) 2 = ((n / 2 : Nat) : Int) := by
  rw [Int.tdiv_eq_ediv_of_nonneg (by omega)]; rfl

def capK (S F s c : Nat) : List PV := [.rp (nbC S), .rp [.int .i64 (s : Int), .int .i64 (c : Int)], .rp (nbC F)]
theorem ren_capK (θ : List (Nat × Nat)) (f : FuncId) (S F s c : Nat) : ren1 θ (.fn f [] (capK S F s c)) = some (.fn f [] (capK S F s c)) := rfl
theorem ren_cap (θ : List (Nat × Nat)) (n : FuncId) (a b c d e f : Int) : ren1 θ (.fn n [] [.rp [.int .u64 a, .int .u64 b], .rp [.int .i64 c, .int .i64 d], .rp [.int .u64 e, .int .u64 f]]) = some (.fn n [] [.rp [.int .u64 a, .int .u64 b], .rp [.int .i64 c, .int .i64 d], .rp [.int .u64 e, .int .u64 f]]) := rfl
theorem esc_capK (S F s c : Nat) (bx : Bx) : escCL (capK S F s c) bx = some ((capK S F s c, []), []) := rfl
theorem least_v (S F s c : Nat) (hs : s ≤ 10000) (hc : c ≤ 10000) (r : Nat) (hr : Bis (keepsN S F s c) 1 3600000 r) :
    SoundAt Try.prog 35 [.int .i64 1, .int .i64 3600000, .fn 33 [] (capK S F s c)] (.int .i64 (r : Int)) := by
  refine sound_go (tb := []) 24 [.tmp 6] [0, 1, 2, 6, 7, 10, 19] mixed Try.func35 rfl (by kernel_rfl) (by kernel_rfl) (by kernel_rfl) (by kernel_rfl) ?_
  simp -implicitDefEqProofs only [go_sem, Nat.reduceAdd, Nat.reduceMul, Nat.reduceEqDiff, Nat.reduceLT, Nat.reduceLeDiff, Nat.reduceSub, Nat.reduceBEq, reduceIte, reduceCtorEq, Int.reduceEq, Int.reduceNe, Nat.reduceBneDiff, Int.reduceLE, Int.reduceLT, Int.reduceToNat, Int.reduceAdd, Int.reduceSub, Int.reduceMul, Int.reduceNeg, T_ok3, T_agg3, T_isinfo3, T_info3, T_cells3, T_zero3, T_int3, capK, nbC]
  refine g_loop mixed (fun q : { q : Nat × Nat // 1 ≤ q.1 ∧ q.1 ≤ q.2 ∧ q.2 ≤ 3600000 ∧ Bis (keepsN S F s c) q.1 q.2 r } => St.of [(0, .int .i64 (q.1.1 : Int)), (1, .int .i64 (q.1.2 : Int)), (2, .fn 33 [] (capK S F s c)), (6, .int .i64 0)] []) (fun q => q.1.2 - q.1.1) ⟨(1, 3600000), by decide, by decide, by decide, hr⟩ ?_ ?_
  · exact le_vars (by simp [varsLe, lkp, capK, nbC, ren_cap]; simp [ren1, ren0])
  · rintro ⟨⟨lo, hi⟩, h1, h2, h3, h4⟩
    simp only at h1 h2 h3 h4
    by_cases hl : lo < hi
    · have hl' : ((lo : Int) < (hi : Int)) = True := by simp; omega
      have w1 : IntKind.i64.wrap ((hi : Int) - (lo : Int)) = ((hi - lo : Nat) : Int) := by rw [wrap_i64 (by omega) (by omega)]; omega
      have w2 : IntKind.i64.wrap (((hi - lo) / 2 : Nat) : Int) = (((hi - lo) / 2 : Nat) : Int) := wrapn (by omega)
      have w3 : IntKind.i64.wrap ((lo : Int) + (((hi - lo) / 2 : Nat) : Int)) = ((lo + (hi - lo) / 2 : Nat) : Int) := by rw [wrap_i64 (by omega) (by omega)]; omega
      have w4 : IntKind.i64.wrap (((lo + (hi - lo) / 2 : Nat) : Int) + 1) = ((lo + (hi - lo) / 2 + 1 : Nat) : Int) := by rw [wrap_i64 (by omega) (by omega)]; omega
      simp -implicitDefEqProofs only [go_sem, Nat.reduceAdd, Nat.reduceMul, Nat.reduceEqDiff, Nat.reduceLT, Nat.reduceLeDiff, Nat.reduceSub, Nat.reduceBEq, reduceIte, reduceCtorEq, Int.reduceEq, Int.reduceNe, Nat.reduceBneDiff, Int.reduceLE, Int.reduceLT, Int.reduceToNat, Int.reduceAdd, Int.reduceSub, Int.reduceMul, Int.reduceNeg, T_ok3, T_agg3, T_isinfo3, T_info3, T_cells3, T_zero3, T_int3, capK, nbC, hl', w1, tdiv2, w2, w3]
      refine gcall_intro _ _ _ _ _ _ _ _ _ (keeps_v S F s c (lo + (hi - lo) / 2) hs hc (by omega)) ?_
      cases h4 with
      | done _ _ h => omega
      | left _ _ _ h hp t =>
        simp -implicitDefEqProofs only [go_sem, Nat.reduceAdd, Nat.reduceMul, Nat.reduceEqDiff, Nat.reduceLT, Nat.reduceLeDiff, Nat.reduceSub, Nat.reduceBEq, reduceIte, reduceCtorEq, Int.reduceEq, Int.reduceNe, Nat.reduceBneDiff, Int.reduceLE, Int.reduceLT, Int.reduceToNat, Int.reduceAdd, Int.reduceSub, Int.reduceMul, Int.reduceNeg, T_ok3, T_agg3, T_isinfo3, T_info3, T_cells3, T_zero3, T_int3, capK, nbC, hp]
        refine ⟨⟨(lo, lo + (hi - lo) / 2), h1, by simp only; omega, by simp only; omega, t⟩, by simp only; omega, ?_⟩
        exact le_vars (by simp [varsLe, lkp, capK, nbC, ren_cap]; simp [ren1, ren0])
      | right _ _ _ h hp t =>
        simp -implicitDefEqProofs only [go_sem, Nat.reduceAdd, Nat.reduceMul, Nat.reduceEqDiff, Nat.reduceLT, Nat.reduceLeDiff, Nat.reduceSub, Nat.reduceBEq, reduceIte, reduceCtorEq, Int.reduceEq, Int.reduceNe, Nat.reduceBneDiff, Int.reduceLE, Int.reduceLT, Int.reduceToNat, Int.reduceAdd, Int.reduceSub, Int.reduceMul, Int.reduceNeg, T_ok3, T_agg3, T_isinfo3, T_info3, T_cells3, T_zero3, T_int3, capK, nbC, hp, w4]
        refine ⟨⟨(lo + (hi - lo) / 2 + 1, hi), by simp only; omega, by simp only; omega, h3, t⟩, by simp only; omega, ?_⟩
        exact le_vars (by simp [varsLe, lkp, capK, nbC, ren_cap]; simp [ren1, ren0])
    · have hl' : ((lo : Int) < (hi : Int)) = False := by simp; omega
      cases h4 with
      | done _ _ h => simp -implicitDefEqProofs only [go_sem, Nat.reduceAdd, Nat.reduceMul, Nat.reduceEqDiff, Nat.reduceLT, Nat.reduceLeDiff, Nat.reduceSub, Nat.reduceBEq, reduceIte, reduceCtorEq, Int.reduceEq, Int.reduceNe, Nat.reduceBneDiff, Int.reduceLE, Int.reduceLT, Int.reduceToNat, Int.reduceAdd, Int.reduceSub, Int.reduceMul, Int.reduceNeg, T_ok3, T_agg3, T_isinfo3, T_info3, T_cells3, T_zero3, T_int3, hl']
      | left _ _ _ h hp t => omega
      | right _ _ _ h hp t => omega
end Go.Proofs.Ytkajnimlfehmeaa

namespace Go.Proofs.Ytkajnimlfehmeaa
open Go.Vl Go.RowKit

def limPV (s c : Int) : PV := .agg [.int .i64 s, .int .i64 c]
def okT (a b : Sky.V3) (s c : Int) : Prop := ptU 1048576 a = true ∧ ptU 1048576 b = true ∧ 1 ≤ s ∧ s ≤ 10000 ∧ 1 ≤ c ∧ c ≤ 10000
def spS (a b : Sky.V3) : Nat := 225 * dN a b * 1000000
def spF (a b : Sky.V3) : Nat := 100 * dN a b * 1000000 * 1000000
def keepsT (a b : Sky.V3) (s c : Int) : Nat → Bool := keepsN (spS a b) (spF a b) s.toNat c.toNat
theorem Time_bad (a b : Sky.V3) (s c : Int) (h : ¬ okT a b s c) : SoundAt Try.prog 18 [v3PV a, v3PV b, limPV s c] (.tup [.int .i64 0, .int .i64 2]) := by
  refine sound_go (tb := []) 59 [.tmp 6, .tmp 7] [0, 1, 2, 3, 4, 5, 6, 7, 8, 10, 11, 12, 40, 56] mixed Try.func18 rfl (by kernel_rfl) (by kernel_rfl) (by kernel_rfl) (by kernel_rfl) ?_
  simp -implicitDefEqProofs only [go_sem, Nat.reduceAdd, Nat.reduceMul, Nat.reduceEqDiff, Nat.reduceLT, Nat.reduceLeDiff, Nat.reduceSub, Nat.reduceBEq, reduceIte, reduceCtorEq, Int.reduceEq, Int.reduceNe, Nat.reduceBneDiff, Int.reduceLE, Int.reduceLT, Int.reduceToNat, Int.reduceAdd, Int.reduceSub, Int.reduceMul, Int.reduceNeg, T_ok3, T_agg3, T_isinfo3, T_info3, T_cells3, T_zero3, T_int3, T_ok4, T_agg4, T_isinfo4, T_info4, T_cells4, T_zero4, T_bool4, T_ok23, T_agg23, T_isinfo23, T_info23, T_cells23, T_zero23, T_build23, T_f23_0, T_p23_0, T_f23_1, T_p23_1, T_f23_2, T_p23_2, T_eqs23, T_ok36, T_agg36, T_isinfo36, T_info36, T_cells36, T_zero36, T_elem36, T_under36, T_len36s, T_len36n, T_len36b, T_ok44, T_agg44, T_isinfo44, T_info44, T_cells44, T_zero44, T_build44, T_f44_0, T_p44_0, T_f44_1, T_p44_1, T_eqs44, T_ok66, T_agg66, T_isinfo66, T_info66, T_cells66, T_zero66, T_int66, T_ok68, T_agg68, T_isinfo68, T_info68, T_cells68, T_zero68, T_build68, T_f68_0, T_p68_0, T_f68_1, T_p68_1, T_eqs68, T_ok71, T_agg71, T_isinfo71, T_info71, T_cells71, T_zero71, v3PV, vecPV, limPV]
  refine gcall_intro _ _ _ _ _ _ _ _ _ (Point_v a) ?_
  cases ha : ptU 1048576 a with
  | false => simp -implicitDefEqProofs only [go_sem, Nat.reduceAdd, Nat.reduceMul, Nat.reduceEqDiff, Nat.reduceLT, Nat.reduceLeDiff, Nat.reduceSub, Nat.reduceBEq, reduceIte, reduceCtorEq, Int.reduceEq, Int.reduceNe, Nat.reduceBneDiff, Int.reduceLE, Int.reduceLT, Int.reduceToNat, Int.reduceAdd, Int.reduceSub, Int.reduceMul, Int.reduceNeg, T_ok3, T_agg3, T_isinfo3, T_info3, T_cells3, T_zero3, T_int3, T_ok4, T_agg4, T_isinfo4, T_info4, T_cells4, T_zero4, T_bool4, T_ok23, T_agg23, T_isinfo23, T_info23, T_cells23, T_zero23, T_build23, T_f23_0, T_p23_0, T_f23_1, T_p23_1, T_f23_2, T_p23_2, T_eqs23, T_ok36, T_agg36, T_isinfo36, T_info36, T_cells36, T_zero36, T_elem36, T_under36, T_len36s, T_len36n, T_len36b, T_ok44, T_agg44, T_isinfo44, T_info44, T_cells44, T_zero44, T_build44, T_f44_0, T_p44_0, T_f44_1, T_p44_1, T_eqs44, T_ok66, T_agg66, T_isinfo66, T_info66, T_cells66, T_zero66, T_int66, T_ok68, T_agg68, T_isinfo68, T_info68, T_cells68, T_zero68, T_build68, T_f68_0, T_p68_0, T_f68_1, T_p68_1, T_eqs68, T_ok71, T_agg71, T_isinfo71, T_info71, T_cells71, T_zero71]
  | true =>
    simp -implicitDefEqProofs only [go_sem, Nat.reduceAdd, Nat.reduceMul, Nat.reduceEqDiff, Nat.reduceLT, Nat.reduceLeDiff, Nat.reduceSub, Nat.reduceBEq, reduceIte, reduceCtorEq, Int.reduceEq, Int.reduceNe, Nat.reduceBneDiff, Int.reduceLE, Int.reduceLT, Int.reduceToNat, Int.reduceAdd, Int.reduceSub, Int.reduceMul, Int.reduceNeg, T_ok3, T_agg3, T_isinfo3, T_info3, T_cells3, T_zero3, T_int3, T_ok4, T_agg4, T_isinfo4, T_info4, T_cells4, T_zero4, T_bool4, T_ok23, T_agg23, T_isinfo23, T_info23, T_cells23, T_zero23, T_build23, T_f23_0, T_p23_0, T_f23_1, T_p23_1, T_f23_2, T_p23_2, T_eqs23, T_ok36, T_agg36, T_isinfo36, T_info36, T_cells36, T_zero36, T_elem36, T_under36, T_len36s, T_len36n, T_len36b, T_ok44, T_agg44, T_isinfo44, T_info44, T_cells44, T_zero44, T_build44, T_f44_0, T_p44_0, T_f44_1, T_p44_1, T_eqs44, T_ok66, T_agg66, T_isinfo66, T_info66, T_cells66, T_zero66, T_int66, T_ok68, T_agg68, T_isinfo68, T_info68, T_cells68, T_zero68, T_build68, T_f68_0, T_p68_0, T_f68_1, T_p68_1, T_eqs68, T_ok71, T_agg71, T_isinfo71, T_info71, T_cells71, T_zero71, v3PV, vecPV]
    refine gcall_intro _ _ _ _ _ _ _ _ _ (Point_v b) ?_
    cases hb : ptU 1048576 b with
    | false => simp -implicitDefEqProofs only [go_sem, Nat.reduceAdd, Nat.reduceMul, Nat.reduceEqDiff, Nat.reduceLT, Nat.reduceLeDiff, Nat.reduceSub, Nat.reduceBEq, reduceIte, reduceCtorEq, Int.reduceEq, Int.reduceNe, Nat.reduceBneDiff, Int.reduceLE, Int.reduceLT, Int.reduceToNat, Int.reduceAdd, Int.reduceSub, Int.reduceMul, Int.reduceNeg, T_ok3, T_agg3, T_isinfo3, T_info3, T_cells3, T_zero3, T_int3, T_ok4, T_agg4, T_isinfo4, T_info4, T_cells4, T_zero4, T_bool4, T_ok23, T_agg23, T_isinfo23, T_info23, T_cells23, T_zero23, T_build23, T_f23_0, T_p23_0, T_f23_1, T_p23_1, T_f23_2, T_p23_2, T_eqs23, T_ok36, T_agg36, T_isinfo36, T_info36, T_cells36, T_zero36, T_elem36, T_under36, T_len36s, T_len36n, T_len36b, T_ok44, T_agg44, T_isinfo44, T_info44, T_cells44, T_zero44, T_build44, T_f44_0, T_p44_0, T_f44_1, T_p44_1, T_eqs44, T_ok66, T_agg66, T_isinfo66, T_info66, T_cells66, T_zero66, T_int66, T_ok68, T_agg68, T_isinfo68, T_info68, T_cells68, T_zero68, T_build68, T_f68_0, T_p68_0, T_f68_1, T_p68_1, T_eqs68, T_ok71, T_agg71, T_isinfo71, T_info71, T_cells71, T_zero71]
    | true =>
      by_cases h1 : s < 1
      · have h1' : (s < 1) = True := by simp [h1]
        simp -implicitDefEqProofs only [go_sem, Nat.reduceAdd, Nat.reduceMul, Nat.reduceEqDiff, Nat.reduceLT, Nat.reduceLeDiff, Nat.reduceSub, Nat.reduceBEq, reduceIte, reduceCtorEq, Int.reduceEq, Int.reduceNe, Nat.reduceBneDiff, Int.reduceLE, Int.reduceLT, Int.reduceToNat, Int.reduceAdd, Int.reduceSub, Int.reduceMul, Int.reduceNeg, T_ok3, T_agg3, T_isinfo3, T_info3, T_cells3, T_zero3, T_int3, T_ok4, T_agg4, T_isinfo4, T_info4, T_cells4, T_zero4, T_bool4, T_ok23, T_agg23, T_isinfo23, T_info23, T_cells23, T_zero23, T_build23, T_f23_0, T_p23_0, T_f23_1, T_p23_1, T_f23_2, T_p23_2, T_eqs23, T_ok36, T_agg36, T_isinfo36, T_info36, T_cells36, T_zero36, T_elem36, T_under36, T_len36s, T_len36n, T_len36b, T_ok44, T_agg44, T_isinfo44, T_info44, T_cells44, T_zero44, T_build44, T_f44_0, T_p44_0, T_f44_1, T_p44_1, T_eqs44, T_ok66, T_agg66, T_isinfo66, T_info66, T_cells66, T_zero66, T_int66, T_ok68, T_agg68, T_isinfo68, T_info68, T_cells68, T_zero68, T_build68, T_f68_0, T_p68_0, T_f68_1, T_p68_1, T_eqs68, T_ok71, T_agg71, T_isinfo71, T_info71, T_cells71, T_zero71, h1']
      · have h1' : (s < 1) = False := by simp only [eq_iff_iff, iff_false]; exact h1
        by_cases h2 : 10000 < s
        · have h2' : (10000 < s) = True := by simp [h2]
          simp -implicitDefEqProofs only [go_sem, Nat.reduceAdd, Nat.reduceMul, Nat.reduceEqDiff, Nat.reduceLT, Nat.reduceLeDiff, Nat.reduceSub, Nat.reduceBEq, reduceIte, reduceCtorEq, Int.reduceEq, Int.reduceNe, Nat.reduceBneDiff, Int.reduceLE, Int.reduceLT, Int.reduceToNat, Int.reduceAdd, Int.reduceSub, Int.reduceMul, Int.reduceNeg, T_ok3, T_agg3, T_isinfo3, T_info3, T_cells3, T_zero3, T_int3, T_ok4, T_agg4, T_isinfo4, T_info4, T_cells4, T_zero4, T_bool4, T_ok23, T_agg23, T_isinfo23, T_info23, T_cells23, T_zero23, T_build23, T_f23_0, T_p23_0, T_f23_1, T_p23_1, T_f23_2, T_p23_2, T_eqs23, T_ok36, T_agg36, T_isinfo36, T_info36, T_cells36, T_zero36, T_elem36, T_under36, T_len36s, T_len36n, T_len36b, T_ok44, T_agg44, T_isinfo44, T_info44, T_cells44, T_zero44, T_build44, T_f44_0, T_p44_0, T_f44_1, T_p44_1, T_eqs44, T_ok66, T_agg66, T_isinfo66, T_info66, T_cells66, T_zero66, T_int66, T_ok68, T_agg68, T_isinfo68, T_info68, T_cells68, T_zero68, T_build68, T_f68_0, T_p68_0, T_f68_1, T_p68_1, T_eqs68, T_ok71, T_agg71, T_isinfo71, T_info71, T_cells71, T_zero71, h1', h2']
        · have h2' : (10000 < s) = False := by simp only [eq_iff_iff, iff_false]; exact h2
          by_cases h3 : c < 1
          · have h3' : (c < 1) = True := by simp [h3]
            simp -implicitDefEqProofs only [go_sem, Nat.reduceAdd, Nat.reduceMul, Nat.reduceEqDiff, Nat.reduceLT, Nat.reduceLeDiff, Nat.reduceSub, Nat.reduceBEq, reduceIte, reduceCtorEq, Int.reduceEq, Int.reduceNe, Nat.reduceBneDiff, Int.reduceLE, Int.reduceLT, Int.reduceToNat, Int.reduceAdd, Int.reduceSub, Int.reduceMul, Int.reduceNeg, T_ok3, T_agg3, T_isinfo3, T_info3, T_cells3, T_zero3, T_int3, T_ok4, T_agg4, T_isinfo4, T_info4, T_cells4, T_zero4, T_bool4, T_ok23, T_agg23, T_isinfo23, T_info23, T_cells23, T_zero23, T_build23, T_f23_0, T_p23_0, T_f23_1, T_p23_1, T_f23_2, T_p23_2, T_eqs23, T_ok36, T_agg36, T_isinfo36, T_info36, T_cells36, T_zero36, T_elem36, T_under36, T_len36s, T_len36n, T_len36b, T_ok44, T_agg44, T_isinfo44, T_info44, T_cells44, T_zero44, T_build44, T_f44_0, T_p44_0, T_f44_1, T_p44_1, T_eqs44, T_ok66, T_agg66, T_isinfo66, T_info66, T_cells66, T_zero66, T_int66, T_ok68, T_agg68, T_isinfo68, T_info68, T_cells68, T_zero68, T_build68, T_f68_0, T_p68_0, T_f68_1, T_p68_1, T_eqs68, T_ok71, T_agg71, T_isinfo71, T_info71, T_cells71, T_zero71, h1', h2', h3']
          · have h3' : (c < 1) = False := by simp only [eq_iff_iff, iff_false]; exact h3
            by_cases h4 : 10000 < c
            · have h4' : (10000 < c) = True := by simp [h4]
              simp -implicitDefEqProofs only [go_sem, Nat.reduceAdd, Nat.reduceMul, Nat.reduceEqDiff, Nat.reduceLT, Nat.reduceLeDiff, Nat.reduceSub, Nat.reduceBEq, reduceIte, reduceCtorEq, Int.reduceEq, Int.reduceNe, Nat.reduceBneDiff, Int.reduceLE, Int.reduceLT, Int.reduceToNat, Int.reduceAdd, Int.reduceSub, Int.reduceMul, Int.reduceNeg, T_ok3, T_agg3, T_isinfo3, T_info3, T_cells3, T_zero3, T_int3, T_ok4, T_agg4, T_isinfo4, T_info4, T_cells4, T_zero4, T_bool4, T_ok23, T_agg23, T_isinfo23, T_info23, T_cells23, T_zero23, T_build23, T_f23_0, T_p23_0, T_f23_1, T_p23_1, T_f23_2, T_p23_2, T_eqs23, T_ok36, T_agg36, T_isinfo36, T_info36, T_cells36, T_zero36, T_elem36, T_under36, T_len36s, T_len36n, T_len36b, T_ok44, T_agg44, T_isinfo44, T_info44, T_cells44, T_zero44, T_build44, T_f44_0, T_p44_0, T_f44_1, T_p44_1, T_eqs44, T_ok66, T_agg66, T_isinfo66, T_info66, T_cells66, T_zero66, T_int66, T_ok68, T_agg68, T_isinfo68, T_info68, T_cells68, T_zero68, T_build68, T_f68_0, T_p68_0, T_f68_1, T_p68_1, T_eqs68, T_ok71, T_agg71, T_isinfo71, T_info71, T_cells71, T_zero71, h1', h2', h3', h4']
            · exact absurd ⟨ha, hb, by omega, by omega, by omega, by omega⟩ h
theorem rTime_bad (a b : Sky.V3) (s c : Int) (h : ¬ okT a b s c) : SoundAt Try.prog 19 [v3PV a, v3PV b, limPV s c] (.tup [.int .i64 0, .int .i64 2]) := by
  refine sound_go (tb := []) 60 [.tmp 6, .tmp 7] [0, 1, 2, 3, 4, 5, 6, 7, 8, 9, 10, 38, 43, 46, 55] mixed Try.func19 rfl (by kernel_rfl) (by kernel_rfl) (by kernel_rfl) (by kernel_rfl) ?_
  simp -implicitDefEqProofs only [go_sem, Nat.reduceAdd, Nat.reduceMul, Nat.reduceEqDiff, Nat.reduceLT, Nat.reduceLeDiff, Nat.reduceSub, Nat.reduceBEq, reduceIte, reduceCtorEq, Int.reduceEq, Int.reduceNe, Nat.reduceBneDiff, Int.reduceLE, Int.reduceLT, Int.reduceToNat, Int.reduceAdd, Int.reduceSub, Int.reduceMul, Int.reduceNeg, T_ok3, T_agg3, T_isinfo3, T_info3, T_cells3, T_zero3, T_int3, T_ok4, T_agg4, T_isinfo4, T_info4, T_cells4, T_zero4, T_bool4, T_ok23, T_agg23, T_isinfo23, T_info23, T_cells23, T_zero23, T_build23, T_f23_0, T_p23_0, T_f23_1, T_p23_1, T_f23_2, T_p23_2, T_eqs23, T_ok44, T_agg44, T_isinfo44, T_info44, T_cells44, T_zero44, T_build44, T_f44_0, T_p44_0, T_f44_1, T_p44_1, T_eqs44, v3PV, vecPV, limPV]
  refine gcall_intro _ _ _ _ _ _ _ _ _ (rPoint_v a) ?_
  cases ha : ptU 1048576 a with
  | false => simp -implicitDefEqProofs only [go_sem, Nat.reduceAdd, Nat.reduceMul, Nat.reduceEqDiff, Nat.reduceLT, Nat.reduceLeDiff, Nat.reduceSub, Nat.reduceBEq, reduceIte, reduceCtorEq, Int.reduceEq, Int.reduceNe, Nat.reduceBneDiff, Int.reduceLE, Int.reduceLT, Int.reduceToNat, Int.reduceAdd, Int.reduceSub, Int.reduceMul, Int.reduceNeg, T_ok3, T_agg3, T_isinfo3, T_info3, T_cells3, T_zero3, T_int3, T_ok4, T_agg4, T_isinfo4, T_info4, T_cells4, T_zero4, T_bool4, T_ok23, T_agg23, T_isinfo23, T_info23, T_cells23, T_zero23, T_build23, T_f23_0, T_p23_0, T_f23_1, T_p23_1, T_f23_2, T_p23_2, T_eqs23, T_ok44, T_agg44, T_isinfo44, T_info44, T_cells44, T_zero44, T_build44, T_f44_0, T_p44_0, T_f44_1, T_p44_1, T_eqs44]
  | true =>
    simp -implicitDefEqProofs only [go_sem, Nat.reduceAdd, Nat.reduceMul, Nat.reduceEqDiff, Nat.reduceLT, Nat.reduceLeDiff, Nat.reduceSub, Nat.reduceBEq, reduceIte, reduceCtorEq, Int.reduceEq, Int.reduceNe, Nat.reduceBneDiff, Int.reduceLE, Int.reduceLT, Int.reduceToNat, Int.reduceAdd, Int.reduceSub, Int.reduceMul, Int.reduceNeg, T_ok3, T_agg3, T_isinfo3, T_info3, T_cells3, T_zero3, T_int3, T_ok4, T_agg4, T_isinfo4, T_info4, T_cells4, T_zero4, T_bool4, T_ok23, T_agg23, T_isinfo23, T_info23, T_cells23, T_zero23, T_build23, T_f23_0, T_p23_0, T_f23_1, T_p23_1, T_f23_2, T_p23_2, T_eqs23, T_ok44, T_agg44, T_isinfo44, T_info44, T_cells44, T_zero44, T_build44, T_f44_0, T_p44_0, T_f44_1, T_p44_1, T_eqs44, v3PV, vecPV]
    refine gcall_intro _ _ _ _ _ _ _ _ _ (rPoint_v b) ?_
    cases hb : ptU 1048576 b with
    | false => simp -implicitDefEqProofs only [go_sem, Nat.reduceAdd, Nat.reduceMul, Nat.reduceEqDiff, Nat.reduceLT, Nat.reduceLeDiff, Nat.reduceSub, Nat.reduceBEq, reduceIte, reduceCtorEq, Int.reduceEq, Int.reduceNe, Nat.reduceBneDiff, Int.reduceLE, Int.reduceLT, Int.reduceToNat, Int.reduceAdd, Int.reduceSub, Int.reduceMul, Int.reduceNeg, T_ok3, T_agg3, T_isinfo3, T_info3, T_cells3, T_zero3, T_int3, T_ok4, T_agg4, T_isinfo4, T_info4, T_cells4, T_zero4, T_bool4, T_ok23, T_agg23, T_isinfo23, T_info23, T_cells23, T_zero23, T_build23, T_f23_0, T_p23_0, T_f23_1, T_p23_1, T_f23_2, T_p23_2, T_eqs23, T_ok44, T_agg44, T_isinfo44, T_info44, T_cells44, T_zero44, T_build44, T_f44_0, T_p44_0, T_f44_1, T_p44_1, T_eqs44]
    | true =>
      by_cases h1 : s < 1
      · have h1' : (s < 1) = True := by simp [h1]
        simp -implicitDefEqProofs only [go_sem, Nat.reduceAdd, Nat.reduceMul, Nat.reduceEqDiff, Nat.reduceLT, Nat.reduceLeDiff, Nat.reduceSub, Nat.reduceBEq, reduceIte, reduceCtorEq, Int.reduceEq, Int.reduceNe, Nat.reduceBneDiff, Int.reduceLE, Int.reduceLT, Int.reduceToNat, Int.reduceAdd, Int.reduceSub, Int.reduceMul, Int.reduceNeg, T_ok3, T_agg3, T_isinfo3, T_info3, T_cells3, T_zero3, T_int3, T_ok4, T_agg4, T_isinfo4, T_info4, T_cells4, T_zero4, T_bool4, T_ok23, T_agg23, T_isinfo23, T_info23, T_cells23, T_zero23, T_build23, T_f23_0, T_p23_0, T_f23_1, T_p23_1, T_f23_2, T_p23_2, T_eqs23, T_ok44, T_agg44, T_isinfo44, T_info44, T_cells44, T_zero44, T_build44, T_f44_0, T_p44_0, T_f44_1, T_p44_1, T_eqs44, h1']
      · have h1' : (s < 1) = False := by simp only [eq_iff_iff, iff_false]; exact h1
        by_cases h2 : 10000 < s
        · have h2' : (10000 < s) = True := by simp [h2]
          simp -implicitDefEqProofs only [go_sem, Nat.reduceAdd, Nat.reduceMul, Nat.reduceEqDiff, Nat.reduceLT, Nat.reduceLeDiff, Nat.reduceSub, Nat.reduceBEq, reduceIte, reduceCtorEq, Int.reduceEq, Int.reduceNe, Nat.reduceBneDiff, Int.reduceLE, Int.reduceLT, Int.reduceToNat, Int.reduceAdd, Int.reduceSub, Int.reduceMul, Int.reduceNeg, T_ok3, T_agg3, T_isinfo3, T_info3, T_cells3, T_zero3, T_int3, T_ok4, T_agg4, T_isinfo4, T_info4, T_cells4, T_zero4, T_bool4, T_ok23, T_agg23, T_isinfo23, T_info23, T_cells23, T_zero23, T_build23, T_f23_0, T_p23_0, T_f23_1, T_p23_1, T_f23_2, T_p23_2, T_eqs23, T_ok44, T_agg44, T_isinfo44, T_info44, T_cells44, T_zero44, T_build44, T_f44_0, T_p44_0, T_f44_1, T_p44_1, T_eqs44, h1', h2']
        · have h2' : (10000 < s) = False := by simp only [eq_iff_iff, iff_false]; exact h2
          by_cases h3 : c < 1
          · have h3' : (c < 1) = True := by simp [h3]
            simp -implicitDefEqProofs only [go_sem, Nat.reduceAdd, Nat.reduceMul, Nat.reduceEqDiff, Nat.reduceLT, Nat.reduceLeDiff, Nat.reduceSub, Nat.reduceBEq, reduceIte, reduceCtorEq, Int.reduceEq, Int.reduceNe, Nat.reduceBneDiff, Int.reduceLE, Int.reduceLT, Int.reduceToNat, Int.reduceAdd, Int.reduceSub, Int.reduceMul, Int.reduceNeg, T_ok3, T_agg3, T_isinfo3, T_info3, T_cells3, T_zero3, T_int3, T_ok4, T_agg4, T_isinfo4, T_info4, T_cells4, T_zero4, T_bool4, T_ok23, T_agg23, T_isinfo23, T_info23, T_cells23, T_zero23, T_build23, T_f23_0, T_p23_0, T_f23_1, T_p23_1, T_f23_2, T_p23_2, T_eqs23, T_ok44, T_agg44, T_isinfo44, T_info44, T_cells44, T_zero44, T_build44, T_f44_0, T_p44_0, T_f44_1, T_p44_1, T_eqs44, h1', h2', h3']
          · have h3' : (c < 1) = False := by simp only [eq_iff_iff, iff_false]; exact h3
            by_cases h4 : 10000 < c
            · have h4' : (10000 < c) = True := by simp [h4]
              simp -implicitDefEqProofs only [go_sem, Nat.reduceAdd, Nat.reduceMul, Nat.reduceEqDiff, Nat.reduceLT, Nat.reduceLeDiff, Nat.reduceSub, Nat.reduceBEq, reduceIte, reduceCtorEq, Int.reduceEq, Int.reduceNe, Nat.reduceBneDiff, Int.reduceLE, Int.reduceLT, Int.reduceToNat, Int.reduceAdd, Int.reduceSub, Int.reduceMul, Int.reduceNeg, T_ok3, T_agg3, T_isinfo3, T_info3, T_cells3, T_zero3, T_int3, T_ok4, T_agg4, T_isinfo4, T_info4, T_cells4, T_zero4, T_bool4, T_ok23, T_agg23, T_isinfo23, T_info23, T_cells23, T_zero23, T_build23, T_f23_0, T_p23_0, T_f23_1, T_p23_1, T_f23_2, T_p23_2, T_eqs23, T_ok44, T_agg44, T_isinfo44, T_info44, T_cells44, T_zero44, T_build44, T_f44_0, T_p44_0, T_f44_1, T_p44_1, T_eqs44, h1', h2', h3', h4']
            · exact absurd ⟨ha, hb, by omega, by omega, by omega, by omega⟩ h

theorem prodS' (a b : Sky.V3) (ha : ptU 1048576 a = true) (hb : ptU 1048576 b = true) : SoundAt Try.prog 32 [di [225, dN a b, 1000000]] (nb (spS a b)) := prodS _ (d_facts ha hb).2.2.2.2.2
theorem prodF' (a b : Sky.V3) (ha : ptU 1048576 a = true) (hb : ptU 1048576 b = true) : SoundAt Try.prog 32 [di [100, dN a b, 1000000, 1000000]] (nb (spF a b)) := prodF _ (d_facts ha hb).2.2.2.2.2
theorem Time_ok (a b : Sky.V3) (s c : Int) (h : okT a b s c) (r : Nat) (hr : Bis (keepsT a b s c) 1 3600000 r) : SoundAt Try.prog 18 [v3PV a, v3PV b, limPV s c] (.tup [.int .i64 (if keepsT a b s c 3600000 then (r : Int) else 0), .int .i64 (if keepsT a b s c 3600000 then 0 else 3)]) := by
  obtain ⟨ha, hb, k1, k2, k3, k4⟩ := h
  have h1' : (s < 1) = False := by simp only [eq_iff_iff, iff_false]; omega
  have h2' : (10000 < s) = False := by simp only [eq_iff_iff, iff_false]; omega
  have h3' : (c < 1) = False := by simp only [eq_iff_iff, iff_false]; omega
  have h4' : (10000 < c) = False := by simp only [eq_iff_iff, iff_false]; omega
  refine sound_go (tb := []) 59 [.tmp 6, .tmp 7] [0, 1, 2, 3, 4, 5, 6, 7, 8, 10, 11, 12, 40, 56] mixed Try.func18 rfl (by kernel_rfl) (by kernel_rfl) (by kernel_rfl) (by kernel_rfl) ?_
  simp -implicitDefEqProofs only [go_sem, Nat.reduceAdd, Nat.reduceMul, Nat.reduceEqDiff, Nat.reduceLT, Nat.reduceLeDiff, Nat.reduceSub, Nat.reduceBEq, reduceIte, reduceCtorEq, Int.reduceEq, Int.reduceNe, Nat.reduceBneDiff, Int.reduceLE, Int.reduceLT, Int.reduceToNat, Int.reduceAdd, Int.reduceSub, Int.reduceMul, Int.reduceNeg, T_ok3, T_agg3, T_isinfo3, T_info3, T_cells3, T_zero3, T_int3, T_ok4, T_agg4, T_isinfo4, T_info4, T_cells4, T_zero4, T_bool4, T_ok23, T_agg23, T_isinfo23, T_info23, T_cells23, T_zero23, T_build23, T_f23_0, T_p23_0, T_f23_1, T_p23_1, T_f23_2, T_p23_2, T_eqs23, T_ok36, T_agg36, T_isinfo36, T_info36, T_cells36, T_zero36, T_elem36, T_under36, T_len36s, T_len36n, T_len36b, T_ok44, T_agg44, T_isinfo44, T_info44, T_cells44, T_zero44, T_build44, T_f44_0, T_p44_0, T_f44_1, T_p44_1, T_eqs44, T_ok66, T_agg66, T_isinfo66, T_info66, T_cells66, T_zero66, T_int66, T_ok68, T_agg68, T_isinfo68, T_info68, T_cells68, T_zero68, T_build68, T_f68_0, T_p68_0, T_f68_1, T_p68_1, T_eqs68, T_ok71, T_agg71, T_isinfo71, T_info71, T_cells71, T_zero71, v3PV, vecPV, limPV]
  refine gcall_intro _ _ _ _ _ _ _ _ _ (Point_v a) ?_
  simp -implicitDefEqProofs only [go_sem, Nat.reduceAdd, Nat.reduceMul, Nat.reduceEqDiff, Nat.reduceLT, Nat.reduceLeDiff, Nat.reduceSub, Nat.reduceBEq, reduceIte, reduceCtorEq, Int.reduceEq, Int.reduceNe, Nat.reduceBneDiff, Int.reduceLE, Int.reduceLT, Int.reduceToNat, Int.reduceAdd, Int.reduceSub, Int.reduceMul, Int.reduceNeg, T_ok3, T_agg3, T_isinfo3, T_info3, T_cells3, T_zero3, T_int3, T_ok4, T_agg4, T_isinfo4, T_info4, T_cells4, T_zero4, T_bool4, T_ok23, T_agg23, T_isinfo23, T_info23, T_cells23, T_zero23, T_build23, T_f23_0, T_p23_0, T_f23_1, T_p23_1, T_f23_2, T_p23_2, T_eqs23, T_ok36, T_agg36, T_isinfo36, T_info36, T_cells36, T_zero36, T_elem36, T_under36, T_len36s, T_len36n, T_len36b, T_ok44, T_agg44, T_isinfo44, T_info44, T_cells44, T_zero44, T_build44, T_f44_0, T_p44_0, T_f44_1, T_p44_1, T_eqs44, T_ok66, T_agg66, T_isinfo66, T_info66, T_cells66, T_zero66, T_int66, T_ok68, T_agg68, T_isinfo68, T_info68, T_cells68, T_zero68, T_build68, T_f68_0, T_p68_0, T_f68_1, T_p68_1, T_eqs68, T_ok71, T_agg71, T_isinfo71, T_info71, T_cells71, T_zero71, v3PV, vecPV, ha]
  refine gcall_intro _ _ _ _ _ _ _ _ _ (Point_v b) ?_
  simp -implicitDefEqProofs only [go_sem, Nat.reduceAdd, Nat.reduceMul, Nat.reduceEqDiff, Nat.reduceLT, Nat.reduceLeDiff, Nat.reduceSub, Nat.reduceBEq, reduceIte, reduceCtorEq, Int.reduceEq, Int.reduceNe, Nat.reduceBneDiff, Int.reduceLE, Int.reduceLT, Int.reduceToNat, Int.reduceAdd, Int.reduceSub, Int.reduceMul, Int.reduceNeg, T_ok3, T_agg3, T_isinfo3, T_info3, T_cells3, T_zero3, T_int3, T_ok4, T_agg4, T_isinfo4, T_info4, T_cells4, T_zero4, T_bool4, T_ok23, T_agg23, T_isinfo23, T_info23, T_cells23, T_zero23, T_build23, T_f23_0, T_p23_0, T_f23_1, T_p23_1, T_f23_2, T_p23_2, T_eqs23, T_ok36, T_agg36, T_isinfo36, T_info36, T_cells36, T_zero36, T_elem36, T_under36, T_len36s, T_len36n, T_len36b, T_ok44, T_agg44, T_isinfo44, T_info44, T_cells44, T_zero44, T_build44, T_f44_0, T_p44_0, T_f44_1, T_p44_1, T_eqs44, T_ok66, T_agg66, T_isinfo66, T_info66, T_cells66, T_zero66, T_int66, T_ok68, T_agg68, T_isinfo68, T_info68, T_cells68, T_zero68, T_build68, T_f68_0, T_p68_0, T_f68_1, T_p68_1, T_eqs68, T_ok71, T_agg71, T_isinfo71, T_info71, T_cells71, T_zero71, v3PV, vecPV, hb, h1', h2', h3', h4']
  refine gcall_intro _ _ _ _ _ _ _ _ _ (Distance2_v a b ha hb) ?_
  simp -implicitDefEqProofs only [go_sem, Nat.reduceAdd, Nat.reduceMul, Nat.reduceEqDiff, Nat.reduceLT, Nat.reduceLeDiff, Nat.reduceSub, Nat.reduceBEq, reduceIte, reduceCtorEq, Int.reduceEq, Int.reduceNe, Nat.reduceBneDiff, Int.reduceLE, Int.reduceLT, Int.reduceToNat, Int.reduceAdd, Int.reduceSub, Int.reduceMul, Int.reduceNeg, T_ok3, T_agg3, T_isinfo3, T_info3, T_cells3, T_zero3, T_int3, T_ok4, T_agg4, T_isinfo4, T_info4, T_cells4, T_zero4, T_bool4, T_ok23, T_agg23, T_isinfo23, T_info23, T_cells23, T_zero23, T_build23, T_f23_0, T_p23_0, T_f23_1, T_p23_1, T_f23_2, T_p23_2, T_eqs23, T_ok36, T_agg36, T_isinfo36, T_info36, T_cells36, T_zero36, T_elem36, T_under36, T_len36s, T_len36n, T_len36b, T_ok44, T_agg44, T_isinfo44, T_info44, T_cells44, T_zero44, T_build44, T_f44_0, T_p44_0, T_f44_1, T_p44_1, T_eqs44, T_ok66, T_agg66, T_isinfo66, T_info66, T_cells66, T_zero66, T_int66, T_ok68, T_agg68, T_isinfo68, T_info68, T_cells68, T_zero68, T_build68, T_f68_0, T_p68_0, T_f68_1, T_p68_1, T_eqs68, T_ok71, T_agg71, T_isinfo71, T_info71, T_cells71, T_zero71]
  refine gcall_intro _ _ _ _ _ _ _ _ _ (prodS' a b ha hb) ?_
  simp -implicitDefEqProofs only [go_sem, Nat.reduceAdd, Nat.reduceMul, Nat.reduceEqDiff, Nat.reduceLT, Nat.reduceLeDiff, Nat.reduceSub, Nat.reduceBEq, reduceIte, reduceCtorEq, Int.reduceEq, Int.reduceNe, Nat.reduceBneDiff, Int.reduceLE, Int.reduceLT, Int.reduceToNat, Int.reduceAdd, Int.reduceSub, Int.reduceMul, Int.reduceNeg, T_ok3, T_agg3, T_isinfo3, T_info3, T_cells3, T_zero3, T_int3, T_ok4, T_agg4, T_isinfo4, T_info4, T_cells4, T_zero4, T_bool4, T_ok23, T_agg23, T_isinfo23, T_info23, T_cells23, T_zero23, T_build23, T_f23_0, T_p23_0, T_f23_1, T_p23_1, T_f23_2, T_p23_2, T_eqs23, T_ok36, T_agg36, T_isinfo36, T_info36, T_cells36, T_zero36, T_elem36, T_under36, T_len36s, T_len36n, T_len36b, T_ok44, T_agg44, T_isinfo44, T_info44, T_cells44, T_zero44, T_build44, T_f44_0, T_p44_0, T_f44_1, T_p44_1, T_eqs44, T_ok66, T_agg66, T_isinfo66, T_info66, T_cells66, T_zero66, T_int66, T_ok68, T_agg68, T_isinfo68, T_info68, T_cells68, T_zero68, T_build68, T_f68_0, T_p68_0, T_f68_1, T_p68_1, T_eqs68, T_ok71, T_agg71, T_isinfo71, T_info71, T_cells71, T_zero71, nb]
  refine gcall_intro _ _ _ _ _ _ _ _ _ (prodF' a b ha hb) ?_
  simp -implicitDefEqProofs only [go_sem, Nat.reduceAdd, Nat.reduceMul, Nat.reduceEqDiff, Nat.reduceLT, Nat.reduceLeDiff, Nat.reduceSub, Nat.reduceBEq, reduceIte, reduceCtorEq, Int.reduceEq, Int.reduceNe, Nat.reduceBneDiff, Int.reduceLE, Int.reduceLT, Int.reduceToNat, Int.reduceAdd, Int.reduceSub, Int.reduceMul, Int.reduceNeg, T_ok3, T_agg3, T_isinfo3, T_info3, T_cells3, T_zero3, T_int3, T_ok4, T_agg4, T_isinfo4, T_info4, T_cells4, T_zero4, T_bool4, T_ok23, T_agg23, T_isinfo23, T_info23, T_cells23, T_zero23, T_build23, T_f23_0, T_p23_0, T_f23_1, T_p23_1, T_f23_2, T_p23_2, T_eqs23, T_ok36, T_agg36, T_isinfo36, T_info36, T_cells36, T_zero36, T_elem36, T_under36, T_len36s, T_len36n, T_len36b, T_ok44, T_agg44, T_isinfo44, T_info44, T_cells44, T_zero44, T_build44, T_f44_0, T_p44_0, T_f44_1, T_p44_1, T_eqs44, T_ok66, T_agg66, T_isinfo66, T_info66, T_cells66, T_zero66, T_int66, T_ok68, T_agg68, T_isinfo68, T_info68, T_cells68, T_zero68, T_build68, T_f68_0, T_p68_0, T_f68_1, T_p68_1, T_eqs68, T_ok71, T_agg71, T_isinfo71, T_info71, T_cells71, T_zero71, nb]
  unfold keepsT at hr ⊢
  generalize spS a b = S at *
  generalize spF a b = F at *
  obtain ⟨s, rfl⟩ : ∃ n : Nat, s = n := ⟨s.toNat, by omega⟩
  obtain ⟨c, rfl⟩ : ∃ n : Nat, c = n := ⟨c.toNat, by omega⟩
  rw [Int.toNat_natCast, Int.toNat_natCast] at hr ⊢
  refine gcall_intro _ _ _ _ _ _ _ _ _ (keeps_v S F s c 3600000 (by omega) (by omega) (by omega)) ?_
  cases hk : keepsN S F s c 3600000 with
  | false => simp -implicitDefEqProofs only [go_sem, Nat.reduceAdd, Nat.reduceMul, Nat.reduceEqDiff, Nat.reduceLT, Nat.reduceLeDiff, Nat.reduceSub, Nat.reduceBEq, reduceIte, reduceCtorEq, Int.reduceEq, Int.reduceNe, Nat.reduceBneDiff, Int.reduceLE, Int.reduceLT, Int.reduceToNat, Int.reduceAdd, Int.reduceSub, Int.reduceMul, Int.reduceNeg, T_ok3, T_agg3, T_isinfo3, T_info3, T_cells3, T_zero3, T_int3, T_ok4, T_agg4, T_isinfo4, T_info4, T_cells4, T_zero4, T_bool4, T_ok23, T_agg23, T_isinfo23, T_info23, T_cells23, T_zero23, T_build23, T_f23_0, T_p23_0, T_f23_1, T_p23_1, T_f23_2, T_p23_2, T_eqs23, T_ok36, T_agg36, T_isinfo36, T_info36, T_cells36, T_zero36, T_elem36, T_under36, T_len36s, T_len36n, T_len36b, T_ok44, T_agg44, T_isinfo44, T_info44, T_cells44, T_zero44, T_build44, T_f44_0, T_p44_0, T_f44_1, T_p44_1, T_eqs44, T_ok66, T_agg66, T_isinfo66, T_info66, T_cells66, T_zero66, T_int66, T_ok68, T_agg68, T_isinfo68, T_info68, T_cells68, T_zero68, T_build68, T_f68_0, T_p68_0, T_f68_1, T_p68_1, T_eqs68, T_ok71, T_agg71, T_isinfo71, T_info71, T_cells71, T_zero71]
  | true =>
    simp -implicitDefEqProofs only [go_sem, Nat.reduceAdd, Nat.reduceMul, Nat.reduceEqDiff, Nat.reduceLT, Nat.reduceLeDiff, Nat.reduceSub, Nat.reduceBEq, reduceIte, reduceCtorEq, Int.reduceEq, Int.reduceNe, Nat.reduceBneDiff, Int.reduceLE, Int.reduceLT, Int.reduceToNat, Int.reduceAdd, Int.reduceSub, Int.reduceMul, Int.reduceNeg, T_ok3, T_agg3, T_isinfo3, T_info3, T_cells3, T_zero3, T_int3, T_ok4, T_agg4, T_isinfo4, T_info4, T_cells4, T_zero4, T_bool4, T_ok23, T_agg23, T_isinfo23, T_info23, T_cells23, T_zero23, T_build23, T_f23_0, T_p23_0, T_f23_1, T_p23_1, T_f23_2, T_p23_2, T_eqs23, T_ok36, T_agg36, T_isinfo36, T_info36, T_cells36, T_zero36, T_elem36, T_under36, T_len36s, T_len36n, T_len36b, T_ok44, T_agg44, T_isinfo44, T_info44, T_cells44, T_zero44, T_build44, T_f44_0, T_p44_0, T_f44_1, T_p44_1, T_eqs44, T_ok66, T_agg66, T_isinfo66, T_info66, T_cells66, T_zero66, T_int66, T_ok68, T_agg68, T_isinfo68, T_info68, T_cells68, T_zero68, T_build68, T_f68_0, T_p68_0, T_f68_1, T_p68_1, T_eqs68, T_ok71, T_agg71, T_isinfo71, T_info71, T_cells71, T_zero71]
    refine gcall_intro _ _ _ _ _ _ _ _ _ (least_v S F s c (by omega) (by omega) r hr) ?_
    simp -implicitDefEqProofs only [go_sem, Nat.reduceAdd, Nat.reduceMul, Nat.reduceEqDiff, Nat.reduceLT, Nat.reduceLeDiff, Nat.reduceSub, Nat.reduceBEq, reduceIte, reduceCtorEq, Int.reduceEq, Int.reduceNe, Nat.reduceBneDiff, Int.reduceLE, Int.reduceLT, Int.reduceToNat, Int.reduceAdd, Int.reduceSub, Int.reduceMul, Int.reduceNeg, T_ok3, T_agg3, T_isinfo3, T_info3, T_cells3, T_zero3, T_int3, T_ok4, T_agg4, T_isinfo4, T_info4, T_cells4, T_zero4, T_bool4, T_ok23, T_agg23, T_isinfo23, T_info23, T_cells23, T_zero23, T_build23, T_f23_0, T_p23_0, T_f23_1, T_p23_1, T_f23_2, T_p23_2, T_eqs23, T_ok36, T_agg36, T_isinfo36, T_info36, T_cells36, T_zero36, T_elem36, T_under36, T_len36s, T_len36n, T_len36b, T_ok44, T_agg44, T_isinfo44, T_info44, T_cells44, T_zero44, T_build44, T_f44_0, T_p44_0, T_f44_1, T_p44_1, T_eqs44, T_ok66, T_agg66, T_isinfo66, T_info66, T_cells66, T_zero66, T_int66, T_ok68, T_agg68, T_isinfo68, T_info68, T_cells68, T_zero68, T_build68, T_f68_0, T_p68_0, T_f68_1, T_p68_1, T_eqs68, T_ok71, T_agg71, T_isinfo71, T_info71, T_cells71, T_zero71]
end Go.Proofs.Ytkajnimlfehmeaa
