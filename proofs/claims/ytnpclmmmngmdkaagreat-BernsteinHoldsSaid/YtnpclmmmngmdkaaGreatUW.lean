/-
  FA2, Dm, FA3, FA4, FA5, UW (merged for the claim).
-/
import Derived.Test.YtnpclmmmngmdkaaGreatDn
set_option linter.unusedSimpArgs false
set_option linter.unusedVariables false
namespace Go.Proofs.YtnpclmmmngmdkaaGreat
open Go.Vl Go.RowKit Go.Dg

abbrev E9 : Nat := 1000000000
theorem E9_2 : 2 ≤ E9 := by decide
abbrev fI : Nat → PV := fun d : Nat => PV.int .i64 (d : Int)
theorem di_okf (l : List Nat) : (((l.map fun d : Nat => PV.int .i64 (d : Int)).flatMap PV.cells).all PV.okCell) = true := by
  rw [List.all_eq_true]
  intro x hx
  obtain ⟨y, hy, hx⟩ := List.mem_flatMap.1 hx
  obtain ⟨d, _, rfl⟩ := List.mem_map.1 hy
  simp only [c_int, List.mem_singleton] at hx
  subst hx; rfl
theorem tmod9 (n : Nat) : Int.tmod (n : Int) 1000000000 = ((n % 1000000000 : Nat) : Int) := by
  rw [Int.tmod_eq_emod_of_nonneg (by omega)]; rfl
theorem tdiv9 (n : Nat) : Int.tdiv (n : Int) 1000000000 = ((n / 1000000000 : Nat) : Int) := by
  rw [Int.tdiv_eq_ediv_of_nonneg (by omega)]; rfl
theorem wrap_add {a b : Nat} (h : a + b < 9223372036854775808) : IntKind.i64.wrap ((a : Int) + (b : Int)) = ((a + b : Nat) : Int) := by
  rw [wrap_i64 (by omega) (by omega)]; omega
theorem wrap_add1 {a : Nat} (h : a + 1 < 9223372036854775808) : IntKind.i64.wrap ((a : Int) + 1) = ((a + 1 : Nat) : Int) := by
  rw [wrap_i64 (by omega) (by omega)]; omega

theorem rplus_v (a b : Nat) (hl : (digs E9 (a + b)).length ≤ 1000000000) : SoundAt Tryz.prog 89 [di (digs E9 a), di (digs E9 b)] (di (digs E9 (a + b))) := by
  have hm := maxLen_lt
  refine sound_go (tb := []) 52 [.tmp 4] [0, 1, 4, 5, 6, 7, 21, 27, 37] mixed Tryz.func89 rfl (by kernel_rfl) (by kernel_rfl) (by kernel_rfl) (by kernel_rfl) ?_
  simp -implicitDefEqProofs only [go_sem, Nat.reduceAdd, Nat.reduceMul, Nat.reduceEqDiff, Nat.reduceLT, Nat.reduceLeDiff, Nat.reduceSub, Nat.reduceBEq, reduceIte, reduceCtorEq, Int.reduceEq, Int.reduceNe, Nat.reduceBneDiff, Int.reduceLE, Int.reduceLT, Int.reduceToNat, Int.reduceAdd, Int.reduceSub, Int.reduceMul, Int.reduceNeg, di]
  refine g_loop mixed (fun i : { i : Nat // i ≤ (digs E9 (a + b)).length ∧ ∀ j, j < i → (a + b) / E9 ^ j ≠ 0 } => St.of [(0, di (digs E9 a)), (1, di (digs E9 b)), (4, .nilS), (5, .bs 7 1 0 i.1), (6, .int .i64 (carry E9 a b i.1 : Int)), (7, .int .i64 (i.1 : Int))]
    [(7, { els := (lows E9 (a + b) i.1).map fI, esz := 1, ety := 3, fro := 0, live := true, arr := true })]) (fun i => (digs E9 (a + b)).length + 1 - i.1) ⟨0, Nat.zero_le _, by omega⟩ ?_ ?_
  · refine le_nil1 5 7 1 3 rfl rfl rfl (by decide) [(7, 7)] rfl ?_ ?_
    · simp [varsLe, lkp, ren1, ren0, di, carry_zero]
    · simp [boxesLe, lkp, Box.renames, lows]
  · rintro ⟨i, hi, hmore⟩
    have h0 : (0 ≤ (i : Int)) = True := by simp
    have hll := lows_length (B := E9) (a + b) i
    have hcle := carry_le (B := E9) (by decide) a b i
    obtain ⟨hs1, hs2⟩ : (carry E9 a b i + a / E9 ^ i % E9 + b / E9 ^ i % E9) % 1000000000 = (a + b) / E9 ^ i % E9 ∧ (carry E9 a b i + a / E9 ^ i % E9 + b / E9 ^ i % E9) / 1000000000 = carry E9 a b (i + 1) := add_step' (B := E9) (by decide) a b i
    have hda : a / E9 ^ i % E9 < E9 := Nat.mod_lt _ (by decide)
    have hdb : b / E9 ^ i % E9 < E9 := Nat.mod_lt _ (by decide)
    have hb1 : ((i + 1) * 8 ≤ 140737488355328) = True := by simp; omega
    have hb2 : (i + 1 ≤ maxLen) = True := by simp [maxLen]; omega
    have hwi := wrap_add1 (a := i) (by omega)
    have next : ∀ s, ((i < (digs E9 a).length) ∨ (i < (digs E9 b).length) ∨ 0 < carry E9 a b i) → Le s (St.of [(0, di (digs E9 a)), (1, di (digs E9 b)), (4, .nilS), (5, .bs 7 1 0 (i + 1)), (6, .int .i64 (carry E9 a b (i + 1) : Int)), (7, .int .i64 ((i + 1 : Nat) : Int))]
        [(7, { els := (lows E9 (a + b) (i + 1)).map fI, esz := 1, ety := 3, fro := 0, live := true, arr := true })]) →
        ∃ y : { i : Nat // i ≤ (digs E9 (a + b)).length ∧ ∀ j, j < i → (a + b) / E9 ^ j ≠ 0 }, (digs E9 (a + b)).length + 1 - y.1 < (digs E9 (a + b)).length + 1 - i ∧
          Le s (St.of [(0, di (digs E9 a)), (1, di (digs E9 b)), (4, .nilS), (5, .bs 7 1 0 y.1), (6, .int .i64 (carry E9 a b y.1 : Int)), (7, .int .i64 (y.1 : Int))]
            [(7, { els := (lows E9 (a + b) y.1).map fI, esz := 1, ety := 3, fro := 0, live := true, arr := true })]) := by
      intro s hc hle
      have hne := sum_more E9_2 hc
      have hlt := (digs_len E9_2 _ _).2 hne
      exact ⟨⟨i + 1, hlt, fun j hj => (Nat.lt_succ_iff_lt_or_eq.1 hj).elim (hmore j) fun h => h ▸ hne⟩, by simp only; omega, hle⟩
    by_cases hA : i < (digs E9 a).length
    · have hA' : ((i : Int) < ((digs E9 a).length : Int)) = True := by simp; omega
      have hga := digs_get_lt E9_2 hA
      by_cases hB : i < (digs E9 b).length
      · have hB' : ((i : Int) < ((digs E9 b).length : Int)) = True := by simp; omega
        have hgb := digs_get_lt E9_2 hB
        have w1 := wrap_add (a := carry E9 a b i) (b := a / E9 ^ i % E9) (by simp only [E9] at *; omega)
        have w2 := wrap_add (a := carry E9 a b i + a / E9 ^ i % E9) (b := b / E9 ^ i % E9) (by simp only [E9] at *; omega)
        have w3 := wrapn (n := (carry E9 a b i + a / E9 ^ i % E9 + b / E9 ^ i % E9) / 1000000000) (by simp only [E9] at *; omega)
        simp -implicitDefEqProofs only [go_sem, Nat.reduceAdd, Nat.reduceMul, Nat.reduceEqDiff, Nat.reduceLT, Nat.reduceLeDiff, Nat.reduceSub, Nat.reduceBEq, reduceIte, reduceCtorEq, Int.reduceEq, Int.reduceNe, Nat.reduceBneDiff, Int.reduceLE, Int.reduceLT, Int.reduceToNat, Int.reduceAdd, Int.reduceSub, Int.reduceMul, Int.reduceNeg, di, List.length_map, hA', hB', h0, di_get, hga, hgb, w1, w2, w3, tmod9, tdiv9, hll, di_okf, hb1, hb2, hwi]
        refine next _ (.inl hA) (le_of (θ := [(7, 1004)]) rfl ?_ ?_)
        · simp [varsLe, lkp, ren1, ren0, di, hs2]
        · simp [boxesLe, lkp, Box.renames, lows_succ, hs1]
      · have hB' : ((i : Int) < ((digs E9 b).length : Int)) = False := by simp; omega
        have hb0 : b / E9 ^ i % E9 = 0 := by rw [digit_beyond E9_2 (Nat.le_of_not_lt hB), Nat.zero_mod]
        rw [hb0, Nat.add_zero] at hs1 hs2
        have w1 := wrap_add (a := carry E9 a b i) (b := a / E9 ^ i % E9) (by simp only [E9] at *; omega)
        have w3 := wrapn (n := (carry E9 a b i + a / E9 ^ i % E9) / 1000000000) (by simp only [E9] at *; omega)
        simp -implicitDefEqProofs only [go_sem, Nat.reduceAdd, Nat.reduceMul, Nat.reduceEqDiff, Nat.reduceLT, Nat.reduceLeDiff, Nat.reduceSub, Nat.reduceBEq, reduceIte, reduceCtorEq, Int.reduceEq, Int.reduceNe, Nat.reduceBneDiff, Int.reduceLE, Int.reduceLT, Int.reduceToNat, Int.reduceAdd, Int.reduceSub, Int.reduceMul, Int.reduceNeg, di, List.length_map, hA', hB', h0, di_get, hga, w1, w3, tmod9, tdiv9, hll, di_okf, hb1, hb2, hwi]
        refine next _ (.inl hA) (le_of (θ := [(7, 1004)]) rfl ?_ ?_)
        · simp [varsLe, lkp, ren1, ren0, di, hs2]
        · simp [boxesLe, lkp, Box.renames, lows_succ, hs1]
    · have hA' : ((i : Int) < ((digs E9 a).length : Int)) = False := by simp; omega
      have ha0 : a / E9 ^ i % E9 = 0 := by rw [digit_beyond E9_2 (Nat.le_of_not_lt hA), Nat.zero_mod]
      rw [ha0, Nat.add_zero] at hs1 hs2
      by_cases hB : i < (digs E9 b).length
      · have hB' : ((i : Int) < ((digs E9 b).length : Int)) = True := by simp; omega
        have hgb := digs_get_lt E9_2 hB
        have w2 := wrap_add (a := carry E9 a b i) (b := b / E9 ^ i % E9) (by simp only [E9] at *; omega)
        have w3 := wrapn (n := (carry E9 a b i + b / E9 ^ i % E9) / 1000000000) (by simp only [E9] at *; omega)
        simp -implicitDefEqProofs only [go_sem, Nat.reduceAdd, Nat.reduceMul, Nat.reduceEqDiff, Nat.reduceLT, Nat.reduceLeDiff, Nat.reduceSub, Nat.reduceBEq, reduceIte, reduceCtorEq, Int.reduceEq, Int.reduceNe, Nat.reduceBneDiff, Int.reduceLE, Int.reduceLT, Int.reduceToNat, Int.reduceAdd, Int.reduceSub, Int.reduceMul, Int.reduceNeg, di, List.length_map, hA', hB', h0, di_get, hgb, w2, w3, tmod9, tdiv9, hll, di_okf, hb1, hb2, hwi]
        refine next _ (.inr (.inl hB)) (le_of (θ := [(7, 1004)]) rfl ?_ ?_)
        · simp [varsLe, lkp, ren1, ren0, di, hs2]
        · simp [boxesLe, lkp, Box.renames, lows_succ, hs1]
      · have hB' : ((i : Int) < ((digs E9 b).length : Int)) = False := by simp; omega
        have hb0 : b / E9 ^ i % E9 = 0 := by rw [digit_beyond E9_2 (Nat.le_of_not_lt hB), Nat.zero_mod]
        rw [hb0, Nat.add_zero] at hs1 hs2
        by_cases hC : 0 < carry E9 a b i
        · have hC' : ((0 : Int) < (carry E9 a b i : Int)) = True := by simp; omega
          have w3 := wrapn (n := carry E9 a b i / 1000000000) (by simp only [E9] at *; omega)
          simp -implicitDefEqProofs only [go_sem, Nat.reduceAdd, Nat.reduceMul, Nat.reduceEqDiff, Nat.reduceLT, Nat.reduceLeDiff, Nat.reduceSub, Nat.reduceBEq, reduceIte, reduceCtorEq, Int.reduceEq, Int.reduceNe, Nat.reduceBneDiff, Int.reduceLE, Int.reduceLT, Int.reduceToNat, Int.reduceAdd, Int.reduceSub, Int.reduceMul, Int.reduceNeg, di, List.length_map, hA', hB', hC', h0, w3, tmod9, tdiv9, hll, di_okf, hb1, hb2, hwi]
          refine next _ (.inr (.inr hC)) (le_of (θ := [(7, 1004)]) rfl ?_ ?_)
          · simp [varsLe, lkp, ren1, ren0, di, hs2]
          · simp [boxesLe, lkp, Box.renames, lows_succ, hs1]
        · have hC' : ((0 : Int) < (carry E9 a b i : Int)) = False := by simp; omega
          have hlt := sum_done E9_2 (Nat.le_of_not_lt hA) (Nat.le_of_not_lt hB) (by omega)
          have hd := lows_done E9_2 hlt hmore
          have htk : ((lows E9 (a + b) i).map fI).take i = (lows E9 (a + b) i).map fI := List.take_of_length_le (by simp [hll])
          simp -implicitDefEqProofs only [go_sem, Nat.reduceAdd, Nat.reduceMul, Nat.reduceEqDiff, Nat.reduceLT, Nat.reduceLeDiff, Nat.reduceSub, Nat.reduceBEq, reduceIte, reduceCtorEq, Int.reduceEq, Int.reduceNe, Nat.reduceBneDiff, Int.reduceLE, Int.reduceLT, Int.reduceToNat, Int.reduceAdd, Int.reduceSub, Int.reduceMul, Int.reduceNeg, di, List.length_map, hA', hB', hC', hll, htk]
          rw [hd]
end Go.Proofs.YtnpclmmmngmdkaaGreat

namespace Go.Dg
section
variable {B : Nat}

def cmpN (a b : Nat) : Int := if a < b then -1 else if b < a then 1 else 0
theorem cmpN_lt {a b : Nat} (h : a < b) : cmpN a b = -1 := by simp [cmpN, h]
theorem cmpN_gt {a b : Nat} (h : b < a) : cmpN a b = 1 := by simp [cmpN, h]; omega
theorem cmpN_eq (a : Nat) : cmpN a a = 0 := by simp [cmpN]

theorem len_lt (hB : 2 ≤ B) {a b : Nat} (h : (digs B a).length < (digs B b).length) : a < b := by
  have h1 := lt_pow_len hB a
  have h2 := (digs_len hB b _).1 h
  have h3 := Nat.div_eq_zero_iff (a := b) (b := B ^ (digs B a).length)
  have : 0 < B ^ (digs B a).length := Nat.pow_pos (by omega)
  omega
theorem div_up (hB : 0 < B) (a i : Nat) : a / B ^ i = B * (a / B ^ (i + 1)) + a / B ^ i % B := by
  rw [Nat.pow_succ, ← Nat.div_div_eq_div_mul]
  exact (Nat.div_add_mod _ _).symm
theorem cmp_digit (hB : 0 < B) {a b i : Nat} (h : a / B ^ (i + 1) = b / B ^ (i + 1)) (hd : a / B ^ i % B < b / B ^ i % B) : a < b := by
  have h1 := div_up hB a i
  have h2 := div_up hB b i
  rw [h] at h1
  apply Nat.lt_of_not_le
  intro hle
  have := Nat.div_le_div_right (c := B ^ i) hle
  omega
theorem same_digit (hB : 0 < B) {a b i : Nat} (h : a / B ^ (i + 1) = b / B ^ (i + 1)) (hd : a / B ^ i % B = b / B ^ i % B) : a / B ^ i = b / B ^ i := by
  rw [div_up hB a i, div_up hB b i, h, hd]

/-- What is borrowed at a place of a difference. -/
def bor (B a b i : Nat) : Nat := if a % B ^ i < b % B ^ i then 1 else 0
theorem bor_zero (a b : Nat) : bor B a b 0 = 0 := by simp [bor, Nat.mod_one]
theorem bor_le (a b i : Nat) : bor B a b i ≤ 1 := by unfold bor; split <;> omega
theorem sub_div (hB : 0 < B) {a b : Nat} (h : b ≤ a) (i : Nat) : (a - b) / B ^ i + b / B ^ i + bor B a b i = a / B ^ i := by
  have hp : 0 < B ^ i := Nat.pow_pos hB
  unfold bor
  generalize B ^ i = P at *
  have ha := Nat.div_add_mod a P
  have hb := Nat.div_add_mod b P
  have hm1 := Nat.mod_lt a hp
  have hm2 := Nat.mod_lt b hp
  have hle : b / P ≤ a / P := Nat.div_le_div_right h
  generalize a / P = x at *
  generalize b / P = y at *
  generalize a % P = r at *
  generalize b % P = s at *
  obtain ⟨z, rfl⟩ := Nat.exists_eq_add_of_le hle
  rw [Nat.mul_add] at ha
  split
  · rename_i hlt
    have hz : z ≠ 0 := by rintro rfl; rw [Nat.mul_zero] at ha; omega
    obtain ⟨z', rfl⟩ := Nat.exists_eq_succ_of_ne_zero hz
    have e : a - b = (P + r - s) + P * z' := by rw [Nat.mul_succ] at ha; omega
    rw [e, Nat.add_mul_div_left _ _ hp, Nat.div_eq_of_lt (by omega)]
    omega
  · rename_i hlt
    have e : a - b = (r - s) + P * z := by omega
    rw [e, Nat.add_mul_div_left _ _ hp, Nat.div_eq_of_lt (by omega)]
    omega
theorem sub_step (hB : 2 ≤ B) {a b : Nat} (h : b ≤ a) (i : Nat) :
    (a - b) / B ^ i % B + b / B ^ i % B + bor B a b i = a / B ^ i % B + B * bor B a b (i + 1) := by
  have hB0 : 0 < B := by omega
  have h1 := sub_div hB0 h i
  have h2 := sub_div hB0 h (i + 1)
  have e1 := div_up hB0 (a - b) i
  have e2 := div_up hB0 b i
  have e3 := div_up hB0 a i
  have hm := Nat.mul_add B ((a - b) / B ^ (i + 1) + b / B ^ (i + 1)) (bor B a b (i + 1))
  have hm2 := Nat.mul_add B ((a - b) / B ^ (i + 1)) (b / B ^ (i + 1))
  rw [h2] at hm
  omega

/-- Digits of one number, and from a place on those of another one. -/
def mix (B V S n m : Nat) : List Nat := (List.range n).map fun j => if j < m then V / B ^ j % B else S / B ^ j % B
theorem mix_length (V S n m : Nat) : (mix B V S n m).length = n := by simp [mix]
theorem mix_get (V S n m j : Nat) (h : j < n) : (mix B V S n m)[j]? = some (if j < m then V / B ^ j % B else S / B ^ j % B) := by simp [mix, h]
theorem low_digit (hB : 0 < B) {V W m j : Nat} (h : V % B ^ m = W % B ^ m) (hj : j < m) : V / B ^ j % B = W / B ^ j % B := by
  have key : ∀ n, n / B ^ j % B = (n % B ^ m) / B ^ j % B := by
    intro n
    have e : B ^ m = B ^ j * (B * B ^ (m - j - 1)) := by
      rw [← Nat.mul_assoc, ← Nat.pow_succ, ← Nat.pow_add]; congr 1; omega
    rw [e, Nat.mod_mul_right_div_self, Nat.mod_mul_right_mod]
  rw [key V, key W, h]
theorem mix_set (hB : 0 < B) {V W S n m d : Nat} (hm : m < n) (h : V % B ^ m = W % B ^ m) (hd : W / B ^ m % B = d) : (mix B V S n m).set m d = mix B W S n (m + 1) := by
  apply List.ext_getElem?
  intro j
  rw [List.getElem?_set]
  by_cases hj : j < n
  · rw [mix_get _ _ _ _ _ hj, mix_get _ _ _ _ _ hj, mix_length]
    by_cases e : m = j
    · subst e; simp [hj, hd]
    · simp only [e, if_false]
      by_cases hlt : j < m
      · rw [if_pos hlt, if_pos (by omega), low_digit hB h hlt]
      · rw [if_neg hlt, if_neg (by omega)]
  · rw [List.getElem?_eq_none (by rw [mix_length]; omega), List.getElem?_eq_none (by rw [mix_length]; omega), mix_length]
    simp; omega
theorem mix_all {V S n m : Nat} (hB : 0 < B) (h : V / B ^ m = S / B ^ m) : mix B V S n m = lows B V n := by
  apply List.map_congr_left
  intro j _
  split
  · rfl
  · rename_i hj
    obtain ⟨k, rfl⟩ := Nat.exists_eq_add_of_le (Nat.le_of_not_lt hj)
    rw [Nat.pow_add, ← Nat.div_div_eq_div_mul, ← Nat.div_div_eq_div_mul, h]
theorem mix_none (V S n : Nat) : mix B V S n 0 = lows B S n := by simp [mix, lows]

/-- What has been added behind k digits of the other factor. -/
def mulV (B S x i b k : Nat) : Nat := S + x * B ^ i * (b % B ^ k)
theorem mulV_zero (S x i b : Nat) : mulV B S x i b 0 = S := by simp [mulV, Nat.mod_one]
theorem mulV_succ (S x i b k : Nat) : mulV B S x i b (k + 1) = mulV B S x i b k + x * (b / B ^ k % B) * B ^ (i + k) := by
  unfold mulV
  rw [Nat.pow_succ, Nat.mod_mul, Nat.mul_add, Nat.pow_add]
  have : x * B ^ i * (B ^ k * (b / B ^ k % B)) = x * (b / B ^ k % B) * (B ^ i * B ^ k) := by
    simp only [Nat.mul_assoc, Nat.mul_comm, Nat.mul_left_comm]
  rw [this]; omega
/-- What is carried. -/
def mulC (B S x i b k : Nat) : Nat := mulV B S x i b k / B ^ (i + k) - S / B ^ (i + k)
theorem mulV_ge (S x i b k : Nat) : S ≤ mulV B S x i b k := Nat.le_add_right _ _
theorem mulC_add (S x i b k : Nat) : mulC B S x i b k + S / B ^ (i + k) = mulV B S x i b k / B ^ (i + k) := by
  have := Nat.div_le_div_right (c := B ^ (i + k)) (mulV_ge (B := B) S x i b k)
  unfold mulC
  omega
theorem mulC_zero (S x i b : Nat) : mulC B S x i b 0 = 0 := by simp [mulC, mulV_zero]
theorem mul_step (hB : 0 < B) (S x i b k : Nat) :
    (S / B ^ (i + k) % B + mulC B S x i b k + x * (b / B ^ k % B)) % B = mulV B S x i b (k + 1) / B ^ (i + k) % B ∧
    (S / B ^ (i + k) % B + mulC B S x i b k + x * (b / B ^ k % B)) / B = mulC B S x i b (k + 1) := by
  have hp : 0 < B ^ (i + k) := Nat.pow_pos hB
  have h1 := mulC_add (B := B) S x i b k
  have e1 : mulV B S x i b (k + 1) / B ^ (i + k) = (S / B ^ (i + k) % B + mulC B S x i b k + x * (b / B ^ k % B)) + B * (S / B ^ (i + k + 1)) := by
    rw [mulV_succ, Nat.add_mul_div_right _ _ hp, ← h1]
    have := div_up hB S (i + k)
    omega
  constructor
  · rw [e1, Nat.add_mul_mod_self_left]
  · have h2 := mulC_add (B := B) S x i b (k + 1)
    have e2 : mulV B S x i b (k + 1) / B ^ (i + (k + 1)) = mulV B S x i b (k + 1) / B ^ (i + k) / B := by
      rw [Nat.div_div_eq_div_mul, ← Nat.pow_succ]; rfl
    rw [e1, Nat.add_mul_div_left _ _ hB] at e2
    have e3 : S / B ^ (i + (k + 1)) = S / B ^ (i + k + 1) := rfl
    omega
theorem mulV_low (S x i b k : Nat) : mulV B S x i b k % B ^ (i + k) = mulV B S x i b (k + 1) % B ^ (i + k) := by
  rw [mulV_succ, Nat.add_mul_mod_self_right]
theorem mulV_full (a i b k : Nat) (hk : b < B ^ k) : mulV B (a % B ^ i * b) (a / B ^ i % B) i b k = a % B ^ (i + 1) * b := by
  unfold mulV
  rw [Nat.mod_eq_of_lt hk, Nat.pow_succ, Nat.mod_mul, Nat.add_mul]
  congr 1
  rw [Nat.mul_comm (a / B ^ i % B)]
theorem mulC_lt (hB : 0 < B) {S x i b k : Nat} (hx : x < B) : mulC B S x i b k < B := by
  induction k with
  | zero => rw [mulC_zero]; exact hB
  | succ k ih =>
    rw [← (mul_step hB S x i b k).2, Nat.div_lt_iff_lt_mul hB]
    have h1 : S / B ^ (i + k) % B < B := Nat.mod_lt _ hB
    have h2 : b / B ^ k % B < B := Nat.mod_lt _ hB
    have h3 : x * (b / B ^ k % B) ≤ (B - 1) * (B - 1) := Nat.mul_le_mul (by omega) (by omega)
    have h4 : B * B = (B - 1) * (B - 1) + 2 * (B - 1) + 1 := by
      obtain ⟨c, rfl⟩ : ∃ c, B = c + 1 := ⟨B - 1, by omega⟩
      simp only [Nat.add_sub_cancel, Nat.add_mul, Nat.mul_add]
      omega
    omega
theorem mulC_end (hB : 0 < B) {a i b k : Nat} (hk : b < B ^ k) : mulC B (a % B ^ i * b) (a / B ^ i % B) i b (k + 1) = 0 := by
  unfold mulC
  rw [mulV_full a i b (k + 1) (Nat.lt_of_lt_of_le hk (Nat.pow_le_pow_right hB (Nat.le_succ k)))]
  have : a % B ^ (i + 1) * b < B ^ (i + (k + 1)) := by
    have h1 := Nat.mod_lt a (Nat.pow_pos (n := i + 1) hB)
    have e : B ^ (i + (k + 1)) = B ^ (i + 1) * B ^ k := by rw [← Nat.pow_add]; congr 1; omega
    rw [e]
    rcases Nat.eq_zero_or_pos b with rfl | hb
    · rw [Nat.mul_zero]; exact Nat.mul_pos (Nat.pow_pos hB) (Nat.pow_pos hB)
    · exact Nat.lt_of_lt_of_le (Nat.mul_lt_mul_of_pos_right h1 hb) (Nat.mul_le_mul_left _ (Nat.le_of_lt hk))
  rw [Nat.div_eq_of_lt this, Nat.zero_sub]
end
end Go.Dg

namespace Go.Proofs.YtnpclmmmngmdkaaGreat
open Go.Vl Go.RowKit Go.Dg

theorem rorder_v (a b : Nat) (ha : (digs E9 a).length ≤ 1000000000) : SoundAt Tryz.prog 112 [di (digs E9 a), di (digs E9 b)] (.int .i64 (cmpN a b)) := by
  refine sound_go (tb := []) 41 [.tmp 4] [0, 1, 4, 5, 10, 15, 20, 31, 40] mixed Tryz.func112 rfl (by kernel_rfl) (by kernel_rfl) (by kernel_rfl) (by kernel_rfl) ?_
  by_cases hl : (digs E9 a).length = (digs E9 b).length
  · have hl' : (((digs E9 a).length : Int) != ((digs E9 b).length : Int)) = false := by simp [hl]
    have hw : IntKind.i64.wrap (((digs E9 a).length : Int) - 1) = ((digs E9 a).length : Int) - 1 := wrap_i64 (by omega) (by omega)
    simp -implicitDefEqProofs only [go_sem, Nat.reduceAdd, Nat.reduceMul, Nat.reduceEqDiff, Nat.reduceLT, Nat.reduceLeDiff, Nat.reduceSub, Nat.reduceBEq, reduceIte, reduceCtorEq, Int.reduceEq, Int.reduceNe, Nat.reduceBneDiff, Int.reduceLE, Int.reduceLT, Int.reduceToNat, Int.reduceAdd, Int.reduceSub, Int.reduceMul, Int.reduceNeg, di, List.length_map, hl', hw]
    refine g_loop mixed (fun i : { i : Nat // i ≤ (digs E9 a).length ∧ a / E9 ^ i = b / E9 ^ i } => St.of [(0, di (digs E9 a)), (1, di (digs E9 b)), (4, .int .i64 0), (5, .int .i64 ((i.1 : Int) - 1))] []) (fun i => i.1)
      ⟨(digs E9 a).length, Nat.le_refl _, by rw [digit_beyond E9_2 (Nat.le_refl _), hl, digit_beyond E9_2 (Nat.le_refl _)]⟩ ?_ ?_
    · exact le_vars (by simp [varsLe, lkp, ren1, ren0, di])
    · rintro ⟨i, hi, he⟩
      cases i with
      | zero =>
        have h1 : ((0 : Int) ≤ ((0 : Nat) : Int) - 1) = False := by simp
        have hab : a = b := by simpa using he
        subst hab
        simp -implicitDefEqProofs only [go_sem, Nat.reduceAdd, Nat.reduceMul, Nat.reduceEqDiff, Nat.reduceLT, Nat.reduceLeDiff, Nat.reduceSub, Nat.reduceBEq, reduceIte, reduceCtorEq, Int.reduceEq, Int.reduceNe, Nat.reduceBneDiff, Int.reduceLE, Int.reduceLT, Int.reduceToNat, Int.reduceAdd, Int.reduceSub, Int.reduceMul, Int.reduceNeg, di, h1, cmpN_eq]
      | succ i =>
        have hs : (((i + 1 : Nat) : Int) - 1) = (i : Int) := by omega
        have h1 : ((0 : Int) ≤ (i : Int)) = True := by simp
        have hga := digs_get_lt E9_2 (show i < (digs E9 a).length by omega)
        have hgb := digs_get_lt E9_2 (show i < (digs E9 b).length by omega)
        by_cases hlt : a / E9 ^ i % E9 < b / E9 ^ i % E9
        · have h2 : (((a / E9 ^ i % E9 : Nat) : Int) < ((b / E9 ^ i % E9 : Nat) : Int)) = True := by simp only [eq_iff_iff, iff_true]; omega
          have hc := cmpN_lt (cmp_digit (by decide) he hlt)
          simp -implicitDefEqProofs only [go_sem, Nat.reduceAdd, Nat.reduceMul, Nat.reduceEqDiff, Nat.reduceLT, Nat.reduceLeDiff, Nat.reduceSub, Nat.reduceBEq, reduceIte, reduceCtorEq, Int.reduceEq, Int.reduceNe, Nat.reduceBneDiff, Int.reduceLE, Int.reduceLT, Int.reduceToNat, Int.reduceAdd, Int.reduceSub, Int.reduceMul, Int.reduceNeg, di, hs, h1, di_get, hga, hgb, h2, hc]
          exact drawQ_true _ _ (by kernel_rfl)
        · have h2 : (((a / E9 ^ i % E9 : Nat) : Int) < ((b / E9 ^ i % E9 : Nat) : Int)) = False := by simp only [eq_iff_iff, iff_false]; omega
          by_cases hgt : b / E9 ^ i % E9 < a / E9 ^ i % E9
          · have h3 : (((b / E9 ^ i % E9 : Nat) : Int) < ((a / E9 ^ i % E9 : Nat) : Int)) = True := by simp only [eq_iff_iff, iff_true]; omega
            have hc := cmpN_gt (cmp_digit (by decide) he.symm hgt)
            simp -implicitDefEqProofs only [go_sem, Nat.reduceAdd, Nat.reduceMul, Nat.reduceEqDiff, Nat.reduceLT, Nat.reduceLeDiff, Nat.reduceSub, Nat.reduceBEq, reduceIte, reduceCtorEq, Int.reduceEq, Int.reduceNe, Nat.reduceBneDiff, Int.reduceLE, Int.reduceLT, Int.reduceToNat, Int.reduceAdd, Int.reduceSub, Int.reduceMul, Int.reduceNeg, di, hs, h1, di_get, hga, hgb, h2, h3, hc]
            exact ⟨drawQ_true _ _ (by kernel_rfl), drawQ_true _ _ (by kernel_rfl)⟩
          · have h3 : (((b / E9 ^ i % E9 : Nat) : Int) < ((a / E9 ^ i % E9 : Nat) : Int)) = False := by simp only [eq_iff_iff, iff_false]; omega
            have hw2 : IntKind.i64.wrap ((i : Int) - 1) = (i : Int) - 1 := wrap_i64 (by omega) (by omega)
            simp -implicitDefEqProofs only [go_sem, Nat.reduceAdd, Nat.reduceMul, Nat.reduceEqDiff, Nat.reduceLT, Nat.reduceLeDiff, Nat.reduceSub, Nat.reduceBEq, reduceIte, reduceCtorEq, Int.reduceEq, Int.reduceNe, Nat.reduceBneDiff, Int.reduceLE, Int.reduceLT, Int.reduceToNat, Int.reduceAdd, Int.reduceSub, Int.reduceMul, Int.reduceNeg, di, hs, h1, di_get, hga, hgb, h2, h3, hw2]
            refine ⟨drawQ_true _ _ (by kernel_rfl), drawQ_true _ _ (by kernel_rfl), ⟨i, by omega, same_digit (by decide) he (by omega)⟩, by simp, ?_⟩
            exact le_vars (by simp [varsLe, lkp, ren1, ren0, di])
  · have hl' : (((digs E9 a).length : Int) != ((digs E9 b).length : Int)) = true := by simp; omega
    by_cases hlt : (digs E9 a).length < (digs E9 b).length
    · have h2 : (((digs E9 a).length : Int) < ((digs E9 b).length : Int)) = True := by simp; omega
      have hc := cmpN_lt (len_lt E9_2 hlt)
      simp -implicitDefEqProofs only [go_sem, Nat.reduceAdd, Nat.reduceMul, Nat.reduceEqDiff, Nat.reduceLT, Nat.reduceLeDiff, Nat.reduceSub, Nat.reduceBEq, reduceIte, reduceCtorEq, Int.reduceEq, Int.reduceNe, Nat.reduceBneDiff, Int.reduceLE, Int.reduceLT, Int.reduceToNat, Int.reduceAdd, Int.reduceSub, Int.reduceMul, Int.reduceNeg, di, List.length_map, hl', h2, hc]
    · have h2 : (((digs E9 a).length : Int) < ((digs E9 b).length : Int)) = False := by simp; omega
      have hc := cmpN_gt (len_lt E9_2 (show (digs E9 b).length < (digs E9 a).length by omega))
      simp -implicitDefEqProofs only [go_sem, Nat.reduceAdd, Nat.reduceMul, Nat.reduceEqDiff, Nat.reduceLT, Nat.reduceLeDiff, Nat.reduceSub, Nat.reduceBEq, reduceIte, reduceCtorEq, Int.reduceEq, Int.reduceNe, Nat.reduceBneDiff, Int.reduceLE, Int.reduceLT, Int.reduceToNat, Int.reduceAdd, Int.reduceSub, Int.reduceMul, Int.reduceNeg, di, List.length_map, hl', h2, hc]

/-- An integer of the reference. -/
def rI (n : Int) : PV := .agg [.bool (decide (n < 0)), di (digs E9 n.natAbs)]
theorem rmade_v (neg : Bool) (m : Nat) : SoundAt Tryz.prog 72 [.bool neg, di (digs E9 m)] (rI (if neg then -(m : Int) else m)) := by
  refine sound_go (tb := []) 13 [.cell 4 37] [0, 1, 4] mixed Tryz.func72 rfl (by kernel_rfl) (by kernel_rfl) (by kernel_rfl) (by kernel_rfl) ?_
  by_cases hm : m = 0
  · subst hm
    cases neg
    · simp -implicitDefEqProofs only [go_sem, Nat.reduceAdd, Nat.reduceMul, Nat.reduceEqDiff, Nat.reduceLT, Nat.reduceLeDiff, Nat.reduceSub, Nat.reduceBEq, reduceIte, reduceCtorEq, Int.reduceEq, Int.reduceNe, Nat.reduceBneDiff, Int.reduceLE, Int.reduceLT, Int.reduceToNat, Int.reduceAdd, Int.reduceSub, Int.reduceMul, Int.reduceNeg, di, rI, digs_zero, Int.natAbs_zero, Int.lt_irrefl]
      simp [digs_zero]
    · simp -implicitDefEqProofs only [go_sem, Nat.reduceAdd, Nat.reduceMul, Nat.reduceEqDiff, Nat.reduceLT, Nat.reduceLeDiff, Nat.reduceSub, Nat.reduceBEq, reduceIte, reduceCtorEq, Int.reduceEq, Int.reduceNe, Nat.reduceBneDiff, Int.reduceLE, Int.reduceLT, Int.reduceToNat, Int.reduceAdd, Int.reduceSub, Int.reduceMul, Int.reduceNeg, di, rI, digs_zero]
      simp [digs_zero]
  · have h1 : ((0 : Int) < ((digs E9 m).length : Int)) = True := by
      have := mt (digs_eq_nil E9_2).1 hm
      simp only [eq_iff_iff, iff_true]
      have := List.length_pos_iff.2 this
      omega
    cases neg
    · simp -implicitDefEqProofs only [go_sem, Nat.reduceAdd, Nat.reduceMul, Nat.reduceEqDiff, Nat.reduceLT, Nat.reduceLeDiff, Nat.reduceSub, Nat.reduceBEq, reduceIte, reduceCtorEq, Int.reduceEq, Int.reduceNe, Nat.reduceBneDiff, Int.reduceLE, Int.reduceLT, Int.reduceToNat, Int.reduceAdd, Int.reduceSub, Int.reduceMul, Int.reduceNeg, di, rI, List.length_map, h1]
      have : ¬ ((m : Int) < 0) := by omega
      simp [this]
    · simp -implicitDefEqProofs only [go_sem, Nat.reduceAdd, Nat.reduceMul, Nat.reduceEqDiff, Nat.reduceLT, Nat.reduceLeDiff, Nat.reduceSub, Nat.reduceBEq, reduceIte, reduceCtorEq, Int.reduceEq, Int.reduceNe, Nat.reduceBneDiff, Int.reduceLE, Int.reduceLT, Int.reduceToNat, Int.reduceAdd, Int.reduceSub, Int.reduceMul, Int.reduceNeg, di, rI, List.length_map, h1]
      have : -(m : Int) < 0 := by omega
      simp only [this, decide_true, Int.natAbs_neg, Int.natAbs_natCast]
end Go.Proofs.YtnpclmmmngmdkaaGreat

namespace Go.Proofs.YtnpclmmmngmdkaaGreat
open Go.Vl Go.RowKit Go.Dg

theorem rminus_v (a b : Nat) (hba : b ≤ a) (ha : (digs E9 a).length ≤ 1000000000) : SoundAt Tryz.prog 113 [di (digs E9 a), di (digs E9 b)] (di (digs E9 (a - b))) := by
  refine sound_go (tb := []) 41 [.tmp 4] [0, 1, 4, 5, 6, 7, 8, 12, 24, 32] mixed Tryz.func113 rfl (by kernel_rfl) (by kernel_rfl) (by kernel_rfl) (by kernel_rfl) ?_
  simp -implicitDefEqProofs only [go_sem, Nat.reduceAdd, Nat.reduceMul, Nat.reduceEqDiff, Nat.reduceLT, Nat.reduceLeDiff, Nat.reduceSub, Nat.reduceBEq, reduceIte, reduceCtorEq, Int.reduceEq, Int.reduceNe, Nat.reduceBneDiff, Int.reduceLE, Int.reduceLT, Int.reduceToNat, Int.reduceAdd, Int.reduceSub, Int.reduceMul, Int.reduceNeg, di]
  refine g_loop mixed (fun i : { i : Nat // i ≤ (digs E9 a).length } => St.of [(0, di (digs E9 a)), (1, di (digs E9 b)), (4, .nilS), (5, .bs 7 1 0 i.1), (6, .int .i64 (bor E9 a b i.1 : Int)), (7, .int .i64 (i.1 : Int))]
    [(7, { els := (lows E9 (a - b) i.1).map fI, esz := 1, ety := 3, fro := 0, live := true, arr := true })]) (fun i => (digs E9 a).length - i.1) ⟨0, Nat.zero_le _⟩ ?_ ?_
  · refine le_nil1 5 7 1 3 rfl rfl rfl (by decide) [(7, 7)] rfl ?_ ?_
    · simp [varsLe, lkp, ren1, ren0, di, bor_zero]
    · simp [boxesLe, lkp, Box.renames, lows]
  · rintro ⟨i, hi⟩
    have h0 : (0 ≤ (i : Int)) = True := by simp
    have hll := lows_length (B := E9) (a - b) i
    have hbl := bor_le (B := E9) a b i
    have hbl2 := bor_le (B := E9) a b (i + 1)
    have hst := sub_step E9_2 hba i
    have hda : a / E9 ^ i % E9 < E9 := Nat.mod_lt _ (by decide)
    have hdb : b / E9 ^ i % E9 < E9 := Nat.mod_lt _ (by decide)
    have hdc : (a - b) / E9 ^ i % E9 < E9 := Nat.mod_lt _ (by decide)
    have hb1 : ((i + 1) * 8 ≤ 140737488355328) = True := by simp; omega
    have hb2 : (i + 1 ≤ maxLen) = True := by simp [maxLen]; omega
    have hwi := wrap_add1 (a := i) (by omega)
    by_cases hA : i < (digs E9 a).length
    · have hA' : ((i : Int) < ((digs E9 a).length : Int)) = True := by simp; omega
      have hga := digs_get_lt E9_2 hA
      have next : ∀ s, Le s (St.of [(0, di (digs E9 a)), (1, di (digs E9 b)), (4, .nilS), (5, .bs 7 1 0 (i + 1)), (6, .int .i64 (bor E9 a b (i + 1) : Int)), (7, .int .i64 ((i + 1 : Nat) : Int))]
          [(7, { els := (lows E9 (a - b) (i + 1)).map fI, esz := 1, ety := 3, fro := 0, live := true, arr := true })]) →
          ∃ y : { i : Nat // i ≤ (digs E9 a).length }, (digs E9 a).length - y.1 < (digs E9 a).length - i ∧
            Le s (St.of [(0, di (digs E9 a)), (1, di (digs E9 b)), (4, .nilS), (5, .bs 7 1 0 y.1), (6, .int .i64 (bor E9 a b y.1 : Int)), (7, .int .i64 (y.1 : Int))]
              [(7, { els := (lows E9 (a - b) y.1).map fI, esz := 1, ety := 3, fro := 0, live := true, arr := true })]) :=
        fun s hle => ⟨⟨i + 1, hA⟩, by simp only; omega, hle⟩
      generalize hx : a / E9 ^ i % E9 = x at *
      generalize hy : b / E9 ^ i % E9 = y at *
      have hz : (a - b) / E9 ^ i % E9 + y + bor E9 a b i = x + E9 * bor E9 a b (i + 1) := hst
      have w1 : IntKind.i64.wrap ((x : Int) - (bor E9 a b i : Int)) = (x : Int) - (bor E9 a b i : Int) := wrap_i64 (by simp only [E9] at *; omega) (by simp only [E9] at *; omega)
      have w2 : IntKind.i64.wrap ((x : Int) - (bor E9 a b i : Int) - (y : Int)) = (x : Int) - (bor E9 a b i : Int) - (y : Int) := wrap_i64 (by simp only [E9] at *; omega) (by simp only [E9] at *; omega)
      have fin : ∀ t : Int, t = (x : Int) - (bor E9 a b i : Int) - (y : Int) → (t < 0 → bor E9 a b (i + 1) = 1 ∧ t + 1000000000 = (((a - b) / E9 ^ i % E9 : Nat) : Int)) ∧ (¬ t < 0 → bor E9 a b (i + 1) = 0 ∧ t = (((a - b) / E9 ^ i % E9 : Nat) : Int)) := by
        intro t ht
        simp only [E9] at *
        constructor
        · intro h; constructor <;> omega
        · intro h; constructor <;> omega
      by_cases hB : i < (digs E9 b).length
      · have hB' : ((i : Int) < ((digs E9 b).length : Int)) = True := by simp; omega
        have hgb := digs_get_lt E9_2 hB
        rw [hy] at hgb
        obtain ⟨f1, f2⟩ := fin _ rfl
        by_cases hn : (x : Int) - (bor E9 a b i : Int) - (y : Int) < 0
        · have hn' : ((x : Int) - (bor E9 a b i : Int) - (y : Int) < 0) = True := by simp only [eq_iff_iff, iff_true]; exact hn
          obtain ⟨k1, k2⟩ := f1 hn
          have w3 : IntKind.i64.wrap ((x : Int) - (bor E9 a b i : Int) - (y : Int) + 1000000000) = (((a - b) / E9 ^ i % E9 : Nat) : Int) := by rw [k2]; exact wrapn (by simp only [E9] at *; omega)
          simp -implicitDefEqProofs only [go_sem, Nat.reduceAdd, Nat.reduceMul, Nat.reduceEqDiff, Nat.reduceLT, Nat.reduceLeDiff, Nat.reduceSub, Nat.reduceBEq, reduceIte, reduceCtorEq, Int.reduceEq, Int.reduceNe, Nat.reduceBneDiff, Int.reduceLE, Int.reduceLT, Int.reduceToNat, Int.reduceAdd, Int.reduceSub, Int.reduceMul, Int.reduceNeg, di, List.length_map, hA', hB', h0, di_get, hga, hgb, w1, w2, w3, hn', hll, di_okf, hb1, hb2, hwi]
          refine next _ (le_of (θ := [(7, 1203)]) rfl ?_ ?_)
          · simp [varsLe, lkp, ren1, ren0, di, k1]
          · simp [boxesLe, lkp, Box.renames, lows_succ]
        · have hn' : ((x : Int) - (bor E9 a b i : Int) - (y : Int) < 0) = False := by simp only [eq_iff_iff, iff_false]; exact hn
          obtain ⟨k1, k2⟩ := f2 hn
          simp -implicitDefEqProofs only [go_sem, Nat.reduceAdd, Nat.reduceMul, Nat.reduceEqDiff, Nat.reduceLT, Nat.reduceLeDiff, Nat.reduceSub, Nat.reduceBEq, reduceIte, reduceCtorEq, Int.reduceEq, Int.reduceNe, Nat.reduceBneDiff, Int.reduceLE, Int.reduceLT, Int.reduceToNat, Int.reduceAdd, Int.reduceSub, Int.reduceMul, Int.reduceNeg, di, List.length_map, hA', hB', h0, di_get, hga, hgb, w1, w2, hn', hll, di_okf, hb1, hb2, hwi]
          refine next _ (le_of (θ := [(7, 1203)]) rfl ?_ ?_)
          · simp [varsLe, lkp, ren1, ren0, di, k1]
          · simp [boxesLe, lkp, Box.renames, lows_succ, k2]
      · have hB' : ((i : Int) < ((digs E9 b).length : Int)) = False := by simp; omega
        have hy0 : y = 0 := by rw [← hy, digit_beyond E9_2 (Nat.le_of_not_lt hB), Nat.zero_mod]
        obtain ⟨f1, f2⟩ := fin ((x : Int) - (bor E9 a b i : Int)) (by omega)
        by_cases hn : (x : Int) - (bor E9 a b i : Int) < 0
        · have hn' : ((x : Int) - (bor E9 a b i : Int) < 0) = True := by simp only [eq_iff_iff, iff_true]; exact hn
          obtain ⟨k1, k2⟩ := f1 hn
          have w3 : IntKind.i64.wrap ((x : Int) - (bor E9 a b i : Int) + 1000000000) = (((a - b) / E9 ^ i % E9 : Nat) : Int) := by rw [k2]; exact wrapn (by simp only [E9] at *; omega)
          simp -implicitDefEqProofs only [go_sem, Nat.reduceAdd, Nat.reduceMul, Nat.reduceEqDiff, Nat.reduceLT, Nat.reduceLeDiff, Nat.reduceSub, Nat.reduceBEq, reduceIte, reduceCtorEq, Int.reduceEq, Int.reduceNe, Nat.reduceBneDiff, Int.reduceLE, Int.reduceLT, Int.reduceToNat, Int.reduceAdd, Int.reduceSub, Int.reduceMul, Int.reduceNeg, di, List.length_map, hA', hB', h0, di_get, hga, w1, w3, hn', hll, di_okf, hb1, hb2, hwi]
          refine next _ (le_of (θ := [(7, 1203)]) rfl ?_ ?_)
          · simp [varsLe, lkp, ren1, ren0, di, k1]
          · simp [boxesLe, lkp, Box.renames, lows_succ]
        · have hn' : ((x : Int) - (bor E9 a b i : Int) < 0) = False := by simp only [eq_iff_iff, iff_false]; exact hn
          obtain ⟨k1, k2⟩ := f2 hn
          simp -implicitDefEqProofs only [go_sem, Nat.reduceAdd, Nat.reduceMul, Nat.reduceEqDiff, Nat.reduceLT, Nat.reduceLeDiff, Nat.reduceSub, Nat.reduceBEq, reduceIte, reduceCtorEq, Int.reduceEq, Int.reduceNe, Nat.reduceBneDiff, Int.reduceLE, Int.reduceLT, Int.reduceToNat, Int.reduceAdd, Int.reduceSub, Int.reduceMul, Int.reduceNeg, di, List.length_map, hA', hB', h0, di_get, hga, w1, hn', hll, di_okf, hb1, hb2, hwi]
          refine next _ (le_of (θ := [(7, 1203)]) rfl ?_ ?_)
          · simp [varsLe, lkp, ren1, ren0, di, k1]
          · simp [boxesLe, lkp, Box.renames, lows_succ, k2]
    · have hA' : ((i : Int) < ((digs E9 a).length : Int)) = False := by simp; omega
      have htk : ((lows E9 (a - b) i).map fI).take i = (lows E9 (a - b) i).map fI := List.take_of_length_le (by simp [hll])
      have hlt : a - b < E9 ^ i := Nat.lt_of_le_of_lt (Nat.sub_le _ _) ((digs_len_le E9_2 a i).1 (by omega))
      simp -implicitDefEqProofs only [go_sem, Nat.reduceAdd, Nat.reduceMul, Nat.reduceEqDiff, Nat.reduceLT, Nat.reduceLeDiff, Nat.reduceSub, Nat.reduceBEq, reduceIte, reduceCtorEq, Int.reduceEq, Int.reduceNe, Nat.reduceBneDiff, Int.reduceLE, Int.reduceLT, Int.reduceToNat, Int.reduceAdd, Int.reduceSub, Int.reduceMul, Int.reduceNeg, di, List.length_map, hA', hll, htk]
      refine gcall_intro _ _ _ _ _ _ _ _ _ (rtrim_v (lows E9 (a - b) i) (by rw [hll]; simp [maxLen]; omega)) ?_
      simp -implicitDefEqProofs only [go_sem, Nat.reduceAdd, Nat.reduceMul, Nat.reduceEqDiff, Nat.reduceLT, Nat.reduceLeDiff, Nat.reduceSub, Nat.reduceBEq, reduceIte, reduceCtorEq, Int.reduceEq, Int.reduceNe, Nat.reduceBneDiff, Int.reduceLE, Int.reduceLT, Int.reduceToNat, Int.reduceAdd, Int.reduceSub, Int.reduceMul, Int.reduceNeg, di, List.length_map]
      rw [trimZ_lows E9_2, Nat.mod_eq_of_lt hlt]
end Go.Proofs.YtnpclmmmngmdkaaGreat

namespace Go.Proofs.YtnpclmmmngmdkaaGreat
open Go.Vl Go.RowKit Go.Dg

theorem lows_zero (n : Nat) : lows E9 0 n = List.replicate n 0 := by
  apply List.ext_getElem?
  intro k
  by_cases h : k < n
  · rw [lows_get _ _ _ h]; simp [h]
  · rw [List.getElem?_eq_none (by rw [lows_length]; omega), List.getElem?_eq_none (by simp; omega)]
theorem set_fI (l : List Nat) (i : Nat) (d : Nat) : (l.map fI).set i (PV.int .i64 (d : Int)) = (l.set i d).map fI := (List.map_set (f := fI)).symm
theorem fI_get (l : List Nat) (k : Nat) : (l.map fI)[k]? = l[k]?.map fun d : Nat => PV.int .i64 (d : Int) := List.getElem?_map

theorem rtimes_v (a b : Nat) (hab : (digs E9 a).length + (digs E9 b).length ≤ 1000000000) : SoundAt Tryz.prog 102 [di (digs E9 a), di (digs E9 b)] (di (digs E9 (a * b))) := by
  refine sound_go (tb := []) 66 [.tmp 4] [0, 1, 4, 5, 6, 7, 8, 9, 19, 29, 43] mixed Tryz.func102 rfl (by kernel_rfl) (by kernel_rfl) (by kernel_rfl) (by kernel_rfl) ?_
  have hw0 := wrap_add (a := (digs E9 a).length) (b := (digs E9 b).length) (by omega)
  have hn0 : ((0 : Int) ≤ (((digs E9 a).length + (digs E9 b).length : Nat) : Int)) = True := by simp only [eq_iff_iff, iff_true]; omega
  have hn1 : ((8 : Nat) : Int) * (((digs E9 a).length + (digs E9 b).length : Nat) : Int) ≤ 281474976710656 := by omega
  have hn2 : (((digs E9 a).length + (digs E9 b).length : Nat) : Int) ≤ 9223372036854775807 := by omega
  simp -implicitDefEqProofs only [go_sem, Nat.reduceAdd, Nat.reduceMul, Nat.reduceEqDiff, Nat.reduceLT, Nat.reduceLeDiff, Nat.reduceSub, Nat.reduceBEq, reduceIte, reduceCtorEq, Int.reduceEq, Int.reduceNe, Nat.reduceBneDiff, Int.reduceLE, Int.reduceLT, Int.reduceToNat, Int.reduceAdd, Int.reduceSub, Int.reduceMul, Int.reduceNeg, di, List.length_map, hw0, hn0, hn1, hn2]
  have hrep : List.replicate ((digs E9 a).length + (digs E9 b).length) (PV.int .i64 0) = (lows E9 0 ((digs E9 a).length + (digs E9 b).length)).map fI := by rw [lows_zero]; simp
  rw [hrep]
  generalize hla : (digs E9 a).length = la at *
  generalize hlb : (digs E9 b).length = lb at *
  refine g_loop mixed (fun i : { i : Nat // i ≤ la } => St.of [(0, di (digs E9 a)), (1, di (digs E9 b)), (4, .nilS), (5, .bs 105 1 0 (la + lb)), (6, .int .i64 (i.1 : Int))]
    [(105, { els := (lows E9 (a % E9 ^ i.1 * b) (la + lb)).map fI, esz := 1, ety := 3, fro := 0, live := true, arr := true })]) (fun i => la - i.1) ⟨0, Nat.zero_le _⟩ ?_ ?_
  · refine le_of (θ := [(105, 105)]) rfl ?_ ?_
    · simp [varsLe, lkp, ren1, ren0, di]
    · simp [boxesLe, lkp, Box.renames, Nat.mod_one]
  · rintro ⟨i, hi⟩
    by_cases hA : i < la
    · have hA' : ((i : Int) < (la : Int)) = True := by simp; omega
      have h0 : (0 ≤ (i : Int)) = True := by simp
      have hga := digs_get_lt E9_2 (show i < (digs E9 a).length by omega)
      have hblt : b < E9 ^ lb := by rw [← hlb]; exact lt_pow_len E9_2 b
      simp -implicitDefEqProofs only [go_sem, Nat.reduceAdd, Nat.reduceMul, Nat.reduceEqDiff, Nat.reduceLT, Nat.reduceLeDiff, Nat.reduceSub, Nat.reduceBEq, reduceIte, reduceCtorEq, Int.reduceEq, Int.reduceNe, Nat.reduceBneDiff, Int.reduceLE, Int.reduceLT, Int.reduceToNat, Int.reduceAdd, Int.reduceSub, Int.reduceMul, Int.reduceNeg, di, List.length_map, hla, hA']
      generalize hS : a % E9 ^ i * b = S at *
      generalize hx : a / E9 ^ i % E9 = x at *
      have hxl : x < E9 := by rw [← hx]; exact Nat.mod_lt _ (by decide)
      refine g_loop mixed (fun k : { k : Nat // k ≤ lb + 1 } => St.of [(0, di (digs E9 a)), (1, di (digs E9 b)), (4, .nilS), (5, .bs 105 1 0 (la + lb)), (6, .int .i64 (i : Int)), (7, .int .i64 (mulC E9 S x i b k.1 : Int)), (8, .int .i64 (k.1 : Int))]
        [(105, { els := (mix E9 (mulV E9 S x i b k.1) S (la + lb) (i + k.1)).map fI, esz := 1, ety := 3, fro := 0, live := true, arr := true })]) (fun k => lb + 1 - k.1) ⟨0, Nat.zero_le _⟩ ?_ ?_
      · refine le_of (θ := [(105, 105)]) rfl ?_ ?_
        · simp [varsLe, lkp, ren1, ren0, di, mulC_zero]
        · simp only [boxesLe, lkp, Box.renames, mulV_zero, Nat.add_zero, and_self, and_true, true_and, if_true]
          rw [mix_all (by decide) rfl]
          exact .inl rfl
      · rintro ⟨k, hk⟩
        have hcl := mulC_lt (B := E9) (S := S) (i := i) (b := b) (k := k) (by decide) hxl
        obtain ⟨hs1, hs2⟩ : (S / E9 ^ (i + k) % E9 + mulC E9 S x i b k + x * (b / E9 ^ k % E9)) % 1000000000 = mulV E9 S x i b (k + 1) / E9 ^ (i + k) % E9 ∧ (S / E9 ^ (i + k) % E9 + mulC E9 S x i b k + x * (b / E9 ^ k % E9)) / 1000000000 = mulC E9 S x i b (k + 1) := mul_step (B := E9) (by decide) S x i b k
        have hk0 : (0 ≤ (k : Int)) = True := by simp
        have hd1 : S / E9 ^ (i + k) % E9 < E9 := Nat.mod_lt _ (by decide)
        have hd2 : b / E9 ^ k % E9 < E9 := Nat.mod_lt _ (by decide)
        have hend : k = lb + 1 → mulC E9 S x i b k = 0 := by
          rintro rfl; rw [← hS, ← hx]; exact mulC_end (by decide) hblt
        have hwik := wrap_add (a := i) (b := k) (by omega)
        have hik0 : ((0 : Int) ≤ ((i + k : Nat) : Int)) = True := by simp only [eq_iff_iff, iff_true]; omega
        have hwk := wrap_add1 (a := k) (by omega)
        have hmul : x * (b / E9 ^ k % E9) ≤ 999999999 * 999999999 := Nat.mul_le_mul (by simp only [E9] at *; omega) (by simp only [E9] at *; omega)
        have hml := mix_length (B := E9) (mulV E9 S x i b k) S (la + lb) (i + k)
        by_cases hmore : k < lb ∨ 0 < mulC E9 S x i b k
        · have hklb : k ≤ lb := by
            rcases hmore with h | h
            · omega
            · rcases Nat.lt_or_ge lb k with h' | h'
              · have := hend (by omega); omega
              · exact h'
          have hin : i + k < la + lb := by omega
          have hin' : (((i + k : Nat) : Int) < ((la + lb : Nat) : Int)) = True := by simp only [eq_iff_iff, iff_true]; omega
          have hget : (mix E9 (mulV E9 S x i b k) S (la + lb) (i + k))[i + k]? = some (S / E9 ^ (i + k) % E9) := by rw [mix_get _ _ _ _ _ hin, if_neg (Nat.lt_irrefl _)]
          have hset := mix_set (B := E9) (S := S) (by decide) hin (mulV_low (B := E9) S x i b k) rfl
          have next : ∀ s, Le s (St.of [(0, di (digs E9 a)), (1, di (digs E9 b)), (4, .nilS), (5, .bs 105 1 0 (la + lb)), (6, .int .i64 (i : Int)), (7, .int .i64 (mulC E9 S x i b (k + 1) : Int)), (8, .int .i64 ((k + 1 : Nat) : Int))]
              [(105, { els := (mix E9 (mulV E9 S x i b (k + 1)) S (la + lb) (i + k + 1)).map fI, esz := 1, ety := 3, fro := 0, live := true, arr := true })]) →
              ∃ y : { k : Nat // k ≤ lb + 1 }, lb + 1 - y.1 < lb + 1 - k ∧ Le s (St.of [(0, di (digs E9 a)), (1, di (digs E9 b)), (4, .nilS), (5, .bs 105 1 0 (la + lb)), (6, .int .i64 (i : Int)), (7, .int .i64 (mulC E9 S x i b y.1 : Int)), (8, .int .i64 (y.1 : Int))]
                [(105, { els := (mix E9 (mulV E9 S x i b y.1) S (la + lb) (i + y.1)).map fI, esz := 1, ety := 3, fro := 0, live := true, arr := true })]) :=
            fun s h => ⟨⟨k + 1, by omega⟩, by simp only; omega, h⟩
          have w1 := wrap_add (a := S / E9 ^ (i + k) % E9) (b := mulC E9 S x i b k) (by simp only [E9] at *; omega)
          by_cases hB : k < lb
          · have hB' : ((k : Int) < (lb : Int)) = True := by simp; omega
            have hgb := digs_get_lt E9_2 (show k < (digs E9 b).length by omega)
            have w2 : IntKind.i64.wrap ((x : Int) * ((b / E9 ^ k % E9 : Nat) : Int)) = ((x * (b / E9 ^ k % E9) : Nat) : Int) := by
              rw [← Int.natCast_mul]; exact wrapn (by omega)
            have w3 := wrap_add (a := S / E9 ^ (i + k) % E9 + mulC E9 S x i b k) (b := x * (b / E9 ^ k % E9)) (by simp only [E9] at *; omega)
            have w4 := wrapn (n := (S / E9 ^ (i + k) % E9 + mulC E9 S x i b k + x * (b / E9 ^ k % E9)) / 1000000000) (by simp only [E9] at *; omega)
            simp -implicitDefEqProofs only [go_sem, Nat.reduceAdd, Nat.reduceMul, Nat.reduceEqDiff, Nat.reduceLT, Nat.reduceLeDiff, Nat.reduceSub, Nat.reduceBEq, reduceIte, reduceCtorEq, Int.reduceEq, Int.reduceNe, Nat.reduceBneDiff, Int.reduceLE, Int.reduceLT, Int.reduceToNat, Int.reduceAdd, Int.reduceSub, Int.reduceMul, Int.reduceNeg, di, List.length_map, hla, hlb, hA', hB', h0, hk0, di_get, fI_get, hga, hgb, hget, w1, w2, w3, w4, tmod9, tdiv9, hwik, hik0, hin', hwk, hml, set_fI, hs1, hset]
            refine ⟨drawQ_true _ _ (by kernel_rfl), next _ (le_of (θ := [(105, 105)]) rfl ?_ ?_)⟩
            · simp [varsLe, lkp, ren1, ren0, di, hs2]
            · simp [boxesLe, lkp, Box.renames]
          · have hB' : ((k : Int) < (lb : Int)) = False := by simp; omega
            have hC := hmore.resolve_left hB
            have hC' : ((0 : Int) < (mulC E9 S x i b k : Int)) = True := by simp; omega
            have hb0 : b / E9 ^ k % E9 = 0 := by rw [digit_beyond E9_2 (by omega), Nat.zero_mod]
            rw [hb0, Nat.mul_zero, Nat.add_zero] at hs1 hs2
            have w4 := wrapn (n := (S / E9 ^ (i + k) % E9 + mulC E9 S x i b k) / 1000000000) (by simp only [E9] at *; omega)
            simp -implicitDefEqProofs only [go_sem, Nat.reduceAdd, Nat.reduceMul, Nat.reduceEqDiff, Nat.reduceLT, Nat.reduceLeDiff, Nat.reduceSub, Nat.reduceBEq, reduceIte, reduceCtorEq, Int.reduceEq, Int.reduceNe, Nat.reduceBneDiff, Int.reduceLE, Int.reduceLT, Int.reduceToNat, Int.reduceAdd, Int.reduceSub, Int.reduceMul, Int.reduceNeg, di, List.length_map, hla, hlb, hA', hB', hC', h0, hk0, di_get, fI_get, hga, hget, w1, w4, tmod9, tdiv9, hwik, hik0, hin', hwk, hml, set_fI, hs1, hset]
            refine next _ (le_of (θ := [(105, 105)]) rfl ?_ ?_)
            · simp [varsLe, lkp, ren1, ren0, di, hs2]
            · simp [boxesLe, lkp, Box.renames]
        · have hB' : ((k : Int) < (lb : Int)) = False := by simp; omega
          have hC0 : mulC E9 S x i b k = 0 := by omega
          have hC' : ((0 : Int) < (mulC E9 S x i b k : Int)) = False := by simp; omega
          have hwi := wrap_add1 (a := i) (by omega)
          have hV : mulV E9 S x i b k = a % E9 ^ (i + 1) * b := by
            rw [← hS, ← hx]; exact mulV_full a i b k (Nat.lt_of_lt_of_le hblt (Nat.pow_le_pow_right (by decide) (by omega)))
          have hmx := mix_all (B := E9) (V := mulV E9 S x i b k) (S := S) (n := la + lb) (m := i + k) (by decide) (by have := mulC_add (B := E9) S x i b k; omega)
          rw [hV] at hmx
          simp -implicitDefEqProofs only [go_sem, Nat.reduceAdd, Nat.reduceMul, Nat.reduceEqDiff, Nat.reduceLT, Nat.reduceLeDiff, Nat.reduceSub, Nat.reduceBEq, reduceIte, reduceCtorEq, Int.reduceEq, Int.reduceNe, Nat.reduceBneDiff, Int.reduceLE, Int.reduceLT, Int.reduceToNat, Int.reduceAdd, Int.reduceSub, Int.reduceMul, Int.reduceNeg, di, List.length_map, hla, hlb, hA', hB', hC', hwi]
          refine ⟨⟨i + 1, hA⟩, by simp only; omega, le_of (θ := [(105, 105)]) rfl ?_ ?_⟩
          · simp [varsLe, lkp, ren1, ren0, di]
          · simp [boxesLe, lkp, Box.renames, hmx, hV]
    · have hA' : ((i : Int) < (la : Int)) = False := by simp; omega
      have hlt : a < E9 ^ i := (digs_len_le E9_2 a i).1 (by omega)
      have hblt : b < E9 ^ lb := by rw [← hlb]; exact lt_pow_len E9_2 b
      have hil : i = la := by omega
      have hll := lows_length (B := E9) (a % E9 ^ i * b) (la + lb)
      have htk : ((lows E9 (a % E9 ^ i * b) (la + lb)).map fI).take (la + lb) = (lows E9 (a % E9 ^ i * b) (la + lb)).map fI := List.take_of_length_le (by simp [hll])
      simp -implicitDefEqProofs only [go_sem, Nat.reduceAdd, Nat.reduceMul, Nat.reduceEqDiff, Nat.reduceLT, Nat.reduceLeDiff, Nat.reduceSub, Nat.reduceBEq, reduceIte, reduceCtorEq, Int.reduceEq, Int.reduceNe, Nat.reduceBneDiff, Int.reduceLE, Int.reduceLT, Int.reduceToNat, Int.reduceAdd, Int.reduceSub, Int.reduceMul, Int.reduceNeg, di, List.length_map, hla, hA', hll, htk]
      refine gcall_intro _ _ _ _ _ _ _ _ _ (rtrim_v (lows E9 (a % E9 ^ i * b) (la + lb)) (by rw [hll]; simp [maxLen]; omega)) ?_
      simp -implicitDefEqProofs only [go_sem, Nat.reduceAdd, Nat.reduceMul, Nat.reduceEqDiff, Nat.reduceLT, Nat.reduceLeDiff, Nat.reduceSub, Nat.reduceBEq, reduceIte, reduceCtorEq, Int.reduceEq, Int.reduceNe, Nat.reduceBneDiff, Int.reduceLE, Int.reduceLT, Int.reduceToNat, Int.reduceAdd, Int.reduceSub, Int.reduceMul, Int.reduceNeg, di, List.length_map]
      rw [trimZ_lows E9_2, Nat.mod_eq_of_lt hlt, Nat.mod_eq_of_lt]
      rw [Nat.pow_add, ← hil]
      rcases Nat.eq_zero_or_pos b with rfl | hb
      · rw [Nat.mul_zero]; exact Nat.mul_pos (Nat.pow_pos (by decide)) (Nat.pow_pos (by decide))
      · exact Nat.lt_of_lt_of_le (Nat.mul_lt_mul_of_pos_right hlt hb) (Nat.mul_le_mul_left _ (Nat.le_of_lt hblt))

theorem digs_one {n : Nat} (h0 : n ≠ 0) (h : n < E9) : digs E9 n = [n] := by
  rw [digs_succ E9_2 h0, Nat.mod_eq_of_lt h, Nat.div_eq_of_lt h, digs_zero]
theorem rsmall_v (a n : Nat) (hn : n < E9) (ha : (digs E9 a).length ≤ 100000000) : SoundAt Tryz.prog 90 [di (digs E9 a), .int .i64 (n : Int)] (di (digs E9 (a * n))) := by
  refine sound_go (tb := []) 11 [.tmp 4] [0, 1, 4, 6] mixed Tryz.func90 rfl (by kernel_rfl) (by kernel_rfl) (by kernel_rfl) (by kernel_rfl) ?_
  by_cases h0 : n = 0
  · subst h0
    have h1 : (((0 : Nat) : Int) == 0) = true := rfl
    simp -implicitDefEqProofs only [go_sem, Nat.reduceAdd, Nat.reduceMul, Nat.reduceEqDiff, Nat.reduceLT, Nat.reduceLeDiff, Nat.reduceSub, Nat.reduceBEq, reduceIte, reduceCtorEq, Int.reduceEq, Int.reduceNe, Nat.reduceBneDiff, Int.reduceLE, Int.reduceLT, Int.reduceToNat, Int.reduceAdd, Int.reduceSub, Int.reduceMul, Int.reduceNeg, di, h1]
    simp [digs_zero]
  · have h1 : ((n : Int) == 0) = false := by simp; omega
    simp -implicitDefEqProofs only [go_sem, Nat.reduceAdd, Nat.reduceMul, Nat.reduceEqDiff, Nat.reduceLT, Nat.reduceLeDiff, Nat.reduceSub, Nat.reduceBEq, reduceIte, reduceCtorEq, Int.reduceEq, Int.reduceNe, Nat.reduceBneDiff, Int.reduceLE, Int.reduceLT, Int.reduceToNat, Int.reduceAdd, Int.reduceSub, Int.reduceMul, Int.reduceNeg, di, h1]
    have := rtimes_v a n (by rw [digs_one h0 hn]; simp; omega)
    rw [digs_one h0 hn] at this
    refine gcall_intro _ _ _ _ _ _ _ _ _ this ?_
    simp -implicitDefEqProofs only [go_sem, Nat.reduceAdd, Nat.reduceMul, Nat.reduceEqDiff, Nat.reduceLT, Nat.reduceLeDiff, Nat.reduceSub, Nat.reduceBEq, reduceIte, reduceCtorEq, Int.reduceEq, Int.reduceNe, Nat.reduceBneDiff, Int.reduceLE, Int.reduceLT, Int.reduceToNat, Int.reduceAdd, Int.reduceSub, Int.reduceMul, Int.reduceNeg, di]
end Go.Proofs.YtnpclmmmngmdkaaGreat

namespace Go.Vl
open Go.RowKit
theorem b_agge (P : Program) (t : TypeId) (xs ys : List PV) : binPV .eql t P (.agg xs) (.agg ys) = match eqShapeS P t with
    | some sh => match eqCells sh xs ys with
      | some b => some (.bool b)
      | none => none
    | none => none := by
  unfold binPV
  cases eqShapeS P t with
  | none => rfl
  | some sh => simp only; cases eqCells sh xs ys <;> rfl
theorem b_aggn (P : Program) (t : TypeId) (xs ys : List PV) : binPV .neq t P (.agg xs) (.agg ys) = match eqShapeS P t with
    | some sh => match eqCells sh xs ys with
      | some b => some (.bool !b)
      | none => none
    | none => none := by
  unfold binPV
  cases eqShapeS P t with
  | none => rfl
  | some sh => simp only; cases eqCells sh xs ys <;> rfl
attribute [go_sem] b_agge b_aggn
end Go.Vl
