/-
  FN7, FN9, FN10, FN11, By (merged for the claim).
-/
import Derived.Test.YtnpclmmmngmdkaaGreatDv
import Derived.Test.YtnpclmmmngmdkaaGreatBn
set_option linter.unusedSimpArgs false
set_option linter.unusedVariables false
namespace Go.Proofs.YtnpclmmmngmdkaaGreat
open Go.Vl Go.RowKit Go.Dg

theorem formB_of {l : List (Bool × ByteArray)} (h : formB l = true) : validL l = true ∧ 1 ≤ l.length ∧ l.length ≤ 25 := by
  unfold formB at h
  simp only [Bool.and_eq_true, decide_eq_true_eq] at h
  exact ⟨h.1, h.2.1, h.2.2⟩
theorem Split_no (l : List (Bool × ByteArray)) (hl : l.length ≤ maxLen) (h : formB l = false) : SoundAt Tryz.prog 19 [.slc (l.map wA)] (.tup [.slc [], .slc [], .int .i64 2]) := by
  have hv := valid_v l hl
  rw [h] at hv
  refine sound_go (tb := []) 29 [.tmp 2, .tmp 3, .tmp 4] [0, 2, 3, 4, 5, 6, 7, 9, 13] mixed Tryz.func19 rfl (by kernel_rfl) (by kernel_rfl) (by kernel_rfl) (by kernel_rfl) ?_
  repeat (first | (simp -implicitDefEqProofs only [go_sem, Nat.reduceAdd, Nat.reduceMul, Nat.reduceEqDiff, Nat.reduceLT, Nat.reduceLeDiff, Nat.reduceSub, Nat.reduceBEq, reduceIte, reduceCtorEq, Int.reduceEq, Int.reduceNe, Nat.reduceBneDiff, Int.reduceLE, Int.reduceLT, Int.reduceToNat, Int.reduceAdd, Int.reduceSub, Int.reduceMul, Int.reduceNeg]) | ((with_reducible refine gcall_eq (hv) ?_ ?_ ?_); (with_reducible rfl); rfl) | (with_reducible exact drawQ_true _ _ (by kernel_rfl)) | (with_reducible refine And.intro (drawQ_true _ _ (by kernel_rfl)) ?_))
theorem Split_full (l : List (Bool × ByteArray)) (h : formB l = true) (hs : ∀ x ∈ l.map wnP, x.natAbs < 2 ^ 65536) (hb : 65536 < bitsF blen (l.map wnP) + l.length - 1 + 30) : SoundAt Tryz.prog 19 [.slc (l.map wA)] (.tup [.slc [], .slc [], .int .i64 7]) := by
  obtain ⟨hval, h1, h25⟩ := formB_of h
  have hv := valid_v l (Nat.le_trans h25 (by decide))
  rw [h] at hv
  rw [wA_wPV hval] at hv ⊢
  have hxl : (l.map wnP).length = l.length := List.length_map _
  rw [← hxl] at h1 h25 hb
  generalize l.map wnP = xs at *
  have hsz := size_v xs (by omega) hs
  have hle : bitsF blen xs ≤ 65536 := bitsF_le fun x hx' => p2_blen (hs x hx')
  have w1 : IntKind.i64.wrap ((bitsF blen xs : Int) + (xs.length : Int)) = ((bitsF blen xs + xs.length : Nat) : Int) := by rw [wrap_i64 (by omega) (by omega)]; omega
  have w2 : IntKind.i64.wrap (((bitsF blen xs + xs.length : Nat) : Int) - 1) = ((bitsF blen xs + xs.length - 1 : Nat) : Int) := by rw [wrap_i64 (by omega) (by omega)]; omega
  have w3 : IntKind.i64.wrap (((bitsF blen xs + xs.length - 1 : Nat) : Int) + 30) = ((bitsF blen xs + xs.length - 1 + 30 : Nat) : Int) := by rw [wrap_i64 (by omega) (by omega)]; omega
  have g4 : ((65536 : Int) < ((bitsF blen xs + xs.length - 1 + 30 : Nat) : Int)) = True := by simp only [eq_iff_iff, iff_true]; omega
  generalize bitsF blen xs = bb at *
  unfold wL at *
  refine sound_go (tb := []) 29 [.tmp 2, .tmp 3, .tmp 4] [0, 2, 3, 4, 5, 6, 7, 9, 13] mixed Tryz.func19 rfl (by kernel_rfl) (by kernel_rfl) (by kernel_rfl) (by kernel_rfl) ?_
  repeat (first | (simp -implicitDefEqProofs only [go_sem, Nat.reduceAdd, Nat.reduceMul, Nat.reduceEqDiff, Nat.reduceLT, Nat.reduceLeDiff, Nat.reduceSub, Nat.reduceBEq, reduceIte, reduceCtorEq, Int.reduceEq, Int.reduceNe, Nat.reduceBneDiff, Int.reduceLE, Int.reduceLT, Int.reduceToNat, Int.reduceAdd, Int.reduceSub, Int.reduceMul, Int.reduceNeg, w1, w2, w3, g4, List.length_map]) | ((with_reducible refine gcall_eq (hv) ?_ ?_ ?_); (with_reducible rfl); rfl) | ((with_reducible refine gcall_eq (hsz) ?_ ?_ ?_); (with_reducible rfl); rfl) | (with_reducible exact drawQ_true _ _ (by kernel_rfl)) | (with_reducible refine And.intro (drawQ_true _ _ (by kernel_rfl)) ?_))
theorem Split_v (l : List (Bool × ByteArray)) (n B : Nat) (hn : l.length = n + 1) (h : formB l = true) (hx : ∀ x ∈ l.map wnP, x.natAbs < 2 ^ B) (hB : B + n + 30 ≤ 65536) :
    SoundAt Tryz.prog 19 [.slc (l.map wA)] (.tup [wL (leftH (l.map wnP) n), wL (rightH (l.map wnP) n), .int .i64 0]) := by
  obtain ⟨hval, h1, h25⟩ := formB_of h
  have hv := valid_v l (Nat.le_trans h25 (by decide))
  rw [h] at hv
  rw [wA_wPV hval] at hv ⊢
  have hxl : (l.map wnP).length = n + 1 := by rw [List.length_map]; exact hn
  have hn24 : n ≤ 24 := by omega
  generalize l.map wnP = xs at *
  have hsz := size_v xs (by omega) fun x hx' => p2_16 (hx x hx') (by omega)
  have hle : bitsF blen xs ≤ B := bitsF_le fun x hx' => p2_blen (hx x hx')
  have hh := halves_v xs n B hn24 hxl (by omega) hx
  have w1 : IntKind.i64.wrap ((bitsF blen xs : Int) + ((n + 1 : Nat) : Int)) = ((bitsF blen xs + n + 1 : Nat) : Int) := by rw [wrap_i64 (by omega) (by omega)]; omega
  have w2 : IntKind.i64.wrap (((bitsF blen xs + n + 1 : Nat) : Int) - 1) = ((bitsF blen xs + n : Nat) : Int) := by rw [wrap_i64 (by omega) (by omega)]; omega
  have w3 : IntKind.i64.wrap (((bitsF blen xs + n : Nat) : Int) + 30) = ((bitsF blen xs + n + 30 : Nat) : Int) := by rw [wrap_i64 (by omega) (by omega)]; omega
  have g4 : ((65536 : Int) < ((bitsF blen xs + n + 30 : Nat) : Int)) = False := by simp only [eq_iff_iff, iff_false]; omega
  generalize bitsF blen xs = bb at *
  generalize leftH xs n = L at *
  generalize rightH xs n = R at *
  unfold wL at *
  refine sound_go (tb := []) 29 [.tmp 2, .tmp 3, .tmp 4] [0, 2, 3, 4, 5, 6, 7, 9, 13] mixed Tryz.func19 rfl (by kernel_rfl) (by kernel_rfl) (by kernel_rfl) (by kernel_rfl) ?_
  repeat (first | (simp -implicitDefEqProofs only [go_sem, Nat.reduceAdd, Nat.reduceMul, Nat.reduceEqDiff, Nat.reduceLT, Nat.reduceLeDiff, Nat.reduceSub, Nat.reduceBEq, reduceIte, reduceCtorEq, Int.reduceEq, Int.reduceNe, Nat.reduceBneDiff, Int.reduceLE, Int.reduceLT, Int.reduceToNat, Int.reduceAdd, Int.reduceSub, Int.reduceMul, Int.reduceNeg, w1, w2, w3, g4, List.length_map, hxl]) | ((with_reducible refine gcall_eq (hv) ?_ ?_ ?_); (with_reducible rfl); rfl) | ((with_reducible refine gcall_eq (hsz) ?_ ?_ ?_); (with_reducible rfl); rfl) | ((with_reducible refine gcall_eq (hh) ?_ ?_ ?_); (with_reducible rfl); rfl) | (with_reducible exact drawQ_true _ _ (by kernel_rfl)) | (with_reducible refine And.intro (drawQ_true _ _ (by kernel_rfl)) ?_))
set_option maxHeartbeats 4000000 in
theorem BernsteinSplits_v (l : List (Bool × ByteArray)) (hl : l.length ≤ maxLen) : SoundAt Tryz.prog 4 [.slc (l.map wA)] (.bool true) := by
  have hsm := small_v l hl
  have hk := known_v
  have z0 : ((0 : Int) == 0) = true := rfl
  have z2 : ((2 : Int) == 2) = true := rfl
  have zz : (((0 : Nat) : Int) == 0) = true := rfl
  cases hS : smallB l with
  | false =>
    rw [hS] at hsm
    refine sound_go (tb := []) 59 [.tmp 2] [0, 2, 3, 4, 5, 6, 7, 10, 20] mixed Tryz.func4 rfl (by kernel_rfl) (by kernel_rfl) (by kernel_rfl) (by kernel_rfl) ?_
    repeat (first | (simp -implicitDefEqProofs only [go_sem, Nat.reduceAdd, Nat.reduceMul, Nat.reduceEqDiff, Nat.reduceLT, Nat.reduceLeDiff, Nat.reduceSub, Nat.reduceBEq, reduceIte, reduceCtorEq, Int.reduceEq, Int.reduceNe, Nat.reduceBneDiff, Int.reduceLE, Int.reduceLT, Int.reduceToNat, Int.reduceAdd, Int.reduceSub, Int.reduceMul, Int.reduceNeg]) | ((with_reducible refine gcall_eq (hsm) ?_ ?_ ?_); (with_reducible rfl); rfl) | ((with_reducible refine gcall_eq (hk) ?_ ?_ ?_); (with_reducible rfl); rfl) | (with_reducible exact drawQ_true _ _ (by kernel_rfl)) | (with_reducible refine And.intro (drawQ_true _ _ (by kernel_rfl)) ?_))
  | true =>
    rw [hS] at hsm
    obtain ⟨hs8, hlen⟩ := smallB_of hS
    have hvr := rFValid_v l hl
    cases hf : formB l with
    | false =>
      rw [hf] at hvr
      have hsp := Split_no l hl hf
      refine sound_go (tb := []) 59 [.tmp 2] [0, 2, 3, 4, 5, 6, 7, 10, 20] mixed Tryz.func4 rfl (by kernel_rfl) (by kernel_rfl) (by kernel_rfl) (by kernel_rfl) ?_
      repeat (first | (simp -implicitDefEqProofs only [go_sem, Nat.reduceAdd, Nat.reduceMul, Nat.reduceEqDiff, Nat.reduceLT, Nat.reduceLeDiff, Nat.reduceSub, Nat.reduceBEq, reduceIte, reduceCtorEq, Int.reduceEq, Int.reduceNe, Nat.reduceBneDiff, Int.reduceLE, Int.reduceLT, Int.reduceToNat, Int.reduceAdd, Int.reduceSub, Int.reduceMul, Int.reduceNeg, z2, zz]) | ((with_reducible refine gcall_eq (hsm) ?_ ?_ ?_); (with_reducible rfl); rfl) | ((with_reducible refine gcall_eq (hsp) ?_ ?_ ?_); (with_reducible rfl); rfl) | ((with_reducible refine gcall_eq (hvr) ?_ ?_ ?_); (with_reducible rfl); rfl) | ((with_reducible refine gcall_eq (hk) ?_ ?_ ?_); (with_reducible rfl); rfl) | (with_reducible exact drawQ_true _ _ (by kernel_rfl)) | (with_reducible refine And.intro (drawQ_true _ _ (by kernel_rfl)) ?_))
    | true =>
      rw [hf] at hvr
      obtain ⟨hval, h1, h25⟩ := formB_of hf
      obtain ⟨n, hn⟩ : ∃ n : Nat, l.length = n + 1 := ⟨l.length - 1, by omega⟩
      have hx := wnP_bound hs8
      have hsp := Split_v l n 64 hn hf hx (by omega)
      have hfr := rFFrom_v l (by omega) fun p hp' => Nat.le_trans (hs8 p hp') (by decide)
      have hxl : (l.map wnP).length = n + 1 := by rw [List.length_map]; exact hn
      have hha := rHalves_v (l.map wnP) n 64 (by omega) hxl (by decide) hx
      have b1 := bd_leftH (B := 64) (n := n) (by omega) hx
      have b2 := bd_rightH (B := 64) (n := n) (by omega) hx
      have l1 := leftH_length (l.map wnP) n
      have l2 := rightH_length (l.map wnP) n
      have t1 := rFTo_v (leftH (l.map wnP) n) (by omega) fun x hx' => p2_8M (b1 x hx') (by omega)
      have t2 := rFTo_v (rightH (l.map wnP) n) (by omega) fun x hx' => p2_8M (b2 x hx') (by omega)
      have s1 := rSame_v (leftH (l.map wnP) n) (by omega)
      have s2 := rSame_v (rightH (l.map wnP) n) (by omega)
      generalize leftH (l.map wnP) n = L at *
      generalize rightH (l.map wnP) n = R at *
      generalize l.map wnP = xs at *
      unfold wL rL at *
      refine sound_go (tb := []) 59 [.tmp 2] [0, 2, 3, 4, 5, 6, 7, 10, 20] mixed Tryz.func4 rfl (by kernel_rfl) (by kernel_rfl) (by kernel_rfl) (by kernel_rfl) ?_
      repeat (first | (simp -implicitDefEqProofs only [go_sem, Nat.reduceAdd, Nat.reduceMul, Nat.reduceEqDiff, Nat.reduceLT, Nat.reduceLeDiff, Nat.reduceSub, Nat.reduceBEq, reduceIte, reduceCtorEq, Int.reduceEq, Int.reduceNe, Nat.reduceBneDiff, Int.reduceLE, Int.reduceLT, Int.reduceToNat, Int.reduceAdd, Int.reduceSub, Int.reduceMul, Int.reduceNeg, z0, List.length_map]) | ((with_reducible refine gcall_eq (hsm) ?_ ?_ ?_); (with_reducible rfl); rfl) | ((with_reducible refine gcall_eq (hsp) ?_ ?_ ?_); (with_reducible rfl); rfl) | ((with_reducible refine gcall_eq (hvr) ?_ ?_ ?_); (with_reducible rfl); rfl) | ((with_reducible refine gcall_eq (hfr) ?_ ?_ ?_); (with_reducible rfl); rfl) | ((with_reducible refine gcall_eq (hha) ?_ ?_ ?_); (with_reducible rfl); rfl) | ((with_reducible refine gcall_eq (t1) ?_ ?_ ?_); (with_reducible rfl); rfl) | ((with_reducible refine gcall_eq (t2) ?_ ?_ ?_); (with_reducible rfl); rfl) | ((with_reducible refine gcall_eq (s1) ?_ ?_ ?_); (with_reducible rfl); rfl) | ((with_reducible refine gcall_eq (s2) ?_ ?_ ?_); (with_reducible rfl); rfl) | ((with_reducible refine gcall_eq (hk) ?_ ?_ ?_); (with_reducible rfl); rfl) | (with_reducible exact drawQ_true _ _ (by kernel_rfl)) | (with_reducible refine And.intro (drawQ_true _ _ (by kernel_rfl)) ?_))
end Go.Proofs.YtnpclmmmngmdkaaGreat

namespace Go.Proofs.YtnpclmmmngmdkaaGreat
open Go.Vl Go.RowKit Go.Dg

theorem gN_pos {x y : Int} (h : 0 < y) : gN x y = ((Nat.gcd x.natAbs y.natAbs : Nat) : Int) ∧ 0 < gN x y := by
  have h1 := Nat.gcd_pos_of_pos_right x.natAbs (show 0 < y.natAbs by omega)
  have h2 : gN x y = ((Nat.gcd x.natAbs y.natAbs : Nat) : Int) := by unfold gN; rw [if_neg (by omega)]
  exact ⟨h2, by rw [h2]; omega⟩
theorem low_mul {x y : Int} (h : 0 < y) : lowN x y * gN x y = x ∧ lowD x y * gN x y = y := by
  obtain ⟨e, _⟩ := gN_pos (x := x) h
  have d1 : gN x y ∣ x := by rw [e]; exact Int.ofNat_dvd_left.2 (Nat.gcd_dvd_left _ _)
  have d2 : gN x y ∣ y := by rw [e]; exact Int.ofNat_dvd_left.2 (Nat.gcd_dvd_right _ _)
  exact ⟨Int.ediv_mul_cancel d1, Int.ediv_mul_cancel d2⟩
theorem lowD_pos {x y : Int} (h : 0 < y) : 0 < lowD x y := by
  obtain ⟨_, h1⟩ := gN_pos (x := x) h
  obtain ⟨_, h2⟩ := low_mul (x := x) h
  rw [← h2] at h
  exact Int.pos_of_mul_pos_left h (by omega)
theorem low_cross {x y : Int} (h : 0 < y) : lowN x y * y = x * lowD x y := by
  obtain ⟨h1, h2⟩ := low_mul (x := x) h
  generalize lowN x y = a at *
  generalize lowD x y = b at *
  generalize gN x y = g at *
  subst h1; subst h2
  rw [Int.mul_comm b g, Int.mul_assoc]
theorem low_abs {x y : Int} (h : 0 < y) : (lowN x y).natAbs ≤ x.natAbs ∧ (lowD x y).natAbs ≤ y.natAbs := by
  obtain ⟨h1, h2⟩ := low_mul (x := x) h
  obtain ⟨_, hg⟩ := gN_pos (x := x) h
  generalize lowN x y = a at *
  generalize lowD x y = b at *
  generalize gN x y = g at *
  subst h1; subst h2
  have : 1 ≤ g.natAbs := by omega
  rw [Int.natAbs_mul, Int.natAbs_mul]
  exact ⟨Nat.le_mul_of_pos_right _ this, Nat.le_mul_of_pos_right _ this⟩
theorem big_small {x y : Int} (hx : x.natAbs < 2 ^ 65536) (hy : y.natAbs < 2 ^ 65536) : big x y = false := by
  unfold big
  have h1 := p2_blen hx
  have h2 := p2_blen hy
  rw [decide_eq_false (by omega), decide_eq_false (by omega)]; rfl
/-- The best of two ratios: the least, or the greatest one; the first one of equal ones. A ratio without a denominator is none. -/
def bstep (g : Bool) (b r : Int × Int) : Int × Int := if b.2 = 0 ∨ (if g = true then b.1 * r.2 < r.1 * b.2 else r.1 * b.2 < b.1 * r.2) then r else b
def bestF (g : Bool) (l : List (Int × Int)) : Int × Int := l.foldl (bstep g) (0, 0)
theorem bestF_snoc (g : Bool) (l : List (Int × Int)) (r : Int × Int) : bestF g (l ++ [r]) = bstep g (bestF g l) r := by unfold bestF; rw [List.foldl_append]; rfl
theorem ite_or' {α : Type} (c : Prop) [Decidable c] (a b : α) : (if c then a else b) = b ∨ (if c then a else b) = a := by by_cases h : c <;> simp [h]
theorem bstep_mem (g : Bool) (b r : Int × Int) : bstep g b r = b ∨ bstep g b r = r := ite_or' _ _ _
theorem fold_mem (g : Bool) : ∀ (l : List (Int × Int)) (b : Int × Int), l.foldl (bstep g) b = b ∨ l.foldl (bstep g) b ∈ l
  | [], b => .inl rfl
  | r :: l, b => by
    rw [List.foldl_cons]
    rcases fold_mem g l (bstep g b r) with h | h
    · rw [h]
      rcases bstep_mem g b r with e | e
      · exact .inl e
      · rw [e]; exact .inr (List.mem_cons_self ..)
    · exact .inr (List.mem_cons_of_mem _ h)
theorem bestF_mem (g : Bool) (l : List (Int × Int)) : bestF g l = (0, 0) ∨ bestF g l ∈ l := fold_mem g l (0, 0)
/-- The coefficients of a form, in lowest terms. -/
def coefs (f : List Int) : List (Int × Int) := (List.range f.length).map fun j => (lowN (f.getD j 0) (bin (f.length - 1) j : Int), lowD (f.getD j 0) (bin (f.length - 1) j : Int))
theorem coefs_length (f : List Int) : (coefs f).length = f.length := by simp [coefs]
theorem coefs_get {f : List Int} {j : Nat} (h : j < f.length) : (coefs f)[j]'(by rw [coefs_length]; exact h) = (lowN f[j] (bin (f.length - 1) j : Int), lowD f[j] (bin (f.length - 1) j : Int)) := by
  simp only [coefs, List.getElem_map, List.getElem_range, getD_lt h]
theorem coefs_snoc {f : List Int} {j : Nat} (h : j < f.length) : (coefs f).take (j + 1) = (coefs f).take j ++ [(lowN f[j] (bin (f.length - 1) j : Int), lowD f[j] (bin (f.length - 1) j : Int))] := by
  rw [take_snoc (coefs f) j (by rw [coefs_length]; exact h), coefs_get h]
theorem bin_posI {n j : Nat} (h : j ≤ n) : (0 : Int) < (bin n j : Int) := by have := bin_pos h; omega
theorem coefs_ok {f : List Int} {B : Nat} (hn : f.length ≤ 25) (hf : bd B f) : ∀ r ∈ coefs f, r.1.natAbs < 2 ^ B ∧ r.2.natAbs < 2 ^ 25 ∧ 0 < r.2 := by
  intro r hr
  obtain ⟨j, hj, rfl⟩ := List.mem_map.1 hr
  have hj' := List.mem_range.1 hj
  have hp := bin_posI (n := f.length - 1) (j := j) (by omega)
  have hb := bin_i64 (n := f.length - 1) (k := j) (by omega)
  have h1 := low_abs (x := f.getD j 0) hp
  refine ⟨Nat.lt_of_le_of_lt h1.1 (bd_get hf j), Nat.lt_of_le_of_lt h1.2 ?_, lowD_pos hp⟩
  rw [Int.natAbs_natCast]
  have : (2 : Nat) ^ 25 = 33554432 := rfl
  omega
def okR (B : Nat) (r : Int × Int) : Prop := r.1.natAbs < 2 ^ B ∧ r.2.natAbs < 2 ^ 25 ∧ 0 ≤ r.2
theorem okR_best {g : Bool} {B : Nat} {l : List (Int × Int)} (h : ∀ r ∈ l, r.1.natAbs < 2 ^ B ∧ r.2.natAbs < 2 ^ 25 ∧ 0 < r.2) : okR B (bestF g l) := by
  rcases bestF_mem g l with e | e
  · rw [e]; exact ⟨Nat.pow_pos (by decide), Nat.pow_pos (by decide), Int.le_refl _⟩
  · exact ⟨(h _ e).1, (h _ e).2.1, Int.le_of_lt (h _ e).2.2⟩
theorem step_pos {g : Bool} {b r : Int × Int} (hr : 0 < r.2) : 0 < (bstep g b r).2 ∨ (bstep g b r).2 = b.2 ∧ b.2 ≠ 0 := by
  by_cases h : b.2 = 0
  · unfold bstep
    rw [if_pos (.inl h)]; exact .inl hr
  · rcases bstep_mem g b r with e | e
    · exact .inr ⟨by rw [e], h⟩
    · rw [e]; exact .inl hr
theorem best_pos {g : Bool} {l : List (Int × Int)} (h : ∀ r ∈ l, 0 < r.2) (hl : l ≠ []) : 0 < (bestF g l).2 := by
  have key : ∀ (l : List (Int × Int)) (b : Int × Int), 0 < b.2 → (∀ r ∈ l, 0 < r.2) → 0 < (l.foldl (bstep g) b).2 := by
    intro l
    induction l with
    | nil => intro b hb _; exact hb
    | cons r l ih =>
      intro b hb hr
      rw [List.foldl_cons]
      refine ih _ ?_ fun x hx => hr x (List.mem_cons_of_mem _ hx)
      rcases step_pos (g := g) (b := b) (hr r (List.mem_cons_self ..)) with h1 | h1
      · exact h1
      · rw [h1.1]; exact hb
  match l, hl with
  | r :: l, _ =>
    unfold bestF
    rw [List.foldl_cons]
    have e : bstep g (0, 0) r = r := by unfold bstep; rw [if_pos (.inl rfl)]
    rw [e]
    exact key l r (h r (List.mem_cons_self ..)) fun x hx => h x (List.mem_cons_of_mem _ hx)
theorem ratPV_00 : ratPV 0 0 = .agg [.bool false, .str ⟨#[]⟩, .bool false, .str ⟨#[]⟩] := by unfold ratPV; rw [show magL (0 : Int).natAbs = [] from (magL_nil 0).2 rfl]; rfl
theorem vRat_zero : vRat (decide ((0 : Int) < 0)) (mB 0) (decide ((0 : Int) < 0)) (mB 0) = false := by
  have e : (mB 0).data.toList = [] := (magL_nil 0).2 rfl
  unfold vRat
  rw [e]; simp
/-- One comparison of the calls: the order, or 0 for a ratio that is none. -/
def cmpB (r b : Int × Int) : Int := if b.2 = 0 then 0 else (r.1 * b.2 - b.1 * r.2).sign
def cmpE (b : Int × Int) : Int := if b.2 = 0 then 2 else 0
theorem cmp_v (r b : Int × Int) (hr : r.1.natAbs < 2 ^ 65536 ∧ r.2.natAbs < 2 ^ 65536 ∧ 0 < r.2) (hb : b = (0, 0) ∨ b.1.natAbs < 2 ^ 65536 ∧ b.2.natAbs < 2 ^ 65536 ∧ 0 < b.2) :
    SoundAt Tryz.prog 85 [ratPV r.1 r.2, ratPV b.1 b.2] (.tup [.int .i64 (cmpB r b), .int .i64 (cmpE b)]) := by
  rcases hb with rfl | hb
  · exact wCompareRatio_no _ _ _ _ (mB r.1) (mB r.2) (mB 0) (mB 0) (by rw [vRat_zero, Bool.and_false]) (mB_size hr.2.1) (by rw [show (mB 0).size = 0 from by rw [ba_size, show (mB 0).data.toList = [] from (magL_nil 0).2 rfl]; rfl]; decide)
  · have h := wCompareRatio_i hr.1 hr.2.1 hb.1 hb.2.1 hr.2.2 hb.2.2
    unfold cmpB cmpE
    rw [if_neg (by omega), if_neg (by omega)]
    exact h
end Go.Proofs.YtnpclmmmngmdkaaGreat

namespace Go.Proofs.YtnpclmmmngmdkaaGreat
open Go.Vl Go.RowKit Go.Dg

def rats (g : Bool) (l : List (Int × Int)) : PV := ratPV (bestF g l).1 (bestF g l).2
theorem rats_nil (g : Bool) : rats g [] = .agg [.bool false, .str ⟨#[]⟩, .bool false, .str ⟨#[]⟩] := ratPV_00
theorem wL_get (fs : List (List Int)) (i : Nat) (h : i < fs.length) : (fs.map wL)[i]? = some (.slc (fs[i].map wPV)) := by rw [List.getElem?_map, List.getElem?_eq_getElem h]; rfl
theorem flat_snoc (fs : List (List Int)) (i : Nat) (h : i < fs.length) : (fs.take (i + 1)).flatMap coefs = (fs.take i).flatMap coefs ++ coefs fs[i] := by
  rw [take_snoc fs i h, List.flatMap_append, List.flatMap_singleton]
set_option maxHeartbeats 4000000 in
theorem least_v (fs : List (List Int)) (g : Bool) (n B : Nat) (hn : n ≤ 24) (hl : fs.length ≤ 1000000) (hf : ∀ f ∈ fs, f.length = n + 1 ∧ bd B f) (hB : B ≤ 65536) :
    SoundAt Tryz.prog 44 [.slc (fs.map wL), .bool g] (rats g (fs.flatMap coefs)) := by
  have hok : ∀ i, ∀ r ∈ (fs.take i).flatMap coefs, r.1.natAbs < 2 ^ B ∧ r.2.natAbs < 2 ^ 25 ∧ 0 < r.2 := by
    intro i r hr
    obtain ⟨f, hf1, hf2⟩ := List.mem_flatMap.1 hr
    obtain ⟨h1, h2⟩ := hf f (List.mem_of_mem_take hf1)
    exact coefs_ok (by omega) h2 r hf2
  have zm : ((-1 : Int) != 0) = true := rfl
  have zz : ((0 : Int) != 0) = false := rfl
  have z1 : ((1 : Int) != 0) = true := rfl
  refine sound_go (tb := []) 63 [.cell 4 32] [0, 1, 4, 5, 6, 7, 8, 9, 10, 12, 14, 15, 16, 17, 21, 22, 23, 24, 58] mixed Tryz.func44 rfl (by kernel_rfl) (by kernel_rfl) (by kernel_rfl) (by kernel_rfl) ?_
  simp -implicitDefEqProofs only [go_sem, Nat.reduceAdd, Nat.reduceMul, Nat.reduceEqDiff, Nat.reduceLT, Nat.reduceLeDiff, Nat.reduceSub, Nat.reduceBEq, reduceIte, reduceCtorEq, Int.reduceEq, Int.reduceNe, Nat.reduceBneDiff, Int.reduceLE, Int.reduceLT, Int.reduceToNat, Int.reduceAdd, Int.reduceSub, Int.reduceMul, Int.reduceNeg, List.length_map]
  rw [← rats_nil g]
  refine g_loop mixed (fun k : { k : Nat // k ≤ fs.length } => St.of [(1, .bool g), (4, .bp 0 4 0 0), (5, .bp 100 4 0 0), (14, .slc (fs.map wL)), (15, .int .i64 (fs.length : Int)), (16, .int .i64 (k.1 : Int))]
    [(0, { els := [rats g []], esz := 4, ety := 32, fro := 0, live := true, arr := false }), (100, { els := [rats g ((fs.take k.1).flatMap coefs)], esz := 4, ety := 32, fro := 0, live := true, arr := false })]) (fun k => fs.length - k.1) ⟨0, Nat.zero_le _⟩ ?_ ?_
  · refine le_of (θ := [(0, 0), (100, 100)]) rfl ?_ ?_
    · simp [varsLe, lkp, ren1, ren0, wL]
    · refine ⟨⟨rfl, rfl, rfl, rfl, rfl, .inr ⟨rfl, _, _, rfl, rfl, rfl, rfl⟩⟩, ⟨rfl, rfl, rfl, rfl, rfl, .inr ⟨rfl, _, _, rfl, rfl, rfl, rfl⟩⟩, trivial⟩
  · rintro ⟨k, hk⟩
    by_cases hA : k < fs.length
    · have hA' := ltT hA
      have hnk := nnT k
      have hgf := wL_get fs k hA
      obtain ⟨hfl, hfb⟩ := hf _ (List.getElem_mem hA)
      have hwk := wrap_add1 (a := k) (by omega)
      have hfs := flat_snoc fs k hA
      have hokk := hok (k + 1)
      rw [hfs] at hokk
      have hne : k ≠ 0 → (fs.take k).flatMap coefs ≠ [] := by
        intro h0 e
        have h1 : 0 < fs.length := by omega
        have h2 := List.flatMap_eq_nil_iff.1 e fs[0] (List.mem_take_iff_getElem.2 ⟨0, by omega, rfl⟩)
        have h3 := coefs_length fs[0]
        rw [h2, (hf _ (List.getElem_mem h1)).1] at h3
        cases h3
      repeat (first | (simp -implicitDefEqProofs only [go_sem, Nat.reduceAdd, Nat.reduceMul, Nat.reduceEqDiff, Nat.reduceLT, Nat.reduceLeDiff, Nat.reduceSub, Nat.reduceBEq, reduceIte, reduceCtorEq, Int.reduceEq, Int.reduceNe, Nat.reduceBneDiff, Int.reduceLE, Int.reduceLT, Int.reduceToNat, Int.reduceAdd, Int.reduceSub, Int.reduceMul, Int.reduceNeg, hA', hnk, hgf, Int.toNat_natCast, List.length_map]) | (with_reducible exact drawQ_true _ _ (by kernel_rfl)) | (with_reducible refine And.intro (drawQ_true _ _ (by kernel_rfl)) ?_))
      generalize fs[k] = f at *
      generalize hQ : (fs.take k).flatMap coefs = Q at *
      refine g_loop mixed (fun j : { j : Nat // j ≤ f.length } => St.of [(1, .bool g), (4, .bp 0 4 0 0), (5, .bp 100 4 0 0), (6, .int .i64 (k : Int)), (7, wL f), (14, .slc (fs.map wL)), (15, .int .i64 (fs.length : Int)), (16, .int .i64 (k : Int)), (21, wL f), (22, .int .i64 (f.length : Int)), (23, .int .i64 (j.1 : Int))]
        [(0, { els := [rats g []], esz := 4, ety := 32, fro := 0, live := true, arr := false }), (100, { els := [rats g (Q ++ (coefs f).take j.1)], esz := 4, ety := 32, fro := 0, live := true, arr := false })]) (fun j => f.length - j.1) ⟨0, Nat.zero_le _⟩ ?_ ?_
      · refine le_of (θ := [(0, 0), (100, 100)]) rfl ?_ ?_
        · simp [varsLe, lkp, ren1, ren0, wL]
        · simp only [List.take_zero, List.append_nil]
          refine ⟨⟨rfl, rfl, rfl, rfl, rfl, .inr ⟨rfl, _, _, rfl, rfl, rfl, rfl⟩⟩, ⟨rfl, rfl, rfl, rfl, rfl, .inr ⟨rfl, _, _, rfl, rfl, rfl, rfl⟩⟩, trivial⟩
      · rintro ⟨j, hj⟩
        by_cases hJ : j < f.length
        · have hJ' := ltT hJ
          have hnj := nnT j
          have hgx := wPV_get f j hJ
          have hwj := wrap_add1 (a := j) (by omega)
          have w1 : IntKind.i64.wrap ((f.length : Int) - 1) = (n : Int) := by rw [wrap_i64 (by omega) (by omega)]; omega
          have w2 : IntKind.i64.wrap ((k : Int) + (j : Int)) = ((k + j : Nat) : Int) := by rw [wrap_i64 (by omega) (by omega)]; omega
          have hwy := ways_v n j (by omega) (by omega)
          have hb := bin_i64 (n := n) (k := j) hn
          have hp := bin_posI (n := n) (j := j) (by omega)
          have hof := wOf_v (bin n j : Int) (by omega) (by omega)
          have hxb : f[j].natAbs < 2 ^ 65536 := p2_16 (hfb _ (List.getElem_mem hJ)) hB
          have hcb : (bin n j : Int).natAbs < 2 ^ 65536 := p2_16 (B := 25) (by rw [Int.natAbs_natCast]; have : (2 : Nat) ^ 25 = 33554432 := rfl; omega) (by decide)
          have hra := wRatio_i hxb hcb (by omega)
          have hsn := coefs_snoc (f := f) hJ
          have hr : lowN f[j] (bin (f.length - 1) j : Int) = lowN f[j] (bin n j : Int) ∧ lowD f[j] (bin (f.length - 1) j : Int) = lowD f[j] (bin n j : Int) := by rw [show f.length - 1 = n by omega]; exact ⟨rfl, rfl⟩
          rw [hr.1, hr.2] at hsn
          have hmem : (lowN f[j] (bin n j : Int), lowD f[j] (bin n j : Int)) ∈ Q ++ coefs f := List.mem_append_right _ (List.mem_of_mem_take (by rw [hsn]; exact List.mem_append_right _ (List.mem_singleton.2 rfl)))
          have hrk := hokk _ hmem
          rw [outQ_f (big_small (p2_16 hrk.1 hB) (p2_16 hrk.2.1 (by decide)))] at hra
          have hokq : ∀ r ∈ Q ++ (coefs f).take j, r.1.natAbs < 2 ^ B ∧ r.2.natAbs < 2 ^ 25 ∧ 0 < r.2 := fun r hr => hokk r (by
            rcases List.mem_append.1 hr with h | h
            · exact List.mem_append_left _ h
            · exact List.mem_append_right _ (List.mem_of_mem_take h))
          have hbest := okR_best (g := g) hokq
          have hstep := bestF_snoc g (Q ++ (coefs f).take j) (lowN f[j] (bin n j : Int), lowD f[j] (bin n j : Int))
          rw [List.append_assoc, ← hsn] at hstep
          have hcmp := cmp_v (lowN f[j] (bin n j : Int), lowD f[j] (bin n j : Int)) (bestF g (Q ++ (coefs f).take j)) ⟨p2_16 hrk.1 hB, p2_16 hrk.2.1 (by decide), hrk.2.2⟩ (by
            rcases bestF_mem g (Q ++ (coefs f).take j) with e | e
            · exact .inl e
            · have := hokq _ e
              exact .inr ⟨p2_16 this.1 hB, p2_16 this.2.1 (by decide), this.2.2⟩)
          have hrat : rats g (Q ++ (coefs f).take (j + 1)) = ratPV (bstep g (bestF g (Q ++ (coefs f).take j)) (lowN f[j] (bin n j : Int), lowD f[j] (bin n j : Int))).1 (bstep g (bestF g (Q ++ (coefs f).take j)) (lowN f[j] (bin n j : Int), lowD f[j] (bin n j : Int))).2 := by rw [rats, hstep]
          have hrat0 : rats g (Q ++ (coefs f).take j) = ratPV (bestF g (Q ++ (coefs f).take j)).1 (bestF g (Q ++ (coefs f).take j)).2 := rfl
          have hpos : k + j ≠ 0 → 0 < (bestF g (Q ++ (coefs f).take j)).2 := by
            intro h0
            refine best_pos (fun r hr => (hokq r hr).2.2) ?_
            intro e
            obtain ⟨e1, e2⟩ := List.append_eq_nil_iff.1 e
            by_cases hk0 : k = 0
            · have := congrArg List.length e2
              rw [List.length_take, coefs_length] at this
              simp only [List.length_nil] at this
              omega
            · exact hne hk0 e1
          have hzero : k + j = 0 → bestF g (Q ++ (coefs f).take j) = (0, 0) := by
            intro h0
            obtain ⟨rfl, rfl⟩ : k = 0 ∧ j = 0 := by omega
            rw [← hQ]; rfl
          simp only
          rw [hrat0]
          have fin : ∀ b, rats g (Q ++ (coefs f).take (j + 1)) = b → b = rats g (Q ++ (coefs f).take (j + 1)) := fun b h => h.symm
          generalize hR1 : rats g (Q ++ (coefs f).take (j + 1)) = R1 at *
          generalize bestF g (Q ++ (coefs f).take j) = b at *
          generalize lowN f[j] (bin n j : Int) = x at *
          generalize lowD f[j] (bin n j : Int) = y at *
          generalize (bin n j : Int) = c at *
          by_cases h0 : k + j = 0
          · have z0 : (((k + j : Nat) : Int) == 0) = true := by rw [h0]; rfl
            have hb0 := hzero h0
            subst hb0
            have hR : R1 = ratPV x y := by rw [hrat]; unfold bstep; rw [if_pos (.inl rfl)]
            rw [show cmpB (x, y) (0, 0) = 0 from rfl, show cmpE (0, 0) = 2 from rfl] at hcmp
            repeat (first | (simp -implicitDefEqProofs only [go_sem, Nat.reduceAdd, Nat.reduceMul, Nat.reduceEqDiff, Nat.reduceLT, Nat.reduceLeDiff, Nat.reduceSub, Nat.reduceBEq, reduceIte, reduceCtorEq, Int.reduceEq, Int.reduceNe, Nat.reduceBneDiff, Int.reduceLE, Int.reduceLT, Int.reduceToNat, Int.reduceAdd, Int.reduceSub, Int.reduceMul, Int.reduceNeg, wL, wPV, ratPV, hJ', hnj, hgx, w1, w2, hwj, z0, zm, zz, z1, List.length_map, Int.toNat_natCast]) | ((with_reducible refine gcall_eq (hwy) ?_ ?_ ?_); (with_reducible rfl); rfl) | ((with_reducible refine gcall_eq (hof) ?_ ?_ ?_); (with_reducible rfl); rfl) | ((with_reducible refine gcall_eq (hra) ?_ ?_ ?_); (with_reducible rfl); rfl) | ((with_reducible refine gcall_eq (hcmp) ?_ ?_ ?_); (with_reducible rfl); rfl) | (with_reducible exact drawQ_true _ _ (by kernel_rfl)) | (with_reducible refine And.intro (drawQ_true _ _ (by kernel_rfl)) ?_))
            refine ⟨⟨j + 1, hJ⟩, by simp only; omega, le_of (θ := [(0, 0), (100, 100)]) rfl ?_ ?_⟩
            · simp [varsLe, lkp, ren1, ren0, wL]
            · simp only [hR1, hR]
              refine ⟨⟨rfl, rfl, rfl, rfl, rfl, .inr ⟨rfl, _, _, rfl, rfl, rfl, rfl⟩⟩, ⟨rfl, rfl, rfl, rfl, rfl, .inr ⟨rfl, _, _, rfl, rfl, rfl, rfl⟩⟩, trivial⟩
          · have z0 : (((k + j : Nat) : Int) == 0) = false := by simp only [beq_eq_false_iff_ne, ne_eq]; omega
            have hbp := hpos h0
            rw [show cmpE b = 0 from if_neg (by omega), show cmpB (x, y) b = (x * b.2 - b.1 * y).sign from if_neg (by omega)] at hcmp
            have hbs : bstep g b (x, y) = if (if g = true then b.1 * y < x * b.2 else x * b.2 < b.1 * y) then (x, y) else b := by
              unfold bstep
              simp only [show ¬ b.2 = 0 by omega, false_or]
            rw [hbs] at hrat
            rcases Int.lt_trichotomy (x * b.2) (b.1 * y) with hs | hs | hs
            · rw [show (x * b.2 - b.1 * y).sign = -1 from Int.sign_eq_neg_one_of_neg (by omega)] at hcmp
              cases g with
              | false =>
                have hR : R1 = ratPV x y := by rw [hrat]; simp [hs]
                repeat (first | (simp -implicitDefEqProofs only [go_sem, Nat.reduceAdd, Nat.reduceMul, Nat.reduceEqDiff, Nat.reduceLT, Nat.reduceLeDiff, Nat.reduceSub, Nat.reduceBEq, reduceIte, reduceCtorEq, Int.reduceEq, Int.reduceNe, Nat.reduceBneDiff, Int.reduceLE, Int.reduceLT, Int.reduceToNat, Int.reduceAdd, Int.reduceSub, Int.reduceMul, Int.reduceNeg, wL, wPV, ratPV, hJ', hnj, hgx, w1, w2, hwj, z0, zm, zz, z1, List.length_map, Int.toNat_natCast]) | ((with_reducible refine gcall_eq (hwy) ?_ ?_ ?_); (with_reducible rfl); rfl) | ((with_reducible refine gcall_eq (hof) ?_ ?_ ?_); (with_reducible rfl); rfl) | ((with_reducible refine gcall_eq (hra) ?_ ?_ ?_); (with_reducible rfl); rfl) | ((with_reducible refine gcall_eq (hcmp) ?_ ?_ ?_); (with_reducible rfl); rfl) | (with_reducible exact drawQ_true _ _ (by kernel_rfl)) | (with_reducible refine And.intro (drawQ_true _ _ (by kernel_rfl)) ?_))
                refine ⟨⟨j + 1, hJ⟩, by simp only; omega, le_of (θ := [(0, 0), (100, 100)]) rfl ?_ ?_⟩
                · simp [varsLe, lkp, ren1, ren0, wL]
                · simp only [hR1, hR]
                  refine ⟨⟨rfl, rfl, rfl, rfl, rfl, .inr ⟨rfl, _, _, rfl, rfl, rfl, rfl⟩⟩, ⟨rfl, rfl, rfl, rfl, rfl, .inr ⟨rfl, _, _, rfl, rfl, rfl, rfl⟩⟩, trivial⟩
              | true =>
                have hR : R1 = ratPV b.1 b.2 := by rw [hrat]; simp [show ¬ b.1 * y < x * b.2 by omega]
                repeat (first | (simp -implicitDefEqProofs only [go_sem, Nat.reduceAdd, Nat.reduceMul, Nat.reduceEqDiff, Nat.reduceLT, Nat.reduceLeDiff, Nat.reduceSub, Nat.reduceBEq, reduceIte, reduceCtorEq, Int.reduceEq, Int.reduceNe, Nat.reduceBneDiff, Int.reduceLE, Int.reduceLT, Int.reduceToNat, Int.reduceAdd, Int.reduceSub, Int.reduceMul, Int.reduceNeg, wL, wPV, ratPV, hJ', hnj, hgx, w1, w2, hwj, z0, zm, zz, z1, List.length_map, Int.toNat_natCast]) | ((with_reducible refine gcall_eq (hwy) ?_ ?_ ?_); (with_reducible rfl); rfl) | ((with_reducible refine gcall_eq (hof) ?_ ?_ ?_); (with_reducible rfl); rfl) | ((with_reducible refine gcall_eq (hra) ?_ ?_ ?_); (with_reducible rfl); rfl) | ((with_reducible refine gcall_eq (hcmp) ?_ ?_ ?_); (with_reducible rfl); rfl) | (with_reducible exact drawQ_true _ _ (by kernel_rfl)) | (with_reducible refine And.intro (drawQ_true _ _ (by kernel_rfl)) ?_))
                refine ⟨⟨j + 1, hJ⟩, by simp only; omega, le_of (θ := [(0, 0), (100, 100)]) rfl ?_ ?_⟩
                · simp [varsLe, lkp, ren1, ren0, wL]
                · simp only [hR1, hR]
                  refine ⟨⟨rfl, rfl, rfl, rfl, rfl, .inr ⟨rfl, _, _, rfl, rfl, rfl, rfl⟩⟩, ⟨rfl, rfl, rfl, rfl, rfl, .inr ⟨rfl, _, _, rfl, rfl, rfl, rfl⟩⟩, trivial⟩
            · rw [show (x * b.2 - b.1 * y).sign = 0 from by rw [hs, Int.sub_self]; rfl] at hcmp
              cases g with
              | false =>
                have hR : R1 = ratPV b.1 b.2 := by rw [hrat]; simp [show ¬ x * b.2 < b.1 * y by omega]
                repeat (first | (simp -implicitDefEqProofs only [go_sem, Nat.reduceAdd, Nat.reduceMul, Nat.reduceEqDiff, Nat.reduceLT, Nat.reduceLeDiff, Nat.reduceSub, Nat.reduceBEq, reduceIte, reduceCtorEq, Int.reduceEq, Int.reduceNe, Nat.reduceBneDiff, Int.reduceLE, Int.reduceLT, Int.reduceToNat, Int.reduceAdd, Int.reduceSub, Int.reduceMul, Int.reduceNeg, wL, wPV, ratPV, hJ', hnj, hgx, w1, w2, hwj, z0, zm, zz, z1, List.length_map, Int.toNat_natCast]) | ((with_reducible refine gcall_eq (hwy) ?_ ?_ ?_); (with_reducible rfl); rfl) | ((with_reducible refine gcall_eq (hof) ?_ ?_ ?_); (with_reducible rfl); rfl) | ((with_reducible refine gcall_eq (hra) ?_ ?_ ?_); (with_reducible rfl); rfl) | ((with_reducible refine gcall_eq (hcmp) ?_ ?_ ?_); (with_reducible rfl); rfl) | (with_reducible exact drawQ_true _ _ (by kernel_rfl)) | (with_reducible refine And.intro (drawQ_true _ _ (by kernel_rfl)) ?_))
                refine ⟨⟨j + 1, hJ⟩, by simp only; omega, le_of (θ := [(0, 0), (100, 100)]) rfl ?_ ?_⟩
                · simp [varsLe, lkp, ren1, ren0, wL]
                · simp only [hR1, hR]
                  refine ⟨⟨rfl, rfl, rfl, rfl, rfl, .inr ⟨rfl, _, _, rfl, rfl, rfl, rfl⟩⟩, ⟨rfl, rfl, rfl, rfl, rfl, .inr ⟨rfl, _, _, rfl, rfl, rfl, rfl⟩⟩, trivial⟩
              | true =>
                have hR : R1 = ratPV b.1 b.2 := by rw [hrat]; simp [show ¬ b.1 * y < x * b.2 by omega]
                repeat (first | (simp -implicitDefEqProofs only [go_sem, Nat.reduceAdd, Nat.reduceMul, Nat.reduceEqDiff, Nat.reduceLT, Nat.reduceLeDiff, Nat.reduceSub, Nat.reduceBEq, reduceIte, reduceCtorEq, Int.reduceEq, Int.reduceNe, Nat.reduceBneDiff, Int.reduceLE, Int.reduceLT, Int.reduceToNat, Int.reduceAdd, Int.reduceSub, Int.reduceMul, Int.reduceNeg, wL, wPV, ratPV, hJ', hnj, hgx, w1, w2, hwj, z0, zm, zz, z1, List.length_map, Int.toNat_natCast]) | ((with_reducible refine gcall_eq (hwy) ?_ ?_ ?_); (with_reducible rfl); rfl) | ((with_reducible refine gcall_eq (hof) ?_ ?_ ?_); (with_reducible rfl); rfl) | ((with_reducible refine gcall_eq (hra) ?_ ?_ ?_); (with_reducible rfl); rfl) | ((with_reducible refine gcall_eq (hcmp) ?_ ?_ ?_); (with_reducible rfl); rfl) | (with_reducible exact drawQ_true _ _ (by kernel_rfl)) | (with_reducible refine And.intro (drawQ_true _ _ (by kernel_rfl)) ?_))
                refine ⟨⟨j + 1, hJ⟩, by simp only; omega, le_of (θ := [(0, 0), (100, 100)]) rfl ?_ ?_⟩
                · simp [varsLe, lkp, ren1, ren0, wL]
                · simp only [hR1, hR]
                  refine ⟨⟨rfl, rfl, rfl, rfl, rfl, .inr ⟨rfl, _, _, rfl, rfl, rfl, rfl⟩⟩, ⟨rfl, rfl, rfl, rfl, rfl, .inr ⟨rfl, _, _, rfl, rfl, rfl, rfl⟩⟩, trivial⟩
            · rw [show (x * b.2 - b.1 * y).sign = 1 from Int.sign_eq_one_of_pos (by omega)] at hcmp
              cases g with
              | false =>
                have hR : R1 = ratPV b.1 b.2 := by rw [hrat]; simp [show ¬ x * b.2 < b.1 * y by omega]
                repeat (first | (simp -implicitDefEqProofs only [go_sem, Nat.reduceAdd, Nat.reduceMul, Nat.reduceEqDiff, Nat.reduceLT, Nat.reduceLeDiff, Nat.reduceSub, Nat.reduceBEq, reduceIte, reduceCtorEq, Int.reduceEq, Int.reduceNe, Nat.reduceBneDiff, Int.reduceLE, Int.reduceLT, Int.reduceToNat, Int.reduceAdd, Int.reduceSub, Int.reduceMul, Int.reduceNeg, wL, wPV, ratPV, hJ', hnj, hgx, w1, w2, hwj, z0, zm, zz, z1, List.length_map, Int.toNat_natCast]) | ((with_reducible refine gcall_eq (hwy) ?_ ?_ ?_); (with_reducible rfl); rfl) | ((with_reducible refine gcall_eq (hof) ?_ ?_ ?_); (with_reducible rfl); rfl) | ((with_reducible refine gcall_eq (hra) ?_ ?_ ?_); (with_reducible rfl); rfl) | ((with_reducible refine gcall_eq (hcmp) ?_ ?_ ?_); (with_reducible rfl); rfl) | (with_reducible exact drawQ_true _ _ (by kernel_rfl)) | (with_reducible refine And.intro (drawQ_true _ _ (by kernel_rfl)) ?_))
                refine ⟨⟨j + 1, hJ⟩, by simp only; omega, le_of (θ := [(0, 0), (100, 100)]) rfl ?_ ?_⟩
                · simp [varsLe, lkp, ren1, ren0, wL]
                · simp only [hR1, hR]
                  refine ⟨⟨rfl, rfl, rfl, rfl, rfl, .inr ⟨rfl, _, _, rfl, rfl, rfl, rfl⟩⟩, ⟨rfl, rfl, rfl, rfl, rfl, .inr ⟨rfl, _, _, rfl, rfl, rfl, rfl⟩⟩, trivial⟩
              | true =>
                have hR : R1 = ratPV x y := by rw [hrat]; simp [hs]
                repeat (first | (simp -implicitDefEqProofs only [go_sem, Nat.reduceAdd, Nat.reduceMul, Nat.reduceEqDiff, Nat.reduceLT, Nat.reduceLeDiff, Nat.reduceSub, Nat.reduceBEq, reduceIte, reduceCtorEq, Int.reduceEq, Int.reduceNe, Nat.reduceBneDiff, Int.reduceLE, Int.reduceLT, Int.reduceToNat, Int.reduceAdd, Int.reduceSub, Int.reduceMul, Int.reduceNeg, wL, wPV, ratPV, hJ', hnj, hgx, w1, w2, hwj, z0, zm, zz, z1, List.length_map, Int.toNat_natCast]) | ((with_reducible refine gcall_eq (hwy) ?_ ?_ ?_); (with_reducible rfl); rfl) | ((with_reducible refine gcall_eq (hof) ?_ ?_ ?_); (with_reducible rfl); rfl) | ((with_reducible refine gcall_eq (hra) ?_ ?_ ?_); (with_reducible rfl); rfl) | ((with_reducible refine gcall_eq (hcmp) ?_ ?_ ?_); (with_reducible rfl); rfl) | (with_reducible exact drawQ_true _ _ (by kernel_rfl)) | (with_reducible refine And.intro (drawQ_true _ _ (by kernel_rfl)) ?_))
                refine ⟨⟨j + 1, hJ⟩, by simp only; omega, le_of (θ := [(0, 0), (100, 100)]) rfl ?_ ?_⟩
                · simp [varsLe, lkp, ren1, ren0, wL]
                · simp only [hR1, hR]
                  refine ⟨⟨rfl, rfl, rfl, rfl, rfl, .inr ⟨rfl, _, _, rfl, rfl, rfl, rfl⟩⟩, ⟨rfl, rfl, rfl, rfl, rfl, .inr ⟨rfl, _, _, rfl, rfl, rfl, rfl⟩⟩, trivial⟩
        · have hJ' := ltF hJ
          have e : (coefs f).take j = coefs f := List.take_of_length_le (by rw [coefs_length]; omega)
          simp only [e, ← hfs]
          repeat (first | (simp -implicitDefEqProofs only [go_sem, Nat.reduceAdd, Nat.reduceMul, Nat.reduceEqDiff, Nat.reduceLT, Nat.reduceLeDiff, Nat.reduceSub, Nat.reduceBEq, reduceIte, reduceCtorEq, Int.reduceEq, Int.reduceNe, Nat.reduceBneDiff, Int.reduceLE, Int.reduceLT, Int.reduceToNat, Int.reduceAdd, Int.reduceSub, Int.reduceMul, Int.reduceNeg, wL, hJ', hwk]) | (with_reducible exact drawQ_true _ _ (by kernel_rfl)) | (with_reducible refine And.intro (drawQ_true _ _ (by kernel_rfl)) ?_))
          refine ⟨⟨k + 1, hA⟩, by simp only; omega, le_of (θ := [(0, 0), (100, 100)]) rfl ?_ ?_⟩
          · simp [varsLe, lkp, ren1, ren0]
          · refine ⟨⟨rfl, rfl, rfl, rfl, rfl, .inr ⟨rfl, _, _, rfl, rfl, rfl, rfl⟩⟩, ⟨rfl, rfl, rfl, rfl, rfl, .inr ⟨rfl, _, _, rfl, rfl, rfl, rfl⟩⟩, trivial⟩
    · have hA' := ltF hA
      have e : fs.take k = fs := List.take_of_length_le (by omega)
      simp only [e]
      repeat (first | (simp -implicitDefEqProofs only [go_sem, Nat.reduceAdd, Nat.reduceMul, Nat.reduceEqDiff, Nat.reduceLT, Nat.reduceLeDiff, Nat.reduceSub, Nat.reduceBEq, reduceIte, reduceCtorEq, Int.reduceEq, Int.reduceNe, Nat.reduceBneDiff, Int.reduceLE, Int.reduceLT, Int.reduceToNat, Int.reduceAdd, Int.reduceSub, Int.reduceMul, Int.reduceNeg, hA', rats, ratPV]) | (with_reducible exact drawQ_true _ _ (by kernel_rfl)) | (with_reducible refine And.intro (drawQ_true _ _ (by kernel_rfl)) ?_))
end Go.Proofs.YtnpclmmmngmdkaaGreat

namespace Go.Proofs.YtnpclmmmngmdkaaGreat
open Go.Vl Go.RowKit Go.Dg

theorem noR_l (g : Bool) : rats g [] = .agg [.bool false, .str ⟨#[]⟩, .bool false, .str ⟨#[]⟩] := rats_nil g
theorem Bounds_no (l : List (Bool × ByteArray)) (hl : l.length ≤ maxLen) (h : formB l = false) :
    SoundAt Tryz.prog 11 [.slc (l.map wA)] (.tup [.agg [.bool false, .str ⟨#[]⟩, .bool false, .str ⟨#[]⟩], .agg [.bool false, .str ⟨#[]⟩, .bool false, .str ⟨#[]⟩], .int .i64 2]) := by
  have hv := valid_v l hl
  rw [h] at hv
  refine sound_go (tb := []) 26 [.cell 2 32, .cell 3 32, .tmp 4] [0, 2, 3, 4, 5, 7, 13] mixed Tryz.func11 rfl (by kernel_rfl) (by kernel_rfl) (by kernel_rfl) (by kernel_rfl) ?_
  repeat (first | (simp -implicitDefEqProofs only [go_sem, Nat.reduceAdd, Nat.reduceMul, Nat.reduceEqDiff, Nat.reduceLT, Nat.reduceLeDiff, Nat.reduceSub, Nat.reduceBEq, reduceIte, reduceCtorEq, Int.reduceEq, Int.reduceNe, Nat.reduceBneDiff, Int.reduceLE, Int.reduceLT, Int.reduceToNat, Int.reduceAdd, Int.reduceSub, Int.reduceMul, Int.reduceNeg]) | ((with_reducible refine gcall_eq (hv) ?_ ?_ ?_); (with_reducible rfl); rfl) | (with_reducible exact drawQ_true _ _ (by kernel_rfl)) | (with_reducible refine And.intro (drawQ_true _ _ (by kernel_rfl)) ?_))
theorem Bounds_full (l : List (Bool × ByteArray)) (h : formB l = true) (hs : ∀ x ∈ l.map wnP, x.natAbs < 2 ^ 65536) (hb : 65536 < bitsF blen (l.map wnP) + 30) :
    SoundAt Tryz.prog 11 [.slc (l.map wA)] (.tup [.agg [.bool false, .str ⟨#[]⟩, .bool false, .str ⟨#[]⟩], .agg [.bool false, .str ⟨#[]⟩, .bool false, .str ⟨#[]⟩], .int .i64 7]) := by
  obtain ⟨hval, h1, h25⟩ := formB_of h
  have hv := valid_v l (Nat.le_trans h25 (by decide))
  rw [h] at hv
  rw [wA_wPV hval] at hv ⊢
  have hxl : (l.map wnP).length = l.length := List.length_map _
  rw [← hxl] at h1 h25
  generalize l.map wnP = xs at *
  have hsz := size_v xs (by omega) hs
  have hle : bitsF blen xs ≤ 65536 := bitsF_le fun x hx' => p2_blen (hs x hx')
  have w3 : IntKind.i64.wrap ((bitsF blen xs : Int) + 30) = ((bitsF blen xs + 30 : Nat) : Int) := by rw [wrap_i64 (by omega) (by omega)]; omega
  have g4 : ((65536 : Int) < ((bitsF blen xs + 30 : Nat) : Int)) = True := by simp only [eq_iff_iff, iff_true]; omega
  generalize bitsF blen xs = bb at *
  unfold wL at *
  refine sound_go (tb := []) 26 [.cell 2 32, .cell 3 32, .tmp 4] [0, 2, 3, 4, 5, 7, 13] mixed Tryz.func11 rfl (by kernel_rfl) (by kernel_rfl) (by kernel_rfl) (by kernel_rfl) ?_
  repeat (first | (simp -implicitDefEqProofs only [go_sem, Nat.reduceAdd, Nat.reduceMul, Nat.reduceEqDiff, Nat.reduceLT, Nat.reduceLeDiff, Nat.reduceSub, Nat.reduceBEq, reduceIte, reduceCtorEq, Int.reduceEq, Int.reduceNe, Nat.reduceBneDiff, Int.reduceLE, Int.reduceLT, Int.reduceToNat, Int.reduceAdd, Int.reduceSub, Int.reduceMul, Int.reduceNeg, w3, g4, List.length_map]) | ((with_reducible refine gcall_eq (hv) ?_ ?_ ?_); (with_reducible rfl); rfl) | ((with_reducible refine gcall_eq (hsz) ?_ ?_ ?_); (with_reducible rfl); rfl) | (with_reducible exact drawQ_true _ _ (by kernel_rfl)) | (with_reducible refine And.intro (drawQ_true _ _ (by kernel_rfl)) ?_))
theorem Bounds_v (l : List (Bool × ByteArray)) (n B : Nat) (hn : l.length = n + 1) (h : formB l = true) (hx : ∀ x ∈ l.map wnP, x.natAbs < 2 ^ B) (hB : B + 30 ≤ 65536) :
    SoundAt Tryz.prog 11 [.slc (l.map wA)] (.tup [rats false (coefs (l.map wnP)), rats true (coefs (l.map wnP)), .int .i64 0]) := by
  obtain ⟨hval, h1, h25⟩ := formB_of h
  have hv := valid_v l (Nat.le_trans h25 (by decide))
  rw [h] at hv
  rw [wA_wPV hval] at hv ⊢
  have hxl : (l.map wnP).length = n + 1 := by rw [List.length_map]; exact hn
  have hn24 : n ≤ 24 := by omega
  generalize l.map wnP = xs at *
  have hsz := size_v xs (by omega) fun x hx' => p2_16 (hx x hx') (by omega)
  have hle : bitsF blen xs ≤ B := bitsF_le fun x hx' => p2_blen (hx x hx')
  have w3 : IntKind.i64.wrap ((bitsF blen xs : Int) + 30) = ((bitsF blen xs + 30 : Nat) : Int) := by rw [wrap_i64 (by omega) (by omega)]; omega
  have g4 : ((65536 : Int) < ((bitsF blen xs + 30 : Nat) : Int)) = False := by simp only [eq_iff_iff, iff_false]; omega
  have l1 := least_v [xs] false n B hn24 (by simp) (fun f hf => by rw [List.mem_singleton] at hf; subst hf; exact ⟨hxl, hx⟩) (by omega)
  have l2 := least_v [xs] true n B hn24 (by simp) (fun f hf => by rw [List.mem_singleton] at hf; subst hf; exact ⟨hxl, hx⟩) (by omega)
  rw [List.flatMap_singleton] at l1 l2
  unfold rats ratPV at l1 l2 ⊢
  simp only [List.map_cons, List.map_nil] at l1 l2
  generalize bestF false (coefs xs) = b1 at *
  generalize bestF true (coefs xs) = b2 at *
  generalize bitsF blen xs = bb at *
  unfold wL at *
  refine sound_go (tb := []) 26 [.cell 2 32, .cell 3 32, .tmp 4] [0, 2, 3, 4, 5, 7, 13] mixed Tryz.func11 rfl (by kernel_rfl) (by kernel_rfl) (by kernel_rfl) (by kernel_rfl) ?_
  repeat (first | (simp -implicitDefEqProofs only [go_sem, Nat.reduceAdd, Nat.reduceMul, Nat.reduceEqDiff, Nat.reduceLT, Nat.reduceLeDiff, Nat.reduceSub, Nat.reduceBEq, reduceIte, reduceCtorEq, Int.reduceEq, Int.reduceNe, Nat.reduceBneDiff, Int.reduceLE, Int.reduceLT, Int.reduceToNat, Int.reduceAdd, Int.reduceSub, Int.reduceMul, Int.reduceNeg, w3, g4, List.length_map]) | ((with_reducible refine gcall_eq (hv) ?_ ?_ ?_); (with_reducible rfl); rfl) | ((with_reducible refine gcall_eq (hsz) ?_ ?_ ?_); (with_reducible rfl); rfl) | ((with_reducible refine gcall_eq (l1) ?_ ?_ ?_); (with_reducible rfl); rfl) | ((with_reducible refine gcall_eq (l2) ?_ ?_ ?_); (with_reducible rfl); rfl) | (with_reducible exact drawQ_true _ _ (by kernel_rfl)) | (with_reducible refine And.intro (drawQ_true _ _ (by kernel_rfl)) ?_))
def rrats (g : Bool) (l : List (Int × Int)) : PV := rQ (bestF g l).1 (bestF g l).2
theorem rQ_00 : rQ 0 0 = .agg [.bool false, .slc [], .bool false, .slc []] := by unfold rQ di; rw [show (0 : Int).natAbs = 0 from rfl, digs_zero]; rfl
set_option maxHeartbeats 4000000 in
theorem rLeast_v (f : List Int) (n B : Nat) (hn : n ≤ 24) (hfl : f.length = n + 1) (hfb : bd B f) (k : Nat) (hk : k ≤ 10000) (hB : B ≤ 8 * k) (hB2 : 25 ≤ 8 * k) :
    SoundAt Tryz.prog 13 [rL f] (.tup [rrats false (coefs f), rrats true (coefs f)]) := by
  have hok := coefs_ok (f := f) (by omega) hfb
  refine sound_go (tb := []) 45 [.cell 2 39, .cell 3 39] [0, 2, 3, 4, 5, 6, 7, 11, 32, 41] mixed Tryz.func13 rfl (by kernel_rfl) (by kernel_rfl) (by kernel_rfl) (by kernel_rfl) ?_
  simp -implicitDefEqProofs only [go_sem, Nat.reduceAdd, Nat.reduceMul, Nat.reduceEqDiff, Nat.reduceLT, Nat.reduceLeDiff, Nat.reduceSub, Nat.reduceBEq, reduceIte, reduceCtorEq, Int.reduceEq, Int.reduceNe, Nat.reduceBneDiff, Int.reduceLE, Int.reduceLT, Int.reduceToNat, Int.reduceAdd, Int.reduceSub, Int.reduceMul, Int.reduceNeg]
  refine g_loop mixed (fun j : { j : Nat // j ≤ f.length } => St.of [(0, rL f), (2, .bp 0 4 0 0), (3, .bp 1 4 0 0), (4, .bp 100 4 0 0), (5, .bp 101 4 0 0), (6, .int .i64 (j.1 : Int))]
    [(0, { els := [rrats false []], esz := 4, ety := 39, fro := 0, live := true, arr := false }), (1, { els := [rrats false []], esz := 4, ety := 39, fro := 0, live := true, arr := false }),
     (100, { els := [rrats false ((coefs f).take j.1)], esz := 4, ety := 39, fro := 0, live := true, arr := false }), (101, { els := [rrats true ((coefs f).take j.1)], esz := 4, ety := 39, fro := 0, live := true, arr := false })]) (fun j => f.length - j.1) ⟨0, Nat.zero_le _⟩ ?_ ?_
  · refine Le.trans (le_upG 0 rfl) (Le.trans (le_upG 1 rfl) (Le.trans (le_upG 100 rfl) (Le.trans (le_upG 101 rfl) (le_of (θ := [(0, 0), (1, 1), (100, 100), (101, 101)]) rfl ?_ ?_))))
    · simp [varsLe, lkp, ren1, ren0, rL]
    · simp only [rrats, bestF, List.take_zero, List.foldl_nil, rQ_00]
      refine ⟨⟨rfl, rfl, rfl, rfl, rfl, .inr ⟨rfl, _, _, rfl, rfl, rfl, rfl⟩⟩, ⟨rfl, rfl, rfl, rfl, rfl, .inr ⟨rfl, _, _, rfl, rfl, rfl, rfl⟩⟩, ⟨rfl, rfl, rfl, rfl, rfl, .inr ⟨rfl, _, _, rfl, rfl, rfl, rfl⟩⟩, ⟨rfl, rfl, rfl, rfl, rfl, .inr ⟨rfl, _, _, rfl, rfl, rfl, rfl⟩⟩, trivial⟩
  · rintro ⟨j, hj⟩
    by_cases hJ : j < f.length
    · have hJ' := ltT hJ
      have hnj := nnT j
      have hgx := rI_get f j hJ
      have hwj := wrap_add1 (a := j) (by omega)
      have w1 : IntKind.i64.wrap ((f.length : Int) - 1) = (n : Int) := by rw [wrap_i64 (by omega) (by omega)]; omega
      have hwy := rways_v n j (by omega) (by omega)
      have hb := bin_i64 (n := n) (k := j) hn
      have hp := bin_posI (n := n) (j := j) (by omega)
      have hnu := rnum_v (bin n j : Int) (by omega) (by omega)
      have hx2 : f[j].natAbs < 256 ^ k := p2_256 (hfb _ (List.getElem_mem hJ)) (by omega)
      have hc2 : (bin n j : Int).natAbs < 256 ^ k := p2_256 (B := 25) (by rw [Int.natAbs_natCast]; have : (2 : Nat) ^ 25 = 33554432 := rfl; omega) hB2
      have hlo := rlowest_v f[j] (bin n j : Int) (by omega) k (by omega) hx2 hc2
      have hsn := coefs_snoc (f := f) hJ
      have hr : lowN f[j] (bin (f.length - 1) j : Int) = lowN f[j] (bin n j : Int) ∧ lowD f[j] (bin (f.length - 1) j : Int) = lowD f[j] (bin n j : Int) := by rw [show f.length - 1 = n by omega]; exact ⟨rfl, rfl⟩
      rw [hr.1, hr.2] at hsn
      have hmem : (lowN f[j] (bin n j : Int), lowD f[j] (bin n j : Int)) ∈ coefs f := List.mem_of_mem_take (by rw [hsn]; exact List.mem_append_right _ (List.mem_singleton.2 rfl))
      have hrk := hok _ hmem
      have hokq : ∀ r ∈ (coefs f).take j, r.1.natAbs < 2 ^ B ∧ r.2.natAbs < 2 ^ 25 ∧ 0 < r.2 := fun r hr => hok r (List.mem_of_mem_take hr)
      have hpos : ∀ g, j ≠ 0 → 0 < (bestF g ((coefs f).take j)).2 := by
        intro g h0
        refine best_pos (fun r hr => (hokq r hr).2.2) ?_
        intro e
        have := congrArg List.length e
        rw [List.length_take, coefs_length] at this
        simp only [List.length_nil] at this
        omega
      have hst : ∀ g, rrats g ((coefs f).take (j + 1)) = rQ (bstep g (bestF g ((coefs f).take j)) (lowN f[j] (bin n j : Int), lowD f[j] (bin n j : Int))).1 (bstep g (bestF g ((coefs f).take j)) (lowN f[j] (bin n j : Int), lowD f[j] (bin n j : Int))).2 := fun g => by
        rw [rrats, hsn, bestF_snoc]
      have k1 : ∀ g, okR B (bestF g ((coefs f).take j)) := fun g => okR_best hokq
      have hcq : ∀ g, SoundAt Tryz.prog 33 [rQ (lowN f[j] (bin n j : Int)) (lowD f[j] (bin n j : Int)), rQ (bestF g ((coefs f).take j)).1 (bestF g ((coefs f).take j)).2] (.int .i64 (lowN f[j] (bin n j : Int) * (bestF g ((coefs f).take j)).2 - (bestF g ((coefs f).take j)).1 * lowD f[j] (bin n j : Int)).sign) :=
        fun g => rcompareQ_v _ _ _ _ k hk (p2_256 hrk.1 (by omega)) (p2_256 hrk.2.1 hB2) (p2_256 (k1 g).1 (by omega)) (p2_256 (k1 g).2.1 hB2)
      have c0 := hcq false
      have c1 := hcq true
      have s0 := hst false
      have s1 := hst true
      have p0 := hpos false
      have p1 := hpos true
      clear hst k1 hcq hpos
      simp only
      rw [show rrats false ((coefs f).take j) = rQ (bestF false ((coefs f).take j)).1 (bestF false ((coefs f).take j)).2 from rfl, show rrats true ((coefs f).take j) = rQ (bestF true ((coefs f).take j)).1 (bestF true ((coefs f).take j)).2 from rfl]
      by_cases h0 : j = 0
      · subst h0
        have z0 : (((0 : Nat) : Int) == 0) = true := rfl
        have r0 : rrats false ((coefs f).take (0 + 1)) = rQ (lowN f[0] (bin n 0 : Int)) (lowD f[0] (bin n 0 : Int)) := by rw [s0]; unfold bstep; rw [if_pos (.inl rfl)]
        have r1 : rrats true ((coefs f).take (0 + 1)) = rQ (lowN f[0] (bin n 0 : Int)) (lowD f[0] (bin n 0 : Int)) := by rw [s1]; unfold bstep; rw [if_pos (.inl rfl)]
        generalize bestF false ((coefs f).take 0) = b at *
        generalize bestF true ((coefs f).take 0) = d at *
        generalize lowN f[0] (bin n 0 : Int) = x at *
        generalize lowD f[0] (bin n 0 : Int) = y at *
        generalize (bin n 0 : Int) = c at *
        repeat (first | (simp -implicitDefEqProofs only [go_sem, Nat.reduceAdd, Nat.reduceMul, Nat.reduceEqDiff, Nat.reduceLT, Nat.reduceLeDiff, Nat.reduceSub, Nat.reduceBEq, reduceIte, reduceCtorEq, Int.reduceEq, Int.reduceNe, Nat.reduceBneDiff, Int.reduceLE, Int.reduceLT, Int.reduceToNat, Int.reduceAdd, Int.reduceSub, Int.reduceMul, Int.reduceNeg, rL, rI, rQ, di, hJ', hnj, hgx, w1, hwj, z0, List.length_map, Int.toNat_natCast]) | ((with_reducible refine gcall_eq (hwy) ?_ ?_ ?_); (with_reducible rfl); rfl) | ((with_reducible refine gcall_eq (hnu) ?_ ?_ ?_); (with_reducible rfl); rfl) | ((with_reducible refine gcall_eq (hlo) ?_ ?_ ?_); (with_reducible rfl); rfl) | ((with_reducible refine gcall_eq (c0) ?_ ?_ ?_); (with_reducible rfl); rfl) | ((with_reducible refine gcall_eq (c1) ?_ ?_ ?_); (with_reducible rfl); rfl) | (with_reducible exact drawQ_true _ _ (by kernel_rfl)) | (with_reducible refine And.intro (drawQ_true _ _ (by kernel_rfl)) ?_))
        refine ⟨⟨0 + 1, hJ⟩, by simp only; omega, le_of (θ := [(0, 0), (1, 1), (100, 100), (101, 101)]) rfl ?_ ?_⟩
        · simp [varsLe, lkp, ren1, ren0, rL]
        · simp only [r0, r1]
          refine ⟨⟨rfl, rfl, rfl, rfl, rfl, .inr ⟨rfl, _, _, rfl, rfl, rfl, rfl⟩⟩, ⟨rfl, rfl, rfl, rfl, rfl, .inr ⟨rfl, _, _, rfl, rfl, rfl, rfl⟩⟩, ⟨rfl, rfl, rfl, rfl, rfl, .inr ⟨rfl, _, _, rfl, rfl, rfl, rfl⟩⟩, ⟨rfl, rfl, rfl, rfl, rfl, .inr ⟨rfl, _, _, rfl, rfl, rfl, rfl⟩⟩, trivial⟩
      · have z0 : ((j : Int) == 0) = false := by simp only [beq_eq_false_iff_ne, ne_eq]; omega
        have q0 := p0 h0
        have q1 := p1 h0
        generalize bestF false ((coefs f).take j) = b at *
        generalize bestF true ((coefs f).take j) = d at *
        generalize hX : lowN f[j] (bin n j : Int) = x at *
        generalize hY : lowD f[j] (bin n j : Int) = y at *
        have u0 : bstep false b (x, y) = if x * b.2 < b.1 * y then (x, y) else b := by unfold bstep; simp only [show ¬ b.2 = 0 by omega, false_or, Bool.false_eq_true, if_false]
        have u1 : bstep true d (x, y) = if d.1 * y < x * d.2 then (x, y) else d := by unfold bstep; simp only [show ¬ d.2 = 0 by omega, false_or, if_true]
        rw [u0] at s0
        rw [u1] at s1
        by_cases g1 : x * b.2 < b.1 * y
        · rw [if_pos g1] at s0
          have r0 := s0
          have f1 : ((x * b.2 - b.1 * y).sign < 0) = True := by simp only [eq_iff_iff, iff_true]; rw [Int.sign_eq_neg_one_of_neg (by omega)]; decide
          by_cases g2 : d.1 * y < x * d.2
          · rw [if_pos g2] at s1
            have r1 := s1
            have f2 : (0 < (x * d.2 - d.1 * y).sign) = True := by simp only [eq_iff_iff, iff_true]; rw [Int.sign_eq_one_of_pos (by omega)]; decide
            repeat (first | (simp -implicitDefEqProofs only [go_sem, Nat.reduceAdd, Nat.reduceMul, Nat.reduceEqDiff, Nat.reduceLT, Nat.reduceLeDiff, Nat.reduceSub, Nat.reduceBEq, reduceIte, reduceCtorEq, Int.reduceEq, Int.reduceNe, Nat.reduceBneDiff, Int.reduceLE, Int.reduceLT, Int.reduceToNat, Int.reduceAdd, Int.reduceSub, Int.reduceMul, Int.reduceNeg, rL, rI, rQ, di, hJ', hnj, hgx, w1, hwj, z0, f1, f2, List.length_map, Int.toNat_natCast]) | ((with_reducible refine gcall_eq (hwy) ?_ ?_ ?_); (with_reducible rfl); rfl) | ((with_reducible refine gcall_eq (hnu) ?_ ?_ ?_); (with_reducible rfl); rfl) | ((with_reducible refine gcall_eq (hlo) ?_ ?_ ?_); (with_reducible rfl); rfl) | ((with_reducible refine gcall_eq (c0) ?_ ?_ ?_); (with_reducible rfl); rfl) | ((with_reducible refine gcall_eq (c1) ?_ ?_ ?_); (with_reducible rfl); rfl) | (with_reducible exact drawQ_true _ _ (by kernel_rfl)) | (with_reducible refine And.intro (drawQ_true _ _ (by kernel_rfl)) ?_))
            refine ⟨⟨j + 1, hJ⟩, by simp only; omega, le_of (θ := [(0, 0), (1, 1), (100, 100), (101, 101)]) rfl ?_ ?_⟩
            · simp [varsLe, lkp, ren1, ren0, rL]
            · simp only [r0, r1]
              refine ⟨⟨rfl, rfl, rfl, rfl, rfl, .inr ⟨rfl, _, _, rfl, rfl, rfl, rfl⟩⟩, ⟨rfl, rfl, rfl, rfl, rfl, .inr ⟨rfl, _, _, rfl, rfl, rfl, rfl⟩⟩, ⟨rfl, rfl, rfl, rfl, rfl, .inr ⟨rfl, _, _, rfl, rfl, rfl, rfl⟩⟩, ⟨rfl, rfl, rfl, rfl, rfl, .inr ⟨rfl, _, _, rfl, rfl, rfl, rfl⟩⟩, trivial⟩
          · rw [if_neg g2] at s1
            have r1 := s1
            have f2 : (0 < (x * d.2 - d.1 * y).sign) = False := by simp only [eq_iff_iff, iff_false]; intro h; have := Int.sign_pos_iff.1 h; omega
            repeat (first | (simp -implicitDefEqProofs only [go_sem, Nat.reduceAdd, Nat.reduceMul, Nat.reduceEqDiff, Nat.reduceLT, Nat.reduceLeDiff, Nat.reduceSub, Nat.reduceBEq, reduceIte, reduceCtorEq, Int.reduceEq, Int.reduceNe, Nat.reduceBneDiff, Int.reduceLE, Int.reduceLT, Int.reduceToNat, Int.reduceAdd, Int.reduceSub, Int.reduceMul, Int.reduceNeg, rL, rI, rQ, di, hJ', hnj, hgx, w1, hwj, z0, f1, f2, List.length_map, Int.toNat_natCast]) | ((with_reducible refine gcall_eq (hwy) ?_ ?_ ?_); (with_reducible rfl); rfl) | ((with_reducible refine gcall_eq (hnu) ?_ ?_ ?_); (with_reducible rfl); rfl) | ((with_reducible refine gcall_eq (hlo) ?_ ?_ ?_); (with_reducible rfl); rfl) | ((with_reducible refine gcall_eq (c0) ?_ ?_ ?_); (with_reducible rfl); rfl) | ((with_reducible refine gcall_eq (c1) ?_ ?_ ?_); (with_reducible rfl); rfl) | (with_reducible exact drawQ_true _ _ (by kernel_rfl)) | (with_reducible refine And.intro (drawQ_true _ _ (by kernel_rfl)) ?_))
            refine ⟨⟨j + 1, hJ⟩, by simp only; omega, le_of (θ := [(0, 0), (1, 1), (100, 100), (101, 101)]) rfl ?_ ?_⟩
            · simp [varsLe, lkp, ren1, ren0, rL]
            · simp only [r0, r1]
              refine ⟨⟨rfl, rfl, rfl, rfl, rfl, .inr ⟨rfl, _, _, rfl, rfl, rfl, rfl⟩⟩, ⟨rfl, rfl, rfl, rfl, rfl, .inr ⟨rfl, _, _, rfl, rfl, rfl, rfl⟩⟩, ⟨rfl, rfl, rfl, rfl, rfl, .inr ⟨rfl, _, _, rfl, rfl, rfl, rfl⟩⟩, ⟨rfl, rfl, rfl, rfl, rfl, .inr ⟨rfl, _, _, rfl, rfl, rfl, rfl⟩⟩, trivial⟩
        · rw [if_neg g1] at s0
          have r0 := s0
          have f1 : ((x * b.2 - b.1 * y).sign < 0) = False := by simp only [eq_iff_iff, iff_false]; intro h; have := Int.sign_neg_iff.1 h; omega
          by_cases g2 : d.1 * y < x * d.2
          · rw [if_pos g2] at s1
            have r1 := s1
            have f2 : (0 < (x * d.2 - d.1 * y).sign) = True := by simp only [eq_iff_iff, iff_true]; rw [Int.sign_eq_one_of_pos (by omega)]; decide
            repeat (first | (simp -implicitDefEqProofs only [go_sem, Nat.reduceAdd, Nat.reduceMul, Nat.reduceEqDiff, Nat.reduceLT, Nat.reduceLeDiff, Nat.reduceSub, Nat.reduceBEq, reduceIte, reduceCtorEq, Int.reduceEq, Int.reduceNe, Nat.reduceBneDiff, Int.reduceLE, Int.reduceLT, Int.reduceToNat, Int.reduceAdd, Int.reduceSub, Int.reduceMul, Int.reduceNeg, rL, rI, rQ, di, hJ', hnj, hgx, w1, hwj, z0, f1, f2, List.length_map, Int.toNat_natCast]) | ((with_reducible refine gcall_eq (hwy) ?_ ?_ ?_); (with_reducible rfl); rfl) | ((with_reducible refine gcall_eq (hnu) ?_ ?_ ?_); (with_reducible rfl); rfl) | ((with_reducible refine gcall_eq (hlo) ?_ ?_ ?_); (with_reducible rfl); rfl) | ((with_reducible refine gcall_eq (c0) ?_ ?_ ?_); (with_reducible rfl); rfl) | ((with_reducible refine gcall_eq (c1) ?_ ?_ ?_); (with_reducible rfl); rfl) | (with_reducible exact drawQ_true _ _ (by kernel_rfl)) | (with_reducible refine And.intro (drawQ_true _ _ (by kernel_rfl)) ?_))
            refine ⟨⟨j + 1, hJ⟩, by simp only; omega, le_of (θ := [(0, 0), (1, 1), (100, 100), (101, 101)]) rfl ?_ ?_⟩
            · simp [varsLe, lkp, ren1, ren0, rL]
            · simp only [r0, r1]
              refine ⟨⟨rfl, rfl, rfl, rfl, rfl, .inr ⟨rfl, _, _, rfl, rfl, rfl, rfl⟩⟩, ⟨rfl, rfl, rfl, rfl, rfl, .inr ⟨rfl, _, _, rfl, rfl, rfl, rfl⟩⟩, ⟨rfl, rfl, rfl, rfl, rfl, .inr ⟨rfl, _, _, rfl, rfl, rfl, rfl⟩⟩, ⟨rfl, rfl, rfl, rfl, rfl, .inr ⟨rfl, _, _, rfl, rfl, rfl, rfl⟩⟩, trivial⟩
          · rw [if_neg g2] at s1
            have r1 := s1
            have f2 : (0 < (x * d.2 - d.1 * y).sign) = False := by simp only [eq_iff_iff, iff_false]; intro h; have := Int.sign_pos_iff.1 h; omega
            repeat (first | (simp -implicitDefEqProofs only [go_sem, Nat.reduceAdd, Nat.reduceMul, Nat.reduceEqDiff, Nat.reduceLT, Nat.reduceLeDiff, Nat.reduceSub, Nat.reduceBEq, reduceIte, reduceCtorEq, Int.reduceEq, Int.reduceNe, Nat.reduceBneDiff, Int.reduceLE, Int.reduceLT, Int.reduceToNat, Int.reduceAdd, Int.reduceSub, Int.reduceMul, Int.reduceNeg, rL, rI, rQ, di, hJ', hnj, hgx, w1, hwj, z0, f1, f2, List.length_map, Int.toNat_natCast]) | ((with_reducible refine gcall_eq (hwy) ?_ ?_ ?_); (with_reducible rfl); rfl) | ((with_reducible refine gcall_eq (hnu) ?_ ?_ ?_); (with_reducible rfl); rfl) | ((with_reducible refine gcall_eq (hlo) ?_ ?_ ?_); (with_reducible rfl); rfl) | ((with_reducible refine gcall_eq (c0) ?_ ?_ ?_); (with_reducible rfl); rfl) | ((with_reducible refine gcall_eq (c1) ?_ ?_ ?_); (with_reducible rfl); rfl) | (with_reducible exact drawQ_true _ _ (by kernel_rfl)) | (with_reducible refine And.intro (drawQ_true _ _ (by kernel_rfl)) ?_))
            refine ⟨⟨j + 1, hJ⟩, by simp only; omega, le_of (θ := [(0, 0), (1, 1), (100, 100), (101, 101)]) rfl ?_ ?_⟩
            · simp [varsLe, lkp, ren1, ren0, rL]
            · simp only [r0, r1]
              refine ⟨⟨rfl, rfl, rfl, rfl, rfl, .inr ⟨rfl, _, _, rfl, rfl, rfl, rfl⟩⟩, ⟨rfl, rfl, rfl, rfl, rfl, .inr ⟨rfl, _, _, rfl, rfl, rfl, rfl⟩⟩, ⟨rfl, rfl, rfl, rfl, rfl, .inr ⟨rfl, _, _, rfl, rfl, rfl, rfl⟩⟩, ⟨rfl, rfl, rfl, rfl, rfl, .inr ⟨rfl, _, _, rfl, rfl, rfl, rfl⟩⟩, trivial⟩
    · have hJ' := ltF hJ
      have e : (coefs f).take j = coefs f := List.take_of_length_le (by rw [coefs_length]; omega)
      simp only [e]
      repeat (first | (simp -implicitDefEqProofs only [go_sem, Nat.reduceAdd, Nat.reduceMul, Nat.reduceEqDiff, Nat.reduceLT, Nat.reduceLeDiff, Nat.reduceSub, Nat.reduceBEq, reduceIte, reduceCtorEq, Int.reduceEq, Int.reduceNe, Nat.reduceBneDiff, Int.reduceLE, Int.reduceLT, Int.reduceToNat, Int.reduceAdd, Int.reduceSub, Int.reduceMul, Int.reduceNeg, rL, rI, di, rrats, rQ, hJ', List.length_map]) | (with_reducible exact drawQ_true _ _ (by kernel_rfl)) | (with_reducible refine And.intro (drawQ_true _ _ (by kernel_rfl)) ?_))
end Go.Proofs.YtnpclmmmngmdkaaGreat

namespace Go.Vl
open Go.RowKit

theorem le_esc {st : St} {t b esz off len : Nat} {B : Box} (ht : st.var t = some (.bs b esz off len)) (hB : st.box b = some B) (ha : B.arr = true) (he : B.esz = esz) (hn : off + len ≤ B.els.length) :
    Le st ((st.setBox b { B with fro := max B.fro (off + len), live := B.live && true }).setVar t (.slc ((B.els.drop off).take len))) := by
  rintro C a w ⟨ρ, im, h⟩
  obtain ⟨x, hx, hr⟩ := slc_of_bs h (h.var t _ ht) hB ha he hn
  have h1 := h.hold hx hB hn true (.inl rfl)
  refine ⟨ρ, _, h1.root, h1.nt, h1.dfr, h1.imc, ?_, h1.rho, h1.box, h1.inj⟩
  intro t' v' hv'
  simp only [St.setVar, upd] at hv'
  split at hv'
  · rename_i e
    cases hv'
    subst e
    exact .ext _ _ hr
  · exact h1.var t' v' hv'
theorem le_escG {vs : List (Nat × PV)} {bs : List (Nat × Box)} {o : List (List PV)} {y : Option (Nat × Nat)} (t : Nat) {b esz off len : Nat} {B : Box} (ht : lkp vs t = some (.bs b esz off len)) (hB : lkp bs b = some B)
    (ha : B.arr = true) (he : B.esz = esz) (hn : off + len ≤ B.els.length) :
    Le (St.ofG vs bs o y) (St.ofG ((t, .slc ((B.els.drop off).take len)) :: vs) ((b, { B with fro := max B.fro (off + len), live := B.live && true }) :: bs) o y) := le_esc (st := St.ofG vs bs o y) ht hB ha he hn
end Go.Vl
