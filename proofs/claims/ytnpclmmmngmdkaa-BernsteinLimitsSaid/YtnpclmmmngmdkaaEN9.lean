/-
  EP4, EN6, Dv, EN7, EN8, EN9 (merged for the claim).
-/
import Derived.Test.YtnpclmmmngmdkaaDu
import Derived.Test.YtnpclmmmngmdkaaEY1
set_option linter.unusedSimpArgs false
set_option linter.unusedVariables false
namespace Go.Proofs.Ytnpclmmmngmdkaa
open Go.Vl Go.RowKit Go.Dg

theorem one_bd : ∀ x ∈ ([1] : List Int), -9223372036854775808 ≤ x ∧ x ≤ 9223372036854775807 := by simp
end Go.Proofs.Ytnpclmmmngmdkaa

namespace Go.Proofs.Ytnpclmmmngmdkaa
open Go.Vl Go.RowKit Go.Dg

/-- A list that is a form. -/
def formB (l : List (Bool × ByteArray)) : Bool := validL l && (decide (1 ≤ l.length) && decide (l.length ≤ 25))
theorem index_v (l : List (Bool × ByteArray)) (hl : l.length ≤ 1000000) (g : FuncId) (p : Bool × ByteArray → Bool) (hp : ∀ x ∈ l, SoundAt Try.prog g [.agg [.bool x.1, .str x.2]] (.bool (p x))) :
    ∃ k : Int, SoundAt Try.prog 74 [.slc (l.map wA), .fn g [] []] (.int .i64 k) ∧ decide (0 ≤ k) = l.any p := by
  cases hf : l.findIdx? p with
  | none =>
    rw [List.findIdx?_eq_none_iff] at hf
    refine ⟨-1, ?_, ?_⟩
    · refine sound_go (tb := []) 19 [.tmp 4] [0, 1, 4, 5, 7, 8, 9, 16] mixed Try.func74 rfl (by kernel_rfl) (by kernel_rfl) (by kernel_rfl) (by kernel_rfl) ?_
      simp -implicitDefEqProofs only [go_sem, Nat.reduceAdd, Nat.reduceMul, Nat.reduceEqDiff, Nat.reduceLT, Nat.reduceLeDiff, Nat.reduceSub, Nat.reduceBEq, reduceIte, reduceCtorEq, Int.reduceEq, Int.reduceNe, Nat.reduceBneDiff, Int.reduceLE, Int.reduceLT, Int.reduceToNat, Int.reduceAdd, Int.reduceSub, Int.reduceMul, Int.reduceNeg, List.length_map]
      refine g_loop mixed (fun i : { i : Nat // i ≤ l.length } => St.of [(0, .slc (l.map wA)), (1, .fn g [] []), (7, .int .i64 (l.length : Int)), (8, .int .i64 (i.1 : Int))] []) (fun i => l.length - i.1) ⟨0, Nat.zero_le _⟩ ?_ ?_
      · exact le_vars (by simp [varsLe, lkp, ren1, ren0, ren0L])
      · rintro ⟨i, hi⟩
        by_cases hA : i < l.length
        · have hA' := ltT hA
          have h0 := nnT i
          have hg := wA_get l i hA
          have hwk := wrap_add1 (a := i) (by omega)
          have hv := hp _ (List.getElem_mem hA)
          rw [hf _ (List.getElem_mem hA)] at hv
          repeat (first | (simp -implicitDefEqProofs only [go_sem, Nat.reduceAdd, Nat.reduceMul, Nat.reduceEqDiff, Nat.reduceLT, Nat.reduceLeDiff, Nat.reduceSub, Nat.reduceBEq, reduceIte, reduceCtorEq, Int.reduceEq, Int.reduceNe, Nat.reduceBneDiff, Int.reduceLE, Int.reduceLT, Int.reduceToNat, Int.reduceAdd, Int.reduceSub, Int.reduceMul, Int.reduceNeg, hA', h0, hg, Int.toNat_natCast, hwk]) | ((with_reducible refine gcall_eq (hv) ?_ ?_ ?_); (with_reducible rfl); rfl) | (with_reducible exact drawQ_true _ _ (by kernel_rfl)) | (with_reducible refine And.intro (drawQ_true _ _ (by kernel_rfl)) ?_))
          exact ⟨⟨i + 1, hA⟩, by simp only; omega, le_vars (by simp [varsLe, lkp, ren1, ren0, ren0L])⟩
        · have hA' := ltF hA
          repeat (first | (simp -implicitDefEqProofs only [go_sem, Nat.reduceAdd, Nat.reduceMul, Nat.reduceEqDiff, Nat.reduceLT, Nat.reduceLeDiff, Nat.reduceSub, Nat.reduceBEq, reduceIte, reduceCtorEq, Int.reduceEq, Int.reduceNe, Nat.reduceBneDiff, Int.reduceLE, Int.reduceLT, Int.reduceToNat, Int.reduceAdd, Int.reduceSub, Int.reduceMul, Int.reduceNeg, hA']) | (with_reducible exact drawQ_true _ _ (by kernel_rfl)) | (with_reducible refine And.intro (drawQ_true _ _ (by kernel_rfl)) ?_))
    · have : l.any p = false := by rw [List.any_eq_false]; intro x hx; rw [hf x hx]; decide
      rw [this]; rfl
  | some k =>
    obtain ⟨hk, hpk, hbef⟩ := List.findIdx?_eq_some_iff_getElem.1 hf
    refine ⟨(k : Int), ?_, ?_⟩
    · refine sound_go (tb := []) 19 [.tmp 4] [0, 1, 4, 5, 7, 8, 9, 16] mixed Try.func74 rfl (by kernel_rfl) (by kernel_rfl) (by kernel_rfl) (by kernel_rfl) ?_
      simp -implicitDefEqProofs only [go_sem, Nat.reduceAdd, Nat.reduceMul, Nat.reduceEqDiff, Nat.reduceLT, Nat.reduceLeDiff, Nat.reduceSub, Nat.reduceBEq, reduceIte, reduceCtorEq, Int.reduceEq, Int.reduceNe, Nat.reduceBneDiff, Int.reduceLE, Int.reduceLT, Int.reduceToNat, Int.reduceAdd, Int.reduceSub, Int.reduceMul, Int.reduceNeg, List.length_map]
      refine g_loop mixed (fun i : { i : Nat // i ≤ k } => St.of [(0, .slc (l.map wA)), (1, .fn g [] []), (7, .int .i64 (l.length : Int)), (8, .int .i64 (i.1 : Int))] []) (fun i => l.length - i.1) ⟨0, Nat.zero_le _⟩ ?_ ?_
      · exact le_vars (by simp [varsLe, lkp, ren1, ren0, ren0L])
      · rintro ⟨i, hi⟩
        have hA : i < l.length := by omega
        have hA' := ltT hA
        have h0 := nnT i
        have hg := wA_get l i hA
        have hwk := wrap_add1 (a := i) (by omega)
        have hv := hp _ (List.getElem_mem hA)
        by_cases hik : i < k
        · have hn := hbef i hik
          rw [show p l[i] = false from by simpa using hn] at hv
          repeat (first | (simp -implicitDefEqProofs only [go_sem, Nat.reduceAdd, Nat.reduceMul, Nat.reduceEqDiff, Nat.reduceLT, Nat.reduceLeDiff, Nat.reduceSub, Nat.reduceBEq, reduceIte, reduceCtorEq, Int.reduceEq, Int.reduceNe, Nat.reduceBneDiff, Int.reduceLE, Int.reduceLT, Int.reduceToNat, Int.reduceAdd, Int.reduceSub, Int.reduceMul, Int.reduceNeg, hA', h0, hg, Int.toNat_natCast, hwk]) | ((with_reducible refine gcall_eq (hv) ?_ ?_ ?_); (with_reducible rfl); rfl) | (with_reducible exact drawQ_true _ _ (by kernel_rfl)) | (with_reducible refine And.intro (drawQ_true _ _ (by kernel_rfl)) ?_))
          exact ⟨⟨i + 1, hik⟩, by simp only; omega, le_vars (by simp [varsLe, lkp, ren1, ren0, ren0L])⟩
        · obtain rfl : i = k := by omega
          rw [hpk] at hv
          repeat (first | (simp -implicitDefEqProofs only [go_sem, Nat.reduceAdd, Nat.reduceMul, Nat.reduceEqDiff, Nat.reduceLT, Nat.reduceLeDiff, Nat.reduceSub, Nat.reduceBEq, reduceIte, reduceCtorEq, Int.reduceEq, Int.reduceNe, Nat.reduceBneDiff, Int.reduceLE, Int.reduceLT, Int.reduceToNat, Int.reduceAdd, Int.reduceSub, Int.reduceMul, Int.reduceNeg, hA', h0, hg, Int.toNat_natCast]) | ((with_reducible refine gcall_eq (hv) ?_ ?_ ?_); (with_reducible rfl); rfl) | (with_reducible exact drawQ_true _ _ (by kernel_rfl)) | (with_reducible refine And.intro (drawQ_true _ _ (by kernel_rfl)) ?_))
    · have : l.any p = true := by rw [List.any_eq_true]; exact ⟨l[k], List.getElem_mem hk, hpk⟩
      rw [this]; simp
theorem contains_v (l : List (Bool × ByteArray)) (hl : l.length ≤ 1000000) (g : FuncId) (p : Bool × ByteArray → Bool) (hp : ∀ x ∈ l, SoundAt Try.prog g [.agg [.bool x.1, .str x.2]] (.bool (p x))) :
    SoundAt Try.prog 54 [.slc (l.map wA), .fn g [] []] (.bool (l.any p)) := by
  obtain ⟨k, hs, hk⟩ := index_v l hl g p hp
  rw [← hk]
  refine sound_go (tb := []) 9 [.tmp 4] [0, 1, 4] mixed Try.func54 rfl (by kernel_rfl) (by kernel_rfl) (by kernel_rfl) (by kernel_rfl) ?_
  repeat (first | (simp -implicitDefEqProofs only [go_sem, Nat.reduceAdd, Nat.reduceMul, Nat.reduceEqDiff, Nat.reduceLT, Nat.reduceLeDiff, Nat.reduceSub, Nat.reduceBEq, reduceIte, reduceCtorEq, Int.reduceEq, Int.reduceNe, Nat.reduceBneDiff, Int.reduceLE, Int.reduceLT, Int.reduceToNat, Int.reduceAdd, Int.reduceSub, Int.reduceMul, Int.reduceNeg]) | ((with_reducible refine gcall_eq (hs) ?_ ?_ ?_); (with_reducible rfl); rfl) | (with_reducible exact drawQ_true _ _ (by kernel_rfl)) | (with_reducible refine And.intro (drawQ_true _ _ (by kernel_rfl)) ?_))
theorem valid1_v (x : Bool × ByteArray) : SoundAt Try.prog 55 [.agg [.bool x.1, .str x.2]] (.bool (!validB x.1 x.2.data.toList)) := by
  have h := wvalid_v x.1 x.2
  refine sound_go (tb := []) 6 [.tmp 2] [0, 1, 2] mixed Try.func55 rfl (by kernel_rfl) (by kernel_rfl) (by kernel_rfl) (by kernel_rfl) ?_
  repeat (first | (simp -implicitDefEqProofs only [go_sem, Nat.reduceAdd, Nat.reduceMul, Nat.reduceEqDiff, Nat.reduceLT, Nat.reduceLeDiff, Nat.reduceSub, Nat.reduceBEq, reduceIte, reduceCtorEq, Int.reduceEq, Int.reduceNe, Nat.reduceBneDiff, Int.reduceLE, Int.reduceLT, Int.reduceToNat, Int.reduceAdd, Int.reduceSub, Int.reduceMul, Int.reduceNeg]) | ((with_reducible refine gcall_eq (h) ?_ ?_ ?_); (with_reducible rfl); rfl) | (with_reducible exact drawQ_true _ _ (by kernel_rfl)) | (with_reducible refine And.intro (drawQ_true _ _ (by kernel_rfl)) ?_))
theorem valid_v (l : List (Bool × ByteArray)) (hl : l.length ≤ maxLen) : SoundAt Try.prog 31 [.slc (l.map wA)] (.bool (formB l)) := by
  unfold maxLen at hl
  by_cases h1 : 1 ≤ l.length
  · have h1' : ((1 : Int) ≤ (l.length : Int)) = True := by simp only [eq_iff_iff, iff_true]; omega
    by_cases h2 : l.length ≤ 25
    · have h2' : ((l.length : Int) ≤ 25) = True := by simp only [eq_iff_iff, iff_true]; omega
      have hc := contains_v l (by omega) 55 (fun x => !validB x.1 x.2.data.toList) (fun x _ => valid1_v x)
      have e : (!l.any fun x => !validB x.1 x.2.data.toList) = formB l := by
        unfold formB validL
        rw [decide_eq_true h1, decide_eq_true h2, Bool.and_true, Bool.and_true, List.any_eq_not_all_not]
        simp
      refine sound_go (tb := []) 16 [.tmp 2] [0, 2] mixed Try.func31 rfl (by kernel_rfl) (by kernel_rfl) (by kernel_rfl) (by kernel_rfl) ?_
      repeat (first | (simp -implicitDefEqProofs only [go_sem, Nat.reduceAdd, Nat.reduceMul, Nat.reduceEqDiff, Nat.reduceLT, Nat.reduceLeDiff, Nat.reduceSub, Nat.reduceBEq, reduceIte, reduceCtorEq, Int.reduceEq, Int.reduceNe, Nat.reduceBneDiff, Int.reduceLE, Int.reduceLT, Int.reduceToNat, Int.reduceAdd, Int.reduceSub, Int.reduceMul, Int.reduceNeg, h1', h2', e, List.length_map]) | ((with_reducible refine gcall_eq (hc) ?_ ?_ ?_); (with_reducible rfl); rfl) | (with_reducible exact drawQ_true _ _ (by kernel_rfl)) | (with_reducible refine And.intro (drawQ_true _ _ (by kernel_rfl)) ?_))
    · have h2' : ((l.length : Int) ≤ 25) = False := by simp only [eq_iff_iff, iff_false]; omega
      have e : formB l = false := by unfold formB; rw [decide_eq_false h2, Bool.and_false, Bool.and_false]
      rw [e]
      refine sound_go (tb := []) 16 [.tmp 2] [0, 2] mixed Try.func31 rfl (by kernel_rfl) (by kernel_rfl) (by kernel_rfl) (by kernel_rfl) ?_
      repeat (first | (simp -implicitDefEqProofs only [go_sem, Nat.reduceAdd, Nat.reduceMul, Nat.reduceEqDiff, Nat.reduceLT, Nat.reduceLeDiff, Nat.reduceSub, Nat.reduceBEq, reduceIte, reduceCtorEq, Int.reduceEq, Int.reduceNe, Nat.reduceBneDiff, Int.reduceLE, Int.reduceLT, Int.reduceToNat, Int.reduceAdd, Int.reduceSub, Int.reduceMul, Int.reduceNeg, h1', h2', List.length_map]) | (with_reducible exact drawQ_true _ _ (by kernel_rfl)) | (with_reducible refine And.intro (drawQ_true _ _ (by kernel_rfl)) ?_))
  · have h1' : ((1 : Int) ≤ (l.length : Int)) = False := by simp only [eq_iff_iff, iff_false]; omega
    have e : formB l = false := by unfold formB; rw [decide_eq_false h1, Bool.false_and, Bool.and_false]
    rw [e]
    refine sound_go (tb := []) 16 [.tmp 2] [0, 2] mixed Try.func31 rfl (by kernel_rfl) (by kernel_rfl) (by kernel_rfl) (by kernel_rfl) ?_
    repeat (first | (simp -implicitDefEqProofs only [go_sem, Nat.reduceAdd, Nat.reduceMul, Nat.reduceEqDiff, Nat.reduceLT, Nat.reduceLeDiff, Nat.reduceSub, Nat.reduceBEq, reduceIte, reduceCtorEq, Int.reduceEq, Int.reduceNe, Nat.reduceBneDiff, Int.reduceLE, Int.reduceLT, Int.reduceToNat, Int.reduceAdd, Int.reduceSub, Int.reduceMul, Int.reduceNeg, h1', List.length_map]) | (with_reducible exact drawQ_true _ _ (by kernel_rfl)) | (with_reducible refine And.intro (drawQ_true _ _ (by kernel_rfl)) ?_))
theorem pow2_abs (k : Nat) : ((2 : Int) ^ k).natAbs < 2 ^ (k + 1) := by
  rw [Int.natAbs_pow]; exact Nat.pow_lt_pow_right (by decide) (Nat.lt_succ_self _)
end Go.Proofs.Ytnpclmmmngmdkaa

namespace Go.Dg

theorem bd_trans {xs : List Int} {B n : Nat} {c : Int} (hc : c.natAbs = 1) (hn : n ≤ 24) (hx : bd B xs) : bd (B + 29) (trans xs c n) := by
  intro y hy
  obtain ⟨j, hj, rfl⟩ := List.mem_map.1 hy
  refine sm_bin_lt hn (by have := List.mem_range.1 hj; omega) fun i _ => ?_
  rw [Int.natAbs_mul, Int.natAbs_mul, Int.natAbs_pow, hc, Nat.one_pow, Nat.one_mul]
  exact Nat.mul_le_mul (Nat.le_of_lt (bd_get hx i)) (Nat.le_trans (bin_le_pow _ _) (Nat.pow_le_pow_right (by decide) (by omega)))
theorem bd_reverse {B : Nat} {p : List Int} (h : bd B p) : bd B p.reverse := fun x hx => h x (List.mem_reverse.1 hx)
theorem bd_leftH {xs : List Int} {B n : Nat} (hn : n ≤ 24) (hx : bd B xs) : bd (B + 29 + n) (leftH xs n) := by
  intro y hy
  obtain ⟨j, hj, rfl⟩ := List.mem_map.1 hy
  have h1 := bd_get (bd_trans (c := 1) rfl hn hx) j
  have h2 : ((2 : Int) ^ (n - j)).natAbs ≤ 2 ^ n := by
    rw [Int.natAbs_pow]
    exact Nat.pow_le_pow_right (by decide) (Nat.sub_le _ _)
  rw [Int.natAbs_mul, Nat.pow_add]
  exact Nat.lt_of_le_of_lt (Nat.mul_le_mul_left _ h2) (Nat.mul_lt_mul_of_pos_right h1 (Nat.pow_pos (by decide)))
theorem bd_rightH {xs : List Int} {B n : Nat} (hn : n ≤ 24) (hx : bd B xs) : bd (B + 29 + n) (rightH xs n) := bd_reverse (bd_leftH hn (bd_reverse hx))
/-- Sums that grow row by row: behind i rows and k columns of row i. -/
def rowsF (t : Nat → Nat → Int) (n i k : Nat) : List Int := (List.range (n + 1)).map fun m => if m < i then sm (t m) (m + 1) else if m < i + k then sm (t m) (i + 1) else sm (t m) i
theorem rowsF_length (t : Nat → Nat → Int) (n i k : Nat) : (rowsF t n i k).length = n + 1 := by simp [rowsF]
theorem rowsF_get (t : Nat → Nat → Int) (n i k m : Nat) (h : m < n + 1) : (rowsF t n i k)[m]? = some (if m < i then sm (t m) (m + 1) else if m < i + k then sm (t m) (i + 1) else sm (t m) i) := by simp [rowsF, h]
theorem rowsF_zero (t : Nat → Nat → Int) (n : Nat) : rowsF t n 0 0 = List.replicate (n + 1) 0 := by
  refine List.ext_getElem? fun m => ?_
  by_cases h : m < n + 1
  · rw [rowsF_get _ _ _ _ _ h]; simp [h, sm]
  · rw [List.getElem?_eq_none (by rw [rowsF_length]; omega), List.getElem?_eq_none (by simp; omega)]
theorem rowsF_set (t : Nat → Nat → Int) (n i k : Nat) (h : i + k < n + 1) : (rowsF t n i k).set (i + k) (sm (t (i + k)) (i + 1)) = rowsF t n i (k + 1) := by
  refine List.ext_getElem? fun m => ?_
  rw [List.getElem?_set, rowsF_length]
  by_cases hm : m < n + 1
  · rw [rowsF_get _ _ _ _ _ hm, rowsF_get _ _ _ _ _ hm]
    by_cases e : i + k = m
    · subst e
      rw [if_pos rfl, if_pos h, if_neg (by omega), if_pos (by omega)]
    · rw [if_neg e]
      congr 1
      by_cases h1 : m < i
      · rw [if_pos h1, if_pos h1]
      · rw [if_neg h1, if_neg h1]
        by_cases h2 : m < i + k
        · rw [if_pos h2, if_pos (by omega)]
        · rw [if_neg h2, if_neg (by omega)]
  · rw [if_neg (by omega), List.getElem?_eq_none (by rw [rowsF_length]; omega), List.getElem?_eq_none (by rw [rowsF_length]; omega)]
theorem rowsF_next (t : Nat → Nat → Int) (n i k : Nat) (h : n + 1 ≤ i + k) : rowsF t n i k = rowsF t n (i + 1) 0 := by
  refine List.map_congr_left fun m hm => ?_
  have hm' := List.mem_range.1 hm
  by_cases h1 : m < i
  · rw [if_pos h1, if_pos (by omega)]
  · rw [if_neg h1, if_pos (by omega)]
    by_cases h2 : m < i + 1
    · obtain rfl : m = i := by omega
      rw [if_pos (Nat.lt_succ_self _)]
    · rw [if_neg h2, if_neg (by omega)]
theorem rowsF_done (t : Nat → Nat → Int) (n k : Nat) : rowsF t n (n + 1) k = (List.range (n + 1)).map fun m => sm (t m) (m + 1) := by
  refine List.map_congr_left fun m hm => ?_
  rw [if_pos (List.mem_range.1 hm)]
/-- The terms of the polynomial of a form. -/
def pterm (xs : List Int) (n m i : Nat) : Int := xs.getD i 0 * ((-1) ^ (m - i) * (bin (n - i) (m - i) : Int))
theorem pterm_done (xs : List Int) (n k : Nat) : rowsF (pterm xs n) n (n + 1) k = trans xs (-1) n := rowsF_done _ _ _
theorem pterm_abs {xs : List Int} {B n : Nat} (hx : bd B xs) (m i : Nat) : (pterm xs n m i).natAbs ≤ 2 ^ B * 2 ^ n := by
  rw [pterm, Int.natAbs_mul, Int.natAbs_mul, Int.natAbs_pow, show (-1 : Int).natAbs = 1 from rfl, Nat.one_pow, Nat.one_mul]
  exact Nat.mul_le_mul (Nat.le_of_lt (bd_get hx i)) (Nat.le_trans (bin_le_pow _ _) (Nat.pow_le_pow_right (by decide) (by omega)))
theorem neg1_even {k : Nat} (h : k % 2 = 0) : (-1 : Int) ^ k = 1 := by
  obtain ⟨a, rfl⟩ : ∃ a, k = 2 * a := ⟨k / 2, by omega⟩
  rw [Int.pow_mul, show (-1 : Int) ^ 2 = 1 from rfl, Int.one_pow]
theorem neg1_odd {k : Nat} (h : k % 2 = 1) : (-1 : Int) ^ k = -1 := by
  obtain ⟨a, rfl⟩ : ∃ a, k = 2 * a + 1 := ⟨k / 2, by omega⟩
  rw [Int.pow_succ, neg1_even (by omega), Int.one_mul]
end Go.Dg

namespace Go.Proofs.Ytnpclmmmngmdkaa
open Go.Vl Go.RowKit Go.Dg

theorem formB_of {l : List (Bool × ByteArray)} (h : formB l = true) : validL l = true ∧ 1 ≤ l.length ∧ l.length ≤ 25 := by
  unfold formB at h
  simp only [Bool.and_eq_true, decide_eq_true_eq] at h
  exact ⟨h.1, h.2.1, h.2.2⟩
theorem Split_no (l : List (Bool × ByteArray)) (hl : l.length ≤ maxLen) (h : formB l = false) : SoundAt Try.prog 15 [.slc (l.map wA)] (.tup [.slc [], .slc [], .int .i64 2]) := by
  have hv := valid_v l hl
  rw [h] at hv
  refine sound_go (tb := []) 29 [.tmp 2, .tmp 3, .tmp 4] [0, 2, 3, 4, 5, 6, 7, 9, 13] mixed Try.func15 rfl (by kernel_rfl) (by kernel_rfl) (by kernel_rfl) (by kernel_rfl) ?_
  repeat (first | (simp -implicitDefEqProofs only [go_sem, Nat.reduceAdd, Nat.reduceMul, Nat.reduceEqDiff, Nat.reduceLT, Nat.reduceLeDiff, Nat.reduceSub, Nat.reduceBEq, reduceIte, reduceCtorEq, Int.reduceEq, Int.reduceNe, Nat.reduceBneDiff, Int.reduceLE, Int.reduceLT, Int.reduceToNat, Int.reduceAdd, Int.reduceSub, Int.reduceMul, Int.reduceNeg]) | ((with_reducible refine gcall_eq (hv) ?_ ?_ ?_); (with_reducible rfl); rfl) | (with_reducible exact drawQ_true _ _ (by kernel_rfl)) | (with_reducible refine And.intro (drawQ_true _ _ (by kernel_rfl)) ?_))
theorem Split_full (l : List (Bool × ByteArray)) (h : formB l = true) (hs : ∀ x ∈ l.map wnP, x.natAbs < 2 ^ 65536) (hb : 65536 < bitsF blen (l.map wnP) + l.length - 1 + 30) : SoundAt Try.prog 15 [.slc (l.map wA)] (.tup [.slc [], .slc [], .int .i64 7]) := by
  obtain ⟨hval, h1, h25⟩ := formB_of h
  have hv := valid_v l (Nat.le_trans h25 (by decide))
  rw [h] at hv
  rw [wA_wPV hval] at hv ⊢
  have hxl : (l.map wnP).length = l.length := List.length_map _
  rw [← hxl] at h1 h25 hb
  generalize l.map wnP = xs at *
  have hsz := size_v xs (by omega) hs
  have hle : bitsF blen xs ≤ 65536 := bitsF_le fun x hx' => p2_blen (hs x hx')
  have w1 : IntKind.i64.wrap ((bitsF blen xs : Int) + (xs.length : Int)) = ((bitsF blen xs + xs.length : Nat) : Int) := by rw [wrap_i64 (by omega) (by omega)]; omega
  have w2 : IntKind.i64.wrap (((bitsF blen xs + xs.length : Nat) : Int) - 1) = ((bitsF blen xs + xs.length - 1 : Nat) : Int) := by rw [wrap_i64 (by omega) (by omega)]; omega
  have w3 : IntKind.i64.wrap (((bitsF blen xs + xs.length - 1 : Nat) : Int) + 30) = ((bitsF blen xs + xs.length - 1 + 30 : Nat) : Int) := by rw [wrap_i64 (by omega) (by omega)]; omega
  have g4 : ((65536 : Int) < ((bitsF blen xs + xs.length - 1 + 30 : Nat) : Int)) = True := by simp only [eq_iff_iff, iff_true]; omega
  generalize bitsF blen xs = bb at *
  unfold wL at *
  refine sound_go (tb := []) 29 [.tmp 2, .tmp 3, .tmp 4] [0, 2, 3, 4, 5, 6, 7, 9, 13] mixed Try.func15 rfl (by kernel_rfl) (by kernel_rfl) (by kernel_rfl) (by kernel_rfl) ?_
  repeat (first | (simp -implicitDefEqProofs only [go_sem, Nat.reduceAdd, Nat.reduceMul, Nat.reduceEqDiff, Nat.reduceLT, Nat.reduceLeDiff, Nat.reduceSub, Nat.reduceBEq, reduceIte, reduceCtorEq, Int.reduceEq, Int.reduceNe, Nat.reduceBneDiff, Int.reduceLE, Int.reduceLT, Int.reduceToNat, Int.reduceAdd, Int.reduceSub, Int.reduceMul, Int.reduceNeg, w1, w2, w3, g4, List.length_map]) | ((with_reducible refine gcall_eq (hv) ?_ ?_ ?_); (with_reducible rfl); rfl) | ((with_reducible refine gcall_eq (hsz) ?_ ?_ ?_); (with_reducible rfl); rfl) | (with_reducible exact drawQ_true _ _ (by kernel_rfl)) | (with_reducible refine And.intro (drawQ_true _ _ (by kernel_rfl)) ?_))
theorem Split_v (l : List (Bool × ByteArray)) (n B : Nat) (hn : l.length = n + 1) (h : formB l = true) (hx : ∀ x ∈ l.map wnP, x.natAbs < 2 ^ B) (hB : B + n + 30 ≤ 65536) :
    SoundAt Try.prog 15 [.slc (l.map wA)] (.tup [wL (leftH (l.map wnP) n), wL (rightH (l.map wnP) n), .int .i64 0]) := by
  obtain ⟨hval, h1, h25⟩ := formB_of h
  have hv := valid_v l (Nat.le_trans h25 (by decide))
  rw [h] at hv
  rw [wA_wPV hval] at hv ⊢
  have hxl : (l.map wnP).length = n + 1 := by rw [List.length_map]; exact hn
  have hn24 : n ≤ 24 := by omega
  generalize l.map wnP = xs at *
  have hsz := size_v xs (by omega) fun x hx' => p2_16 (hx x hx') (by omega)
  have hle : bitsF blen xs ≤ B := bitsF_le fun x hx' => p2_blen (hx x hx')
  have hh := halves_v xs n B hn24 hxl (by omega) hx
  have w1 : IntKind.i64.wrap ((bitsF blen xs : Int) + ((n + 1 : Nat) : Int)) = ((bitsF blen xs + n + 1 : Nat) : Int) := by rw [wrap_i64 (by omega) (by omega)]; omega
  have w2 : IntKind.i64.wrap (((bitsF blen xs + n + 1 : Nat) : Int) - 1) = ((bitsF blen xs + n : Nat) : Int) := by rw [wrap_i64 (by omega) (by omega)]; omega
  have w3 : IntKind.i64.wrap (((bitsF blen xs + n : Nat) : Int) + 30) = ((bitsF blen xs + n + 30 : Nat) : Int) := by rw [wrap_i64 (by omega) (by omega)]; omega
  have g4 : ((65536 : Int) < ((bitsF blen xs + n + 30 : Nat) : Int)) = False := by simp only [eq_iff_iff, iff_false]; omega
  generalize bitsF blen xs = bb at *
  generalize leftH xs n = L at *
  generalize rightH xs n = R at *
  unfold wL at *
  refine sound_go (tb := []) 29 [.tmp 2, .tmp 3, .tmp 4] [0, 2, 3, 4, 5, 6, 7, 9, 13] mixed Try.func15 rfl (by kernel_rfl) (by kernel_rfl) (by kernel_rfl) (by kernel_rfl) ?_
  repeat (first | (simp -implicitDefEqProofs only [go_sem, Nat.reduceAdd, Nat.reduceMul, Nat.reduceEqDiff, Nat.reduceLT, Nat.reduceLeDiff, Nat.reduceSub, Nat.reduceBEq, reduceIte, reduceCtorEq, Int.reduceEq, Int.reduceNe, Nat.reduceBneDiff, Int.reduceLE, Int.reduceLT, Int.reduceToNat, Int.reduceAdd, Int.reduceSub, Int.reduceMul, Int.reduceNeg, w1, w2, w3, g4, List.length_map, hxl]) | ((with_reducible refine gcall_eq (hv) ?_ ?_ ?_); (with_reducible rfl); rfl) | ((with_reducible refine gcall_eq (hsz) ?_ ?_ ?_); (with_reducible rfl); rfl) | ((with_reducible refine gcall_eq (hh) ?_ ?_ ?_); (with_reducible rfl); rfl) | (with_reducible exact drawQ_true _ _ (by kernel_rfl)) | (with_reducible refine And.intro (drawQ_true _ _ (by kernel_rfl)) ?_))
end Go.Proofs.Ytnpclmmmngmdkaa

namespace Go.Proofs.Ytnpclmmmngmdkaa
open Go.Vl Go.RowKit Go.Dg

theorem tmod2 (n : Nat) : Int.tmod (n : Int) 2 = ((n % 2 : Nat) : Int) := by
  rw [Int.tmod_eq_emod_of_nonneg (by omega)]; rfl
theorem Poly_no (l : List (Bool × ByteArray)) (hl : l.length ≤ maxLen) (h : formB l = false) : SoundAt Try.prog 13 [.slc (l.map wA)] (.tup [.slc [], .int .i64 2]) := by
  have hv := valid_v l hl
  rw [h] at hv
  refine sound_go (tb := []) 86 [.tmp 2, .tmp 3] [0, 2, 3, 4, 5, 6, 7, 8, 9, 10, 12, 16, 27, 28, 29, 30, 37, 38, 39, 48, 79] mixed Try.func13 rfl (by kernel_rfl) (by kernel_rfl) (by kernel_rfl) (by kernel_rfl) ?_
  repeat (first | (simp -implicitDefEqProofs only [go_sem, Nat.reduceAdd, Nat.reduceMul, Nat.reduceEqDiff, Nat.reduceLT, Nat.reduceLeDiff, Nat.reduceSub, Nat.reduceBEq, reduceIte, reduceCtorEq, Int.reduceEq, Int.reduceNe, Nat.reduceBneDiff, Int.reduceLE, Int.reduceLT, Int.reduceToNat, Int.reduceAdd, Int.reduceSub, Int.reduceMul, Int.reduceNeg]) | ((with_reducible refine gcall_eq (hv) ?_ ?_ ?_); (with_reducible rfl); rfl) | (with_reducible exact drawQ_true _ _ (by kernel_rfl)) | (with_reducible refine And.intro (drawQ_true _ _ (by kernel_rfl)) ?_))
theorem Poly_full (l : List (Bool × ByteArray)) (h : formB l = true) (hs : ∀ x ∈ l.map wnP, x.natAbs < 2 ^ 65536) (hb : 65536 < bitsF blen (l.map wnP) + 30) : SoundAt Try.prog 13 [.slc (l.map wA)] (.tup [.slc [], .int .i64 7]) := by
  obtain ⟨hval, h1, h25⟩ := formB_of h
  have hv := valid_v l (Nat.le_trans h25 (by decide))
  rw [h] at hv
  rw [wA_wPV hval] at hv ⊢
  have hxl : (l.map wnP).length = l.length := List.length_map _
  rw [← hxl] at h1 h25
  generalize l.map wnP = xs at *
  have hsz := size_v xs (by omega) hs
  have hle : bitsF blen xs ≤ 65536 := bitsF_le fun x hx' => p2_blen (hs x hx')
  have w3 : IntKind.i64.wrap ((bitsF blen xs : Int) + 30) = ((bitsF blen xs + 30 : Nat) : Int) := by rw [wrap_i64 (by omega) (by omega)]; omega
  have g4 : ((65536 : Int) < ((bitsF blen xs + 30 : Nat) : Int)) = True := by simp only [eq_iff_iff, iff_true]; omega
  generalize bitsF blen xs = bb at *
  unfold wL at *
  refine sound_go (tb := []) 86 [.tmp 2, .tmp 3] [0, 2, 3, 4, 5, 6, 7, 8, 9, 10, 12, 16, 27, 28, 29, 30, 37, 38, 39, 48, 79] mixed Try.func13 rfl (by kernel_rfl) (by kernel_rfl) (by kernel_rfl) (by kernel_rfl) ?_
  repeat (first | (simp -implicitDefEqProofs only [go_sem, Nat.reduceAdd, Nat.reduceMul, Nat.reduceEqDiff, Nat.reduceLT, Nat.reduceLeDiff, Nat.reduceSub, Nat.reduceBEq, reduceIte, reduceCtorEq, Int.reduceEq, Int.reduceNe, Nat.reduceBneDiff, Int.reduceLE, Int.reduceLT, Int.reduceToNat, Int.reduceAdd, Int.reduceSub, Int.reduceMul, Int.reduceNeg, w3, g4, List.length_map]) | ((with_reducible refine gcall_eq (hv) ?_ ?_ ?_); (with_reducible rfl); rfl) | ((with_reducible refine gcall_eq (hsz) ?_ ?_ ?_); (with_reducible rfl); rfl) | (with_reducible exact drawQ_true _ _ (by kernel_rfl)) | (with_reducible refine And.intro (drawQ_true _ _ (by kernel_rfl)) ?_))
set_option maxHeartbeats 4000000 in
theorem Poly_v (l : List (Bool × ByteArray)) (n B : Nat) (hn : l.length = n + 1) (h : formB l = true) (hx : ∀ x ∈ l.map wnP, x.natAbs < 2 ^ B) (hB : B + 30 ≤ 65536) :
    SoundAt Try.prog 13 [.slc (l.map wA)] (.tup [wL (trimI (trans (l.map wnP) (-1) n)), .int .i64 0]) := by
  obtain ⟨hval, h1, h25⟩ := formB_of h
  have hv := valid_v l (Nat.le_trans h25 (by decide))
  rw [h] at hv
  rw [wA_wPV hval] at hv ⊢
  have hxl : (l.map wnP).length = n + 1 := by rw [List.length_map]; exact hn
  have hn24 : n ≤ 24 := by omega
  generalize l.map wnP = xs at *
  have hsz := size_v xs (by omega) fun x hx' => p2_16 (hx x hx') (by omega)
  have hle : bitsF blen xs ≤ B := bitsF_le fun x hx' => p2_blen (hx x hx')
  have w3 : IntKind.i64.wrap ((bitsF blen xs : Int) + 30) = ((bitsF blen xs + 30 : Nat) : Int) := by rw [wrap_i64 (by omega) (by omega)]; omega
  have g4 : ((65536 : Int) < ((bitsF blen xs + 30 : Nat) : Int)) = False := by simp only [eq_iff_iff, iff_false]; omega
  have w0 : IntKind.i64.wrap (((n + 1 : Nat) : Int) - 1) = (n : Int) := by rw [wrap_i64 (by omega) (by omega)]; omega
  have w1 := wrap_add1 (a := n) (by omega)
  have m1 : ((24 : Nat) : Int) * ((n + 1 : Nat) : Int) ≤ 281474976710656 := by omega
  have m2 : ((n + 1 : Nat) : Int) ≤ 9223372036854775807 := by omega
  have m3 := nnT (n + 1)
  generalize bitsF blen xs = bb at *
  unfold wL at hsz
  have hTb : bd (B + 29) (trans xs (-1) n) := bd_trans rfl hn24 hx
  refine sound_go (tb := []) 86 [.tmp 2, .tmp 3] [0, 2, 3, 4, 5, 6, 7, 8, 9, 10, 12, 16, 27, 28, 29, 30, 37, 38, 39, 48, 79] mixed Try.func13 rfl (by kernel_rfl) (by kernel_rfl) (by kernel_rfl) (by kernel_rfl) ?_
  repeat (first | (simp -implicitDefEqProofs only [go_sem, Nat.reduceAdd, Nat.reduceMul, Nat.reduceEqDiff, Nat.reduceLT, Nat.reduceLeDiff, Nat.reduceSub, Nat.reduceBEq, reduceIte, reduceCtorEq, Int.reduceEq, Int.reduceNe, Nat.reduceBneDiff, Int.reduceLE, Int.reduceLT, Int.reduceToNat, Int.reduceAdd, Int.reduceSub, Int.reduceMul, Int.reduceNeg, wL, w3, g4, w0, w1, m1, m2, m3, List.length_map, hxl, Int.toNat_natCast, wzero]) | ((with_reducible refine gcall_eq (hv) ?_ ?_ ?_); (with_reducible rfl); rfl) | ((with_reducible refine gcall_eq (hsz) ?_ ?_ ?_); (with_reducible rfl); rfl) | (with_reducible exact drawQ_true _ _ (by kernel_rfl)) | (with_reducible refine And.intro (drawQ_true _ _ (by kernel_rfl)) ?_))
  rw [← rowsF_zero (pterm xs n)]
  refine g_loop mixed (fun j : { j : Nat // j ≤ n + 1 } => St.of [(5, .int .i64 (n : Int)), (6, .bs 702 2 0 (n + 1)), (27, wL xs), (28, .int .i64 ((n + 1 : Nat) : Int)), (29, .int .i64 (j.1 : Int))]
    [(702, { els := (rowsF (pterm xs n) n j.1 0).map wPV, esz := 2, ety := 40, fro := 0, live := true, arr := true })]) (fun j => n + 1 - j.1) ⟨0, Nat.zero_le _⟩ ?_ ?_
  · refine le_of (θ := [(702, 702)]) rfl ?_ ?_
    · simp [varsLe, lkp, ren1, ren0, wL]
    · simp [boxesLe, lkp, Box.renames]
  · rintro ⟨j, hj⟩
    by_cases hA : j < n + 1
    · have hA' := ltT hA
      have hnj := nnT j
      have hjl : j < xs.length := by omega
      have hgx := wPV_get xs j hjl
      have hwj := wrap_add1 (a := j) (by omega)
      have w2 := wrap_sub (a := n) (b := j) (by omega) (by omega)
      have w4 := wrap_add1 (a := n - j) (by omega)
      repeat (first | (simp -implicitDefEqProofs only [go_sem, Nat.reduceAdd, Nat.reduceMul, Nat.reduceEqDiff, Nat.reduceLT, Nat.reduceLeDiff, Nat.reduceSub, Nat.reduceBEq, reduceIte, reduceCtorEq, Int.reduceEq, Int.reduceNe, Nat.reduceBneDiff, Int.reduceLE, Int.reduceLT, Int.reduceToNat, Int.reduceAdd, Int.reduceSub, Int.reduceMul, Int.reduceNeg, wL, hA', hnj, hgx, Int.toNat_natCast, w2, w4]) | (with_reducible exact drawQ_true _ _ (by kernel_rfl)) | (with_reducible refine And.intro (drawQ_true _ _ (by kernel_rfl)) ?_))
      refine g_loop mixed (fun k : { k : Nat // k ≤ n - j + 1 } => St.of [(5, .int .i64 (n : Int)), (6, .bs 702 2 0 (n + 1)), (7, .int .i64 (j : Int)), (8, .bp 1003 2 0 0), (27, wL xs), (28, .int .i64 ((n + 1 : Nat) : Int)), (29, .int .i64 (j : Int)), (37, .int .i64 ((n - j + 1 : Nat) : Int)), (38, .int .i64 (k.1 : Int))]
        [(702, { els := (rowsF (pterm xs n) n j k.1).map wPV, esz := 2, ety := 40, fro := 0, live := true, arr := true }), (1003, { els := [wPV xs[j]], esz := 2, ety := 40, fro := 0, live := true, arr := false })]) (fun k => n - j + 1 - k.1) ⟨0, Nat.zero_le _⟩ ?_ ?_
      · refine le_of (θ := [(702, 702), (1003, 1003)]) rfl ?_ ?_
        · simp [varsLe, lkp, ren1, ren0, wL]
        · refine ⟨⟨rfl, rfl, rfl, rfl, rfl, .inl ⟨rfl, rfl⟩⟩, ⟨rfl, rfl, rfl, rfl, rfl, .inr ⟨rfl, _, _, rfl, rfl, rfl, rfl⟩⟩, trivial⟩
      · rintro ⟨k, hk⟩
        by_cases hK : k < n - j + 1
        · have hK' := ltT hK
          have hnk := nnT (j + k)
          have hlt : j + k < n + 1 := by omega
          have hlt' := ltT hlt
          have w5 : IntKind.i64.wrap ((j : Int) + (k : Int)) = ((j + k : Nat) : Int) := by rw [wrap_i64 (by omega) (by omega)]; omega
          have hwk := wrap_add1 (a := k) (by omega)
          have hgo := rowsF_get (pterm xs n) n j k (j + k) hlt
          rw [if_neg (by omega), if_neg (by omega)] at hgo
          replace hgo := wget' hgo
          have hwy := ways_v (n - j) k (by omega) (by omega)
          have hb := bin_i64 (n := n - j) (k := k) (by omega)
          have hS : (sm (pterm xs n (j + k)) j).natAbs < 2 ^ (B + 29) := sm_bin_lt hn24 (by omega) fun i _ => pterm_abs hx (j + k) i
          have hS1 : (sm (pterm xs n (j + k)) (j + 1)).natAbs < 2 ^ (B + 29) := sm_bin_lt hn24 (by omega) fun i _ => pterm_abs hx (j + k) i
          have ekk : j + k - j = k := by omega
          have hT : (pterm xs n (j + k) j).natAbs < 2 ^ (B + 29) := by
            have := sm_bin_lt (g := fun _ => pterm xs n (j + k) j) (m := 1) hn24 (by decide) fun _ _ => pterm_abs hx (j + k) j
            simpa [sm] using this
          have hset := rowsF_set (pterm xs n) n j k hlt
          have hs2 := wset (rowsF (pterm xs n) n j k) (j + k) (sm (pterm xs n (j + k)) (j + 1))
          rw [hset] at hs2
          have hl2 := rowsF_length (pterm xs n) n j k
          have htm := tmod2 k
          rcases Nat.mod_two_eq_zero_or_one k with he | ho
          · have g2 : (((k % 2 : Nat) : Int) == 1) = false := by rw [he]; rfl
            have hft : pterm xs n (j + k) j = xs[j] * (bin (n - j) k : Int) := by rw [pterm, ekk, neg1_even he, Int.one_mul, getD_lt hjl]
            rw [hft] at hT
            have e1 : sm (pterm xs n (j + k)) j + xs[j] * (bin (n - j) k : Int) = sm (pterm xs n (j + k)) (j + 1) := by rw [sm, hft]
            have hpl := plus_v (sm (pterm xs n (j + k)) j) xs[j] (bin (n - j) k : Int) (by omega) (by omega) (p2_16 hS (by omega)) (p2_16 (hx _ (List.getElem_mem hjl)) (by omega)) (p2_16 hT (by omega)) (by rw [e1]; exact p2_16 hS1 (by omega))
            rw [e1] at hpl
            generalize sm (pterm xs n (j + k)) (j + 1) = S1 at *
            generalize sm (pterm xs n (j + k)) j = S at *
            generalize (bin (n - j) k : Int) = b at *
            repeat (first | (simp -implicitDefEqProofs only [go_sem, Nat.reduceAdd, Nat.reduceMul, Nat.reduceEqDiff, Nat.reduceLT, Nat.reduceLeDiff, Nat.reduceSub, Nat.reduceBEq, reduceIte, reduceCtorEq, Int.reduceEq, Int.reduceNe, Nat.reduceBneDiff, Int.reduceLE, Int.reduceLT, Int.reduceToNat, Int.reduceAdd, Int.reduceSub, Int.reduceMul, Int.reduceNeg, wL, wPV, List.length_map, hK', hnj, hnk, hlt', hgo, w2, w5, hwk, htm, g2, Int.toNat_natCast]) | ((with_reducible refine gcall_eq (hwy) ?_ ?_ ?_); (with_reducible rfl); rfl) | ((with_reducible refine gcall_eq (hpl) ?_ ?_ ?_); (with_reducible rfl); rfl) | (with_reducible exact drawQ_true _ _ (by kernel_rfl)) | (with_reducible refine And.intro (drawQ_true _ _ (by kernel_rfl)) ?_))
            refine ⟨⟨k + 1, by omega⟩, by simp only; omega, le_of (θ := [(702, 702), (1003, 1003)]) rfl ?_ ?_⟩
            · simp [varsLe, lkp, ren1, ren0, wL]
            · rw [hs2]
              refine ⟨⟨rfl, rfl, rfl, rfl, rfl, .inl ⟨rfl, rfl⟩⟩, ⟨rfl, rfl, rfl, rfl, rfl, .inr ⟨rfl, _, _, rfl, rfl, rfl, rfl⟩⟩, trivial⟩
          · have g2 : (((k % 2 : Nat) : Int) == 1) = true := by rw [ho]; rfl
            have wn : IntKind.i64.wrap (0 - (bin (n - j) k : Int)) = -(bin (n - j) k : Int) := by rw [wrap_i64 (by omega) (by omega)]; omega
            have hft : pterm xs n (j + k) j = xs[j] * -(bin (n - j) k : Int) := by rw [pterm, ekk, neg1_odd ho, getD_lt hjl, Int.neg_mul, Int.one_mul]
            rw [hft] at hT
            have e1 : sm (pterm xs n (j + k)) j + xs[j] * -(bin (n - j) k : Int) = sm (pterm xs n (j + k)) (j + 1) := by rw [sm, hft]
            have hpl := plus_v (sm (pterm xs n (j + k)) j) xs[j] (-(bin (n - j) k : Int)) (by omega) (by omega) (p2_16 hS (by omega)) (p2_16 (hx _ (List.getElem_mem hjl)) (by omega)) (p2_16 hT (by omega)) (by rw [e1]; exact p2_16 hS1 (by omega))
            rw [e1] at hpl
            generalize sm (pterm xs n (j + k)) (j + 1) = S1 at *
            generalize sm (pterm xs n (j + k)) j = S at *
            generalize (bin (n - j) k : Int) = b at *
            repeat (first | (simp -implicitDefEqProofs only [go_sem, Nat.reduceAdd, Nat.reduceMul, Nat.reduceEqDiff, Nat.reduceLT, Nat.reduceLeDiff, Nat.reduceSub, Nat.reduceBEq, reduceIte, reduceCtorEq, Int.reduceEq, Int.reduceNe, Nat.reduceBneDiff, Int.reduceLE, Int.reduceLT, Int.reduceToNat, Int.reduceAdd, Int.reduceSub, Int.reduceMul, Int.reduceNeg, wL, wPV, List.length_map, hK', hnj, hnk, hlt', hgo, w2, w5, hwk, htm, g2, wn, Int.toNat_natCast]) | ((with_reducible refine gcall_eq (hwy) ?_ ?_ ?_); (with_reducible rfl); rfl) | ((with_reducible refine gcall_eq (hpl) ?_ ?_ ?_); (with_reducible rfl); rfl) | (with_reducible exact drawQ_true _ _ (by kernel_rfl)) | (with_reducible refine And.intro (drawQ_true _ _ (by kernel_rfl)) ?_))
            refine ⟨⟨k + 1, by omega⟩, by simp only; omega, le_of (θ := [(702, 702), (1003, 1003)]) rfl ?_ ?_⟩
            · simp [varsLe, lkp, ren1, ren0, wL]
            · rw [hs2]
              refine ⟨⟨rfl, rfl, rfl, rfl, rfl, .inl ⟨rfl, rfl⟩⟩, ⟨rfl, rfl, rfl, rfl, rfl, .inr ⟨rfl, _, _, rfl, rfl, rfl, rfl⟩⟩, trivial⟩
        · have hK' := ltF hK
          have e2 := rowsF_next (pterm xs n) n j k (by omega)
          repeat (first | (simp -implicitDefEqProofs only [go_sem, Nat.reduceAdd, Nat.reduceMul, Nat.reduceEqDiff, Nat.reduceLT, Nat.reduceLeDiff, Nat.reduceSub, Nat.reduceBEq, reduceIte, reduceCtorEq, Int.reduceEq, Int.reduceNe, Nat.reduceBneDiff, Int.reduceLE, Int.reduceLT, Int.reduceToNat, Int.reduceAdd, Int.reduceSub, Int.reduceMul, Int.reduceNeg, wL, List.length_map, hK', hwj]) | (with_reducible exact drawQ_true _ _ (by kernel_rfl)) | (with_reducible refine And.intro (drawQ_true _ _ (by kernel_rfl)) ?_))
          refine ⟨⟨j + 1, hA⟩, by simp only; omega, le_of (θ := [(702, 702)]) rfl ?_ ?_⟩
          · simp [varsLe, lkp, ren1, ren0, wL]
          · rw [e2]
            simp [boxesLe, lkp, Box.renames]
    · have hA' := ltF hA
      obtain rfl : j = n + 1 := by omega
      simp only [pterm_done]
      have hTl := trans_length xs (-1) n
      generalize trans xs (-1) n = T at *
      repeat (first | (simp -implicitDefEqProofs only [go_sem, Nat.reduceAdd, Nat.reduceMul, Nat.reduceEqDiff, Nat.reduceLT, Nat.reduceLeDiff, Nat.reduceSub, Nat.reduceBEq, reduceIte, reduceCtorEq, Int.reduceEq, Int.reduceNe, Nat.reduceBneDiff, Int.reduceLE, Int.reduceLT, Int.reduceToNat, Int.reduceAdd, Int.reduceSub, Int.reduceMul, Int.reduceNeg, hA']) | (with_reducible exact drawQ_true _ _ (by kernel_rfl)) | (with_reducible refine And.intro (drawQ_true _ _ (by kernel_rfl)) ?_))
      refine g_loop mixed (fun m : { m : Nat // m ≤ T.length ∧ trimI (T.take m) = trimI T } => St.of [(6, .bs 702 2 0 m.1)] [(702, { els := T.map wPV, esz := 2, ety := 40, fro := 0, live := true, arr := true })]) (fun m => m.1) ⟨T.length, Nat.le_refl _, by rw [List.take_length]⟩ ?_ ?_
      · refine le_of (θ := [(702, 702)]) rfl ?_ ?_
        · simp [varsLe, lkp, ren1, ren0, hTl]
        · simp [boxesLe, lkp, Box.renames]
      · rintro ⟨m, hm, ht⟩
        have hlen : (T.take m).length = m := by rw [List.length_take]; omega
        have etk : (T.map wPV).take m = (T.take m).map wPV := (List.map_take ..).symm
        simp only
        cases m with
        | zero =>
          have g1 : ((0 : Int) < ((0 : Nat) : Int)) = False := by simp
          have e : trimI T = [] := by rw [← ht]; rfl
          repeat (first | (simp -implicitDefEqProofs only [go_sem, Nat.reduceAdd, Nat.reduceMul, Nat.reduceEqDiff, Nat.reduceLT, Nat.reduceLeDiff, Nat.reduceSub, Nat.reduceBEq, reduceIte, reduceCtorEq, Int.reduceEq, Int.reduceNe, Nat.reduceBneDiff, Int.reduceLE, Int.reduceLT, Int.reduceToNat, Int.reduceAdd, Int.reduceSub, Int.reduceMul, Int.reduceNeg, wL, g1, e, List.length_map, List.take_zero, List.map_nil]) | (with_reducible exact drawQ_true _ _ (by kernel_rfl)) | (with_reducible refine And.intro (drawQ_true _ _ (by kernel_rfl)) ?_))
        | succ m =>
          have g1 : ((0 : Int) < ((m + 1 : Nat) : Int)) = True := by simp only [eq_iff_iff, iff_true]; omega
          have hlt : m < T.length := by omega
          have w6 : IntKind.i64.wrap (((m + 1 : Nat) : Int) - 1) = (m : Int) := by rw [wrap_i64 (by omega) (by omega)]; omega
          have h0 := nnT m
          have hg := wPV_get T m hlt
          have htk : T.take (m + 1) = T.take m ++ [T[m]] := take_snoc T m hlt
          have hrs := wSign_i (p2_16 (hTb _ (List.getElem_mem hlt)) (by omega))
          have l1 := ltT (show m < m + 1 by omega)
          have l2 := leT (show m ≤ m + 1 by omega)
          have l3 : (m + 1 ≤ T.length) = True := eq_true hlt
          by_cases hz : T[m] = 0
          · have g2 : ((T[m]).sign == 0) = true := by rw [hz]; rfl
            repeat (first | (simp -implicitDefEqProofs only [go_sem, Nat.reduceAdd, Nat.reduceMul, Nat.reduceEqDiff, Nat.reduceLT, Nat.reduceLeDiff, Nat.reduceSub, Nat.reduceBEq, reduceIte, reduceCtorEq, Int.reduceEq, Int.reduceNe, Nat.reduceBneDiff, Int.reduceLE, Int.reduceLT, Int.reduceToNat, Int.reduceAdd, Int.reduceSub, Int.reduceMul, Int.reduceNeg, g1, g2, w6, h0, hg, l1, l2, List.length_map, Int.toNat_natCast]) | ((with_reducible refine gcall_eq (hrs) ?_ ?_ ?_); (with_reducible rfl); rfl) | (with_reducible exact drawQ_true _ _ (by kernel_rfl)) | (with_reducible refine And.intro (drawQ_true _ _ (by kernel_rfl)) ?_))
            refine ⟨⟨m, by omega, ?_⟩, by simp only; omega, le_of (θ := [(702, 702)]) rfl ?_ ?_⟩
            · rw [← ht, htk, hz, trimI_snoc0]
            · simp [varsLe, lkp, ren1, ren0]
            · simp [boxesLe, lkp, Box.renames]
          · have g2 : ((T[m]).sign == 0) = false := by simp only [beq_eq_false_iff_ne, ne_eq, Int.sign_eq_zero_iff_zero]; exact hz
            have e : trimI T = T.take (m + 1) := by rw [← ht, htk, trimI_last _ _ hz]
            repeat (first | (simp -implicitDefEqProofs only [go_sem, Nat.reduceAdd, Nat.reduceMul, Nat.reduceEqDiff, Nat.reduceLT, Nat.reduceLeDiff, Nat.reduceSub, Nat.reduceBEq, reduceIte, reduceCtorEq, Int.reduceEq, Int.reduceNe, Nat.reduceBneDiff, Int.reduceLE, Int.reduceLT, Int.reduceToNat, Int.reduceAdd, Int.reduceSub, Int.reduceMul, Int.reduceNeg, wL, g1, g2, w6, h0, hg, l1, l2, l3, etk, e, decide_true, List.length_map, Int.toNat_natCast]) | ((with_reducible refine gcall_eq (hrs) ?_ ?_ ?_); (with_reducible rfl); rfl) | (with_reducible exact drawQ_true _ _ (by kernel_rfl)) | (with_reducible refine And.intro (drawQ_true _ _ (by kernel_rfl)) ?_))
end Go.Proofs.Ytnpclmmmngmdkaa

namespace Go.Proofs.Ytnpclmmmngmdkaa
open Go.Vl Go.RowKit Go.Dg

theorem gN_pos {x y : Int} (h : 0 < y) : gN x y = ((Nat.gcd x.natAbs y.natAbs : Nat) : Int) ∧ 0 < gN x y := by
  have h1 := Nat.gcd_pos_of_pos_right x.natAbs (show 0 < y.natAbs by omega)
  have h2 : gN x y = ((Nat.gcd x.natAbs y.natAbs : Nat) : Int) := by unfold gN; rw [if_neg (by omega)]
  exact ⟨h2, by rw [h2]; omega⟩
theorem low_mul {x y : Int} (h : 0 < y) : lowN x y * gN x y = x ∧ lowD x y * gN x y = y := by
  obtain ⟨e, _⟩ := gN_pos (x := x) h
  have d1 : gN x y ∣ x := by rw [e]; exact Int.ofNat_dvd_left.2 (Nat.gcd_dvd_left _ _)
  have d2 : gN x y ∣ y := by rw [e]; exact Int.ofNat_dvd_left.2 (Nat.gcd_dvd_right _ _)
  exact ⟨Int.ediv_mul_cancel d1, Int.ediv_mul_cancel d2⟩
theorem lowD_pos {x y : Int} (h : 0 < y) : 0 < lowD x y := by
  obtain ⟨_, h1⟩ := gN_pos (x := x) h
  obtain ⟨_, h2⟩ := low_mul (x := x) h
  rw [← h2] at h
  exact Int.pos_of_mul_pos_left h (by omega)
theorem low_cross {x y : Int} (h : 0 < y) : lowN x y * y = x * lowD x y := by
  obtain ⟨h1, h2⟩ := low_mul (x := x) h
  generalize lowN x y = a at *
  generalize lowD x y = b at *
  generalize gN x y = g at *
  subst h1; subst h2
  rw [Int.mul_comm b g, Int.mul_assoc]
theorem low_abs {x y : Int} (h : 0 < y) : (lowN x y).natAbs ≤ x.natAbs ∧ (lowD x y).natAbs ≤ y.natAbs := by
  obtain ⟨h1, h2⟩ := low_mul (x := x) h
  obtain ⟨_, hg⟩ := gN_pos (x := x) h
  generalize lowN x y = a at *
  generalize lowD x y = b at *
  generalize gN x y = g at *
  subst h1; subst h2
  have : 1 ≤ g.natAbs := by omega
  rw [Int.natAbs_mul, Int.natAbs_mul]
  exact ⟨Nat.le_mul_of_pos_right _ this, Nat.le_mul_of_pos_right _ this⟩
theorem big_small {x y : Int} (hx : x.natAbs < 2 ^ 65536) (hy : y.natAbs < 2 ^ 65536) : big x y = false := by
  unfold big
  have h1 := p2_blen hx
  have h2 := p2_blen hy
  rw [decide_eq_false (by omega), decide_eq_false (by omega)]; rfl
/-- The best of two ratios: the least, or the greatest one; the first one of equal ones. A ratio without a denominator is none. -/
def bstep (g : Bool) (b r : Int × Int) : Int × Int := if b.2 = 0 ∨ (if g = true then b.1 * r.2 < r.1 * b.2 else r.1 * b.2 < b.1 * r.2) then r else b
def bestF (g : Bool) (l : List (Int × Int)) : Int × Int := l.foldl (bstep g) (0, 0)
theorem bestF_snoc (g : Bool) (l : List (Int × Int)) (r : Int × Int) : bestF g (l ++ [r]) = bstep g (bestF g l) r := by unfold bestF; rw [List.foldl_append]; rfl
theorem ite_or' {α : Type} (c : Prop) [Decidable c] (a b : α) : (if c then a else b) = b ∨ (if c then a else b) = a := by by_cases h : c <;> simp [h]
theorem bstep_mem (g : Bool) (b r : Int × Int) : bstep g b r = b ∨ bstep g b r = r := ite_or' _ _ _
theorem fold_mem (g : Bool) : ∀ (l : List (Int × Int)) (b : Int × Int), l.foldl (bstep g) b = b ∨ l.foldl (bstep g) b ∈ l
  | [], b => .inl rfl
  | r :: l, b => by
    rw [List.foldl_cons]
    rcases fold_mem g l (bstep g b r) with h | h
    · rw [h]
      rcases bstep_mem g b r with e | e
      · exact .inl e
      · rw [e]; exact .inr (List.mem_cons_self ..)
    · exact .inr (List.mem_cons_of_mem _ h)
theorem bestF_mem (g : Bool) (l : List (Int × Int)) : bestF g l = (0, 0) ∨ bestF g l ∈ l := fold_mem g l (0, 0)
/-- The coefficients of a form, in lowest terms. -/
def coefs (f : List Int) : List (Int × Int) := (List.range f.length).map fun j => (lowN (f.getD j 0) (bin (f.length - 1) j : Int), lowD (f.getD j 0) (bin (f.length - 1) j : Int))
theorem coefs_length (f : List Int) : (coefs f).length = f.length := by simp [coefs]
theorem coefs_get {f : List Int} {j : Nat} (h : j < f.length) : (coefs f)[j]'(by rw [coefs_length]; exact h) = (lowN f[j] (bin (f.length - 1) j : Int), lowD f[j] (bin (f.length - 1) j : Int)) := by
  simp only [coefs, List.getElem_map, List.getElem_range, getD_lt h]
theorem coefs_snoc {f : List Int} {j : Nat} (h : j < f.length) : (coefs f).take (j + 1) = (coefs f).take j ++ [(lowN f[j] (bin (f.length - 1) j : Int), lowD f[j] (bin (f.length - 1) j : Int))] := by
  rw [take_snoc (coefs f) j (by rw [coefs_length]; exact h), coefs_get h]
theorem bin_posI {n j : Nat} (h : j ≤ n) : (0 : Int) < (bin n j : Int) := by have := bin_pos h; omega
theorem coefs_ok {f : List Int} {B : Nat} (hn : f.length ≤ 25) (hf : bd B f) : ∀ r ∈ coefs f, r.1.natAbs < 2 ^ B ∧ r.2.natAbs < 2 ^ 25 ∧ 0 < r.2 := by
  intro r hr
  obtain ⟨j, hj, rfl⟩ := List.mem_map.1 hr
  have hj' := List.mem_range.1 hj
  have hp := bin_posI (n := f.length - 1) (j := j) (by omega)
  have hb := bin_i64 (n := f.length - 1) (k := j) (by omega)
  have h1 := low_abs (x := f.getD j 0) hp
  refine ⟨Nat.lt_of_le_of_lt h1.1 (bd_get hf j), Nat.lt_of_le_of_lt h1.2 ?_, lowD_pos hp⟩
  rw [Int.natAbs_natCast]
  have : (2 : Nat) ^ 25 = 33554432 := rfl
  omega
def okR (B : Nat) (r : Int × Int) : Prop := r.1.natAbs < 2 ^ B ∧ r.2.natAbs < 2 ^ 25 ∧ 0 ≤ r.2
theorem okR_best {g : Bool} {B : Nat} {l : List (Int × Int)} (h : ∀ r ∈ l, r.1.natAbs < 2 ^ B ∧ r.2.natAbs < 2 ^ 25 ∧ 0 < r.2) : okR B (bestF g l) := by
  rcases bestF_mem g l with e | e
  · rw [e]; exact ⟨Nat.pow_pos (by decide), Nat.pow_pos (by decide), Int.le_refl _⟩
  · exact ⟨(h _ e).1, (h _ e).2.1, Int.le_of_lt (h _ e).2.2⟩
theorem step_pos {g : Bool} {b r : Int × Int} (hr : 0 < r.2) : 0 < (bstep g b r).2 ∨ (bstep g b r).2 = b.2 ∧ b.2 ≠ 0 := by
  by_cases h : b.2 = 0
  · unfold bstep
    rw [if_pos (.inl h)]; exact .inl hr
  · rcases bstep_mem g b r with e | e
    · exact .inr ⟨by rw [e], h⟩
    · rw [e]; exact .inl hr
theorem best_pos {g : Bool} {l : List (Int × Int)} (h : ∀ r ∈ l, 0 < r.2) (hl : l ≠ []) : 0 < (bestF g l).2 := by
  have key : ∀ (l : List (Int × Int)) (b : Int × Int), 0 < b.2 → (∀ r ∈ l, 0 < r.2) → 0 < (l.foldl (bstep g) b).2 := by
    intro l
    induction l with
    | nil => intro b hb _; exact hb
    | cons r l ih =>
      intro b hb hr
      rw [List.foldl_cons]
      refine ih _ ?_ fun x hx => hr x (List.mem_cons_of_mem _ hx)
      rcases step_pos (g := g) (b := b) (hr r (List.mem_cons_self ..)) with h1 | h1
      · exact h1
      · rw [h1.1]; exact hb
  match l, hl with
  | r :: l, _ =>
    unfold bestF
    rw [List.foldl_cons]
    have e : bstep g (0, 0) r = r := by unfold bstep; rw [if_pos (.inl rfl)]
    rw [e]
    exact key l r (h r (List.mem_cons_self ..)) fun x hx => h x (List.mem_cons_of_mem _ hx)
theorem ratPV_00 : ratPV 0 0 = .agg [.bool false, .str ⟨#[]⟩, .bool false, .str ⟨#[]⟩] := by unfold ratPV; rw [show magL (0 : Int).natAbs = [] from (magL_nil 0).2 rfl]; rfl
theorem vRat_zero : vRat (decide ((0 : Int) < 0)) (mB 0) (decide ((0 : Int) < 0)) (mB 0) = false := by
  have e : (mB 0).data.toList = [] := (magL_nil 0).2 rfl
  unfold vRat
  rw [e]; simp
/-- One comparison of the calls: the order, or 0 for a ratio that is none. -/
def cmpB (r b : Int × Int) : Int := if b.2 = 0 then 0 else (r.1 * b.2 - b.1 * r.2).sign
def cmpE (b : Int × Int) : Int := if b.2 = 0 then 2 else 0
theorem cmp_v (r b : Int × Int) (hr : r.1.natAbs < 2 ^ 65536 ∧ r.2.natAbs < 2 ^ 65536 ∧ 0 < r.2) (hb : b = (0, 0) ∨ b.1.natAbs < 2 ^ 65536 ∧ b.2.natAbs < 2 ^ 65536 ∧ 0 < b.2) :
    SoundAt Try.prog 61 [ratPV r.1 r.2, ratPV b.1 b.2] (.tup [.int .i64 (cmpB r b), .int .i64 (cmpE b)]) := by
  rcases hb with rfl | hb
  · exact wCompareRatio_no _ _ _ _ (mB r.1) (mB r.2) (mB 0) (mB 0) (by rw [vRat_zero, Bool.and_false]) (mB_size hr.2.1) (by rw [show (mB 0).size = 0 from by rw [ba_size, show (mB 0).data.toList = [] from (magL_nil 0).2 rfl]; rfl]; decide)
  · have h := wCompareRatio_i hr.1 hr.2.1 hb.1 hb.2.1 hr.2.2 hb.2.2
    unfold cmpB cmpE
    rw [if_neg (by omega), if_neg (by omega)]
    exact h
end Go.Proofs.Ytnpclmmmngmdkaa
