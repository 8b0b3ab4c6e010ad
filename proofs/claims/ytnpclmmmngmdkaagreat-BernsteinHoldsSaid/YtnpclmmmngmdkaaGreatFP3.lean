/-
  FP2, Dr, FN1, Bn, FN2, Ds, FP3 (merged for the claim).
-/
import Derived.Test.YtnpclmmmngmdkaaGreatFP1
import Derived.Test.YtnpclmmmngmdkaaGreatFW1
set_option linter.unusedSimpArgs false
set_option linter.unusedVariables false
namespace Go.Proofs.YtnpclmmmngmdkaaGreat
open Go.Vl Go.RowKit Go.Dg

def wA (p : Bool × ByteArray) : PV := .agg [.bool p.1, .str p.2]
theorem wA_get (l : List (Bool × ByteArray)) (i : Nat) (h : i < l.length) : (l.map wA)[i]? = some (.agg [.bool l[i].1, .str l[i].2]) := by
  rw [List.getElem?_map, List.getElem?_eq_getElem h]; rfl
theorem ba_beq (a b : ByteArray) : (a == b) = (a.data == b.data) := rfl
theorem ba_self (b : ByteArray) : (b == b) = true := by rw [ba_beq]; exact beq_self_eq_true _
def wL (xs : List Int) : PV := .slc (xs.map wPV)
def rL (xs : List Int) : PV := .slc (xs.map rI)
def wnP (p : Bool × ByteArray) : Int := wnum p.1 p.2
theorem wPV_get (xs : List Int) (i : Nat) (h : i < xs.length) : (xs.map wPV)[i]? = some (.agg [.bool (decide (xs[i] < 0)), .str (mB xs[i])]) := by
  rw [List.getElem?_map, List.getElem?_eq_getElem h]; rfl
theorem rI_get (xs : List Int) (i : Nat) (h : i < xs.length) : (xs.map rI)[i]? = some (.agg [.bool (decide (xs[i] < 0)), di (digs E9 xs[i].natAbs)]) := by
  rw [List.getElem?_map, List.getElem?_eq_getElem h]; rfl
theorem wA_wPV {l : List (Bool × ByteArray)} (h : l.all (fun p => validB p.1 p.2.data.toList) = true) : l.map wA = (l.map wnP).map wPV := by
  rw [List.map_map]
  refine List.map_congr_left fun p hp => ?_
  exact (wPV_wnum p.1 p.2 (List.all_eq_true.1 h p hp)).symm
theorem wPV_okf (xs : List Int) : (((xs.map wPV).flatMap PV.cells).all PV.okCell) = true := by
  rw [List.all_flatMap, List.all_map, List.all_eq_true]; intro _ _; rfl
theorem rI_okf (xs : List Int) : (((xs.map rI).flatMap PV.cells).all PV.okCell) = true := by
  rw [List.all_flatMap, List.all_map, List.all_eq_true]; intro _ _; rfl
theorem all_snoc {α : Type} {p : α → Bool} {l : List α} {i : Nat} (hi : i < l.length) (h : (l.take i).all p = true) (hp : p l[i] = true) : (l.take (i + 1)).all p = true := by
  rw [List.take_add_one, List.all_append, h]; simp [hi, hp]
theorem all_not {α : Type} {p : α → Bool} {l : List α} {i : Nat} (hi : i < l.length) (hp : p l[i] = false) : l.all p = false := by
  rw [List.all_eq_false]; exact ⟨l[i], List.getElem_mem hi, by simp [hp]⟩
theorem take_snoc {α : Type} (l : List α) (i : Nat) (hi : i < l.length) : l.take (i + 1) = l.take i ++ [l[i]] := by rw [List.take_add_one]; simp [hi]
theorem ltT {i n : Nat} (h : i < n) : ((i : Int) < (n : Int)) = True := by simp only [eq_iff_iff, iff_true]; omega
theorem ltF {i n : Nat} (h : ¬ i < n) : ((i : Int) < (n : Int)) = False := by simp only [eq_iff_iff, iff_false]; omega
theorem leT {i n : Nat} (h : i ≤ n) : ((i : Int) ≤ (n : Int)) = True := by simp only [eq_iff_iff, iff_true]; omega
theorem leF {i n : Nat} (h : ¬ i ≤ n) : ((i : Int) ≤ (n : Int)) = False := by simp only [eq_iff_iff, iff_false]; omega
theorem nnT (i : Nat) : ((0 : Int) ≤ (i : Int)) = True := by simp
/-- A polynomial that is valid. -/
def topB (l : List (Bool × ByteArray)) : Bool := match l[l.length - 1]? with
  | some p => decide (0 < p.2.size)
  | none => true
def validL (l : List (Bool × ByteArray)) : Bool := l.all fun p => validB p.1 p.2.data.toList
def polyB (l : List (Bool × ByteArray)) : Bool := validL l && (decide (l.length ≤ 25) && topB l)
theorem topB_last {l : List (Bool × ByteArray)} (h : l.length - 1 < l.length) : topB l = decide (0 < (l[l.length - 1]'h).2.size) := by
  unfold topB; rw [List.getElem?_eq_getElem h]
theorem rPValid_v (l : List (Bool × ByteArray)) (hl : l.length ≤ 100000) : SoundAt Tryz.prog 23 [.slc (l.map wA)] (.bool (polyB l)) := by
  refine sound_go (tb := []) 35 [.tmp 2] [0, 2, 3, 7, 15] mixed Tryz.func23 rfl (by kernel_rfl) (by kernel_rfl) (by kernel_rfl) (by kernel_rfl) ?_
  simp -implicitDefEqProofs only [go_sem, Nat.reduceAdd, Nat.reduceMul, Nat.reduceEqDiff, Nat.reduceLT, Nat.reduceLeDiff, Nat.reduceSub, Nat.reduceBEq, reduceIte, reduceCtorEq, Int.reduceEq, Int.reduceNe, Nat.reduceBneDiff, Int.reduceLE, Int.reduceLT, Int.reduceToNat, Int.reduceAdd, Int.reduceSub, Int.reduceMul, Int.reduceNeg]
  refine g_loop mixed (fun i : { i : Nat // i ≤ l.length ∧ (l.take i).all (fun p => validB p.1 p.2.data.toList) = true } => St.of [(0, .slc (l.map wA)), (3, .int .i64 (i.1 : Int))] []) (fun i => l.length - i.1) ⟨0, Nat.zero_le _, rfl⟩ ?_ ?_
  · exact le_vars (by simp [varsLe, lkp, ren1, ren0])
  · rintro ⟨i, hi, hall⟩
    by_cases hA : i < l.length
    · have hA' := ltT hA
      have h0 := nnT i
      have hg := wA_get l i hA
      have hwk := wrap_add1 (a := i) (by omega)
      simp -implicitDefEqProofs only [go_sem, Nat.reduceAdd, Nat.reduceMul, Nat.reduceEqDiff, Nat.reduceLT, Nat.reduceLeDiff, Nat.reduceSub, Nat.reduceBEq, reduceIte, reduceCtorEq, Int.reduceEq, Int.reduceNe, Nat.reduceBneDiff, Int.reduceLE, Int.reduceLT, Int.reduceToNat, Int.reduceAdd, Int.reduceSub, Int.reduceMul, Int.reduceNeg, hA', h0, hg, Int.toNat_natCast, List.length_map]
      refine gcall_intro _ _ _ _ _ _ _ _ _ (rvalid_v l[i].1 l[i].2) ?_
      cases hs : validB l[i].1 l[i].2.data.toList with
      | true =>
        simp -implicitDefEqProofs only [go_sem, Nat.reduceAdd, Nat.reduceMul, Nat.reduceEqDiff, Nat.reduceLT, Nat.reduceLeDiff, Nat.reduceSub, Nat.reduceBEq, reduceIte, reduceCtorEq, Int.reduceEq, Int.reduceNe, Nat.reduceBneDiff, Int.reduceLE, Int.reduceLT, Int.reduceToNat, Int.reduceAdd, Int.reduceSub, Int.reduceMul, Int.reduceNeg, hwk]
        exact ⟨⟨i + 1, hA, all_snoc hA hall hs⟩, by simp only; omega, le_vars (by simp [varsLe, lkp, ren1, ren0])⟩
      | false =>
        have e : polyB l = false := by unfold polyB validL; rw [all_not hA hs]; rfl
        simp -implicitDefEqProofs only [go_sem, Nat.reduceAdd, Nat.reduceMul, Nat.reduceEqDiff, Nat.reduceLT, Nat.reduceLeDiff, Nat.reduceSub, Nat.reduceBEq, reduceIte, reduceCtorEq, Int.reduceEq, Int.reduceNe, Nat.reduceBneDiff, Int.reduceLE, Int.reduceLT, Int.reduceToNat, Int.reduceAdd, Int.reduceSub, Int.reduceMul, Int.reduceNeg, e]
    · have hA' := ltF hA
      rw [List.take_of_length_le (by omega)] at hall
      have e0 : polyB l = (decide (l.length ≤ 25) && topB l) := by unfold polyB validL; rw [hall, Bool.true_and]
      rw [e0]
      by_cases h25 : l.length ≤ 25
      · have h25' : ((l.length : Int) ≤ 25) = True := by simp only [eq_iff_iff, iff_true]; omega
        rw [decide_eq_true h25, Bool.true_and]
        by_cases hz : l.length = 0
        · have hz' : ((l.length : Int) == 0) = true := by rw [hz]; rfl
          have ht : topB l = true := by rw [List.length_eq_zero_iff.1 hz]; rfl
          repeat (first | (simp -implicitDefEqProofs only [go_sem, Nat.reduceAdd, Nat.reduceMul, Nat.reduceEqDiff, Nat.reduceLT, Nat.reduceLeDiff, Nat.reduceSub, Nat.reduceBEq, reduceIte, reduceCtorEq, Int.reduceEq, Int.reduceNe, Nat.reduceBneDiff, Int.reduceLE, Int.reduceLT, Int.reduceToNat, Int.reduceAdd, Int.reduceSub, Int.reduceMul, Int.reduceNeg, hA', h25', hz', ht, List.length_map]) | (with_reducible exact drawQ_true _ _ (by kernel_rfl)) | (with_reducible refine And.intro (drawQ_true _ _ (by kernel_rfl)) ?_))
        · have hz' : ((l.length : Int) == 0) = false := by simp only [beq_eq_false_iff_ne, ne_eq]; omega
          have hlt : l.length - 1 < l.length := by omega
          have hg := wA_get l (l.length - 1) hlt
          have hwm : IntKind.i64.wrap ((l.length : Int) - 1) = ((l.length - 1 : Nat) : Int) := by rw [wrap_i64 (by omega) (by omega)]; omega
          have h0 := nnT (l.length - 1)
          have ht := topB_last hlt
          have e5 : decide ((0 : Int) < ((l[l.length - 1].2.size : Nat) : Int)) = decide (0 < l[l.length - 1].2.size) := by simp only [decide_eq_decide]; omega
          repeat (first | (simp -implicitDefEqProofs only [go_sem, Nat.reduceAdd, Nat.reduceMul, Nat.reduceEqDiff, Nat.reduceLT, Nat.reduceLeDiff, Nat.reduceSub, Nat.reduceBEq, reduceIte, reduceCtorEq, Int.reduceEq, Int.reduceNe, Nat.reduceBneDiff, Int.reduceLE, Int.reduceLT, Int.reduceToNat, Int.reduceAdd, Int.reduceSub, Int.reduceMul, Int.reduceNeg, hA', h25', hz', ht, hwm, h0, hg, e5, List.length_map, Int.toNat_natCast]) | (with_reducible exact drawQ_true _ _ (by kernel_rfl)) | (with_reducible refine And.intro (drawQ_true _ _ (by kernel_rfl)) ?_))
      · have h25' : ((l.length : Int) ≤ 25) = False := by simp only [eq_iff_iff, iff_false]; omega
        rw [decide_eq_false h25, Bool.false_and]
        repeat (first | (simp -implicitDefEqProofs only [go_sem, Nat.reduceAdd, Nat.reduceMul, Nat.reduceEqDiff, Nat.reduceLT, Nat.reduceLeDiff, Nat.reduceSub, Nat.reduceBEq, reduceIte, reduceCtorEq, Int.reduceEq, Int.reduceNe, Nat.reduceBneDiff, Int.reduceLE, Int.reduceLT, Int.reduceToNat, Int.reduceAdd, Int.reduceSub, Int.reduceMul, Int.reduceNeg, hA', h25', List.length_map]) | (with_reducible exact drawQ_true _ _ (by kernel_rfl)) | (with_reducible refine And.intro (drawQ_true _ _ (by kernel_rfl)) ?_))
theorem pValid_v (l : List (Bool × ByteArray)) (hl : l.length ≤ 100000) (hs2 : ∀ p ∈ l, p.2.size ≤ 100000) : SoundAt Tryz.prog 69 [.slc (l.map wA)] (.bool (polyB l)) := by
  refine sound_go (tb := []) 33 [.tmp 2] [0, 2, 4, 5, 6, 7, 8, 13] mixed Tryz.func69 rfl (by kernel_rfl) (by kernel_rfl) (by kernel_rfl) (by kernel_rfl) ?_
  simp -implicitDefEqProofs only [go_sem, Nat.reduceAdd, Nat.reduceMul, Nat.reduceEqDiff, Nat.reduceLT, Nat.reduceLeDiff, Nat.reduceSub, Nat.reduceBEq, reduceIte, reduceCtorEq, Int.reduceEq, Int.reduceNe, Nat.reduceBneDiff, Int.reduceLE, Int.reduceLT, Int.reduceToNat, Int.reduceAdd, Int.reduceSub, Int.reduceMul, Int.reduceNeg, List.length_map]
  refine g_loop mixed (fun i : { i : Nat // i ≤ l.length ∧ (l.take i).all (fun p => validB p.1 p.2.data.toList) = true } => St.of [(0, .slc (l.map wA)), (5, .slc (l.map wA)), (6, .int .i64 (l.length : Int)), (7, .int .i64 (i.1 : Int))] []) (fun i => l.length - i.1) ⟨0, Nat.zero_le _, rfl⟩ ?_ ?_
  · exact le_vars (by simp [varsLe, lkp, ren1, ren0])
  · rintro ⟨i, hi, hall⟩
    by_cases hA : i < l.length
    · have hA' := ltT hA
      have h0 := nnT i
      have hg := wA_get l i hA
      have hwk := wrap_add1 (a := i) (by omega)
      simp -implicitDefEqProofs only [go_sem, Nat.reduceAdd, Nat.reduceMul, Nat.reduceEqDiff, Nat.reduceLT, Nat.reduceLeDiff, Nat.reduceSub, Nat.reduceBEq, reduceIte, reduceCtorEq, Int.reduceEq, Int.reduceNe, Nat.reduceBneDiff, Int.reduceLE, Int.reduceLT, Int.reduceToNat, Int.reduceAdd, Int.reduceSub, Int.reduceMul, Int.reduceNeg, hA', h0, hg, Int.toNat_natCast]
      refine gcall_intro _ _ _ _ _ _ _ _ _ (wvalid_v l[i].1 l[i].2) ?_
      cases hs : validB l[i].1 l[i].2.data.toList with
      | true =>
        simp -implicitDefEqProofs only [go_sem, Nat.reduceAdd, Nat.reduceMul, Nat.reduceEqDiff, Nat.reduceLT, Nat.reduceLeDiff, Nat.reduceSub, Nat.reduceBEq, reduceIte, reduceCtorEq, Int.reduceEq, Int.reduceNe, Nat.reduceBneDiff, Int.reduceLE, Int.reduceLT, Int.reduceToNat, Int.reduceAdd, Int.reduceSub, Int.reduceMul, Int.reduceNeg, hwk]
        exact ⟨⟨i + 1, hA, all_snoc hA hall hs⟩, by simp only; omega, le_vars (by simp [varsLe, lkp, ren1, ren0])⟩
      | false =>
        have e : polyB l = false := by unfold polyB validL; rw [all_not hA hs]; rfl
        simp -implicitDefEqProofs only [go_sem, Nat.reduceAdd, Nat.reduceMul, Nat.reduceEqDiff, Nat.reduceLT, Nat.reduceLeDiff, Nat.reduceSub, Nat.reduceBEq, reduceIte, reduceCtorEq, Int.reduceEq, Int.reduceNe, Nat.reduceBneDiff, Int.reduceLE, Int.reduceLT, Int.reduceToNat, Int.reduceAdd, Int.reduceSub, Int.reduceMul, Int.reduceNeg, e]
    · have hA' := ltF hA
      rw [List.take_of_length_le (by omega)] at hall
      have e0 : polyB l = (decide (l.length ≤ 25) && topB l) := by unfold polyB validL; rw [hall, Bool.true_and]
      rw [e0]
      by_cases h25 : l.length ≤ 25
      · have h25' : ((l.length : Int) ≤ 25) = True := by simp only [eq_iff_iff, iff_true]; omega
        rw [decide_eq_true h25, Bool.true_and]
        by_cases hz : l.length = 0
        · have hz' : ((l.length : Int) == 0) = true := by rw [hz]; rfl
          have ht : topB l = true := by rw [List.length_eq_zero_iff.1 hz]; rfl
          repeat (first | (simp -implicitDefEqProofs only [go_sem, Nat.reduceAdd, Nat.reduceMul, Nat.reduceEqDiff, Nat.reduceLT, Nat.reduceLeDiff, Nat.reduceSub, Nat.reduceBEq, reduceIte, reduceCtorEq, Int.reduceEq, Int.reduceNe, Nat.reduceBneDiff, Int.reduceLE, Int.reduceLT, Int.reduceToNat, Int.reduceAdd, Int.reduceSub, Int.reduceMul, Int.reduceNeg, hA', h25', hz', ht, List.length_map]) | (with_reducible exact drawQ_true _ _ (by kernel_rfl)) | (with_reducible refine And.intro (drawQ_true _ _ (by kernel_rfl)) ?_))
        · have hz' : ((l.length : Int) == 0) = false := by simp only [beq_eq_false_iff_ne, ne_eq]; omega
          have hlt : l.length - 1 < l.length := by omega
          have hg := wA_get l (l.length - 1) hlt
          have hwm : IntKind.i64.wrap ((l.length : Int) - 1) = ((l.length - 1 : Nat) : Int) := by rw [wrap_i64 (by omega) (by omega)]; omega
          have h0 := nnT (l.length - 1)
          have hv := List.all_eq_true.1 hall _ (List.getElem_mem hlt)
          have hsg := wSign_v l[l.length - 1].1 l[l.length - 1].2 hv (hs2 _ (List.getElem_mem hlt))
          have e5 : ((wnum l[l.length - 1].1 l[l.length - 1].2).sign != 0) = topB l := by
            rw [topB_last hlt, bne, Bool.eq_iff_iff]
            simp only [Bool.not_eq_true', beq_eq_false_iff_ne, ne_eq, Int.sign_eq_zero_iff_zero, decide_eq_true_eq]
            rw [ba_size]
            constructor
            · intro h
              refine Nat.pos_of_ne_zero fun e => h ?_
              exact wnum_nil (List.length_eq_zero_iff.1 e)
            · intro h
              exact wnum_ne hv (fun e => by rw [e] at h; exact absurd h (by decide))
          repeat (first | (simp -implicitDefEqProofs only [go_sem, Nat.reduceAdd, Nat.reduceMul, Nat.reduceEqDiff, Nat.reduceLT, Nat.reduceLeDiff, Nat.reduceSub, Nat.reduceBEq, reduceIte, reduceCtorEq, Int.reduceEq, Int.reduceNe, Nat.reduceBneDiff, Int.reduceLE, Int.reduceLT, Int.reduceToNat, Int.reduceAdd, Int.reduceSub, Int.reduceMul, Int.reduceNeg, hA', h25', hz', hwm, h0, hg, e5, List.length_map, Int.toNat_natCast]) | ((with_reducible refine gcall_eq (hsg) ?_ ?_ ?_); (with_reducible rfl); rfl) | (with_reducible exact drawQ_true _ _ (by kernel_rfl)) | (with_reducible refine And.intro (drawQ_true _ _ (by kernel_rfl)) ?_))
      · have h25' : ((l.length : Int) ≤ 25) = False := by simp only [eq_iff_iff, iff_false]; omega
        rw [decide_eq_false h25, Bool.false_and]
        repeat (first | (simp -implicitDefEqProofs only [go_sem, Nat.reduceAdd, Nat.reduceMul, Nat.reduceEqDiff, Nat.reduceLT, Nat.reduceLeDiff, Nat.reduceSub, Nat.reduceBEq, reduceIte, reduceCtorEq, Int.reduceEq, Int.reduceNe, Nat.reduceBneDiff, Int.reduceLE, Int.reduceLT, Int.reduceToNat, Int.reduceAdd, Int.reduceSub, Int.reduceMul, Int.reduceNeg, hA', h25', List.length_map]) | (with_reducible exact drawQ_true _ _ (by kernel_rfl)) | (with_reducible refine And.intro (drawQ_true _ _ (by kernel_rfl)) ?_))
/-- Equal lists are the same. -/
theorem rSame_v (xs : List Int) (hl : xs.length ≤ 1000000) : SoundAt Tryz.prog 16 [wL xs, wL xs] (.bool true) := by
  have b1 : ∀ b : Bool, (b == b) = true := fun b => by cases b <;> rfl
  have n1 : ((xs.length : Int) != (xs.length : Int)) = false := by simp
  refine sound_go (tb := []) 26 [.tmp 4] [0, 1, 4, 5, 10, 14, 25] mixed Tryz.func16 rfl (by kernel_rfl) (by kernel_rfl) (by kernel_rfl) (by kernel_rfl) ?_
  simp -implicitDefEqProofs only [go_sem, Nat.reduceAdd, Nat.reduceMul, Nat.reduceEqDiff, Nat.reduceLT, Nat.reduceLeDiff, Nat.reduceSub, Nat.reduceBEq, reduceIte, reduceCtorEq, Int.reduceEq, Int.reduceNe, Nat.reduceBneDiff, Int.reduceLE, Int.reduceLT, Int.reduceToNat, Int.reduceAdd, Int.reduceSub, Int.reduceMul, Int.reduceNeg, wL, List.length_map, n1]
  refine g_loop mixed (fun i : { i : Nat // i ≤ xs.length } => St.of [(0, wL xs), (1, wL xs), (5, .int .i64 (i.1 : Int))] []) (fun i => xs.length - i.1) ⟨0, Nat.zero_le _⟩ ?_ ?_
  · exact le_vars (by simp [varsLe, lkp, ren1, ren0, wL])
  · rintro ⟨i, hi⟩
    by_cases hA : i < xs.length
    · have hA' := ltT hA
      have h0 := nnT i
      have hg := wPV_get xs i hA
      have hwk := wrap_add1 (a := i) (by omega)
      simp -implicitDefEqProofs only [go_sem, Nat.reduceAdd, Nat.reduceMul, Nat.reduceEqDiff, Nat.reduceLT, Nat.reduceLeDiff, Nat.reduceSub, Nat.reduceBEq, reduceIte, reduceCtorEq, Int.reduceEq, Int.reduceNe, Nat.reduceBneDiff, Int.reduceLE, Int.reduceLT, Int.reduceToNat, Int.reduceAdd, Int.reduceSub, Int.reduceMul, Int.reduceNeg, wL, List.length_map, hA', h0, hg, Int.toNat_natCast, b1, ba_self, hwk]
      exact ⟨drawQ_true _ _ (by kernel_rfl), ⟨i + 1, hA⟩, by simp only; omega, le_vars (by simp [varsLe, lkp, ren1, ren0, wL])⟩
    · have hA' := ltF hA
      simp -implicitDefEqProofs only [go_sem, Nat.reduceAdd, Nat.reduceMul, Nat.reduceEqDiff, Nat.reduceLT, Nat.reduceLeDiff, Nat.reduceSub, Nat.reduceBEq, reduceIte, reduceCtorEq, Int.reduceEq, Int.reduceNe, Nat.reduceBneDiff, Int.reduceLE, Int.reduceLT, Int.reduceToNat, Int.reduceAdd, Int.reduceSub, Int.reduceMul, Int.reduceNeg, wL, List.length_map, hA']
theorem rPFrom_v (l : List (Bool × ByteArray)) (hl : l.length ≤ 1000000) (hs : ∀ p ∈ l, p.2.size ≤ 1000000) : SoundAt Tryz.prog 25 [.slc (l.map wA)] (rL (l.map wnP)) := by
  refine sound_go (tb := []) 20 [.tmp 2] [0, 2, 3, 4, 8] mixed Tryz.func25 rfl (by kernel_rfl) (by kernel_rfl) (by kernel_rfl) (by kernel_rfl) ?_
  simp -implicitDefEqProofs only [go_sem, Nat.reduceAdd, Nat.reduceMul, Nat.reduceEqDiff, Nat.reduceLT, Nat.reduceLeDiff, Nat.reduceSub, Nat.reduceBEq, reduceIte, reduceCtorEq, Int.reduceEq, Int.reduceNe, Nat.reduceBneDiff, Int.reduceLE, Int.reduceLT, Int.reduceToNat, Int.reduceAdd, Int.reduceSub, Int.reduceMul, Int.reduceNeg]
  refine g_loop mixed (fun i : { i : Nat // i ≤ l.length } => St.of [(0, .slc (l.map wA)), (3, .bs 7 2 0 i.1), (4, .int .i64 (i.1 : Int))]
    [(7, { els := ((l.take i.1).map wnP).map rI, esz := 2, ety := 37, fro := 0, live := true, arr := true })]) (fun i => l.length - i.1) ⟨0, Nat.zero_le _⟩ ?_ ?_
  · refine le_nil1 3 7 2 37 rfl rfl rfl (by decide) [(7, 7)] rfl ?_ ?_
    · simp [varsLe, lkp, ren1, ren0]
    · simp [boxesLe, lkp, Box.renames]
  · rintro ⟨i, hi⟩
    have hlen : (((l.take i).map wnP).map rI).length = i := by simp; omega
    by_cases hA : i < l.length
    · have hA' := ltT hA
      have h0 := nnT i
      have hg := wA_get l i hA
      have hwk := wrap_add1 (a := i) (by omega)
      have q1 : (i == i) = true := beq_self_eq_true i
      have q2 : ((i + 1) * 32 ≤ 140737488355328) = True := by simp only [eq_iff_iff, iff_true]; omega
      have q3 : (i + 1 ≤ maxLen) = True := by simp only [eq_iff_iff, iff_true]; unfold maxLen; omega
      have hf : SoundAt Tryz.prog 48 [.agg [.bool l[i].1, .str l[i].2]] (rI (wnP l[i])) := rfrom_v l[i].1 l[i].2 (hs _ (List.getElem_mem hA))
      have htk : ((l.take (i + 1)).map wnP).map rI = ((l.take i).map wnP).map rI ++ [rI (wnP l[i])] := by rw [take_snoc l i hA, List.map_append, List.map_append]; rfl
      simp -implicitDefEqProofs only [go_sem, Nat.reduceAdd, Nat.reduceMul, Nat.reduceEqDiff, Nat.reduceLT, Nat.reduceLeDiff, Nat.reduceSub, Nat.reduceBEq, reduceIte, reduceCtorEq, Int.reduceEq, Int.reduceNe, Nat.reduceBneDiff, Int.reduceLE, Int.reduceLT, Int.reduceToNat, Int.reduceAdd, Int.reduceSub, Int.reduceMul, Int.reduceNeg, hA', h0, hg, Int.toNat_natCast, List.length_map]
      refine gcall_intro _ _ _ _ _ _ _ _ _ hf ?_
      simp -implicitDefEqProofs only [go_sem, Nat.reduceAdd, Nat.reduceMul, Nat.reduceEqDiff, Nat.reduceLT, Nat.reduceLeDiff, Nat.reduceSub, Nat.reduceBEq, reduceIte, reduceCtorEq, Int.reduceEq, Int.reduceNe, Nat.reduceBneDiff, Int.reduceLE, Int.reduceLT, Int.reduceToNat, Int.reduceAdd, Int.reduceSub, Int.reduceMul, Int.reduceNeg, rI, di, hlen, q1, q2, q3, rI_okf, hwk]
      refine ⟨⟨i + 1, hA⟩, by simp only; omega, le_of (θ := [(7, 507)]) rfl ?_ ?_⟩
      · simp [varsLe, lkp, ren1, ren0]
      · simp only [htk]
        simp [boxesLe, lkp, Box.renames, rI, di]
    · have hA' := ltF hA
      have e1 : (((l.take i).map wnP).map rI).take i = (l.map wnP).map rI := by
        rw [List.take_of_length_le (by omega), List.take_of_length_le (by omega)]
      simp -implicitDefEqProofs only [go_sem, Nat.reduceAdd, Nat.reduceMul, Nat.reduceEqDiff, Nat.reduceLT, Nat.reduceLeDiff, Nat.reduceSub, Nat.reduceBEq, reduceIte, reduceCtorEq, Int.reduceEq, Int.reduceNe, Nat.reduceBneDiff, Int.reduceLE, Int.reduceLT, Int.reduceToNat, Int.reduceAdd, Int.reduceSub, Int.reduceMul, Int.reduceNeg, hA', hlen, e1, rL, List.length_map]
end Go.Proofs.YtnpclmmmngmdkaaGreat

namespace Go.Dg

/-- The first j of N values; 0 for the others. -/
def upto (F : Nat → Int) (N j : Nat) : List Int := (List.range N).map fun m => if m < j then F m else 0
theorem upto_length (F : Nat → Int) (N j : Nat) : (upto F N j).length = N := by simp [upto]
theorem upto_zero (F : Nat → Int) (N : Nat) : upto F N 0 = List.replicate N 0 := by
  refine List.ext_getElem? fun i => ?_
  simp only [upto, List.getElem?_map, List.getElem?_replicate, Nat.not_lt_zero, if_false]
  by_cases h : i < N
  · simp [h]
  · simp [h]
theorem upto_get (F : Nat → Int) (N j i : Nat) (h : i < N) : (upto F N j)[i]? = some (if i < j then F i else 0) := by
  simp [upto, h]
theorem upto_set (F : Nat → Int) (N j : Nat) (h : j < N) : (upto F N j).set j (F j) = upto F N (j + 1) := by
  refine List.ext_getElem? fun i => ?_
  rw [List.getElem?_set]
  by_cases hi : i < N
  · rw [upto_get _ _ _ _ hi, upto_get _ _ _ _ hi, upto_length]
    by_cases e : j = i
    · subst e; simp [h]
    · rw [if_neg e]
      congr 1
      by_cases h1 : i < j
      · rw [if_pos h1, if_pos (by omega)]
      · rw [if_neg h1, if_neg (by omega)]
  · have e1 : (upto F N j)[i]? = none := List.getElem?_eq_none (by rw [upto_length]; omega)
    have e2 : (upto F N (j + 1))[i]? = none := List.getElem?_eq_none (by rw [upto_length]; omega)
    rw [e1, e2, if_neg (by omega)]
theorem upto_set0 (F : Nat → Int) (N j : Nat) : (upto F N j).set j 0 = upto F N j := by
  refine List.ext_getElem? fun i => ?_
  rw [List.getElem?_set]
  by_cases e : j = i
  · subst e
    by_cases hi : j < N
    · rw [if_pos rfl, upto_length, if_pos hi, upto_get _ _ _ _ hi, if_neg (Nat.lt_irrefl _)]
    · rw [if_pos rfl, upto_length, if_neg hi, List.getElem?_eq_none (by rw [upto_length]; omega)]
  · rw [if_neg e]
theorem upto_full (F : Nat → Int) (N j : Nat) (h : N ≤ j) : upto F N j = (List.range N).map F := by
  refine List.map_congr_left fun m hm => ?_
  rw [if_pos (Nat.lt_of_lt_of_le (List.mem_range.1 hm) h)]
theorem sm_abs {f : Nat → Int} {C : Nat} : ∀ (m : Nat), (∀ i, i < m → (f i).natAbs ≤ C) → (sm f m).natAbs ≤ m * C
  | 0, _ => by simp [sm]
  | m + 1, h => by
    have h1 := sm_abs m (fun i hi => h i (by omega))
    have h2 := h m (Nat.lt_succ_self m)
    rw [sm, Nat.succ_mul]
    omega
theorem getD_abs {xs : List Int} {B : Nat} (h : ∀ x ∈ xs, x.natAbs < 2 ^ B) (i : Nat) : (xs.getD i 0).natAbs < 2 ^ B := by
  rw [List.getD_eq_getElem?_getD]
  cases e : xs[i]? with
  | none => exact Nat.pow_pos (by decide)
  | some x => exact h x (List.mem_of_getElem? e)
/-- A sum of products with binomials is not much greater. -/
theorem sm_bin_lt {g : Nat → Int} {B n m : Nat} (hn : n ≤ 24) (hm : m ≤ 25) (h : ∀ i, i < m → (g i).natAbs ≤ 2 ^ B * 2 ^ n) : (sm g m).natAbs < 2 ^ (B + 29) := by
  have h1 := sm_abs m h
  have h2 : m * (2 ^ B * 2 ^ n) ≤ 25 * (2 ^ B * 2 ^ 24) := Nat.mul_le_mul hm (Nat.mul_le_mul_left _ (Nat.pow_le_pow_right (by decide) hn))
  have hp : 0 < 2 ^ B := Nat.pow_pos (by decide)
  rw [Nat.pow_add]
  generalize 2 ^ B = K at *
  have e : (2 : Nat) ^ 24 = 16777216 := rfl
  have e2 : (2 : Nat) ^ 29 = 536870912 := rfl
  rw [e] at h2
  rw [e2]
  omega
theorem mul_bin_le {x : Int} {B n k : Nat} (h : x.natAbs < 2 ^ B) : (x * (bin n k : Int)).natAbs ≤ 2 ^ B * 2 ^ n := by
  rw [Int.natAbs_mul, Int.natAbs_natCast]
  exact Nat.mul_le_mul (Nat.le_of_lt h) (bin_le_pow n k)
theorem bin_stepN {n k : Nat} (h : k ≤ n) : bin n k * (n - k) = bin n (k + 1) * (k + 1) := by
  have h1 := bin_step n k
  have e : ((n - k : Nat) : Int) = (n : Int) - (k : Int) := by omega
  rw [← e] at h1
  have h2 : ((bin n (k + 1) * (k + 1) : Nat) : Int) = ((bin n k * (n - k) : Nat) : Int) := by rw [Int.natCast_mul, Int.natCast_mul, ← h1]; rfl
  omega
/-- Bits of the greatest. -/
def bitsF (bl : Nat → Nat) (xs : List Int) : Nat := xs.foldl (fun n x => if n < bl x.natAbs then bl x.natAbs else n) 0
theorem bitsF_snoc (bl : Nat → Nat) (xs : List Int) (x : Int) : bitsF bl (xs ++ [x]) = if bitsF bl xs < bl x.natAbs then bl x.natAbs else bitsF bl xs := by
  rw [bitsF, List.foldl_append]; rfl
theorem foldl_max_le (bl : Nat → Nat) (C : Nat) : ∀ (xs : List Int) (a : Nat), a ≤ C → (∀ x ∈ xs, bl x.natAbs ≤ C) → xs.foldl (fun n x => if n < bl x.natAbs then bl x.natAbs else n) a ≤ C
  | [], a, ha, _ => ha
  | x :: xs, a, ha, h => by
    rw [List.foldl_cons]
    refine foldl_max_le bl C xs _ ?_ fun y hy => h y (by simp [hy])
    split
    · exact h x (by simp)
    · exact ha
theorem bitsF_le {bl : Nat → Nat} {xs : List Int} {C : Nat} (h : ∀ x ∈ xs, bl x.natAbs ≤ C) : bitsF bl xs ≤ C := foldl_max_le bl C xs 0 (Nat.zero_le _) h
end Go.Dg

namespace Go.Proofs.YtnpclmmmngmdkaaGreat
open Go.Vl Go.RowKit Go.Dg

/-- At most 8 or 26 integers of at most 8 bytes. -/
def smallB (l : List (Bool × ByteArray)) : Bool := (l.all fun p => decide (p.2.size ≤ 8)) && (decide (l.length ≤ 8) || ((l.length : Int) == 26))
theorem small_v (l : List (Bool × ByteArray)) (hl : l.length ≤ maxLen) : SoundAt Tryz.prog 8 [.slc (l.map wA)] (.bool (smallB l)) := by
  unfold maxLen at hl
  refine sound_go (tb := []) 24 [.tmp 2] [0, 2, 4, 5, 6, 7, 8, 14] mixed Tryz.func8 rfl (by kernel_rfl) (by kernel_rfl) (by kernel_rfl) (by kernel_rfl) ?_
  simp -implicitDefEqProofs only [go_sem, Nat.reduceAdd, Nat.reduceMul, Nat.reduceEqDiff, Nat.reduceLT, Nat.reduceLeDiff, Nat.reduceSub, Nat.reduceBEq, reduceIte, reduceCtorEq, Int.reduceEq, Int.reduceNe, Nat.reduceBneDiff, Int.reduceLE, Int.reduceLT, Int.reduceToNat, Int.reduceAdd, Int.reduceSub, Int.reduceMul, Int.reduceNeg, List.length_map]
  refine g_loop mixed (fun i : { i : Nat // i ≤ l.length ∧ (l.take i).all (fun p => decide (p.2.size ≤ 8)) = true } => St.of [(0, .slc (l.map wA)), (5, .slc (l.map wA)), (6, .int .i64 (l.length : Int)), (7, .int .i64 (i.1 : Int))] []) (fun i => l.length - i.1) ⟨0, Nat.zero_le _, rfl⟩ ?_ ?_
  · exact le_vars (by simp [varsLe, lkp, ren1, ren0])
  · rintro ⟨i, hi, hall⟩
    by_cases hA : i < l.length
    · have hA' := ltT hA
      have h0 := nnT i
      have hg := wA_get l i hA
      have hwk := wrap_add1 (a := i) (by omega)
      by_cases hs : l[i].2.size ≤ 8
      · have hs' : ((8 : Int) < (l[i].2.size : Int)) = False := by simp only [eq_iff_iff, iff_false]; omega
        simp -implicitDefEqProofs only [go_sem, Nat.reduceAdd, Nat.reduceMul, Nat.reduceEqDiff, Nat.reduceLT, Nat.reduceLeDiff, Nat.reduceSub, Nat.reduceBEq, reduceIte, reduceCtorEq, Int.reduceEq, Int.reduceNe, Nat.reduceBneDiff, Int.reduceLE, Int.reduceLT, Int.reduceToNat, Int.reduceAdd, Int.reduceSub, Int.reduceMul, Int.reduceNeg, hA', h0, hg, Int.toNat_natCast, hs', hwk]
        exact ⟨⟨i + 1, hA, all_snoc hA hall (by simp [hs])⟩, by simp only; omega, le_vars (by simp [varsLe, lkp, ren1, ren0])⟩
      · have hs' : ((8 : Int) < (l[i].2.size : Int)) = True := by simp only [eq_iff_iff, iff_true]; omega
        have e : smallB l = false := by unfold smallB; rw [all_not (p := fun p => decide (p.2.size ≤ 8)) hA (by simp only [decide_eq_false_iff_not]; exact hs)]; rfl
        simp -implicitDefEqProofs only [go_sem, Nat.reduceAdd, Nat.reduceMul, Nat.reduceEqDiff, Nat.reduceLT, Nat.reduceLeDiff, Nat.reduceSub, Nat.reduceBEq, reduceIte, reduceCtorEq, Int.reduceEq, Int.reduceNe, Nat.reduceBneDiff, Int.reduceLE, Int.reduceLT, Int.reduceToNat, Int.reduceAdd, Int.reduceSub, Int.reduceMul, Int.reduceNeg, hA', h0, hg, Int.toNat_natCast, hs', e]
    · have hA' := ltF hA
      rw [List.take_of_length_le (by omega)] at hall
      have e0 : smallB l = (decide (l.length ≤ 8) || ((l.length : Int) == 26)) := by unfold smallB; rw [hall, Bool.true_and]
      rw [e0]
      by_cases h8 : l.length ≤ 8
      · have h8' : ((l.length : Int) ≤ 8) = True := by simp only [eq_iff_iff, iff_true]; omega
        rw [decide_eq_true h8, Bool.true_or]
        repeat (first | (simp -implicitDefEqProofs only [go_sem, Nat.reduceAdd, Nat.reduceMul, Nat.reduceEqDiff, Nat.reduceLT, Nat.reduceLeDiff, Nat.reduceSub, Nat.reduceBEq, reduceIte, reduceCtorEq, Int.reduceEq, Int.reduceNe, Nat.reduceBneDiff, Int.reduceLE, Int.reduceLT, Int.reduceToNat, Int.reduceAdd, Int.reduceSub, Int.reduceMul, Int.reduceNeg, hA', h8', List.length_map]) | (with_reducible exact drawQ_true _ _ (by kernel_rfl)) | (with_reducible refine And.intro (drawQ_true _ _ (by kernel_rfl)) ?_))
      · have h8' : ((l.length : Int) ≤ 8) = False := by simp only [eq_iff_iff, iff_false]; omega
        rw [decide_eq_false h8, Bool.false_or]
        repeat (first | (simp -implicitDefEqProofs only [go_sem, Nat.reduceAdd, Nat.reduceMul, Nat.reduceEqDiff, Nat.reduceLT, Nat.reduceLeDiff, Nat.reduceSub, Nat.reduceBEq, reduceIte, reduceCtorEq, Int.reduceEq, Int.reduceNe, Nat.reduceBneDiff, Int.reduceLE, Int.reduceLT, Int.reduceToNat, Int.reduceAdd, Int.reduceSub, Int.reduceMul, Int.reduceNeg, hA', h8', List.length_map]) | (with_reducible exact drawQ_true _ _ (by kernel_rfl)) | (with_reducible refine And.intro (drawQ_true _ _ (by kernel_rfl)) ?_))
theorem size_v (xs : List Int) (hl : xs.length ≤ 1000000) (hx : ∀ x ∈ xs, x.natAbs < 2 ^ 65536) : SoundAt Tryz.prog 40 [wL xs] (.int .i64 (bitsF blen xs : Int)) := by
  refine sound_go (tb := []) 18 [.tmp 2] [0, 2, 3, 5, 6, 7, 8, 9] mixed Tryz.func40 rfl (by kernel_rfl) (by kernel_rfl) (by kernel_rfl) (by kernel_rfl) ?_
  simp -implicitDefEqProofs only [go_sem, Nat.reduceAdd, Nat.reduceMul, Nat.reduceEqDiff, Nat.reduceLT, Nat.reduceLeDiff, Nat.reduceSub, Nat.reduceBEq, reduceIte, reduceCtorEq, Int.reduceEq, Int.reduceNe, Nat.reduceBneDiff, Int.reduceLE, Int.reduceLT, Int.reduceToNat, Int.reduceAdd, Int.reduceSub, Int.reduceMul, Int.reduceNeg, wL, List.length_map]
  refine g_loop mixed (fun i : { i : Nat // i ≤ xs.length } => St.of [(3, .int .i64 (bitsF blen (xs.take i.1) : Int)), (6, wL xs), (7, .int .i64 (xs.length : Int)), (8, .int .i64 (i.1 : Int))] []) (fun i => xs.length - i.1) ⟨0, Nat.zero_le _⟩ ?_ ?_
  · exact le_vars (by simp [varsLe, lkp, ren1, ren0, wL, bitsF])
  · rintro ⟨i, hi⟩
    by_cases hA : i < xs.length
    · have hA' := ltT hA
      have h0 := nnT i
      have hg := wPV_get xs i hA
      have hwk := wrap_add1 (a := i) (by omega)
      have hL := wLen_i (hx _ (List.getElem_mem hA))
      have e := bitsF_snoc blen (xs.take i) xs[i]
      rw [← take_snoc xs i hA] at e
      by_cases hlt : bitsF blen (xs.take i) < blen xs[i].natAbs
      · rw [if_pos hlt] at e
        have hlt' := ltT hlt
        repeat (first | (simp -implicitDefEqProofs only [go_sem, Nat.reduceAdd, Nat.reduceMul, Nat.reduceEqDiff, Nat.reduceLT, Nat.reduceLeDiff, Nat.reduceSub, Nat.reduceBEq, reduceIte, reduceCtorEq, Int.reduceEq, Int.reduceNe, Nat.reduceBneDiff, Int.reduceLE, Int.reduceLT, Int.reduceToNat, Int.reduceAdd, Int.reduceSub, Int.reduceMul, Int.reduceNeg, wL, hA', h0, hg, Int.toNat_natCast, hwk, hlt']) | ((with_reducible refine gcall_eq (hL) ?_ ?_ ?_); (with_reducible rfl); rfl) | (with_reducible exact drawQ_true _ _ (by kernel_rfl)) | (with_reducible refine And.intro (drawQ_true _ _ (by kernel_rfl)) ?_))
        refine ⟨⟨i + 1, hA⟩, by simp only; omega, le_vars (by simp [varsLe, lkp, ren1, ren0, wL, e])⟩
      · rw [if_neg hlt] at e
        have hlt' := ltF hlt
        repeat (first | (simp -implicitDefEqProofs only [go_sem, Nat.reduceAdd, Nat.reduceMul, Nat.reduceEqDiff, Nat.reduceLT, Nat.reduceLeDiff, Nat.reduceSub, Nat.reduceBEq, reduceIte, reduceCtorEq, Int.reduceEq, Int.reduceNe, Nat.reduceBneDiff, Int.reduceLE, Int.reduceLT, Int.reduceToNat, Int.reduceAdd, Int.reduceSub, Int.reduceMul, Int.reduceNeg, wL, hA', h0, hg, Int.toNat_natCast, hwk, hlt']) | ((with_reducible refine gcall_eq (hL) ?_ ?_ ?_); (with_reducible rfl); rfl) | (with_reducible exact drawQ_true _ _ (by kernel_rfl)) | (with_reducible refine And.intro (drawQ_true _ _ (by kernel_rfl)) ?_))
        refine ⟨⟨i + 1, hA⟩, by simp only; omega, le_vars (by simp [varsLe, lkp, ren1, ren0, wL, e])⟩
    · have hA' := ltF hA
      rw [List.take_of_length_le (show xs.length ≤ i by omega)]
      simp -implicitDefEqProofs only [go_sem, Nat.reduceAdd, Nat.reduceMul, Nat.reduceEqDiff, Nat.reduceLT, Nat.reduceLeDiff, Nat.reduceSub, Nat.reduceBEq, reduceIte, reduceCtorEq, Int.reduceEq, Int.reduceNe, Nat.reduceBneDiff, Int.reduceLE, Int.reduceLT, Int.reduceToNat, Int.reduceAdd, Int.reduceSub, Int.reduceMul, Int.reduceNeg, wL, hA']
theorem wrap_sub {a b : Nat} (h : b ≤ a) (ha : a < 9223372036854775808) : IntKind.i64.wrap ((a : Int) - (b : Int)) = ((a - b : Nat) : Int) := by rw [wrap_i64 (by omega) (by omega)]; omega
theorem ne0 (a : Nat) : (((a + 1 : Nat) : Int) = 0) = False := by simp only [eq_iff_iff, iff_false]; omega
theorem bin_bound {n i m : Nat} (hn : n ≤ 50) (hm : m ≤ 50) : bin n i * m < 9223372036854775808 := by
  have h1 := bin_le_pow n i
  have h2 : 2 ^ n ≤ 2 ^ 50 := Nat.pow_le_pow_right (by decide) hn
  have h3 : bin n i * m ≤ 2 ^ 50 * 50 := Nat.mul_le_mul (Nat.le_trans h1 h2) hm
  have e : (2 : Nat) ^ 50 * 50 = 56294995342131200 := rfl
  omega
theorem ways_v (n k : Nat) (hk : k ≤ n) (hn : n ≤ 50) : SoundAt Tryz.prog 41 [.int .i64 (n : Int), .int .i64 (k : Int)] (.int .i64 (bin n k : Int)) := by
  refine sound_go (tb := []) 21 [.tmp 4] [0, 1, 4, 5, 6, 7, 8, 9] mixed Tryz.func41 rfl (by kernel_rfl) (by kernel_rfl) (by kernel_rfl) (by kernel_rfl) ?_
  simp -implicitDefEqProofs only [go_sem, Nat.reduceAdd, Nat.reduceMul, Nat.reduceEqDiff, Nat.reduceLT, Nat.reduceLeDiff, Nat.reduceSub, Nat.reduceBEq, reduceIte, reduceCtorEq, Int.reduceEq, Int.reduceNe, Nat.reduceBneDiff, Int.reduceLE, Int.reduceLT, Int.reduceToNat, Int.reduceAdd, Int.reduceSub, Int.reduceMul, Int.reduceNeg]
  refine g_loop mixed (fun i : { i : Nat // i ≤ k } => St.of [(0, .int .i64 (n : Int)), (5, .int .i64 (bin n i.1 : Int)), (7, .int .i64 (k : Int)), (8, .int .i64 (i.1 : Int))] []) (fun i => k - i.1) ⟨0, Nat.zero_le _⟩ ?_ ?_
  · exact le_vars (by simp [varsLe, lkp, ren1, ren0, bin_zero])
  · rintro ⟨i, hi⟩
    by_cases hA : i < k
    · have hA' := ltT hA
      have hwk := wrap_add1 (a := i) (by omega)
      have w1 := wrap_sub (a := n) (b := i) (by omega) (by omega)
      have hb := bin_bound (n := n) (i := i) (m := n - i) hn (by omega)
      have w2 : IntKind.i64.wrap ((bin n i : Int) * ((n - i : Nat) : Int)) = ((bin n i * (n - i) : Nat) : Int) := by rw [← Int.natCast_mul]; exact wrapn hb
      have e : bin n i * (n - i) / (i + 1) = bin n (i + 1) := by rw [bin_stepN (by omega), Nat.mul_div_cancel _ (Nat.succ_pos i)]
      have t := tdivN (bin n i * (n - i)) (i + 1)
      rw [e] at t
      have hz := ne0 i
      have w3 : IntKind.i64.wrap (bin n (i + 1) : Int) = (bin n (i + 1) : Int) := wrapn (by have := bin_bound (n := n) (i := i + 1) (m := 1) hn (by decide); omega)
      simp -implicitDefEqProofs only [go_sem, Nat.reduceAdd, Nat.reduceMul, Nat.reduceEqDiff, Nat.reduceLT, Nat.reduceLeDiff, Nat.reduceSub, Nat.reduceBEq, reduceIte, reduceCtorEq, Int.reduceEq, Int.reduceNe, Nat.reduceBneDiff, Int.reduceLE, Int.reduceLT, Int.reduceToNat, Int.reduceAdd, Int.reduceSub, Int.reduceMul, Int.reduceNeg, hA', hwk, w1, w2, hz, t, w3]
      exact ⟨⟨i + 1, hA⟩, by simp only; omega, le_vars (by simp [varsLe, lkp, ren1, ren0])⟩
    · have hA' := ltF hA
      obtain rfl : i = k := by omega
      simp -implicitDefEqProofs only [go_sem, Nat.reduceAdd, Nat.reduceMul, Nat.reduceEqDiff, Nat.reduceLT, Nat.reduceLeDiff, Nat.reduceSub, Nat.reduceBEq, reduceIte, reduceCtorEq, Int.reduceEq, Int.reduceNe, Nat.reduceBneDiff, Int.reduceLE, Int.reduceLT, Int.reduceToNat, Int.reduceAdd, Int.reduceSub, Int.reduceMul, Int.reduceNeg, hA']
theorem plus_v (s w b : Int) (b1 : -9223372036854775808 ≤ b) (b2 : b ≤ 9223372036854775807) (hs : s.natAbs < 2 ^ 65536) (hw : w.natAbs < 2 ^ 65536) (hm : (w * b).natAbs < 2 ^ 65536) (hr : (s + w * b).natAbs < 2 ^ 65536) :
    SoundAt Tryz.prog 42 [wPV s, wPV w, .int .i64 b] (wPV (s + w * b)) := by
  have h1 := wOf_v b b1 b2
  have h2 := wMul_i hw (y := b) (p2_16 (B := 64) (by have : (2 : Nat) ^ 64 = 18446744073709551616 := rfl; omega) (by decide))
  rw [outPV_ok hm] at h2
  have h3 := wAdd_i hs hm
  rw [outPV_ok hr] at h3
  generalize w * b = M at *
  generalize s + M = R at *
  refine sound_go (tb := []) 21 [.cell 6 30] [0, 1, 2, 3, 4, 6] mixed Tryz.func42 rfl (by kernel_rfl) (by kernel_rfl) (by kernel_rfl) (by kernel_rfl) ?_
  repeat (first | (simp -implicitDefEqProofs only [go_sem, Nat.reduceAdd, Nat.reduceMul, Nat.reduceEqDiff, Nat.reduceLT, Nat.reduceLeDiff, Nat.reduceSub, Nat.reduceBEq, reduceIte, reduceCtorEq, Int.reduceEq, Int.reduceNe, Nat.reduceBneDiff, Int.reduceLE, Int.reduceLT, Int.reduceToNat, Int.reduceAdd, Int.reduceSub, Int.reduceMul, Int.reduceNeg, wPV]) | ((with_reducible refine gcall_eq (h1) ?_ ?_ ?_); (with_reducible rfl); rfl) | ((with_reducible refine gcall_eq (h2) ?_ ?_ ?_); (with_reducible rfl); rfl) | ((with_reducible refine gcall_eq (h3) ?_ ?_ ?_); (with_reducible rfl); rfl) | (with_reducible exact drawQ_true _ _ (by kernel_rfl)) | (with_reducible refine And.intro (drawQ_true _ _ (by kernel_rfl)) ?_))
end Go.Proofs.YtnpclmmmngmdkaaGreat

namespace Go.Vl

def nilUp0 : PV → PV
  | .nilS => .slc []
  | v => v
def nilUp : PV → PV
  | .agg cs => .agg (cs.map nilUp0)
  | v => nilUp0 v
theorem nilUp_cells (v : PV) : (nilUp v).cells = v.cells.map nilUp0 := by
  cases v <;> rfl
theorem nilUp_flat (l : List PV) : (l.map nilUp).flatMap PV.cells = (l.flatMap PV.cells).map nilUp0 := by
  induction l with
  | nil => rfl
  | cons v l ih => simp only [List.map_cons, List.flatMap_cons, List.map_append, nilUp_cells, ih]
theorem Rep.up {w : World} {im : Im} {v : PV} {u : Value} (h : Rep w im v u) : Rep w im (nilUp0 v) u := by
  cases v with
  | nilS => cases h; exact .slcNil 0 (Nat.zero_le _)
  | _ => exact h
theorem LR.up {w : World} {im : Im} {ρ : Rho} {v : PV} {u : Value} (h : LR w im ρ v u) : LR w im ρ (nilUp0 v) u := by
  cases v with
  | nilS => rw [h.nilS_inv]; exact .ext _ _ (.slcNil 0 (Nat.zero_le _))
  | _ => exact h
theorem RepL.up {w : World} {im : Im} : ∀ {vs : List PV} {us : List Value}, RepL w im vs us → RepL w im (vs.map nilUp0) us
  | _, _, .nil => .nil
  | _, _, .cons _ _ _ _ h t => .cons _ _ _ _ h.up t.up
theorem LRL.up {w : World} {im : Im} {ρ : Rho} : ∀ {vs : List PV} {us : List Value}, LRL w im ρ vs us → LRL w im ρ (vs.map nilUp0) us
  | _, _, .nil => .nil
  | _, _, .cons _ _ _ _ h t => .cons _ _ _ _ h.up t.up
theorem BoxAt.up {own : Nat → Prop} {w : World} {im : Im} {ρ : Rho} {B : Box} {x : Option Nat} (h : BoxAt own w im ρ B x) : BoxAt own w im ρ { B with els := B.els.map nilUp } x := by
  cases x with
  | none => obtain ⟨h1, h2, h3, h4⟩ := h; exact ⟨by simp [h1], h2, h3, h4⟩
  | some g =>
    obtain ⟨h1, h2, h3, h4, cur, us, rest, h5, h6, h7, h8, h9, h10, h11⟩ := h
    refine ⟨h1, by simpa using h2, h3, ?_, cur, us, rest, h5, h6, ?_, ?_, h9, h10, h11⟩
    · intro e he
      obtain ⟨v, hv, rfl⟩ := List.mem_map.1 he
      rw [nilUp_cells, List.length_map]; exact h4 v hv
    · simp only [nilUp_flat]; exact h7.up
    · intro ha; simp only [nilUp_flat]; exact (h8 ha).up
theorem le_up {st : St} {b : Nat} {B : Box} (hB : st.box b = some B) : Le st (st.setBox b { B with els := B.els.map nilUp }) := by
  rintro C a w ⟨ρ, im, h⟩
  refine ⟨ρ, im, h.root, h.nt, h.dfr, h.imc, h.var, ?_, ?_, ?_⟩
  · intro b'
    by_cases e : b' = b
    · subst e; simp [St.setBox, upd_same, h.rho b', hB]
    · simp [St.setBox, upd_other _ _ _ _ e, h.rho b']
  · intro b' x B' hx hB'
    by_cases e : b' = b
    · subst e
      simp only [St.setBox, upd_same, Option.some.injEq] at hB'
      subst hB'
      exact (h.box b' x B hx hB).up
    · simp only [St.setBox, upd_other _ _ _ _ e] at hB'
      exact h.box b' x B' hx hB'
  · have key : ∀ b' B', (st.setBox b { B with els := B.els.map nilUp }).box b' = some B' → ∃ B0, st.box b' = some B0 ∧ B0.live = B'.live := fun b' B' e => by
      by_cases y : b' = b
      · subst y
        simp only [St.setBox, upd_same, Option.some.injEq] at e
        subst e; exact ⟨B, hB, rfl⟩
      · exact ⟨B', by simpa only [St.setBox, upd_other _ _ _ _ y] using e, rfl⟩
    intro b1 b2 g B1 B2 g1 g2 e1 e2 l1 l2
    obtain ⟨C1, x1, y1⟩ := key _ _ e1
    obtain ⟨C2, x2, y2⟩ := key _ _ e2
    exact h.inj b1 b2 g C1 C2 g1 g2 x1 x2 (y1.trans l1) (y2.trans l2)
theorem le_upG {vs : List (Nat × PV)} {bs : List (Nat × Box)} {o : List (List PV)} {y : Yl} (b : Nat) {B : Box} (hB : lkp bs b = some B) :
    Le (St.ofG vs bs o y) (St.ofG vs ((b, { B with els := B.els.map nilUp }) :: bs) o y) := le_up (st := St.ofG vs bs o y) hB
end Go.Vl

namespace Go.Proofs.YtnpclmmmngmdkaaGreat
open Go.Vl Go.RowKit Go.Dg

theorem wset (l : List Int) (j : Nat) (v : Int) : (l.map wPV).set j (.agg [.bool (decide (v < 0)), .str (mB v)]) = (l.set j v).map wPV := by rw [List.map_set]; rfl
theorem wzero (N : Nat) : List.replicate N (PV.agg [.bool false, .str ⟨#[]⟩]) = (List.replicate N 0).map wPV := by rw [List.map_replicate, wPV_zero]
theorem rI_z : rI 0 = .agg [.bool false, .slc []] := by simp [rI, di, digs_zero]
theorem wget' {l : List Int} {j : Nat} {v : Int} (h : l[j]? = some v) : (l.map wPV)[j]? = some (.agg [.bool (decide (v < 0)), .str (mB v)]) := by rw [List.getElem?_map, h]; rfl
theorem getD_lt {xs : List Int} {i : Nat} (h : i < xs.length) : xs.getD i 0 = xs[i] := by rw [List.getD_eq_getElem?_getD, List.getElem?_eq_getElem h]; rfl
theorem getD_ge {xs : List Int} {i : Nat} (h : ¬ i < xs.length) : xs.getD i 0 = 0 := by rw [List.getD_eq_getElem?_getD, List.getElem?_eq_none (by omega)]; rfl
theorem bin_i64 {n k : Nat} (hn : n ≤ 24) : bin n k ≤ 16777216 := Nat.le_trans (bin_le_pow n k) (Nat.le_trans (Nat.pow_le_pow_right (by decide) hn) (by decide))
/-- The terms of a form. -/
def fterm (xs : List Int) (n j i : Nat) : Int := xs.getD i 0 * (1 ^ (j - i) * (bin (n - i) (j - i) : Int))
theorem fterm_abs {xs : List Int} {B : Nat} (hx : ∀ x ∈ xs, x.natAbs < 2 ^ B) (n j i : Nat) : (fterm xs n j i).natAbs ≤ 2 ^ B * 2 ^ n := by
  unfold fterm
  rw [Int.one_pow, Int.one_mul]
  exact Nat.le_trans (mul_bin_le (getD_abs hx i)) (Nat.mul_le_mul_left _ (Nat.pow_le_pow_right (by decide) (Nat.sub_le _ _)))
theorem fterm_eq {xs : List Int} {n j i : Nat} (h : i < xs.length) : fterm xs n j i = xs[i] * (bin (n - i) (j - i) : Int) := by
  unfold fterm; rw [Int.one_pow, Int.one_mul, getD_lt h]
theorem of_v (xs : List Int) (n B : Nat) (hn : n ≤ 24) (hl : xs.length ≤ 1000) (hB : B + 29 ≤ 65536) (hx : ∀ x ∈ xs, x.natAbs < 2 ^ B) : SoundAt Tryz.prog 60 [wL xs, .int .i64 (n : Int)] (wL (trans xs 1 n)) := by
  have w1 := wrap_add1 (a := n) (by omega)
  have m1 : ((24 : Nat) : Int) * ((n + 1 : Nat) : Int) ≤ 281474976710656 := by omega
  have m2 : ((n + 1 : Nat) : Int) ≤ 9223372036854775807 := by omega
  have m3 := nnT (n + 1)
  obtain ⟨F, hF⟩ : ∃ F : Nat → Int, F = fun j => sm (fterm xs n j) (j + 1) := ⟨_, rfl⟩
  refine sound_go (tb := []) 48 [.tmp 4] [0, 1, 4, 5, 6, 7, 12, 13, 14, 24] mixed Tryz.func60 rfl (by kernel_rfl) (by kernel_rfl) (by kernel_rfl) (by kernel_rfl) ?_
  simp -implicitDefEqProofs only [go_sem, Nat.reduceAdd, Nat.reduceMul, Nat.reduceEqDiff, Nat.reduceLT, Nat.reduceLeDiff, Nat.reduceSub, Nat.reduceBEq, reduceIte, reduceCtorEq, Int.reduceEq, Int.reduceNe, Nat.reduceBneDiff, Int.reduceLE, Int.reduceLT, Int.reduceToNat, Int.reduceAdd, Int.reduceSub, Int.reduceMul, Int.reduceNeg, wL, w1, m1, m2, m3, Int.toNat_natCast, wzero]
  rw [← upto_zero F]
  refine g_loop mixed (fun j : { j : Nat // j ≤ n + 1 } => St.of [(0, wL xs), (1, .int .i64 (n : Int)), (5, .bs 102 2 0 (n + 1)), (12, .int .i64 ((n + 1 : Nat) : Int)), (13, .int .i64 (j.1 : Int))]
    [(102, { els := (upto F (n + 1) j.1).map wPV, esz := 2, ety := 30, fro := 0, live := true, arr := true })]) (fun j => n + 1 - j.1) ⟨0, Nat.zero_le _⟩ ?_ ?_
  · refine le_of (θ := [(102, 102)]) rfl ?_ ?_
    · simp [varsLe, lkp, ren1, ren0, wL]
    · simp [boxesLe, lkp, Box.renames]
  · rintro ⟨j, hj⟩
    by_cases hA : j < n + 1
    · have hA' := ltT hA
      have hwj := wrap_add1 (a := j) (by omega)
      simp -implicitDefEqProofs only [go_sem, Nat.reduceAdd, Nat.reduceMul, Nat.reduceEqDiff, Nat.reduceLT, Nat.reduceLeDiff, Nat.reduceSub, Nat.reduceBEq, reduceIte, reduceCtorEq, Int.reduceEq, Int.reduceNe, Nat.reduceBneDiff, Int.reduceLE, Int.reduceLT, Int.reduceToNat, Int.reduceAdd, Int.reduceSub, Int.reduceMul, Int.reduceNeg, hA']
      refine g_loop mixed (fun i : { i : Nat // i ≤ j + 1 ∧ i ≤ xs.length } => St.of [(0, wL xs), (1, .int .i64 (n : Int)), (5, .bs 102 2 0 (n + 1)), (6, .int .i64 (j : Int)), (7, .int .i64 (i.1 : Int)), (12, .int .i64 ((n + 1 : Nat) : Int)), (13, .int .i64 (j : Int))]
        [(102, { els := ((upto F (n + 1) j).set j (sm (fterm xs n j) i.1)).map wPV, esz := 2, ety := 30, fro := 0, live := true, arr := true })]) (fun i => j + 1 - i.1) ⟨0, Nat.zero_le _, Nat.zero_le _⟩ ?_ ?_
      · refine le_of (θ := [(102, 102)]) rfl ?_ ?_
        · simp [varsLe, lkp, ren1, ren0, wL]
        · simp only [sm, upto_set0]
          simp [boxesLe, lkp, Box.renames]
      · rintro ⟨i, hi1, hi2⟩
        by_cases hin : i < j + 1 ∧ i < xs.length
        · obtain ⟨h1, h2⟩ := hin
          have c1 := leT (show i ≤ j by omega)
          have c2 := ltT h2
          have hni := nnT i
          have hnj := nnT j
          have hgx := wPV_get xs i h2
          have hgo : ((upto F (n + 1) j).set j (sm (fterm xs n j) i))[j]? = some (sm (fterm xs n j) i) := by rw [List.getElem?_set_self (by rw [upto_length]; exact hA)]
          replace hgo := wget' hgo
          have w2 := wrap_sub (a := n) (b := i) (by omega) (by omega)
          have w3 := wrap_sub (a := j) (b := i) (by omega) (by omega)
          have hwi := wrap_add1 (a := i) (by omega)
          have hwy := ways_v (n - i) (j - i) (by omega) (by omega)
          have hS : (sm (fterm xs n j) i).natAbs < 2 ^ (B + 29) := sm_bin_lt hn (by omega) fun i _ => fterm_abs hx n j i
          have hS1 : (sm (fterm xs n j) (i + 1)).natAbs < 2 ^ (B + 29) := sm_bin_lt hn (by omega) fun i _ => fterm_abs hx n j i
          have hT : (xs[i] * (bin (n - i) (j - i) : Int)).natAbs < 2 ^ (B + 29) := by
            have := sm_bin_lt (g := fun _ => fterm xs n j i) (m := 1) hn (by decide) fun _ _ => fterm_abs hx n j i
            simpa [sm, fterm_eq h2] using this
          have e1 : sm (fterm xs n j) i + xs[i] * (bin (n - i) (j - i) : Int) = sm (fterm xs n j) (i + 1) := by rw [sm, fterm_eq h2]
          have hb := bin_i64 (n := n - i) (k := j - i) (by omega)
          have hpl := plus_v (sm (fterm xs n j) i) xs[i] (bin (n - i) (j - i) : Int) (by omega) (by omega) (p2_16 hS hB) (p2_16 (hx _ (List.getElem_mem h2)) (by omega)) (p2_16 hT hB) (by rw [e1]; exact p2_16 hS1 hB)
          rw [e1] at hpl
          have hs2 : (((upto F (n + 1) j).set j (sm (fterm xs n j) i)).map wPV).set j (.agg [.bool (decide (sm (fterm xs n j) (i + 1) < 0)), .str (mB (sm (fterm xs n j) (i + 1)))]) = ((upto F (n + 1) j).set j (sm (fterm xs n j) (i + 1))).map wPV := by
            rw [wset, List.set_set]
          generalize hS1e : sm (fterm xs n j) (i + 1) = S1 at *
          generalize hSS : sm (fterm xs n j) i = S at *
          generalize (bin (n - i) (j - i) : Int) = b at *
          repeat (first | (simp -implicitDefEqProofs only [go_sem, Nat.reduceAdd, Nat.reduceMul, Nat.reduceEqDiff, Nat.reduceLT, Nat.reduceLeDiff, Nat.reduceSub, Nat.reduceBEq, reduceIte, reduceCtorEq, Int.reduceEq, Int.reduceNe, Nat.reduceBneDiff, Int.reduceLE, Int.reduceLT, Int.reduceToNat, Int.reduceAdd, Int.reduceSub, Int.reduceMul, Int.reduceNeg, wL, wPV, List.length_map, c1, c2, hni, hnj, hA', hgx, hgo, w2, w3, hwi, Int.toNat_natCast]) | ((with_reducible refine gcall_eq (hwy) ?_ ?_ ?_); (with_reducible rfl); rfl) | ((with_reducible refine gcall_eq (hpl) ?_ ?_ ?_); (with_reducible rfl); rfl) | (with_reducible exact drawQ_true _ _ (by kernel_rfl)) | (with_reducible refine And.intro (drawQ_true _ _ (by kernel_rfl)) ?_))
          refine ⟨⟨i + 1, by omega, by omega⟩, by simp only; omega, le_of (θ := [(102, 102)]) rfl ?_ ?_⟩
          · simp [varsLe, lkp, ren1, ren0, wL]
          · rw [hs2]
            simp only [hS1e]
            simp [boxesLe, lkp, Box.renames]
        · have e2 : sm (fterm xs n j) i = F j := by
            rw [hF]
            refine (sm_more _ hi1 fun k h1 h2 => ?_).symm
            unfold fterm
            rw [getD_ge (by omega), Int.zero_mul]
          have hset := upto_set F (n + 1) j hA
          rw [e2, hset]
          by_cases h1 : i ≤ j
          · have c1 := leT h1
            have c2 := ltF (show ¬ i < xs.length by omega)
            repeat (first | (simp -implicitDefEqProofs only [go_sem, Nat.reduceAdd, Nat.reduceMul, Nat.reduceEqDiff, Nat.reduceLT, Nat.reduceLeDiff, Nat.reduceSub, Nat.reduceBEq, reduceIte, reduceCtorEq, Int.reduceEq, Int.reduceNe, Nat.reduceBneDiff, Int.reduceLE, Int.reduceLT, Int.reduceToNat, Int.reduceAdd, Int.reduceSub, Int.reduceMul, Int.reduceNeg, wL, List.length_map, c1, c2, hwj]) | (with_reducible exact drawQ_true _ _ (by kernel_rfl)) | (with_reducible refine And.intro (drawQ_true _ _ (by kernel_rfl)) ?_))
            refine ⟨⟨j + 1, by omega⟩, by simp only; omega, le_of (θ := [(102, 102)]) rfl ?_ ?_⟩
            · simp [varsLe, lkp, ren1, ren0, wL]
            · simp [boxesLe, lkp, Box.renames]
          · have c1 := leF h1
            repeat (first | (simp -implicitDefEqProofs only [go_sem, Nat.reduceAdd, Nat.reduceMul, Nat.reduceEqDiff, Nat.reduceLT, Nat.reduceLeDiff, Nat.reduceSub, Nat.reduceBEq, reduceIte, reduceCtorEq, Int.reduceEq, Int.reduceNe, Nat.reduceBneDiff, Int.reduceLE, Int.reduceLT, Int.reduceToNat, Int.reduceAdd, Int.reduceSub, Int.reduceMul, Int.reduceNeg, wL, List.length_map, c1, hwj]) | (with_reducible exact drawQ_true _ _ (by kernel_rfl)) | (with_reducible refine And.intro (drawQ_true _ _ (by kernel_rfl)) ?_))
            refine ⟨⟨j + 1, by omega⟩, by simp only; omega, le_of (θ := [(102, 102)]) rfl ?_ ?_⟩
            · simp [varsLe, lkp, ren1, ren0, wL]
            · simp [boxesLe, lkp, Box.renames]
    · have hA' := ltF hA
      have e3 : ((upto F (n + 1) j).map wPV).take (n + 1) = (trans xs 1 n).map wPV := by
        rw [List.take_of_length_le (by rw [List.length_map, upto_length]; exact Nat.le_refl _), upto_full F (n + 1) j (by omega), hF]
        rfl
      have e4 := upto_length F (n + 1) j
      simp -implicitDefEqProofs only [go_sem, Nat.reduceAdd, Nat.reduceMul, Nat.reduceEqDiff, Nat.reduceLT, Nat.reduceLeDiff, Nat.reduceSub, Nat.reduceBEq, reduceIte, reduceCtorEq, Int.reduceEq, Int.reduceNe, Nat.reduceBneDiff, Int.reduceLE, Int.reduceLT, Int.reduceToNat, Int.reduceAdd, Int.reduceSub, Int.reduceMul, Int.reduceNeg, hA', List.length_map, e3, e4, wL]
theorem smallB_of {l : List (Bool × ByteArray)} (h : smallB l = true) : (∀ p ∈ l, p.2.size ≤ 8) ∧ l.length ≤ 26 := by
  unfold smallB at h
  simp only [Bool.and_eq_true, List.all_eq_true, decide_eq_true_eq, Bool.or_eq_true, beq_iff_eq] at h
  exact ⟨h.1, by omega⟩
theorem wnP_bound {l : List (Bool × ByteArray)} {k : Nat} (h : ∀ p ∈ l, p.2.size ≤ k) : ∀ x ∈ l.map wnP, x.natAbs < 2 ^ (8 * k) := by
  intro x hx
  obtain ⟨p, hp, rfl⟩ := List.mem_map.1 hx
  exact p256_2 (wnum_lt p.1 p.2 k (h p hp))
end Go.Proofs.YtnpclmmmngmdkaaGreat

namespace Go.Dg

/-- Zeros at the end are left out. -/
def trimI : List Int → List Int
  | [] => []
  | c :: r => match trimI r with
    | [] => if c = 0 then [] else [c]
    | d :: t => c :: d :: t
theorem trimI_cons (c : Int) (r : List Int) : trimI (c :: r) = if trimI r = [] then (if c = 0 then [] else [c]) else c :: trimI r := by
  rw [trimI]; cases h : trimI r <;> simp
theorem trimI_snoc0 : ∀ l : List Int, trimI (l ++ [0]) = trimI l
  | [] => rfl
  | c :: r => by rw [List.cons_append, trimI_cons, trimI_snoc0 r, trimI_cons]
theorem trimI_last : ∀ (l : List Int) (c : Int), c ≠ 0 → trimI (l ++ [c]) = l ++ [c]
  | [], c, h => by simp [trimI, h]
  | a :: r, c, h => by rw [List.cons_append, trimI_cons, trimI_last r c h, if_neg (by simp)]
theorem trimI_length : ∀ l : List Int, (trimI l).length ≤ l.length
  | [] => Nat.le_refl _
  | c :: r => by
    have := trimI_length r
    rw [trimI_cons]; split
    · split <;> simp
    · simp only [List.length_cons]; omega
theorem trimI_mem {l : List Int} {x : Int} (h : x ∈ trimI l) : x ∈ l := by
  induction l with
  | nil => exact h
  | cons c r ih =>
    rw [trimI_cons] at h
    split at h
    · split at h
      · cases h
      · simp at h; simp [h]
    · rcases List.mem_cons.1 h with rfl | h
      · simp
      · exact List.mem_cons_of_mem _ (ih h)
/-- The value of a polynomial. -/
def ev : List Int → Int → Int
  | [], _ => 0
  | c :: r, u => c + u * ev r u
theorem ev_hev : ∀ (p : List Int) (u : Int), ev p u = hev p u 1
  | [], _ => rfl
  | c :: r, u => by rw [ev, hev, ev_hev r u, Int.one_pow, Int.mul_one]
theorem ev_zero : ∀ (p : List Int), (∀ u : Int, 1 ≤ u → ev p u = 0) → trimI p = []
  | [], _ => rfl
  | c :: r, h => by
    have hc : c = 0 := by
      have h1 := h (c.natAbs + 1) (by omega)
      rw [ev] at h1
      generalize ev r _ = A at h1
      have h2 : c = ((c.natAbs : Int) + 1) * (-A) := by rw [Int.mul_neg]; omega
      have h3 : ((c.natAbs : Int) + 1) ∣ c := ⟨_, h2⟩
      have h4 := Int.natAbs_dvd_natAbs.2 h3
      rcases Nat.eq_zero_or_pos c.natAbs with h0 | h0
      · omega
      · have := Nat.le_of_dvd h0 h4
        omega
    subst hc
    rw [trimI_cons, ev_zero r ?_]
    · rfl
    · intro u hu
      have := h u hu
      rw [ev, Int.zero_add] at this
      rcases Int.mul_eq_zero.1 this with h | h
      · omega
      · exact h
theorem ev_uniq : ∀ (p q : List Int), (∀ u : Int, 1 ≤ u → ev p u = ev q u) → trimI p = trimI q
  | [], q, h => (ev_zero q fun u hu => (h u hu).symm).symm
  | p, [], h => ev_zero p h
  | a :: p, b :: q, h => by
    have hab : a = b := by
      have h1 := h ((a - b).natAbs + 1) (by omega)
      rw [ev, ev] at h1
      generalize ev p _ = A at h1
      generalize ev q _ = B at h1
      have h2 : a - b = (((a - b).natAbs : Int) + 1) * (B - A) := by rw [Int.mul_sub]; omega
      have h3 : (((a - b).natAbs : Int) + 1) ∣ (a - b) := ⟨_, h2⟩
      have h4 := Int.natAbs_dvd_natAbs.2 h3
      rcases Nat.eq_zero_or_pos (a - b).natAbs with h0 | h0
      · omega
      · have := Nat.le_of_dvd h0 h4
        omega
    subst hab
    have ih := ev_uniq p q fun u hu => by
      have h1 := h u hu
      rw [ev, ev] at h1
      exact Int.eq_of_mul_eq_mul_left (a := u) (by omega) (by omega)
    rw [trimI_cons, trimI_cons, ih]
theorem ofFn_getD (F : Nat → Int) (N i : Nat) : ((List.range N).map F).getD i 0 = if i < N then F i else 0 := by
  rw [List.getD_eq_getElem?_getD, List.getElem?_map]
  by_cases h : i < N
  · simp [h]
  · rw [List.getElem?_eq_none (by simpa using h), if_neg h]; rfl
/-! ### sums, products -/
def conv (p q : List Int) : List Int := (List.range (p.length + q.length - 1)).map fun i => sm (fun k => p.getD k 0 * q.getD (i - k) 0) (i + 1)
/-! ### bounds -/
def bd (B : Nat) (p : List Int) : Prop := ∀ x ∈ p, x.natAbs < 2 ^ B
theorem bd_mono {B C : Nat} {p : List Int} (h : bd B p) (hc : B ≤ C) : bd C p := fun x hx => Nat.lt_of_lt_of_le (h x hx) (Nat.pow_le_pow_right (by decide) hc)
theorem bd_get {B : Nat} {p : List Int} (h : bd B p) (i : Nat) : (p.getD i 0).natAbs < 2 ^ B := getD_abs h i
/-! ### forms from values -/
/-- The halves of a form. -/
def leftH (f : List Int) (n : Nat) : List Int := scaleP 2 n (trans f 1 n)
def rightH (f : List Int) (n : Nat) : List Int := (leftH f.reverse n).reverse
theorem leftH_length (f : List Int) (n : Nat) : (leftH f n).length = n + 1 := by simp [leftH, scaleP]
theorem rightH_length (f : List Int) (n : Nat) : (rightH f n).length = n + 1 := by simp [rightH, leftH_length]
theorem leftH_hev {f : List Int} {n : Nat} (h : f.length = n + 1) (x y : Int) : hev (leftH f n) x y = hev f x (x + 2 * y) := by
  rw [leftH, scaleP_hev (trans_length _ _ _), trans_full h, Int.one_mul]
theorem rightH_hev {f : List Int} {n : Nat} (h : f.length = n + 1) (x y : Int) : hev (rightH f n) x y = hev f (y + 2 * x) y := by
  rw [rightH, hev_reverse, leftH_hev (by simpa using h), hev_reverse]
end Go.Dg

namespace Go.Proofs.YtnpclmmmngmdkaaGreat
open Go.Vl Go.RowKit Go.Dg

theorem wrap_len {n : Nat} (h : 0 < n) (hn : n < 9223372036854775808) : IntKind.i64.wrap ((n : Int) - 1) = ((n - 1 : Nat) : Int) := by rw [wrap_i64 (by omega) (by omega)]; omega
theorem rPTrim_v (xs : List Int) (hl : xs.length ≤ 1000000) : SoundAt Tryz.prog 94 [rL xs] (rL (trimI xs)) := by
  refine sound_go (tb := []) 22 [.tmp 2] [0, 2, 15] mixed Tryz.func94 rfl (by kernel_rfl) (by kernel_rfl) (by kernel_rfl) (by kernel_rfl) ?_
  simp -implicitDefEqProofs only [go_sem, Nat.reduceAdd, Nat.reduceMul, Nat.reduceEqDiff, Nat.reduceLT, Nat.reduceLeDiff, Nat.reduceSub, Nat.reduceBEq, reduceIte, reduceCtorEq, Int.reduceEq, Int.reduceNe, Nat.reduceBneDiff, Int.reduceLE, Int.reduceLT, Int.reduceToNat, Int.reduceAdd, Int.reduceSub, Int.reduceMul, Int.reduceNeg, rL]
  refine g_loop mixed (fun m : { m : Nat // m ≤ xs.length ∧ trimI (xs.take m) = trimI xs } => St.of [(0, rL (xs.take m.1))] []) (fun m => m.1) ⟨xs.length, Nat.le_refl _, by rw [List.take_length]⟩ ?_ ?_
  · exact le_vars (by simp [varsLe, lkp, ren1, ren0, rL])
  · rintro ⟨m, hm, ht⟩
    have hlen : (xs.take m).length = m := by rw [List.length_take]; omega
    simp only
    cases m with
    | zero =>
      have g1 : ((0 : Int) < ((0 : Nat) : Int)) = False := by simp
      have e : trimI xs = [] := by rw [← ht]; rfl
      repeat (first | (simp -implicitDefEqProofs only [go_sem, Nat.reduceAdd, Nat.reduceMul, Nat.reduceEqDiff, Nat.reduceLT, Nat.reduceLeDiff, Nat.reduceSub, Nat.reduceBEq, reduceIte, reduceCtorEq, Int.reduceEq, Int.reduceNe, Nat.reduceBneDiff, Int.reduceLE, Int.reduceLT, Int.reduceToNat, Int.reduceAdd, Int.reduceSub, Int.reduceMul, Int.reduceNeg, rL, List.length_map, hlen, g1, e, List.take_zero, List.map_nil, List.length_nil]) | (with_reducible exact drawQ_true _ _ (by kernel_rfl)) | (with_reducible refine And.intro (drawQ_true _ _ (by kernel_rfl)) ?_))
    | succ m =>
      have g1 : ((0 : Int) < ((m + 1 : Nat) : Int)) = True := by simp only [eq_iff_iff, iff_true]; omega
      have hlt : m < (xs.take (m + 1)).length := by omega
      have w1 : IntKind.i64.wrap (((m + 1 : Nat) : Int) - 1) = (m : Int) := by rw [wrap_i64 (by omega) (by omega)]; omega
      have h0 := nnT m
      have hg := rI_get (xs.take (m + 1)) m hlt
      have hgm : (xs.take (m + 1))[m] = xs[m]'(by omega) := List.getElem_take
      have htk : xs.take (m + 1) = xs.take m ++ [xs[m]'(by omega)] := take_snoc xs m (by omega)
      have hrs := rsign_v ((xs.take (m + 1))[m])
      by_cases hz : xs[m]'(by omega) = 0
      · have g2 : (((xs.take (m + 1))[m]).sign == 0) = true := by rw [hgm, hz]; rfl
        have e1 : ((xs.take (m + 1)).map rI).take m = (xs.take m).map rI := by rw [← List.map_take, List.take_take, Nat.min_eq_left (by omega)]
        have g3 : ((m : Int) ≤ ((m + 1 : Nat) : Int)) = True := by simp only [eq_iff_iff, iff_true]; omega
        have hcl : (((xs.take (m + 1)).map rI).all fun x => x.cells.length == 2) = true := by rw [List.all_map, List.all_eq_true]; intro _ _; rfl
        repeat (first | (simp -implicitDefEqProofs only [go_sem, Nat.reduceAdd, Nat.reduceMul, Nat.reduceEqDiff, Nat.reduceLT, Nat.reduceLeDiff, Nat.reduceSub, Nat.reduceBEq, reduceIte, reduceCtorEq, Int.reduceEq, Int.reduceNe, Nat.reduceBneDiff, Int.reduceLE, Int.reduceLT, Int.reduceToNat, Int.reduceAdd, Int.reduceSub, Int.reduceMul, Int.reduceNeg, rL, rI, di, List.length_map, hlen, g1, g2, g3, w1, h0, hg, Int.toNat_natCast, hcl, e1]) | ((with_reducible refine gcall_eq (hrs) ?_ ?_ ?_); (with_reducible rfl); rfl) | (with_reducible exact drawQ_true _ _ (by kernel_rfl)) | (with_reducible refine And.intro (drawQ_true _ _ (by kernel_rfl)) ?_))
        refine ⟨⟨m, by omega, ?_⟩, by simp only; omega, le_vars (by simp [varsLe, lkp, ren1, ren0, rL])⟩
        rw [← ht, htk, hz, trimI_snoc0]
      · have g2 : (((xs.take (m + 1))[m]).sign == 0) = false := by rw [hgm]; simp only [beq_eq_false_iff_ne, ne_eq, Int.sign_eq_zero_iff_zero]; exact hz
        have e : trimI xs = xs.take (m + 1) := by rw [← ht, htk, trimI_last _ _ hz]
        repeat (first | (simp -implicitDefEqProofs only [go_sem, Nat.reduceAdd, Nat.reduceMul, Nat.reduceEqDiff, Nat.reduceLT, Nat.reduceLeDiff, Nat.reduceSub, Nat.reduceBEq, reduceIte, reduceCtorEq, Int.reduceEq, Int.reduceNe, Nat.reduceBneDiff, Int.reduceLE, Int.reduceLT, Int.reduceToNat, Int.reduceAdd, Int.reduceSub, Int.reduceMul, Int.reduceNeg, rL, rI, di, List.length_map, hlen, g1, g2, w1, h0, hg, Int.toNat_natCast]) | ((with_reducible refine gcall_eq (hrs) ?_ ?_ ?_); (with_reducible rfl); rfl) | (with_reducible exact drawQ_true _ _ (by kernel_rfl)) | (with_reducible refine And.intro (drawQ_true _ _ (by kernel_rfl)) ?_))
        rw [e]
def intsL (l : List Int) : PV := .slc (l.map (PV.int .i64))
theorem ints_get (l : List Int) (i : Nat) (h : i < l.length) : (l.map (PV.int .i64))[i]? = some (.int .i64 l[i]) := by rw [List.getElem?_map, List.getElem?_eq_getElem h]; rfl
theorem map_take {α β : Type} (f : α → β) (l : List α) (i : Nat) (hi : i < l.length) : (l.take (i + 1)).map f = (l.take i).map f ++ [f l[i]] := by rw [take_snoc l i hi, List.map_append]; rfl
theorem rNums_v (l : List Int) (hl : l.length ≤ 1000) (hb : ∀ x ∈ l, -9223372036854775808 ≤ x ∧ x ≤ 9223372036854775807) : SoundAt Tryz.prog 54 [intsL l] (rL (trimI l)) := by
  refine sound_go (tb := []) 21 [.tmp 2] [0, 2, 3, 4, 8] mixed Tryz.func54 rfl (by kernel_rfl) (by kernel_rfl) (by kernel_rfl) (by kernel_rfl) ?_
  simp -implicitDefEqProofs only [go_sem, Nat.reduceAdd, Nat.reduceMul, Nat.reduceEqDiff, Nat.reduceLT, Nat.reduceLeDiff, Nat.reduceSub, Nat.reduceBEq, reduceIte, reduceCtorEq, Int.reduceEq, Int.reduceNe, Nat.reduceBneDiff, Int.reduceLE, Int.reduceLT, Int.reduceToNat, Int.reduceAdd, Int.reduceSub, Int.reduceMul, Int.reduceNeg, intsL]
  refine g_loop mixed (fun i : { i : Nat // i ≤ l.length } => St.of [(0, intsL l), (3, .bs 7 2 0 i.1), (4, .int .i64 (i.1 : Int))]
    [(7, { els := (l.take i.1).map rI, esz := 2, ety := 37, fro := 0, live := true, arr := true })]) (fun i => l.length - i.1) ⟨0, Nat.zero_le _⟩ ?_ ?_
  · refine le_nil1 3 7 2 37 rfl rfl rfl (by decide) [(7, 7)] rfl ?_ ?_
    · simp [varsLe, lkp, ren1, ren0, intsL]
    · simp [boxesLe, lkp, Box.renames]
  · rintro ⟨i, hi⟩
    have hlen : ((l.take i).map rI).length = i := by simp; omega
    by_cases hA : i < l.length
    · have hA' := ltT hA
      have h0 := nnT i
      have hg := ints_get l i hA
      have hwk := wrap_add1 (a := i) (by omega)
      have q1 : (i == i) = true := beq_self_eq_true i
      have q2 : ((i + 1) * 32 ≤ 140737488355328) = True := by simp only [eq_iff_iff, iff_true]; omega
      have q3 : (i + 1 ≤ maxLen) = True := by simp only [eq_iff_iff, iff_true]; unfold maxLen; omega
      obtain ⟨b1, b2⟩ := hb _ (List.getElem_mem hA)
      have hf := rnum_v l[i] b1 b2
      have htk := map_take rI l i hA
      repeat (first | (simp -implicitDefEqProofs only [go_sem, Nat.reduceAdd, Nat.reduceMul, Nat.reduceEqDiff, Nat.reduceLT, Nat.reduceLeDiff, Nat.reduceSub, Nat.reduceBEq, reduceIte, reduceCtorEq, Int.reduceEq, Int.reduceNe, Nat.reduceBneDiff, Int.reduceLE, Int.reduceLT, Int.reduceToNat, Int.reduceAdd, Int.reduceSub, Int.reduceMul, Int.reduceNeg, intsL, rI, di, hA', h0, hg, Int.toNat_natCast, List.length_map, hlen, q1, q2, q3, rI_okf, hwk]) | ((with_reducible refine gcall_eq (hf) ?_ ?_ ?_); (with_reducible rfl); rfl) | (with_reducible exact drawQ_true _ _ (by kernel_rfl)) | (with_reducible refine And.intro (drawQ_true _ _ (by kernel_rfl)) ?_))
      refine ⟨⟨i + 1, hA⟩, by simp only; omega, le_of (θ := [(7, 507)]) rfl ?_ ?_⟩
      · simp [varsLe, lkp, ren1, ren0, intsL]
      · simp only [htk]
        simp [boxesLe, lkp, Box.renames, rI, di]
    · have hA' := ltF hA
      have e1 : ((l.take i).map rI).take i = l.map rI := by rw [List.take_of_length_le (by omega), List.take_of_length_le (show l.length ≤ i by omega)]
      have ht := rPTrim_v l (by omega)
      unfold rL at ht ⊢
      repeat (first | (simp -implicitDefEqProofs only [go_sem, Nat.reduceAdd, Nat.reduceMul, Nat.reduceEqDiff, Nat.reduceLT, Nat.reduceLeDiff, Nat.reduceSub, Nat.reduceBEq, reduceIte, reduceCtorEq, Int.reduceEq, Int.reduceNe, Nat.reduceBneDiff, Int.reduceLE, Int.reduceLT, Int.reduceToNat, Int.reduceAdd, Int.reduceSub, Int.reduceMul, Int.reduceNeg, intsL, hA', hlen, e1, List.length_map]) | ((with_reducible refine gcall_eq (ht) ?_ ?_ ?_); (with_reducible rfl); rfl) | (with_reducible exact drawQ_true _ _ (by kernel_rfl)) | (with_reducible refine And.intro (drawQ_true _ _ (by kernel_rfl)) ?_))
theorem rPTo_v (xs : List Int) (hl : xs.length ≤ 1000000) (hx : ∀ x ∈ xs, x.natAbs < 2 ^ 8000000) : SoundAt Tryz.prog 17 [rL xs] (wL xs) := by
  refine sound_go (tb := []) 20 [.tmp 2] [0, 2, 3, 4, 8] mixed Tryz.func17 rfl (by kernel_rfl) (by kernel_rfl) (by kernel_rfl) (by kernel_rfl) ?_
  simp -implicitDefEqProofs only [go_sem, Nat.reduceAdd, Nat.reduceMul, Nat.reduceEqDiff, Nat.reduceLT, Nat.reduceLeDiff, Nat.reduceSub, Nat.reduceBEq, reduceIte, reduceCtorEq, Int.reduceEq, Int.reduceNe, Nat.reduceBneDiff, Int.reduceLE, Int.reduceLT, Int.reduceToNat, Int.reduceAdd, Int.reduceSub, Int.reduceMul, Int.reduceNeg]
  refine g_loop mixed (fun i : { i : Nat // i ≤ xs.length } => St.of [(0, rL xs), (3, .bs 7 2 0 i.1), (4, .int .i64 (i.1 : Int))]
    [(7, { els := (xs.take i.1).map wPV, esz := 2, ety := 30, fro := 0, live := true, arr := true })]) (fun i => xs.length - i.1) ⟨0, Nat.zero_le _⟩ ?_ ?_
  · refine le_nil1 3 7 2 30 rfl rfl rfl (by decide) [(7, 7)] rfl ?_ ?_
    · simp [varsLe, lkp, ren1, ren0, rL]
    · simp [boxesLe, lkp, Box.renames]
  · rintro ⟨i, hi⟩
    have hlen : ((xs.take i).map wPV).length = i := by simp; omega
    by_cases hA : i < xs.length
    · have hA' := ltT hA
      have h0 := nnT i
      have hg := rI_get xs i hA
      have hwk := wrap_add1 (a := i) (by omega)
      have q1 : (i == i) = true := beq_self_eq_true i
      have q2 : ((i + 1) * 24 ≤ 140737488355328) = True := by simp only [eq_iff_iff, iff_true]; omega
      have q3 : (i + 1 ≤ maxLen) = True := by simp only [eq_iff_iff, iff_true]; unfold maxLen; omega
      have hf := rto_i (hx _ (List.getElem_mem hA))
      have htk := map_take wPV xs i hA
      repeat (first | (simp -implicitDefEqProofs only [go_sem, Nat.reduceAdd, Nat.reduceMul, Nat.reduceEqDiff, Nat.reduceLT, Nat.reduceLeDiff, Nat.reduceSub, Nat.reduceBEq, reduceIte, reduceCtorEq, Int.reduceEq, Int.reduceNe, Nat.reduceBneDiff, Int.reduceLE, Int.reduceLT, Int.reduceToNat, Int.reduceAdd, Int.reduceSub, Int.reduceMul, Int.reduceNeg, rL, rI, di, wPV, hA', h0, hg, Int.toNat_natCast, List.length_map, hlen, q1, q2, q3, wPV_okf, hwk]) | ((with_reducible refine gcall_eq (hf) ?_ ?_ ?_); (with_reducible rfl); rfl) | (with_reducible exact drawQ_true _ _ (by kernel_rfl)) | (with_reducible refine And.intro (drawQ_true _ _ (by kernel_rfl)) ?_))
      refine ⟨⟨i + 1, hA⟩, by simp only; omega, le_of (θ := [(7, 507)]) rfl ?_ ?_⟩
      · simp [varsLe, lkp, ren1, ren0, rL]
      · simp only [htk]
        simp [boxesLe, lkp, Box.renames, wPV]
    · have hA' := ltF hA
      have e1 : ((xs.take i).map wPV).take i = xs.map wPV := by
        rw [List.take_of_length_le (by omega), List.take_of_length_le (show xs.length ≤ i by omega)]
      simp -implicitDefEqProofs only [go_sem, Nat.reduceAdd, Nat.reduceMul, Nat.reduceEqDiff, Nat.reduceLT, Nat.reduceLeDiff, Nat.reduceSub, Nat.reduceBEq, reduceIte, reduceCtorEq, Int.reduceEq, Int.reduceNe, Nat.reduceBneDiff, Int.reduceLE, Int.reduceLT, Int.reduceToNat, Int.reduceAdd, Int.reduceSub, Int.reduceMul, Int.reduceNeg, rL, hA', hlen, e1, wL, List.length_map]
end Go.Proofs.YtnpclmmmngmdkaaGreat
