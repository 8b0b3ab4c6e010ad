/-
  Bn, EN2, Ds, EP3, EN4, Du (merged for the claim).
-/
import Derived.Test.YtnpclmmmngmdkaaEW2
import Derived.Test.YtnpclmmmngmdkaaEN1
set_option linter.unusedSimpArgs false
set_option linter.unusedVariables false
namespace Go.Vl

def nilUp0 : PV → PV
  | .nilS => .slc []
  | v => v
def nilUp : PV → PV
  | .agg cs => .agg (cs.map nilUp0)
  | v => nilUp0 v
theorem nilUp_cells (v : PV) : (nilUp v).cells = v.cells.map nilUp0 := by
  cases v <;> rfl
theorem nilUp_flat (l : List PV) : (l.map nilUp).flatMap PV.cells = (l.flatMap PV.cells).map nilUp0 := by
  induction l with
  | nil => rfl
  | cons v l ih => simp only [List.map_cons, List.flatMap_cons, List.map_append, nilUp_cells, ih]
theorem Rep.up {w : World} {im : Im} {v : PV} {u : Value} (h : Rep w im v u) : Rep w im (nilUp0 v) u := by
  cases v with
  | nilS => cases h; exact .slcNil 0 (Nat.zero_le _)
  | _ => exact h
theorem LR.up {w : World} {im : Im} {ρ : Rho} {v : PV} {u : Value} (h : LR w im ρ v u) : LR w im ρ (nilUp0 v) u := by
  cases v with
  | nilS => rw [h.nilS_inv]; exact .ext _ _ (.slcNil 0 (Nat.zero_le _))
  | _ => exact h
theorem RepL.up {w : World} {im : Im} : ∀ {vs : List PV} {us : List Value}, RepL w im vs us → RepL w im (vs.map nilUp0) us
  | _, _, .nil => .nil
  | _, _, .cons _ _ _ _ h t => .cons _ _ _ _ h.up t.up
theorem LRL.up {w : World} {im : Im} {ρ : Rho} : ∀ {vs : List PV} {us : List Value}, LRL w im ρ vs us → LRL w im ρ (vs.map nilUp0) us
  | _, _, .nil => .nil
  | _, _, .cons _ _ _ _ h t => .cons _ _ _ _ h.up t.up
theorem BoxAt.up {own : Nat → Prop} {w : World} {im : Im} {ρ : Rho} {B : Box} {x : Option Nat} (h : BoxAt own w im ρ B x) : BoxAt own w im ρ { B with els := B.els.map nilUp } x := by
  cases x with
  | none => obtain ⟨h1, h2, h3, h4⟩ := h; exact ⟨by simp [h1], h2, h3, h4⟩
  | some g =>
    obtain ⟨h1, h2, h3, h4, cur, us, rest, h5, h6, h7, h8, h9, h10, h11⟩ := h
    refine ⟨h1, by simpa using h2, h3, ?_, cur, us, rest, h5, h6, ?_, ?_, h9, h10, h11⟩
    · intro e he
      obtain ⟨v, hv, rfl⟩ := List.mem_map.1 he
      rw [nilUp_cells, List.length_map]; exact h4 v hv
    · simp only [nilUp_flat]; exact h7.up
    · intro ha; simp only [nilUp_flat]; exact (h8 ha).up
theorem le_up {st : St} {b : Nat} {B : Box} (hB : st.box b = some B) : Le st (st.setBox b { B with els := B.els.map nilUp }) := by
  rintro C a w ⟨ρ, im, h⟩
  refine ⟨ρ, im, h.root, h.nt, h.dfr, h.imc, h.var, ?_, ?_, ?_⟩
  · intro b'
    by_cases e : b' = b
    · subst e; simp [St.setBox, upd_same, h.rho b', hB]
    · simp [St.setBox, upd_other _ _ _ _ e, h.rho b']
  · intro b' x B' hx hB'
    by_cases e : b' = b
    · subst e
      simp only [St.setBox, upd_same, Option.some.injEq] at hB'
      subst hB'
      exact (h.box b' x B hx hB).up
    · simp only [St.setBox, upd_other _ _ _ _ e] at hB'
      exact h.box b' x B' hx hB'
  · have key : ∀ b' B', (st.setBox b { B with els := B.els.map nilUp }).box b' = some B' → ∃ B0, st.box b' = some B0 ∧ B0.live = B'.live := fun b' B' e => by
      by_cases y : b' = b
      · subst y
        simp only [St.setBox, upd_same, Option.some.injEq] at e
        subst e; exact ⟨B, hB, rfl⟩
      · exact ⟨B', by simpa only [St.setBox, upd_other _ _ _ _ y] using e, rfl⟩
    intro b1 b2 g B1 B2 g1 g2 e1 e2 l1 l2
    obtain ⟨C1, x1, y1⟩ := key _ _ e1
    obtain ⟨C2, x2, y2⟩ := key _ _ e2
    exact h.inj b1 b2 g C1 C2 g1 g2 x1 x2 (y1.trans l1) (y2.trans l2)
theorem le_upG {vs : List (Nat × PV)} {bs : List (Nat × Box)} {o : List (List PV)} {y : Option (Nat × Nat)} (b : Nat) {B : Box} (hB : lkp bs b = some B) :
    Le (St.ofG vs bs o y) (St.ofG vs ((b, { B with els := B.els.map nilUp }) :: bs) o y) := le_up (st := St.ofG vs bs o y) hB
end Go.Vl

namespace Go.Proofs.Ytnpclmmmngmdkaa
open Go.Vl Go.RowKit Go.Dg

theorem wset (l : List Int) (j : Nat) (v : Int) : (l.map wPV).set j (.agg [.bool (decide (v < 0)), .str (mB v)]) = (l.set j v).map wPV := by rw [List.map_set]; rfl
theorem rset (l : List Int) (j : Nat) (v : Int) : (l.map rI).set j (.agg [.bool (decide (v < 0)), di (digs E9 v.natAbs)]) = (l.set j v).map rI := by rw [List.map_set]; rfl
theorem wzero (N : Nat) : List.replicate N (PV.agg [.bool false, .str ⟨#[]⟩]) = (List.replicate N 0).map wPV := by rw [List.map_replicate, wPV_zero]
theorem rI_z : rI 0 = .agg [.bool false, .slc []] := by simp [rI, di, digs_zero]
theorem rzero (N : Nat) : (List.replicate N (PV.agg [.bool false, .nilS])).map nilUp = (List.replicate N 0).map rI := by rw [List.map_replicate, List.map_replicate, rI_z]; rfl
theorem wget' {l : List Int} {j : Nat} {v : Int} (h : l[j]? = some v) : (l.map wPV)[j]? = some (.agg [.bool (decide (v < 0)), .str (mB v)]) := by rw [List.getElem?_map, h]; rfl
theorem rget' {l : List Int} {j : Nat} {v : Int} (h : l[j]? = some v) : (l.map rI)[j]? = some (.agg [.bool (decide (v < 0)), di (digs E9 v.natAbs)]) := by rw [List.getElem?_map, h]; rfl
theorem trans_eq (f : List Int) (c : Int) (n : Nat) : (List.range (n + 1)).map (fun j => sm (fun i => f.getD i 0 * (c ^ (j - i) * (bin (n - i) (j - i) : Int))) (j + 1)) = trans f c n := rfl
theorem getD_lt {xs : List Int} {i : Nat} (h : i < xs.length) : xs.getD i 0 = xs[i] := by rw [List.getD_eq_getElem?_getD, List.getElem?_eq_getElem h]; rfl
theorem getD_ge {xs : List Int} {i : Nat} (h : ¬ i < xs.length) : xs.getD i 0 = 0 := by rw [List.getD_eq_getElem?_getD, List.getElem?_eq_none (by omega)]; rfl
theorem bin_i64 {n k : Nat} (hn : n ≤ 24) : bin n k ≤ 16777216 := Nat.le_trans (bin_le_pow n k) (Nat.le_trans (Nat.pow_le_pow_right (by decide) hn) (by decide))
/-- The terms of a form. -/
def fterm (xs : List Int) (n j i : Nat) : Int := xs.getD i 0 * (1 ^ (j - i) * (bin (n - i) (j - i) : Int))
theorem fterm_abs {xs : List Int} {B : Nat} (hx : ∀ x ∈ xs, x.natAbs < 2 ^ B) (n j i : Nat) : (fterm xs n j i).natAbs ≤ 2 ^ B * 2 ^ n := by
  unfold fterm
  rw [Int.one_pow, Int.one_mul]
  exact Nat.le_trans (mul_bin_le (getD_abs hx i)) (Nat.mul_le_mul_left _ (Nat.pow_le_pow_right (by decide) (Nat.sub_le _ _)))
theorem fterm_eq {xs : List Int} {n j i : Nat} (h : i < xs.length) : fterm xs n j i = xs[i] * (bin (n - i) (j - i) : Int) := by
  unfold fterm; rw [Int.one_pow, Int.one_mul, getD_lt h]
theorem trans_bound {xs : List Int} {B n : Nat} (hn : n ≤ 24) (hx : ∀ x ∈ xs, x.natAbs < 2 ^ B) : ∀ y ∈ trans xs 1 n, y.natAbs < 2 ^ (B + 29) := by
  intro y hy
  obtain ⟨j, hj, rfl⟩ := List.mem_map.1 hy
  have := List.mem_range.1 hj
  exact sm_bin_lt hn (by omega) fun i _ => fterm_abs hx n j i
theorem of_v (xs : List Int) (n B : Nat) (hn : n ≤ 24) (hl : xs.length ≤ 1000) (hB : B + 29 ≤ 65536) (hx : ∀ x ∈ xs, x.natAbs < 2 ^ B) : SoundAt Try.prog 23 [wL xs, .int .i64 (n : Int)] (wL (trans xs 1 n)) := by
  have w1 := wrap_add1 (a := n) (by omega)
  have m1 : ((24 : Nat) : Int) * ((n + 1 : Nat) : Int) ≤ 281474976710656 := by omega
  have m2 : ((n + 1 : Nat) : Int) ≤ 9223372036854775807 := by omega
  have m3 := nnT (n + 1)
  obtain ⟨F, hF⟩ : ∃ F : Nat → Int, F = fun j => sm (fterm xs n j) (j + 1) := ⟨_, rfl⟩
  refine sound_go (tb := []) 48 [.tmp 4] [0, 1, 4, 5, 6, 7, 12, 13, 14, 24] mixed Try.func23 rfl (by kernel_rfl) (by kernel_rfl) (by kernel_rfl) (by kernel_rfl) ?_
  simp -implicitDefEqProofs only [go_sem, Nat.reduceAdd, Nat.reduceMul, Nat.reduceEqDiff, Nat.reduceLT, Nat.reduceLeDiff, Nat.reduceSub, Nat.reduceBEq, reduceIte, reduceCtorEq, Int.reduceEq, Int.reduceNe, Nat.reduceBneDiff, Int.reduceLE, Int.reduceLT, Int.reduceToNat, Int.reduceAdd, Int.reduceSub, Int.reduceMul, Int.reduceNeg, wL, w1, m1, m2, m3, Int.toNat_natCast, wzero]
  rw [← upto_zero F]
  refine g_loop mixed (fun j : { j : Nat // j ≤ n + 1 } => St.of [(0, wL xs), (1, .int .i64 (n : Int)), (5, .bs 102 2 0 (n + 1)), (12, .int .i64 ((n + 1 : Nat) : Int)), (13, .int .i64 (j.1 : Int))]
    [(102, { els := (upto F (n + 1) j.1).map wPV, esz := 2, ety := 40, fro := 0, live := true, arr := true })]) (fun j => n + 1 - j.1) ⟨0, Nat.zero_le _⟩ ?_ ?_
  · refine le_of (θ := [(102, 102)]) rfl ?_ ?_
    · simp [varsLe, lkp, ren1, ren0, wL]
    · simp [boxesLe, lkp, Box.renames]
  · rintro ⟨j, hj⟩
    by_cases hA : j < n + 1
    · have hA' := ltT hA
      have hwj := wrap_add1 (a := j) (by omega)
      simp -implicitDefEqProofs only [go_sem, Nat.reduceAdd, Nat.reduceMul, Nat.reduceEqDiff, Nat.reduceLT, Nat.reduceLeDiff, Nat.reduceSub, Nat.reduceBEq, reduceIte, reduceCtorEq, Int.reduceEq, Int.reduceNe, Nat.reduceBneDiff, Int.reduceLE, Int.reduceLT, Int.reduceToNat, Int.reduceAdd, Int.reduceSub, Int.reduceMul, Int.reduceNeg, hA']
      refine g_loop mixed (fun i : { i : Nat // i ≤ j + 1 ∧ i ≤ xs.length } => St.of [(0, wL xs), (1, .int .i64 (n : Int)), (5, .bs 102 2 0 (n + 1)), (6, .int .i64 (j : Int)), (7, .int .i64 (i.1 : Int)), (12, .int .i64 ((n + 1 : Nat) : Int)), (13, .int .i64 (j : Int))]
        [(102, { els := ((upto F (n + 1) j).set j (sm (fterm xs n j) i.1)).map wPV, esz := 2, ety := 40, fro := 0, live := true, arr := true })]) (fun i => j + 1 - i.1) ⟨0, Nat.zero_le _, Nat.zero_le _⟩ ?_ ?_
      · refine le_of (θ := [(102, 102)]) rfl ?_ ?_
        · simp [varsLe, lkp, ren1, ren0, wL]
        · simp only [sm, upto_set0]
          simp [boxesLe, lkp, Box.renames]
      · rintro ⟨i, hi1, hi2⟩
        by_cases hin : i < j + 1 ∧ i < xs.length
        · obtain ⟨h1, h2⟩ := hin
          have c1 := leT (show i ≤ j by omega)
          have c2 := ltT h2
          have hni := nnT i
          have hnj := nnT j
          have hgx := wPV_get xs i h2
          have hgo : ((upto F (n + 1) j).set j (sm (fterm xs n j) i))[j]? = some (sm (fterm xs n j) i) := by rw [List.getElem?_set_self (by rw [upto_length]; exact hA)]
          replace hgo := wget' hgo
          have w2 := wrap_sub (a := n) (b := i) (by omega) (by omega)
          have w3 := wrap_sub (a := j) (b := i) (by omega) (by omega)
          have hwi := wrap_add1 (a := i) (by omega)
          have hwy := ways_v (n - i) (j - i) (by omega) (by omega)
          have hS : (sm (fterm xs n j) i).natAbs < 2 ^ (B + 29) := sm_bin_lt hn (by omega) fun i _ => fterm_abs hx n j i
          have hS1 : (sm (fterm xs n j) (i + 1)).natAbs < 2 ^ (B + 29) := sm_bin_lt hn (by omega) fun i _ => fterm_abs hx n j i
          have hT : (xs[i] * (bin (n - i) (j - i) : Int)).natAbs < 2 ^ (B + 29) := by
            have := sm_bin_lt (g := fun _ => fterm xs n j i) (m := 1) hn (by decide) fun _ _ => fterm_abs hx n j i
            simpa [sm, fterm_eq h2] using this
          have e1 : sm (fterm xs n j) i + xs[i] * (bin (n - i) (j - i) : Int) = sm (fterm xs n j) (i + 1) := by rw [sm, fterm_eq h2]
          have hb := bin_i64 (n := n - i) (k := j - i) (by omega)
          have hpl := plus_v (sm (fterm xs n j) i) xs[i] (bin (n - i) (j - i) : Int) (by omega) (by omega) (p2_16 hS hB) (p2_16 (hx _ (List.getElem_mem h2)) (by omega)) (p2_16 hT hB) (by rw [e1]; exact p2_16 hS1 hB)
          rw [e1] at hpl
          have hs2 : (((upto F (n + 1) j).set j (sm (fterm xs n j) i)).map wPV).set j (.agg [.bool (decide (sm (fterm xs n j) (i + 1) < 0)), .str (mB (sm (fterm xs n j) (i + 1)))]) = ((upto F (n + 1) j).set j (sm (fterm xs n j) (i + 1))).map wPV := by
            rw [wset, List.set_set]
          generalize hS1e : sm (fterm xs n j) (i + 1) = S1 at *
          generalize hSS : sm (fterm xs n j) i = S at *
          generalize (bin (n - i) (j - i) : Int) = b at *
          repeat (first | (simp -implicitDefEqProofs only [go_sem, Nat.reduceAdd, Nat.reduceMul, Nat.reduceEqDiff, Nat.reduceLT, Nat.reduceLeDiff, Nat.reduceSub, Nat.reduceBEq, reduceIte, reduceCtorEq, Int.reduceEq, Int.reduceNe, Nat.reduceBneDiff, Int.reduceLE, Int.reduceLT, Int.reduceToNat, Int.reduceAdd, Int.reduceSub, Int.reduceMul, Int.reduceNeg, wL, wPV, List.length_map, c1, c2, hni, hnj, hA', hgx, hgo, w2, w3, hwi, Int.toNat_natCast]) | ((with_reducible refine gcall_eq (hwy) ?_ ?_ ?_); (with_reducible rfl); rfl) | ((with_reducible refine gcall_eq (hpl) ?_ ?_ ?_); (with_reducible rfl); rfl) | (with_reducible exact drawQ_true _ _ (by kernel_rfl)) | (with_reducible refine And.intro (drawQ_true _ _ (by kernel_rfl)) ?_))
          refine ⟨⟨i + 1, by omega, by omega⟩, by simp only; omega, le_of (θ := [(102, 102)]) rfl ?_ ?_⟩
          · simp [varsLe, lkp, ren1, ren0, wL]
          · rw [hs2]
            simp only [hS1e]
            simp [boxesLe, lkp, Box.renames]
        · have e2 : sm (fterm xs n j) i = F j := by
            rw [hF]
            refine (sm_more _ hi1 fun k h1 h2 => ?_).symm
            unfold fterm
            rw [getD_ge (by omega), Int.zero_mul]
          have hset := upto_set F (n + 1) j hA
          rw [e2, hset]
          by_cases h1 : i ≤ j
          · have c1 := leT h1
            have c2 := ltF (show ¬ i < xs.length by omega)
            repeat (first | (simp -implicitDefEqProofs only [go_sem, Nat.reduceAdd, Nat.reduceMul, Nat.reduceEqDiff, Nat.reduceLT, Nat.reduceLeDiff, Nat.reduceSub, Nat.reduceBEq, reduceIte, reduceCtorEq, Int.reduceEq, Int.reduceNe, Nat.reduceBneDiff, Int.reduceLE, Int.reduceLT, Int.reduceToNat, Int.reduceAdd, Int.reduceSub, Int.reduceMul, Int.reduceNeg, wL, List.length_map, c1, c2, hwj]) | (with_reducible exact drawQ_true _ _ (by kernel_rfl)) | (with_reducible refine And.intro (drawQ_true _ _ (by kernel_rfl)) ?_))
            refine ⟨⟨j + 1, by omega⟩, by simp only; omega, le_of (θ := [(102, 102)]) rfl ?_ ?_⟩
            · simp [varsLe, lkp, ren1, ren0, wL]
            · simp [boxesLe, lkp, Box.renames]
          · have c1 := leF h1
            repeat (first | (simp -implicitDefEqProofs only [go_sem, Nat.reduceAdd, Nat.reduceMul, Nat.reduceEqDiff, Nat.reduceLT, Nat.reduceLeDiff, Nat.reduceSub, Nat.reduceBEq, reduceIte, reduceCtorEq, Int.reduceEq, Int.reduceNe, Nat.reduceBneDiff, Int.reduceLE, Int.reduceLT, Int.reduceToNat, Int.reduceAdd, Int.reduceSub, Int.reduceMul, Int.reduceNeg, wL, List.length_map, c1, hwj]) | (with_reducible exact drawQ_true _ _ (by kernel_rfl)) | (with_reducible refine And.intro (drawQ_true _ _ (by kernel_rfl)) ?_))
            refine ⟨⟨j + 1, by omega⟩, by simp only; omega, le_of (θ := [(102, 102)]) rfl ?_ ?_⟩
            · simp [varsLe, lkp, ren1, ren0, wL]
            · simp [boxesLe, lkp, Box.renames]
    · have hA' := ltF hA
      have e3 : ((upto F (n + 1) j).map wPV).take (n + 1) = (trans xs 1 n).map wPV := by
        rw [List.take_of_length_le (by rw [List.length_map, upto_length]; exact Nat.le_refl _), upto_full F (n + 1) j (by omega), hF]
        rfl
      have e4 := upto_length F (n + 1) j
      simp -implicitDefEqProofs only [go_sem, Nat.reduceAdd, Nat.reduceMul, Nat.reduceEqDiff, Nat.reduceLT, Nat.reduceLeDiff, Nat.reduceSub, Nat.reduceBEq, reduceIte, reduceCtorEq, Int.reduceEq, Int.reduceNe, Nat.reduceBneDiff, Int.reduceLE, Int.reduceLT, Int.reduceToNat, Int.reduceAdd, Int.reduceSub, Int.reduceMul, Int.reduceNeg, hA', List.length_map, e3, e4, wL]
/-- The values of the reference's form behind some rounds. -/
def fst2 (xs : List Int) (n i k : Nat) : List Int := (List.range (n + 1)).map fun m => if m < i then sm (fterm xs n m) (m + 1) else if m < i + k then sm (fterm xs n m) (i + 1) else sm (fterm xs n m) i
theorem fst2_length (xs : List Int) (n i k : Nat) : (fst2 xs n i k).length = n + 1 := by simp [fst2]
theorem fst2_get (xs : List Int) (n i k m : Nat) (h : m < n + 1) : (fst2 xs n i k)[m]? = some (if m < i then sm (fterm xs n m) (m + 1) else if m < i + k then sm (fterm xs n m) (i + 1) else sm (fterm xs n m) i) := by simp [fst2, h]
theorem fst2_zero (xs : List Int) (n : Nat) : fst2 xs n 0 0 = List.replicate (n + 1) 0 := by
  refine List.ext_getElem? fun m => ?_
  by_cases h : m < n + 1
  · rw [fst2_get _ _ _ _ _ h]; simp [h, sm]
  · rw [List.getElem?_eq_none (by rw [fst2_length]; omega), List.getElem?_eq_none (by simp; omega)]
theorem fst2_set (xs : List Int) (n i k : Nat) (h : i + k < n + 1) : (fst2 xs n i k).set (i + k) (sm (fterm xs n (i + k)) (i + 1)) = fst2 xs n i (k + 1) := by
  refine List.ext_getElem? fun m => ?_
  rw [List.getElem?_set, fst2_length]
  by_cases hm : m < n + 1
  · rw [fst2_get _ _ _ _ _ hm, fst2_get _ _ _ _ _ hm]
    by_cases e : i + k = m
    · subst e
      rw [if_pos rfl, if_pos h, if_neg (by omega), if_pos (by omega)]
    · rw [if_neg e]
      congr 1
      by_cases h1 : m < i
      · rw [if_pos h1, if_pos h1]
      · rw [if_neg h1, if_neg h1]
        by_cases h2 : m < i + k
        · rw [if_pos h2, if_pos (by omega)]
        · rw [if_neg h2, if_neg (by omega)]
  · rw [if_neg (by omega), List.getElem?_eq_none (by rw [fst2_length]; omega), List.getElem?_eq_none (by rw [fst2_length]; omega)]
theorem fst2_next (xs : List Int) (n i k : Nat) (h : n + 1 ≤ i + k) : fst2 xs n i k = fst2 xs n (i + 1) 0 := by
  refine List.map_congr_left fun m hm => ?_
  have hm' := List.mem_range.1 hm
  by_cases h1 : m < i
  · rw [if_pos h1, if_pos (by omega)]
  · rw [if_neg h1, if_pos (by omega)]
    by_cases h2 : m < i + 1
    · obtain rfl : m = i := by omega
      rw [if_pos (Nat.lt_succ_self _)]
    · rw [if_neg h2, if_neg (by omega)]
theorem fst2_done (xs : List Int) (n : Nat) : fst2 xs n xs.length 0 = trans xs 1 n := by
  refine List.map_congr_left fun m hm => ?_
  by_cases h1 : m < xs.length
  · rw [if_pos h1]; rfl
  · rw [if_neg h1, if_neg (by omega)]
    refine (sm_more _ (by omega) fun i h2 _ => ?_).symm
    unfold fterm
    rw [getD_ge (by omega), Int.zero_mul]
theorem rForm_v (xs : List Int) (n B : Nat) (hn : n ≤ 24) (hl : xs.length ≤ n + 1) (hB : B ≤ 65536) (hx : ∀ x ∈ xs, x.natAbs < 2 ^ B) : SoundAt Try.prog 11 [rL xs, .int .i64 (n : Int)] (rL (trans xs 1 n)) := by
  have w1 := wrap_add1 (a := n) (by omega)
  have m1 : ((32 : Nat) : Int) * ((n + 1 : Nat) : Int) ≤ 281474976710656 := by omega
  have m2 : ((n + 1 : Nat) : Int) ≤ 9223372036854775807 := by omega
  have m3 := nnT (n + 1)
  refine sound_go (tb := []) 48 [.tmp 4] [0, 1, 4, 5, 6, 7, 14, 21] mixed Try.func11 rfl (by kernel_rfl) (by kernel_rfl) (by kernel_rfl) (by kernel_rfl) ?_
  simp -implicitDefEqProofs only [go_sem, Nat.reduceAdd, Nat.reduceMul, Nat.reduceEqDiff, Nat.reduceLT, Nat.reduceLeDiff, Nat.reduceSub, Nat.reduceBEq, reduceIte, reduceCtorEq, Int.reduceEq, Int.reduceNe, Nat.reduceBneDiff, Int.reduceLE, Int.reduceLT, Int.reduceToNat, Int.reduceAdd, Int.reduceSub, Int.reduceMul, Int.reduceNeg, rL, w1, m1, m2, m3, Int.toNat_natCast]
  refine g_loop mixed (fun i : { i : Nat // i ≤ xs.length } => St.of [(0, rL xs), (1, .int .i64 (n : Int)), (5, .bs 102 2 0 (n + 1)), (6, .int .i64 (i.1 : Int))]
    [(102, { els := (fst2 xs n i.1 0).map rI, esz := 2, ety := 63, fro := 0, live := true, arr := true })]) (fun i => xs.length - i.1) ⟨0, Nat.zero_le _⟩ ?_ ?_
  · refine Le.trans (le_upG 102 rfl) (le_of (θ := [(102, 102)]) rfl ?_ ?_)
    · simp [varsLe, lkp, ren1, ren0, rL]
    · simp only [rzero, fst2_zero]
      simp [boxesLe, lkp, Box.renames]
  · rintro ⟨i, hi⟩
    by_cases hA : i < xs.length
    · have hA' := ltT hA
      have hwi := wrap_add1 (a := i) (by omega)
      have w2 := wrap_sub (a := n) (b := i) (by omega) (by omega)
      simp -implicitDefEqProofs only [go_sem, Nat.reduceAdd, Nat.reduceMul, Nat.reduceEqDiff, Nat.reduceLT, Nat.reduceLeDiff, Nat.reduceSub, Nat.reduceBEq, reduceIte, reduceCtorEq, Int.reduceEq, Int.reduceNe, Nat.reduceBneDiff, Int.reduceLE, Int.reduceLT, Int.reduceToNat, Int.reduceAdd, Int.reduceSub, Int.reduceMul, Int.reduceNeg, rL, List.length_map, hA']
      refine g_loop mixed (fun k : { k : Nat // k ≤ n + 1 - i } => St.of [(0, rL xs), (1, .int .i64 (n : Int)), (5, .bs 102 2 0 (n + 1)), (6, .int .i64 (i : Int)), (7, .int .i64 (k.1 : Int))]
        [(102, { els := (fst2 xs n i k.1).map rI, esz := 2, ety := 63, fro := 0, live := true, arr := true })]) (fun k => n + 1 - i - k.1) ⟨0, Nat.zero_le _⟩ ?_ ?_
      · refine le_of (θ := [(102, 102)]) rfl ?_ ?_
        · simp [varsLe, lkp, ren1, ren0, rL]
        · simp [boxesLe, lkp, Box.renames]
      · rintro ⟨k, hk⟩
        by_cases hK : k ≤ n - i
        · have c1 := leT hK
          have hni := nnT i
          have hnm := nnT (i + k)
          have hlt : i + k < n + 1 := by omega
          have hlt' := ltT hlt
          have w3 : IntKind.i64.wrap ((i : Int) + (k : Int)) = ((i + k : Nat) : Int) := by rw [wrap_i64 (by omega) (by omega)]; omega
          have hwk := wrap_add1 (a := k) (by omega)
          have hgx := rI_get xs i hA
          have hgo := fst2_get xs n i k (i + k) hlt
          rw [if_neg (by omega), if_neg (by omega)] at hgo
          replace hgo := rget' hgo
          have hwy := rways_v (n - i) k hK (by omega)
          have hS : (sm (fterm xs n (i + k)) i).natAbs < 2 ^ (B + 29) := sm_bin_lt hn (by omega) fun j _ => fterm_abs hx n (i + k) j
          have ekk : i + k - i = k := by omega
          have hft := fterm_eq (xs := xs) (n := n) (j := i + k) hA
          rw [ekk] at hft
          have hT : (xs[i] * (bin (n - i) k : Int)).natAbs < 2 ^ (B + 29) := by
            have := sm_bin_lt (g := fun _ => fterm xs n (i + k) i) (m := 1) hn (by decide) fun _ _ => fterm_abs hx n (i + k) i
            simpa [sm, hft] using this
          have e1 : sm (fterm xs n (i + k)) i + xs[i] * (bin (n - i) k : Int) = sm (fterm xs n (i + k)) (i + 1) := by rw [sm, hft]
          have hb := bin_i64 (n := n - i) (k := k) (by omega)
          have hnu := rnum_v (bin (n - i) k : Int) (by omega) (by omega)
          have hmu := rmul_i (x := xs[i]) (y := (bin (n - i) k : Int)) (p2_7M (hx _ (List.getElem_mem hA)) (by omega)) (p2_7M (B := 25) (by rw [Int.natAbs_natCast]; have : (2 : Nat) ^ 25 = 33554432 := rfl; omega) (by decide))
          have had := radd_i (p2_7M hS (by omega)) (p2_7M hT (by omega))
          rw [e1] at had
          have hset := fst2_set xs n i k hlt
          have hs2 := rset (fst2 xs n i k) (i + k) (sm (fterm xs n (i + k)) (i + 1))
          rw [hset] at hs2
          generalize sm (fterm xs n (i + k)) (i + 1) = S1 at *
          generalize sm (fterm xs n (i + k)) i = S at *
          generalize xs[i] * (bin (n - i) k : Int) = T at *
          generalize (bin (n - i) k : Int) = b at *
          have hl2 := fst2_length xs n i k
          repeat (first | (simp -implicitDefEqProofs only [go_sem, Nat.reduceAdd, Nat.reduceMul, Nat.reduceEqDiff, Nat.reduceLT, Nat.reduceLeDiff, Nat.reduceSub, Nat.reduceBEq, reduceIte, reduceCtorEq, Int.reduceEq, Int.reduceNe, Nat.reduceBneDiff, Int.reduceLE, Int.reduceLT, Int.reduceToNat, Int.reduceAdd, Int.reduceSub, Int.reduceMul, Int.reduceNeg, rL, rI, di, List.length_map, c1, hni, hnm, hlt', hA', hgx, hgo, w2, w3, hwk, Int.toNat_natCast]) | ((with_reducible refine gcall_eq (hwy) ?_ ?_ ?_); (with_reducible rfl); rfl) | ((with_reducible refine gcall_eq (hnu) ?_ ?_ ?_); (with_reducible rfl); rfl) | ((with_reducible refine gcall_eq (hmu) ?_ ?_ ?_); (with_reducible rfl); rfl) | ((with_reducible refine gcall_eq (had) ?_ ?_ ?_); (with_reducible rfl); rfl) | (with_reducible exact drawQ_true _ _ (by kernel_rfl)) | (with_reducible refine And.intro (drawQ_true _ _ (by kernel_rfl)) ?_))
          refine ⟨⟨k + 1, by omega⟩, by simp only; omega, le_of (θ := [(102, 102)]) rfl ?_ ?_⟩
          · simp [varsLe, lkp, ren1, ren0, rL]
          · simp only [di] at hs2
            rw [hs2]
            simp [boxesLe, lkp, Box.renames]
        · have c1 := leF hK
          have e2 := fst2_next xs n i k (by omega)
          repeat (first | (simp -implicitDefEqProofs only [go_sem, Nat.reduceAdd, Nat.reduceMul, Nat.reduceEqDiff, Nat.reduceLT, Nat.reduceLeDiff, Nat.reduceSub, Nat.reduceBEq, reduceIte, reduceCtorEq, Int.reduceEq, Int.reduceNe, Nat.reduceBneDiff, Int.reduceLE, Int.reduceLT, Int.reduceToNat, Int.reduceAdd, Int.reduceSub, Int.reduceMul, Int.reduceNeg, rL, List.length_map, c1, w2, hwi]) | (with_reducible exact drawQ_true _ _ (by kernel_rfl)) | (with_reducible refine And.intro (drawQ_true _ _ (by kernel_rfl)) ?_))
          refine ⟨⟨i + 1, hA⟩, by simp only; omega, le_of (θ := [(102, 102)]) rfl ?_ ?_⟩
          · simp [varsLe, lkp, ren1, ren0, rL]
          · rw [e2]
            simp [boxesLe, lkp, Box.renames]
    · have hA' := ltF hA
      obtain rfl : i = xs.length := by omega
      have e3 : ((fst2 xs n xs.length 0).map rI).take (n + 1) = (trans xs 1 n).map rI := by
        rw [List.take_of_length_le (by rw [List.length_map, fst2_length]; exact Nat.le_refl _), fst2_done]
      have e4 := fst2_length xs n xs.length 0
      simp -implicitDefEqProofs only [go_sem, Nat.reduceAdd, Nat.reduceMul, Nat.reduceEqDiff, Nat.reduceLT, Nat.reduceLeDiff, Nat.reduceSub, Nat.reduceBEq, reduceIte, reduceCtorEq, Int.reduceEq, Int.reduceNe, Nat.reduceBneDiff, Int.reduceLE, Int.reduceLT, Int.reduceToNat, Int.reduceAdd, Int.reduceSub, Int.reduceMul, Int.reduceNeg, hA', List.length_map, e3, e4, rL]
theorem rFTo_v (xs : List Int) (hl : xs.length ≤ 1000000) (hx : ∀ x ∈ xs, x.natAbs < 2 ^ 8000000) : SoundAt Try.prog 10 [rL xs] (wL xs) := by
  refine sound_go (tb := []) 20 [.tmp 2] [0, 2, 3, 4, 8] mixed Try.func10 rfl (by kernel_rfl) (by kernel_rfl) (by kernel_rfl) (by kernel_rfl) ?_
  simp -implicitDefEqProofs only [go_sem, Nat.reduceAdd, Nat.reduceMul, Nat.reduceEqDiff, Nat.reduceLT, Nat.reduceLeDiff, Nat.reduceSub, Nat.reduceBEq, reduceIte, reduceCtorEq, Int.reduceEq, Int.reduceNe, Nat.reduceBneDiff, Int.reduceLE, Int.reduceLT, Int.reduceToNat, Int.reduceAdd, Int.reduceSub, Int.reduceMul, Int.reduceNeg]
  refine g_loop mixed (fun i : { i : Nat // i ≤ xs.length } => St.of [(0, rL xs), (3, .bs 7 2 0 i.1), (4, .int .i64 (i.1 : Int))]
    [(7, { els := (xs.take i.1).map wPV, esz := 2, ety := 40, fro := 0, live := true, arr := true })]) (fun i => xs.length - i.1) ⟨0, Nat.zero_le _⟩ ?_ ?_
  · refine le_nil1 3 7 2 40 rfl rfl rfl (by decide) [(7, 7)] rfl ?_ ?_
    · simp [varsLe, lkp, ren1, ren0, rL]
    · simp [boxesLe, lkp, Box.renames]
  · rintro ⟨i, hi⟩
    have hlen : ((xs.take i).map wPV).length = i := by simp; omega
    by_cases hA : i < xs.length
    · have hA' := ltT hA
      have h0 := nnT i
      have hg := rI_get xs i hA
      have hwk := wrap_add1 (a := i) (by omega)
      have q1 : (i == i) = true := beq_self_eq_true i
      have q2 : ((i + 1) * 24 ≤ 140737488355328) = True := by simp only [eq_iff_iff, iff_true]; omega
      have q3 : (i + 1 ≤ maxLen) = True := by simp only [eq_iff_iff, iff_true]; unfold maxLen; omega
      have hf := rto_i (hx _ (List.getElem_mem hA))
      have htk : (xs.take (i + 1)).map wPV = (xs.take i).map wPV ++ [wPV xs[i]] := by rw [take_snoc xs i hA, List.map_append]; rfl
      repeat (first | (simp -implicitDefEqProofs only [go_sem, Nat.reduceAdd, Nat.reduceMul, Nat.reduceEqDiff, Nat.reduceLT, Nat.reduceLeDiff, Nat.reduceSub, Nat.reduceBEq, reduceIte, reduceCtorEq, Int.reduceEq, Int.reduceNe, Nat.reduceBneDiff, Int.reduceLE, Int.reduceLT, Int.reduceToNat, Int.reduceAdd, Int.reduceSub, Int.reduceMul, Int.reduceNeg, rL, rI, di, wPV, hA', h0, hg, Int.toNat_natCast, List.length_map, hlen, q1, q2, q3, wPV_okf, hwk]) | ((with_reducible refine gcall_eq (hf) ?_ ?_ ?_); (with_reducible rfl); rfl) | (with_reducible exact drawQ_true _ _ (by kernel_rfl)) | (with_reducible refine And.intro (drawQ_true _ _ (by kernel_rfl)) ?_))
      refine ⟨⟨i + 1, hA⟩, by simp only; omega, le_of (θ := [(7, 507)]) rfl ?_ ?_⟩
      · simp [varsLe, lkp, ren1, ren0, rL]
      · simp only [htk]
        simp [boxesLe, lkp, Box.renames, wPV]
    · have hA' := ltF hA
      have e1 : ((xs.take i).map wPV).take i = xs.map wPV := by
        rw [List.take_of_length_le (by omega), List.take_of_length_le (show xs.length ≤ i by omega)]
      simp -implicitDefEqProofs only [go_sem, Nat.reduceAdd, Nat.reduceMul, Nat.reduceEqDiff, Nat.reduceLT, Nat.reduceLeDiff, Nat.reduceSub, Nat.reduceBEq, reduceIte, reduceCtorEq, Int.reduceEq, Int.reduceNe, Nat.reduceBneDiff, Int.reduceLE, Int.reduceLT, Int.reduceToNat, Int.reduceAdd, Int.reduceSub, Int.reduceMul, Int.reduceNeg, rL, hA', hlen, e1, wL, List.length_map]
end Go.Proofs.Ytnpclmmmngmdkaa

namespace Go.Dg

/-- Zeros at the end are left out. -/
def trimI : List Int → List Int
  | [] => []
  | c :: r => match trimI r with
    | [] => if c = 0 then [] else [c]
    | d :: t => c :: d :: t
theorem trimI_cons (c : Int) (r : List Int) : trimI (c :: r) = if trimI r = [] then (if c = 0 then [] else [c]) else c :: trimI r := by
  rw [trimI]; cases h : trimI r <;> simp
theorem trimI_snoc0 : ∀ l : List Int, trimI (l ++ [0]) = trimI l
  | [] => rfl
  | c :: r => by rw [List.cons_append, trimI_cons, trimI_snoc0 r, trimI_cons]
theorem trimI_last : ∀ (l : List Int) (c : Int), c ≠ 0 → trimI (l ++ [c]) = l ++ [c]
  | [], c, h => by simp [trimI, h]
  | a :: r, c, h => by rw [List.cons_append, trimI_cons, trimI_last r c h, if_neg (by simp)]
theorem trimI_length : ∀ l : List Int, (trimI l).length ≤ l.length
  | [] => Nat.le_refl _
  | c :: r => by
    have := trimI_length r
    rw [trimI_cons]; split
    · split <;> simp
    · simp only [List.length_cons]; omega
theorem trimI_getD : ∀ (l : List Int) (i : Nat), (trimI l).getD i 0 = l.getD i 0
  | [], _ => rfl
  | c :: r, i => by
    have ih := trimI_getD r
    rw [trimI_cons]
    split
    · rename_i h
      have h0 : ∀ j, r.getD j 0 = 0 := fun j => by rw [← ih j, h]; rfl
      split
      · rename_i hc
        cases i with
        | zero => simp [hc]
        | succ i => rw [List.getD_cons_succ, h0]; rfl
      · cases i with
        | zero => rfl
        | succ i => rw [List.getD_cons_succ, List.getD_cons_succ, h0]; rfl
    · cases i with
      | zero => rfl
      | succ i => rw [List.getD_cons_succ, List.getD_cons_succ, ih]
theorem trimI_mem {l : List Int} {x : Int} (h : x ∈ trimI l) : x ∈ l := by
  induction l with
  | nil => exact h
  | cons c r ih =>
    rw [trimI_cons] at h
    split at h
    · split at h
      · cases h
      · simp at h; simp [h]
    · rcases List.mem_cons.1 h with rfl | h
      · simp
      · exact List.mem_cons_of_mem _ (ih h)
theorem trimI_idem : ∀ l : List Int, trimI (trimI l) = trimI l
  | [] => rfl
  | c :: r => by
    have ih := trimI_idem r
    rw [trimI_cons]
    split
    · split
      · rfl
      · rename_i h; simp [trimI, h]
    · rename_i h; rw [trimI_cons, ih, if_neg h]
/-- The value of a polynomial. -/
def ev : List Int → Int → Int
  | [], _ => 0
  | c :: r, u => c + u * ev r u
theorem ev_hev : ∀ (p : List Int) (u : Int), ev p u = hev p u 1
  | [], _ => rfl
  | c :: r, u => by rw [ev, hev, ev_hev r u, Int.one_pow, Int.mul_one]
theorem ev_trimI : ∀ (p : List Int) (u : Int), ev (trimI p) u = ev p u
  | [], _ => rfl
  | c :: r, u => by
    have ih := ev_trimI r u
    rw [trimI_cons]
    split
    · rename_i h
      rw [h] at ih
      have h0 : ev r u = 0 := ih.symm
      split
      · rename_i hc; rw [ev, ev, h0, hc]; simp
      · rw [ev, ev, ev, h0]
    · rw [ev, ev, ih]
theorem ev_zero : ∀ (p : List Int), (∀ u : Int, 1 ≤ u → ev p u = 0) → trimI p = []
  | [], _ => rfl
  | c :: r, h => by
    have hc : c = 0 := by
      have h1 := h (c.natAbs + 1) (by omega)
      rw [ev] at h1
      generalize ev r _ = A at h1
      have h2 : c = ((c.natAbs : Int) + 1) * (-A) := by rw [Int.mul_neg]; omega
      have h3 : ((c.natAbs : Int) + 1) ∣ c := ⟨_, h2⟩
      have h4 := Int.natAbs_dvd_natAbs.2 h3
      rcases Nat.eq_zero_or_pos c.natAbs with h0 | h0
      · omega
      · have := Nat.le_of_dvd h0 h4
        omega
    subst hc
    rw [trimI_cons, ev_zero r ?_]
    · rfl
    · intro u hu
      have := h u hu
      rw [ev, Int.zero_add] at this
      rcases Int.mul_eq_zero.1 this with h | h
      · omega
      · exact h
theorem ev_uniq : ∀ (p q : List Int), (∀ u : Int, 1 ≤ u → ev p u = ev q u) → trimI p = trimI q
  | [], q, h => (ev_zero q fun u hu => (h u hu).symm).symm
  | p, [], h => ev_zero p h
  | a :: p, b :: q, h => by
    have hab : a = b := by
      have h1 := h ((a - b).natAbs + 1) (by omega)
      rw [ev, ev] at h1
      generalize ev p _ = A at h1
      generalize ev q _ = B at h1
      have h2 : a - b = (((a - b).natAbs : Int) + 1) * (B - A) := by rw [Int.mul_sub]; omega
      have h3 : (((a - b).natAbs : Int) + 1) ∣ (a - b) := ⟨_, h2⟩
      have h4 := Int.natAbs_dvd_natAbs.2 h3
      rcases Nat.eq_zero_or_pos (a - b).natAbs with h0 | h0
      · omega
      · have := Nat.le_of_dvd h0 h4
        omega
    subst hab
    have ih := ev_uniq p q fun u hu => by
      have h1 := h u hu
      rw [ev, ev] at h1
      exact Int.eq_of_mul_eq_mul_left (a := u) (by omega) (by omega)
    rw [trimI_cons, trimI_cons, ih]
theorem ev_sm (p : List Int) (u : Int) {N : Nat} (h : p.length ≤ N) : ev p u = sm (fun i => p.getD i 0 * u ^ i) N := by
  rw [ev_hev, hev_sm, sm_more _ h (fun i h1 _ => by rw [List.getD_eq_getElem?_getD, List.getElem?_eq_none h1]; simp)]
  exact sm_congr _ fun i _ => by rw [Int.one_pow, Int.mul_one]
theorem ofFn_getD (F : Nat → Int) (N i : Nat) : ((List.range N).map F).getD i 0 = if i < N then F i else 0 := by
  rw [List.getD_eq_getElem?_getD, List.getElem?_map]
  by_cases h : i < N
  · simp [h]
  · rw [List.getElem?_eq_none (by simpa using h), if_neg h]; rfl
theorem ev_ofFn (F : Nat → Int) (N : Nat) (u : Int) : ev ((List.range N).map F) u = sm (fun i => F i * u ^ i) N := by
  rw [ev_sm _ u (N := N) (by simp)]
  exact sm_congr _ fun i hi => by rw [ofFn_getD, if_pos hi]
/-! ### sums, products -/
def zipA (p q : List Int) : List Int := (List.range (max p.length q.length)).map fun i => p.getD i 0 + q.getD i 0
def pAdd (p q : List Int) : List Int := trimI (zipA p q)
def pScale (p : List Int) (c : Int) : List Int := trimI (p.map (· * c))
def conv (p q : List Int) : List Int := (List.range (p.length + q.length - 1)).map fun i => sm (fun k => p.getD k 0 * q.getD (i - k) 0) (i + 1)
def pMul (p q : List Int) : List Int := trimI (conv p q)
def pPow (p : List Int) : Nat → List Int
  | 0 => trimI [1]
  | n + 1 => pMul (pPow p n) p
theorem ev_pAdd (p q : List Int) (u : Int) : ev (pAdd p q) u = ev p u + ev q u := by
  rw [pAdd, ev_trimI, zipA, ev_ofFn, ev_sm p u (N := max p.length q.length) (Nat.le_max_left _ _), ev_sm q u (N := max p.length q.length) (Nat.le_max_right _ _), ← sm_add]
  exact sm_congr _ fun i _ => Int.add_mul _ _ _
theorem ev_pScale (p : List Int) (c u : Int) : ev (pScale p c) u = ev p u * c := by
  rw [pScale, ev_trimI]
  induction p with
  | nil => simp [ev]
  | cons a r ih => rw [List.map_cons, ev, ev, ih, Int.add_mul, Int.mul_assoc]
theorem ev_pMul (p q : List Int) (u : Int) : ev (pMul p q) u = ev p u * ev q u := by
  rw [pMul, ev_trimI, conv, ev_ofFn]
  have h1 : sm (fun i => sm (fun k => p.getD k 0 * q.getD (i - k) 0) (i + 1) * u ^ i) (p.length + q.length - 1)
      = sm (fun i => sm (fun k => p.getD k 0 * q.getD (i - k) 0 * u ^ i) (i + 1)) (p.length + q.length - 1) := sm_congr _ fun i _ => (sm_mulr _ _ _).symm
  rw [h1, sm_tri (fun k i => p.getD k 0 * q.getD (i - k) 0 * u ^ i)]
  rcases Nat.eq_zero_or_pos q.length with hq | hq
  · have e : q = [] := List.length_eq_zero_iff.1 hq
    subst e
    rw [sm_zero _ fun i _ => sm_zero _ fun k _ => by simp]
    simp [ev]
  · have hN : p.length ≤ p.length + q.length - 1 := by omega
    rw [ev_sm p u hN, ← sm_mulr]
    refine sm_congr _ fun i hi => ?_
    by_cases hip : i < p.length
    · rw [ev_sm q u (N := p.length + q.length - 1 - i) (by omega), ← sm_mul]
      refine sm_congr _ fun k _ => ?_
      rw [show i + k - i = k by omega, Int.pow_add]
      simp only [Int.mul_comm, Int.mul_left_comm, Int.mul_assoc]
    · have e : p.getD i 0 = 0 := by rw [List.getD_eq_getElem?_getD, List.getElem?_eq_none (by omega)]; rfl
      rw [sm_zero _ fun k _ => by rw [e, Int.zero_mul, Int.zero_mul], e, Int.zero_mul, Int.zero_mul]
theorem ev_one (u : Int) : ev (trimI [1]) u = 1 := by rw [ev_trimI]; simp [ev]
theorem ev_pPow (p : List Int) (u : Int) : ∀ n, ev (pPow p n) u = ev p u ^ n
  | 0 => by rw [pPow, ev_one, Int.pow_zero]
  | n + 1 => by rw [pPow, ev_pMul, ev_pPow p u n, Int.pow_succ]
theorem zipA_length (p q : List Int) : (zipA p q).length = max p.length q.length := by simp [zipA]
theorem conv_length (p q : List Int) : (conv p q).length = p.length + q.length - 1 := by simp [conv]
theorem pAdd_length (p q : List Int) : (pAdd p q).length ≤ max p.length q.length := by rw [← zipA_length]; exact trimI_length _
theorem pScale_length (p : List Int) (c : Int) : (pScale p c).length ≤ p.length := by rw [pScale]; exact Nat.le_trans (trimI_length _) (by simp)
theorem pMul_length (p q : List Int) : (pMul p q).length ≤ p.length + q.length - 1 := by rw [← conv_length]; exact trimI_length _
theorem pPow_length {p : List Int} {m : Nat} (h : p.length ≤ m + 1) : ∀ n, (pPow p n).length ≤ m * n + 1
  | 0 => by simp [pPow, trimI]
  | n + 1 => by
    have h1 := pMul_length (pPow p n) p
    have h2 := pPow_length h n
    rw [pPow, Nat.mul_succ]; omega
/-! ### bounds -/
def bd (B : Nat) (p : List Int) : Prop := ∀ x ∈ p, x.natAbs < 2 ^ B
theorem bd_mono {B C : Nat} {p : List Int} (h : bd B p) (hc : B ≤ C) : bd C p := fun x hx => Nat.lt_of_lt_of_le (h x hx) (Nat.pow_le_pow_right (by decide) hc)
theorem bd_trimI {B : Nat} {p : List Int} (h : bd B p) : bd B (trimI p) := fun x hx => h x (trimI_mem hx)
theorem bd_get {B : Nat} {p : List Int} (h : bd B p) (i : Nat) : (p.getD i 0).natAbs < 2 ^ B := getD_abs h i
theorem bd_pAdd {B : Nat} {p q : List Int} (hp : bd B p) (hq : bd B q) : bd (B + 1) (pAdd p q) := by
  refine bd_trimI fun x hx => ?_
  obtain ⟨i, _, rfl⟩ := List.mem_map.1 hx
  have h1 := bd_get hp i
  have h2 := bd_get hq i
  rw [Nat.pow_succ]
  generalize 2 ^ B = K at *
  omega
theorem bd_pScale {B C : Nat} {p : List Int} {c : Int} (hp : bd B p) (hc : c.natAbs < 2 ^ C) : bd (B + C) (pScale p c) := by
  refine bd_trimI fun x hx => ?_
  obtain ⟨y, hy, rfl⟩ := List.mem_map.1 hx
  rw [Int.natAbs_mul, Nat.pow_add]
  exact Nat.mul_lt_mul'' (hp y hy) hc
theorem sm_lt64 {f : Nat → Int} {B m : Nat} (hm : m ≤ 64) (h : ∀ i, i < m → (f i).natAbs < 2 ^ B) : (sm f m).natAbs < 2 ^ (B + 7) := by
  have h1 := sm_abs m (fun i hi => Nat.le_of_lt (h i hi))
  have h2 : m * 2 ^ B ≤ 64 * 2 ^ B := Nat.mul_le_mul_right _ hm
  have hp : 0 < 2 ^ B := Nat.pow_pos (by decide)
  rw [Nat.pow_add, show (2 : Nat) ^ 7 = 128 from rfl]
  omega
theorem conv_bd {B C : Nat} {p q : List Int} (hp : bd B p) (hq : bd C q) (hl : p.length + q.length ≤ 64) (i m : Nat) (hm : m ≤ i + 1) (hi : i < p.length + q.length - 1) :
    (sm (fun k => p.getD k 0 * q.getD (i - k) 0) m).natAbs < 2 ^ (B + C + 7) :=
  sm_lt64 (by omega) fun k _ => by
    rw [Int.natAbs_mul, Nat.pow_add]
    exact Nat.mul_lt_mul'' (bd_get hp k) (bd_get hq (i - k))
theorem bd_pMul {B C : Nat} {p q : List Int} (hp : bd B p) (hq : bd C q) (hl : p.length + q.length ≤ 64) : bd (B + C + 7) (pMul p q) := by
  refine bd_trimI fun x hx => ?_
  obtain ⟨i, hi, rfl⟩ := List.mem_map.1 hx
  exact conv_bd hp hq hl i (i + 1) (Nat.le_refl _) (List.mem_range.1 hi)
theorem bd_pPow {B m : Nat} {p : List Int} (hp : bd B p) (hl : p.length ≤ m + 1) : ∀ n, m * n + m ≤ 62 → bd ((B + 7) * n + 1) (pPow p n)
  | 0, _ => by intro x hx; simp [pPow, trimI] at hx; subst hx; simp
  | n + 1, h => by
    have ih := bd_pPow hp hl n (by rw [Nat.mul_succ] at h; omega)
    have h1 := pPow_length hl n
    have := bd_pMul ih hp (by rw [Nat.mul_succ] at h; omega)
    refine bd_mono this ?_
    rw [Nat.mul_succ]; omega
/-! ### forms from values -/
theorem trans_trim (q : List Int) (c : Int) (n : Nat) : trans (trimI q) c n = trans q c n := by
  refine List.map_congr_left fun j _ => ?_
  exact sm_congr _ fun i _ => by rw [trimI_getD]
/-- The form whose value a polynomial has. -/
theorem form_of {q H : List Int} {n : Nat} (hH : H.length = n + 1) (h : ∀ u : Int, 1 ≤ u → ev q u = hev H u (1 - u)) : trans q 1 n = H := by
  have h1 : trimI q = trimI (trans H (-1) n) := ev_uniq _ _ fun u hu => by
    rw [h u hu, ev_hev, trans_full hH, Int.neg_mul, Int.one_mul]
    congr 1; omega
  rw [← trans_trim, h1, trans_trim]
  refine hev_uniq (by rw [trans_length, hH]) fun x _ => ?_
  rw [trans_full (trans_length _ _ _), trans_full hH]
  congr 1; omega
theorem poly_length {q H : List Int} {n : Nat} (hH : H.length = n + 1) (h : ∀ u : Int, 1 ≤ u → ev q u = hev H u (1 - u)) : (trimI q).length ≤ n + 1 := by
  have h1 : trimI q = trimI (trans H (-1) n) := ev_uniq _ _ fun u hu => by
    rw [h u hu, ev_hev, trans_full hH, Int.neg_mul, Int.one_mul]
    congr 1; omega
  rw [h1]; exact Nat.le_trans (trimI_length _) (by rw [trans_length]; exact Nat.le_refl _)
/-- The halves of a form. -/
def leftH (f : List Int) (n : Nat) : List Int := scaleP 2 n (trans f 1 n)
def rightH (f : List Int) (n : Nat) : List Int := (leftH f.reverse n).reverse
theorem leftH_length (f : List Int) (n : Nat) : (leftH f n).length = n + 1 := by simp [leftH, scaleP]
theorem rightH_length (f : List Int) (n : Nat) : (rightH f n).length = n + 1 := by simp [rightH, leftH_length]
theorem leftH_hev {f : List Int} {n : Nat} (h : f.length = n + 1) (x y : Int) : hev (leftH f n) x y = hev f x (x + 2 * y) := by
  rw [leftH, scaleP_hev (trans_length _ _ _), trans_full h, Int.one_mul]
theorem rightH_hev {f : List Int} {n : Nat} (h : f.length = n + 1) (x y : Int) : hev (rightH f n) x y = hev f (y + 2 * x) y := by
  rw [rightH, hev_reverse, leftH_hev (by simpa using h), hev_reverse]
/-- A polynomial at x / s, times s to the power n. -/
def hom (n : Nat) (p : List Int) (x s : Int) : Int := sm (fun i => p.getD i 0 * (x ^ i * s ^ (n - i))) (n + 1)
theorem hom_trim (n : Nat) (p : List Int) (x s : Int) : hom n (trimI p) x s = hom n p x s := sm_congr _ fun i _ => by rw [trimI_getD]
theorem hom_hev {p : List Int} {n : Nat} (h : p.length ≤ n + 1) (x s : Int) : hom n p x s = s ^ (n + 1 - p.length) * hev p x s := hev_deg h x s
theorem hom_full {p : List Int} {n : Nat} (h : p.length = n + 1) (x s : Int) : hom n p x s = hev p x s := by
  rw [hom_hev (by omega), h, Nat.sub_self, Int.pow_zero, Int.one_mul]
end Go.Dg

namespace Go.Proofs.Ytnpclmmmngmdkaa
open Go.Vl Go.RowKit Go.Dg

theorem wrap_len {n : Nat} (h : 0 < n) (hn : n < 9223372036854775808) : IntKind.i64.wrap ((n : Int) - 1) = ((n - 1 : Nat) : Int) := by rw [wrap_i64 (by omega) (by omega)]; omega
theorem rPTrim_v (xs : List Int) (hl : xs.length ≤ 1000000) : SoundAt Try.prog 70 [rL xs] (rL (trimI xs)) := by
  refine sound_go (tb := []) 22 [.tmp 2] [0, 2, 15] mixed Try.func70 rfl (by kernel_rfl) (by kernel_rfl) (by kernel_rfl) (by kernel_rfl) ?_
  simp -implicitDefEqProofs only [go_sem, Nat.reduceAdd, Nat.reduceMul, Nat.reduceEqDiff, Nat.reduceLT, Nat.reduceLeDiff, Nat.reduceSub, Nat.reduceBEq, reduceIte, reduceCtorEq, Int.reduceEq, Int.reduceNe, Nat.reduceBneDiff, Int.reduceLE, Int.reduceLT, Int.reduceToNat, Int.reduceAdd, Int.reduceSub, Int.reduceMul, Int.reduceNeg, rL]
  refine g_loop mixed (fun m : { m : Nat // m ≤ xs.length ∧ trimI (xs.take m) = trimI xs } => St.of [(0, rL (xs.take m.1))] []) (fun m => m.1) ⟨xs.length, Nat.le_refl _, by rw [List.take_length]⟩ ?_ ?_
  · exact le_vars (by simp [varsLe, lkp, ren1, ren0, rL])
  · rintro ⟨m, hm, ht⟩
    have hlen : (xs.take m).length = m := by rw [List.length_take]; omega
    simp only
    cases m with
    | zero =>
      have g1 : ((0 : Int) < ((0 : Nat) : Int)) = False := by simp
      have e : trimI xs = [] := by rw [← ht]; rfl
      repeat (first | (simp -implicitDefEqProofs only [go_sem, Nat.reduceAdd, Nat.reduceMul, Nat.reduceEqDiff, Nat.reduceLT, Nat.reduceLeDiff, Nat.reduceSub, Nat.reduceBEq, reduceIte, reduceCtorEq, Int.reduceEq, Int.reduceNe, Nat.reduceBneDiff, Int.reduceLE, Int.reduceLT, Int.reduceToNat, Int.reduceAdd, Int.reduceSub, Int.reduceMul, Int.reduceNeg, rL, List.length_map, hlen, g1, e, List.take_zero, List.map_nil, List.length_nil]) | (with_reducible exact drawQ_true _ _ (by kernel_rfl)) | (with_reducible refine And.intro (drawQ_true _ _ (by kernel_rfl)) ?_))
    | succ m =>
      have g1 : ((0 : Int) < ((m + 1 : Nat) : Int)) = True := by simp only [eq_iff_iff, iff_true]; omega
      have hlt : m < (xs.take (m + 1)).length := by omega
      have w1 : IntKind.i64.wrap (((m + 1 : Nat) : Int) - 1) = (m : Int) := by rw [wrap_i64 (by omega) (by omega)]; omega
      have h0 := nnT m
      have hg := rI_get (xs.take (m + 1)) m hlt
      have hgm : (xs.take (m + 1))[m] = xs[m]'(by omega) := List.getElem_take
      have htk : xs.take (m + 1) = xs.take m ++ [xs[m]'(by omega)] := take_snoc xs m (by omega)
      have hrs := rsign_v ((xs.take (m + 1))[m])
      by_cases hz : xs[m]'(by omega) = 0
      · have g2 : (((xs.take (m + 1))[m]).sign == 0) = true := by rw [hgm, hz]; rfl
        have e1 : ((xs.take (m + 1)).map rI).take m = (xs.take m).map rI := by rw [← List.map_take, List.take_take, Nat.min_eq_left (by omega)]
        have g3 : ((m : Int) ≤ ((m + 1 : Nat) : Int)) = True := by simp only [eq_iff_iff, iff_true]; omega
        have hcl : (((xs.take (m + 1)).map rI).all fun x => x.cells.length == 2) = true := by rw [List.all_map, List.all_eq_true]; intro _ _; rfl
        repeat (first | (simp -implicitDefEqProofs only [go_sem, Nat.reduceAdd, Nat.reduceMul, Nat.reduceEqDiff, Nat.reduceLT, Nat.reduceLeDiff, Nat.reduceSub, Nat.reduceBEq, reduceIte, reduceCtorEq, Int.reduceEq, Int.reduceNe, Nat.reduceBneDiff, Int.reduceLE, Int.reduceLT, Int.reduceToNat, Int.reduceAdd, Int.reduceSub, Int.reduceMul, Int.reduceNeg, rL, rI, di, List.length_map, hlen, g1, g2, g3, w1, h0, hg, Int.toNat_natCast, hcl, e1]) | ((with_reducible refine gcall_eq (hrs) ?_ ?_ ?_); (with_reducible rfl); rfl) | (with_reducible exact drawQ_true _ _ (by kernel_rfl)) | (with_reducible refine And.intro (drawQ_true _ _ (by kernel_rfl)) ?_))
        refine ⟨⟨m, by omega, ?_⟩, by simp only; omega, le_vars (by simp [varsLe, lkp, ren1, ren0, rL])⟩
        rw [← ht, htk, hz, trimI_snoc0]
      · have g2 : (((xs.take (m + 1))[m]).sign == 0) = false := by rw [hgm]; simp only [beq_eq_false_iff_ne, ne_eq, Int.sign_eq_zero_iff_zero]; exact hz
        have e : trimI xs = xs.take (m + 1) := by rw [← ht, htk, trimI_last _ _ hz]
        repeat (first | (simp -implicitDefEqProofs only [go_sem, Nat.reduceAdd, Nat.reduceMul, Nat.reduceEqDiff, Nat.reduceLT, Nat.reduceLeDiff, Nat.reduceSub, Nat.reduceBEq, reduceIte, reduceCtorEq, Int.reduceEq, Int.reduceNe, Nat.reduceBneDiff, Int.reduceLE, Int.reduceLT, Int.reduceToNat, Int.reduceAdd, Int.reduceSub, Int.reduceMul, Int.reduceNeg, rL, rI, di, List.length_map, hlen, g1, g2, w1, h0, hg, Int.toNat_natCast]) | ((with_reducible refine gcall_eq (hrs) ?_ ?_ ?_); (with_reducible rfl); rfl) | (with_reducible exact drawQ_true _ _ (by kernel_rfl)) | (with_reducible refine And.intro (drawQ_true _ _ (by kernel_rfl)) ?_))
        rw [e]
def intsL (l : List Int) : PV := .slc (l.map (PV.int .i64))
theorem ints_get (l : List Int) (i : Nat) (h : i < l.length) : (l.map (PV.int .i64))[i]? = some (.int .i64 l[i]) := by rw [List.getElem?_map, List.getElem?_eq_getElem h]; rfl
theorem map_take {α β : Type} (f : α → β) (l : List α) (i : Nat) (hi : i < l.length) : (l.take (i + 1)).map f = (l.take i).map f ++ [f l[i]] := by rw [take_snoc l i hi, List.map_append]; rfl
theorem rNums_v (l : List Int) (hl : l.length ≤ 1000) (hb : ∀ x ∈ l, -9223372036854775808 ≤ x ∧ x ≤ 9223372036854775807) : SoundAt Try.prog 43 [intsL l] (rL (trimI l)) := by
  refine sound_go (tb := []) 21 [.tmp 2] [0, 2, 3, 4, 8] mixed Try.func43 rfl (by kernel_rfl) (by kernel_rfl) (by kernel_rfl) (by kernel_rfl) ?_
  simp -implicitDefEqProofs only [go_sem, Nat.reduceAdd, Nat.reduceMul, Nat.reduceEqDiff, Nat.reduceLT, Nat.reduceLeDiff, Nat.reduceSub, Nat.reduceBEq, reduceIte, reduceCtorEq, Int.reduceEq, Int.reduceNe, Nat.reduceBneDiff, Int.reduceLE, Int.reduceLT, Int.reduceToNat, Int.reduceAdd, Int.reduceSub, Int.reduceMul, Int.reduceNeg, intsL]
  refine g_loop mixed (fun i : { i : Nat // i ≤ l.length } => St.of [(0, intsL l), (3, .bs 7 2 0 i.1), (4, .int .i64 (i.1 : Int))]
    [(7, { els := (l.take i.1).map rI, esz := 2, ety := 63, fro := 0, live := true, arr := true })]) (fun i => l.length - i.1) ⟨0, Nat.zero_le _⟩ ?_ ?_
  · refine le_nil1 3 7 2 63 rfl rfl rfl (by decide) [(7, 7)] rfl ?_ ?_
    · simp [varsLe, lkp, ren1, ren0, intsL]
    · simp [boxesLe, lkp, Box.renames]
  · rintro ⟨i, hi⟩
    have hlen : ((l.take i).map rI).length = i := by simp; omega
    by_cases hA : i < l.length
    · have hA' := ltT hA
      have h0 := nnT i
      have hg := ints_get l i hA
      have hwk := wrap_add1 (a := i) (by omega)
      have q1 : (i == i) = true := beq_self_eq_true i
      have q2 : ((i + 1) * 32 ≤ 140737488355328) = True := by simp only [eq_iff_iff, iff_true]; omega
      have q3 : (i + 1 ≤ maxLen) = True := by simp only [eq_iff_iff, iff_true]; unfold maxLen; omega
      obtain ⟨b1, b2⟩ := hb _ (List.getElem_mem hA)
      have hf := rnum_v l[i] b1 b2
      have htk := map_take rI l i hA
      repeat (first | (simp -implicitDefEqProofs only [go_sem, Nat.reduceAdd, Nat.reduceMul, Nat.reduceEqDiff, Nat.reduceLT, Nat.reduceLeDiff, Nat.reduceSub, Nat.reduceBEq, reduceIte, reduceCtorEq, Int.reduceEq, Int.reduceNe, Nat.reduceBneDiff, Int.reduceLE, Int.reduceLT, Int.reduceToNat, Int.reduceAdd, Int.reduceSub, Int.reduceMul, Int.reduceNeg, intsL, rI, di, hA', h0, hg, Int.toNat_natCast, List.length_map, hlen, q1, q2, q3, rI_okf, hwk]) | ((with_reducible refine gcall_eq (hf) ?_ ?_ ?_); (with_reducible rfl); rfl) | (with_reducible exact drawQ_true _ _ (by kernel_rfl)) | (with_reducible refine And.intro (drawQ_true _ _ (by kernel_rfl)) ?_))
      refine ⟨⟨i + 1, hA⟩, by simp only; omega, le_of (θ := [(7, 507)]) rfl ?_ ?_⟩
      · simp [varsLe, lkp, ren1, ren0, intsL]
      · simp only [htk]
        simp [boxesLe, lkp, Box.renames, rI, di]
    · have hA' := ltF hA
      have e1 : ((l.take i).map rI).take i = l.map rI := by rw [List.take_of_length_le (by omega), List.take_of_length_le (show l.length ≤ i by omega)]
      have ht := rPTrim_v l (by omega)
      unfold rL at ht ⊢
      repeat (first | (simp -implicitDefEqProofs only [go_sem, Nat.reduceAdd, Nat.reduceMul, Nat.reduceEqDiff, Nat.reduceLT, Nat.reduceLeDiff, Nat.reduceSub, Nat.reduceBEq, reduceIte, reduceCtorEq, Int.reduceEq, Int.reduceNe, Nat.reduceBneDiff, Int.reduceLE, Int.reduceLT, Int.reduceToNat, Int.reduceAdd, Int.reduceSub, Int.reduceMul, Int.reduceNeg, intsL, hA', hlen, e1, List.length_map]) | ((with_reducible refine gcall_eq (ht) ?_ ?_ ?_); (with_reducible rfl); rfl) | (with_reducible exact drawQ_true _ _ (by kernel_rfl)) | (with_reducible refine And.intro (drawQ_true _ _ (by kernel_rfl)) ?_))
theorem rPTo_v (xs : List Int) (hl : xs.length ≤ 1000000) (hx : ∀ x ∈ xs, x.natAbs < 2 ^ 8000000) : SoundAt Try.prog 42 [rL xs] (wL xs) := by
  refine sound_go (tb := []) 20 [.tmp 2] [0, 2, 3, 4, 8] mixed Try.func42 rfl (by kernel_rfl) (by kernel_rfl) (by kernel_rfl) (by kernel_rfl) ?_
  simp -implicitDefEqProofs only [go_sem, Nat.reduceAdd, Nat.reduceMul, Nat.reduceEqDiff, Nat.reduceLT, Nat.reduceLeDiff, Nat.reduceSub, Nat.reduceBEq, reduceIte, reduceCtorEq, Int.reduceEq, Int.reduceNe, Nat.reduceBneDiff, Int.reduceLE, Int.reduceLT, Int.reduceToNat, Int.reduceAdd, Int.reduceSub, Int.reduceMul, Int.reduceNeg]
  refine g_loop mixed (fun i : { i : Nat // i ≤ xs.length } => St.of [(0, rL xs), (3, .bs 7 2 0 i.1), (4, .int .i64 (i.1 : Int))]
    [(7, { els := (xs.take i.1).map wPV, esz := 2, ety := 40, fro := 0, live := true, arr := true })]) (fun i => xs.length - i.1) ⟨0, Nat.zero_le _⟩ ?_ ?_
  · refine le_nil1 3 7 2 40 rfl rfl rfl (by decide) [(7, 7)] rfl ?_ ?_
    · simp [varsLe, lkp, ren1, ren0, rL]
    · simp [boxesLe, lkp, Box.renames]
  · rintro ⟨i, hi⟩
    have hlen : ((xs.take i).map wPV).length = i := by simp; omega
    by_cases hA : i < xs.length
    · have hA' := ltT hA
      have h0 := nnT i
      have hg := rI_get xs i hA
      have hwk := wrap_add1 (a := i) (by omega)
      have q1 : (i == i) = true := beq_self_eq_true i
      have q2 : ((i + 1) * 24 ≤ 140737488355328) = True := by simp only [eq_iff_iff, iff_true]; omega
      have q3 : (i + 1 ≤ maxLen) = True := by simp only [eq_iff_iff, iff_true]; unfold maxLen; omega
      have hf := rto_i (hx _ (List.getElem_mem hA))
      have htk := map_take wPV xs i hA
      repeat (first | (simp -implicitDefEqProofs only [go_sem, Nat.reduceAdd, Nat.reduceMul, Nat.reduceEqDiff, Nat.reduceLT, Nat.reduceLeDiff, Nat.reduceSub, Nat.reduceBEq, reduceIte, reduceCtorEq, Int.reduceEq, Int.reduceNe, Nat.reduceBneDiff, Int.reduceLE, Int.reduceLT, Int.reduceToNat, Int.reduceAdd, Int.reduceSub, Int.reduceMul, Int.reduceNeg, rL, rI, di, wPV, hA', h0, hg, Int.toNat_natCast, List.length_map, hlen, q1, q2, q3, wPV_okf, hwk]) | ((with_reducible refine gcall_eq (hf) ?_ ?_ ?_); (with_reducible rfl); rfl) | (with_reducible exact drawQ_true _ _ (by kernel_rfl)) | (with_reducible refine And.intro (drawQ_true _ _ (by kernel_rfl)) ?_))
      refine ⟨⟨i + 1, hA⟩, by simp only; omega, le_of (θ := [(7, 507)]) rfl ?_ ?_⟩
      · simp [varsLe, lkp, ren1, ren0, rL]
      · simp only [htk]
        simp [boxesLe, lkp, Box.renames, wPV]
    · have hA' := ltF hA
      have e1 : ((xs.take i).map wPV).take i = xs.map wPV := by
        rw [List.take_of_length_le (by omega), List.take_of_length_le (show xs.length ≤ i by omega)]
      simp -implicitDefEqProofs only [go_sem, Nat.reduceAdd, Nat.reduceMul, Nat.reduceEqDiff, Nat.reduceLT, Nat.reduceLeDiff, Nat.reduceSub, Nat.reduceBEq, reduceIte, reduceCtorEq, Int.reduceEq, Int.reduceNe, Nat.reduceBneDiff, Int.reduceLE, Int.reduceLT, Int.reduceToNat, Int.reduceAdd, Int.reduceSub, Int.reduceMul, Int.reduceNeg, rL, hA', hlen, e1, wL, List.length_map]
end Go.Proofs.Ytnpclmmmngmdkaa

namespace Go.Proofs.Ytnpclmmmngmdkaa
open Go.Vl Go.RowKit Go.Dg

theorem i64_p2 {n : Int} (h1 : -9223372036854775808 ≤ n) (h2 : n ≤ 9223372036854775807) : n.natAbs < 2 ^ 64 := by
  have : (2 : Nat) ^ 64 = 18446744073709551616 := rfl
  omega
theorem ll_v (l : List Int) (hl : l.length ≤ 1000) (hb : ∀ x ∈ l, -9223372036854775808 ≤ x ∧ x ≤ 9223372036854775807) : SoundAt Try.prog 19 [intsL l] (wL l) := by
  refine sound_go (tb := []) 20 [.tmp 2] [0, 2, 3, 5, 6, 7, 8, 9] mixed Try.func19 rfl (by kernel_rfl) (by kernel_rfl) (by kernel_rfl) (by kernel_rfl) ?_
  simp -implicitDefEqProofs only [go_sem, Nat.reduceAdd, Nat.reduceMul, Nat.reduceEqDiff, Nat.reduceLT, Nat.reduceLeDiff, Nat.reduceSub, Nat.reduceBEq, reduceIte, reduceCtorEq, Int.reduceEq, Int.reduceNe, Nat.reduceBneDiff, Int.reduceLE, Int.reduceLT, Int.reduceToNat, Int.reduceAdd, Int.reduceSub, Int.reduceMul, Int.reduceNeg, intsL, List.length_map]
  refine g_loop mixed (fun i : { i : Nat // i ≤ l.length } => St.of [(3, .bs 7 2 0 i.1), (6, intsL l), (7, .int .i64 (l.length : Int)), (8, .int .i64 (i.1 : Int))]
    [(7, { els := (l.take i.1).map wPV, esz := 2, ety := 40, fro := 0, live := true, arr := true })]) (fun i => l.length - i.1) ⟨0, Nat.zero_le _⟩ ?_ ?_
  · refine le_nil1 3 7 2 40 rfl rfl rfl (by decide) [(7, 7)] rfl ?_ ?_
    · simp [varsLe, lkp, ren1, ren0, intsL]
    · simp [boxesLe, lkp, Box.renames]
  · rintro ⟨i, hi⟩
    have hlen : ((l.take i).map wPV).length = i := by simp; omega
    by_cases hA : i < l.length
    · have hA' := ltT hA
      have h0 := nnT i
      have hg := ints_get l i hA
      have hwk := wrap_add1 (a := i) (by omega)
      have q1 : (i == i) = true := beq_self_eq_true i
      have q2 : ((i + 1) * 24 ≤ 140737488355328) = True := by simp only [eq_iff_iff, iff_true]; omega
      have q3 : (i + 1 ≤ maxLen) = True := by simp only [eq_iff_iff, iff_true]; unfold maxLen; omega
      obtain ⟨b1, b2⟩ := hb _ (List.getElem_mem hA)
      have hf := rnum_v l[i] b1 b2
      have hto := rto_i (p2_8M (i64_p2 b1 b2) (by decide))
      have htk := map_take wPV l i hA
      repeat (first | (simp -implicitDefEqProofs only [go_sem, Nat.reduceAdd, Nat.reduceMul, Nat.reduceEqDiff, Nat.reduceLT, Nat.reduceLeDiff, Nat.reduceSub, Nat.reduceBEq, reduceIte, reduceCtorEq, Int.reduceEq, Int.reduceNe, Nat.reduceBneDiff, Int.reduceLE, Int.reduceLT, Int.reduceToNat, Int.reduceAdd, Int.reduceSub, Int.reduceMul, Int.reduceNeg, intsL, rI, di, wPV, hA', h0, hg, Int.toNat_natCast, List.length_map, hlen, q1, q2, q3, wPV_okf, hwk]) | ((with_reducible refine gcall_eq (hf) ?_ ?_ ?_); (with_reducible rfl); rfl) | ((with_reducible refine gcall_eq (hto) ?_ ?_ ?_); (with_reducible rfl); rfl) | (with_reducible exact drawQ_true _ _ (by kernel_rfl)) | (with_reducible refine And.intro (drawQ_true _ _ (by kernel_rfl)) ?_))
      refine ⟨⟨i + 1, hA⟩, by simp only; omega, le_of (θ := [(7, 505)]) rfl ?_ ?_⟩
      · simp [varsLe, lkp, ren1, ren0, intsL]
      · simp only [htk]
        simp [boxesLe, lkp, Box.renames, wPV]
    · have hA' := ltF hA
      have e1 : ((l.take i).map wPV).take i = l.map wPV := by rw [List.take_of_length_le (by omega), List.take_of_length_le (show l.length ≤ i by omega)]
      simp -implicitDefEqProofs only [go_sem, Nat.reduceAdd, Nat.reduceMul, Nat.reduceEqDiff, Nat.reduceLT, Nat.reduceLeDiff, Nat.reduceSub, Nat.reduceBEq, reduceIte, reduceCtorEq, Int.reduceEq, Int.reduceNe, Nat.reduceBneDiff, Int.reduceLE, Int.reduceLT, Int.reduceToNat, Int.reduceAdd, Int.reduceSub, Int.reduceMul, Int.reduceNeg, intsL, hA', hlen, e1, wL, List.length_map]
theorem lp_v (l : List Int) (hl : l.length ≤ 1000) (hb : ∀ x ∈ l, -9223372036854775808 ≤ x ∧ x ≤ 9223372036854775807) : SoundAt Try.prog 18 [intsL l] (wL (trimI l)) := by
  have h1 := rNums_v l hl hb
  have h2 := rPTo_v (trimI l) (Nat.le_trans (trimI_length l) (by omega)) fun x hx => p2_8M (i64_p2 (hb x (trimI_mem hx)).1 (hb x (trimI_mem hx)).2) (by decide)
  unfold rL wL intsL at *
  refine sound_go (tb := []) 6 [.tmp 2] [0, 2] mixed Try.func18 rfl (by kernel_rfl) (by kernel_rfl) (by kernel_rfl) (by kernel_rfl) ?_
  repeat (first | (simp -implicitDefEqProofs only [go_sem, Nat.reduceAdd, Nat.reduceMul, Nat.reduceEqDiff, Nat.reduceLT, Nat.reduceLeDiff, Nat.reduceSub, Nat.reduceBEq, reduceIte, reduceCtorEq, Int.reduceEq, Int.reduceNe, Nat.reduceBneDiff, Int.reduceLE, Int.reduceLT, Int.reduceToNat, Int.reduceAdd, Int.reduceSub, Int.reduceMul, Int.reduceNeg]) | ((with_reducible refine gcall_eq (h1) ?_ ?_ ?_); (with_reducible rfl); rfl) | ((with_reducible refine gcall_eq (h2) ?_ ?_ ?_); (with_reducible rfl); rfl) | (with_reducible exact drawQ_true _ _ (by kernel_rfl)) | (with_reducible refine And.intro (drawQ_true _ _ (by kernel_rfl)) ?_))
theorem lq_v (n d : Int) (n1 : -9223372036854775808 ≤ n) (n2 : n ≤ 9223372036854775807) (d1 : -9223372036854775808 ≤ d) (d2 : d ≤ 9223372036854775807) : SoundAt Try.prog 20 [.int .i64 n, .int .i64 d] (ratPV n d) := by
  have h1 := rnum_v n n1 n2
  have h2 := rnum_v d d1 d2
  have h3 := rto_i (p2_8M (i64_p2 n1 n2) (by decide))
  have h4 := rto_i (p2_8M (i64_p2 d1 d2) (by decide))
  unfold ratPV
  refine sound_go (tb := []) 12 [.cell 4 44] [0, 1, 4] mixed Try.func20 rfl (by kernel_rfl) (by kernel_rfl) (by kernel_rfl) (by kernel_rfl) ?_
  repeat (first | (simp -implicitDefEqProofs only [go_sem, Nat.reduceAdd, Nat.reduceMul, Nat.reduceEqDiff, Nat.reduceLT, Nat.reduceLeDiff, Nat.reduceSub, Nat.reduceBEq, reduceIte, reduceCtorEq, Int.reduceEq, Int.reduceNe, Nat.reduceBneDiff, Int.reduceLE, Int.reduceLT, Int.reduceToNat, Int.reduceAdd, Int.reduceSub, Int.reduceMul, Int.reduceNeg, rI, di, wPV]) | ((with_reducible refine gcall_eq (h1) ?_ ?_ ?_); (with_reducible rfl); rfl) | ((with_reducible refine gcall_eq (h2) ?_ ?_ ?_); (with_reducible rfl); rfl) | ((with_reducible refine gcall_eq (h3) ?_ ?_ ?_); (with_reducible rfl); rfl) | ((with_reducible refine gcall_eq (h4) ?_ ?_ ?_); (with_reducible rfl); rfl) | (with_reducible exact drawQ_true _ _ (by kernel_rfl)) | (with_reducible refine And.intro (drawQ_true _ _ (by kernel_rfl)) ?_))
end Go.Proofs.Ytnpclmmmngmdkaa

namespace Go.Dg

theorem pMul_nil {p q : List Int} (h : p = [] ∨ q = []) : pMul p q = [] := by
  rw [pMul]
  refine ev_zero _ fun u _ => ?_
  rw [← ev_trimI]
  show ev (pMul p q) u = 0
  rw [ev_pMul]
  rcases h with rfl | rfl <;> simp [ev]
/-- Composition, as the sum of its terms. -/
def compS (p : List Int) (a b d : Int) : Nat → List Int
  | 0 => []
  | i + 1 => pAdd (compS p a b d i) (pScale (pPow (trimI [a, b]) i) (p.getD i 0 * d ^ (p.length - 1 - i)))
theorem trimI_pair_len (a b : Int) : (trimI [a, b]).length ≤ 1 + 1 := trimI_length _
theorem ev_pair (a b u : Int) : ev (trimI [a, b]) u = a + b * u := by rw [ev_trimI]; simp [ev, Int.mul_comm]
theorem ev_compS (p : List Int) (a b d u : Int) : ∀ i, ev (compS p a b d i) u = sm (fun k => p.getD k 0 * ((a + b * u) ^ k * d ^ (p.length - 1 - k))) i
  | 0 => rfl
  | i + 1 => by
    rw [compS, ev_pAdd, ev_compS p a b d u i, ev_pScale, ev_pPow, ev_pair, sm]
    congr 1
    simp only [Int.mul_comm, Int.mul_left_comm, Int.mul_assoc]
theorem ev_comp (p : List Int) (a b d u : Int) : ev (compS p a b d p.length) u = hev p (a + b * u) d := by rw [ev_compS, hev_sm]
theorem compS_trim (p : List Int) (a b d : Int) : ∀ i, trimI (compS p a b d i) = compS p a b d i
  | 0 => rfl
  | i + 1 => by rw [compS, pAdd, trimI_idem]
theorem compS_length (p : List Int) (a b d : Int) : ∀ i, (compS p a b d i).length ≤ i
  | 0 => Nat.le_refl _
  | i + 1 => by
    rw [compS]
    have h1 := pAdd_length (compS p a b d i) (pScale (pPow (trimI [a, b]) i) (p.getD i 0 * d ^ (p.length - 1 - i)))
    have h2 := compS_length p a b d i
    have h3 := pScale_length (pPow (trimI [a, b]) i) (p.getD i 0 * d ^ (p.length - 1 - i))
    have h4 := pPow_length (m := 1) (trimI_pair_len a b) i
    omega
theorem bd_pair {B : Nat} {a b : Int} (ha : a.natAbs < 2 ^ B) (hb : b.natAbs < 2 ^ B) : bd B (trimI [a, b]) := bd_trimI fun x hx => by
  rcases List.mem_cons.1 hx with rfl | hx
  · exact ha
  · rw [List.mem_singleton] at hx; subst hx; exact hb
theorem pow_abs_lt {d : Int} {D : Nat} (h : d.natAbs < 2 ^ D) (k : Nat) : (d ^ k).natAbs < 2 ^ (D * k + 1) := by
  rw [Int.natAbs_pow]
  have h1 : d.natAbs ^ k ≤ (2 ^ D) ^ k := Nat.pow_le_pow_left (Nat.le_of_lt h) k
  rw [← Nat.pow_mul] at h1
  rw [Nat.pow_succ]
  have := Nat.pow_pos (n := D * k) (show 0 < 2 by decide)
  omega
/-- The bound of a composition's terms. -/
theorem bd_compS {B C D : Nat} {p : List Int} {a b d : Int} (hp : bd B p) (ha : a.natAbs < 2 ^ C) (hb : b.natAbs < 2 ^ C) (hd : d.natAbs < 2 ^ D) (hl : p.length ≤ 30) :
    ∀ i, i ≤ p.length → bd ((C + 7) * 30 + 1 + (B + (D * 30 + 1)) + i) (compS p a b d i)
  | 0, _ => fun x hx => by cases hx
  | i + 1, h => by
    have ih := bd_compS hp ha hb hd hl i (by omega)
    have h1 := bd_pPow (m := 1) (bd_pair ha hb) (trimI_pair_len a b) i (by omega)
    have h2 : (C + 7) * i ≤ (C + 7) * 30 := Nat.mul_le_mul_left _ (by omega)
    have h3 := pow_abs_lt hd (p.length - 1 - i)
    have h4 : D * (p.length - 1 - i) ≤ D * 30 := Nat.mul_le_mul_left _ (by omega)
    have h5 : (p.getD i 0 * d ^ (p.length - 1 - i)).natAbs < 2 ^ (B + (D * 30 + 1)) := by
      rw [Int.natAbs_mul, Nat.pow_add]
      exact Nat.mul_lt_mul'' (bd_get hp i) (Nat.lt_of_lt_of_le h3 (Nat.pow_le_pow_right (by decide) (by omega)))
    have h6 := bd_pScale (bd_mono h1 (show (C + 7) * i + 1 ≤ (C + 7) * 30 + 1 by omega)) h5
    exact bd_pAdd ih (bd_mono h6 (Nat.le_add_right _ i))
/-- The polynomial of a form, as the sum of its terms. -/
def polyS (f : List Int) (n : Nat) : Nat → List Int
  | 0 => []
  | j + 1 => pAdd (polyS f n j) (pScale (pMul (pPow (trimI [0, 1]) j) (pPow (trimI [1, -1]) (n - j))) (f.getD j 0))
theorem ev_polyS (f : List Int) (n : Nat) (u : Int) : ∀ j, ev (polyS f n j) u = sm (fun i => f.getD i 0 * (u ^ i * (1 - u) ^ (n - i))) j
  | 0 => rfl
  | j + 1 => by
    rw [polyS, ev_pAdd, ev_polyS f n u j, ev_pScale, ev_pMul, ev_pPow, ev_pPow, ev_pair, ev_pair, sm]
    congr 1
    rw [show (0 : Int) + 1 * u = u by omega, show (1 : Int) + -1 * u = 1 - u by omega, Int.mul_comm]
theorem ev_poly {f : List Int} {n : Nat} (h : f.length = n + 1) (u : Int) : ev (polyS f n (n + 1)) u = hev f u (1 - u) := by
  rw [ev_polyS, hev_sm, h]; rfl
theorem polyS_trim (f : List Int) (n : Nat) : ∀ i, trimI (polyS f n i) = polyS f n i
  | 0 => rfl
  | i + 1 => by rw [polyS, pAdd, trimI_idem]
/-- It is what the coefficients say. -/
theorem polyS_eq {f : List Int} {n : Nat} (h : f.length = n + 1) : polyS f n (n + 1) = trimI (trans f (-1) n) := by
  rw [← polyS_trim]
  refine ev_uniq _ _ fun u _ => ?_
  rw [ev_poly h, ev_hev, trans_full h, Int.neg_mul, Int.one_mul]
  congr 1; omega
theorem bd_polyS {B n : Nat} {f : List Int} (hf : bd B f) (hn : n ≤ 24) : ∀ j, j ≤ n + 1 → bd (400 + B + j) (polyS f n j)
  | 0, _ => fun x hx => by cases hx
  | j + 1, h => by
    have ih := bd_polyS hf hn j (by omega)
    have h1 := bd_pPow (B := 1) (m := 1) (bd_pair (a := 0) (b := 1) (by decide) (by decide)) (trimI_pair_len 0 1) j (by omega)
    have h2 := bd_pPow (B := 1) (m := 1) (bd_pair (a := 1) (b := -1) (by decide) (by decide)) (trimI_pair_len 1 (-1)) (n - j) (by omega)
    have l1 := pPow_length (m := 1) (trimI_pair_len 0 1) j
    have l2 := pPow_length (m := 1) (trimI_pair_len 1 (-1)) (n - j)
    have h3 := bd_pMul (bd_mono h1 (show (1 + 7) * j + 1 ≤ 193 by omega)) (bd_mono h2 (show (1 + 7) * (n - j) + 1 ≤ 193 by omega)) (by omega)
    have h4 := bd_pScale (bd_mono h3 (show 193 + 193 + 7 ≤ 400 by decide)) (bd_get hf j)
    exact bd_pAdd ih (bd_mono h4 (Nat.le_add_right _ j))
theorem polyS_length {f : List Int} {n : Nat} (h : f.length = n + 1) : (polyS f n (n + 1)).length ≤ n + 1 := by
  rw [polyS_eq h]; exact Nat.le_trans (trimI_length _) (by rw [trans_length]; exact Nat.le_refl _)
theorem polyS_len (f : List Int) (n : Nat) : ∀ j, j ≤ n + 1 → (polyS f n j).length ≤ n + 1
  | 0, _ => Nat.zero_le _
  | j + 1, h => by
    have a1 := polyS_len f n j (by omega)
    have a2 := pAdd_length (polyS f n j) (pScale (pMul (pPow (trimI [0, 1]) j) (pPow (trimI [1, -1]) (n - j))) (f.getD j 0))
    have a3 := pScale_length (pMul (pPow (trimI [0, 1]) j) (pPow (trimI [1, -1]) (n - j))) (f.getD j 0)
    have a4 := pMul_length (pPow (trimI [0, 1]) j) (pPow (trimI [1, -1]) (n - j))
    have a5 := pPow_length (m := 1) (trimI_pair_len 0 1) j
    have a6 := pPow_length (m := 1) (trimI_pair_len 1 (-1)) (n - j)
    rw [polyS]; omega
/-- The halves, by way of the polynomial. -/
def halfP (f : List Int) (n : Nat) (a : Int) : List Int := pScale (compS (polyS f n (n + 1)) a 1 2 (polyS f n (n + 1)).length) (2 ^ (n - ((polyS f n (n + 1)).length - 1)))
theorem ev_halfP {f : List Int} {n : Nat} (h : f.length = n + 1) (a u : Int) : ev (halfP f n a) u = hev f (a + u) (2 - (a + u)) := by
  have hl := polyS_length h
  rw [halfP, ev_pScale, ev_comp, Int.one_mul]
  have h1 := hom_hev hl (a + u) 2
  have h2 : hom n (polyS f n (n + 1)) (a + u) 2 = hev f (a + u) (2 - (a + u)) := by
    rw [polyS_eq h, hom_trim, hom_full (trans_length _ _ _), trans_full h, Int.neg_mul, Int.one_mul]
    congr 1; omega
  rw [← h2, h1, Int.mul_comm]
  rcases Nat.eq_zero_or_pos (polyS f n (n + 1)).length with h0 | h0
  · rw [List.length_eq_zero_iff.1 h0]; simp [hev]
  · congr 2; omega
theorem halfP_trim (f : List Int) (n : Nat) (a : Int) : trimI (halfP f n a) = halfP f n a := by rw [halfP, pScale, trimI_idem]
theorem halfP_left {f : List Int} {n : Nat} (h : f.length = n + 1) : trans (halfP f n 0) 1 n = leftH f n ∧ (halfP f n 0).length ≤ n + 1 := by
  have key : ∀ u : Int, 1 ≤ u → ev (halfP f n 0) u = hev (leftH f n) u (1 - u) := fun u _ => by
    rw [ev_halfP h, leftH_hev h, Int.zero_add]
    congr 1; omega
  refine ⟨form_of (leftH_length _ _) key, ?_⟩
  have := poly_length (leftH_length _ _) key
  rwa [halfP_trim] at this
theorem halfP_right {f : List Int} {n : Nat} (h : f.length = n + 1) : trans (halfP f n 1) 1 n = rightH f n ∧ (halfP f n 1).length ≤ n + 1 := by
  have key : ∀ u : Int, 1 ≤ u → ev (halfP f n 1) u = hev (rightH f n) u (1 - u) := fun u _ => by
    rw [ev_halfP h, rightH_hev h]
    congr 1 <;> omega
  refine ⟨form_of (rightH_length _ _) key, ?_⟩
  have := poly_length (rightH_length _ _) key
  rwa [halfP_trim] at this
end Go.Dg
