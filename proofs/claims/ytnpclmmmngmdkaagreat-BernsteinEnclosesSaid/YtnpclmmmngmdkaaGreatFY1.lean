/-
  FN15, FN16, FN17, FY1 (merged for the claim).
-/
import Derived.Test.YtnpclmmmngmdkaaGreatFN14
import Derived.Test.YtnpclmmmngmdkaaGreatBn
import Derived.Test.YtnpclmmmngmdkaaGreatRows
import Derived.Test.YtnpclmmmngmdkaaGreatDn
set_option linter.unusedSimpArgs false
set_option linter.unusedVariables false
namespace Go.Proofs.YtnpclmmmngmdkaaGreat
open Go.Vl Go.RowKit Go.Dg

/-- One ratio is less than another one. -/
def ltQ (x y : Int × Int) : Prop := x.1 * y.2 < y.1 * x.2
theorem ltQ_le {x y z : Int × Int} (hx : 0 < x.2) (hy : 0 < y.2) (hz : 0 < z.2) (h1 : ltQ x y) (h2 : ¬ ltQ z y) : ltQ x z := by
  unfold ltQ at *
  have a1 : (x.1 * y.2) * z.2 < (y.1 * x.2) * z.2 := Int.mul_lt_mul_of_pos_right h1 hz
  have a2 : (y.1 * z.2) * x.2 ≤ (z.1 * y.2) * x.2 := Int.mul_le_mul_of_nonneg_right (by omega) (Int.le_of_lt hx)
  have e1 : (x.1 * y.2) * z.2 = (x.1 * z.2) * y.2 := Int.mul_right_comm _ _ _
  have e2 : (y.1 * x.2) * z.2 = (y.1 * z.2) * x.2 := Int.mul_right_comm _ _ _
  have e3 : (z.1 * y.2) * x.2 = (z.1 * x.2) * y.2 := Int.mul_right_comm _ _ _
  exact Int.lt_of_mul_lt_mul_right (a := y.2) (by omega) (Int.le_of_lt hy)
theorem le_ltQ {x y z : Int × Int} (hx : 0 < x.2) (hy : 0 < y.2) (hz : 0 < z.2) (h1 : ¬ ltQ y x) (h2 : ltQ y z) : ltQ x z := by
  unfold ltQ at *
  have a1 : (x.1 * y.2) * z.2 ≤ (y.1 * x.2) * z.2 := Int.mul_le_mul_of_nonneg_right (by omega) (Int.le_of_lt hz)
  have a2 : (y.1 * z.2) * x.2 < (z.1 * y.2) * x.2 := Int.mul_lt_mul_of_pos_right h2 hx
  have e1 : (x.1 * y.2) * z.2 = (x.1 * z.2) * y.2 := Int.mul_right_comm _ _ _
  have e2 : (y.1 * x.2) * z.2 = (y.1 * z.2) * x.2 := Int.mul_right_comm _ _ _
  have e3 : (z.1 * y.2) * x.2 = (z.1 * x.2) * y.2 := Int.mul_right_comm _ _ _
  exact Int.lt_of_mul_lt_mul_right (a := y.2) (by omega) (Int.le_of_lt hy)
theorem ltQ_irrefl (x : Int × Int) : ¬ ltQ x x := Int.lt_irrefl _
theorem ltQ_asymm {x y : Int × Int} (h : ltQ x y) : ¬ ltQ y x := by unfold ltQ at *; omega
theorem ltQ_trans {x y z : Int × Int} (hx : 0 < x.2) (hy : 0 < y.2) (hz : 0 < z.2) (h1 : ltQ x y) (h2 : ltQ y z) : ltQ x z := ltQ_le hx hy hz h1 (ltQ_asymm h2)
theorem nltQ_trans {x y z : Int × Int} (hx : 0 < x.2) (hy : 0 < y.2) (hz : 0 < z.2) (h1 : ¬ ltQ x y) (h2 : ¬ ltQ y z) : ¬ ltQ x z := fun h => h1 (ltQ_le hx hz hy h h2)
/-- One ratio is better than another one. -/
def bt (g : Bool) (r b : Int × Int) : Prop := if g = true then ltQ b r else ltQ r b
instance (g : Bool) (r b : Int × Int) : Decidable (bt g r b) := by unfold bt ltQ; infer_instance
theorem bstep_pos {g : Bool} {b r : Int × Int} (hb : 0 < b.2) : bstep g b r = if bt g r b then r else b := by
  unfold bstep bt ltQ
  by_cases hg : g = true
  · simp only [hg, if_true, show ¬ b.2 = 0 by omega, false_or]
  · simp only [hg, if_false, show ¬ b.2 = 0 by omega, false_or, Bool.false_eq_true]
theorem bt_trans {g : Bool} {x y z : Int × Int} (hx : 0 < x.2) (hy : 0 < y.2) (hz : 0 < z.2) (h1 : bt g x y) (h2 : bt g y z) : bt g x z := by
  cases g with
  | true => exact ltQ_trans hz hy hx h2 h1
  | false => exact ltQ_trans hx hy hz h1 h2
theorem nbt_trans {g : Bool} {x y z : Int × Int} (hx : 0 < x.2) (hy : 0 < y.2) (hz : 0 < z.2) (h1 : ¬ bt g x y) (h2 : ¬ bt g y z) : ¬ bt g x z := by
  cases g with
  | true => exact nltQ_trans hz hy hx h2 h1
  | false => exact nltQ_trans hx hy hz h1 h2
theorem bt_irrefl (g : Bool) (x : Int × Int) : ¬ bt g x x := by cases g <;> exact ltQ_irrefl x
theorem bstep_assoc {g : Bool} {b m r : Int × Int} (hb : 0 < b.2) (hm : 0 < m.2) (hr : 0 < r.2) : bstep g (bstep g b m) r = bstep g b (bstep g m r) := by
  rw [bstep_pos (b := b) (r := m) hb, bstep_pos (b := m) (r := r) hm]
  by_cases P : bt g m b
  · rw [if_pos P, bstep_pos hm]
    by_cases Q : bt g r m
    · rw [if_pos Q, bstep_pos hb, if_pos (bt_trans hr hm hb Q P)]
    · rw [if_neg Q, bstep_pos hb, if_pos P]
  · rw [if_neg P, bstep_pos hb]
    by_cases Q : bt g r m
    · rw [if_pos Q, bstep_pos hb]
    · rw [if_neg Q, bstep_pos hb, if_neg P, if_neg (nbt_trans hr hm hb Q P)]
theorem fold_assoc {g : Bool} : ∀ (l : List (Int × Int)) (b m : Int × Int), 0 < b.2 → 0 < m.2 → (∀ r ∈ l, 0 < r.2) → l.foldl (bstep g) (bstep g b m) = bstep g b (l.foldl (bstep g) m)
  | [], _, _, _, _, _ => rfl
  | r :: l, b, m, hb, hm, h => by
    rw [List.foldl_cons, List.foldl_cons, bstep_assoc hb hm (h r (List.mem_cons_self ..))]
    refine fold_assoc l b (bstep g m r) hb ?_ fun x hx => h x (List.mem_cons_of_mem _ hx)
    rcases bstep_mem g m r with e | e
    · rw [e]; exact hm
    · rw [e]; exact h r (List.mem_cons_self ..)
theorem bstep_00 (g : Bool) (r : Int × Int) : bstep g (0, 0) r = r := by unfold bstep; rw [if_pos (.inl rfl)]
theorem bestF_append {g : Bool} {l1 l2 : List (Int × Int)} (h1 : ∀ r ∈ l1, 0 < r.2) (h2 : ∀ r ∈ l2, 0 < r.2) (n1 : l1 ≠ []) (n2 : l2 ≠ []) : bestF g (l1 ++ l2) = bstep g (bestF g l1) (bestF g l2) := by
  match l2, n2 with
  | m :: l, _ =>
    unfold bestF
    rw [List.foldl_append, List.foldl_cons, List.foldl_cons, bstep_00]
    exact fold_assoc l _ m (best_pos h1 n1) (h2 m (List.mem_cons_self ..)) fun x hx => h2 x (List.mem_cons_of_mem _ hx)
theorem rL_get (fs : List (List Int)) (i : Nat) (h : i < fs.length) : (fs.map rL)[i]? = some (.slc (fs[i].map rI)) := by rw [List.getElem?_map, List.getElem?_eq_getElem h]; rfl
theorem rL_okf (fs : List (List Int)) : (((fs.map rL).flatMap PV.cells).all PV.okCell) = true := by
  rw [List.all_eq_true]
  intro v hv
  obtain ⟨p, hp, hq⟩ := List.mem_flatMap.1 hv
  obtain ⟨f, _, rfl⟩ := List.mem_map.1 hp
  simp only [rL, PV.cells, List.mem_singleton] at hq
  subst hq; rfl
set_option maxHeartbeats 4000000 in
theorem rPieces_v (xs : List Int) (n d B : Nat) (h25 : xs.length ≤ 25) (hn : n = xs.length - 1) (hd : d ≤ 8) (hx : bd B xs) (hB : B ≤ 3000) : SoundAt Tryz.prog 64 [rL xs, .int .i64 (d : Int)] (.slc ((pcs n (trans xs 1 n) d).map rL)) := by
  have hdg := rDegree_v xs (by omega)
  rw [← hn] at hdg
  have hn24 : n ≤ 24 := by omega
  have hof := rForm_v xs n B hn24 (by omega) (by omega) hx
  have hT1 := trans_length xs 1 n
  have hT2 : bd (B + 29) (trans xs 1 n) := bd_trans rfl hn24 hx
  generalize trans xs 1 n = T at *
  have hok := fun i => pcs_ok hn24 hT1 hT2 i
  unfold rL at hdg hof
  refine sound_go (tb := []) 42 [.tmp 4] [0, 1, 4, 5, 6, 7, 8, 9, 10, 18, 24] mixed Tryz.func64 rfl (by kernel_rfl) (by kernel_rfl) (by kernel_rfl) (by kernel_rfl) ?_
  repeat (first | (simp -implicitDefEqProofs only [go_sem, Nat.reduceAdd, Nat.reduceMul, Nat.reduceEqDiff, Nat.reduceLT, Nat.reduceLeDiff, Nat.reduceSub, Nat.reduceBEq, reduceIte, reduceCtorEq, Int.reduceEq, Int.reduceNe, Nat.reduceBneDiff, Int.reduceLE, Int.reduceLT, Int.reduceToNat, Int.reduceAdd, Int.reduceSub, Int.reduceMul, Int.reduceNeg, rL]) | ((with_reducible refine gcall_eq (hdg) ?_ ?_ ?_); (with_reducible rfl); rfl) | ((with_reducible refine gcall_eq (hof) ?_ ?_ ?_); (with_reducible rfl); rfl) | (with_reducible exact drawQ_true _ _ (by kernel_rfl)) | (with_reducible refine And.intro (drawQ_true _ _ (by kernel_rfl)) ?_))
  refine g_loop mixed (fun i : { i : Nat // i ≤ d } => St.of [(1, .int .i64 (d : Int)), (5, .slc ((pcs n T i.1).map rL)), (6, .int .i64 (i.1 : Int))] []) (fun i => d - i.1) ⟨0, Nat.zero_le _⟩ ?_ ?_
  · refine Le.trans (le_escG 5 rfl rfl rfl rfl (by simp)) (le_vars ?_)
    simp [varsLe, lkp, ren1, ren0, rL, pcs]
  · rintro ⟨i, hi⟩
    by_cases hI : i < d
    · have hI' := ltT hI
      have hwi := wrap_add1 (a := i) (by omega)
      have hlen := pcs_length n T i
      have hlen2 : (pcs n T i).length ≤ 256 := by rw [hlen]; exact Nat.le_trans (Nat.pow_le_pow_right (by decide) (show i ≤ 8 by omega)) (by decide)
      have hoki := hok i
      have hnext : pcs n T (i + 1) = (pcs n T i).flatMap (twoF n) := rfl
      simp only
      have hGl : (pcs n T (i + 1)).length = 2 * (pcs n T i).length := by rw [hnext, flat2_length]
      generalize hGe : pcs n T (i + 1) = G at *
      generalize hFs : pcs n T i = fs at *
      repeat (first | (simp -implicitDefEqProofs only [go_sem, Nat.reduceAdd, Nat.reduceMul, Nat.reduceEqDiff, Nat.reduceLT, Nat.reduceLeDiff, Nat.reduceSub, Nat.reduceBEq, reduceIte, reduceCtorEq, Int.reduceEq, Int.reduceNe, Nat.reduceBneDiff, Int.reduceLE, Int.reduceLT, Int.reduceToNat, Int.reduceAdd, Int.reduceSub, Int.reduceMul, Int.reduceNeg, hI']) | (with_reducible exact drawQ_true _ _ (by kernel_rfl)) | (with_reducible refine And.intro (drawQ_true _ _ (by kernel_rfl)) ?_))
      refine g_loop mixed (fun k : { k : Nat // k ≤ fs.length } => St.of [(1, .int .i64 (d : Int)), (5, .slc (fs.map rL)), (6, .int .i64 (i : Int)), (7, .bs 7 1 0 (2 * k.1)), (8, .int .i64 (k.1 : Int))]
        [(7, { els := ((fs.take k.1).flatMap (twoF n)).map rL, esz := 1, ety := 43, fro := 0, live := true, arr := true })]) (fun k => fs.length - k.1) ⟨0, Nat.zero_le _⟩ ?_ ?_
      · refine le_nil1 7 7 1 43 rfl rfl rfl (by decide) [(7, 7)] rfl ?_ ?_
        · simp [varsLe, lkp, ren1, ren0]
        · exact ⟨⟨rfl, rfl, rfl, rfl, rfl, .inl ⟨rfl, rfl⟩⟩, trivial⟩
      · rintro ⟨k, hk⟩
        have hkl : (((fs.take k).flatMap (twoF n)).map rL).length = 2 * k := by rw [List.length_map, flat2_length, List.length_take, Nat.min_eq_left hk]
        by_cases hA : k < fs.length
        · have hA' := ltT hA
          have h0 := nnT k
          have hg := rL_get fs k hA
          have hwk := wrap_add1 (a := k) (by omega)
          obtain ⟨a1, a2⟩ := hoki _ (List.getElem_mem hA)
          have hh := rHalves_v fs[k] n (B + 29 + 60 * i) hn24 a1 (by omega) a2
          have htk := flat2_snoc n fs k hA
          have q1 : (2 * k == 2 * k) = true := beq_self_eq_true _
          have q2 : ((2 * k + 2) * 24 ≤ 140737488355328) = True := eq_true (by omega)
          have q3 : (2 * k + 2 ≤ maxLen) = True := eq_true (by unfold maxLen; omega)
          generalize leftH fs[k] n = L at *
          generalize rightH fs[k] n = R at *
          repeat (first | (simp -implicitDefEqProofs only [go_sem, Nat.reduceAdd, Nat.reduceMul, Nat.reduceEqDiff, Nat.reduceLT, Nat.reduceLeDiff, Nat.reduceSub, Nat.reduceBEq, reduceIte, reduceCtorEq, Int.reduceEq, Int.reduceNe, Nat.reduceBneDiff, Int.reduceLE, Int.reduceLT, Int.reduceToNat, Int.reduceAdd, Int.reduceSub, Int.reduceMul, Int.reduceNeg, rL, hA', h0, hg, hwk, hkl, q1, q2, q3, rL_okf, List.length_map, Int.toNat_natCast]) | ((with_reducible refine gcall_eq (hh) ?_ ?_ ?_); (with_reducible rfl); rfl) | (with_reducible exact drawQ_true _ _ (by kernel_rfl)) | (with_reducible refine And.intro (drawQ_true _ _ (by kernel_rfl)) ?_))
          refine ⟨⟨k + 1, hA⟩, by simp only; omega, le_of (θ := [(7, 1004)]) rfl ?_ ?_⟩
          · simp [varsLe, lkp, ren1, ren0, rL]; omega
          · simp only [htk, List.map_append]
            exact ⟨⟨rfl, rfl, rfl, rfl, rfl, .inl ⟨rfl, rfl⟩⟩, trivial⟩
        · have hA' := ltF hA
          have e : fs.take k = fs := List.take_of_length_le (by omega)
          simp only [e, ← hnext]
          repeat (first | (simp -implicitDefEqProofs only [go_sem, Nat.reduceAdd, Nat.reduceMul, Nat.reduceEqDiff, Nat.reduceLT, Nat.reduceLeDiff, Nat.reduceSub, Nat.reduceBEq, reduceIte, reduceCtorEq, Int.reduceEq, Int.reduceNe, Nat.reduceBneDiff, Int.reduceLE, Int.reduceLT, Int.reduceToNat, Int.reduceAdd, Int.reduceSub, Int.reduceMul, Int.reduceNeg, hA', hwi, List.length_map]) | (with_reducible exact drawQ_true _ _ (by kernel_rfl)) | (with_reducible refine And.intro (drawQ_true _ _ (by kernel_rfl)) ?_))
          refine ⟨⟨i + 1, hI⟩, by simp only; omega, Le.trans (le_escG 5 rfl rfl rfl rfl (by simp only [List.length_map]; omega)) (le_vars ?_)⟩
          simp [varsLe, lkp, ren1, ren0]
          rw [hGe, List.take_of_length_le (by rw [List.length_map]; omega)]
    · have hI' := ltF hI
      obtain rfl : i = d := by omega
      repeat (first | (simp -implicitDefEqProofs only [go_sem, Nat.reduceAdd, Nat.reduceMul, Nat.reduceEqDiff, Nat.reduceLT, Nat.reduceLeDiff, Nat.reduceSub, Nat.reduceBEq, reduceIte, reduceCtorEq, Int.reduceEq, Int.reduceNe, Nat.reduceBneDiff, Int.reduceLE, Int.reduceLT, Int.reduceToNat, Int.reduceAdd, Int.reduceSub, Int.reduceMul, Int.reduceNeg, hI']) | (with_reducible exact drawQ_true _ _ (by kernel_rfl)) | (with_reducible refine And.intro (drawQ_true _ _ (by kernel_rfl)) ?_))
end Go.Proofs.YtnpclmmmngmdkaaGreat

namespace Go.Proofs.YtnpclmmmngmdkaaGreat
open Go.Vl Go.RowKit Go.Dg

/-- The best ratio of the first pieces, at least of one. -/
def accF (g : Bool) (ps : List (List Int)) (k : Nat) : Int × Int := bestF g ((ps.take (max k 1)).flatMap coefs)
theorem accF_step {g : Bool} {ps : List (List Int)} {n : Nat} (hl : ∀ f ∈ ps, f.length = n + 1) (hok : ∀ f ∈ ps, ∀ r ∈ coefs f, 0 < r.2) {k : Nat} (hk : k < ps.length) :
    accF g ps (k + 1) = bstep g (accF g ps k) (bestF g (coefs ps[k])) ∧ 0 < (accF g ps k).2 ∧ 0 < (bestF g (coefs ps[k])).2 := by
  have ne : ∀ f ∈ ps, coefs f ≠ [] := by
    intro f hf e
    have := coefs_length f
    rw [e, hl f hf] at this
    cases this
  have p2 := best_pos (g := g) (hok _ (List.getElem_mem hk)) (ne _ (List.getElem_mem hk))
  have pos : ∀ r ∈ (ps.take (max k 1)).flatMap coefs, 0 < r.2 := by
    intro r hr
    obtain ⟨f, hf1, hf2⟩ := List.mem_flatMap.1 hr
    exact hok f (List.mem_of_mem_take hf1) r hf2
  have h0 : 0 < ps.length := by omega
  have nn : (ps.take (max k 1)).flatMap coefs ≠ [] := by
    intro e
    exact ne _ (List.getElem_mem h0) (List.flatMap_eq_nil_iff.1 e ps[0] (List.mem_take_iff_getElem.2 ⟨0, by omega, rfl⟩))
  have p1 := best_pos (g := g) pos nn
  refine ⟨?_, p1, p2⟩
  unfold accF
  rcases Nat.eq_zero_or_pos k with rfl | hk0
  · have e1 : ps.take (max (0 + 1) 1) = [ps[0]] := by
      rw [show max (0 + 1) 1 = 0 + 1 from rfl, take_snoc ps 0 h0]; rfl
    have e2 : ps.take (max 0 1) = [ps[0]] := by rw [← e1]; rfl
    rw [e1, e2, List.flatMap_singleton, bstep_pos p2, if_neg (bt_irrefl _ _)]
  · rw [show max (k + 1) 1 = k + 1 by omega, show max k 1 = k by omega, flat_snoc ps k hk]
    rw [show max k 1 = k by omega] at pos nn
    exact bestF_append pos (hok _ (List.getElem_mem hk)) nn (ne _ (List.getElem_mem hk))
theorem accF_done {g : Bool} {ps : List (List Int)} (h : 1 ≤ ps.length) : accF g ps ps.length = bestF g (ps.flatMap coefs) := by
  unfold accF
  rw [show max ps.length 1 = ps.length by omega, List.take_length]
set_option maxHeartbeats 8000000 in
theorem rEnclose_v (xs : List Int) (n d B : Nat) (h25 : xs.length ≤ 25) (hn : n = xs.length - 1) (hd : d ≤ 8) (hx : bd B xs) (hB : B ≤ 3000) :
    SoundAt Tryz.prog 24 [rL xs, .int .i64 (d : Int)] (.tup [rQ (encQ false n d (trans xs 1 n)).1 (encQ false n d (trans xs 1 n)).2, rQ (encQ true n d (trans xs 1 n)).1 (encQ true n d (trans xs 1 n)).2]) := by
  have hpc := rPieces_v xs n d B h25 hn hd hx hB
  have hdg := rDegree_v xs (by omega)
  rw [← hn] at hdg
  have hn24 : n ≤ 24 := by omega
  have hnd : n * d ≤ 24 * 8 := Nat.mul_le_mul hn24 hd
  have hT1 := trans_length xs 1 n
  have hT2 : bd (B + 29) (trans xs 1 n) := bd_trans rfl hn24 hx
  generalize trans xs 1 n = T at *
  have hok := pcs_ok hn24 hT1 hT2 d
  have hpl := pcs_length n T d
  have hp1 : 1 ≤ (pcs n T d).length := by rw [hpl]; exact Nat.pow_pos (by decide)
  have hp2 : (pcs n T d).length ≤ 256 := by rw [hpl]; exact Nat.le_trans (Nat.pow_le_pow_right (by decide) hd) (by decide)
  have w2 : IntKind.i64.wrap ((n : Int) * (d : Int)) = ((n * d : Nat) : Int) := by rw [← Int.natCast_mul]; exact wrapn (by omega)
  have hpo := rpower_v (n * d) (by omega)
  have hpw := pow2_small (k := n * d) (by omega)
  have hpp : 0 < (2 : Int) ^ (n * d) := Int.pow_pos (by decide)
  obtain ⟨k0, hk0⟩ : ∃ k : Nat, k = 500 := ⟨_, rfl⟩
  have hco : ∀ f ∈ pcs n T d, ∀ r ∈ coefs f, r.1.natAbs < 2 ^ (B + 29 + 60 * d) ∧ r.2.natAbs < 2 ^ 25 ∧ 0 < r.2 := fun f hf => coefs_ok (by have := (hok f hf).1; omega) (hok f hf).2
  have hfo := flat_ok (d := d) hn24 hT1 hT2
  have hne := flat_ne (d := d) hT1 fun f hf => (hok f hf).1
  have k1 := okR_best (g := false) hfo
  have k2 := okR_best (g := true) hfo
  have q1 := best_pos (g := false) (fun r hr => (hfo r hr).2.2) hne
  have q2 := best_pos (g := true) (fun r hr => (hfo r hr).2.2) hne
  have mulK : ∀ b : Int × Int, okR (B + 29 + 60 * d) b → 0 < b.2 → SoundAt Tryz.prog 66 [rI b.2, rI (2 ^ (n * d))] (rI (b.2 * 2 ^ (n * d))) ∧ SoundAt Tryz.prog 46 [rI b.1, rI (b.2 * 2 ^ (n * d))] (rQ (lowN b.1 (b.2 * 2 ^ (n * d))) (lowD b.1 (b.2 * 2 ^ (n * d)))) := by
    intro b hb h0
    have hd2 : (b.2 * 2 ^ (n * d)).natAbs < 2 ^ 226 := by
      rw [Int.natAbs_mul, show 226 = 25 + 201 from rfl, Nat.pow_add]
      exact Nat.mul_lt_mul'' hb.2.1 hpw
    exact ⟨rmul_i (p2_7M hb.2.1 (by decide)) (p2_7M hpw (by decide)), rlowest_v _ _ (Int.ne_of_gt (Int.mul_pos h0 hpp)) k0 (by omega) (p2_256 hb.1 (by omega)) (p2_256 hd2 (by omega))⟩
  obtain ⟨mu1, lo1⟩ := mulK _ k1 q1
  obtain ⟨mu2, lo2⟩ := mulK _ k2 q2
  have hR1 : rQ (encQ false n d T).1 (encQ false n d T).2 = rQ (lowN (bestF false ((pcs n T d).flatMap coefs)).1 ((bestF false ((pcs n T d).flatMap coefs)).2 * 2 ^ (n * d))) (lowD (bestF false ((pcs n T d).flatMap coefs)).1 ((bestF false ((pcs n T d).flatMap coefs)).2 * 2 ^ (n * d))) := rfl
  have hR2 : rQ (encQ true n d T).1 (encQ true n d T).2 = rQ (lowN (bestF true ((pcs n T d).flatMap coefs)).1 ((bestF true ((pcs n T d).flatMap coefs)).2 * 2 ^ (n * d))) (lowD (bestF true ((pcs n T d).flatMap coefs)).1 ((bestF true ((pcs n T d).flatMap coefs)).2 * 2 ^ (n * d))) := rfl
  rw [hR1, hR2]
  clear hR1 hR2 mulK hfo hne q1 q2 hpp hpw hT1 hT2
  have d1 := accF_done (g := false) hp1
  have d2 := accF_done (g := true) hp1
  generalize pcs n T d = ps at *
  rw [← d1] at mu1 lo1 k1 ⊢
  rw [← d2] at mu2 lo2 k2 ⊢
  have hlens : ∀ f ∈ ps, f.length = n + 1 := fun f hf => (hok f hf).1
  have hacc : ∀ g k, k ≤ ps.length → okR (B + 29 + 60 * d) (accF g ps k) := by
    intro g k hk
    refine okR_best fun r hr => ?_
    obtain ⟨f, hf1, hf2⟩ := List.mem_flatMap.1 hr
    exact hco f (List.mem_of_mem_take hf1) r hf2
  have hle : ∀ i (hi : i < ps.length), SoundAt Tryz.prog 13 [.slc (ps[i].map rI)] (.tup [rQ (bestF false (coefs ps[i])).1 (bestF false (coefs ps[i])).2, rQ (bestF true (coefs ps[i])).1 (bestF true (coefs ps[i])).2]) :=
    fun i hi => rLeast_v ps[i] n (B + 29 + 60 * d) hn24 (hok _ (List.getElem_mem hi)).1 (hok _ (List.getElem_mem hi)).2 k0 (by omega) (by omega) (by omega)
  have h0l : 0 < ps.length := hp1
  have hg0 := rL_get ps 0 h0l
  have hle0 := hle 0 h0l
  have ea : ∀ g, bestF g (coefs ps[0]) = accF g ps 0 := by
    intro g
    unfold accF
    have e1 : ps.take (max 0 1) = [ps[0]] := by rw [show max 0 1 = 0 + 1 from rfl, take_snoc ps 0 h0l]; rfl
    rw [e1, List.flatMap_singleton]
  rw [ea false, ea true] at hle0
  have l0T := ltT h0l
  have nn0 := nnT 0
  have ars : rL xs = .slc (xs.map rI) := rfl
  rw [ars] at hpc hdg ⊢
  clear ars
  refine sound_go (tb := []) 66 [.cell 4 39, .cell 5 39] [0, 1, 4, 5, 6, 7, 8, 9, 10, 11, 12, 26, 40, 45] mixed Tryz.func24 rfl (by kernel_rfl) (by kernel_rfl) (by kernel_rfl) (by kernel_rfl) ?_
  repeat (first | (simp -implicitDefEqProofs only [go_sem, Nat.reduceAdd, Nat.reduceMul, Nat.reduceEqDiff, Nat.reduceLT, Nat.reduceLeDiff, Nat.reduceSub, Nat.reduceBEq, reduceIte, reduceCtorEq, Int.reduceEq, Int.reduceNe, Nat.reduceBneDiff, Int.reduceLE, Int.reduceLT, Int.reduceToNat, Int.reduceAdd, Int.reduceSub, Int.reduceMul, Int.reduceNeg, List.length_map, hg0, l0T, nn0, Int.toNat_natCast, rQ, di]) | ((with_reducible refine gcall_eq (hpc) ?_ ?_ ?_); (with_reducible rfl); rfl) | ((with_reducible refine gcall_eq (hle0) ?_ ?_ ?_); (with_reducible rfl); rfl) | (with_reducible exact drawQ_true _ _ (by kernel_rfl)) | (with_reducible refine And.intro (drawQ_true _ _ (by kernel_rfl)) ?_))
  refine g_loop mixed (fun i : { i : Nat // i ≤ ps.length } => St.of [(0, .slc (xs.map rI)), (1, .int .i64 (d : Int)), (4, .bp 0 4 0 0), (5, .bp 1 4 0 0), (6, .slc (ps.map rL)), (7, .bp 207 4 0 0), (8, .bp 208 4 0 0), (9, .int .i64 (i.1 : Int))]
    [(0, { els := [rQ 0 0], esz := 4, ety := 39, fro := 0, live := true, arr := false }), (1, { els := [rQ 0 0], esz := 4, ety := 39, fro := 0, live := true, arr := false }),
     (207, { els := [rQ (accF false ps i.1).1 (accF false ps i.1).2], esz := 4, ety := 39, fro := 0, live := true, arr := false }), (208, { els := [rQ (accF true ps i.1).1 (accF true ps i.1).2], esz := 4, ety := 39, fro := 0, live := true, arr := false })]) (fun i => ps.length - i.1) ⟨0, Nat.zero_le _⟩ ?_ ?_
  · refine Le.trans (le_upG 0 rfl) (Le.trans (le_upG 1 rfl) (le_of (θ := [(0, 0), (1, 1), (207, 207), (208, 208)]) rfl ?_ ?_))
    · simp [varsLe, lkp, ren1, ren0]
    · simp only [rQ_00]
      exact ⟨⟨rfl, rfl, rfl, rfl, rfl, .inr ⟨rfl, _, _, rfl, rfl, rfl, rfl⟩⟩, ⟨rfl, rfl, rfl, rfl, rfl, .inr ⟨rfl, _, _, rfl, rfl, rfl, rfl⟩⟩, ⟨rfl, rfl, rfl, rfl, rfl, .inr ⟨rfl, _, _, rfl, rfl, rfl, rfl⟩⟩, ⟨rfl, rfl, rfl, rfl, rfl, .inr ⟨rfl, _, _, rfl, rfl, rfl, rfl⟩⟩, trivial⟩
  · rintro ⟨i, hi⟩
    by_cases hA : i < ps.length
    · have hA' := ltT hA
      have nni := nnT i
      have hgi := rL_get ps i hA
      have hwk := wrap_add1 (a := i) (by omega)
      have hli := hle i hA
      have st := fun g => accF_step (g := g) hlens (fun f hf r hr => (hco f hf r hr).2.2) hA
      obtain ⟨s0, p0, p0'⟩ := st false
      obtain ⟨s1, p1, p1'⟩ := st true
      have okx := fun g => okR_best (g := g) (hco _ (List.getElem_mem hA))
      have hcq : ∀ g, SoundAt Tryz.prog 33 [rQ (bestF g (coefs ps[i])).1 (bestF g (coefs ps[i])).2, rQ (accF g ps i).1 (accF g ps i).2] (.int .i64 ((bestF g (coefs ps[i])).1 * (accF g ps i).2 - (accF g ps i).1 * (bestF g (coefs ps[i])).2).sign) :=
        fun g => rcompareQ_v _ _ _ _ k0 (by omega) (p2_256 (okx g).1 (by omega)) (p2_256 (okx g).2.1 (by omega)) (p2_256 (hacc g i hi).1 (by omega)) (p2_256 (hacc g i hi).2.1 (by omega))
      have c0 := hcq false
      have c1 := hcq true
      rw [bstep_pos p0] at s0
      rw [bstep_pos p1] at s1
      clear hcq okx st
      simp only
      generalize hX1 : accF false ps (i + 1) = X1 at *
      generalize hX2 : accF true ps (i + 1) = X2 at *
      generalize accF false ps i = b at *
      generalize accF true ps i = e at *
      generalize bestF false (coefs ps[i]) = x at *
      generalize bestF true (coefs ps[i]) = y at *
      have B0 : bt false x b = (x.1 * b.2 < b.1 * x.2) := rfl
      have B1 : bt true y e = (e.1 * y.2 < y.1 * e.2) := rfl
      by_cases g1 : x.1 * b.2 < b.1 * x.2
      · rw [if_pos (by rw [B0]; exact g1)] at s0
        have f1 : ((x.1 * b.2 - b.1 * x.2).sign < 0) = True := eq_true (by rw [Int.sign_eq_neg_one_of_neg (by omega)]; decide)
        by_cases g2 : e.1 * y.2 < y.1 * e.2
        · rw [if_pos (by rw [B1]; exact g2)] at s1
          have f2 : (0 < (y.1 * e.2 - e.1 * y.2).sign) = True := eq_true (by rw [Int.sign_eq_one_of_pos (by omega)]; decide)
          repeat (first | (simp -implicitDefEqProofs only [go_sem, Nat.reduceAdd, Nat.reduceMul, Nat.reduceEqDiff, Nat.reduceLT, Nat.reduceLeDiff, Nat.reduceSub, Nat.reduceBEq, reduceIte, reduceCtorEq, Int.reduceEq, Int.reduceNe, Nat.reduceBneDiff, Int.reduceLE, Int.reduceLT, Int.reduceToNat, Int.reduceAdd, Int.reduceSub, Int.reduceMul, Int.reduceNeg, hA', nni, hgi, hwk, f1, f2, List.length_map, Int.toNat_natCast, rQ, di]) | ((with_reducible refine gcall_eq (hli) ?_ ?_ ?_); (with_reducible rfl); rfl) | ((with_reducible refine gcall_eq (c0) ?_ ?_ ?_); (with_reducible rfl); rfl) | ((with_reducible refine gcall_eq (c1) ?_ ?_ ?_); (with_reducible rfl); rfl) | (with_reducible exact drawQ_true _ _ (by kernel_rfl)) | (with_reducible refine And.intro (drawQ_true _ _ (by kernel_rfl)) ?_))
          refine ⟨⟨i + 1, hA⟩, by simp only; omega, le_of (θ := [(0, 0), (1, 1), (207, 207), (208, 208)]) rfl ?_ ?_⟩
          · simp [varsLe, lkp, ren1, ren0]
          · simp only [hX1, hX2, s0, s1]
            exact ⟨⟨rfl, rfl, rfl, rfl, rfl, .inr ⟨rfl, _, _, rfl, rfl, rfl, rfl⟩⟩, ⟨rfl, rfl, rfl, rfl, rfl, .inr ⟨rfl, _, _, rfl, rfl, rfl, rfl⟩⟩, ⟨rfl, rfl, rfl, rfl, rfl, .inr ⟨rfl, _, _, rfl, rfl, rfl, rfl⟩⟩, ⟨rfl, rfl, rfl, rfl, rfl, .inr ⟨rfl, _, _, rfl, rfl, rfl, rfl⟩⟩, trivial⟩
        · rw [if_neg (by rw [B1]; exact g2)] at s1
          have f2 : (0 < (y.1 * e.2 - e.1 * y.2).sign) = False := eq_false (by intro h; have := Int.sign_pos_iff.1 h; omega)
          repeat (first | (simp -implicitDefEqProofs only [go_sem, Nat.reduceAdd, Nat.reduceMul, Nat.reduceEqDiff, Nat.reduceLT, Nat.reduceLeDiff, Nat.reduceSub, Nat.reduceBEq, reduceIte, reduceCtorEq, Int.reduceEq, Int.reduceNe, Nat.reduceBneDiff, Int.reduceLE, Int.reduceLT, Int.reduceToNat, Int.reduceAdd, Int.reduceSub, Int.reduceMul, Int.reduceNeg, hA', nni, hgi, hwk, f1, f2, List.length_map, Int.toNat_natCast, rQ, di]) | ((with_reducible refine gcall_eq (hli) ?_ ?_ ?_); (with_reducible rfl); rfl) | ((with_reducible refine gcall_eq (c0) ?_ ?_ ?_); (with_reducible rfl); rfl) | ((with_reducible refine gcall_eq (c1) ?_ ?_ ?_); (with_reducible rfl); rfl) | (with_reducible exact drawQ_true _ _ (by kernel_rfl)) | (with_reducible refine And.intro (drawQ_true _ _ (by kernel_rfl)) ?_))
          refine ⟨⟨i + 1, hA⟩, by simp only; omega, le_of (θ := [(0, 0), (1, 1), (207, 207), (208, 208)]) rfl ?_ ?_⟩
          · simp [varsLe, lkp, ren1, ren0]
          · simp only [hX1, hX2, s0, s1]
            exact ⟨⟨rfl, rfl, rfl, rfl, rfl, .inr ⟨rfl, _, _, rfl, rfl, rfl, rfl⟩⟩, ⟨rfl, rfl, rfl, rfl, rfl, .inr ⟨rfl, _, _, rfl, rfl, rfl, rfl⟩⟩, ⟨rfl, rfl, rfl, rfl, rfl, .inr ⟨rfl, _, _, rfl, rfl, rfl, rfl⟩⟩, ⟨rfl, rfl, rfl, rfl, rfl, .inr ⟨rfl, _, _, rfl, rfl, rfl, rfl⟩⟩, trivial⟩
      · rw [if_neg (by rw [B0]; exact g1)] at s0
        have f1 : ((x.1 * b.2 - b.1 * x.2).sign < 0) = False := eq_false (by intro h; have := Int.sign_neg_iff.1 h; omega)
        by_cases g2 : e.1 * y.2 < y.1 * e.2
        · rw [if_pos (by rw [B1]; exact g2)] at s1
          have f2 : (0 < (y.1 * e.2 - e.1 * y.2).sign) = True := eq_true (by rw [Int.sign_eq_one_of_pos (by omega)]; decide)
          repeat (first | (simp -implicitDefEqProofs only [go_sem, Nat.reduceAdd, Nat.reduceMul, Nat.reduceEqDiff, Nat.reduceLT, Nat.reduceLeDiff, Nat.reduceSub, Nat.reduceBEq, reduceIte, reduceCtorEq, Int.reduceEq, Int.reduceNe, Nat.reduceBneDiff, Int.reduceLE, Int.reduceLT, Int.reduceToNat, Int.reduceAdd, Int.reduceSub, Int.reduceMul, Int.reduceNeg, hA', nni, hgi, hwk, f1, f2, List.length_map, Int.toNat_natCast, rQ, di]) | ((with_reducible refine gcall_eq (hli) ?_ ?_ ?_); (with_reducible rfl); rfl) | ((with_reducible refine gcall_eq (c0) ?_ ?_ ?_); (with_reducible rfl); rfl) | ((with_reducible refine gcall_eq (c1) ?_ ?_ ?_); (with_reducible rfl); rfl) | (with_reducible exact drawQ_true _ _ (by kernel_rfl)) | (with_reducible refine And.intro (drawQ_true _ _ (by kernel_rfl)) ?_))
          refine ⟨⟨i + 1, hA⟩, by simp only; omega, le_of (θ := [(0, 0), (1, 1), (207, 207), (208, 208)]) rfl ?_ ?_⟩
          · simp [varsLe, lkp, ren1, ren0]
          · simp only [hX1, hX2, s0, s1]
            exact ⟨⟨rfl, rfl, rfl, rfl, rfl, .inr ⟨rfl, _, _, rfl, rfl, rfl, rfl⟩⟩, ⟨rfl, rfl, rfl, rfl, rfl, .inr ⟨rfl, _, _, rfl, rfl, rfl, rfl⟩⟩, ⟨rfl, rfl, rfl, rfl, rfl, .inr ⟨rfl, _, _, rfl, rfl, rfl, rfl⟩⟩, ⟨rfl, rfl, rfl, rfl, rfl, .inr ⟨rfl, _, _, rfl, rfl, rfl, rfl⟩⟩, trivial⟩
        · rw [if_neg (by rw [B1]; exact g2)] at s1
          have f2 : (0 < (y.1 * e.2 - e.1 * y.2).sign) = False := eq_false (by intro h; have := Int.sign_pos_iff.1 h; omega)
          repeat (first | (simp -implicitDefEqProofs only [go_sem, Nat.reduceAdd, Nat.reduceMul, Nat.reduceEqDiff, Nat.reduceLT, Nat.reduceLeDiff, Nat.reduceSub, Nat.reduceBEq, reduceIte, reduceCtorEq, Int.reduceEq, Int.reduceNe, Nat.reduceBneDiff, Int.reduceLE, Int.reduceLT, Int.reduceToNat, Int.reduceAdd, Int.reduceSub, Int.reduceMul, Int.reduceNeg, hA', nni, hgi, hwk, f1, f2, List.length_map, Int.toNat_natCast, rQ, di]) | ((with_reducible refine gcall_eq (hli) ?_ ?_ ?_); (with_reducible rfl); rfl) | ((with_reducible refine gcall_eq (c0) ?_ ?_ ?_); (with_reducible rfl); rfl) | ((with_reducible refine gcall_eq (c1) ?_ ?_ ?_); (with_reducible rfl); rfl) | (with_reducible exact drawQ_true _ _ (by kernel_rfl)) | (with_reducible refine And.intro (drawQ_true _ _ (by kernel_rfl)) ?_))
          refine ⟨⟨i + 1, hA⟩, by simp only; omega, le_of (θ := [(0, 0), (1, 1), (207, 207), (208, 208)]) rfl ?_ ?_⟩
          · simp [varsLe, lkp, ren1, ren0]
          · simp only [hX1, hX2, s0, s1]
            exact ⟨⟨rfl, rfl, rfl, rfl, rfl, .inr ⟨rfl, _, _, rfl, rfl, rfl, rfl⟩⟩, ⟨rfl, rfl, rfl, rfl, rfl, .inr ⟨rfl, _, _, rfl, rfl, rfl, rfl⟩⟩, ⟨rfl, rfl, rfl, rfl, rfl, .inr ⟨rfl, _, _, rfl, rfl, rfl, rfl⟩⟩, ⟨rfl, rfl, rfl, rfl, rfl, .inr ⟨rfl, _, _, rfl, rfl, rfl, rfl⟩⟩, trivial⟩
    · have hA' := ltF hA
      obtain rfl : i = ps.length := by omega
      simp only
      generalize accF false ps ps.length = b at *
      generalize accF true ps ps.length = e at *
      generalize (2 : Int) ^ (n * d) = K at *
      generalize b.2 * K = y1 at *
      generalize e.2 * K = y2 at *
      repeat (first | (simp -implicitDefEqProofs only [go_sem, Nat.reduceAdd, Nat.reduceMul, Nat.reduceEqDiff, Nat.reduceLT, Nat.reduceLeDiff, Nat.reduceSub, Nat.reduceBEq, reduceIte, reduceCtorEq, Int.reduceEq, Int.reduceNe, Nat.reduceBneDiff, Int.reduceLE, Int.reduceLT, Int.reduceToNat, Int.reduceAdd, Int.reduceSub, Int.reduceMul, Int.reduceNeg, hA', w2, rQ, rI, di, List.length_map]) | ((with_reducible refine gcall_eq (hdg) ?_ ?_ ?_); (with_reducible rfl); rfl) | ((with_reducible refine gcall_eq (hpo) ?_ ?_ ?_); (with_reducible rfl); rfl) | ((with_reducible refine gcall_eq (mu1) ?_ ?_ ?_); (with_reducible rfl); rfl) | ((with_reducible refine gcall_eq (lo1) ?_ ?_ ?_); (with_reducible rfl); rfl) | ((with_reducible refine gcall_eq (mu2) ?_ ?_ ?_); (with_reducible rfl); rfl) | ((with_reducible refine gcall_eq (lo2) ?_ ?_ ?_); (with_reducible rfl); rfl) | (with_reducible exact drawQ_true _ _ (by kernel_rfl)) | (with_reducible refine And.intro (drawQ_true _ _ (by kernel_rfl)) ?_))
end Go.Proofs.YtnpclmmmngmdkaaGreat

namespace Go.Proofs.YtnpclmmmngmdkaaGreat
open Go.Vl Go.RowKit Go.Dg

set_option maxHeartbeats 4000000 in
theorem BernsteinEncloses_v (l : List (Bool × ByteArray)) (n : Int) (hl : l.length ≤ maxLen) (h1 : -9223372036854775808 ≤ n) (h2 : n ≤ 9223372036854775807) :
    SoundAt Tryz.prog 5 [.slc (l.map wA), .int .i64 n] (.bool true) := by
  have hsm := small_v l hl
  have hk := known_v
  have z0 : ((0 : Int) == 0) = true := rfl
  have z2 : ((2 : Int) == 2) = true := rfl
  have b1 : ∀ b : Bool, (b == b) = true := fun b => by cases b <;> rfl
  have ze : ((⟨#[]⟩ : ByteArray) == ⟨#[]⟩) = true := ba_self _
  cases hS : smallB l with
  | false =>
    rw [hS] at hsm
    refine sound_go (tb := []) 101 [.tmp 4] [0, 1, 4, 5, 6, 7, 8, 9, 10, 12, 34, 53] mixed Tryz.func5 rfl (by kernel_rfl) (by kernel_rfl) (by kernel_rfl) (by kernel_rfl) ?_
    repeat (first | (simp -implicitDefEqProofs only [go_sem, Nat.reduceAdd, Nat.reduceMul, Nat.reduceEqDiff, Nat.reduceLT, Nat.reduceLeDiff, Nat.reduceSub, Nat.reduceBEq, reduceIte, reduceCtorEq, Int.reduceEq, Int.reduceNe, Nat.reduceBneDiff, Int.reduceLE, Int.reduceLT, Int.reduceToNat, Int.reduceAdd, Int.reduceSub, Int.reduceMul, Int.reduceNeg]) | ((with_reducible refine gcall_eq (hsm) ?_ ?_ ?_); (with_reducible rfl); rfl) | ((with_reducible refine gcall_eq (hk) ?_ ?_ ?_); (with_reducible rfl); rfl) | (with_reducible exact drawQ_true _ _ (by kernel_rfl)) | (with_reducible refine And.intro (drawQ_true _ _ (by kernel_rfl)) ?_))
  | true =>
    rw [hS] at hsm
    obtain ⟨hs8, hlen⟩ := smallB_of hS
    have hs : ∀ p ∈ l, p.2.size ≤ 100000 := fun p hp => Nat.le_trans (hs8 p hp) (by decide)
    have hvr := rPValid_v l (by omega)
    by_cases hL : 6 < l.length ∧ l.length ≠ 26
    · have g1 : ((6 : Int) < (l.length : Int)) = True := eq_true (by omega)
      have g2 : ((l.length : Int) != 26) = true := by simp only [bne_iff_ne, ne_eq]; omega
      refine sound_go (tb := []) 101 [.tmp 4] [0, 1, 4, 5, 6, 7, 8, 9, 10, 12, 34, 53] mixed Tryz.func5 rfl (by kernel_rfl) (by kernel_rfl) (by kernel_rfl) (by kernel_rfl) ?_
      repeat (first | (simp -implicitDefEqProofs only [go_sem, Nat.reduceAdd, Nat.reduceMul, Nat.reduceEqDiff, Nat.reduceLT, Nat.reduceLeDiff, Nat.reduceSub, Nat.reduceBEq, reduceIte, reduceCtorEq, Int.reduceEq, Int.reduceNe, Nat.reduceBneDiff, Int.reduceLE, Int.reduceLT, Int.reduceToNat, Int.reduceAdd, Int.reduceSub, Int.reduceMul, Int.reduceNeg, g1, g2, List.length_map]) | ((with_reducible refine gcall_eq (hsm) ?_ ?_ ?_); (with_reducible rfl); rfl) | ((with_reducible refine gcall_eq (hk) ?_ ?_ ?_); (with_reducible rfl); rfl) | (with_reducible exact drawQ_true _ _ (by kernel_rfl)) | (with_reducible refine And.intro (drawQ_true _ _ (by kernel_rfl)) ?_))
    have hlen2 : ((6 : Int) < (l.length : Int)) = False ∨ ((6 : Int) < (l.length : Int)) = True ∧ ((l.length : Int) != 26) = false := by
      by_cases h6 : 6 < l.length
      · refine .inr ⟨eq_true (by omega), ?_⟩
        have : l.length = 26 := Classical.not_not.1 fun h => hL ⟨h6, h⟩
        rw [this]; rfl
      · exact .inl (eq_false (by omega))
    by_cases hmid : 4 < n ∧ n ≤ 8
    · have g1 : (4 < n) = True := eq_true hmid.1
      have g2 : (n ≤ 8) = True := eq_true hmid.2
      rcases hlen2 with q1 | ⟨q1, q2⟩
      · refine sound_go (tb := []) 101 [.tmp 4] [0, 1, 4, 5, 6, 7, 8, 9, 10, 12, 34, 53] mixed Tryz.func5 rfl (by kernel_rfl) (by kernel_rfl) (by kernel_rfl) (by kernel_rfl) ?_
        repeat (first | (simp -implicitDefEqProofs only [go_sem, Nat.reduceAdd, Nat.reduceMul, Nat.reduceEqDiff, Nat.reduceLT, Nat.reduceLeDiff, Nat.reduceSub, Nat.reduceBEq, reduceIte, reduceCtorEq, Int.reduceEq, Int.reduceNe, Nat.reduceBneDiff, Int.reduceLE, Int.reduceLT, Int.reduceToNat, Int.reduceAdd, Int.reduceSub, Int.reduceMul, Int.reduceNeg, q1, g1, g2, List.length_map]) | ((with_reducible refine gcall_eq (hsm) ?_ ?_ ?_); (with_reducible rfl); rfl) | ((with_reducible refine gcall_eq (hk) ?_ ?_ ?_); (with_reducible rfl); rfl) | (with_reducible exact drawQ_true _ _ (by kernel_rfl)) | (with_reducible refine And.intro (drawQ_true _ _ (by kernel_rfl)) ?_))
      · refine sound_go (tb := []) 101 [.tmp 4] [0, 1, 4, 5, 6, 7, 8, 9, 10, 12, 34, 53] mixed Tryz.func5 rfl (by kernel_rfl) (by kernel_rfl) (by kernel_rfl) (by kernel_rfl) ?_
        repeat (first | (simp -implicitDefEqProofs only [go_sem, Nat.reduceAdd, Nat.reduceMul, Nat.reduceEqDiff, Nat.reduceLT, Nat.reduceLeDiff, Nat.reduceSub, Nat.reduceBEq, reduceIte, reduceCtorEq, Int.reduceEq, Int.reduceNe, Nat.reduceBneDiff, Int.reduceLE, Int.reduceLT, Int.reduceToNat, Int.reduceAdd, Int.reduceSub, Int.reduceMul, Int.reduceNeg, q1, q2, g1, g2, List.length_map]) | ((with_reducible refine gcall_eq (hsm) ?_ ?_ ?_); (with_reducible rfl); rfl) | ((with_reducible refine gcall_eq (hk) ?_ ?_ ?_); (with_reducible rfl); rfl) | (with_reducible exact drawQ_true _ _ (by kernel_rfl)) | (with_reducible refine And.intro (drawQ_true _ _ (by kernel_rfl)) ?_))
    by_cases hbad : polyB l = false ∨ n < 0 ∨ 8 < n
    · have hF := Enclose_arg l n (by omega) hs hbad
      have hn4 : (4 < n) = False ∨ (4 < n) = True ∧ (n ≤ 8) = False ∧ (n < 0) = False ∧ (8 < n) = True := by
        by_cases h4' : 4 < n
        · exact .inr ⟨eq_true h4', eq_false (fun h => hmid ⟨h4', h⟩), eq_false (by omega), eq_true (by omega)⟩
        · exact .inl (eq_false h4')
      cases hp : polyB l with
      | false =>
        rw [hp] at hvr
        rcases hlen2 with q1 | ⟨q1, q2⟩
        · rcases hn4 with g1 | ⟨g1, g2, g3, g4⟩
          · refine sound_go (tb := []) 101 [.tmp 4] [0, 1, 4, 5, 6, 7, 8, 9, 10, 12, 34, 53] mixed Tryz.func5 rfl (by kernel_rfl) (by kernel_rfl) (by kernel_rfl) (by kernel_rfl) ?_
            repeat (first | (simp -implicitDefEqProofs only [go_sem, Nat.reduceAdd, Nat.reduceMul, Nat.reduceEqDiff, Nat.reduceLT, Nat.reduceLeDiff, Nat.reduceSub, Nat.reduceBEq, reduceIte, reduceCtorEq, Int.reduceEq, Int.reduceNe, Nat.reduceBneDiff, Int.reduceLE, Int.reduceLT, Int.reduceToNat, Int.reduceAdd, Int.reduceSub, Int.reduceMul, Int.reduceNeg, q1, g1, z2, ze, b1, List.length_map]) | ((with_reducible refine gcall_eq (hsm) ?_ ?_ ?_); (with_reducible rfl); rfl) | ((with_reducible refine gcall_eq (hF) ?_ ?_ ?_); (with_reducible rfl); rfl) | ((with_reducible refine gcall_eq (hvr) ?_ ?_ ?_); (with_reducible rfl); rfl) | ((with_reducible refine gcall_eq (hk) ?_ ?_ ?_); (with_reducible rfl); rfl) | (with_reducible exact drawQ_true _ _ (by kernel_rfl)) | (with_reducible refine And.intro (drawQ_true _ _ (by kernel_rfl)) ?_))
          · refine sound_go (tb := []) 101 [.tmp 4] [0, 1, 4, 5, 6, 7, 8, 9, 10, 12, 34, 53] mixed Tryz.func5 rfl (by kernel_rfl) (by kernel_rfl) (by kernel_rfl) (by kernel_rfl) ?_
            repeat (first | (simp -implicitDefEqProofs only [go_sem, Nat.reduceAdd, Nat.reduceMul, Nat.reduceEqDiff, Nat.reduceLT, Nat.reduceLeDiff, Nat.reduceSub, Nat.reduceBEq, reduceIte, reduceCtorEq, Int.reduceEq, Int.reduceNe, Nat.reduceBneDiff, Int.reduceLE, Int.reduceLT, Int.reduceToNat, Int.reduceAdd, Int.reduceSub, Int.reduceMul, Int.reduceNeg, q1, g1, g2, z2, ze, b1, List.length_map]) | ((with_reducible refine gcall_eq (hsm) ?_ ?_ ?_); (with_reducible rfl); rfl) | ((with_reducible refine gcall_eq (hF) ?_ ?_ ?_); (with_reducible rfl); rfl) | ((with_reducible refine gcall_eq (hvr) ?_ ?_ ?_); (with_reducible rfl); rfl) | ((with_reducible refine gcall_eq (hk) ?_ ?_ ?_); (with_reducible rfl); rfl) | (with_reducible exact drawQ_true _ _ (by kernel_rfl)) | (with_reducible refine And.intro (drawQ_true _ _ (by kernel_rfl)) ?_))
        · rcases hn4 with g1 | ⟨g1, g2, g3, g4⟩
          · refine sound_go (tb := []) 101 [.tmp 4] [0, 1, 4, 5, 6, 7, 8, 9, 10, 12, 34, 53] mixed Tryz.func5 rfl (by kernel_rfl) (by kernel_rfl) (by kernel_rfl) (by kernel_rfl) ?_
            repeat (first | (simp -implicitDefEqProofs only [go_sem, Nat.reduceAdd, Nat.reduceMul, Nat.reduceEqDiff, Nat.reduceLT, Nat.reduceLeDiff, Nat.reduceSub, Nat.reduceBEq, reduceIte, reduceCtorEq, Int.reduceEq, Int.reduceNe, Nat.reduceBneDiff, Int.reduceLE, Int.reduceLT, Int.reduceToNat, Int.reduceAdd, Int.reduceSub, Int.reduceMul, Int.reduceNeg, q1, q2, g1, z2, ze, b1, List.length_map]) | ((with_reducible refine gcall_eq (hsm) ?_ ?_ ?_); (with_reducible rfl); rfl) | ((with_reducible refine gcall_eq (hF) ?_ ?_ ?_); (with_reducible rfl); rfl) | ((with_reducible refine gcall_eq (hvr) ?_ ?_ ?_); (with_reducible rfl); rfl) | ((with_reducible refine gcall_eq (hk) ?_ ?_ ?_); (with_reducible rfl); rfl) | (with_reducible exact drawQ_true _ _ (by kernel_rfl)) | (with_reducible refine And.intro (drawQ_true _ _ (by kernel_rfl)) ?_))
          · refine sound_go (tb := []) 101 [.tmp 4] [0, 1, 4, 5, 6, 7, 8, 9, 10, 12, 34, 53] mixed Tryz.func5 rfl (by kernel_rfl) (by kernel_rfl) (by kernel_rfl) (by kernel_rfl) ?_
            repeat (first | (simp -implicitDefEqProofs only [go_sem, Nat.reduceAdd, Nat.reduceMul, Nat.reduceEqDiff, Nat.reduceLT, Nat.reduceLeDiff, Nat.reduceSub, Nat.reduceBEq, reduceIte, reduceCtorEq, Int.reduceEq, Int.reduceNe, Nat.reduceBneDiff, Int.reduceLE, Int.reduceLT, Int.reduceToNat, Int.reduceAdd, Int.reduceSub, Int.reduceMul, Int.reduceNeg, q1, q2, g1, g2, z2, ze, b1, List.length_map]) | ((with_reducible refine gcall_eq (hsm) ?_ ?_ ?_); (with_reducible rfl); rfl) | ((with_reducible refine gcall_eq (hF) ?_ ?_ ?_); (with_reducible rfl); rfl) | ((with_reducible refine gcall_eq (hvr) ?_ ?_ ?_); (with_reducible rfl); rfl) | ((with_reducible refine gcall_eq (hk) ?_ ?_ ?_); (with_reducible rfl); rfl) | (with_reducible exact drawQ_true _ _ (by kernel_rfl)) | (with_reducible refine And.intro (drawQ_true _ _ (by kernel_rfl)) ?_))
      | true =>
        rw [hp] at hvr
        have q1 : ((6 : Int) < (l.length : Int)) = False := by
          rcases hlen2 with q1 | ⟨q1, q2⟩
          · exact q1
          · have := (polyB_of hp).2
            simp only [bne_eq_false_iff_eq] at q2
            omega
        rcases hn4 with g1 | ⟨g1, g2, g3, g4⟩
        · have g3 : (n < 0) = True := by
            rcases hbad with h | h | h
            · rw [hp] at h; cases h
            · exact eq_true h
            · exact absurd (show 4 < n by omega) (of_eq_false g1)
          refine sound_go (tb := []) 101 [.tmp 4] [0, 1, 4, 5, 6, 7, 8, 9, 10, 12, 34, 53] mixed Tryz.func5 rfl (by kernel_rfl) (by kernel_rfl) (by kernel_rfl) (by kernel_rfl) ?_
          repeat (first | (simp -implicitDefEqProofs only [go_sem, Nat.reduceAdd, Nat.reduceMul, Nat.reduceEqDiff, Nat.reduceLT, Nat.reduceLeDiff, Nat.reduceSub, Nat.reduceBEq, reduceIte, reduceCtorEq, Int.reduceEq, Int.reduceNe, Nat.reduceBneDiff, Int.reduceLE, Int.reduceLT, Int.reduceToNat, Int.reduceAdd, Int.reduceSub, Int.reduceMul, Int.reduceNeg, q1, g1, g3, z2, ze, b1, List.length_map]) | ((with_reducible refine gcall_eq (hsm) ?_ ?_ ?_); (with_reducible rfl); rfl) | ((with_reducible refine gcall_eq (hF) ?_ ?_ ?_); (with_reducible rfl); rfl) | ((with_reducible refine gcall_eq (hvr) ?_ ?_ ?_); (with_reducible rfl); rfl) | ((with_reducible refine gcall_eq (hk) ?_ ?_ ?_); (with_reducible rfl); rfl) | (with_reducible exact drawQ_true _ _ (by kernel_rfl)) | (with_reducible refine And.intro (drawQ_true _ _ (by kernel_rfl)) ?_))
        · refine sound_go (tb := []) 101 [.tmp 4] [0, 1, 4, 5, 6, 7, 8, 9, 10, 12, 34, 53] mixed Tryz.func5 rfl (by kernel_rfl) (by kernel_rfl) (by kernel_rfl) (by kernel_rfl) ?_
          repeat (first | (simp -implicitDefEqProofs only [go_sem, Nat.reduceAdd, Nat.reduceMul, Nat.reduceEqDiff, Nat.reduceLT, Nat.reduceLeDiff, Nat.reduceSub, Nat.reduceBEq, reduceIte, reduceCtorEq, Int.reduceEq, Int.reduceNe, Nat.reduceBneDiff, Int.reduceLE, Int.reduceLT, Int.reduceToNat, Int.reduceAdd, Int.reduceSub, Int.reduceMul, Int.reduceNeg, q1, g1, g2, g3, g4, z2, ze, b1, List.length_map]) | ((with_reducible refine gcall_eq (hsm) ?_ ?_ ?_); (with_reducible rfl); rfl) | ((with_reducible refine gcall_eq (hF) ?_ ?_ ?_); (with_reducible rfl); rfl) | ((with_reducible refine gcall_eq (hvr) ?_ ?_ ?_); (with_reducible rfl); rfl) | ((with_reducible refine gcall_eq (hk) ?_ ?_ ?_); (with_reducible rfl); rfl) | (with_reducible exact drawQ_true _ _ (by kernel_rfl)) | (with_reducible refine And.intro (drawQ_true _ _ (by kernel_rfl)) ?_))
    · have hp : polyB l = true := by
        cases hp : polyB l with
        | false => exact absurd (.inl hp) hbad
        | true => rfl
      rw [hp] at hvr
      obtain ⟨m, rfl⟩ : ∃ m : Nat, n = m := ⟨n.toNat, by omega⟩
      have hm : m ≤ 4 := by omega
      have h25 := (polyB_of hp).2
      have q1 : ((6 : Int) < (l.length : Int)) = False := by
        rcases hlen2 with q1 | ⟨q1, q2⟩
        · exact q1
        · simp only [bne_eq_false_iff_eq] at q2
          omega
      have g1 : ((4 : Int) < (m : Int)) = False := eq_false (by omega)
      have g3 : ((m : Int) < 0) = False := eq_false (by omega)
      have g4 : ((8 : Int) < (m : Int)) = False := eq_false (by omega)
      have hx := wnP_bound hs8
      obtain ⟨N, hN⟩ : ∃ N : Nat, N = l.length - 1 := ⟨_, rfl⟩
      have hF := Enclose_v l N m 64 hs hp hN (by omega) hx (by decide)
      have hfr := rPFrom_v l (by omega) fun p hp' => Nat.le_trans (hs8 p hp') (by decide)
      have hre := rEnclose_v (l.map wnP) N m 64 (by simpa using h25) (by simpa using hN) (by omega) hx (by decide)
      have hT1 := trans_length (l.map wnP) 1 N
      have hT2 : bd (64 + 29) (trans (l.map wnP) 1 N) := bd_trans rfl (by omega) hx
      obtain ⟨C, hC⟩ : ∃ C : Nat, C = 800 := ⟨_, rfl⟩
      have hbd : ∀ g, (encQ g N m (trans (l.map wnP) 1 N)).1.natAbs < 2 ^ C ∧ (encQ g N m (trans (l.map wnP) 1 N)).2.natAbs < 2 ^ C := by
        intro g
        have hfo := flat_ok (d := m) (by omega) hT1 hT2
        have hne := flat_ne (d := m) hT1 fun f hf => (pcs_ok (by omega) hT1 hT2 m f hf).1
        have kg := okR_best (g := g) hfo
        have qg := best_pos (g := g) (fun r hr => (hfo r hr).2.2) hne
        have hpp : 0 < (2 : Int) ^ (N * m) := Int.pow_pos (by decide)
        have hNm : N * m ≤ 24 * 8 := Nat.mul_le_mul (by omega) (by omega)
        have hpw := pow2_small (k := N * m) (by omega)
        have hd2 : ((bestF g ((pcs N (trans (l.map wnP) 1 N) m).flatMap coefs)).2 * 2 ^ (N * m)).natAbs < 2 ^ 226 := by
          rw [Int.natAbs_mul, show 226 = 25 + 201 from rfl, Nat.pow_add]
          exact Nat.mul_lt_mul'' kg.2.1 hpw
        have ha := low_abs (x := (bestF g ((pcs N (trans (l.map wnP) 1 N) m).flatMap coefs)).1) (Int.mul_pos qg hpp)
        exact ⟨Nat.lt_of_le_of_lt ha.1 (p2_mono kg.1 (by omega)), Nat.lt_of_le_of_lt ha.2 (p2_mono hd2 (by omega))⟩
      have o0 := routRatio_v (encQ false N m (trans (l.map wnP) 1 N)).1 (encQ false N m (trans (l.map wnP) 1 N)).2 100 (by decide) (p2_256 (hbd false).1 (by omega)) (p2_256 (hbd false).2 (by omega))
      have o1 := routRatio_v (encQ true N m (trans (l.map wnP) 1 N)).1 (encQ true N m (trans (l.map wnP) 1 N)).2 100 (by decide) (p2_256 (hbd true).1 (by omega)) (p2_256 (hbd true).2 (by omega))
      rw [outQ_f (big_small (p2_16 (hbd false).1 (by omega)) (p2_16 (hbd false).2 (by omega)))] at o0
      rw [outQ_f (big_small (p2_16 (hbd true).1 (by omega)) (p2_16 (hbd true).2 (by omega)))] at o1
      clear hbd hT1 hT2
      generalize encQ false N m (trans (l.map wnP) 1 N) = u at *
      generalize encQ true N m (trans (l.map wnP) 1 N) = w at *
      unfold ratPV at hF o0 o1
      unfold rQ at hre o0 o1
      generalize l.map wnP = xs at *
      unfold rL at *
      refine sound_go (tb := []) 101 [.tmp 4] [0, 1, 4, 5, 6, 7, 8, 9, 10, 12, 34, 53] mixed Tryz.func5 rfl (by kernel_rfl) (by kernel_rfl) (by kernel_rfl) (by kernel_rfl) ?_
      repeat (first | (simp -implicitDefEqProofs only [go_sem, Nat.reduceAdd, Nat.reduceMul, Nat.reduceEqDiff, Nat.reduceLT, Nat.reduceLeDiff, Nat.reduceSub, Nat.reduceBEq, reduceIte, reduceCtorEq, Int.reduceEq, Int.reduceNe, Nat.reduceBneDiff, Int.reduceLE, Int.reduceLT, Int.reduceToNat, Int.reduceAdd, Int.reduceSub, Int.reduceMul, Int.reduceNeg, q1, g1, g3, g4, z0, b1, ba_self, di, List.length_map]) | ((with_reducible refine gcall_eq (hsm) ?_ ?_ ?_); (with_reducible rfl); rfl) | ((with_reducible refine gcall_eq (hF) ?_ ?_ ?_); (with_reducible rfl); rfl) | ((with_reducible refine gcall_eq (hvr) ?_ ?_ ?_); (with_reducible rfl); rfl) | ((with_reducible refine gcall_eq (hfr) ?_ ?_ ?_); (with_reducible rfl); rfl) | ((with_reducible refine gcall_eq (hre) ?_ ?_ ?_); (with_reducible rfl); rfl) | ((with_reducible refine gcall_eq (o0) ?_ ?_ ?_); (with_reducible rfl); rfl) | ((with_reducible refine gcall_eq (o1) ?_ ?_ ?_); (with_reducible rfl); rfl) | ((with_reducible refine gcall_eq (hk) ?_ ?_ ?_); (with_reducible rfl); rfl) | (with_reducible exact drawQ_true _ _ (by kernel_rfl)) | (with_reducible refine And.intro (drawQ_true _ _ (by kernel_rfl)) ?_))
end Go.Proofs.YtnpclmmmngmdkaaGreat

namespace Go.Proofs.YtnpclmmmngmdkaaGreat
open Go.Vl Go.RowKit

theorem own : ownKnob Tryz.prog.godebug = none := by kernel_rfl
theorem laidOut : laidOutB Tryz.prog = true := by kernel_rfl
def wideT : TT := .agg [.bool, .str]
theorem wideT_inv {c : List PV} (h : HasTT wideT c) : ∃ (n : Bool) (s : ByteArray), wideT.mk c = .agg [.bool n, .str s] ∧ s.size ≤ maxLen := by
  simp only [wideT, HasTT, HasTTs] at h
  obtain ⟨_, _, rfl, ⟨n, rfl⟩, _, _, rfl, ⟨s, rfl, hs⟩, rfl⟩ := h
  exact ⟨n, s, rfl, hs⟩
theorem intT_inv {k : IntKind} {c : List PV} (h : HasTT (.int k) c) : ∃ n : Int, TT.mk (.int k) c = .int k n ∧ (Lit.int k n).wf = true := by
  simp only [HasTT] at h
  obtain ⟨x, rfl, hx⟩ := h
  exact ⟨x, rfl, hx⟩
theorem i64_bounds {n : Int} (h : (Lit.int .i64 n).wf = true) : -9223372036854775808 ≤ n ∧ n ≤ 9223372036854775807 := by
  have := h
  simp [Lit.wf, IntKind.min, IntKind.max, IntKind.signed, IntKind.bits] at this
  omega
theorem i64T_inv {c : List PV} (h : HasTT (.int .i64) c) : ∃ n : Int, TT.mk (.int .i64) c = .int .i64 n ∧ -9223372036854775808 ≤ n ∧ n ≤ 9223372036854775807 := by
  obtain ⟨n, e, w⟩ := intT_inv h
  exact ⟨n, e, i64_bounds w⟩
theorem map_inv {e : TT} {α : Type} {f : α → PV} (hf : ∀ c, HasTT e c → ∃ a, e.mk c = f a) : ∀ ess : List (List PV), (∀ c ∈ ess, HasTT e c) → ∃ l : List α, ess.map e.mk = l.map f ∧ l.length = ess.length
  | [], _ => ⟨[], rfl, rfl⟩
  | c :: cs, h => by
    obtain ⟨a, ha⟩ := hf c (h c (by simp))
    obtain ⟨l, hl, hn⟩ := map_inv hf cs (fun c hc => h c (by simp [hc]))
    exact ⟨a :: l, by simp [ha, hl], by simp [hn]⟩
theorem widesT_inv {c : List PV} (h : HasTT (.slc wideT) c) : ∃ l : List (Bool × ByteArray), TT.mk (.slc wideT) c = .slc (l.map wA) ∧ l.length ≤ maxLen := by
  simp only [HasTT] at h
  obtain ⟨ess, rfl, hm, h⟩ := h
  obtain ⟨l, e, hn⟩ := map_inv (f := wA) (fun c h => by obtain ⟨n, s, e, _⟩ := wideT_inv h; exact ⟨(n, s), e⟩) ess h
  exact ⟨l, by simp only [TT.mk, List.headD_cons]; rw [e], by omega⟩
def zeroWide : Value := .agg #[.bool false, .string ⟨#[]⟩]
end Go.Proofs.YtnpclmmmngmdkaaGreat
