/-
  FN14, FN15, FN16, Dy, FN21, FN22, Dz, FN23, FN24 (merged for the claim).
-/
import Derived.Test.YtnpclmmmngmdkaaGreatFN12
set_option linter.unusedSimpArgs false
set_option linter.unusedVariables false
namespace Go.Proofs.YtnpclmmmngmdkaaGreat
open Go.Vl Go.RowKit Go.Dg

/-- The pieces behind some halvings. -/
def twoF (n : Nat) (f : List Int) : List (List Int) := [leftH f n, rightH f n]
def pcs (n : Nat) (f0 : List Int) : Nat → List (List Int)
  | 0 => [f0]
  | i + 1 => (pcs n f0 i).flatMap (twoF n)
theorem flat2_length (n : Nat) : ∀ fs : List (List Int), (fs.flatMap (twoF n)).length = 2 * fs.length
  | [] => rfl
  | f :: fs => by rw [List.flatMap_cons, List.length_append, flat2_length n fs, List.length_cons, Nat.mul_succ, Nat.add_comm]; rfl
theorem pcs_length (n : Nat) (f0 : List Int) : ∀ i, (pcs n f0 i).length = 2 ^ i
  | 0 => rfl
  | i + 1 => by rw [pcs, flat2_length, pcs_length n f0 i, Nat.pow_succ, Nat.mul_comm]
theorem pcs_ok {n B : Nat} {f0 : List Int} (hn : n ≤ 24) (h1 : f0.length = n + 1) (h2 : bd B f0) : ∀ i, ∀ f ∈ pcs n f0 i, f.length = n + 1 ∧ bd (B + 60 * i) f
  | 0, f, hf => by rw [pcs, List.mem_singleton] at hf; subst hf; exact ⟨h1, h2⟩
  | i + 1, f, hf => by
    rw [pcs] at hf
    obtain ⟨g, hg1, hg2⟩ := List.mem_flatMap.1 hf
    obtain ⟨a1, a2⟩ := pcs_ok hn h1 h2 i g hg1
    simp only [twoF, List.mem_cons, List.not_mem_nil, or_false] at hg2
    rcases hg2 with rfl | rfl
    · exact ⟨leftH_length _ _, bd_mono (bd_leftH hn a2) (by omega)⟩
    · exact ⟨rightH_length _ _, bd_mono (bd_rightH hn a2) (by omega)⟩
theorem flat2_snoc (n : Nat) (fs : List (List Int)) (i : Nat) (h : i < fs.length) : (fs.take (i + 1)).flatMap (twoF n) = (fs.take i).flatMap (twoF n) ++ [leftH fs[i] n, rightH fs[i] n] := by
  rw [take_snoc fs i h, List.flatMap_append, List.flatMap_singleton]; rfl
theorem wL_okf (fs : List (List Int)) : (((fs.map wL).flatMap PV.cells).all PV.okCell) = true := by
  rw [List.all_eq_true]
  intro v hv
  obtain ⟨p, hp, hq⟩ := List.mem_flatMap.1 hv
  obtain ⟨f, _, rfl⟩ := List.mem_map.1 hp
  simp only [wL, PV.cells, List.mem_singleton] at hq
  subst hq; rfl
/-- The bounds behind some halvings. -/
def encQ (g : Bool) (n d : Nat) (f0 : List Int) : Int × Int := (lowN (bestF g ((pcs n f0 d).flatMap coefs)).1 ((bestF g ((pcs n f0 d).flatMap coefs)).2 * 2 ^ (n * d)), lowD (bestF g ((pcs n f0 d).flatMap coefs)).1 ((bestF g ((pcs n f0 d).flatMap coefs)).2 * 2 ^ (n * d)))
theorem flat_ok {n B d : Nat} {f0 : List Int} (hn : n ≤ 24) (h1 : f0.length = n + 1) (h2 : bd B f0) : ∀ r ∈ (pcs n f0 d).flatMap coefs, r.1.natAbs < 2 ^ (B + 60 * d) ∧ r.2.natAbs < 2 ^ 25 ∧ 0 < r.2 := by
  intro r hr
  obtain ⟨f, hf1, hf2⟩ := List.mem_flatMap.1 hr
  obtain ⟨a1, a2⟩ := pcs_ok hn h1 h2 d f hf1
  exact coefs_ok (by omega) a2 r hf2
theorem flat_ne {n d : Nat} {f0 : List Int} (h1 : f0.length = n + 1) (hok : ∀ f ∈ pcs n f0 d, f.length = n + 1) : (pcs n f0 d).flatMap coefs ≠ [] := by
  intro e
  have hp := pcs_length n f0 d
  have h0 : 0 < (pcs n f0 d).length := by rw [hp]; exact Nat.pow_pos (by decide)
  have h2 := List.flatMap_eq_nil_iff.1 e (pcs n f0 d)[0] (List.getElem_mem h0)
  have h3 := coefs_length (pcs n f0 d)[0]
  rw [h2, hok _ (List.getElem_mem h0)] at h3
  cases h3
theorem pow2_small {k : Nat} (h : k ≤ 200) : ((2 : Int) ^ k).natAbs < 2 ^ 201 := by
  rw [Int.natAbs_pow]; exact Nat.pow_lt_pow_right (by decide) (by omega)
set_option maxHeartbeats 4000000 in
theorem Enclose_v (l : List (Bool × ByteArray)) (n d B : Nat) (hs : ∀ p ∈ l, p.2.size ≤ 100000) (hp : polyB l = true) (hn : n = l.length - 1) (hd : d ≤ 8) (hx : ∀ x ∈ l.map wnP, x.natAbs < 2 ^ B) (hB : B ≤ 50000) :
    SoundAt Tryz.prog 22 [.slc (l.map wA), .int .i64 (d : Int)] (.tup [ratPV (encQ false n d (trans (l.map wnP) 1 n)).1 (encQ false n d (trans (l.map wnP) 1 n)).2, ratPV (encQ true n d (trans (l.map wnP) 1 n)).1 (encQ true n d (trans (l.map wnP) 1 n)).2, .int .i64 0]) := by
  obtain ⟨hval, h25⟩ := polyB_of hp
  have hc := check_v l n d hs hp hn hd fun x hx' => p2_16 (hx x hx') (by omega)
  have hnd : n * d ≤ 24 * 8 := Nat.mul_le_mul (by omega) hd
  have hle : bitsF blen (l.map wnP) ≤ B := bitsF_le fun x hx' => p2_blen (hx x hx')
  rw [if_neg (by omega)] at hc
  have hxl : (l.map wnP).length = l.length := List.length_map _
  rw [wA_wPV hval] at hc ⊢
  rw [← hxl] at h25 hn
  clear hval hp hs
  generalize l.map wnP = xs at *
  have hn24 : n ≤ 24 := by omega
  have hof := of_v xs n B hn24 (by omega) (by omega) hx
  have hT1 := trans_length xs 1 n
  have hT2 : bd (B + 29) (trans xs 1 n) := bd_trans rfl hn24 hx
  generalize trans xs 1 n = T at *
  have z0 : ((0 : Int) != 0) = false := rfl
  have hok := fun i => pcs_ok hn24 hT1 hT2 i
  have hfo := flat_ok (d := d) hn24 hT1 hT2
  have hne := flat_ne (d := d) hT1 fun f hf => (hok d f hf).1
  have l1 := least_v (pcs n T d) false n (B + 29 + 60 * d) hn24 (by rw [pcs_length]; exact Nat.le_trans (Nat.pow_le_pow_right (by decide) hd) (by decide)) (hok d) (by omega)
  have l2 := least_v (pcs n T d) true n (B + 29 + 60 * d) hn24 (by rw [pcs_length]; exact Nat.le_trans (Nat.pow_le_pow_right (by decide) hd) (by decide)) (hok d) (by omega)
  have k1 := okR_best (g := false) hfo
  have k2 := okR_best (g := true) hfo
  have q1 := best_pos (g := false) (fun r hr => (hfo r hr).2.2) hne
  have q2 := best_pos (g := true) (fun r hr => (hfo r hr).2.2) hne
  have hone := wOf_v 1 (by decide) (by decide)
  have o1 : (1 : Int).natAbs < 2 ^ 65536 := p2_16 (B := 1) (by decide) (by decide)
  have w2 : IntKind.i64.wrap ((n : Int) * (d : Int)) = ((n * d : Nat) : Int) := by rw [← Int.natCast_mul]; exact wrapn (by omega)
  have hsh := wShift_i (x := 1) ((n * d : Nat) : Int) o1 (by omega) (by omega)
  have hpw := pow2_small (k := n * d) (by omega)
  have hpp : 0 < (2 : Int) ^ (n * d) := Int.pow_pos (by decide)
  have esh : shiftI 1 ((n * d : Nat) : Int) = 2 ^ (n * d) := by unfold shiftI; rw [if_pos (by omega), Int.toNat_natCast, Int.one_mul]
  rw [esh, outPV_ok (p2_16 hpw (by decide))] at hsh
  have m1 := wMulRatio_i (a := (bestF false ((pcs n T d).flatMap coefs)).1) (b := (bestF false ((pcs n T d).flatMap coefs)).2) (c := 1) (d := 2 ^ (n * d)) (p2_16 k1.1 (by omega)) (p2_16 k1.2.1 (by decide)) o1 (p2_16 hpw (by decide)) q1 hpp
  have m2 := wMulRatio_i (a := (bestF true ((pcs n T d).flatMap coefs)).1) (b := (bestF true ((pcs n T d).flatMap coefs)).2) (c := 1) (d := 2 ^ (n * d)) (p2_16 k2.1 (by omega)) (p2_16 k2.2.1 (by decide)) o1 (p2_16 hpw (by decide)) q2 hpp
  rw [Int.mul_one] at m1 m2
  have small : ∀ b : Int × Int, okR (B + 29 + 60 * d) b → 0 < b.2 → big (lowN b.1 (b.2 * 2 ^ (n * d))) (lowD b.1 (b.2 * 2 ^ (n * d))) = false := by
    intro b hb h0
    have hy : 0 < b.2 * 2 ^ (n * d) := Int.mul_pos h0 hpp
    have ha := low_abs (x := b.1) hy
    have hd2 : (b.2 * 2 ^ (n * d)).natAbs < 2 ^ 226 := by
      rw [Int.natAbs_mul, show 226 = 25 + 201 from rfl, Nat.pow_add]
      exact Nat.mul_lt_mul'' hb.2.1 hpw
    exact big_small (Nat.lt_of_le_of_lt ha.1 (p2_16 hb.1 (by omega))) (Nat.lt_of_le_of_lt ha.2 (p2_16 hd2 (by decide)))
  rw [outQ_f (small _ k1 q1)] at m1
  rw [outQ_f (small _ k2 q2)] at m2
  have hR1 : ratPV (encQ false n d T).1 (encQ false n d T).2 = ratPV (lowN (bestF false ((pcs n T d).flatMap coefs)).1 ((bestF false ((pcs n T d).flatMap coefs)).2 * 2 ^ (n * d))) (lowD (bestF false ((pcs n T d).flatMap coefs)).1 ((bestF false ((pcs n T d).flatMap coefs)).2 * 2 ^ (n * d))) := rfl
  have hR2 : ratPV (encQ true n d T).1 (encQ true n d T).2 = ratPV (lowN (bestF true ((pcs n T d).flatMap coefs)).1 ((bestF true ((pcs n T d).flatMap coefs)).2 * 2 ^ (n * d))) (lowD (bestF true ((pcs n T d).flatMap coefs)).1 ((bestF true ((pcs n T d).flatMap coefs)).2 * 2 ^ (n * d))) := rfl
  rw [hR1, hR2]
  unfold rats at l1 l2
  clear hR1 hR2 small hfo hne k1 k2 q1 q2 esh hpp o1
  generalize bestF false ((pcs n T d).flatMap coefs) = b1 at *
  generalize bestF true ((pcs n T d).flatMap coefs) = b2 at *
  generalize hK : (2 : Int) ^ (n * d) = K at *
  generalize lowN b1.1 (b1.2 * K) = x1 at *
  generalize lowD b1.1 (b1.2 * K) = y1 at *
  generalize lowN b2.1 (b2.2 * K) = x2 at *
  generalize lowD b2.1 (b2.2 * K) = y2 at *
  obtain ⟨m, w1, c1, hm⟩ : ∃ m : Int, IntKind.i64.wrap ((xs.length : Int) - 1) = m ∧ ((0 : Int) < m) = (1 < xs.length) ∧ m = (xs.length : Int) - 1 := ⟨_, wrap_i64 (by omega) (by omega), by simp only [eq_iff_iff]; omega, rfl⟩
  unfold wL at hof
  by_cases h1 : 1 < xs.length
  · have c2 : ((0 : Int) < (n : Int)) = True := eq_true (by omega)
    have w3 : IntKind.i64.wrap ((xs.length : Int) - 1) = (n : Int) := by rw [wrap_i64 (by omega) (by omega)]; omega
    refine sound_go (tb := []) 83 [.cell 4 32, .cell 5 32, .tmp 6] [0, 1, 4, 5, 6, 7, 8, 9, 10, 12, 13, 14, 15, 17, 22, 34, 35, 36, 37, 38, 39, 40] mixed Tryz.func22 rfl (by kernel_rfl) (by kernel_rfl) (by kernel_rfl) (by kernel_rfl) ?_
    repeat (first | (simp -implicitDefEqProofs only [go_sem, Nat.reduceAdd, Nat.reduceMul, Nat.reduceEqDiff, Nat.reduceLT, Nat.reduceLeDiff, Nat.reduceSub, Nat.reduceBEq, reduceIte, reduceCtorEq, Int.reduceEq, Int.reduceNe, Nat.reduceBneDiff, Int.reduceLE, Int.reduceLT, Int.reduceToNat, Int.reduceAdd, Int.reduceSub, Int.reduceMul, Int.reduceNeg, z0, w3, c2, List.length_map, wL]) | ((with_reducible refine gcall_eq (hc) ?_ ?_ ?_); (with_reducible rfl); rfl) | ((with_reducible refine gcall_eq (hof) ?_ ?_ ?_); (with_reducible rfl); rfl) | (with_reducible exact drawQ_true _ _ (by kernel_rfl)) | (with_reducible refine And.intro (drawQ_true _ _ (by kernel_rfl)) ?_))
    refine g_loop mixed (fun i : { i : Nat // i ≤ d } => St.of [(1, .int .i64 (d : Int)), (4, .bp 0 4 0 0), (5, .bp 1 4 0 0), (8, .int .i64 (n : Int)), (9, .slc ((pcs n T i.1).map wL)), (34, .int .i64 (d : Int)), (35, .int .i64 (i.1 : Int))]
      [(0, { els := [rats false []], esz := 4, ety := 32, fro := 0, live := true, arr := false }), (1, { els := [rats false []], esz := 4, ety := 32, fro := 0, live := true, arr := false })]) (fun i => d - i.1) ⟨0, Nat.zero_le _⟩ ?_ ?_
    · refine Le.trans (le_escG 9 rfl rfl rfl rfl (by simp)) (le_of (θ := [(0, 0), (1, 1)]) rfl ?_ ?_)
      · simp [varsLe, lkp, ren1, ren0, wL, pcs]
      · simp only [rats_nil]
        exact ⟨⟨rfl, rfl, rfl, rfl, rfl, .inr ⟨rfl, _, _, rfl, rfl, rfl, rfl⟩⟩, ⟨rfl, rfl, rfl, rfl, rfl, .inr ⟨rfl, _, _, rfl, rfl, rfl, rfl⟩⟩, trivial⟩
    · rintro ⟨i, hi⟩
      by_cases hI : i < d
      · have hI' := ltT hI
        have hwi := wrap_add1 (a := i) (by omega)
        have hlen := pcs_length n T i
        have hlen2 : (pcs n T i).length ≤ 256 := by rw [hlen]; exact Nat.le_trans (Nat.pow_le_pow_right (by decide) (show i ≤ 8 by omega)) (by decide)
        have hoki := hok i
        have hnext : pcs n T (i + 1) = (pcs n T i).flatMap (twoF n) := rfl
        simp only
        have hGl : (pcs n T (i + 1)).length = 2 * (pcs n T i).length := by rw [hnext, flat2_length]
        generalize hGe : pcs n T (i + 1) = G at *
        generalize hFs : pcs n T i = fs at *
        repeat (first | (simp -implicitDefEqProofs only [go_sem, Nat.reduceAdd, Nat.reduceMul, Nat.reduceEqDiff, Nat.reduceLT, Nat.reduceLeDiff, Nat.reduceSub, Nat.reduceBEq, reduceIte, reduceCtorEq, Int.reduceEq, Int.reduceNe, Nat.reduceBneDiff, Int.reduceLE, Int.reduceLT, Int.reduceToNat, Int.reduceAdd, Int.reduceSub, Int.reduceMul, Int.reduceNeg, hI', List.length_map]) | (with_reducible exact drawQ_true _ _ (by kernel_rfl)) | (with_reducible refine And.intro (drawQ_true _ _ (by kernel_rfl)) ?_))
        refine g_loop mixed (fun k : { k : Nat // k ≤ fs.length } => St.of [(1, .int .i64 (d : Int)), (4, .bp 0 4 0 0), (5, .bp 1 4 0 0), (8, .int .i64 (n : Int)), (10, .bs 7 1 0 (2 * k.1)), (34, .int .i64 (d : Int)), (35, .int .i64 (i : Int)), (37, .slc (fs.map wL)), (38, .int .i64 (fs.length : Int)), (39, .int .i64 (k.1 : Int))]
          [(0, { els := [rats false []], esz := 4, ety := 32, fro := 0, live := true, arr := false }), (1, { els := [rats false []], esz := 4, ety := 32, fro := 0, live := true, arr := false }), (7, { els := ((fs.take k.1).flatMap (twoF n)).map wL, esz := 1, ety := 78, fro := 0, live := true, arr := true })]) (fun k => fs.length - k.1) ⟨0, Nat.zero_le _⟩ ?_ ?_
        · refine le_nil1 10 7 1 78 rfl rfl rfl (by decide) [(0, 0), (1, 1), (7, 7)] rfl ?_ ?_
          · simp [varsLe, lkp, ren1, ren0, wL]
          · exact ⟨⟨rfl, rfl, rfl, rfl, rfl, .inr ⟨rfl, _, _, rfl, rfl, rfl, rfl⟩⟩, ⟨rfl, rfl, rfl, rfl, rfl, .inr ⟨rfl, _, _, rfl, rfl, rfl, rfl⟩⟩, ⟨rfl, rfl, rfl, rfl, rfl, .inl ⟨rfl, rfl⟩⟩, trivial⟩
        · rintro ⟨k, hk⟩
          have hkl : (((fs.take k).flatMap (twoF n)).map wL).length = 2 * k := by rw [List.length_map, flat2_length, List.length_take, Nat.min_eq_left hk]
          by_cases hA : k < fs.length
          · have hA' := ltT hA
            have h0 := nnT k
            have hg := wL_get fs k hA
            have hwk := wrap_add1 (a := k) (by omega)
            obtain ⟨a1, a2⟩ := hoki _ (List.getElem_mem hA)
            have hh := halves_v fs[k] n (B + 29 + 60 * i) hn24 a1 (by omega) a2
            have htk := flat2_snoc n fs k hA
            have q1 : (2 * k == 2 * k) = true := beq_self_eq_true _
            have q2 : ((2 * k + 2) * 24 ≤ 140737488355328) = True := eq_true (by omega)
            have q3 : (2 * k + 2 ≤ maxLen) = True := eq_true (by unfold maxLen; omega)
            generalize leftH fs[k] n = L at *
            generalize rightH fs[k] n = R at *
            repeat (first | (simp -implicitDefEqProofs only [go_sem, Nat.reduceAdd, Nat.reduceMul, Nat.reduceEqDiff, Nat.reduceLT, Nat.reduceLeDiff, Nat.reduceSub, Nat.reduceBEq, reduceIte, reduceCtorEq, Int.reduceEq, Int.reduceNe, Nat.reduceBneDiff, Int.reduceLE, Int.reduceLT, Int.reduceToNat, Int.reduceAdd, Int.reduceSub, Int.reduceMul, Int.reduceNeg, wL, hA', h0, hg, hwk, hkl, q1, q2, q3, wL_okf, List.length_map, Int.toNat_natCast]) | ((with_reducible refine gcall_eq (hh) ?_ ?_ ?_); (with_reducible rfl); rfl) | (with_reducible exact drawQ_true _ _ (by kernel_rfl)) | (with_reducible refine And.intro (drawQ_true _ _ (by kernel_rfl)) ?_))
            refine ⟨⟨k + 1, hA⟩, by simp only; omega, le_of (θ := [(0, 0), (1, 1), (7, 1304)]) rfl ?_ ?_⟩
            · simp [varsLe, lkp, ren1, ren0, wL]; omega
            · simp only [htk, List.map_append]
              exact ⟨⟨rfl, rfl, rfl, rfl, rfl, .inr ⟨rfl, _, _, rfl, rfl, rfl, rfl⟩⟩, ⟨rfl, rfl, rfl, rfl, rfl, .inr ⟨rfl, _, _, rfl, rfl, rfl, rfl⟩⟩, ⟨rfl, rfl, rfl, rfl, rfl, .inl ⟨rfl, rfl⟩⟩, trivial⟩
          · have hA' := ltF hA
            have e : fs.take k = fs := List.take_of_length_le (by omega)
            simp only [e, ← hnext]
            repeat (first | (simp -implicitDefEqProofs only [go_sem, Nat.reduceAdd, Nat.reduceMul, Nat.reduceEqDiff, Nat.reduceLT, Nat.reduceLeDiff, Nat.reduceSub, Nat.reduceBEq, reduceIte, reduceCtorEq, Int.reduceEq, Int.reduceNe, Nat.reduceBneDiff, Int.reduceLE, Int.reduceLT, Int.reduceToNat, Int.reduceAdd, Int.reduceSub, Int.reduceMul, Int.reduceNeg, hA', hwi]) | (with_reducible exact drawQ_true _ _ (by kernel_rfl)) | (with_reducible refine And.intro (drawQ_true _ _ (by kernel_rfl)) ?_))
            refine ⟨⟨i + 1, hI⟩, by simp only; omega, Le.trans (le_escG 9 rfl rfl rfl rfl (by simp only [List.length_map]; omega)) (le_of (θ := [(0, 0), (1, 1)]) rfl ?_ ?_)⟩
            · simp [varsLe, lkp, ren1, ren0]
              rw [hGe, List.take_of_length_le (by rw [List.length_map]; omega)]
            · exact ⟨⟨rfl, rfl, rfl, rfl, rfl, .inr ⟨rfl, _, _, rfl, rfl, rfl, rfl⟩⟩, ⟨rfl, rfl, rfl, rfl, rfl, .inr ⟨rfl, _, _, rfl, rfl, rfl, rfl⟩⟩, trivial⟩
      · have hI' := ltF hI
        obtain rfl : i = d := by omega
        simp only [rats_nil]
        repeat (first | (simp -implicitDefEqProofs only [go_sem, Nat.reduceAdd, Nat.reduceMul, Nat.reduceEqDiff, Nat.reduceLT, Nat.reduceLeDiff, Nat.reduceSub, Nat.reduceBEq, reduceIte, reduceCtorEq, Int.reduceEq, Int.reduceNe, Nat.reduceBneDiff, Int.reduceLE, Int.reduceLT, Int.reduceToNat, Int.reduceAdd, Int.reduceSub, Int.reduceMul, Int.reduceNeg, hI', w2, wPV, ratPV]) | ((with_reducible refine gcall_eq (hone) ?_ ?_ ?_); (with_reducible rfl); rfl) | ((with_reducible refine gcall_eq (hsh) ?_ ?_ ?_); (with_reducible rfl); rfl) | ((with_reducible refine gcall_eq (l1) ?_ ?_ ?_); (with_reducible rfl); rfl) | ((with_reducible refine gcall_eq (m1) ?_ ?_ ?_); (with_reducible rfl); rfl) | ((with_reducible refine gcall_eq (l2) ?_ ?_ ?_); (with_reducible rfl); rfl) | ((with_reducible refine gcall_eq (m2) ?_ ?_ ?_); (with_reducible rfl); rfl) | (with_reducible exact drawQ_true _ _ (by kernel_rfl)) | (with_reducible refine And.intro (drawQ_true _ _ (by kernel_rfl)) ?_))
  · have hn0 : n = 0 := by omega
    have c2 : ((0 : Int) < m) = False := by rw [c1]; exact eq_false h1
    have hof0 : SoundAt Tryz.prog 60 [.slc (xs.map wPV), .int .i64 0] (.slc (T.map wPV)) := by
      have := hof
      rwa [show ((n : Nat) : Int) = 0 by omega] at this
    refine sound_go (tb := []) 83 [.cell 4 32, .cell 5 32, .tmp 6] [0, 1, 4, 5, 6, 7, 8, 9, 10, 12, 13, 14, 15, 17, 22, 34, 35, 36, 37, 38, 39, 40] mixed Tryz.func22 rfl (by kernel_rfl) (by kernel_rfl) (by kernel_rfl) (by kernel_rfl) ?_
    repeat (first | (simp -implicitDefEqProofs only [go_sem, Nat.reduceAdd, Nat.reduceMul, Nat.reduceEqDiff, Nat.reduceLT, Nat.reduceLeDiff, Nat.reduceSub, Nat.reduceBEq, reduceIte, reduceCtorEq, Int.reduceEq, Int.reduceNe, Nat.reduceBneDiff, Int.reduceLE, Int.reduceLT, Int.reduceToNat, Int.reduceAdd, Int.reduceSub, Int.reduceMul, Int.reduceNeg, z0, w1, c2, List.length_map, wL]) | ((with_reducible refine gcall_eq (hc) ?_ ?_ ?_); (with_reducible rfl); rfl) | ((with_reducible refine gcall_eq (hof0) ?_ ?_ ?_); (with_reducible rfl); rfl) | (with_reducible exact drawQ_true _ _ (by kernel_rfl)) | (with_reducible refine And.intro (drawQ_true _ _ (by kernel_rfl)) ?_))
    refine g_loop mixed (fun i : { i : Nat // i ≤ d } => St.of [(1, .int .i64 (d : Int)), (4, .bp 0 4 0 0), (5, .bp 1 4 0 0), (8, .int .i64 (n : Int)), (9, .slc ((pcs n T i.1).map wL)), (34, .int .i64 (d : Int)), (35, .int .i64 (i.1 : Int))]
      [(0, { els := [rats false []], esz := 4, ety := 32, fro := 0, live := true, arr := false }), (1, { els := [rats false []], esz := 4, ety := 32, fro := 0, live := true, arr := false })]) (fun i => d - i.1) ⟨0, Nat.zero_le _⟩ ?_ ?_
    · refine Le.trans (le_escG 9 rfl rfl rfl rfl (by simp)) (le_of (θ := [(0, 0), (1, 1)]) rfl ?_ ?_)
      · simp [varsLe, lkp, ren1, ren0, wL, pcs, hn0]
      · simp only [rats_nil]
        exact ⟨⟨rfl, rfl, rfl, rfl, rfl, .inr ⟨rfl, _, _, rfl, rfl, rfl, rfl⟩⟩, ⟨rfl, rfl, rfl, rfl, rfl, .inr ⟨rfl, _, _, rfl, rfl, rfl, rfl⟩⟩, trivial⟩
    · rintro ⟨i, hi⟩
      by_cases hI : i < d
      · have hI' := ltT hI
        have hwi := wrap_add1 (a := i) (by omega)
        have hlen := pcs_length n T i
        have hlen2 : (pcs n T i).length ≤ 256 := by rw [hlen]; exact Nat.le_trans (Nat.pow_le_pow_right (by decide) (show i ≤ 8 by omega)) (by decide)
        have hoki := hok i
        have hnext : pcs n T (i + 1) = (pcs n T i).flatMap (twoF n) := rfl
        simp only
        have hGl : (pcs n T (i + 1)).length = 2 * (pcs n T i).length := by rw [hnext, flat2_length]
        generalize hGe : pcs n T (i + 1) = G at *
        generalize hFs : pcs n T i = fs at *
        repeat (first | (simp -implicitDefEqProofs only [go_sem, Nat.reduceAdd, Nat.reduceMul, Nat.reduceEqDiff, Nat.reduceLT, Nat.reduceLeDiff, Nat.reduceSub, Nat.reduceBEq, reduceIte, reduceCtorEq, Int.reduceEq, Int.reduceNe, Nat.reduceBneDiff, Int.reduceLE, Int.reduceLT, Int.reduceToNat, Int.reduceAdd, Int.reduceSub, Int.reduceMul, Int.reduceNeg, hI', List.length_map]) | (with_reducible exact drawQ_true _ _ (by kernel_rfl)) | (with_reducible refine And.intro (drawQ_true _ _ (by kernel_rfl)) ?_))
        refine g_loop mixed (fun k : { k : Nat // k ≤ fs.length } => St.of [(1, .int .i64 (d : Int)), (4, .bp 0 4 0 0), (5, .bp 1 4 0 0), (8, .int .i64 (n : Int)), (10, .bs 7 1 0 (2 * k.1)), (34, .int .i64 (d : Int)), (35, .int .i64 (i : Int)), (37, .slc (fs.map wL)), (38, .int .i64 (fs.length : Int)), (39, .int .i64 (k.1 : Int))]
          [(0, { els := [rats false []], esz := 4, ety := 32, fro := 0, live := true, arr := false }), (1, { els := [rats false []], esz := 4, ety := 32, fro := 0, live := true, arr := false }), (7, { els := ((fs.take k.1).flatMap (twoF n)).map wL, esz := 1, ety := 78, fro := 0, live := true, arr := true })]) (fun k => fs.length - k.1) ⟨0, Nat.zero_le _⟩ ?_ ?_
        · refine le_nil1 10 7 1 78 rfl rfl rfl (by decide) [(0, 0), (1, 1), (7, 7)] rfl ?_ ?_
          · simp [varsLe, lkp, ren1, ren0, wL]
          · exact ⟨⟨rfl, rfl, rfl, rfl, rfl, .inr ⟨rfl, _, _, rfl, rfl, rfl, rfl⟩⟩, ⟨rfl, rfl, rfl, rfl, rfl, .inr ⟨rfl, _, _, rfl, rfl, rfl, rfl⟩⟩, ⟨rfl, rfl, rfl, rfl, rfl, .inl ⟨rfl, rfl⟩⟩, trivial⟩
        · rintro ⟨k, hk⟩
          have hkl : (((fs.take k).flatMap (twoF n)).map wL).length = 2 * k := by rw [List.length_map, flat2_length, List.length_take, Nat.min_eq_left hk]
          by_cases hA : k < fs.length
          · have hA' := ltT hA
            have h0 := nnT k
            have hg := wL_get fs k hA
            have hwk := wrap_add1 (a := k) (by omega)
            obtain ⟨a1, a2⟩ := hoki _ (List.getElem_mem hA)
            have hh := halves_v fs[k] n (B + 29 + 60 * i) hn24 a1 (by omega) a2
            have htk := flat2_snoc n fs k hA
            have q1 : (2 * k == 2 * k) = true := beq_self_eq_true _
            have q2 : ((2 * k + 2) * 24 ≤ 140737488355328) = True := eq_true (by omega)
            have q3 : (2 * k + 2 ≤ maxLen) = True := eq_true (by unfold maxLen; omega)
            generalize leftH fs[k] n = L at *
            generalize rightH fs[k] n = R at *
            repeat (first | (simp -implicitDefEqProofs only [go_sem, Nat.reduceAdd, Nat.reduceMul, Nat.reduceEqDiff, Nat.reduceLT, Nat.reduceLeDiff, Nat.reduceSub, Nat.reduceBEq, reduceIte, reduceCtorEq, Int.reduceEq, Int.reduceNe, Nat.reduceBneDiff, Int.reduceLE, Int.reduceLT, Int.reduceToNat, Int.reduceAdd, Int.reduceSub, Int.reduceMul, Int.reduceNeg, wL, hA', h0, hg, hwk, hkl, q1, q2, q3, wL_okf, List.length_map, Int.toNat_natCast]) | ((with_reducible refine gcall_eq (hh) ?_ ?_ ?_); (with_reducible rfl); rfl) | (with_reducible exact drawQ_true _ _ (by kernel_rfl)) | (with_reducible refine And.intro (drawQ_true _ _ (by kernel_rfl)) ?_))
            refine ⟨⟨k + 1, hA⟩, by simp only; omega, le_of (θ := [(0, 0), (1, 1), (7, 1304)]) rfl ?_ ?_⟩
            · simp [varsLe, lkp, ren1, ren0, wL]; omega
            · simp only [htk, List.map_append]
              exact ⟨⟨rfl, rfl, rfl, rfl, rfl, .inr ⟨rfl, _, _, rfl, rfl, rfl, rfl⟩⟩, ⟨rfl, rfl, rfl, rfl, rfl, .inr ⟨rfl, _, _, rfl, rfl, rfl, rfl⟩⟩, ⟨rfl, rfl, rfl, rfl, rfl, .inl ⟨rfl, rfl⟩⟩, trivial⟩
          · have hA' := ltF hA
            have e : fs.take k = fs := List.take_of_length_le (by omega)
            simp only [e, ← hnext]
            repeat (first | (simp -implicitDefEqProofs only [go_sem, Nat.reduceAdd, Nat.reduceMul, Nat.reduceEqDiff, Nat.reduceLT, Nat.reduceLeDiff, Nat.reduceSub, Nat.reduceBEq, reduceIte, reduceCtorEq, Int.reduceEq, Int.reduceNe, Nat.reduceBneDiff, Int.reduceLE, Int.reduceLT, Int.reduceToNat, Int.reduceAdd, Int.reduceSub, Int.reduceMul, Int.reduceNeg, hA', hwi]) | (with_reducible exact drawQ_true _ _ (by kernel_rfl)) | (with_reducible refine And.intro (drawQ_true _ _ (by kernel_rfl)) ?_))
            refine ⟨⟨i + 1, hI⟩, by simp only; omega, Le.trans (le_escG 9 rfl rfl rfl rfl (by simp only [List.length_map]; omega)) (le_of (θ := [(0, 0), (1, 1)]) rfl ?_ ?_)⟩
            · simp [varsLe, lkp, ren1, ren0]
              rw [hGe, List.take_of_length_le (by rw [List.length_map]; omega)]
            · exact ⟨⟨rfl, rfl, rfl, rfl, rfl, .inr ⟨rfl, _, _, rfl, rfl, rfl, rfl⟩⟩, ⟨rfl, rfl, rfl, rfl, rfl, .inr ⟨rfl, _, _, rfl, rfl, rfl, rfl⟩⟩, trivial⟩
      · have hI' := ltF hI
        obtain rfl : i = d := by omega
        simp only [rats_nil]
        repeat (first | (simp -implicitDefEqProofs only [go_sem, Nat.reduceAdd, Nat.reduceMul, Nat.reduceEqDiff, Nat.reduceLT, Nat.reduceLeDiff, Nat.reduceSub, Nat.reduceBEq, reduceIte, reduceCtorEq, Int.reduceEq, Int.reduceNe, Nat.reduceBneDiff, Int.reduceLE, Int.reduceLT, Int.reduceToNat, Int.reduceAdd, Int.reduceSub, Int.reduceMul, Int.reduceNeg, hI', w2, wPV, ratPV]) | ((with_reducible refine gcall_eq (hone) ?_ ?_ ?_); (with_reducible rfl); rfl) | ((with_reducible refine gcall_eq (hsh) ?_ ?_ ?_); (with_reducible rfl); rfl) | ((with_reducible refine gcall_eq (l1) ?_ ?_ ?_); (with_reducible rfl); rfl) | ((with_reducible refine gcall_eq (m1) ?_ ?_ ?_); (with_reducible rfl); rfl) | ((with_reducible refine gcall_eq (l2) ?_ ?_ ?_); (with_reducible rfl); rfl) | ((with_reducible refine gcall_eq (m2) ?_ ?_ ?_); (with_reducible rfl); rfl) | (with_reducible exact drawQ_true _ _ (by kernel_rfl)) | (with_reducible refine And.intro (drawQ_true _ _ (by kernel_rfl)) ?_))
end Go.Proofs.YtnpclmmmngmdkaaGreat

namespace Go.Proofs.YtnpclmmmngmdkaaGreat
open Go.Vl Go.RowKit Go.Dg

/-- One ratio is less than another one. -/
def ltQ (x y : Int × Int) : Prop := x.1 * y.2 < y.1 * x.2
theorem ltQ_le {x y z : Int × Int} (hx : 0 < x.2) (hy : 0 < y.2) (hz : 0 < z.2) (h1 : ltQ x y) (h2 : ¬ ltQ z y) : ltQ x z := by
  unfold ltQ at *
  have a1 : (x.1 * y.2) * z.2 < (y.1 * x.2) * z.2 := Int.mul_lt_mul_of_pos_right h1 hz
  have a2 : (y.1 * z.2) * x.2 ≤ (z.1 * y.2) * x.2 := Int.mul_le_mul_of_nonneg_right (by omega) (Int.le_of_lt hx)
  have e1 : (x.1 * y.2) * z.2 = (x.1 * z.2) * y.2 := Int.mul_right_comm _ _ _
  have e2 : (y.1 * x.2) * z.2 = (y.1 * z.2) * x.2 := Int.mul_right_comm _ _ _
  have e3 : (z.1 * y.2) * x.2 = (z.1 * x.2) * y.2 := Int.mul_right_comm _ _ _
  exact Int.lt_of_mul_lt_mul_right (a := y.2) (by omega) (Int.le_of_lt hy)
theorem ltQ_irrefl (x : Int × Int) : ¬ ltQ x x := Int.lt_irrefl _
theorem ltQ_asymm {x y : Int × Int} (h : ltQ x y) : ¬ ltQ y x := by unfold ltQ at *; omega
theorem nltQ_trans {x y z : Int × Int} (hx : 0 < x.2) (hy : 0 < y.2) (hz : 0 < z.2) (h1 : ¬ ltQ x y) (h2 : ¬ ltQ y z) : ¬ ltQ x z := fun h => h1 (ltQ_le hx hz hy h h2)
/-- One ratio is better than another one. -/
def bt (g : Bool) (r b : Int × Int) : Prop := if g = true then ltQ b r else ltQ r b
instance (g : Bool) (r b : Int × Int) : Decidable (bt g r b) := by unfold bt ltQ; infer_instance
theorem bstep_pos {g : Bool} {b r : Int × Int} (hb : 0 < b.2) : bstep g b r = if bt g r b then r else b := by
  unfold bstep bt ltQ
  by_cases hg : g = true
  · simp only [hg, if_true, show ¬ b.2 = 0 by omega, false_or]
  · simp only [hg, if_false, show ¬ b.2 = 0 by omega, false_or, Bool.false_eq_true]
theorem nbt_trans {g : Bool} {x y z : Int × Int} (hx : 0 < x.2) (hy : 0 < y.2) (hz : 0 < z.2) (h1 : ¬ bt g x y) (h2 : ¬ bt g y z) : ¬ bt g x z := by
  cases g with
  | true => exact nltQ_trans hz hy hx h2 h1
  | false => exact nltQ_trans hx hy hz h1 h2
theorem bt_irrefl (g : Bool) (x : Int × Int) : ¬ bt g x x := by cases g <;> exact ltQ_irrefl x
theorem bstep_00 (g : Bool) (r : Int × Int) : bstep g (0, 0) r = r := by unfold bstep; rw [if_pos (.inl rfl)]
end Go.Proofs.YtnpclmmmngmdkaaGreat

namespace Go.Proofs.YtnpclmmmngmdkaaGreat
open Go.Vl Go.RowKit Go.Dg

end Go.Proofs.YtnpclmmmngmdkaaGreat

namespace Go.Dg

theorem hev_nonneg : ∀ {f : List Int} {x y : Int}, (∀ c ∈ f, 0 ≤ c) → 0 ≤ x → 0 ≤ y → 0 ≤ hev f x y
  | [], _, _, _, _, _ => Int.le_refl _
  | c :: r, x, y, h, hx, hy => by
    rw [hev]
    exact Int.add_nonneg (Int.mul_nonneg (h c (List.mem_cons_self ..)) (Int.pow_nonneg hy)) (Int.mul_nonneg hx (hev_nonneg (fun d hd => h d (List.mem_cons_of_mem _ hd)) hx hy))
theorem getD_range_map (F : Nat → Int) (n j : Nat) (h : j < n) : ((List.range n).map F).getD j 0 = F j := by simp [List.getD_eq_getElem?_getD, h]
/-- A bound from below, a / b, for the coefficients of a form (with b below 0: from above). -/
def lowB (f : List Int) (n : Nat) (a b : Int) : Prop := ∀ j, j ≤ n → a * (bin n j : Int) ≤ b * f.getD j 0
theorem low_hev {f : List Int} {n : Nat} {a b x y : Int} (hf : f.length = n + 1) (h : lowB f n a b) (hx : 0 ≤ x) (hy : 0 ≤ y) : a * (x + y) ^ n ≤ b * hev f x y := by
  rw [hev_sm, hf, Nat.add_sub_cancel, ← bin_thm x y n, ← sm_mul, ← sm_mul]
  refine sm_le _ fun i hi => ?_
  have hw : (0 : Int) ≤ x ^ i * y ^ (n - i) := Int.mul_nonneg (Int.pow_nonneg hx) (Int.pow_nonneg hy)
  have h1 := Int.mul_le_mul_of_nonneg_right (h i (by omega)) hw
  rw [Int.mul_assoc, Int.mul_assoc] at h1
  exact h1
/-- The coefficients of 1. -/
def binL (n : Nat) : List Int := (List.range (n + 1)).map fun j => (bin n j : Int)
theorem binL_length (n : Nat) : (binL n).length = n + 1 := by simp [binL]
theorem binL_hev (n : Nat) (x y : Int) : hev (binL n) x y = (x + y) ^ n := by rw [binL, hev_ofFn, bin_thm]
theorem leftH_bin (n : Nat) : leftH (binL n) n = (List.range (n + 1)).map fun j => (bin n j : Int) * 2 ^ n := by
  refine hev_uniq (by rw [leftH_length]; simp) fun x _ => ?_
  rw [leftH_hev (binL_length n), binL_hev, hev_ofFn]
  have e : sm (fun j => (bin n j : Int) * 2 ^ n * (x ^ j * 1 ^ (n - j))) (n + 1) = 2 ^ n * sm (fun j => (bin n j : Int) * (x ^ j * 1 ^ (n - j))) (n + 1) := by
    rw [← sm_mul]
    refine sm_congr _ fun j _ => ?_
    simp only [Int.mul_comm, Int.mul_left_comm, Int.mul_assoc]
  rw [e, bin_thm, ← mul_pow']
  congr 1; omega
theorem leftH_get (f : List Int) (n j : Nat) (h : j ≤ n) : (leftH f n).getD j 0 = sm (fun i => f.getD i 0 * (1 ^ (j - i) * (bin (n - i) (j - i) : Int))) (j + 1) * 2 ^ (n - j) := by
  rw [leftH, scaleP, getD_range_map _ _ _ (by omega), trans, getD_range_map _ _ _ (by omega)]
theorem low_left {f : List Int} {n : Nat} {a b : Int} (h : lowB f n a b) : lowB (leftH f n) n (a * 2 ^ n) b := by
  intro j hj
  have e1 : a * 2 ^ n * (bin n j : Int) = a * (leftH (binL n) n).getD j 0 := by
    rw [leftH_bin, getD_range_map _ _ _ (by omega), Int.mul_assoc, Int.mul_comm (2 ^ n)]
  rw [e1, leftH_get _ _ _ hj, leftH_get _ _ _ hj, ← Int.mul_assoc, ← Int.mul_assoc]
  refine Int.mul_le_mul_of_nonneg_right ?_ (Int.pow_nonneg (by decide))
  rw [← sm_mul, ← sm_mul]
  refine sm_le _ fun i hi => ?_
  have h1 := h i (by omega)
  have hw : (0 : Int) ≤ 1 ^ (j - i) * (bin (n - i) (j - i) : Int) := by rw [Int.one_pow, Int.one_mul]; omega
  have e2 : (binL n).getD i 0 = (bin n i : Int) := getD_range_map _ _ _ (by omega)
  have h2 := Int.mul_le_mul_of_nonneg_right h1 hw
  rw [Int.mul_assoc, Int.mul_assoc] at h2
  rw [e2]
  exact h2
theorem getD_rev {f : List Int} {n j : Nat} (hf : f.length = n + 1) (hj : j ≤ n) : f.reverse.getD j 0 = f.getD (n - j) 0 := by
  rw [List.getD_eq_getElem?_getD, List.getD_eq_getElem?_getD, List.getElem?_reverse (by omega)]
  congr 2; omega
theorem low_rev {f : List Int} {n : Nat} {a b : Int} (hf : f.length = n + 1) (h : lowB f n a b) : lowB f.reverse n a b := by
  intro j hj
  rw [getD_rev hf hj, ← bin_symm hj]
  exact h (n - j) (Nat.sub_le _ _)
theorem low_right {f : List Int} {n : Nat} {a b : Int} (hf : f.length = n + 1) (h : lowB f n a b) : lowB (rightH f n) n (a * 2 ^ n) b :=
  low_rev (leftH_length _ _) (low_left (low_rev hf h))
theorem hev_scale {f : List Int} {n : Nat} (hf : f.length = n + 1) (c x y : Int) : hev f (c * x) (c * y) = c ^ n * hev f x y := by
  rw [hev_sm, hev_sm, hf, Nat.add_sub_cancel, ← sm_mul]
  refine sm_congr _ fun i hi => ?_
  rw [mul_pow', mul_pow']
  have e : c ^ n = c ^ i * c ^ (n - i) := by rw [← Int.pow_add]; congr 1; omega
  rw [e]
  simp only [Int.mul_comm, Int.mul_left_comm, Int.mul_assoc]
theorem hev_left {f : List Int} {n : Nat} (hf : f.length = n + 1) (u w : Int) : hev (leftH f n) (2 * u) (w - u) = 2 ^ n * hev f u w := by
  rw [leftH_hev hf, ← hev_scale hf]
  congr 1; omega
theorem hev_right {f : List Int} {n : Nat} (hf : f.length = n + 1) (u w : Int) : hev (rightH f n) (u - w) (2 * w) = 2 ^ n * hev f u w := by
  rw [rightH_hev hf, ← hev_scale hf]
  congr 1; omega
/-- The pieces of a form behind some halvings. -/
def pieces (n : Nat) : Nat → List Int → List (List Int)
  | 0, f => [f]
  | d + 1, f => pieces n d (leftH f n) ++ pieces n d (rightH f n)
theorem pieces_low {n : Nat} {a b : Int} : ∀ (d : Nat) (f : List Int), f.length = n + 1 → (∀ g ∈ pieces n d f, lowB g n a b) → ∀ u w : Int, 0 ≤ u → 0 ≤ w → a * (u + w) ^ n ≤ b * (2 ^ (n * d) * hev f u w)
  | 0, f, hf, h, u, w, hu, hw => by
    rw [Nat.mul_zero, Int.pow_zero, Int.one_mul]
    exact low_hev hf (h f (List.mem_singleton.2 rfl)) hu hw
  | d + 1, f, hf, h, u, w, hu, hw => by
    have e : (2 : Int) ^ (n * (d + 1)) * hev f u w = 2 ^ (n * d) * (2 ^ n * hev f u w) := by rw [Nat.mul_succ, Int.pow_add, Int.mul_assoc]
    rw [e]
    by_cases c : u ≤ w
    · have h1 := pieces_low d (leftH f n) (leftH_length _ _) (fun g hg => h g (List.mem_append_left _ hg)) (2 * u) (w - u) (by omega) (by omega)
      rw [hev_left hf, show 2 * u + (w - u) = u + w by omega] at h1
      exact h1
    · have h1 := pieces_low d (rightH f n) (rightH_length _ _) (fun g hg => h g (List.mem_append_right _ hg)) (u - w) (2 * w) (by omega) (by omega)
      rw [hev_right hf, show u - w + 2 * w = u + w by omega] at h1
      exact h1
theorem pieces_len {n : Nat} : ∀ (d : Nat) (f : List Int), f.length = n + 1 → ∀ g ∈ pieces n d f, g.length = n + 1
  | 0, f, hf, g, hg => by rw [List.mem_singleton.1 hg]; exact hf
  | d + 1, f, hf, g, hg => by
    rcases List.mem_append.1 hg with h | h
    · exact pieces_len d _ (leftH_length _ _) g h
    · exact pieces_len d _ (rightH_length _ _) g h
theorem pieces_mono {n : Nat} {a b : Int} : ∀ (d : Nat) (f : List Int), f.length = n + 1 → (∀ g ∈ pieces n d f, lowB g n a b) → ∀ g ∈ pieces n (d + 1) f, lowB g n (a * 2 ^ n) b
  | 0, f, hf, h, g, hg => by
    have h0 := h f (List.mem_singleton.2 rfl)
    rcases List.mem_append.1 hg with k | k
    · rw [List.mem_singleton.1 k]; exact low_left h0
    · rw [List.mem_singleton.1 k]; exact low_right hf h0
  | d + 1, f, hf, h, g, hg => by
    rcases List.mem_append.1 hg with k | k
    · exact pieces_mono d _ (leftH_length _ _) (fun g hg => h g (List.mem_append_left _ hg)) g k
    · exact pieces_mono d _ (rightH_length _ _) (fun g hg => h g (List.mem_append_right _ hg)) g k
end Go.Dg

namespace Go.Proofs.YtnpclmmmngmdkaaGreat
open Go.Vl Go.RowKit Go.Dg

set_option maxHeartbeats 4000000 in
theorem rEval_v (xs : List Int) (a b : Int) (C : Nat) (hC : C ≤ 300) (hl : xs.length ≤ 30) (hx : bd C xs) (ha : a.natAbs < 2 ^ 64) (hb : b.natAbs < 2 ^ 64) : SoundAt Tryz.prog 70 [rL xs, rQ a b] (rI (hev xs a b)) := by
  obtain ⟨F, hF⟩ : ∃ F : Nat → Int, F = fun i => xs.getD i 0 * (a ^ i * b ^ (xs.length - 1 - i)) := ⟨_, rfl⟩
  obtain ⟨D, hD⟩ : ∃ D : Nat, D = 5000 := ⟨_, rfl⟩
  have hP : ∀ i, i < xs.length → (a ^ i).natAbs < 2 ^ D ∧ (b ^ (xs.length - 1 - i)).natAbs < 2 ^ D ∧ (a ^ i * b ^ (xs.length - 1 - i)).natAbs < 2 ^ D ∧ (F i).natAbs < 2 ^ D := by
    intro i hi
    have h1 := bd_get hx i
    have h2 := pow_abs_lt ha i
    have h3 := pow_abs_lt hb (xs.length - 1 - i)
    have h4 : (a ^ i * b ^ (xs.length - 1 - i)).natAbs < 2 ^ (64 * i + 1 + (64 * (xs.length - 1 - i) + 1)) := by
      rw [Int.natAbs_mul, Nat.pow_add]; exact Nat.mul_lt_mul'' h2 h3
    have h5 : (F i).natAbs < 2 ^ (C + (64 * i + 1 + (64 * (xs.length - 1 - i) + 1))) := by
      rw [hF]
      simp only
      rw [Int.natAbs_mul, Nat.pow_add 2 C]; exact Nat.mul_lt_mul'' h1 h4
    exact ⟨p2_mono h2 (by omega), p2_mono h3 (by omega), p2_mono h4 (by omega), p2_mono h5 (by omega)⟩
  have hS : ∀ i, i ≤ xs.length → (sm F i).natAbs < 2 ^ (D + 5) := by
    intro i hi
    have h1 := sm_abs (f := F) (C := 2 ^ D) i fun k hk => Nat.le_of_lt (hP k (by omega)).2.2.2
    have h2 : i * 2 ^ D ≤ 30 * 2 ^ D := Nat.mul_le_mul_right _ (by omega)
    have h3 : 0 < 2 ^ D := Nat.pow_pos (by decide)
    rw [Nat.pow_add, show (2 : Nat) ^ 5 = 32 from rfl]
    omega
  rw [hev_sm]
  have eF : sm (fun i => xs.getD i 0 * (a ^ i * b ^ (xs.length - 1 - i))) xs.length = sm F xs.length := by rw [hF]
  rw [eF]
  refine sound_go (tb := []) 35 [.cell 4 37] [0, 1, 3, 4, 5, 6, 11] mixed Tryz.func70 rfl (by kernel_rfl) (by kernel_rfl) (by kernel_rfl) (by kernel_rfl) ?_
  repeat (first | (simp -implicitDefEqProofs only [go_sem, Nat.reduceAdd, Nat.reduceMul, Nat.reduceEqDiff, Nat.reduceLT, Nat.reduceLeDiff, Nat.reduceSub, Nat.reduceBEq, reduceIte, reduceCtorEq, Int.reduceEq, Int.reduceNe, Nat.reduceBneDiff, Int.reduceLE, Int.reduceLT, Int.reduceToNat, Int.reduceAdd, Int.reduceSub, Int.reduceMul, Int.reduceNeg, rL, rQ, di, List.length_map]) | (with_reducible exact drawQ_true _ _ (by kernel_rfl)) | (with_reducible refine And.intro (drawQ_true _ _ (by kernel_rfl)) ?_))
  refine g_loop mixed (fun i : { i : Nat // i ≤ xs.length } => St.of [(0, rL xs), (3, .bp 0 4 0 0), (4, .bp 1 2 0 0), (5, .bp 101 2 0 0), (6, .int .i64 (i.1 : Int))]
    [(0, { els := [rQ a b], esz := 4, ety := 39, fro := 0, live := true, arr := false }), (1, { els := [rI 0], esz := 2, ety := 37, fro := 0, live := true, arr := false }), (101, { els := [rI (sm F i.1)], esz := 2, ety := 37, fro := 0, live := true, arr := false })]) (fun i => xs.length - i.1) ⟨0, Nat.zero_le _⟩ ?_ ?_
  · refine Le.trans (le_upG 1 rfl) (Le.trans (le_upG 101 rfl) (le_of (θ := [(0, 0), (1, 1), (101, 101)]) rfl ?_ ?_))
    · simp [varsLe, lkp, ren1, ren0, rL]
    · simp only [sm, rI_z]
      exact ⟨⟨rfl, rfl, rfl, rfl, rfl, .inr ⟨rfl, _, _, rfl, rfl, rfl, rfl⟩⟩, ⟨rfl, rfl, rfl, rfl, rfl, .inr ⟨rfl, _, _, rfl, rfl, rfl, rfl⟩⟩, ⟨rfl, rfl, rfl, rfl, rfl, .inr ⟨rfl, _, _, rfl, rfl, rfl, rfl⟩⟩, trivial⟩
  · rintro ⟨i, hi⟩
    by_cases hA : i < xs.length
    · have hA' := ltT hA
      have h0 := nnT i
      have hg := rI_get xs i hA
      have hwk := wrap_add1 (a := i) (by omega)
      have w1 : IntKind.i64.wrap ((xs.length : Int) - 1) = ((xs.length - 1 : Nat) : Int) := wrap_len (by omega) (by omega)
      have w2 := wrap_sub (a := xs.length - 1) (b := i) (by omega) (by omega)
      have p1 := rIPow_v a i 64 (by omega) (by decide) ha
      have p2 := rIPow_v b (xs.length - 1 - i) 64 (by omega) (by decide) hb
      obtain ⟨q1, q2, q3, q4⟩ := hP i hA
      have m1 := rmul_i (p2_7M q1 (by omega)) (p2_7M q2 (by omega))
      have m2 := rmul_i (x := xs[i]) (y := a ^ i * b ^ (xs.length - 1 - i)) (p2_7M (hx _ (List.getElem_mem hA)) (by omega)) (p2_7M q3 (by omega))
      have eFi : xs[i] * (a ^ i * b ^ (xs.length - 1 - i)) = F i := by rw [hF]; simp only; rw [getD_lt hA]
      rw [eFi] at m2
      have ad := radd_i (x := sm F i) (y := F i) (p2_7M (hS i hi) (by omega)) (p2_7M q4 (by omega))
      rw [show sm F i + F i = sm F (i + 1) from rfl] at ad
      simp only
      generalize hX : sm F (i + 1) = X at *
      generalize sm F i = S at *
      generalize F i = T at *
      generalize a ^ i * b ^ (xs.length - 1 - i) = M at *
      generalize a ^ i = P1 at *
      generalize b ^ (xs.length - 1 - i) = P2 at *
      repeat (first | (simp -implicitDefEqProofs only [go_sem, Nat.reduceAdd, Nat.reduceMul, Nat.reduceEqDiff, Nat.reduceLT, Nat.reduceLeDiff, Nat.reduceSub, Nat.reduceBEq, reduceIte, reduceCtorEq, Int.reduceEq, Int.reduceNe, Nat.reduceBneDiff, Int.reduceLE, Int.reduceLT, Int.reduceToNat, Int.reduceAdd, Int.reduceSub, Int.reduceMul, Int.reduceNeg, rL, rQ, rI, di, hA', h0, hg, hwk, w1, w2, List.length_map, Int.toNat_natCast]) | ((with_reducible refine gcall_eq (p1) ?_ ?_ ?_); (with_reducible rfl); rfl) | ((with_reducible refine gcall_eq (p2) ?_ ?_ ?_); (with_reducible rfl); rfl) | ((with_reducible refine gcall_eq (m1) ?_ ?_ ?_); (with_reducible rfl); rfl) | ((with_reducible refine gcall_eq (m2) ?_ ?_ ?_); (with_reducible rfl); rfl) | ((with_reducible refine gcall_eq (ad) ?_ ?_ ?_); (with_reducible rfl); rfl) | (with_reducible exact drawQ_true _ _ (by kernel_rfl)) | (with_reducible refine And.intro (drawQ_true _ _ (by kernel_rfl)) ?_))
      refine ⟨⟨i + 1, hA⟩, by simp only; omega, le_of (θ := [(0, 0), (1, 1), (101, 101)]) rfl ?_ ?_⟩
      · simp [varsLe, lkp, ren1, ren0, rL]
      · simp only [hX]
        exact ⟨⟨rfl, rfl, rfl, rfl, rfl, .inr ⟨rfl, _, _, rfl, rfl, rfl, rfl⟩⟩, ⟨rfl, rfl, rfl, rfl, rfl, .inr ⟨rfl, _, _, rfl, rfl, rfl, rfl⟩⟩, ⟨rfl, rfl, rfl, rfl, rfl, .inr ⟨rfl, _, _, rfl, rfl, rfl, rfl⟩⟩, trivial⟩
    · have hA' := ltF hA
      obtain rfl : i = xs.length := by omega
      simp only
      generalize sm F xs.length = S at *
      repeat (first | (simp -implicitDefEqProofs only [go_sem, Nat.reduceAdd, Nat.reduceMul, Nat.reduceEqDiff, Nat.reduceLT, Nat.reduceLeDiff, Nat.reduceSub, Nat.reduceBEq, reduceIte, reduceCtorEq, Int.reduceEq, Int.reduceNe, Nat.reduceBneDiff, Int.reduceLE, Int.reduceLT, Int.reduceToNat, Int.reduceAdd, Int.reduceSub, Int.reduceMul, Int.reduceNeg, rL, rI, di, hA', List.length_map]) | (with_reducible exact drawQ_true _ _ (by kernel_rfl)) | (with_reducible refine And.intro (drawQ_true _ _ (by kernel_rfl)) ?_))
theorem hev_bd {xs : List Int} {a b : Int} {C : Nat} (hC : C ≤ 300) (hl : xs.length ≤ 30) (hx : bd C xs) (ha : a.natAbs < 2 ^ 64) (hb : b.natAbs < 2 ^ 64) : ∃ D : Nat, D ≤ 5005 ∧ (hev xs a b).natAbs < 2 ^ D := by
  obtain ⟨D, hD⟩ : ∃ D : Nat, D = 5000 := ⟨_, rfl⟩
  refine ⟨D + 5, by omega, ?_⟩
  rw [hev_sm]
  have h1 := sm_abs (f := fun i => xs.getD i 0 * (a ^ i * b ^ (xs.length - 1 - i))) (C := 2 ^ D) xs.length fun i hi => by
    have h1 := bd_get hx i
    have h2 := pow_abs_lt ha i
    have h3 := pow_abs_lt hb (xs.length - 1 - i)
    have h4 : (a ^ i * b ^ (xs.length - 1 - i)).natAbs < 2 ^ (64 * i + 1 + (64 * (xs.length - 1 - i) + 1)) := by
      rw [Int.natAbs_mul, Nat.pow_add]; exact Nat.mul_lt_mul'' h2 h3
    have h5 : (xs.getD i 0 * (a ^ i * b ^ (xs.length - 1 - i))).natAbs < 2 ^ (C + (64 * i + 1 + (64 * (xs.length - 1 - i) + 1))) := by
      rw [Int.natAbs_mul, Nat.pow_add 2 C]; exact Nat.mul_lt_mul'' h1 h4
    exact Nat.le_of_lt (p2_mono h5 (by omega))
  have h2 : xs.length * 2 ^ D ≤ 30 * 2 ^ D := Nat.mul_le_mul_right _ hl
  have h3 : 0 < 2 ^ D := Nat.pow_pos (by decide)
  rw [Nat.pow_add, show (2 : Nat) ^ 5 = 32 from rfl]
  omega
theorem low01 : lowN 0 1 = 0 ∧ lowD 0 1 = 1 := by simp [lowN, lowD, gN]
theorem rI_1 : rI 1 = .agg [.bool false, di (digs E9 1)] := by unfold rI; rw [show (1 : Int).natAbs = 1 from rfl, show decide ((1 : Int) < 0) = false from rfl]
theorem rValue_v (xs : List Int) (a b : Int) (C : Nat) (hC : C ≤ 300) (hl : xs.length ≤ 30) (hx : bd C xs) (ha : a.natAbs < 2 ^ 64) (hb : b.natAbs < 2 ^ 64) (h0 : 0 < b) :
    SoundAt Tryz.prog 30 [rL xs, rQ a b] (rQ (lowN (hev xs a b) (b ^ (xs.length - 1))) (lowD (hev xs a b) (b ^ (xs.length - 1)))) := by
  have n1 := rnum_v 1 (by decide) (by decide)
  by_cases hL : xs.length = 0
  · obtain rfl := List.length_eq_zero_iff.1 hL
    have z0 : (((0 : Nat) : Int) == 0) = true := rfl
    have e : rQ (lowN (hev [] a b) (b ^ (([] : List Int).length - 1))) (lowD (hev [] a b) (b ^ (([] : List Int).length - 1))) = .agg [.bool false, .slc [], .bool false, di (digs E9 1)] := by
      rw [show hev [] a b = 0 from rfl, show b ^ (([] : List Int).length - 1) = 1 from Int.pow_zero b, low01.1, low01.2, rQ]
      unfold di
      rw [show (0 : Int).natAbs = 0 from rfl, digs_zero]; rfl
    rw [e]
    rw [rI_1] at n1
    refine sound_go (tb := []) 21 [.cell 4 39] [0, 1, 3, 4, 7] mixed Tryz.func30 rfl (by kernel_rfl) (by kernel_rfl) (by kernel_rfl) (by kernel_rfl) ?_
    repeat (first | (simp -implicitDefEqProofs only [go_sem, Nat.reduceAdd, Nat.reduceMul, Nat.reduceEqDiff, Nat.reduceLT, Nat.reduceLeDiff, Nat.reduceSub, Nat.reduceBEq, reduceIte, reduceCtorEq, Int.reduceEq, Int.reduceNe, Nat.reduceBneDiff, Int.reduceLE, Int.reduceLT, Int.reduceToNat, Int.reduceAdd, Int.reduceSub, Int.reduceMul, Int.reduceNeg, rL, rQ, di, z0, List.length_map, List.map_nil, List.length_nil]) | ((with_reducible refine gcall_eq (n1) ?_ ?_ ?_); (with_reducible rfl); rfl) | (with_reducible exact drawQ_true _ _ (by kernel_rfl)) | (with_reducible refine And.intro (drawQ_true _ _ (by kernel_rfl)) ?_))
  · have z0 : ((xs.length : Int) == 0) = false := by simp only [beq_eq_false_iff_ne, ne_eq]; omega
    have w1 : IntKind.i64.wrap ((xs.length : Int) - 1) = ((xs.length - 1 : Nat) : Int) := wrap_len (by omega) (by omega)
    have ev := rEval_v xs a b C hC hl hx ha hb
    have pw := rIPow_v b (xs.length - 1) 64 (by omega) (by decide) hb
    obtain ⟨D, hD, hh⟩ := hev_bd hC hl hx ha hb
    have hp := pow_abs_lt hb (xs.length - 1)
    obtain ⟨k, hk⟩ : ∃ k : Nat, k = 1000 := ⟨_, rfl⟩
    have hpos : 0 < b ^ (xs.length - 1) := Int.pow_pos h0
    have lo := rlowest_v (hev xs a b) (b ^ (xs.length - 1)) (by omega) k (by omega) (p2_256 hh (by omega)) (p2_256 hp (by omega))
    generalize hev xs a b = H at *
    generalize b ^ (xs.length - 1) = P at *
    generalize lowN H P = N at *
    generalize lowD H P = M at *
    refine sound_go (tb := []) 21 [.cell 4 39] [0, 1, 3, 4, 7] mixed Tryz.func30 rfl (by kernel_rfl) (by kernel_rfl) (by kernel_rfl) (by kernel_rfl) ?_
    repeat (first | (simp -implicitDefEqProofs only [go_sem, Nat.reduceAdd, Nat.reduceMul, Nat.reduceEqDiff, Nat.reduceLT, Nat.reduceLeDiff, Nat.reduceSub, Nat.reduceBEq, reduceIte, reduceCtorEq, Int.reduceEq, Int.reduceNe, Nat.reduceBneDiff, Int.reduceLE, Int.reduceLT, Int.reduceToNat, Int.reduceAdd, Int.reduceSub, Int.reduceMul, Int.reduceNeg, rL, rQ, rI, di, z0, w1, List.length_map]) | ((with_reducible refine gcall_eq (ev) ?_ ?_ ?_); (with_reducible rfl); rfl) | ((with_reducible refine gcall_eq (pw) ?_ ?_ ?_); (with_reducible rfl); rfl) | ((with_reducible refine gcall_eq (lo) ?_ ?_ ?_); (with_reducible rfl); rfl) | (with_reducible exact drawQ_true _ _ (by kernel_rfl)) | (with_reducible refine And.intro (drawQ_true _ _ (by kernel_rfl)) ?_))
end Go.Proofs.YtnpclmmmngmdkaaGreat

namespace Go.Proofs.YtnpclmmmngmdkaaGreat
open Go.Vl Go.RowKit Go.Dg

theorem bt_asymm {g : Bool} {x y : Int × Int} (h : bt g x y) : ¬ bt g y x := by
  cases g with
  | true => exact ltQ_asymm h
  | false => exact ltQ_asymm h
/-- None is better than the best one. -/
theorem fold_min {g : Bool} : ∀ (l : List (Int × Int)) (b : Int × Int), 0 < b.2 → (∀ r ∈ l, 0 < r.2) → ¬ bt g b (l.foldl (bstep g) b) ∧ (∀ r ∈ l, ¬ bt g r (l.foldl (bstep g) b)) ∧ 0 < (l.foldl (bstep g) b).2
  | [], b, hb, _ => ⟨bt_irrefl g b, (fun r hr => by cases hr), hb⟩
  | m :: l, b, hb, h => by
    have hm := h m (List.mem_cons_self ..)
    have hb' : 0 < (bstep g b m).2 := by
      rcases bstep_mem g b m with e | e
      · rw [e]; exact hb
      · rw [e]; exact hm
    obtain ⟨i1, i2, i3⟩ := fold_min l (bstep g b m) hb' fun r hr => h r (List.mem_cons_of_mem _ hr)
    rw [List.foldl_cons]
    have k1 : ¬ bt g b (bstep g b m) := by
      rw [bstep_pos hb]
      by_cases c : bt g m b
      · rw [if_pos c]; exact bt_asymm c
      · rw [if_neg c]; exact bt_irrefl g b
    have k2 : ¬ bt g m (bstep g b m) := by
      rw [bstep_pos hb]
      by_cases c : bt g m b
      · rw [if_pos c]; exact bt_irrefl g m
      · rw [if_neg c]; exact c
    refine ⟨nbt_trans hb hb' i3 k1 i1, fun r hr => ?_, i3⟩
    rcases List.mem_cons.1 hr with rfl | hr
    · exact nbt_trans hm hb' i3 k2 i1
    · exact i2 r hr
theorem best_min {g : Bool} {l : List (Int × Int)} (h : ∀ r ∈ l, 0 < r.2) : ∀ r ∈ l, ¬ bt g r (bestF g l) := by
  match l with
  | [] => intro r hr; cases hr
  | m :: l =>
    intro r hr
    have e : bestF g (m :: l) = l.foldl (bstep g) m := by unfold bestF; rw [List.foldl_cons, bstep_00]
    rw [e]
    obtain ⟨i1, i2, _⟩ := fold_min (g := g) l m (h m (List.mem_cons_self ..)) fun r hr => h r (List.mem_cons_of_mem _ hr)
    rcases List.mem_cons.1 hr with rfl | hr
    · exact i1
    · exact i2 r hr
theorem coefs_memI {f : List Int} {j : Nat} (h : j < f.length) : (lowN (f.getD j 0) (bin (f.length - 1) j : Int), lowD (f.getD j 0) (bin (f.length - 1) j : Int)) ∈ coefs f :=
  List.mem_map.2 ⟨j, List.mem_range.2 h, rfl⟩
/-- The best ratios bound the coefficients. -/
theorem low_best {f : List Int} {n : Nat} {l : List (Int × Int)} (hf : f.length = n + 1) (hl : ∀ r ∈ l, 0 < r.2) (hc : ∀ r ∈ coefs f, r ∈ l) : lowB f n (bestF false l).1 (bestF false l).2 := by
  intro j hj
  have hp := bin_posI hj
  have h1 := best_min (g := false) hl _ (hc _ (coefs_memI (f := f) (j := j) (by omega)))
  rw [show f.length - 1 = n by omega] at h1
  have h2 := low_cross (x := f.getD j 0) hp
  have h3 := lowD_pos (x := f.getD j 0) hp
  unfold bt ltQ at h1
  simp only [Bool.false_eq_true, if_false, Int.not_lt] at h1
  generalize lowN (f.getD j 0) (bin n j : Int) = a at *
  generalize lowD (f.getD j 0) (bin n j : Int) = b at *
  generalize (bin n j : Int) = c at *
  generalize f.getD j 0 = x at *
  generalize bestF false l = q at *
  have h4 := Int.mul_le_mul_of_nonneg_right h1 (Int.le_of_lt hp)
  have e1 : q.1 * b * c = (q.1 * c) * b := Int.mul_right_comm _ _ _
  have e2 : a * q.2 * c = (q.2 * x) * b := by rw [Int.mul_right_comm, h2, Int.mul_right_comm, Int.mul_comm x q.2]
  rw [e1, e2] at h4
  exact Int.le_of_mul_le_mul_right h4 h3
theorem high_best {f : List Int} {n : Nat} {l : List (Int × Int)} (hf : f.length = n + 1) (hl : ∀ r ∈ l, 0 < r.2) (hc : ∀ r ∈ coefs f, r ∈ l) : lowB f n (-(bestF true l).1) (-(bestF true l).2) := by
  intro j hj
  have hp := bin_posI hj
  have h1 := best_min (g := true) hl _ (hc _ (coefs_memI (f := f) (j := j) (by omega)))
  rw [show f.length - 1 = n by omega] at h1
  have h2 := low_cross (x := f.getD j 0) hp
  have h3 := lowD_pos (x := f.getD j 0) hp
  unfold bt ltQ at h1
  simp only [if_true, Int.not_lt] at h1
  generalize lowN (f.getD j 0) (bin n j : Int) = a at *
  generalize lowD (f.getD j 0) (bin n j : Int) = b at *
  generalize (bin n j : Int) = c at *
  generalize f.getD j 0 = x at *
  generalize bestF true l = q at *
  have h4 := Int.mul_le_mul_of_nonneg_right h1 (Int.le_of_lt hp)
  have e1 : q.1 * b * c = (q.1 * c) * b := Int.mul_right_comm _ _ _
  have e2 : a * q.2 * c = (q.2 * x) * b := by rw [Int.mul_right_comm, h2, Int.mul_right_comm, Int.mul_comm x q.2]
  rw [e1, e2] at h4
  have h5 := Int.le_of_mul_le_mul_right h4 h3
  rw [Int.neg_mul, Int.neg_mul]
  omega
theorem pcs_succ (n : Nat) (f : List Int) : ∀ d, pcs n f (d + 1) = pcs n (leftH f n) d ++ pcs n (rightH f n) d
  | 0 => rfl
  | d + 1 => by rw [pcs, pcs_succ n f d, List.flatMap_append]; rfl
theorem pcs_pieces (n : Nat) : ∀ (d : Nat) (f : List Int), pcs n f d = pieces n d f
  | 0, _ => rfl
  | d + 1, f => by rw [pcs_succ, pcs_pieces n d, pcs_pieces n d]; rfl
/-- What halvings show is so. -/
theorem shown_hev {n : Nat} : ∀ (d : Nat) (f : List Int), f.length = n + 1 → shownF n d f = true → ∀ u w : Int, 0 ≤ u → 0 ≤ w → 0 ≤ hev f u w
  | 0, f, hf, h, u, w, hu, hw => by
    rw [shownF, nonnegB, List.all_eq_true] at h
    exact hev_nonneg (fun c hc => of_decide_eq_true (h c hc)) hu hw
  | d + 1, f, hf, h, u, w, hu, hw => by
    rw [shownF, Bool.or_eq_true] at h
    rcases h with h | h
    · rw [nonnegB, List.all_eq_true] at h
      exact hev_nonneg (fun c hc => of_decide_eq_true (h c hc)) hu hw
    · rw [Bool.and_eq_true] at h
      have hp : (0 : Int) < 2 ^ n := Int.pow_pos (by decide)
      by_cases c : u ≤ w
      · have h1 := shown_hev d (leftH f n) (leftH_length _ _) h.1 (2 * u) (w - u) (by omega) (by omega)
        rw [hev_left hf] at h1
        exact Int.nonneg_of_mul_nonneg_right h1 hp
      · have h1 := shown_hev d (rightH f n) (rightH_length _ _) h.2 (u - w) (2 * w) (by omega) (by omega)
        rw [hev_right hf] at h1
        exact Int.nonneg_of_mul_nonneg_right h1 hp
theorem shown_more {n : Nat} : ∀ (d : Nat) (f : List Int), shownF n d f = true → shownF n (d + 1) f = true
  | 0, f, h => by rw [shownF] at h; rw [shownF, h]; rfl
  | d + 1, f, h => by
    rw [shownF, Bool.or_eq_true] at h
    rw [shownF, Bool.or_eq_true]
    rcases h with h | h
    · exact .inl h
    · rw [Bool.and_eq_true] at h
      exact .inr (by rw [Bool.and_eq_true]; exact ⟨shown_more d _ h.1, shown_more d _ h.2⟩)
end Go.Proofs.YtnpclmmmngmdkaaGreat

namespace Go.Dg

/-- Fractions that are equal to others keep the order. -/
theorem frac_le {a b p q e1 e2 v1 v2 : Int} (hb : 0 < b) (hq : 0 < q) (he : 0 < e2) (hv : 0 < v2) (h1 : e1 * b = a * e2) (h2 : v1 * q = p * v2) (h : a * q ≤ p * b) : e1 * v2 ≤ v1 * e2 := by
  have hbq : 0 < b * q := Int.mul_pos hb hq
  have hev' : 0 ≤ e2 * v2 := Int.le_of_lt (Int.mul_pos he hv)
  have k1 : (e1 * v2) * (b * q) = (a * q) * (e2 * v2) := by
    rw [show (e1 * v2) * (b * q) = (e1 * b) * (v2 * q) by simp only [Int.mul_comm, Int.mul_left_comm, Int.mul_assoc], h1]
    simp only [Int.mul_comm, Int.mul_left_comm, Int.mul_assoc]
  have k2 : (v1 * e2) * (b * q) = (p * b) * (e2 * v2) := by
    rw [show (v1 * e2) * (b * q) = (v1 * q) * (e2 * b) by simp only [Int.mul_comm, Int.mul_left_comm, Int.mul_assoc], h2]
    simp only [Int.mul_comm, Int.mul_left_comm, Int.mul_assoc]
  have h3 := Int.mul_le_mul_of_nonneg_right h hev'
  rw [← k1, ← k2] at h3
  exact Int.le_of_mul_le_mul_right h3 hbq
theorem val_rel {xs : List Int} {n : Nat} (h : xs.length ≤ n + 1) (u w : Int) : hev (trans xs 1 n) u w = (u + w) ^ (n + 1 - xs.length) * hev xs u (u + w) := by
  rw [trans_hev' h, Int.one_mul]
theorem val_low {xs : List Int} {n : Nat} {a b K u w : Int} (h : xs.length ≤ n + 1) (hv : 0 < u + w) (hb : a * (u + w) ^ n ≤ b * (K * hev (trans xs 1 n) u w)) : a * (u + w) ^ (xs.length - 1) ≤ b * (K * hev xs u (u + w)) := by
  rw [val_rel h] at hb
  rcases Nat.eq_zero_or_pos xs.length with h0 | h0
  · obtain rfl := List.length_eq_zero_iff.1 h0
    simp only [hev, Int.mul_zero] at hb ⊢
    have hp : 0 < (u + w) ^ n := Int.pow_pos hv
    have ha : a ≤ 0 := by
      have h1 : a * (u + w) ^ n ≤ 0 * (u + w) ^ n := by rw [Int.zero_mul]; exact hb
      exact Int.le_of_mul_le_mul_right h1 hp
    rw [List.length_nil, Nat.zero_sub, Int.pow_zero, Int.mul_one]; exact ha
  · have hp : 0 < (u + w) ^ (n + 1 - xs.length) := Int.pow_pos hv
    have e1 : (u + w) ^ n = (u + w) ^ (xs.length - 1) * (u + w) ^ (n + 1 - xs.length) := by rw [← Int.pow_add]; congr 1; omega
    have e2 : b * (K * ((u + w) ^ (n + 1 - xs.length) * hev xs u (u + w))) = b * (K * hev xs u (u + w)) * (u + w) ^ (n + 1 - xs.length) := by
      simp only [Int.mul_comm, Int.mul_left_comm, Int.mul_assoc]
    rw [e1, ← Int.mul_assoc, e2] at hb
    exact Int.le_of_mul_le_mul_right hb hp
theorem val_pos {xs : List Int} {n : Nat} {u w : Int} (h : xs.length ≤ n + 1) (hv : 0 < u + w) (hb : 0 ≤ hev (trans xs 1 n) u w) : 0 ≤ hev xs u (u + w) := by
  have h1 := val_low (a := 0) (b := 1) (K := 1) h hv (by rw [Int.zero_mul, Int.one_mul, Int.one_mul]; exact hb)
  rwa [Int.zero_mul, Int.one_mul, Int.one_mul] at h1
/-- Poly inverts Form. -/
theorem poly_form {xs : List Int} {n : Nat} (h : xs.length ≤ n + 1) (ht : trimI xs = xs) : trimI (trans (trans xs 1 n) (-1) n) = xs := by
  rw [← ht]
  refine ev_uniq _ _ fun u _ => ?_
  rw [ev_hev, trans_full (trans_length _ _ _), trans_hev' (by rw [ht]; exact h), ht, ev_hev]
  rw [show 1 * u + (-1 * u + 1) = 1 by omega, Int.one_pow, Int.one_mul]
theorem hev_first : ∀ {f : List Int} {n : Nat}, f.length = n + 1 → hev f 0 1 = f.getD 0 0
  | c :: r, n, _ => by rw [hev, Int.one_pow, Int.zero_mul, Int.mul_one, Int.add_zero]; rfl
theorem form_first {xs : List Int} {n : Nat} (h : xs.length ≤ n + 1) : hev xs 0 1 = (trans xs 1 n).getD 0 0 := by
  rw [← hev_first (trans_length xs 1 n), trans_hev' h]
  rw [show (1 : Int) * 0 + 1 = 1 from rfl, Int.one_pow, Int.one_mul]
theorem form_last {xs : List Int} {n : Nat} (h : xs.length ≤ n + 1) : hev xs 1 1 = (trans xs 1 n).getD n 0 := by
  have h1 := hev_first (f := (trans xs 1 n).reverse) (n := n) (by rw [List.length_reverse, trans_length])
  rw [hev_reverse, getD_rev (trans_length _ _ _) (Nat.zero_le _), Nat.sub_zero] at h1
  rw [← h1, trans_hev' h]
  rw [show (1 : Int) * 1 + 0 = 1 from rfl, Int.one_pow, Int.one_mul]
end Go.Dg

namespace Go.Proofs.YtnpclmmmngmdkaaGreat
open Go.Vl Go.RowKit Go.Dg

/-- The value of a polynomial at u / v, in lowest terms. -/
def valQ (xs : List Int) (u v : Int) : Int × Int := (lowN (hev xs u v) (v ^ (xs.length - 1)), lowD (hev xs u v) (v ^ (xs.length - 1)))
theorem valQ_cross (xs : List Int) (u : Int) {v : Int} (hv : 0 < v) : (valQ xs u v).1 * v ^ (xs.length - 1) = hev xs u v * (valQ xs u v).2 ∧ 0 < (valQ xs u v).2 :=
  ⟨low_cross (Int.pow_pos hv), lowD_pos (Int.pow_pos hv)⟩
theorem encQ_cross {g : Bool} {n d : Nat} {f0 : List Int} (h : 0 < (bestF g ((pcs n f0 d).flatMap coefs)).2) :
    (encQ g n d f0).1 * ((bestF g ((pcs n f0 d).flatMap coefs)).2 * 2 ^ (n * d)) = (bestF g ((pcs n f0 d).flatMap coefs)).1 * (encQ g n d f0).2 ∧ 0 < (encQ g n d f0).2 := by
  have hp : 0 < (bestF g ((pcs n f0 d).flatMap coefs)).2 * 2 ^ (n * d) := Int.mul_pos h (Int.pow_pos (by decide))
  exact ⟨low_cross hp, lowD_pos hp⟩
section
variable {xs : List Int} {n : Nat} {u w : Int}
/-- The bounds of a form. -/
theorem bounds_le (h : xs.length ≤ n + 1) (hn : n ≤ 24) (hu : 0 ≤ u) (hw : 0 ≤ w) (hv : 0 < u + w) :
    (bestF false (coefs (trans xs 1 n))).1 * (valQ xs u (u + w)).2 ≤ (valQ xs u (u + w)).1 * (bestF false (coefs (trans xs 1 n))).2 ∧ (valQ xs u (u + w)).1 * (bestF true (coefs (trans xs 1 n))).2 ≤ (bestF true (coefs (trans xs 1 n))).1 * (valQ xs u (u + w)).2 := by
  have hT := trans_length xs 1 n
  have hpos : ∀ r ∈ coefs (trans xs 1 n), 0 < r.2 := by
    intro r hr
    obtain ⟨j, hj, rfl⟩ := List.mem_map.1 hr
    have := List.mem_range.1 hj
    exact lowD_pos (bin_posI (by omega))
  have hne : coefs (trans xs 1 n) ≠ [] := by
    intro e
    have := coefs_length (trans xs 1 n)
    rw [e, hT] at this; cases this
  obtain ⟨c1, c2⟩ := valQ_cross xs u hv
  have p1 := best_pos (g := false) hpos hne
  have p2 := best_pos (g := true) hpos hne
  have l1 := low_hev hT (low_best hT hpos fun r hr => hr) hu hw
  have l2 := low_hev hT (high_best hT hpos fun r hr => hr) hu hw
  have l1' := l1
  have l2' := l2
  rw [← Int.one_mul (hev (trans xs 1 n) u w)] at l1' l2'
  have v1 := val_low h hv l1'
  have v2 := val_low h hv l2'
  rw [Int.one_mul] at v1 v2
  generalize bestF false (coefs (trans xs 1 n)) = a at *
  generalize bestF true (coefs (trans xs 1 n)) = b at *
  generalize valQ xs u (u + w) = V at *
  have hP : 0 < (u + w) ^ (xs.length - 1) := Int.pow_pos hv
  generalize (u + w) ^ (xs.length - 1) = P at *
  generalize hev xs u (u + w) = H at *
  rw [Int.neg_mul, Int.neg_mul] at v2
  exact ⟨frac_le p1 hP p1 c2 rfl c1 (by rw [Int.mul_comm H]; exact v1), frac_le hP p2 c2 p2 c1 rfl (by rw [Int.mul_comm H]; omega)⟩
/-- The bounds behind some halvings. -/
theorem enclose_le (hN : n = xs.length - 1) (d : Nat) (hn : n ≤ 24) (hu : 0 ≤ u) (hw : 0 ≤ w) (hv : 0 < u + w) :
    (encQ false n d (trans xs 1 n)).1 * (valQ xs u (u + w)).2 ≤ (valQ xs u (u + w)).1 * (encQ false n d (trans xs 1 n)).2 ∧ (valQ xs u (u + w)).1 * (encQ true n d (trans xs 1 n)).2 ≤ (encQ true n d (trans xs 1 n)).1 * (valQ xs u (u + w)).2 := by
  have h : xs.length ≤ n + 1 := by omega
  have hT := trans_length xs 1 n
  have hlen : ∀ f ∈ pcs n (trans xs 1 n) d, f.length = n + 1 := fun f hf => pieces_len d _ hT f (by rw [← pcs_pieces]; exact hf)
  have hpos : ∀ r ∈ (pcs n (trans xs 1 n) d).flatMap coefs, 0 < r.2 := by
    intro r hr
    obtain ⟨f, hf, hr⟩ := List.mem_flatMap.1 hr
    obtain ⟨j, hj, rfl⟩ := List.mem_map.1 hr
    have h1 := List.mem_range.1 hj
    have h2 := hlen f hf
    exact lowD_pos (bin_posI (by omega))
  have hne := flat_ne (d := d) hT hlen
  obtain ⟨c1, c2⟩ := valQ_cross xs u hv
  have p1 := best_pos (g := false) hpos hne
  have p2 := best_pos (g := true) hpos hne
  obtain ⟨e1, e2⟩ := encQ_cross p1
  obtain ⟨e3, e4⟩ := encQ_cross p2
  have l1 := pieces_low (n := n) d (trans xs 1 n) hT (fun g hg => low_best (hlen g (by rw [pcs_pieces]; exact hg)) hpos fun r hr => List.mem_flatMap.2 ⟨g, by rw [pcs_pieces]; exact hg, hr⟩) u w hu hw
  have l2 := pieces_low (n := n) d (trans xs 1 n) hT (fun g hg => high_best (hlen g (by rw [pcs_pieces]; exact hg)) hpos fun r hr => List.mem_flatMap.2 ⟨g, by rw [pcs_pieces]; exact hg, hr⟩) u w hu hw
  have v1 := val_low h hv l1
  have v2 := val_low h hv l2
  have hK : (0 : Int) < 2 ^ (n * d) := Int.pow_pos (by decide)
  have hP : 0 < (u + w) ^ (xs.length - 1) := Int.pow_pos hv
  generalize bestF false ((pcs n (trans xs 1 n) d).flatMap coefs) = a at *
  generalize bestF true ((pcs n (trans xs 1 n) d).flatMap coefs) = b at *
  generalize encQ false n d (trans xs 1 n) = x at *
  generalize encQ true n d (trans xs 1 n) = y at *
  generalize valQ xs u (u + w) = V at *
  generalize (u + w) ^ (xs.length - 1) = P at *
  generalize hev xs u (u + w) = H at *
  generalize (2 : Int) ^ (n * d) = K at *
  rw [Int.neg_mul, Int.neg_mul] at v2
  have k1 : a.2 * (K * H) = H * (a.2 * K) := by simp only [Int.mul_comm, Int.mul_left_comm]
  have k2 : b.2 * (K * H) = H * (b.2 * K) := by simp only [Int.mul_comm, Int.mul_left_comm]
  rw [k1] at v1
  rw [k2] at v2
  exact ⟨frac_le (Int.mul_pos p1 hK) hP e2 c2 e1 c1 v1, frac_le hP (Int.mul_pos p2 hK) c2 e4 c1 e3 (by omega)⟩
end
end Go.Proofs.YtnpclmmmngmdkaaGreat

namespace Go.Proofs.YtnpclmmmngmdkaaGreat
open Go.Vl Go.RowKit Go.Dg

theorem flat_pos {n d : Nat} {f0 : List Int} (hT : f0.length = n + 1) : (∀ f ∈ pcs n f0 d, f.length = n + 1) ∧ (∀ r ∈ (pcs n f0 d).flatMap coefs, 0 < r.2) ∧ (pcs n f0 d).flatMap coefs ≠ [] := by
  have hlen : ∀ f ∈ pcs n f0 d, f.length = n + 1 := fun f hf => pieces_len d _ hT f (by rw [← pcs_pieces]; exact hf)
  refine ⟨hlen, ?_, flat_ne (d := d) hT hlen⟩
  intro r hr
  obtain ⟨f, hf, hr⟩ := List.mem_flatMap.1 hr
  obtain ⟨j, hj, rfl⟩ := List.mem_map.1 hr
  have h1 := List.mem_range.1 hj
  have h2 := hlen f hf
  exact lowD_pos (bin_posI (by omega))
/-- A bound of all pieces bounds the best ratio. -/
theorem best_of_low {g : Bool} {n d : Nat} {f0 : List Int} {a b : Int} (hT : f0.length = n + 1) (h : ∀ f ∈ pcs n f0 d, lowB f n a b) :
    a * (bestF g ((pcs n f0 d).flatMap coefs)).2 ≤ b * (bestF g ((pcs n f0 d).flatMap coefs)).1 := by
  obtain ⟨hlen, hpos, hne⟩ := flat_pos (d := d) hT
  have p := best_pos (g := g) hpos hne
  rcases bestF_mem g ((pcs n f0 d).flatMap coefs) with e | e
  · rw [e] at p; cases p
  · obtain ⟨f, hf, hr⟩ := List.mem_flatMap.1 e
    obtain ⟨j, hj, hq⟩ := List.mem_map.1 hr
    have h1 := List.mem_range.1 hj
    have h2 := hlen f hf
    have hj' : j ≤ n := by omega
    have hl := h f hf j hj'
    rw [h2, Nat.add_sub_cancel] at hq
    rw [← hq]
    have hp := bin_posI hj'
    have hc := low_cross (x := f.getD j 0) hp
    have hd := lowD_pos (x := f.getD j 0) hp
    simp only
    generalize lowN (f.getD j 0) (bin n j : Int) = x at *
    generalize lowD (f.getD j 0) (bin n j : Int) = y at *
    generalize f.getD j 0 = z at *
    generalize (bin n j : Int) = c at *
    have h3 := Int.mul_le_mul_of_nonneg_right hl (Int.le_of_lt hd)
    have e1 : a * c * y = (a * y) * c := Int.mul_right_comm _ _ _
    have e2 : b * z * y = (b * x) * c := by rw [Int.mul_assoc, ← hc, Int.mul_assoc]
    rw [e1, e2] at h3
    exact Int.le_of_mul_le_mul_right h3 hp
theorem enclose_mono {n d : Nat} {f0 : List Int} (hT : f0.length = n + 1) :
    (encQ false n d f0).1 * (encQ false n (d + 1) f0).2 ≤ (encQ false n (d + 1) f0).1 * (encQ false n d f0).2 ∧ (encQ true n (d + 1) f0).1 * (encQ true n d f0).2 ≤ (encQ true n d f0).1 * (encQ true n (d + 1) f0).2 := by
  obtain ⟨hlen, hpos, hne⟩ := flat_pos (d := d) hT
  obtain ⟨hlen', hpos', hne'⟩ := flat_pos (d := d + 1) hT
  have p1 := best_pos (g := false) hpos hne
  have p2 := best_pos (g := true) hpos hne
  have p3 := best_pos (g := false) hpos' hne'
  have p4 := best_pos (g := true) hpos' hne'
  obtain ⟨a1, a2⟩ := encQ_cross p1
  obtain ⟨a3, a4⟩ := encQ_cross p2
  obtain ⟨a5, a6⟩ := encQ_cross p3
  obtain ⟨a7, a8⟩ := encQ_cross p4
  have l1 := pieces_mono (n := n) d f0 hT (fun g hg => low_best (hlen g (by rw [pcs_pieces]; exact hg)) hpos fun r hr => List.mem_flatMap.2 ⟨g, by rw [pcs_pieces]; exact hg, hr⟩)
  have l2 := pieces_mono (n := n) d f0 hT (fun g hg => high_best (hlen g (by rw [pcs_pieces]; exact hg)) hpos fun r hr => List.mem_flatMap.2 ⟨g, by rw [pcs_pieces]; exact hg, hr⟩)
  have b1 := best_of_low (g := false) (d := d + 1) hT fun f hf => l1 f (by rw [← pcs_pieces]; exact hf)
  have b2 := best_of_low (g := true) (d := d + 1) hT fun f hf => l2 f (by rw [← pcs_pieces]; exact hf)
  have hK : (0 : Int) < 2 ^ (n * d) := Int.pow_pos (by decide)
  have hN : (0 : Int) < 2 ^ n := Int.pow_pos (by decide)
  have hK2 : (2 : Int) ^ (n * (d + 1)) = 2 ^ (n * d) * 2 ^ n := by rw [Nat.mul_succ, Int.pow_add]
  rw [hK2] at a5 a7
  generalize bestF false ((pcs n f0 d).flatMap coefs) = a at *
  generalize bestF true ((pcs n f0 d).flatMap coefs) = b at *
  generalize bestF false ((pcs n f0 (d + 1)).flatMap coefs) = a' at *
  generalize bestF true ((pcs n f0 (d + 1)).flatMap coefs) = b' at *
  generalize encQ false n d f0 = x at *
  generalize encQ true n d f0 = y at *
  generalize encQ false n (d + 1) f0 = x' at *
  generalize encQ true n (d + 1) f0 = y' at *
  generalize (2 : Int) ^ (n * d) = K at *
  generalize (2 : Int) ^ n = N at *
  have hKN : 0 < K * N := Int.mul_pos hK hN
  have c1 : a.1 * (a'.2 * (K * N)) ≤ a'.1 * (a.2 * K) := by
    have h := Int.mul_le_mul_of_nonneg_right b1 (Int.le_of_lt hK)
    have e1 : a.1 * N * a'.2 * K = a.1 * (a'.2 * (K * N)) := by simp only [Int.mul_comm, Int.mul_left_comm, Int.mul_assoc]
    have e2 : a.2 * a'.1 * K = a'.1 * (a.2 * K) := by simp only [Int.mul_comm, Int.mul_left_comm, Int.mul_assoc]
    rw [← e1, ← e2]; exact h
  have c2 : b'.1 * (b.2 * K) ≤ b.1 * (b'.2 * (K * N)) := by
    have h := Int.mul_le_mul_of_nonneg_right b2 (Int.le_of_lt hK)
    have e1 : -b.1 * N * b'.2 * K = -(b.1 * (b'.2 * (K * N))) := by rw [Int.neg_mul, Int.neg_mul, Int.neg_mul]; simp only [Int.mul_comm, Int.mul_left_comm, Int.mul_assoc]
    have e2 : -b.2 * b'.1 * K = -(b'.1 * (b.2 * K)) := by rw [Int.neg_mul, Int.neg_mul]; simp only [Int.mul_comm, Int.mul_left_comm, Int.mul_assoc]
    rw [e1, e2] at h
    omega
  exact ⟨frac_le (Int.mul_pos p1 hK) (Int.mul_pos p3 hKN) a2 a6 a1 a5 c1, frac_le (Int.mul_pos p4 hKN) (Int.mul_pos p2 hK) a8 a4 a7 a3 c2⟩
end Go.Proofs.YtnpclmmmngmdkaaGreat
