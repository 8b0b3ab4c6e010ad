/-
  EN14, EN19, EN20 (merged for the claim).
-/
import Derived.Test.YtnpclmmmngmdkaaEN13
import Derived.Test.YtnpclmmmngmdkaaEY1
import Derived.Test.YtnpclmmmngmdkaaEN9
set_option linter.unusedSimpArgs false
set_option linter.unusedVariables false
namespace Go.Proofs.Ytnpclmmmngmdkaa
open Go.Vl Go.RowKit Go.Dg

/-- The pieces behind some halvings. -/
def twoF (n : Nat) (f : List Int) : List (List Int) := [leftH f n, rightH f n]
def pcs (n : Nat) (f0 : List Int) : Nat → List (List Int)
  | 0 => [f0]
  | i + 1 => (pcs n f0 i).flatMap (twoF n)
theorem flat2_length (n : Nat) : ∀ fs : List (List Int), (fs.flatMap (twoF n)).length = 2 * fs.length
  | [] => rfl
  | f :: fs => by rw [List.flatMap_cons, List.length_append, flat2_length n fs, List.length_cons, Nat.mul_succ, Nat.add_comm]; rfl
theorem pcs_length (n : Nat) (f0 : List Int) : ∀ i, (pcs n f0 i).length = 2 ^ i
  | 0 => rfl
  | i + 1 => by rw [pcs, flat2_length, pcs_length n f0 i, Nat.pow_succ, Nat.mul_comm]
theorem pcs_ok {n B : Nat} {f0 : List Int} (hn : n ≤ 24) (h1 : f0.length = n + 1) (h2 : bd B f0) : ∀ i, ∀ f ∈ pcs n f0 i, f.length = n + 1 ∧ bd (B + 60 * i) f
  | 0, f, hf => by rw [pcs, List.mem_singleton] at hf; subst hf; exact ⟨h1, h2⟩
  | i + 1, f, hf => by
    rw [pcs] at hf
    obtain ⟨g, hg1, hg2⟩ := List.mem_flatMap.1 hf
    obtain ⟨a1, a2⟩ := pcs_ok hn h1 h2 i g hg1
    simp only [twoF, List.mem_cons, List.not_mem_nil, or_false] at hg2
    rcases hg2 with rfl | rfl
    · exact ⟨leftH_length _ _, bd_mono (bd_leftH hn a2) (by omega)⟩
    · exact ⟨rightH_length _ _, bd_mono (bd_rightH hn a2) (by omega)⟩
theorem flat2_snoc (n : Nat) (fs : List (List Int)) (i : Nat) (h : i < fs.length) : (fs.take (i + 1)).flatMap (twoF n) = (fs.take i).flatMap (twoF n) ++ [leftH fs[i] n, rightH fs[i] n] := by
  rw [take_snoc fs i h, List.flatMap_append, List.flatMap_singleton]; rfl
theorem wL_okf (fs : List (List Int)) : (((fs.map wL).flatMap PV.cells).all PV.okCell) = true := by
  rw [List.all_eq_true]
  intro v hv
  obtain ⟨p, hp, hq⟩ := List.mem_flatMap.1 hv
  obtain ⟨f, _, rfl⟩ := List.mem_map.1 hp
  simp only [wL, PV.cells, List.mem_singleton] at hq
  subst hq; rfl
theorem Enclose_arg (l : List (Bool × ByteArray)) (d : Int) (hl : l.length ≤ 100000) (hs : ∀ p ∈ l, p.2.size ≤ 100000) (h : polyB l = false ∨ d < 0 ∨ 8 < d) :
    SoundAt Try.prog 16 [.slc (l.map wA), .int .i64 d] (.tup [.agg [.bool false, .str ⟨#[]⟩, .bool false, .str ⟨#[]⟩], .agg [.bool false, .str ⟨#[]⟩, .bool false, .str ⟨#[]⟩], .int .i64 2]) := by
  have hc := check_arg l d hl hs h
  have z2 : ((2 : Int) != 0) = true := rfl
  refine sound_go (tb := []) 83 [.cell 4 44, .cell 5 44, .tmp 6] [0, 1, 4, 5, 6, 7, 8, 9, 10, 12, 13, 14, 15, 17, 22, 34, 35, 36, 37, 38, 39, 40] mixed Try.func16 rfl (by kernel_rfl) (by kernel_rfl) (by kernel_rfl) (by kernel_rfl) ?_
  repeat (first | (simp -implicitDefEqProofs only [go_sem, Nat.reduceAdd, Nat.reduceMul, Nat.reduceEqDiff, Nat.reduceLT, Nat.reduceLeDiff, Nat.reduceSub, Nat.reduceBEq, reduceIte, reduceCtorEq, Int.reduceEq, Int.reduceNe, Nat.reduceBneDiff, Int.reduceLE, Int.reduceLT, Int.reduceToNat, Int.reduceAdd, Int.reduceSub, Int.reduceMul, Int.reduceNeg, z2]) | ((with_reducible refine gcall_eq (hc) ?_ ?_ ?_); (with_reducible rfl); rfl) | (with_reducible exact drawQ_true _ _ (by kernel_rfl)) | (with_reducible refine And.intro (drawQ_true _ _ (by kernel_rfl)) ?_))
theorem Enclose_full (l : List (Bool × ByteArray)) (n d : Nat) (hs : ∀ p ∈ l, p.2.size ≤ 100000) (hp : polyB l = true) (hn : n = l.length - 1) (hd : d ≤ 8) (hx : ∀ x ∈ l.map wnP, x.natAbs < 2 ^ 65536)
    (hF : 65536 < bitsF blen (l.map wnP) + n * d + 60) : SoundAt Try.prog 16 [.slc (l.map wA), .int .i64 (d : Int)] (.tup [.agg [.bool false, .str ⟨#[]⟩, .bool false, .str ⟨#[]⟩], .agg [.bool false, .str ⟨#[]⟩, .bool false, .str ⟨#[]⟩], .int .i64 7]) := by
  have hc := check_v l n d hs hp hn hd hx
  rw [if_pos hF] at hc
  have z2 : ((7 : Int) != 0) = true := rfl
  refine sound_go (tb := []) 83 [.cell 4 44, .cell 5 44, .tmp 6] [0, 1, 4, 5, 6, 7, 8, 9, 10, 12, 13, 14, 15, 17, 22, 34, 35, 36, 37, 38, 39, 40] mixed Try.func16 rfl (by kernel_rfl) (by kernel_rfl) (by kernel_rfl) (by kernel_rfl) ?_
  repeat (first | (simp -implicitDefEqProofs only [go_sem, Nat.reduceAdd, Nat.reduceMul, Nat.reduceEqDiff, Nat.reduceLT, Nat.reduceLeDiff, Nat.reduceSub, Nat.reduceBEq, reduceIte, reduceCtorEq, Int.reduceEq, Int.reduceNe, Nat.reduceBneDiff, Int.reduceLE, Int.reduceLT, Int.reduceToNat, Int.reduceAdd, Int.reduceSub, Int.reduceMul, Int.reduceNeg, z2]) | ((with_reducible refine gcall_eq (hc) ?_ ?_ ?_); (with_reducible rfl); rfl) | (with_reducible exact drawQ_true _ _ (by kernel_rfl)) | (with_reducible refine And.intro (drawQ_true _ _ (by kernel_rfl)) ?_))
/-- The bounds behind some halvings. -/
def encQ (g : Bool) (n d : Nat) (f0 : List Int) : Int × Int := (lowN (bestF g ((pcs n f0 d).flatMap coefs)).1 ((bestF g ((pcs n f0 d).flatMap coefs)).2 * 2 ^ (n * d)), lowD (bestF g ((pcs n f0 d).flatMap coefs)).1 ((bestF g ((pcs n f0 d).flatMap coefs)).2 * 2 ^ (n * d)))
theorem flat_ok {n B d : Nat} {f0 : List Int} (hn : n ≤ 24) (h1 : f0.length = n + 1) (h2 : bd B f0) : ∀ r ∈ (pcs n f0 d).flatMap coefs, r.1.natAbs < 2 ^ (B + 60 * d) ∧ r.2.natAbs < 2 ^ 25 ∧ 0 < r.2 := by
  intro r hr
  obtain ⟨f, hf1, hf2⟩ := List.mem_flatMap.1 hr
  obtain ⟨a1, a2⟩ := pcs_ok hn h1 h2 d f hf1
  exact coefs_ok (by omega) a2 r hf2
theorem flat_ne {n d : Nat} {f0 : List Int} (h1 : f0.length = n + 1) (hok : ∀ f ∈ pcs n f0 d, f.length = n + 1) : (pcs n f0 d).flatMap coefs ≠ [] := by
  intro e
  have hp := pcs_length n f0 d
  have h0 : 0 < (pcs n f0 d).length := by rw [hp]; exact Nat.pow_pos (by decide)
  have h2 := List.flatMap_eq_nil_iff.1 e (pcs n f0 d)[0] (List.getElem_mem h0)
  have h3 := coefs_length (pcs n f0 d)[0]
  rw [h2, hok _ (List.getElem_mem h0)] at h3
  cases h3
theorem pow2_small {k : Nat} (h : k ≤ 200) : ((2 : Int) ^ k).natAbs < 2 ^ 201 := by
  rw [Int.natAbs_pow]; exact Nat.pow_lt_pow_right (by decide) (by omega)
set_option maxHeartbeats 4000000 in
theorem Enclose_v (l : List (Bool × ByteArray)) (n d B : Nat) (hs : ∀ p ∈ l, p.2.size ≤ 100000) (hp : polyB l = true) (hn : n = l.length - 1) (hd : d ≤ 8) (hx : ∀ x ∈ l.map wnP, x.natAbs < 2 ^ B) (hB : B ≤ 50000) :
    SoundAt Try.prog 16 [.slc (l.map wA), .int .i64 (d : Int)] (.tup [ratPV (encQ false n d (trans (l.map wnP) 1 n)).1 (encQ false n d (trans (l.map wnP) 1 n)).2, ratPV (encQ true n d (trans (l.map wnP) 1 n)).1 (encQ true n d (trans (l.map wnP) 1 n)).2, .int .i64 0]) := by
  obtain ⟨hval, h25⟩ := polyB_of hp
  have hc := check_v l n d hs hp hn hd fun x hx' => p2_16 (hx x hx') (by omega)
  have hnd : n * d ≤ 24 * 8 := Nat.mul_le_mul (by omega) hd
  have hle : bitsF blen (l.map wnP) ≤ B := bitsF_le fun x hx' => p2_blen (hx x hx')
  rw [if_neg (by omega)] at hc
  have hxl : (l.map wnP).length = l.length := List.length_map _
  rw [wA_wPV hval] at hc ⊢
  rw [← hxl] at h25 hn
  clear hval hp hs
  generalize l.map wnP = xs at *
  have hn24 : n ≤ 24 := by omega
  have hof := of_v xs n B hn24 (by omega) (by omega) hx
  have hT1 := trans_length xs 1 n
  have hT2 : bd (B + 29) (trans xs 1 n) := bd_trans rfl hn24 hx
  generalize trans xs 1 n = T at *
  have z0 : ((0 : Int) != 0) = false := rfl
  have hok := fun i => pcs_ok hn24 hT1 hT2 i
  have hfo := flat_ok (d := d) hn24 hT1 hT2
  have hne := flat_ne (d := d) hT1 fun f hf => (hok d f hf).1
  have l1 := least_v (pcs n T d) false n (B + 29 + 60 * d) hn24 (by rw [pcs_length]; exact Nat.le_trans (Nat.pow_le_pow_right (by decide) hd) (by decide)) (hok d) (by omega)
  have l2 := least_v (pcs n T d) true n (B + 29 + 60 * d) hn24 (by rw [pcs_length]; exact Nat.le_trans (Nat.pow_le_pow_right (by decide) hd) (by decide)) (hok d) (by omega)
  have k1 := okR_best (g := false) hfo
  have k2 := okR_best (g := true) hfo
  have q1 := best_pos (g := false) (fun r hr => (hfo r hr).2.2) hne
  have q2 := best_pos (g := true) (fun r hr => (hfo r hr).2.2) hne
  have hone := wOf_v 1 (by decide) (by decide)
  have o1 : (1 : Int).natAbs < 2 ^ 65536 := p2_16 (B := 1) (by decide) (by decide)
  have w2 : IntKind.i64.wrap ((n : Int) * (d : Int)) = ((n * d : Nat) : Int) := by rw [← Int.natCast_mul]; exact wrapn (by omega)
  have hsh := wShift_i (x := 1) ((n * d : Nat) : Int) o1 (by omega) (by omega)
  have hpw := pow2_small (k := n * d) (by omega)
  have hpp : 0 < (2 : Int) ^ (n * d) := Int.pow_pos (by decide)
  have esh : shiftI 1 ((n * d : Nat) : Int) = 2 ^ (n * d) := by unfold shiftI; rw [if_pos (by omega), Int.toNat_natCast, Int.one_mul]
  rw [esh, outPV_ok (p2_16 hpw (by decide))] at hsh
  have m1 := wMulRatio_i (a := (bestF false ((pcs n T d).flatMap coefs)).1) (b := (bestF false ((pcs n T d).flatMap coefs)).2) (c := 1) (d := 2 ^ (n * d)) (p2_16 k1.1 (by omega)) (p2_16 k1.2.1 (by decide)) o1 (p2_16 hpw (by decide)) q1 hpp
  have m2 := wMulRatio_i (a := (bestF true ((pcs n T d).flatMap coefs)).1) (b := (bestF true ((pcs n T d).flatMap coefs)).2) (c := 1) (d := 2 ^ (n * d)) (p2_16 k2.1 (by omega)) (p2_16 k2.2.1 (by decide)) o1 (p2_16 hpw (by decide)) q2 hpp
  rw [Int.mul_one] at m1 m2
  have small : ∀ b : Int × Int, okR (B + 29 + 60 * d) b → 0 < b.2 → big (lowN b.1 (b.2 * 2 ^ (n * d))) (lowD b.1 (b.2 * 2 ^ (n * d))) = false := by
    intro b hb h0
    have hy : 0 < b.2 * 2 ^ (n * d) := Int.mul_pos h0 hpp
    have ha := low_abs (x := b.1) hy
    have hd2 : (b.2 * 2 ^ (n * d)).natAbs < 2 ^ 226 := by
      rw [Int.natAbs_mul, show 226 = 25 + 201 from rfl, Nat.pow_add]
      exact Nat.mul_lt_mul'' hb.2.1 hpw
    exact big_small (Nat.lt_of_le_of_lt ha.1 (p2_16 hb.1 (by omega))) (Nat.lt_of_le_of_lt ha.2 (p2_16 hd2 (by decide)))
  rw [outQ_f (small _ k1 q1)] at m1
  rw [outQ_f (small _ k2 q2)] at m2
  have hR1 : ratPV (encQ false n d T).1 (encQ false n d T).2 = ratPV (lowN (bestF false ((pcs n T d).flatMap coefs)).1 ((bestF false ((pcs n T d).flatMap coefs)).2 * 2 ^ (n * d))) (lowD (bestF false ((pcs n T d).flatMap coefs)).1 ((bestF false ((pcs n T d).flatMap coefs)).2 * 2 ^ (n * d))) := rfl
  have hR2 : ratPV (encQ true n d T).1 (encQ true n d T).2 = ratPV (lowN (bestF true ((pcs n T d).flatMap coefs)).1 ((bestF true ((pcs n T d).flatMap coefs)).2 * 2 ^ (n * d))) (lowD (bestF true ((pcs n T d).flatMap coefs)).1 ((bestF true ((pcs n T d).flatMap coefs)).2 * 2 ^ (n * d))) := rfl
  rw [hR1, hR2]
  unfold rats at l1 l2
  clear hR1 hR2 small hfo hne k1 k2 q1 q2 esh hpp o1
  generalize bestF false ((pcs n T d).flatMap coefs) = b1 at *
  generalize bestF true ((pcs n T d).flatMap coefs) = b2 at *
  generalize hK : (2 : Int) ^ (n * d) = K at *
  generalize lowN b1.1 (b1.2 * K) = x1 at *
  generalize lowD b1.1 (b1.2 * K) = y1 at *
  generalize lowN b2.1 (b2.2 * K) = x2 at *
  generalize lowD b2.1 (b2.2 * K) = y2 at *
  obtain ⟨m, w1, c1, hm⟩ : ∃ m : Int, IntKind.i64.wrap ((xs.length : Int) - 1) = m ∧ ((0 : Int) < m) = (1 < xs.length) ∧ m = (xs.length : Int) - 1 := ⟨_, wrap_i64 (by omega) (by omega), by simp only [eq_iff_iff]; omega, rfl⟩
  unfold wL at hof
  by_cases h1 : 1 < xs.length
  · have c2 : ((0 : Int) < (n : Int)) = True := eq_true (by omega)
    have w3 : IntKind.i64.wrap ((xs.length : Int) - 1) = (n : Int) := by rw [wrap_i64 (by omega) (by omega)]; omega
    refine sound_go (tb := []) 83 [.cell 4 44, .cell 5 44, .tmp 6] [0, 1, 4, 5, 6, 7, 8, 9, 10, 12, 13, 14, 15, 17, 22, 34, 35, 36, 37, 38, 39, 40] mixed Try.func16 rfl (by kernel_rfl) (by kernel_rfl) (by kernel_rfl) (by kernel_rfl) ?_
    repeat (first | (simp -implicitDefEqProofs only [go_sem, Nat.reduceAdd, Nat.reduceMul, Nat.reduceEqDiff, Nat.reduceLT, Nat.reduceLeDiff, Nat.reduceSub, Nat.reduceBEq, reduceIte, reduceCtorEq, Int.reduceEq, Int.reduceNe, Nat.reduceBneDiff, Int.reduceLE, Int.reduceLT, Int.reduceToNat, Int.reduceAdd, Int.reduceSub, Int.reduceMul, Int.reduceNeg, z0, w3, c2, List.length_map, wL]) | ((with_reducible refine gcall_eq (hc) ?_ ?_ ?_); (with_reducible rfl); rfl) | ((with_reducible refine gcall_eq (hof) ?_ ?_ ?_); (with_reducible rfl); rfl) | (with_reducible exact drawQ_true _ _ (by kernel_rfl)) | (with_reducible refine And.intro (drawQ_true _ _ (by kernel_rfl)) ?_))
    refine g_loop mixed (fun i : { i : Nat // i ≤ d } => St.of [(1, .int .i64 (d : Int)), (4, .bp 0 4 0 0), (5, .bp 1 4 0 0), (8, .int .i64 (n : Int)), (9, .slc ((pcs n T i.1).map wL)), (34, .int .i64 (d : Int)), (35, .int .i64 (i.1 : Int))]
      [(0, { els := [rats false []], esz := 4, ety := 44, fro := 0, live := true, arr := false }), (1, { els := [rats false []], esz := 4, ety := 44, fro := 0, live := true, arr := false })]) (fun i => d - i.1) ⟨0, Nat.zero_le _⟩ ?_ ?_
    · refine Le.trans (le_escG 9 rfl rfl rfl rfl (by simp)) (le_of (θ := [(0, 0), (1, 1)]) rfl ?_ ?_)
      · simp [varsLe, lkp, ren1, ren0, wL, pcs]
      · simp only [rats_nil]
        exact ⟨⟨rfl, rfl, rfl, rfl, rfl, .inr ⟨rfl, _, _, rfl, rfl, rfl, rfl⟩⟩, ⟨rfl, rfl, rfl, rfl, rfl, .inr ⟨rfl, _, _, rfl, rfl, rfl, rfl⟩⟩, trivial⟩
    · rintro ⟨i, hi⟩
      by_cases hI : i < d
      · have hI' := ltT hI
        have hwi := wrap_add1 (a := i) (by omega)
        have hlen := pcs_length n T i
        have hlen2 : (pcs n T i).length ≤ 256 := by rw [hlen]; exact Nat.le_trans (Nat.pow_le_pow_right (by decide) (show i ≤ 8 by omega)) (by decide)
        have hoki := hok i
        have hnext : pcs n T (i + 1) = (pcs n T i).flatMap (twoF n) := rfl
        simp only
        have hGl : (pcs n T (i + 1)).length = 2 * (pcs n T i).length := by rw [hnext, flat2_length]
        generalize hGe : pcs n T (i + 1) = G at *
        generalize hFs : pcs n T i = fs at *
        repeat (first | (simp -implicitDefEqProofs only [go_sem, Nat.reduceAdd, Nat.reduceMul, Nat.reduceEqDiff, Nat.reduceLT, Nat.reduceLeDiff, Nat.reduceSub, Nat.reduceBEq, reduceIte, reduceCtorEq, Int.reduceEq, Int.reduceNe, Nat.reduceBneDiff, Int.reduceLE, Int.reduceLT, Int.reduceToNat, Int.reduceAdd, Int.reduceSub, Int.reduceMul, Int.reduceNeg, hI', List.length_map]) | (with_reducible exact drawQ_true _ _ (by kernel_rfl)) | (with_reducible refine And.intro (drawQ_true _ _ (by kernel_rfl)) ?_))
        refine g_loop mixed (fun k : { k : Nat // k ≤ fs.length } => St.of [(1, .int .i64 (d : Int)), (4, .bp 0 4 0 0), (5, .bp 1 4 0 0), (8, .int .i64 (n : Int)), (10, .bs 7 1 0 (2 * k.1)), (34, .int .i64 (d : Int)), (35, .int .i64 (i : Int)), (37, .slc (fs.map wL)), (38, .int .i64 (fs.length : Int)), (39, .int .i64 (k.1 : Int))]
          [(0, { els := [rats false []], esz := 4, ety := 44, fro := 0, live := true, arr := false }), (1, { els := [rats false []], esz := 4, ety := 44, fro := 0, live := true, arr := false }), (7, { els := ((fs.take k.1).flatMap (twoF n)).map wL, esz := 1, ety := 56, fro := 0, live := true, arr := true })]) (fun k => fs.length - k.1) ⟨0, Nat.zero_le _⟩ ?_ ?_
        · refine le_nil1 10 7 1 56 rfl rfl rfl (by decide) [(0, 0), (1, 1), (7, 7)] rfl ?_ ?_
          · simp [varsLe, lkp, ren1, ren0, wL]
          · exact ⟨⟨rfl, rfl, rfl, rfl, rfl, .inr ⟨rfl, _, _, rfl, rfl, rfl, rfl⟩⟩, ⟨rfl, rfl, rfl, rfl, rfl, .inr ⟨rfl, _, _, rfl, rfl, rfl, rfl⟩⟩, ⟨rfl, rfl, rfl, rfl, rfl, .inl ⟨rfl, rfl⟩⟩, trivial⟩
        · rintro ⟨k, hk⟩
          have hkl : (((fs.take k).flatMap (twoF n)).map wL).length = 2 * k := by rw [List.length_map, flat2_length, List.length_take, Nat.min_eq_left hk]
          by_cases hA : k < fs.length
          · have hA' := ltT hA
            have h0 := nnT k
            have hg := wL_get fs k hA
            have hwk := wrap_add1 (a := k) (by omega)
            obtain ⟨a1, a2⟩ := hoki _ (List.getElem_mem hA)
            have hh := halves_v fs[k] n (B + 29 + 60 * i) hn24 a1 (by omega) a2
            have htk := flat2_snoc n fs k hA
            have q1 : (2 * k == 2 * k) = true := beq_self_eq_true _
            have q2 : ((2 * k + 2) * 24 ≤ 140737488355328) = True := eq_true (by omega)
            have q3 : (2 * k + 2 ≤ maxLen) = True := eq_true (by unfold maxLen; omega)
            generalize leftH fs[k] n = L at *
            generalize rightH fs[k] n = R at *
            repeat (first | (simp -implicitDefEqProofs only [go_sem, Nat.reduceAdd, Nat.reduceMul, Nat.reduceEqDiff, Nat.reduceLT, Nat.reduceLeDiff, Nat.reduceSub, Nat.reduceBEq, reduceIte, reduceCtorEq, Int.reduceEq, Int.reduceNe, Nat.reduceBneDiff, Int.reduceLE, Int.reduceLT, Int.reduceToNat, Int.reduceAdd, Int.reduceSub, Int.reduceMul, Int.reduceNeg, wL, hA', h0, hg, hwk, hkl, q1, q2, q3, wL_okf, List.length_map, Int.toNat_natCast]) | ((with_reducible refine gcall_eq (hh) ?_ ?_ ?_); (with_reducible rfl); rfl) | (with_reducible exact drawQ_true _ _ (by kernel_rfl)) | (with_reducible refine And.intro (drawQ_true _ _ (by kernel_rfl)) ?_))
            refine ⟨⟨k + 1, hA⟩, by simp only; omega, le_of (θ := [(0, 0), (1, 1), (7, 1304)]) rfl ?_ ?_⟩
            · simp [varsLe, lkp, ren1, ren0, wL]; omega
            · simp only [htk, List.map_append]
              exact ⟨⟨rfl, rfl, rfl, rfl, rfl, .inr ⟨rfl, _, _, rfl, rfl, rfl, rfl⟩⟩, ⟨rfl, rfl, rfl, rfl, rfl, .inr ⟨rfl, _, _, rfl, rfl, rfl, rfl⟩⟩, ⟨rfl, rfl, rfl, rfl, rfl, .inl ⟨rfl, rfl⟩⟩, trivial⟩
          · have hA' := ltF hA
            have e : fs.take k = fs := List.take_of_length_le (by omega)
            simp only [e, ← hnext]
            repeat (first | (simp -implicitDefEqProofs only [go_sem, Nat.reduceAdd, Nat.reduceMul, Nat.reduceEqDiff, Nat.reduceLT, Nat.reduceLeDiff, Nat.reduceSub, Nat.reduceBEq, reduceIte, reduceCtorEq, Int.reduceEq, Int.reduceNe, Nat.reduceBneDiff, Int.reduceLE, Int.reduceLT, Int.reduceToNat, Int.reduceAdd, Int.reduceSub, Int.reduceMul, Int.reduceNeg, hA', hwi]) | (with_reducible exact drawQ_true _ _ (by kernel_rfl)) | (with_reducible refine And.intro (drawQ_true _ _ (by kernel_rfl)) ?_))
            refine ⟨⟨i + 1, hI⟩, by simp only; omega, Le.trans (le_escG 9 rfl rfl rfl rfl (by simp only [List.length_map]; omega)) (le_of (θ := [(0, 0), (1, 1)]) rfl ?_ ?_)⟩
            · simp [varsLe, lkp, ren1, ren0]
              rw [hGe, List.take_of_length_le (by rw [List.length_map]; omega)]
            · exact ⟨⟨rfl, rfl, rfl, rfl, rfl, .inr ⟨rfl, _, _, rfl, rfl, rfl, rfl⟩⟩, ⟨rfl, rfl, rfl, rfl, rfl, .inr ⟨rfl, _, _, rfl, rfl, rfl, rfl⟩⟩, trivial⟩
      · have hI' := ltF hI
        obtain rfl : i = d := by omega
        simp only [rats_nil]
        repeat (first | (simp -implicitDefEqProofs only [go_sem, Nat.reduceAdd, Nat.reduceMul, Nat.reduceEqDiff, Nat.reduceLT, Nat.reduceLeDiff, Nat.reduceSub, Nat.reduceBEq, reduceIte, reduceCtorEq, Int.reduceEq, Int.reduceNe, Nat.reduceBneDiff, Int.reduceLE, Int.reduceLT, Int.reduceToNat, Int.reduceAdd, Int.reduceSub, Int.reduceMul, Int.reduceNeg, hI', w2, wPV, ratPV]) | ((with_reducible refine gcall_eq (hone) ?_ ?_ ?_); (with_reducible rfl); rfl) | ((with_reducible refine gcall_eq (hsh) ?_ ?_ ?_); (with_reducible rfl); rfl) | ((with_reducible refine gcall_eq (l1) ?_ ?_ ?_); (with_reducible rfl); rfl) | ((with_reducible refine gcall_eq (m1) ?_ ?_ ?_); (with_reducible rfl); rfl) | ((with_reducible refine gcall_eq (l2) ?_ ?_ ?_); (with_reducible rfl); rfl) | ((with_reducible refine gcall_eq (m2) ?_ ?_ ?_); (with_reducible rfl); rfl) | (with_reducible exact drawQ_true _ _ (by kernel_rfl)) | (with_reducible refine And.intro (drawQ_true _ _ (by kernel_rfl)) ?_))
  · have hn0 : n = 0 := by omega
    have c2 : ((0 : Int) < m) = False := by rw [c1]; exact eq_false h1
    have hof0 : SoundAt Try.prog 23 [.slc (xs.map wPV), .int .i64 0] (.slc (T.map wPV)) := by
      have := hof
      rwa [show ((n : Nat) : Int) = 0 by omega] at this
    refine sound_go (tb := []) 83 [.cell 4 44, .cell 5 44, .tmp 6] [0, 1, 4, 5, 6, 7, 8, 9, 10, 12, 13, 14, 15, 17, 22, 34, 35, 36, 37, 38, 39, 40] mixed Try.func16 rfl (by kernel_rfl) (by kernel_rfl) (by kernel_rfl) (by kernel_rfl) ?_
    repeat (first | (simp -implicitDefEqProofs only [go_sem, Nat.reduceAdd, Nat.reduceMul, Nat.reduceEqDiff, Nat.reduceLT, Nat.reduceLeDiff, Nat.reduceSub, Nat.reduceBEq, reduceIte, reduceCtorEq, Int.reduceEq, Int.reduceNe, Nat.reduceBneDiff, Int.reduceLE, Int.reduceLT, Int.reduceToNat, Int.reduceAdd, Int.reduceSub, Int.reduceMul, Int.reduceNeg, z0, w1, c2, List.length_map, wL]) | ((with_reducible refine gcall_eq (hc) ?_ ?_ ?_); (with_reducible rfl); rfl) | ((with_reducible refine gcall_eq (hof0) ?_ ?_ ?_); (with_reducible rfl); rfl) | (with_reducible exact drawQ_true _ _ (by kernel_rfl)) | (with_reducible refine And.intro (drawQ_true _ _ (by kernel_rfl)) ?_))
    refine g_loop mixed (fun i : { i : Nat // i ≤ d } => St.of [(1, .int .i64 (d : Int)), (4, .bp 0 4 0 0), (5, .bp 1 4 0 0), (8, .int .i64 (n : Int)), (9, .slc ((pcs n T i.1).map wL)), (34, .int .i64 (d : Int)), (35, .int .i64 (i.1 : Int))]
      [(0, { els := [rats false []], esz := 4, ety := 44, fro := 0, live := true, arr := false }), (1, { els := [rats false []], esz := 4, ety := 44, fro := 0, live := true, arr := false })]) (fun i => d - i.1) ⟨0, Nat.zero_le _⟩ ?_ ?_
    · refine Le.trans (le_escG 9 rfl rfl rfl rfl (by simp)) (le_of (θ := [(0, 0), (1, 1)]) rfl ?_ ?_)
      · simp [varsLe, lkp, ren1, ren0, wL, pcs, hn0]
      · simp only [rats_nil]
        exact ⟨⟨rfl, rfl, rfl, rfl, rfl, .inr ⟨rfl, _, _, rfl, rfl, rfl, rfl⟩⟩, ⟨rfl, rfl, rfl, rfl, rfl, .inr ⟨rfl, _, _, rfl, rfl, rfl, rfl⟩⟩, trivial⟩
    · rintro ⟨i, hi⟩
      by_cases hI : i < d
      · have hI' := ltT hI
        have hwi := wrap_add1 (a := i) (by omega)
        have hlen := pcs_length n T i
        have hlen2 : (pcs n T i).length ≤ 256 := by rw [hlen]; exact Nat.le_trans (Nat.pow_le_pow_right (by decide) (show i ≤ 8 by omega)) (by decide)
        have hoki := hok i
        have hnext : pcs n T (i + 1) = (pcs n T i).flatMap (twoF n) := rfl
        simp only
        have hGl : (pcs n T (i + 1)).length = 2 * (pcs n T i).length := by rw [hnext, flat2_length]
        generalize hGe : pcs n T (i + 1) = G at *
        generalize hFs : pcs n T i = fs at *
        repeat (first | (simp -implicitDefEqProofs only [go_sem, Nat.reduceAdd, Nat.reduceMul, Nat.reduceEqDiff, Nat.reduceLT, Nat.reduceLeDiff, Nat.reduceSub, Nat.reduceBEq, reduceIte, reduceCtorEq, Int.reduceEq, Int.reduceNe, Nat.reduceBneDiff, Int.reduceLE, Int.reduceLT, Int.reduceToNat, Int.reduceAdd, Int.reduceSub, Int.reduceMul, Int.reduceNeg, hI', List.length_map]) | (with_reducible exact drawQ_true _ _ (by kernel_rfl)) | (with_reducible refine And.intro (drawQ_true _ _ (by kernel_rfl)) ?_))
        refine g_loop mixed (fun k : { k : Nat // k ≤ fs.length } => St.of [(1, .int .i64 (d : Int)), (4, .bp 0 4 0 0), (5, .bp 1 4 0 0), (8, .int .i64 (n : Int)), (10, .bs 7 1 0 (2 * k.1)), (34, .int .i64 (d : Int)), (35, .int .i64 (i : Int)), (37, .slc (fs.map wL)), (38, .int .i64 (fs.length : Int)), (39, .int .i64 (k.1 : Int))]
          [(0, { els := [rats false []], esz := 4, ety := 44, fro := 0, live := true, arr := false }), (1, { els := [rats false []], esz := 4, ety := 44, fro := 0, live := true, arr := false }), (7, { els := ((fs.take k.1).flatMap (twoF n)).map wL, esz := 1, ety := 56, fro := 0, live := true, arr := true })]) (fun k => fs.length - k.1) ⟨0, Nat.zero_le _⟩ ?_ ?_
        · refine le_nil1 10 7 1 56 rfl rfl rfl (by decide) [(0, 0), (1, 1), (7, 7)] rfl ?_ ?_
          · simp [varsLe, lkp, ren1, ren0, wL]
          · exact ⟨⟨rfl, rfl, rfl, rfl, rfl, .inr ⟨rfl, _, _, rfl, rfl, rfl, rfl⟩⟩, ⟨rfl, rfl, rfl, rfl, rfl, .inr ⟨rfl, _, _, rfl, rfl, rfl, rfl⟩⟩, ⟨rfl, rfl, rfl, rfl, rfl, .inl ⟨rfl, rfl⟩⟩, trivial⟩
        · rintro ⟨k, hk⟩
          have hkl : (((fs.take k).flatMap (twoF n)).map wL).length = 2 * k := by rw [List.length_map, flat2_length, List.length_take, Nat.min_eq_left hk]
          by_cases hA : k < fs.length
          · have hA' := ltT hA
            have h0 := nnT k
            have hg := wL_get fs k hA
            have hwk := wrap_add1 (a := k) (by omega)
            obtain ⟨a1, a2⟩ := hoki _ (List.getElem_mem hA)
            have hh := halves_v fs[k] n (B + 29 + 60 * i) hn24 a1 (by omega) a2
            have htk := flat2_snoc n fs k hA
            have q1 : (2 * k == 2 * k) = true := beq_self_eq_true _
            have q2 : ((2 * k + 2) * 24 ≤ 140737488355328) = True := eq_true (by omega)
            have q3 : (2 * k + 2 ≤ maxLen) = True := eq_true (by unfold maxLen; omega)
            generalize leftH fs[k] n = L at *
            generalize rightH fs[k] n = R at *
            repeat (first | (simp -implicitDefEqProofs only [go_sem, Nat.reduceAdd, Nat.reduceMul, Nat.reduceEqDiff, Nat.reduceLT, Nat.reduceLeDiff, Nat.reduceSub, Nat.reduceBEq, reduceIte, reduceCtorEq, Int.reduceEq, Int.reduceNe, Nat.reduceBneDiff, Int.reduceLE, Int.reduceLT, Int.reduceToNat, Int.reduceAdd, Int.reduceSub, Int.reduceMul, Int.reduceNeg, wL, hA', h0, hg, hwk, hkl, q1, q2, q3, wL_okf, List.length_map, Int.toNat_natCast]) | ((with_reducible refine gcall_eq (hh) ?_ ?_ ?_); (with_reducible rfl); rfl) | (with_reducible exact drawQ_true _ _ (by kernel_rfl)) | (with_reducible refine And.intro (drawQ_true _ _ (by kernel_rfl)) ?_))
            refine ⟨⟨k + 1, hA⟩, by simp only; omega, le_of (θ := [(0, 0), (1, 1), (7, 1304)]) rfl ?_ ?_⟩
            · simp [varsLe, lkp, ren1, ren0, wL]; omega
            · simp only [htk, List.map_append]
              exact ⟨⟨rfl, rfl, rfl, rfl, rfl, .inr ⟨rfl, _, _, rfl, rfl, rfl, rfl⟩⟩, ⟨rfl, rfl, rfl, rfl, rfl, .inr ⟨rfl, _, _, rfl, rfl, rfl, rfl⟩⟩, ⟨rfl, rfl, rfl, rfl, rfl, .inl ⟨rfl, rfl⟩⟩, trivial⟩
          · have hA' := ltF hA
            have e : fs.take k = fs := List.take_of_length_le (by omega)
            simp only [e, ← hnext]
            repeat (first | (simp -implicitDefEqProofs only [go_sem, Nat.reduceAdd, Nat.reduceMul, Nat.reduceEqDiff, Nat.reduceLT, Nat.reduceLeDiff, Nat.reduceSub, Nat.reduceBEq, reduceIte, reduceCtorEq, Int.reduceEq, Int.reduceNe, Nat.reduceBneDiff, Int.reduceLE, Int.reduceLT, Int.reduceToNat, Int.reduceAdd, Int.reduceSub, Int.reduceMul, Int.reduceNeg, hA', hwi]) | (with_reducible exact drawQ_true _ _ (by kernel_rfl)) | (with_reducible refine And.intro (drawQ_true _ _ (by kernel_rfl)) ?_))
            refine ⟨⟨i + 1, hI⟩, by simp only; omega, Le.trans (le_escG 9 rfl rfl rfl rfl (by simp only [List.length_map]; omega)) (le_of (θ := [(0, 0), (1, 1)]) rfl ?_ ?_)⟩
            · simp [varsLe, lkp, ren1, ren0]
              rw [hGe, List.take_of_length_le (by rw [List.length_map]; omega)]
            · exact ⟨⟨rfl, rfl, rfl, rfl, rfl, .inr ⟨rfl, _, _, rfl, rfl, rfl, rfl⟩⟩, ⟨rfl, rfl, rfl, rfl, rfl, .inr ⟨rfl, _, _, rfl, rfl, rfl, rfl⟩⟩, trivial⟩
      · have hI' := ltF hI
        obtain rfl : i = d := by omega
        simp only [rats_nil]
        repeat (first | (simp -implicitDefEqProofs only [go_sem, Nat.reduceAdd, Nat.reduceMul, Nat.reduceEqDiff, Nat.reduceLT, Nat.reduceLeDiff, Nat.reduceSub, Nat.reduceBEq, reduceIte, reduceCtorEq, Int.reduceEq, Int.reduceNe, Nat.reduceBneDiff, Int.reduceLE, Int.reduceLT, Int.reduceToNat, Int.reduceAdd, Int.reduceSub, Int.reduceMul, Int.reduceNeg, hI', w2, wPV, ratPV]) | ((with_reducible refine gcall_eq (hone) ?_ ?_ ?_); (with_reducible rfl); rfl) | ((with_reducible refine gcall_eq (hsh) ?_ ?_ ?_); (with_reducible rfl); rfl) | ((with_reducible refine gcall_eq (l1) ?_ ?_ ?_); (with_reducible rfl); rfl) | ((with_reducible refine gcall_eq (m1) ?_ ?_ ?_); (with_reducible rfl); rfl) | ((with_reducible refine gcall_eq (l2) ?_ ?_ ?_); (with_reducible rfl); rfl) | ((with_reducible refine gcall_eq (m2) ?_ ?_ ?_); (with_reducible rfl); rfl) | (with_reducible exact drawQ_true _ _ (by kernel_rfl)) | (with_reducible refine And.intro (drawQ_true _ _ (by kernel_rfl)) ?_))
end Go.Proofs.Ytnpclmmmngmdkaa

namespace Go.Proofs.Ytnpclmmmngmdkaa
open Go.Vl Go.RowKit Go.Dg

theorem Form_full (l : List (Bool × ByteArray)) (n : Nat) (hs : ∀ p ∈ l, p.2.size ≤ 100000) (hp : polyB l = true) (hn : n ≤ 24) (h : l.length ≤ n + 1) (hx : ∀ x ∈ l.map wnP, x.natAbs < 2 ^ 65536) (hb : 65536 < bitsF blen (l.map wnP) + 30) :
    SoundAt Try.prog 7 [.slc (l.map wA), .int .i64 (n : Int)] (.tup [.slc [], .int .i64 7]) := by
  obtain ⟨hval, h25⟩ := polyB_of hp
  have hv := pValid_v l (by omega) hs
  rw [hp] at hv
  rw [wA_wPV hval] at hv ⊢
  have hxl : (l.map wnP).length = l.length := List.length_map _
  generalize l.map wnP = xs at *
  have hsz := size_v xs (by omega) hx
  have hle : bitsF blen xs ≤ 65536 := bitsF_le fun x hx' => p2_blen (hx x hx')
  have g1 : ((n : Int) < 0) = False := eq_false (by omega)
  have g2 : ((24 : Int) < (n : Int)) = False := eq_false (by omega)
  have w1 : IntKind.i64.wrap ((xs.length : Int) - 1) = (xs.length : Int) - 1 := wrap_i64 (by omega) (by omega)
  have g3 : ((n : Int) < (xs.length : Int) - 1) = False := eq_false (by omega)
  have w2 : IntKind.i64.wrap ((bitsF blen xs : Int) + 30) = ((bitsF blen xs + 30 : Nat) : Int) := by rw [wrap_i64 (by omega) (by omega)]; omega
  have g4 : ((65536 : Int) < ((bitsF blen xs + 30 : Nat) : Int)) = True := eq_true (by omega)
  generalize bitsF blen xs = bb at *
  unfold wL at *
  refine sound_go (tb := []) 32 [.tmp 4, .tmp 5] [0, 1, 4, 5, 6, 18, 24] mixed Try.func7 rfl (by kernel_rfl) (by kernel_rfl) (by kernel_rfl) (by kernel_rfl) ?_
  repeat (first | (simp -implicitDefEqProofs only [go_sem, Nat.reduceAdd, Nat.reduceMul, Nat.reduceEqDiff, Nat.reduceLT, Nat.reduceLeDiff, Nat.reduceSub, Nat.reduceBEq, reduceIte, reduceCtorEq, Int.reduceEq, Int.reduceNe, Nat.reduceBneDiff, Int.reduceLE, Int.reduceLT, Int.reduceToNat, Int.reduceAdd, Int.reduceSub, Int.reduceMul, Int.reduceNeg, g1, g2, w1, g3, w2, g4, List.length_map]) | ((with_reducible refine gcall_eq (hv) ?_ ?_ ?_); (with_reducible rfl); rfl) | ((with_reducible refine gcall_eq (hsz) ?_ ?_ ?_); (with_reducible rfl); rfl) | (with_reducible exact drawQ_true _ _ (by kernel_rfl)) | (with_reducible refine And.intro (drawQ_true _ _ (by kernel_rfl)) ?_))
/-- The bytes of a power of 2. -/
def limB (bits : Nat) : List Nat := 2 ^ ((bits - 1) % 8) :: List.replicate ((bits + 7) / 8 - 1) 0
def limS (bits : Nat) : ByteArray := ⟨((limB bits).map fun d => UInt8.ofNat d).toArray⟩
def limL (bits z : Nat) : List (Bool × ByteArray) := List.replicate z (false, ⟨#[]⟩) ++ [(false, limS bits)]
theorem rep_set {α : Type} (x y : α) : ∀ z, (List.replicate (z + 1) x).set z y = List.replicate z x ++ [y]
  | 0 => rfl
  | z + 1 => by rw [List.replicate_succ, List.set_cons_succ, rep_set x y z]; rfl
theorem pow8 (k : Nat) : 2 ^ (k % 8) < 256 := by
  have : k % 8 ≤ 7 := by omega
  exact Nat.lt_of_le_of_lt (Nat.pow_le_pow_right (by decide) this) (by decide)
theorem bnum_zeros : ∀ k : Nat, bnum (List.replicate k (0 : UInt8)) = 0
  | 0 => rfl
  | k + 1 => by rw [List.replicate_succ', bnum_snoc, bnum_zeros k]; rfl
theorem limS_list (bits : Nat) : (limS bits).data.toList = UInt8.ofNat (2 ^ ((bits - 1) % 8)) :: List.replicate ((bits + 7) / 8 - 1) 0 := by
  unfold limS limB
  rw [List.map_cons, List.map_replicate]
  rfl
theorem limS_num {bits : Nat} (h : 1 ≤ bits) : bnum (limS bits).data.toList = 2 ^ (bits - 1) := by
  rw [limS_list, bnum_cons, bnum_zeros, Nat.add_zero, List.length_replicate, UInt8.toNat_ofNat', Nat.mod_eq_of_lt (pow8 _), show (256 : Nat) = 2 ^ 8 from rfl, ← Nat.pow_mul, ← Nat.pow_add]
  congr 1; omega
theorem limS_size (bits : Nat) : (limS bits).size = (bits + 7) / 8 - 1 + 1 := by
  rw [ba_size, limS_list, List.length_cons, List.length_replicate]
theorem limS_valid {bits : Nat} (h1 : 1 ≤ bits) (h2 : bits ≤ 65536) : validB false (limS bits).data.toList = true := by
  rw [limS_list]
  have hp := pow8 (bits - 1)
  have hq : 0 < 2 ^ ((bits - 1) % 8) := Nat.pow_pos (by decide)
  generalize 2 ^ ((bits - 1) % 8) = c at *
  have hz : UInt8.ofNat c ≠ 0 := fun e => by
    have := congrArg UInt8.toNat e
    rw [UInt8.toNat_ofNat', Nat.mod_eq_of_lt hp] at this
    simp at this
    omega
  simp only [validB, List.length_cons, List.length_replicate, Bool.and_eq_true, decide_eq_true_eq, bne_iff_ne, ne_eq]
  exact ⟨by omega, hz⟩
theorem limL_length (bits z : Nat) : (limL bits z).length = z + 1 := by simp [limL]
theorem limL_mem {bits z : Nat} {p : Bool × ByteArray} (h : p ∈ limL bits z) : p = (false, ⟨#[]⟩) ∨ p = (false, limS bits) := by
  rcases List.mem_append.1 h with h | h
  · exact .inl (List.eq_of_mem_replicate h)
  · exact .inr (List.mem_singleton.1 h)
theorem limL_valid {bits z : Nat} (h1 : 1 ≤ bits) (h2 : bits ≤ 65536) : validL (limL bits z) = true := by
  unfold validL
  rw [List.all_eq_true]
  intro p hp
  rcases limL_mem hp with rfl | rfl
  · rfl
  · exact limS_valid h1 h2
theorem limL_poly {bits z : Nat} (h1 : 1 ≤ bits) (h2 : bits ≤ 65536) (hz : z ≤ 24) : polyB (limL bits z) = true := by
  have hl := limL_length bits z
  have ht : topB (limL bits z) = true := by
    unfold topB
    have e : (limL bits z)[(limL bits z).length - 1]? = some (false, limS bits) := by
      rw [hl, Nat.add_sub_cancel, limL, List.getElem?_append_right (by simp), List.length_replicate, Nat.sub_self]; rfl
    rw [e]
    simp only [decide_eq_true_eq]
    rw [limS_size]; omega
  unfold polyB
  rw [limL_valid h1 h2, ht, hl, decide_eq_true (by omega)]; rfl
theorem limL_form {bits z : Nat} (h1 : 1 ≤ bits) (h2 : bits ≤ 65536) (hz : z ≤ 24) : formB (limL bits z) = true := by
  unfold formB
  rw [limL_valid h1 h2, limL_length, decide_eq_true (by omega), decide_eq_true (by omega)]; rfl
theorem limL_num {bits : Nat} (h1 : 1 ≤ bits) (z : Nat) : (limL bits z).map wnP = List.replicate z 0 ++ [((2 ^ (bits - 1) : Nat) : Int)] := by
  unfold limL
  rw [List.map_append, List.map_replicate]
  have e1 : wnP (false, ⟨#[]⟩) = 0 := rfl
  have e2 : wnP (false, limS bits) = ((2 ^ (bits - 1) : Nat) : Int) := by
    unfold wnP wnum
    simp only [limS_num h1]; rfl
  rw [e1, List.map_cons, e2]; rfl
theorem limL_lt {bits : Nat} (h1 : 1 ≤ bits) (z : Nat) : ∀ x ∈ (limL bits z).map wnP, x.natAbs < 2 ^ bits := by
  intro x hx
  rw [limL_num h1] at hx
  rcases List.mem_append.1 hx with h | h
  · rw [List.eq_of_mem_replicate h]; exact Nat.pow_pos (by decide)
  · rw [List.mem_singleton.1 h, Int.natAbs_natCast]; exact Nat.pow_lt_pow_right (by decide) (by omega)
theorem bits_zeros : ∀ z, bitsF blen (List.replicate z (0 : Int)) = 0
  | 0 => rfl
  | z + 1 => by
    rw [List.replicate_succ', bitsF_snoc, bits_zeros z]
    simp [blen_zero]
theorem limL_bits {bits : Nat} (h1 : 1 ≤ bits) (z : Nat) : bitsF blen ((limL bits z).map wnP) = bits := by
  rw [limL_num h1, bitsF_snoc, bits_zeros, Int.natAbs_natCast]
  have a := blen_gt (bits - 1) (2 ^ (bits - 1)) (Nat.le_refl _)
  have b := blen_le bits (2 ^ (bits - 1)) (Nat.pow_lt_pow_right (by decide) (by omega))
  rw [if_pos (by omega)]; omega
end Go.Proofs.Ytnpclmmmngmdkaa

namespace Go.Proofs.Ytnpclmmmngmdkaa
open Go.Vl Go.RowKit Go.Dg

theorem limL_wA (bits z : Nat) : (limL bits z).map wA = (List.replicate (z + 1) (PV.agg [.bool false, .str ⟨#[]⟩])).set z (.agg [.bool false, .str (limS bits)]) := by
  rw [rep_set, limL, List.map_append, List.map_replicate]; rfl
theorem limB_f8 (bits : Nat) : (List.replicate ((bits + 7) / 8 - 1 + 1) (PV.int .u8 0)).set 0 (PV.int .u8 ((2 ^ ((bits - 1) % 8) : Nat) : Int)) = (limB bits).map f8 := by
  rw [List.replicate_succ, List.set_cons_zero, limB, List.map_cons, List.map_replicate]; rfl
set_option maxRecDepth 100000 in
set_option maxHeartbeats 8000000 in
theorem BernsteinLimits_in (b z d : Nat) (hb1 : 65400 ≤ b) (hb2 : b ≤ 65536) (hz : z ≤ 24) (hd : d ≤ 8) :
    SoundAt Try.prog 4 [.int .i64 (b : Int), .int .i64 (z : Int), .int .i64 (d : Int)] (.bool true) := by
  have hk := known_v
  have g1 : ((b : Int) < 65400) = False := eq_false (by omega)
  have g2 : ((65536 : Int) < (b : Int)) = False := eq_false (by omega)
  have g3 : ((z : Int) < 0) = False := eq_false (by omega)
  have g4 : ((24 : Int) < (z : Int)) = False := eq_false (by omega)
  have g5 : ((d : Int) < 0) = False := eq_false (by omega)
  have g6 : ((8 : Int) < (d : Int)) = False := eq_false (by omega)
  have w1 : IntKind.i64.wrap ((b : Int) + 7) = ((b + 7 : Nat) : Int) := by rw [wrap_i64 (by omega) (by omega)]; omega
  have t1 := tdiv8 (b + 7)
  have w2 : IntKind.i64.wrap (((b + 7) / 8 : Nat) : Int) = (((b + 7) / 8 : Nat) : Int) := wrapn (by omega)
  have w3 : IntKind.i64.wrap ((b : Int) - 1) = ((b - 1 : Nat) : Int) := by rw [wrap_i64 (by omega) (by omega)]; omega
  have t2 := tmod8 (b - 1)
  have w4 := wrap_add1 (a := z) (by omega)
  obtain ⟨m, hm⟩ : ∃ m : Nat, (b + 7) / 8 = m + 1 := ⟨(b + 7) / 8 - 1, by omega⟩
  have hmm : (b + 7) / 8 - 1 = m := by omega
  have m1 : ((1 : Nat) : Int) * ((m + 1 : Nat) : Int) ≤ 281474976710656 := by omega
  have m2 : ((m + 1 : Nat) : Int) ≤ 9223372036854775807 := by omega
  have m3 := nnT (m + 1)
  have n1 : ((24 : Nat) : Int) * ((z + 1 : Nat) : Int) ≤ 281474976710656 := by omega
  have n2 : ((z + 1 : Nat) : Int) ≤ 9223372036854775807 := by omega
  have n3 := nnT (z + 1)
  have l1 := ltT (show z < z + 1 by omega)
  have nz := nnT z
  rw [hm] at t1 w2
  have hB8 := limB_f8 b
  rw [hmm] at hB8
  have s1 : ((((b - 1) % 8 : Nat) : Int) < 0) = False := eq_false (by omega)
  have s2 : IntKind.u8.wrap (1 * 2 ^ min ((b - 1) % 8) 8) = ((2 ^ ((b - 1) % 8) : Nat) : Int) := by
    rw [Int.one_mul, Nat.min_eq_left (by omega)]
    have h := pow8 (b - 1)
    have e : (2 : Int) ^ ((b - 1) % 8) = ((2 ^ ((b - 1) % 8) : Nat) : Int) := by rw [Int.natCast_pow]; rfl
    rw [e]
    exact u8_wrap h
  have c0 : ((0 : Int) < ((m + 1 : Nat) : Int)) = True := eq_true (by omega)
  have hg0 : (List.replicate (m + 1) (PV.int .u8 0))[0]? = some (PV.int .u8 0) := rfl
  have hgz : (List.replicate (z + 1) (PV.agg [.bool false, .str ⟨#[]⟩]))[z]? = some (PV.agg [.bool false, .str ⟨#[]⟩]) := by rw [List.getElem?_replicate, if_pos (by omega)]
  have hLw := (limL_wA b z).symm
  unfold limS at hLw
  have hlB : ((limB b).map f8).length = m + 1 := by rw [List.length_map, limB, List.length_cons, List.length_replicate, hmm]
  have htB : ((limB b).map f8).take (m + 1) = (limB b).map f8 := List.take_of_length_le (by omega)
  have hbB := bytesOf_f8 (limB b)
  have hlL : ((limL b z).map wA).length = z + 1 := by rw [List.length_map, limL_length]
  have htL : ((limL b z).map wA).take (z + 1) = (limL b z).map wA := List.take_of_length_le (by omega)
  have hpl := limL_poly (bits := b) (z := z) (by omega) hb2 hz
  have hfm := limL_form (bits := b) (z := z) (by omega) hb2 hz
  have hlt := limL_lt (bits := b) (by omega) z
  have hbi := limL_bits (bits := b) (by omega) z
  have hlen := limL_length b z
  have hs : ∀ p ∈ limL b z, p.2.size ≤ 100000 := by
    intro p hp
    rcases limL_mem hp with rfl | rfl
    · decide
    · rw [limS_size]; omega
  have hx16 : ∀ x ∈ (limL b z).map wnP, x.natAbs < 2 ^ 65536 := fun x hx => p2_16 (hlt x hx) hb2
  have hzd : z * d ≤ 24 * 8 := Nat.mul_le_mul hz hd
  have wF : IntKind.i64.wrap ((b : Int) + 30) = ((b + 30 : Nat) : Int) := by rw [wrap_i64 (by omega) (by omega)]; omega
  have wS1 : IntKind.i64.wrap ((b : Int) + (z : Int)) = ((b + z : Nat) : Int) := by rw [wrap_i64 (by omega) (by omega)]; omega
  have wS2 : IntKind.i64.wrap (((b + z : Nat) : Int) + 30) = ((b + z + 30 : Nat) : Int) := by rw [wrap_i64 (by omega) (by omega)]; omega
  have wZ : IntKind.i64.wrap ((z : Int) * (d : Int)) = ((z * d : Nat) : Int) := by rw [← Int.natCast_mul]; exact wrapn (by omega)
  have wY : IntKind.i64.wrap ((b : Int) + ((z * d : Nat) : Int)) = ((b + z * d : Nat) : Int) := by rw [wrap_i64 (by omega) (by omega)]; omega
  have wX : IntKind.i64.wrap (((b + z * d : Nat) : Int) + 60) = ((b + z * d + 60 : Nat) : Int) := by rw [wrap_i64 (by omega) (by omega)]; omega
  have b1 : (true != true) = false := rfl
  have b2 : (false != false) = false := rfl
  have b3 : (true != false) = true := rfl
  have b4 : (false != true) = true := rfl
  have i1 : ((7 : Int) == 7) = true := rfl
  have i2 : ((0 : Int) == 7) = false := rfl
  have i3 : ((0 : Int) != 0) = false := rfl
  by_cases F : 65536 < b + 30
  · have gF : ((65536 : Int) < ((b + 30 : Nat) : Int)) = True := eq_true (by omega)
    have gS : ((65536 : Int) < ((b + z + 30 : Nat) : Int)) = True := eq_true (by omega)
    have gL : (((b + z * d + 60 : Nat) : Int) ≤ 65536) = False := eq_false (by omega)
    have c1 := Form_full (limL b z) z hs hpl hz (by omega) hx16 (by omega)
    have c2 := Poly_full (limL b z) hfm hx16 (by omega)
    have c3 := Bounds_full (limL b z) hfm hx16 (by omega)
    have c4 := Split_full (limL b z) hfm hx16 (by omega)
    have c5 := Enclose_full (limL b z) z d hs hpl (by omega) hd hx16 (by omega)
    have c6 := Positive_full (limL b z) z d hs hpl (by omega) hd hx16 (by omega)
    clear hpl hfm hlt hs hx16
    refine sound_go (tb := []) 165 [.tmp 6] [0, 1, 2, 6, 7, 8, 10, 12, 15, 18, 19, 22, 24, 46, 134, 141] mixed Try.func4 rfl (by kernel_rfl) (by kernel_rfl) (by kernel_rfl) (by kernel_rfl) ?_
    repeat (first | (simp -implicitDefEqProofs only [go_sem, Nat.reduceAdd, Nat.reduceMul, Nat.reduceEqDiff, Nat.reduceLT, Nat.reduceLeDiff, Nat.reduceSub, Nat.reduceBEq, reduceIte, reduceCtorEq, Int.reduceEq, Int.reduceNe, Nat.reduceBneDiff, Int.reduceLE, Int.reduceLT, Int.reduceToNat, Int.reduceAdd, Int.reduceSub, Int.reduceMul, Int.reduceNeg, g1, g2, g3, g4, g5, g6, w1, t1, w2, w3, t2, w4, m1, m2, m3, n1, n2, n3, l1, nz, s1, s2, c0, hg0, hB8, hgz, hLw, hlB, htB, hbB, hlL, htL, Int.toNat_natCast]) | (with_reducible exact drawQ_true _ _ (by kernel_rfl)) | (with_reducible refine And.intro (drawQ_true _ _ (by kernel_rfl)) ?_))
    repeat (first | (simp -implicitDefEqProofs only [go_sem, Nat.reduceAdd, Nat.reduceMul, Nat.reduceEqDiff, Nat.reduceLT, Nat.reduceLeDiff, Nat.reduceSub, Nat.reduceBEq, reduceIte, reduceCtorEq, Int.reduceEq, Int.reduceNe, Nat.reduceBneDiff, Int.reduceLE, Int.reduceLT, Int.reduceToNat, Int.reduceAdd, Int.reduceSub, Int.reduceMul, Int.reduceNeg, hlL, htL, wF, wS1, wS2, wZ, wY, wX, b1, b2, b3, b4, i1, i2, i3, gF, gS, gL, Int.toNat_natCast]) | ((with_reducible refine gcall_eq (c1) ?_ ?_ ?_); (with_reducible rfl); rfl) | ((with_reducible refine gcall_eq (c2) ?_ ?_ ?_); (with_reducible rfl); rfl) | ((with_reducible refine gcall_eq (c3) ?_ ?_ ?_); (with_reducible rfl); rfl) | ((with_reducible refine gcall_eq (c4) ?_ ?_ ?_); (with_reducible rfl); rfl) | ((with_reducible refine gcall_eq (c5) ?_ ?_ ?_); (with_reducible rfl); rfl) | ((with_reducible refine gcall_eq (c6) ?_ ?_ ?_); (with_reducible rfl); rfl) | ((with_reducible refine gcall_eq (hk) ?_ ?_ ?_); (with_reducible rfl); rfl) | (with_reducible exact drawQ_true _ _ (by kernel_rfl)) | (with_reducible refine And.intro (drawQ_true _ _ (by kernel_rfl)) ?_))
  · have gF : ((65536 : Int) < ((b + 30 : Nat) : Int)) = False := eq_false (by omega)
    have c1 := Form_v (limL b z) z b hs hpl hz (by omega) hlt (by omega)
    have c2 := Poly_v (limL b z) z b hlen hfm hlt (by omega)
    have c3 := Bounds_v (limL b z) z b hlen hfm hlt (by omega)
    unfold rats ratPV at c3
    have c5 := fun h => Enclose_full (limL b z) z d hs hpl (by omega) hd hx16 h
    have c6 := fun h => Positive_full (limL b z) z d hs hpl (by omega) hd hx16 h
    rw [hbi] at c5 c6
    by_cases S : 65536 < b + z + 30
    · have gS : ((65536 : Int) < ((b + z + 30 : Nat) : Int)) = True := eq_true (by omega)
      have c4 := Split_full (limL b z) hfm hx16 (by omega)
      generalize bestF false (coefs ((limL b z).map wnP)) = q1 at *
      generalize bestF true (coefs ((limL b z).map wnP)) = q2 at *
      clear hpl hfm hlt hs hx16
      by_cases L : b + z * d + 60 ≤ 65536
      · have gL : (((b + z * d + 60 : Nat) : Int) ≤ 65536) = True := eq_true (by omega)
        clear c5 c6
        refine sound_go (tb := []) 165 [.tmp 6] [0, 1, 2, 6, 7, 8, 10, 12, 15, 18, 19, 22, 24, 46, 134, 141] mixed Try.func4 rfl (by kernel_rfl) (by kernel_rfl) (by kernel_rfl) (by kernel_rfl) ?_
        repeat (first | (simp -implicitDefEqProofs only [go_sem, Nat.reduceAdd, Nat.reduceMul, Nat.reduceEqDiff, Nat.reduceLT, Nat.reduceLeDiff, Nat.reduceSub, Nat.reduceBEq, reduceIte, reduceCtorEq, Int.reduceEq, Int.reduceNe, Nat.reduceBneDiff, Int.reduceLE, Int.reduceLT, Int.reduceToNat, Int.reduceAdd, Int.reduceSub, Int.reduceMul, Int.reduceNeg, g1, g2, g3, g4, g5, g6, w1, t1, w2, w3, t2, w4, m1, m2, m3, n1, n2, n3, l1, nz, s1, s2, c0, hg0, hB8, hgz, hLw, hlB, htB, hbB, hlL, htL, Int.toNat_natCast]) | (with_reducible exact drawQ_true _ _ (by kernel_rfl)) | (with_reducible refine And.intro (drawQ_true _ _ (by kernel_rfl)) ?_))
        repeat (first | (simp -implicitDefEqProofs only [go_sem, Nat.reduceAdd, Nat.reduceMul, Nat.reduceEqDiff, Nat.reduceLT, Nat.reduceLeDiff, Nat.reduceSub, Nat.reduceBEq, reduceIte, reduceCtorEq, Int.reduceEq, Int.reduceNe, Nat.reduceBneDiff, Int.reduceLE, Int.reduceLT, Int.reduceToNat, Int.reduceAdd, Int.reduceSub, Int.reduceMul, Int.reduceNeg, hlL, htL, wF, wS1, wS2, wZ, wY, wX, b1, b2, b3, b4, i1, i2, i3, gF, gS, gL, Int.toNat_natCast, wL]) | ((with_reducible refine gcall_eq (c1) ?_ ?_ ?_); (with_reducible rfl); rfl) | ((with_reducible refine gcall_eq (c2) ?_ ?_ ?_); (with_reducible rfl); rfl) | ((with_reducible refine gcall_eq (c3) ?_ ?_ ?_); (with_reducible rfl); rfl) | ((with_reducible refine gcall_eq (c4) ?_ ?_ ?_); (with_reducible rfl); rfl) | ((with_reducible refine gcall_eq (hk) ?_ ?_ ?_); (with_reducible rfl); rfl) | (with_reducible exact drawQ_true _ _ (by kernel_rfl)) | (with_reducible refine And.intro (drawQ_true _ _ (by kernel_rfl)) ?_))
      · have gL : (((b + z * d + 60 : Nat) : Int) ≤ 65536) = False := eq_false (by omega)
        replace c5 := c5 (by omega)
        replace c6 := c6 (by omega)
        refine sound_go (tb := []) 165 [.tmp 6] [0, 1, 2, 6, 7, 8, 10, 12, 15, 18, 19, 22, 24, 46, 134, 141] mixed Try.func4 rfl (by kernel_rfl) (by kernel_rfl) (by kernel_rfl) (by kernel_rfl) ?_
        repeat (first | (simp -implicitDefEqProofs only [go_sem, Nat.reduceAdd, Nat.reduceMul, Nat.reduceEqDiff, Nat.reduceLT, Nat.reduceLeDiff, Nat.reduceSub, Nat.reduceBEq, reduceIte, reduceCtorEq, Int.reduceEq, Int.reduceNe, Nat.reduceBneDiff, Int.reduceLE, Int.reduceLT, Int.reduceToNat, Int.reduceAdd, Int.reduceSub, Int.reduceMul, Int.reduceNeg, g1, g2, g3, g4, g5, g6, w1, t1, w2, w3, t2, w4, m1, m2, m3, n1, n2, n3, l1, nz, s1, s2, c0, hg0, hB8, hgz, hLw, hlB, htB, hbB, hlL, htL, Int.toNat_natCast]) | (with_reducible exact drawQ_true _ _ (by kernel_rfl)) | (with_reducible refine And.intro (drawQ_true _ _ (by kernel_rfl)) ?_))
        repeat (first | (simp -implicitDefEqProofs only [go_sem, Nat.reduceAdd, Nat.reduceMul, Nat.reduceEqDiff, Nat.reduceLT, Nat.reduceLeDiff, Nat.reduceSub, Nat.reduceBEq, reduceIte, reduceCtorEq, Int.reduceEq, Int.reduceNe, Nat.reduceBneDiff, Int.reduceLE, Int.reduceLT, Int.reduceToNat, Int.reduceAdd, Int.reduceSub, Int.reduceMul, Int.reduceNeg, hlL, htL, wF, wS1, wS2, wZ, wY, wX, b1, b2, b3, b4, i1, i2, i3, gF, gS, gL, Int.toNat_natCast, wL]) | ((with_reducible refine gcall_eq (c1) ?_ ?_ ?_); (with_reducible rfl); rfl) | ((with_reducible refine gcall_eq (c2) ?_ ?_ ?_); (with_reducible rfl); rfl) | ((with_reducible refine gcall_eq (c3) ?_ ?_ ?_); (with_reducible rfl); rfl) | ((with_reducible refine gcall_eq (c4) ?_ ?_ ?_); (with_reducible rfl); rfl) | ((with_reducible refine gcall_eq (c5) ?_ ?_ ?_); (with_reducible rfl); rfl) | ((with_reducible refine gcall_eq (c6) ?_ ?_ ?_); (with_reducible rfl); rfl) | ((with_reducible refine gcall_eq (hk) ?_ ?_ ?_); (with_reducible rfl); rfl) | (with_reducible exact drawQ_true _ _ (by kernel_rfl)) | (with_reducible refine And.intro (drawQ_true _ _ (by kernel_rfl)) ?_))
    · have gS : ((65536 : Int) < ((b + z + 30 : Nat) : Int)) = False := eq_false (by omega)
      have c4 := Split_v (limL b z) z b hlen hfm hlt (by omega)
      generalize bestF false (coefs ((limL b z).map wnP)) = q1 at *
      generalize bestF true (coefs ((limL b z).map wnP)) = q2 at *
      clear hpl hfm hlt hs hx16
      by_cases L : b + z * d + 60 ≤ 65536
      · have gL : (((b + z * d + 60 : Nat) : Int) ≤ 65536) = True := eq_true (by omega)
        clear c5 c6
        refine sound_go (tb := []) 165 [.tmp 6] [0, 1, 2, 6, 7, 8, 10, 12, 15, 18, 19, 22, 24, 46, 134, 141] mixed Try.func4 rfl (by kernel_rfl) (by kernel_rfl) (by kernel_rfl) (by kernel_rfl) ?_
        repeat (first | (simp -implicitDefEqProofs only [go_sem, Nat.reduceAdd, Nat.reduceMul, Nat.reduceEqDiff, Nat.reduceLT, Nat.reduceLeDiff, Nat.reduceSub, Nat.reduceBEq, reduceIte, reduceCtorEq, Int.reduceEq, Int.reduceNe, Nat.reduceBneDiff, Int.reduceLE, Int.reduceLT, Int.reduceToNat, Int.reduceAdd, Int.reduceSub, Int.reduceMul, Int.reduceNeg, g1, g2, g3, g4, g5, g6, w1, t1, w2, w3, t2, w4, m1, m2, m3, n1, n2, n3, l1, nz, s1, s2, c0, hg0, hB8, hgz, hLw, hlB, htB, hbB, hlL, htL, Int.toNat_natCast]) | (with_reducible exact drawQ_true _ _ (by kernel_rfl)) | (with_reducible refine And.intro (drawQ_true _ _ (by kernel_rfl)) ?_))
        repeat (first | (simp -implicitDefEqProofs only [go_sem, Nat.reduceAdd, Nat.reduceMul, Nat.reduceEqDiff, Nat.reduceLT, Nat.reduceLeDiff, Nat.reduceSub, Nat.reduceBEq, reduceIte, reduceCtorEq, Int.reduceEq, Int.reduceNe, Nat.reduceBneDiff, Int.reduceLE, Int.reduceLT, Int.reduceToNat, Int.reduceAdd, Int.reduceSub, Int.reduceMul, Int.reduceNeg, hlL, htL, wF, wS1, wS2, wZ, wY, wX, b1, b2, b3, b4, i1, i2, i3, gF, gS, gL, Int.toNat_natCast, wL]) | ((with_reducible refine gcall_eq (c1) ?_ ?_ ?_); (with_reducible rfl); rfl) | ((with_reducible refine gcall_eq (c2) ?_ ?_ ?_); (with_reducible rfl); rfl) | ((with_reducible refine gcall_eq (c3) ?_ ?_ ?_); (with_reducible rfl); rfl) | ((with_reducible refine gcall_eq (c4) ?_ ?_ ?_); (with_reducible rfl); rfl) | ((with_reducible refine gcall_eq (hk) ?_ ?_ ?_); (with_reducible rfl); rfl) | (with_reducible exact drawQ_true _ _ (by kernel_rfl)) | (with_reducible refine And.intro (drawQ_true _ _ (by kernel_rfl)) ?_))
      · have gL : (((b + z * d + 60 : Nat) : Int) ≤ 65536) = False := eq_false (by omega)
        replace c5 := c5 (by omega)
        replace c6 := c6 (by omega)
        refine sound_go (tb := []) 165 [.tmp 6] [0, 1, 2, 6, 7, 8, 10, 12, 15, 18, 19, 22, 24, 46, 134, 141] mixed Try.func4 rfl (by kernel_rfl) (by kernel_rfl) (by kernel_rfl) (by kernel_rfl) ?_
        repeat (first | (simp -implicitDefEqProofs only [go_sem, Nat.reduceAdd, Nat.reduceMul, Nat.reduceEqDiff, Nat.reduceLT, Nat.reduceLeDiff, Nat.reduceSub, Nat.reduceBEq, reduceIte, reduceCtorEq, Int.reduceEq, Int.reduceNe, Nat.reduceBneDiff, Int.reduceLE, Int.reduceLT, Int.reduceToNat, Int.reduceAdd, Int.reduceSub, Int.reduceMul, Int.reduceNeg, g1, g2, g3, g4, g5, g6, w1, t1, w2, w3, t2, w4, m1, m2, m3, n1, n2, n3, l1, nz, s1, s2, c0, hg0, hB8, hgz, hLw, hlB, htB, hbB, hlL, htL, Int.toNat_natCast]) | (with_reducible exact drawQ_true _ _ (by kernel_rfl)) | (with_reducible refine And.intro (drawQ_true _ _ (by kernel_rfl)) ?_))
        repeat (first | (simp -implicitDefEqProofs only [go_sem, Nat.reduceAdd, Nat.reduceMul, Nat.reduceEqDiff, Nat.reduceLT, Nat.reduceLeDiff, Nat.reduceSub, Nat.reduceBEq, reduceIte, reduceCtorEq, Int.reduceEq, Int.reduceNe, Nat.reduceBneDiff, Int.reduceLE, Int.reduceLT, Int.reduceToNat, Int.reduceAdd, Int.reduceSub, Int.reduceMul, Int.reduceNeg, hlL, htL, wF, wS1, wS2, wZ, wY, wX, b1, b2, b3, b4, i1, i2, i3, gF, gS, gL, Int.toNat_natCast, wL]) | ((with_reducible refine gcall_eq (c1) ?_ ?_ ?_); (with_reducible rfl); rfl) | ((with_reducible refine gcall_eq (c2) ?_ ?_ ?_); (with_reducible rfl); rfl) | ((with_reducible refine gcall_eq (c3) ?_ ?_ ?_); (with_reducible rfl); rfl) | ((with_reducible refine gcall_eq (c4) ?_ ?_ ?_); (with_reducible rfl); rfl) | ((with_reducible refine gcall_eq (c5) ?_ ?_ ?_); (with_reducible rfl); rfl) | ((with_reducible refine gcall_eq (c6) ?_ ?_ ?_); (with_reducible rfl); rfl) | ((with_reducible refine gcall_eq (hk) ?_ ?_ ?_); (with_reducible rfl); rfl) | (with_reducible exact drawQ_true _ _ (by kernel_rfl)) | (with_reducible refine And.intro (drawQ_true _ _ (by kernel_rfl)) ?_))
theorem BernsteinLimits_v (b z d : Int) (h1 : -9223372036854775808 ≤ b) (h2 : b ≤ 9223372036854775807) (h3 : -9223372036854775808 ≤ z) (h4 : z ≤ 9223372036854775807) (h5 : -9223372036854775808 ≤ d) (h6 : d ≤ 9223372036854775807) :
    SoundAt Try.prog 4 [.int .i64 b, .int .i64 z, .int .i64 d] (.bool true) := by
  have hk := known_v
  by_cases a1 : b < 65400
  · have g1 : (b < 65400) = True := eq_true a1
    refine sound_go (tb := []) 165 [.tmp 6] [0, 1, 2, 6, 7, 8, 10, 12, 15, 18, 19, 22, 24, 46, 134, 141] mixed Try.func4 rfl (by kernel_rfl) (by kernel_rfl) (by kernel_rfl) (by kernel_rfl) ?_
    repeat (first | (simp -implicitDefEqProofs only [go_sem, Nat.reduceAdd, Nat.reduceMul, Nat.reduceEqDiff, Nat.reduceLT, Nat.reduceLeDiff, Nat.reduceSub, Nat.reduceBEq, reduceIte, reduceCtorEq, Int.reduceEq, Int.reduceNe, Nat.reduceBneDiff, Int.reduceLE, Int.reduceLT, Int.reduceToNat, Int.reduceAdd, Int.reduceSub, Int.reduceMul, Int.reduceNeg, g1]) | ((with_reducible refine gcall_eq (hk) ?_ ?_ ?_); (with_reducible rfl); rfl) | (with_reducible exact drawQ_true _ _ (by kernel_rfl)) | (with_reducible refine And.intro (drawQ_true _ _ (by kernel_rfl)) ?_))
  have g1 : (b < 65400) = False := eq_false a1
  by_cases a2 : 65536 < b
  · have g2 : (65536 < b) = True := eq_true a2
    refine sound_go (tb := []) 165 [.tmp 6] [0, 1, 2, 6, 7, 8, 10, 12, 15, 18, 19, 22, 24, 46, 134, 141] mixed Try.func4 rfl (by kernel_rfl) (by kernel_rfl) (by kernel_rfl) (by kernel_rfl) ?_
    repeat (first | (simp -implicitDefEqProofs only [go_sem, Nat.reduceAdd, Nat.reduceMul, Nat.reduceEqDiff, Nat.reduceLT, Nat.reduceLeDiff, Nat.reduceSub, Nat.reduceBEq, reduceIte, reduceCtorEq, Int.reduceEq, Int.reduceNe, Nat.reduceBneDiff, Int.reduceLE, Int.reduceLT, Int.reduceToNat, Int.reduceAdd, Int.reduceSub, Int.reduceMul, Int.reduceNeg, g1, g2]) | ((with_reducible refine gcall_eq (hk) ?_ ?_ ?_); (with_reducible rfl); rfl) | (with_reducible exact drawQ_true _ _ (by kernel_rfl)) | (with_reducible refine And.intro (drawQ_true _ _ (by kernel_rfl)) ?_))
  have g2 : (65536 < b) = False := eq_false a2
  by_cases a3 : z < 0
  · have g3 : (z < 0) = True := eq_true a3
    refine sound_go (tb := []) 165 [.tmp 6] [0, 1, 2, 6, 7, 8, 10, 12, 15, 18, 19, 22, 24, 46, 134, 141] mixed Try.func4 rfl (by kernel_rfl) (by kernel_rfl) (by kernel_rfl) (by kernel_rfl) ?_
    repeat (first | (simp -implicitDefEqProofs only [go_sem, Nat.reduceAdd, Nat.reduceMul, Nat.reduceEqDiff, Nat.reduceLT, Nat.reduceLeDiff, Nat.reduceSub, Nat.reduceBEq, reduceIte, reduceCtorEq, Int.reduceEq, Int.reduceNe, Nat.reduceBneDiff, Int.reduceLE, Int.reduceLT, Int.reduceToNat, Int.reduceAdd, Int.reduceSub, Int.reduceMul, Int.reduceNeg, g1, g2, g3]) | ((with_reducible refine gcall_eq (hk) ?_ ?_ ?_); (with_reducible rfl); rfl) | (with_reducible exact drawQ_true _ _ (by kernel_rfl)) | (with_reducible refine And.intro (drawQ_true _ _ (by kernel_rfl)) ?_))
  have g3 : (z < 0) = False := eq_false a3
  by_cases a4 : 24 < z
  · have g4 : (24 < z) = True := eq_true a4
    refine sound_go (tb := []) 165 [.tmp 6] [0, 1, 2, 6, 7, 8, 10, 12, 15, 18, 19, 22, 24, 46, 134, 141] mixed Try.func4 rfl (by kernel_rfl) (by kernel_rfl) (by kernel_rfl) (by kernel_rfl) ?_
    repeat (first | (simp -implicitDefEqProofs only [go_sem, Nat.reduceAdd, Nat.reduceMul, Nat.reduceEqDiff, Nat.reduceLT, Nat.reduceLeDiff, Nat.reduceSub, Nat.reduceBEq, reduceIte, reduceCtorEq, Int.reduceEq, Int.reduceNe, Nat.reduceBneDiff, Int.reduceLE, Int.reduceLT, Int.reduceToNat, Int.reduceAdd, Int.reduceSub, Int.reduceMul, Int.reduceNeg, g1, g2, g3, g4]) | ((with_reducible refine gcall_eq (hk) ?_ ?_ ?_); (with_reducible rfl); rfl) | (with_reducible exact drawQ_true _ _ (by kernel_rfl)) | (with_reducible refine And.intro (drawQ_true _ _ (by kernel_rfl)) ?_))
  have g4 : (24 < z) = False := eq_false a4
  by_cases a5 : d < 0
  · have g5 : (d < 0) = True := eq_true a5
    refine sound_go (tb := []) 165 [.tmp 6] [0, 1, 2, 6, 7, 8, 10, 12, 15, 18, 19, 22, 24, 46, 134, 141] mixed Try.func4 rfl (by kernel_rfl) (by kernel_rfl) (by kernel_rfl) (by kernel_rfl) ?_
    repeat (first | (simp -implicitDefEqProofs only [go_sem, Nat.reduceAdd, Nat.reduceMul, Nat.reduceEqDiff, Nat.reduceLT, Nat.reduceLeDiff, Nat.reduceSub, Nat.reduceBEq, reduceIte, reduceCtorEq, Int.reduceEq, Int.reduceNe, Nat.reduceBneDiff, Int.reduceLE, Int.reduceLT, Int.reduceToNat, Int.reduceAdd, Int.reduceSub, Int.reduceMul, Int.reduceNeg, g1, g2, g3, g4, g5]) | ((with_reducible refine gcall_eq (hk) ?_ ?_ ?_); (with_reducible rfl); rfl) | (with_reducible exact drawQ_true _ _ (by kernel_rfl)) | (with_reducible refine And.intro (drawQ_true _ _ (by kernel_rfl)) ?_))
  have g5 : (d < 0) = False := eq_false a5
  by_cases a6 : 8 < d
  · have g6 : (8 < d) = True := eq_true a6
    refine sound_go (tb := []) 165 [.tmp 6] [0, 1, 2, 6, 7, 8, 10, 12, 15, 18, 19, 22, 24, 46, 134, 141] mixed Try.func4 rfl (by kernel_rfl) (by kernel_rfl) (by kernel_rfl) (by kernel_rfl) ?_
    repeat (first | (simp -implicitDefEqProofs only [go_sem, Nat.reduceAdd, Nat.reduceMul, Nat.reduceEqDiff, Nat.reduceLT, Nat.reduceLeDiff, Nat.reduceSub, Nat.reduceBEq, reduceIte, reduceCtorEq, Int.reduceEq, Int.reduceNe, Nat.reduceBneDiff, Int.reduceLE, Int.reduceLT, Int.reduceToNat, Int.reduceAdd, Int.reduceSub, Int.reduceMul, Int.reduceNeg, g1, g2, g3, g4, g5, g6]) | ((with_reducible refine gcall_eq (hk) ?_ ?_ ?_); (with_reducible rfl); rfl) | (with_reducible exact drawQ_true _ _ (by kernel_rfl)) | (with_reducible refine And.intro (drawQ_true _ _ (by kernel_rfl)) ?_))
  obtain ⟨B, rfl⟩ : ∃ n : Nat, b = n := ⟨b.toNat, by omega⟩
  obtain ⟨Z, rfl⟩ : ∃ n : Nat, z = n := ⟨z.toNat, by omega⟩
  obtain ⟨D, rfl⟩ : ∃ n : Nat, d = n := ⟨d.toNat, by omega⟩
  exact BernsteinLimits_in B Z D (by omega) (by omega) (by omega) (by omega)
end Go.Proofs.Ytnpclmmmngmdkaa
