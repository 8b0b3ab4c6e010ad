/-
  FN12, FN14 (merged for the claim).
-/
import Derived.Test.YtnpclmmmngmdkaaGreatBy
set_option linter.unusedSimpArgs false
set_option linter.unusedVariables false
namespace Go.Proofs.YtnpclmmmngmdkaaGreat
open Go.Vl Go.RowKit Go.Dg

/-- The degree: the length less 1, at least 0. -/
theorem rDegree_v (p : List Int) (hl : p.length ≤ 1000000) : SoundAt Tryz.prog 65 [rL p] (.int .i64 ((p.length - 1 : Nat) : Int)) := by
  by_cases h1 : 1 < p.length
  · have w1 : IntKind.i64.wrap ((p.length : Int) - 1) = ((p.length - 1 : Nat) : Int) := by rw [wrap_i64 (by omega) (by omega)]; omega
    have c1 : ((0 : Int) < ((p.length - 1 : Nat) : Int)) = True := by simp only [eq_iff_iff, iff_true]; omega
    refine sound_go (tb := []) 7 [.tmp 2] [0, 2] mixed Tryz.func65 rfl (by kernel_rfl) (by kernel_rfl) (by kernel_rfl) (by kernel_rfl) ?_
    repeat (first | (simp -implicitDefEqProofs only [go_sem, Nat.reduceAdd, Nat.reduceMul, Nat.reduceEqDiff, Nat.reduceLT, Nat.reduceLeDiff, Nat.reduceSub, Nat.reduceBEq, reduceIte, reduceCtorEq, Int.reduceEq, Int.reduceNe, Nat.reduceBneDiff, Int.reduceLE, Int.reduceLT, Int.reduceToNat, Int.reduceAdd, Int.reduceSub, Int.reduceMul, Int.reduceNeg, rL, List.length_map, w1, c1]) | (with_reducible exact drawQ_true _ _ (by kernel_rfl)) | (with_reducible refine And.intro (drawQ_true _ _ (by kernel_rfl)) ?_))
  · have w1 : IntKind.i64.wrap ((p.length : Int) - 1) = (p.length : Int) - 1 := wrap_i64 (by omega) (by omega)
    have c1 : ((0 : Int) < (p.length : Int) - 1) = False := by simp only [eq_iff_iff, iff_false]; omega
    have e : ((p.length - 1 : Nat) : Int) = 0 := by omega
    rw [e]
    refine sound_go (tb := []) 7 [.tmp 2] [0, 2] mixed Tryz.func65 rfl (by kernel_rfl) (by kernel_rfl) (by kernel_rfl) (by kernel_rfl) ?_
    repeat (first | (simp -implicitDefEqProofs only [go_sem, Nat.reduceAdd, Nat.reduceMul, Nat.reduceEqDiff, Nat.reduceLT, Nat.reduceLeDiff, Nat.reduceSub, Nat.reduceBEq, reduceIte, reduceCtorEq, Int.reduceEq, Int.reduceNe, Nat.reduceBneDiff, Int.reduceLE, Int.reduceLT, Int.reduceToNat, Int.reduceAdd, Int.reduceSub, Int.reduceMul, Int.reduceNeg, rL, List.length_map, w1, c1]) | (with_reducible exact drawQ_true _ _ (by kernel_rfl)) | (with_reducible refine And.intro (drawQ_true _ _ (by kernel_rfl)) ?_))
theorem check_arg (l : List (Bool × ByteArray)) (d : Int) (hl : l.length ≤ 100000) (hs : ∀ p ∈ l, p.2.size ≤ 100000) (h : polyB l = false ∨ d < 0 ∨ 8 < d) : SoundAt Tryz.prog 59 [.slc (l.map wA), .int .i64 d] (.int .i64 2) := by
  have hv := pValid_v l hl hs
  cases hp : polyB l with
  | false =>
    rw [hp] at hv
    refine sound_go (tb := []) 29 [.tmp 4] [0, 1, 4, 5, 17] mixed Tryz.func59 rfl (by kernel_rfl) (by kernel_rfl) (by kernel_rfl) (by kernel_rfl) ?_
    repeat (first | (simp -implicitDefEqProofs only [go_sem, Nat.reduceAdd, Nat.reduceMul, Nat.reduceEqDiff, Nat.reduceLT, Nat.reduceLeDiff, Nat.reduceSub, Nat.reduceBEq, reduceIte, reduceCtorEq, Int.reduceEq, Int.reduceNe, Nat.reduceBneDiff, Int.reduceLE, Int.reduceLT, Int.reduceToNat, Int.reduceAdd, Int.reduceSub, Int.reduceMul, Int.reduceNeg]) | ((with_reducible refine gcall_eq (hv) ?_ ?_ ?_); (with_reducible rfl); rfl) | (with_reducible exact drawQ_true _ _ (by kernel_rfl)) | (with_reducible refine And.intro (drawQ_true _ _ (by kernel_rfl)) ?_))
  | true =>
    rw [hp] at hv h
    by_cases h1 : d < 0
    · have g1 : (d < 0) = True := eq_true h1
      refine sound_go (tb := []) 29 [.tmp 4] [0, 1, 4, 5, 17] mixed Tryz.func59 rfl (by kernel_rfl) (by kernel_rfl) (by kernel_rfl) (by kernel_rfl) ?_
      repeat (first | (simp -implicitDefEqProofs only [go_sem, Nat.reduceAdd, Nat.reduceMul, Nat.reduceEqDiff, Nat.reduceLT, Nat.reduceLeDiff, Nat.reduceSub, Nat.reduceBEq, reduceIte, reduceCtorEq, Int.reduceEq, Int.reduceNe, Nat.reduceBneDiff, Int.reduceLE, Int.reduceLT, Int.reduceToNat, Int.reduceAdd, Int.reduceSub, Int.reduceMul, Int.reduceNeg, g1]) | ((with_reducible refine gcall_eq (hv) ?_ ?_ ?_); (with_reducible rfl); rfl) | (with_reducible exact drawQ_true _ _ (by kernel_rfl)) | (with_reducible refine And.intro (drawQ_true _ _ (by kernel_rfl)) ?_))
    · have g1 : (d < 0) = False := eq_false h1
      have g2 : (8 < d) = True := by
        rcases h with h | h | h
        · cases h
        · exact absurd h h1
        · exact eq_true h
      refine sound_go (tb := []) 29 [.tmp 4] [0, 1, 4, 5, 17] mixed Tryz.func59 rfl (by kernel_rfl) (by kernel_rfl) (by kernel_rfl) (by kernel_rfl) ?_
      repeat (first | (simp -implicitDefEqProofs only [go_sem, Nat.reduceAdd, Nat.reduceMul, Nat.reduceEqDiff, Nat.reduceLT, Nat.reduceLeDiff, Nat.reduceSub, Nat.reduceBEq, reduceIte, reduceCtorEq, Int.reduceEq, Int.reduceNe, Nat.reduceBneDiff, Int.reduceLE, Int.reduceLT, Int.reduceToNat, Int.reduceAdd, Int.reduceSub, Int.reduceMul, Int.reduceNeg, g1, g2]) | ((with_reducible refine gcall_eq (hv) ?_ ?_ ?_); (with_reducible rfl); rfl) | (with_reducible exact drawQ_true _ _ (by kernel_rfl)) | (with_reducible refine And.intro (drawQ_true _ _ (by kernel_rfl)) ?_))
theorem polyB_of {l : List (Bool × ByteArray)} (h : polyB l = true) : validL l = true ∧ l.length ≤ 25 := by
  unfold polyB at h
  simp only [Bool.and_eq_true, decide_eq_true_eq] at h
  exact ⟨h.1, h.2.1⟩
theorem check_v (l : List (Bool × ByteArray)) (n d : Nat) (hs : ∀ p ∈ l, p.2.size ≤ 100000) (hp : polyB l = true) (hn : n = l.length - 1) (hd : d ≤ 8) (hx : ∀ x ∈ l.map wnP, x.natAbs < 2 ^ 65536) :
    SoundAt Tryz.prog 59 [.slc (l.map wA), .int .i64 (d : Int)] (.int .i64 (if 65536 < bitsF blen (l.map wnP) + n * d + 60 then 7 else 0)) := by
  obtain ⟨hval, h25⟩ := polyB_of hp
  have hv := pValid_v l (by omega) hs
  rw [hp] at hv
  rw [wA_wPV hval] at hv ⊢
  have hxl : (l.map wnP).length = l.length := List.length_map _
  rw [← hxl] at h25 hn
  generalize l.map wnP = xs at *
  have hsz := size_v xs (by omega) hx
  have hle : bitsF blen xs ≤ 65536 := bitsF_le fun x hx' => p2_blen (hx x hx')
  have g1 : ((d : Int) < 0) = False := eq_false (by omega)
  have g2 : ((8 : Int) < (d : Int)) = False := eq_false (by omega)
  have hnd : n * d ≤ 24 * 8 := Nat.mul_le_mul (by omega) hd
  generalize bitsF blen xs = bb at *
  unfold wL at hsz
  by_cases h1 : 1 < xs.length
  · have w1 : IntKind.i64.wrap ((xs.length : Int) - 1) = (n : Int) := by rw [wrap_i64 (by omega) (by omega)]; omega
    have c1 : ((0 : Int) < (n : Int)) = True := eq_true (by omega)
    have w2 : IntKind.i64.wrap ((n : Int) * (d : Int)) = ((n * d : Nat) : Int) := by rw [← Int.natCast_mul]; exact wrapn (by omega)
    have w3 : IntKind.i64.wrap ((bb : Int) + ((n * d : Nat) : Int)) = ((bb + n * d : Nat) : Int) := by rw [wrap_i64 (by omega) (by omega)]; omega
    have w4 : IntKind.i64.wrap (((bb + n * d : Nat) : Int) + 60) = ((bb + n * d + 60 : Nat) : Int) := by rw [wrap_i64 (by omega) (by omega)]; omega
    by_cases hF : 65536 < bb + n * d + 60
    · have g4 : ((65536 : Int) < ((bb + n * d + 60 : Nat) : Int)) = True := eq_true (by omega)
      rw [if_pos hF]
      refine sound_go (tb := []) 29 [.tmp 4] [0, 1, 4, 5, 17] mixed Tryz.func59 rfl (by kernel_rfl) (by kernel_rfl) (by kernel_rfl) (by kernel_rfl) ?_
      repeat (first | (simp -implicitDefEqProofs only [go_sem, Nat.reduceAdd, Nat.reduceMul, Nat.reduceEqDiff, Nat.reduceLT, Nat.reduceLeDiff, Nat.reduceSub, Nat.reduceBEq, reduceIte, reduceCtorEq, Int.reduceEq, Int.reduceNe, Nat.reduceBneDiff, Int.reduceLE, Int.reduceLT, Int.reduceToNat, Int.reduceAdd, Int.reduceSub, Int.reduceMul, Int.reduceNeg, g1, g2, w1, c1, w2, w3, w4, g4, List.length_map]) | ((with_reducible refine gcall_eq (hv) ?_ ?_ ?_); (with_reducible rfl); rfl) | ((with_reducible refine gcall_eq (hsz) ?_ ?_ ?_); (with_reducible rfl); rfl) | (with_reducible exact drawQ_true _ _ (by kernel_rfl)) | (with_reducible refine And.intro (drawQ_true _ _ (by kernel_rfl)) ?_))
    · have g4 : ((65536 : Int) < ((bb + n * d + 60 : Nat) : Int)) = False := eq_false (by omega)
      rw [if_neg hF]
      refine sound_go (tb := []) 29 [.tmp 4] [0, 1, 4, 5, 17] mixed Tryz.func59 rfl (by kernel_rfl) (by kernel_rfl) (by kernel_rfl) (by kernel_rfl) ?_
      repeat (first | (simp -implicitDefEqProofs only [go_sem, Nat.reduceAdd, Nat.reduceMul, Nat.reduceEqDiff, Nat.reduceLT, Nat.reduceLeDiff, Nat.reduceSub, Nat.reduceBEq, reduceIte, reduceCtorEq, Int.reduceEq, Int.reduceNe, Nat.reduceBneDiff, Int.reduceLE, Int.reduceLT, Int.reduceToNat, Int.reduceAdd, Int.reduceSub, Int.reduceMul, Int.reduceNeg, g1, g2, w1, c1, w2, w3, w4, g4, List.length_map]) | ((with_reducible refine gcall_eq (hv) ?_ ?_ ?_); (with_reducible rfl); rfl) | ((with_reducible refine gcall_eq (hsz) ?_ ?_ ?_); (with_reducible rfl); rfl) | (with_reducible exact drawQ_true _ _ (by kernel_rfl)) | (with_reducible refine And.intro (drawQ_true _ _ (by kernel_rfl)) ?_))
  · have w1 : IntKind.i64.wrap ((xs.length : Int) - 1) = (xs.length : Int) - 1 := wrap_i64 (by omega) (by omega)
    have c1 : ((0 : Int) < (xs.length : Int) - 1) = False := eq_false (by omega)
    obtain rfl : n = 0 := by omega
    have w2 : IntKind.i64.wrap (0 * (d : Int)) = 0 := by rw [Int.zero_mul]; rfl
    have w3 : IntKind.i64.wrap ((bb : Int) + 0) = (bb : Int) := by rw [Int.add_zero]; exact wrapn (by omega)
    have w4 : IntKind.i64.wrap ((bb : Int) + 60) = ((bb + 60 : Nat) : Int) := by rw [wrap_i64 (by omega) (by omega)]; omega
    rw [Nat.zero_mul, Nat.add_zero]
    by_cases hF : 65536 < bb + 60
    · have g4 : ((65536 : Int) < ((bb + 60 : Nat) : Int)) = True := eq_true (by omega)
      rw [if_pos hF]
      refine sound_go (tb := []) 29 [.tmp 4] [0, 1, 4, 5, 17] mixed Tryz.func59 rfl (by kernel_rfl) (by kernel_rfl) (by kernel_rfl) (by kernel_rfl) ?_
      repeat (first | (simp -implicitDefEqProofs only [go_sem, Nat.reduceAdd, Nat.reduceMul, Nat.reduceEqDiff, Nat.reduceLT, Nat.reduceLeDiff, Nat.reduceSub, Nat.reduceBEq, reduceIte, reduceCtorEq, Int.reduceEq, Int.reduceNe, Nat.reduceBneDiff, Int.reduceLE, Int.reduceLT, Int.reduceToNat, Int.reduceAdd, Int.reduceSub, Int.reduceMul, Int.reduceNeg, g1, g2, w1, c1, w2, w3, w4, g4, List.length_map]) | ((with_reducible refine gcall_eq (hv) ?_ ?_ ?_); (with_reducible rfl); rfl) | ((with_reducible refine gcall_eq (hsz) ?_ ?_ ?_); (with_reducible rfl); rfl) | (with_reducible exact drawQ_true _ _ (by kernel_rfl)) | (with_reducible refine And.intro (drawQ_true _ _ (by kernel_rfl)) ?_))
    · have g4 : ((65536 : Int) < ((bb + 60 : Nat) : Int)) = False := eq_false (by omega)
      rw [if_neg hF]
      refine sound_go (tb := []) 29 [.tmp 4] [0, 1, 4, 5, 17] mixed Tryz.func59 rfl (by kernel_rfl) (by kernel_rfl) (by kernel_rfl) (by kernel_rfl) ?_
      repeat (first | (simp -implicitDefEqProofs only [go_sem, Nat.reduceAdd, Nat.reduceMul, Nat.reduceEqDiff, Nat.reduceLT, Nat.reduceLeDiff, Nat.reduceSub, Nat.reduceBEq, reduceIte, reduceCtorEq, Int.reduceEq, Int.reduceNe, Nat.reduceBneDiff, Int.reduceLE, Int.reduceLT, Int.reduceToNat, Int.reduceAdd, Int.reduceSub, Int.reduceMul, Int.reduceNeg, g1, g2, w1, c1, w2, w3, w4, g4, List.length_map]) | ((with_reducible refine gcall_eq (hv) ?_ ?_ ?_); (with_reducible rfl); rfl) | ((with_reducible refine gcall_eq (hsz) ?_ ?_ ?_); (with_reducible rfl); rfl) | (with_reducible exact drawQ_true _ _ (by kernel_rfl)) | (with_reducible refine And.intro (drawQ_true _ _ (by kernel_rfl)) ?_))
/-- Whether some halvings show that a form is at least 0. -/
def nonnegB (f : List Int) : Bool := f.all fun x => decide (0 ≤ x)
def shownF (n : Nat) : Nat → List Int → Bool
  | 0, f => nonnegB f
  | d + 1, f => nonnegB f || (shownF n d (leftH f n) && shownF n d (rightH f n))
def pairI (x : Int) : Bool × ByteArray := (decide (x < 0), mB x)
theorem pairI_wA (xs : List Int) : (xs.map pairI).map wA = xs.map wPV := by rw [List.map_map]; rfl
theorem wnum_pairI (x : Int) : wnum (pairI x).1 (pairI x).2 = x := wnum_magL x
theorem shown1_v (x : Int) (hx : x.natAbs < 2 ^ 65536) : SoundAt Tryz.prog 103 [.agg [.bool (decide (x < 0)), .str (mB x)]] (.bool (decide (x < 0))) := by
  have h := wSign_i hx
  by_cases h0 : x < 0
  · have g1 : (x.sign < 0) = True := eq_true (by rw [Int.sign_eq_neg_one_of_neg h0]; decide)
    simp only [h0, decide_true]
    simp only [h0, decide_true, wPV] at h
    refine sound_go (tb := []) 6 [.tmp 2] [0, 1, 2] mixed Tryz.func103 rfl (by kernel_rfl) (by kernel_rfl) (by kernel_rfl) (by kernel_rfl) ?_
    repeat (first | (simp -implicitDefEqProofs only [go_sem, Nat.reduceAdd, Nat.reduceMul, Nat.reduceEqDiff, Nat.reduceLT, Nat.reduceLeDiff, Nat.reduceSub, Nat.reduceBEq, reduceIte, reduceCtorEq, Int.reduceEq, Int.reduceNe, Nat.reduceBneDiff, Int.reduceLE, Int.reduceLT, Int.reduceToNat, Int.reduceAdd, Int.reduceSub, Int.reduceMul, Int.reduceNeg, g1]) | ((with_reducible refine gcall_eq (h) ?_ ?_ ?_); (with_reducible rfl); rfl) | (with_reducible exact drawQ_true _ _ (by kernel_rfl)) | (with_reducible refine And.intro (drawQ_true _ _ (by kernel_rfl)) ?_))
  · have g1 : (x.sign < 0) = False := eq_false (by intro h; exact h0 (Int.sign_neg_iff.1 h))
    simp only [h0, decide_false]
    simp only [h0, decide_false, wPV] at h
    refine sound_go (tb := []) 6 [.tmp 2] [0, 1, 2] mixed Tryz.func103 rfl (by kernel_rfl) (by kernel_rfl) (by kernel_rfl) (by kernel_rfl) ?_
    repeat (first | (simp -implicitDefEqProofs only [go_sem, Nat.reduceAdd, Nat.reduceMul, Nat.reduceEqDiff, Nat.reduceLT, Nat.reduceLeDiff, Nat.reduceSub, Nat.reduceBEq, reduceIte, reduceCtorEq, Int.reduceEq, Int.reduceNe, Nat.reduceBneDiff, Int.reduceLE, Int.reduceLT, Int.reduceToNat, Int.reduceAdd, Int.reduceSub, Int.reduceMul, Int.reduceNeg, g1]) | ((with_reducible refine gcall_eq (h) ?_ ?_ ?_); (with_reducible rfl); rfl) | (with_reducible exact drawQ_true _ _ (by kernel_rfl)) | (with_reducible refine And.intro (drawQ_true _ _ (by kernel_rfl)) ?_))
theorem containsS_v (f : List Int) (hl : f.length ≤ 1000000) (hf : ∀ x ∈ f, x.natAbs < 2 ^ 65536) : SoundAt Tryz.prog 76 [.slc (f.map wPV), .fn 103 [] []] (.bool (!nonnegB f)) := by
  have h := contains_v (f.map pairI) (by simpa using hl) 103 (fun q => decide (wnum q.1 q.2 < 0)) (fun q hq => by
    obtain ⟨x, hx, rfl⟩ := List.mem_map.1 hq
    have := shown1_v x (hf x hx)
    simp only [wnum_pairI]
    exact this)
  rw [pairI_wA] at h
  have e : (f.map pairI).any (fun q => decide (wnum q.1 q.2 < 0)) = !nonnegB f := by
    unfold nonnegB
    rw [List.any_map, List.not_all_eq_any_not]
    congr 1
    funext x
    simp only [Function.comp_apply, wnum_pairI]
    by_cases hx : x < 0
    · rw [decide_eq_true hx, decide_eq_false (by omega)]; rfl
    · rw [decide_eq_false hx, decide_eq_true (by omega)]; rfl
  rwa [e] at h
theorem shown_v (n : Nat) (hn : n ≤ 24) : ∀ (d : Nat) (f : List Int) (B : Nat), f.length = n + 1 → bd B f → B + 60 * d + 60 ≤ 60000 → SoundAt Tryz.prog 67 [wL f, .int .i64 (d : Int)] (.bool (shownF n d f)) := by
  intro d
  induction d with
  | zero =>
    intro f B hl hf hB
    have hc := containsS_v f (by omega) fun x hx => p2_16 (hf x hx) (by omega)
    have z0 : (((0 : Nat) : Int) == 0) = true := rfl
    rw [shownF]
    cases hb : nonnegB f with
    | true =>
      rw [hb] at hc
      refine sound_go (tb := []) 27 [.tmp 4] [0, 1, 4, 5, 6, 9, 11] mixed Tryz.func67 rfl (by kernel_rfl) (by kernel_rfl) (by kernel_rfl) (by kernel_rfl) ?_
      repeat (first | (simp -implicitDefEqProofs only [go_sem, Nat.reduceAdd, Nat.reduceMul, Nat.reduceEqDiff, Nat.reduceLT, Nat.reduceLeDiff, Nat.reduceSub, Nat.reduceBEq, reduceIte, reduceCtorEq, Int.reduceEq, Int.reduceNe, Nat.reduceBneDiff, Int.reduceLE, Int.reduceLT, Int.reduceToNat, Int.reduceAdd, Int.reduceSub, Int.reduceMul, Int.reduceNeg, wL, z0]) | ((with_reducible refine gcall_eq (hc) ?_ ?_ ?_); (with_reducible rfl); rfl) | (with_reducible exact drawQ_true _ _ (by kernel_rfl)) | (with_reducible refine And.intro (drawQ_true _ _ (by kernel_rfl)) ?_))
    | false =>
      rw [hb] at hc
      refine sound_go (tb := []) 27 [.tmp 4] [0, 1, 4, 5, 6, 9, 11] mixed Tryz.func67 rfl (by kernel_rfl) (by kernel_rfl) (by kernel_rfl) (by kernel_rfl) ?_
      repeat (first | (simp -implicitDefEqProofs only [go_sem, Nat.reduceAdd, Nat.reduceMul, Nat.reduceEqDiff, Nat.reduceLT, Nat.reduceLeDiff, Nat.reduceSub, Nat.reduceBEq, reduceIte, reduceCtorEq, Int.reduceEq, Int.reduceNe, Nat.reduceBneDiff, Int.reduceLE, Int.reduceLT, Int.reduceToNat, Int.reduceAdd, Int.reduceSub, Int.reduceMul, Int.reduceNeg, wL, z0]) | ((with_reducible refine gcall_eq (hc) ?_ ?_ ?_); (with_reducible rfl); rfl) | (with_reducible exact drawQ_true _ _ (by kernel_rfl)) | (with_reducible refine And.intro (drawQ_true _ _ (by kernel_rfl)) ?_))
  | succ d ih =>
    intro f B hl hf hB
    have hc := containsS_v f (by omega) fun x hx => p2_16 (hf x hx) (by omega)
    have z0 : (((d + 1 : Nat) : Int) == 0) = false := by simp only [beq_eq_false_iff_ne, ne_eq]; omega
    have w1 : IntKind.i64.wrap (((d + 1 : Nat) : Int) - 1) = (d : Int) := by rw [wrap_i64 (by omega) (by omega)]; omega
    rw [shownF]
    cases hb : nonnegB f with
    | true =>
      rw [hb] at hc
      refine sound_go (tb := []) 27 [.tmp 4] [0, 1, 4, 5, 6, 9, 11] mixed Tryz.func67 rfl (by kernel_rfl) (by kernel_rfl) (by kernel_rfl) (by kernel_rfl) ?_
      repeat (first | (simp -implicitDefEqProofs only [go_sem, Nat.reduceAdd, Nat.reduceMul, Nat.reduceEqDiff, Nat.reduceLT, Nat.reduceLeDiff, Nat.reduceSub, Nat.reduceBEq, reduceIte, reduceCtorEq, Int.reduceEq, Int.reduceNe, Nat.reduceBneDiff, Int.reduceLE, Int.reduceLT, Int.reduceToNat, Int.reduceAdd, Int.reduceSub, Int.reduceMul, Int.reduceNeg, wL, z0]) | ((with_reducible refine gcall_eq (hc) ?_ ?_ ?_); (with_reducible rfl); rfl) | (with_reducible exact drawQ_true _ _ (by kernel_rfl)) | (with_reducible refine And.intro (drawQ_true _ _ (by kernel_rfl)) ?_))
    | false =>
      rw [hb] at hc
      have hh := halves_v f n B hn hl (by omega) hf
      have i1 := ih (leftH f n) (B + 29 + n) (leftH_length f n) (bd_leftH hn hf) (by omega)
      have i2 := ih (rightH f n) (B + 29 + n) (rightH_length f n) (bd_rightH hn hf) (by omega)
      clear ih
      rw [Bool.false_or]
      generalize leftH f n = L at *
      generalize rightH f n = R at *
      unfold wL at *
      cases hL : shownF n d L with
      | false =>
        rw [hL] at i1
        refine sound_go (tb := []) 27 [.tmp 4] [0, 1, 4, 5, 6, 9, 11] mixed Tryz.func67 rfl (by kernel_rfl) (by kernel_rfl) (by kernel_rfl) (by kernel_rfl) ?_
        repeat (first | (simp -implicitDefEqProofs only [go_sem, Nat.reduceAdd, Nat.reduceMul, Nat.reduceEqDiff, Nat.reduceLT, Nat.reduceLeDiff, Nat.reduceSub, Nat.reduceBEq, reduceIte, reduceCtorEq, Int.reduceEq, Int.reduceNe, Nat.reduceBneDiff, Int.reduceLE, Int.reduceLT, Int.reduceToNat, Int.reduceAdd, Int.reduceSub, Int.reduceMul, Int.reduceNeg, z0, w1]) | ((with_reducible refine gcall_eq (hc) ?_ ?_ ?_); (with_reducible rfl); rfl) | ((with_reducible refine gcall_eq (hh) ?_ ?_ ?_); (with_reducible rfl); rfl) | ((with_reducible refine gcall_eq (i1) ?_ ?_ ?_); (with_reducible rfl); rfl) | ((with_reducible refine gcall_eq (i2) ?_ ?_ ?_); (with_reducible rfl); rfl) | (with_reducible exact drawQ_true _ _ (by kernel_rfl)) | (with_reducible refine And.intro (drawQ_true _ _ (by kernel_rfl)) ?_))
      | true =>
        rw [hL] at i1
        generalize shownF n d R = r at *
        refine sound_go (tb := []) 27 [.tmp 4] [0, 1, 4, 5, 6, 9, 11] mixed Tryz.func67 rfl (by kernel_rfl) (by kernel_rfl) (by kernel_rfl) (by kernel_rfl) ?_
        repeat (first | (simp -implicitDefEqProofs only [go_sem, Nat.reduceAdd, Nat.reduceMul, Nat.reduceEqDiff, Nat.reduceLT, Nat.reduceLeDiff, Nat.reduceSub, Nat.reduceBEq, reduceIte, reduceCtorEq, Int.reduceEq, Int.reduceNe, Nat.reduceBneDiff, Int.reduceLE, Int.reduceLT, Int.reduceToNat, Int.reduceAdd, Int.reduceSub, Int.reduceMul, Int.reduceNeg, z0, w1]) | ((with_reducible refine gcall_eq (hc) ?_ ?_ ?_); (with_reducible rfl); rfl) | ((with_reducible refine gcall_eq (hh) ?_ ?_ ?_); (with_reducible rfl); rfl) | ((with_reducible refine gcall_eq (i1) ?_ ?_ ?_); (with_reducible rfl); rfl) | ((with_reducible refine gcall_eq (i2) ?_ ?_ ?_); (with_reducible rfl); rfl) | (with_reducible exact drawQ_true _ _ (by kernel_rfl)) | (with_reducible refine And.intro (drawQ_true _ _ (by kernel_rfl)) ?_))
theorem rShown_v (n : Nat) (hn : n ≤ 24) : ∀ (d : Nat) (f : List Int) (B : Nat), f.length = n + 1 → bd B f → B + 60 * d + 60 ≤ 4000 → SoundAt Tryz.prog 68 [rL f, .int .i64 (d : Int)] (.bool (shownF n d f)) := by
  intro d
  induction d with
  | zero =>
    intro f B hl hf hB
    have z0 : (((0 : Nat) : Int) == 0) = true := rfl
    rw [shownF]
    refine sound_go (tb := []) 45 [.tmp 4] [0, 1, 4, 5, 6, 7, 8, 12, 28] mixed Tryz.func68 rfl (by kernel_rfl) (by kernel_rfl) (by kernel_rfl) (by kernel_rfl) ?_
    simp -implicitDefEqProofs only [go_sem, Nat.reduceAdd, Nat.reduceMul, Nat.reduceEqDiff, Nat.reduceLT, Nat.reduceLeDiff, Nat.reduceSub, Nat.reduceBEq, reduceIte, reduceCtorEq, Int.reduceEq, Int.reduceNe, Nat.reduceBneDiff, Int.reduceLE, Int.reduceLT, Int.reduceToNat, Int.reduceAdd, Int.reduceSub, Int.reduceMul, Int.reduceNeg]
    refine g_loop mixed (fun i : { i : Nat // i ≤ f.length } => St.of [(0, rL f), (1, .int .i64 ((0 : Nat) : Int)), (5, .bool (nonnegB (f.take i.1))), (6, .int .i64 (i.1 : Int))] []) (fun i => f.length - i.1) ⟨0, Nat.zero_le _⟩ ?_ ?_
    · exact le_vars (by simp [varsLe, lkp, ren1, ren0, rL, nonnegB])
    · rintro ⟨i, hi⟩
      by_cases hA : i < f.length
      · have hA' := ltT hA
        have h0 := nnT i
        have hg := rI_get f i hA
        have hwk := wrap_add1 (a := i) (by omega)
        have hrs := rsign_v f[i]
        have e2 : nonnegB (f.take (i + 1)) = (nonnegB (f.take i) && decide (0 ≤ f[i])) := by unfold nonnegB; rw [take_snoc f i hA, List.all_append, List.all_cons, List.all_nil, Bool.and_true]
        simp only
        by_cases hp : 0 ≤ f[i]
        · have g1 : (0 ≤ f[i].sign) = True := eq_true (Int.sign_nonneg_iff.2 hp)
          rw [decide_eq_true hp, Bool.and_true] at e2
          cases hb : nonnegB (f.take i) with
          | true =>
            rw [hb] at e2
            repeat (first | (simp -implicitDefEqProofs only [go_sem, Nat.reduceAdd, Nat.reduceMul, Nat.reduceEqDiff, Nat.reduceLT, Nat.reduceLeDiff, Nat.reduceSub, Nat.reduceBEq, reduceIte, reduceCtorEq, Int.reduceEq, Int.reduceNe, Nat.reduceBneDiff, Int.reduceLE, Int.reduceLT, Int.reduceToNat, Int.reduceAdd, Int.reduceSub, Int.reduceMul, Int.reduceNeg, rL, rI, di, hA', h0, hg, hwk, g1, List.length_map, Int.toNat_natCast]) | ((with_reducible refine gcall_eq (hrs) ?_ ?_ ?_); (with_reducible rfl); rfl) | (with_reducible exact drawQ_true _ _ (by kernel_rfl)) | (with_reducible refine And.intro (drawQ_true _ _ (by kernel_rfl)) ?_))
            refine ⟨⟨i + 1, hA⟩, by simp only; omega, le_vars ?_⟩
            simp only [e2]
            simp [varsLe, lkp, ren1, ren0, rL]
          | false =>
            rw [hb] at e2
            repeat (first | (simp -implicitDefEqProofs only [go_sem, Nat.reduceAdd, Nat.reduceMul, Nat.reduceEqDiff, Nat.reduceLT, Nat.reduceLeDiff, Nat.reduceSub, Nat.reduceBEq, reduceIte, reduceCtorEq, Int.reduceEq, Int.reduceNe, Nat.reduceBneDiff, Int.reduceLE, Int.reduceLT, Int.reduceToNat, Int.reduceAdd, Int.reduceSub, Int.reduceMul, Int.reduceNeg, rL, rI, di, hA', h0, hg, hwk, g1, List.length_map, Int.toNat_natCast]) | ((with_reducible refine gcall_eq (hrs) ?_ ?_ ?_); (with_reducible rfl); rfl) | (with_reducible exact drawQ_true _ _ (by kernel_rfl)) | (with_reducible refine And.intro (drawQ_true _ _ (by kernel_rfl)) ?_))
            refine ⟨⟨i + 1, hA⟩, by simp only; omega, le_vars ?_⟩
            simp only [e2]
            simp [varsLe, lkp, ren1, ren0, rL]
        · have g1 : (0 ≤ f[i].sign) = False := eq_false (fun h => hp (Int.sign_nonneg_iff.1 h))
          rw [decide_eq_false hp, Bool.and_false] at e2
          cases hb : nonnegB (f.take i) with
          | true =>
            repeat (first | (simp -implicitDefEqProofs only [go_sem, Nat.reduceAdd, Nat.reduceMul, Nat.reduceEqDiff, Nat.reduceLT, Nat.reduceLeDiff, Nat.reduceSub, Nat.reduceBEq, reduceIte, reduceCtorEq, Int.reduceEq, Int.reduceNe, Nat.reduceBneDiff, Int.reduceLE, Int.reduceLT, Int.reduceToNat, Int.reduceAdd, Int.reduceSub, Int.reduceMul, Int.reduceNeg, rL, rI, di, hA', h0, hg, hwk, g1, List.length_map, Int.toNat_natCast]) | ((with_reducible refine gcall_eq (hrs) ?_ ?_ ?_); (with_reducible rfl); rfl) | (with_reducible exact drawQ_true _ _ (by kernel_rfl)) | (with_reducible refine And.intro (drawQ_true _ _ (by kernel_rfl)) ?_))
            refine ⟨⟨i + 1, hA⟩, by simp only; omega, le_vars ?_⟩
            simp only [e2]
            simp [varsLe, lkp, ren1, ren0, rL]
          | false =>
            repeat (first | (simp -implicitDefEqProofs only [go_sem, Nat.reduceAdd, Nat.reduceMul, Nat.reduceEqDiff, Nat.reduceLT, Nat.reduceLeDiff, Nat.reduceSub, Nat.reduceBEq, reduceIte, reduceCtorEq, Int.reduceEq, Int.reduceNe, Nat.reduceBneDiff, Int.reduceLE, Int.reduceLT, Int.reduceToNat, Int.reduceAdd, Int.reduceSub, Int.reduceMul, Int.reduceNeg, rL, rI, di, hA', h0, hg, hwk, g1, List.length_map, Int.toNat_natCast]) | ((with_reducible refine gcall_eq (hrs) ?_ ?_ ?_); (with_reducible rfl); rfl) | (with_reducible exact drawQ_true _ _ (by kernel_rfl)) | (with_reducible refine And.intro (drawQ_true _ _ (by kernel_rfl)) ?_))
            refine ⟨⟨i + 1, hA⟩, by simp only; omega, le_vars ?_⟩
            simp only [e2]
            simp [varsLe, lkp, ren1, ren0, rL]
      · have hA' := ltF hA
        have e : f.take i = f := List.take_of_length_le (by omega)
        simp only [e]
        cases hb : nonnegB f with
        | true => repeat (first | (simp -implicitDefEqProofs only [go_sem, Nat.reduceAdd, Nat.reduceMul, Nat.reduceEqDiff, Nat.reduceLT, Nat.reduceLeDiff, Nat.reduceSub, Nat.reduceBEq, reduceIte, reduceCtorEq, Int.reduceEq, Int.reduceNe, Nat.reduceBneDiff, Int.reduceLE, Int.reduceLT, Int.reduceToNat, Int.reduceAdd, Int.reduceSub, Int.reduceMul, Int.reduceNeg, rL, hA', z0, List.length_map]) | (with_reducible exact drawQ_true _ _ (by kernel_rfl)) | (with_reducible refine And.intro (drawQ_true _ _ (by kernel_rfl)) ?_))
        | false => repeat (first | (simp -implicitDefEqProofs only [go_sem, Nat.reduceAdd, Nat.reduceMul, Nat.reduceEqDiff, Nat.reduceLT, Nat.reduceLeDiff, Nat.reduceSub, Nat.reduceBEq, reduceIte, reduceCtorEq, Int.reduceEq, Int.reduceNe, Nat.reduceBneDiff, Int.reduceLE, Int.reduceLT, Int.reduceToNat, Int.reduceAdd, Int.reduceSub, Int.reduceMul, Int.reduceNeg, rL, hA', z0, List.length_map]) | (with_reducible exact drawQ_true _ _ (by kernel_rfl)) | (with_reducible refine And.intro (drawQ_true _ _ (by kernel_rfl)) ?_))
  | succ d ih =>
    intro f B hl hf hB
    have z0 : (((d + 1 : Nat) : Int) == 0) = false := by simp only [beq_eq_false_iff_ne, ne_eq]; omega
    have w1 : IntKind.i64.wrap (((d + 1 : Nat) : Int) - 1) = (d : Int) := by rw [wrap_i64 (by omega) (by omega)]; omega
    rw [shownF]
    have hh := rHalves_v f n B hn hl (by omega) hf
    have i1 := ih (leftH f n) (B + 29 + n) (leftH_length f n) (bd_leftH hn hf) (by omega)
    have i2 := ih (rightH f n) (B + 29 + n) (rightH_length f n) (bd_rightH hn hf) (by omega)
    clear ih
    generalize leftH f n = L at *
    generalize rightH f n = R at *
    refine sound_go (tb := []) 45 [.tmp 4] [0, 1, 4, 5, 6, 7, 8, 12, 28] mixed Tryz.func68 rfl (by kernel_rfl) (by kernel_rfl) (by kernel_rfl) (by kernel_rfl) ?_
    simp -implicitDefEqProofs only [go_sem, Nat.reduceAdd, Nat.reduceMul, Nat.reduceEqDiff, Nat.reduceLT, Nat.reduceLeDiff, Nat.reduceSub, Nat.reduceBEq, reduceIte, reduceCtorEq, Int.reduceEq, Int.reduceNe, Nat.reduceBneDiff, Int.reduceLE, Int.reduceLT, Int.reduceToNat, Int.reduceAdd, Int.reduceSub, Int.reduceMul, Int.reduceNeg]
    refine g_loop mixed (fun i : { i : Nat // i ≤ f.length } => St.of [(0, rL f), (1, .int .i64 ((d + 1 : Nat) : Int)), (5, .bool (nonnegB (f.take i.1))), (6, .int .i64 (i.1 : Int))] []) (fun i => f.length - i.1) ⟨0, Nat.zero_le _⟩ ?_ ?_
    · exact le_vars (by simp [varsLe, lkp, ren1, ren0, rL, nonnegB])
    · rintro ⟨i, hi⟩
      by_cases hA : i < f.length
      · have hA' := ltT hA
        have h0 := nnT i
        have hg := rI_get f i hA
        have hwk := wrap_add1 (a := i) (by omega)
        have hrs := rsign_v f[i]
        have e2 : nonnegB (f.take (i + 1)) = (nonnegB (f.take i) && decide (0 ≤ f[i])) := by unfold nonnegB; rw [take_snoc f i hA, List.all_append, List.all_cons, List.all_nil, Bool.and_true]
        simp only
        by_cases hp : 0 ≤ f[i]
        · have g1 : (0 ≤ f[i].sign) = True := eq_true (Int.sign_nonneg_iff.2 hp)
          rw [decide_eq_true hp, Bool.and_true] at e2
          cases hb : nonnegB (f.take i) with
          | true =>
            rw [hb] at e2
            repeat (first | (simp -implicitDefEqProofs only [go_sem, Nat.reduceAdd, Nat.reduceMul, Nat.reduceEqDiff, Nat.reduceLT, Nat.reduceLeDiff, Nat.reduceSub, Nat.reduceBEq, reduceIte, reduceCtorEq, Int.reduceEq, Int.reduceNe, Nat.reduceBneDiff, Int.reduceLE, Int.reduceLT, Int.reduceToNat, Int.reduceAdd, Int.reduceSub, Int.reduceMul, Int.reduceNeg, rL, rI, di, hA', h0, hg, hwk, g1, List.length_map, Int.toNat_natCast]) | ((with_reducible refine gcall_eq (hrs) ?_ ?_ ?_); (with_reducible rfl); rfl) | (with_reducible exact drawQ_true _ _ (by kernel_rfl)) | (with_reducible refine And.intro (drawQ_true _ _ (by kernel_rfl)) ?_))
            refine ⟨⟨i + 1, hA⟩, by simp only; omega, le_vars ?_⟩
            simp only [e2]
            simp [varsLe, lkp, ren1, ren0, rL]
          | false =>
            rw [hb] at e2
            repeat (first | (simp -implicitDefEqProofs only [go_sem, Nat.reduceAdd, Nat.reduceMul, Nat.reduceEqDiff, Nat.reduceLT, Nat.reduceLeDiff, Nat.reduceSub, Nat.reduceBEq, reduceIte, reduceCtorEq, Int.reduceEq, Int.reduceNe, Nat.reduceBneDiff, Int.reduceLE, Int.reduceLT, Int.reduceToNat, Int.reduceAdd, Int.reduceSub, Int.reduceMul, Int.reduceNeg, rL, rI, di, hA', h0, hg, hwk, g1, List.length_map, Int.toNat_natCast]) | ((with_reducible refine gcall_eq (hrs) ?_ ?_ ?_); (with_reducible rfl); rfl) | (with_reducible exact drawQ_true _ _ (by kernel_rfl)) | (with_reducible refine And.intro (drawQ_true _ _ (by kernel_rfl)) ?_))
            refine ⟨⟨i + 1, hA⟩, by simp only; omega, le_vars ?_⟩
            simp only [e2]
            simp [varsLe, lkp, ren1, ren0, rL]
        · have g1 : (0 ≤ f[i].sign) = False := eq_false (fun h => hp (Int.sign_nonneg_iff.1 h))
          rw [decide_eq_false hp, Bool.and_false] at e2
          cases hb : nonnegB (f.take i) with
          | true =>
            repeat (first | (simp -implicitDefEqProofs only [go_sem, Nat.reduceAdd, Nat.reduceMul, Nat.reduceEqDiff, Nat.reduceLT, Nat.reduceLeDiff, Nat.reduceSub, Nat.reduceBEq, reduceIte, reduceCtorEq, Int.reduceEq, Int.reduceNe, Nat.reduceBneDiff, Int.reduceLE, Int.reduceLT, Int.reduceToNat, Int.reduceAdd, Int.reduceSub, Int.reduceMul, Int.reduceNeg, rL, rI, di, hA', h0, hg, hwk, g1, List.length_map, Int.toNat_natCast]) | ((with_reducible refine gcall_eq (hrs) ?_ ?_ ?_); (with_reducible rfl); rfl) | (with_reducible exact drawQ_true _ _ (by kernel_rfl)) | (with_reducible refine And.intro (drawQ_true _ _ (by kernel_rfl)) ?_))
            refine ⟨⟨i + 1, hA⟩, by simp only; omega, le_vars ?_⟩
            simp only [e2]
            simp [varsLe, lkp, ren1, ren0, rL]
          | false =>
            repeat (first | (simp -implicitDefEqProofs only [go_sem, Nat.reduceAdd, Nat.reduceMul, Nat.reduceEqDiff, Nat.reduceLT, Nat.reduceLeDiff, Nat.reduceSub, Nat.reduceBEq, reduceIte, reduceCtorEq, Int.reduceEq, Int.reduceNe, Nat.reduceBneDiff, Int.reduceLE, Int.reduceLT, Int.reduceToNat, Int.reduceAdd, Int.reduceSub, Int.reduceMul, Int.reduceNeg, rL, rI, di, hA', h0, hg, hwk, g1, List.length_map, Int.toNat_natCast]) | ((with_reducible refine gcall_eq (hrs) ?_ ?_ ?_); (with_reducible rfl); rfl) | (with_reducible exact drawQ_true _ _ (by kernel_rfl)) | (with_reducible refine And.intro (drawQ_true _ _ (by kernel_rfl)) ?_))
            refine ⟨⟨i + 1, hA⟩, by simp only; omega, le_vars ?_⟩
            simp only [e2]
            simp [varsLe, lkp, ren1, ren0, rL]
      · have hA' := ltF hA
        have e : f.take i = f := List.take_of_length_le (by omega)
        simp only [e]
        unfold rL at *
        cases hb : nonnegB f with
        | true => repeat (first | (simp -implicitDefEqProofs only [go_sem, Nat.reduceAdd, Nat.reduceMul, Nat.reduceEqDiff, Nat.reduceLT, Nat.reduceLeDiff, Nat.reduceSub, Nat.reduceBEq, reduceIte, reduceCtorEq, Int.reduceEq, Int.reduceNe, Nat.reduceBneDiff, Int.reduceLE, Int.reduceLT, Int.reduceToNat, Int.reduceAdd, Int.reduceSub, Int.reduceMul, Int.reduceNeg, hA', z0, List.length_map]) | (with_reducible exact drawQ_true _ _ (by kernel_rfl)) | (with_reducible refine And.intro (drawQ_true _ _ (by kernel_rfl)) ?_))
        | false =>
          rw [Bool.false_or]
          cases hL : shownF n d L with
          | false =>
            rw [hL] at i1
            repeat (first | (simp -implicitDefEqProofs only [go_sem, Nat.reduceAdd, Nat.reduceMul, Nat.reduceEqDiff, Nat.reduceLT, Nat.reduceLeDiff, Nat.reduceSub, Nat.reduceBEq, reduceIte, reduceCtorEq, Int.reduceEq, Int.reduceNe, Nat.reduceBneDiff, Int.reduceLE, Int.reduceLT, Int.reduceToNat, Int.reduceAdd, Int.reduceSub, Int.reduceMul, Int.reduceNeg, hA', z0, w1, List.length_map]) | ((with_reducible refine gcall_eq (hh) ?_ ?_ ?_); (with_reducible rfl); rfl) | ((with_reducible refine gcall_eq (i1) ?_ ?_ ?_); (with_reducible rfl); rfl) | ((with_reducible refine gcall_eq (i2) ?_ ?_ ?_); (with_reducible rfl); rfl) | (with_reducible exact drawQ_true _ _ (by kernel_rfl)) | (with_reducible refine And.intro (drawQ_true _ _ (by kernel_rfl)) ?_))
          | true =>
            rw [hL] at i1
            generalize shownF n d R = r at *
            repeat (first | (simp -implicitDefEqProofs only [go_sem, Nat.reduceAdd, Nat.reduceMul, Nat.reduceEqDiff, Nat.reduceLT, Nat.reduceLeDiff, Nat.reduceSub, Nat.reduceBEq, reduceIte, reduceCtorEq, Int.reduceEq, Int.reduceNe, Nat.reduceBneDiff, Int.reduceLE, Int.reduceLT, Int.reduceToNat, Int.reduceAdd, Int.reduceSub, Int.reduceMul, Int.reduceNeg, hA', z0, w1, List.length_map]) | ((with_reducible refine gcall_eq (hh) ?_ ?_ ?_); (with_reducible rfl); rfl) | ((with_reducible refine gcall_eq (i1) ?_ ?_ ?_); (with_reducible rfl); rfl) | ((with_reducible refine gcall_eq (i2) ?_ ?_ ?_); (with_reducible rfl); rfl) | (with_reducible exact drawQ_true _ _ (by kernel_rfl)) | (with_reducible refine And.intro (drawQ_true _ _ (by kernel_rfl)) ?_))
end Go.Proofs.YtnpclmmmngmdkaaGreat

namespace Go.Proofs.YtnpclmmmngmdkaaGreat
open Go.Vl Go.RowKit Go.Dg

/-- The pieces behind some halvings. -/
def twoF (n : Nat) (f : List Int) : List (List Int) := [leftH f n, rightH f n]
def pcs (n : Nat) (f0 : List Int) : Nat → List (List Int)
  | 0 => [f0]
  | i + 1 => (pcs n f0 i).flatMap (twoF n)
theorem flat2_length (n : Nat) : ∀ fs : List (List Int), (fs.flatMap (twoF n)).length = 2 * fs.length
  | [] => rfl
  | f :: fs => by rw [List.flatMap_cons, List.length_append, flat2_length n fs, List.length_cons, Nat.mul_succ, Nat.add_comm]; rfl
theorem pcs_length (n : Nat) (f0 : List Int) : ∀ i, (pcs n f0 i).length = 2 ^ i
  | 0 => rfl
  | i + 1 => by rw [pcs, flat2_length, pcs_length n f0 i, Nat.pow_succ, Nat.mul_comm]
theorem pcs_ok {n B : Nat} {f0 : List Int} (hn : n ≤ 24) (h1 : f0.length = n + 1) (h2 : bd B f0) : ∀ i, ∀ f ∈ pcs n f0 i, f.length = n + 1 ∧ bd (B + 60 * i) f
  | 0, f, hf => by rw [pcs, List.mem_singleton] at hf; subst hf; exact ⟨h1, h2⟩
  | i + 1, f, hf => by
    rw [pcs] at hf
    obtain ⟨g, hg1, hg2⟩ := List.mem_flatMap.1 hf
    obtain ⟨a1, a2⟩ := pcs_ok hn h1 h2 i g hg1
    simp only [twoF, List.mem_cons, List.not_mem_nil, or_false] at hg2
    rcases hg2 with rfl | rfl
    · exact ⟨leftH_length _ _, bd_mono (bd_leftH hn a2) (by omega)⟩
    · exact ⟨rightH_length _ _, bd_mono (bd_rightH hn a2) (by omega)⟩
theorem flat2_snoc (n : Nat) (fs : List (List Int)) (i : Nat) (h : i < fs.length) : (fs.take (i + 1)).flatMap (twoF n) = (fs.take i).flatMap (twoF n) ++ [leftH fs[i] n, rightH fs[i] n] := by
  rw [take_snoc fs i h, List.flatMap_append, List.flatMap_singleton]; rfl
theorem wL_okf (fs : List (List Int)) : (((fs.map wL).flatMap PV.cells).all PV.okCell) = true := by
  rw [List.all_eq_true]
  intro v hv
  obtain ⟨p, hp, hq⟩ := List.mem_flatMap.1 hv
  obtain ⟨f, _, rfl⟩ := List.mem_map.1 hp
  simp only [wL, PV.cells, List.mem_singleton] at hq
  subst hq; rfl
theorem Enclose_arg (l : List (Bool × ByteArray)) (d : Int) (hl : l.length ≤ 100000) (hs : ∀ p ∈ l, p.2.size ≤ 100000) (h : polyB l = false ∨ d < 0 ∨ 8 < d) :
    SoundAt Tryz.prog 22 [.slc (l.map wA), .int .i64 d] (.tup [.agg [.bool false, .str ⟨#[]⟩, .bool false, .str ⟨#[]⟩], .agg [.bool false, .str ⟨#[]⟩, .bool false, .str ⟨#[]⟩], .int .i64 2]) := by
  have hc := check_arg l d hl hs h
  have z2 : ((2 : Int) != 0) = true := rfl
  refine sound_go (tb := []) 83 [.cell 4 32, .cell 5 32, .tmp 6] [0, 1, 4, 5, 6, 7, 8, 9, 10, 12, 13, 14, 15, 17, 22, 34, 35, 36, 37, 38, 39, 40] mixed Tryz.func22 rfl (by kernel_rfl) (by kernel_rfl) (by kernel_rfl) (by kernel_rfl) ?_
  repeat (first | (simp -implicitDefEqProofs only [go_sem, Nat.reduceAdd, Nat.reduceMul, Nat.reduceEqDiff, Nat.reduceLT, Nat.reduceLeDiff, Nat.reduceSub, Nat.reduceBEq, reduceIte, reduceCtorEq, Int.reduceEq, Int.reduceNe, Nat.reduceBneDiff, Int.reduceLE, Int.reduceLT, Int.reduceToNat, Int.reduceAdd, Int.reduceSub, Int.reduceMul, Int.reduceNeg, z2]) | ((with_reducible refine gcall_eq (hc) ?_ ?_ ?_); (with_reducible rfl); rfl) | (with_reducible exact drawQ_true _ _ (by kernel_rfl)) | (with_reducible refine And.intro (drawQ_true _ _ (by kernel_rfl)) ?_))
theorem Enclose_full (l : List (Bool × ByteArray)) (n d : Nat) (hs : ∀ p ∈ l, p.2.size ≤ 100000) (hp : polyB l = true) (hn : n = l.length - 1) (hd : d ≤ 8) (hx : ∀ x ∈ l.map wnP, x.natAbs < 2 ^ 65536)
    (hF : 65536 < bitsF blen (l.map wnP) + n * d + 60) : SoundAt Tryz.prog 22 [.slc (l.map wA), .int .i64 (d : Int)] (.tup [.agg [.bool false, .str ⟨#[]⟩, .bool false, .str ⟨#[]⟩], .agg [.bool false, .str ⟨#[]⟩, .bool false, .str ⟨#[]⟩], .int .i64 7]) := by
  have hc := check_v l n d hs hp hn hd hx
  rw [if_pos hF] at hc
  have z2 : ((7 : Int) != 0) = true := rfl
  refine sound_go (tb := []) 83 [.cell 4 32, .cell 5 32, .tmp 6] [0, 1, 4, 5, 6, 7, 8, 9, 10, 12, 13, 14, 15, 17, 22, 34, 35, 36, 37, 38, 39, 40] mixed Tryz.func22 rfl (by kernel_rfl) (by kernel_rfl) (by kernel_rfl) (by kernel_rfl) ?_
  repeat (first | (simp -implicitDefEqProofs only [go_sem, Nat.reduceAdd, Nat.reduceMul, Nat.reduceEqDiff, Nat.reduceLT, Nat.reduceLeDiff, Nat.reduceSub, Nat.reduceBEq, reduceIte, reduceCtorEq, Int.reduceEq, Int.reduceNe, Nat.reduceBneDiff, Int.reduceLE, Int.reduceLT, Int.reduceToNat, Int.reduceAdd, Int.reduceSub, Int.reduceMul, Int.reduceNeg, z2]) | ((with_reducible refine gcall_eq (hc) ?_ ?_ ?_); (with_reducible rfl); rfl) | (with_reducible exact drawQ_true _ _ (by kernel_rfl)) | (with_reducible refine And.intro (drawQ_true _ _ (by kernel_rfl)) ?_))
/-- The bounds behind some halvings. -/
def encQ (g : Bool) (n d : Nat) (f0 : List Int) : Int × Int := (lowN (bestF g ((pcs n f0 d).flatMap coefs)).1 ((bestF g ((pcs n f0 d).flatMap coefs)).2 * 2 ^ (n * d)), lowD (bestF g ((pcs n f0 d).flatMap coefs)).1 ((bestF g ((pcs n f0 d).flatMap coefs)).2 * 2 ^ (n * d)))
theorem flat_ok {n B d : Nat} {f0 : List Int} (hn : n ≤ 24) (h1 : f0.length = n + 1) (h2 : bd B f0) : ∀ r ∈ (pcs n f0 d).flatMap coefs, r.1.natAbs < 2 ^ (B + 60 * d) ∧ r.2.natAbs < 2 ^ 25 ∧ 0 < r.2 := by
  intro r hr
  obtain ⟨f, hf1, hf2⟩ := List.mem_flatMap.1 hr
  obtain ⟨a1, a2⟩ := pcs_ok hn h1 h2 d f hf1
  exact coefs_ok (by omega) a2 r hf2
theorem flat_ne {n d : Nat} {f0 : List Int} (h1 : f0.length = n + 1) (hok : ∀ f ∈ pcs n f0 d, f.length = n + 1) : (pcs n f0 d).flatMap coefs ≠ [] := by
  intro e
  have hp := pcs_length n f0 d
  have h0 : 0 < (pcs n f0 d).length := by rw [hp]; exact Nat.pow_pos (by decide)
  have h2 := List.flatMap_eq_nil_iff.1 e (pcs n f0 d)[0] (List.getElem_mem h0)
  have h3 := coefs_length (pcs n f0 d)[0]
  rw [h2, hok _ (List.getElem_mem h0)] at h3
  cases h3
theorem pow2_small {k : Nat} (h : k ≤ 200) : ((2 : Int) ^ k).natAbs < 2 ^ 201 := by
  rw [Int.natAbs_pow]; exact Nat.pow_lt_pow_right (by decide) (by omega)
set_option maxHeartbeats 4000000 in
theorem Enclose_v (l : List (Bool × ByteArray)) (n d B : Nat) (hs : ∀ p ∈ l, p.2.size ≤ 100000) (hp : polyB l = true) (hn : n = l.length - 1) (hd : d ≤ 8) (hx : ∀ x ∈ l.map wnP, x.natAbs < 2 ^ B) (hB : B ≤ 50000) :
    SoundAt Tryz.prog 22 [.slc (l.map wA), .int .i64 (d : Int)] (.tup [ratPV (encQ false n d (trans (l.map wnP) 1 n)).1 (encQ false n d (trans (l.map wnP) 1 n)).2, ratPV (encQ true n d (trans (l.map wnP) 1 n)).1 (encQ true n d (trans (l.map wnP) 1 n)).2, .int .i64 0]) := by
  obtain ⟨hval, h25⟩ := polyB_of hp
  have hc := check_v l n d hs hp hn hd fun x hx' => p2_16 (hx x hx') (by omega)
  have hnd : n * d ≤ 24 * 8 := Nat.mul_le_mul (by omega) hd
  have hle : bitsF blen (l.map wnP) ≤ B := bitsF_le fun x hx' => p2_blen (hx x hx')
  rw [if_neg (by omega)] at hc
  have hxl : (l.map wnP).length = l.length := List.length_map _
  rw [wA_wPV hval] at hc ⊢
  rw [← hxl] at h25 hn
  clear hval hp hs
  generalize l.map wnP = xs at *
  have hn24 : n ≤ 24 := by omega
  have hof := of_v xs n B hn24 (by omega) (by omega) hx
  have hT1 := trans_length xs 1 n
  have hT2 : bd (B + 29) (trans xs 1 n) := bd_trans rfl hn24 hx
  generalize trans xs 1 n = T at *
  have z0 : ((0 : Int) != 0) = false := rfl
  have hok := fun i => pcs_ok hn24 hT1 hT2 i
  have hfo := flat_ok (d := d) hn24 hT1 hT2
  have hne := flat_ne (d := d) hT1 fun f hf => (hok d f hf).1
  have l1 := least_v (pcs n T d) false n (B + 29 + 60 * d) hn24 (by rw [pcs_length]; exact Nat.le_trans (Nat.pow_le_pow_right (by decide) hd) (by decide)) (hok d) (by omega)
  have l2 := least_v (pcs n T d) true n (B + 29 + 60 * d) hn24 (by rw [pcs_length]; exact Nat.le_trans (Nat.pow_le_pow_right (by decide) hd) (by decide)) (hok d) (by omega)
  have k1 := okR_best (g := false) hfo
  have k2 := okR_best (g := true) hfo
  have q1 := best_pos (g := false) (fun r hr => (hfo r hr).2.2) hne
  have q2 := best_pos (g := true) (fun r hr => (hfo r hr).2.2) hne
  have hone := wOf_v 1 (by decide) (by decide)
  have o1 : (1 : Int).natAbs < 2 ^ 65536 := p2_16 (B := 1) (by decide) (by decide)
  have w2 : IntKind.i64.wrap ((n : Int) * (d : Int)) = ((n * d : Nat) : Int) := by rw [← Int.natCast_mul]; exact wrapn (by omega)
  have hsh := wShift_i (x := 1) ((n * d : Nat) : Int) o1 (by omega) (by omega)
  have hpw := pow2_small (k := n * d) (by omega)
  have hpp : 0 < (2 : Int) ^ (n * d) := Int.pow_pos (by decide)
  have esh : shiftI 1 ((n * d : Nat) : Int) = 2 ^ (n * d) := by unfold shiftI; rw [if_pos (by omega), Int.toNat_natCast, Int.one_mul]
  rw [esh, outPV_ok (p2_16 hpw (by decide))] at hsh
  have m1 := wMulRatio_i (a := (bestF false ((pcs n T d).flatMap coefs)).1) (b := (bestF false ((pcs n T d).flatMap coefs)).2) (c := 1) (d := 2 ^ (n * d)) (p2_16 k1.1 (by omega)) (p2_16 k1.2.1 (by decide)) o1 (p2_16 hpw (by decide)) q1 hpp
  have m2 := wMulRatio_i (a := (bestF true ((pcs n T d).flatMap coefs)).1) (b := (bestF true ((pcs n T d).flatMap coefs)).2) (c := 1) (d := 2 ^ (n * d)) (p2_16 k2.1 (by omega)) (p2_16 k2.2.1 (by decide)) o1 (p2_16 hpw (by decide)) q2 hpp
  rw [Int.mul_one] at m1 m2
  have small : ∀ b : Int × Int, okR (B + 29 + 60 * d) b → 0 < b.2 → big (lowN b.1 (b.2 * 2 ^ (n * d))) (lowD b.1 (b.2 * 2 ^ (n * d))) = false := by
    intro b hb h0
    have hy : 0 < b.2 * 2 ^ (n * d) := Int.mul_pos h0 hpp
    have ha := low_abs (x := b.1) hy
    have hd2 : (b.2 * 2 ^ (n * d)).natAbs < 2 ^ 226 := by
      rw [Int.natAbs_mul, show 226 = 25 + 201 from rfl, Nat.pow_add]
      exact Nat.mul_lt_mul'' hb.2.1 hpw
    exact big_small (Nat.lt_of_le_of_lt ha.1 (p2_16 hb.1 (by omega))) (Nat.lt_of_le_of_lt ha.2 (p2_16 hd2 (by decide)))
  rw [outQ_f (small _ k1 q1)] at m1
  rw [outQ_f (small _ k2 q2)] at m2
  have hR1 : ratPV (encQ false n d T).1 (encQ false n d T).2 = ratPV (lowN (bestF false ((pcs n T d).flatMap coefs)).1 ((bestF false ((pcs n T d).flatMap coefs)).2 * 2 ^ (n * d))) (lowD (bestF false ((pcs n T d).flatMap coefs)).1 ((bestF false ((pcs n T d).flatMap coefs)).2 * 2 ^ (n * d))) := rfl
  have hR2 : ratPV (encQ true n d T).1 (encQ true n d T).2 = ratPV (lowN (bestF true ((pcs n T d).flatMap coefs)).1 ((bestF true ((pcs n T d).flatMap coefs)).2 * 2 ^ (n * d))) (lowD (bestF true ((pcs n T d).flatMap coefs)).1 ((bestF true ((pcs n T d).flatMap coefs)).2 * 2 ^ (n * d))) := rfl
  rw [hR1, hR2]
  unfold rats at l1 l2
  clear hR1 hR2 small hfo hne k1 k2 q1 q2 esh hpp o1
  generalize bestF false ((pcs n T d).flatMap coefs) = b1 at *
  generalize bestF true ((pcs n T d).flatMap coefs) = b2 at *
  generalize hK : (2 : Int) ^ (n * d) = K at *
  generalize lowN b1.1 (b1.2 * K) = x1 at *
  generalize lowD b1.1 (b1.2 * K) = y1 at *
  generalize lowN b2.1 (b2.2 * K) = x2 at *
  generalize lowD b2.1 (b2.2 * K) = y2 at *
  obtain ⟨m, w1, c1, hm⟩ : ∃ m : Int, IntKind.i64.wrap ((xs.length : Int) - 1) = m ∧ ((0 : Int) < m) = (1 < xs.length) ∧ m = (xs.length : Int) - 1 := ⟨_, wrap_i64 (by omega) (by omega), by simp only [eq_iff_iff]; omega, rfl⟩
  unfold wL at hof
  by_cases h1 : 1 < xs.length
  · have c2 : ((0 : Int) < (n : Int)) = True := eq_true (by omega)
    have w3 : IntKind.i64.wrap ((xs.length : Int) - 1) = (n : Int) := by rw [wrap_i64 (by omega) (by omega)]; omega
    refine sound_go (tb := []) 83 [.cell 4 32, .cell 5 32, .tmp 6] [0, 1, 4, 5, 6, 7, 8, 9, 10, 12, 13, 14, 15, 17, 22, 34, 35, 36, 37, 38, 39, 40] mixed Tryz.func22 rfl (by kernel_rfl) (by kernel_rfl) (by kernel_rfl) (by kernel_rfl) ?_
    repeat (first | (simp -implicitDefEqProofs only [go_sem, Nat.reduceAdd, Nat.reduceMul, Nat.reduceEqDiff, Nat.reduceLT, Nat.reduceLeDiff, Nat.reduceSub, Nat.reduceBEq, reduceIte, reduceCtorEq, Int.reduceEq, Int.reduceNe, Nat.reduceBneDiff, Int.reduceLE, Int.reduceLT, Int.reduceToNat, Int.reduceAdd, Int.reduceSub, Int.reduceMul, Int.reduceNeg, z0, w3, c2, List.length_map, wL]) | ((with_reducible refine gcall_eq (hc) ?_ ?_ ?_); (with_reducible rfl); rfl) | ((with_reducible refine gcall_eq (hof) ?_ ?_ ?_); (with_reducible rfl); rfl) | (with_reducible exact drawQ_true _ _ (by kernel_rfl)) | (with_reducible refine And.intro (drawQ_true _ _ (by kernel_rfl)) ?_))
    refine g_loop mixed (fun i : { i : Nat // i ≤ d } => St.of [(1, .int .i64 (d : Int)), (4, .bp 0 4 0 0), (5, .bp 1 4 0 0), (8, .int .i64 (n : Int)), (9, .slc ((pcs n T i.1).map wL)), (34, .int .i64 (d : Int)), (35, .int .i64 (i.1 : Int))]
      [(0, { els := [rats false []], esz := 4, ety := 32, fro := 0, live := true, arr := false }), (1, { els := [rats false []], esz := 4, ety := 32, fro := 0, live := true, arr := false })]) (fun i => d - i.1) ⟨0, Nat.zero_le _⟩ ?_ ?_
    · refine Le.trans (le_escG 9 rfl rfl rfl rfl (by simp)) (le_of (θ := [(0, 0), (1, 1)]) rfl ?_ ?_)
      · simp [varsLe, lkp, ren1, ren0, wL, pcs]
      · simp only [rats_nil]
        exact ⟨⟨rfl, rfl, rfl, rfl, rfl, .inr ⟨rfl, _, _, rfl, rfl, rfl, rfl⟩⟩, ⟨rfl, rfl, rfl, rfl, rfl, .inr ⟨rfl, _, _, rfl, rfl, rfl, rfl⟩⟩, trivial⟩
    · rintro ⟨i, hi⟩
      by_cases hI : i < d
      · have hI' := ltT hI
        have hwi := wrap_add1 (a := i) (by omega)
        have hlen := pcs_length n T i
        have hlen2 : (pcs n T i).length ≤ 256 := by rw [hlen]; exact Nat.le_trans (Nat.pow_le_pow_right (by decide) (show i ≤ 8 by omega)) (by decide)
        have hoki := hok i
        have hnext : pcs n T (i + 1) = (pcs n T i).flatMap (twoF n) := rfl
        simp only
        have hGl : (pcs n T (i + 1)).length = 2 * (pcs n T i).length := by rw [hnext, flat2_length]
        generalize hGe : pcs n T (i + 1) = G at *
        generalize hFs : pcs n T i = fs at *
        repeat (first | (simp -implicitDefEqProofs only [go_sem, Nat.reduceAdd, Nat.reduceMul, Nat.reduceEqDiff, Nat.reduceLT, Nat.reduceLeDiff, Nat.reduceSub, Nat.reduceBEq, reduceIte, reduceCtorEq, Int.reduceEq, Int.reduceNe, Nat.reduceBneDiff, Int.reduceLE, Int.reduceLT, Int.reduceToNat, Int.reduceAdd, Int.reduceSub, Int.reduceMul, Int.reduceNeg, hI', List.length_map]) | (with_reducible exact drawQ_true _ _ (by kernel_rfl)) | (with_reducible refine And.intro (drawQ_true _ _ (by kernel_rfl)) ?_))
        refine g_loop mixed (fun k : { k : Nat // k ≤ fs.length } => St.of [(1, .int .i64 (d : Int)), (4, .bp 0 4 0 0), (5, .bp 1 4 0 0), (8, .int .i64 (n : Int)), (10, .bs 7 1 0 (2 * k.1)), (34, .int .i64 (d : Int)), (35, .int .i64 (i : Int)), (37, .slc (fs.map wL)), (38, .int .i64 (fs.length : Int)), (39, .int .i64 (k.1 : Int))]
          [(0, { els := [rats false []], esz := 4, ety := 32, fro := 0, live := true, arr := false }), (1, { els := [rats false []], esz := 4, ety := 32, fro := 0, live := true, arr := false }), (7, { els := ((fs.take k.1).flatMap (twoF n)).map wL, esz := 1, ety := 78, fro := 0, live := true, arr := true })]) (fun k => fs.length - k.1) ⟨0, Nat.zero_le _⟩ ?_ ?_
        · refine le_nil1 10 7 1 78 rfl rfl rfl (by decide) [(0, 0), (1, 1), (7, 7)] rfl ?_ ?_
          · simp [varsLe, lkp, ren1, ren0, wL]
          · exact ⟨⟨rfl, rfl, rfl, rfl, rfl, .inr ⟨rfl, _, _, rfl, rfl, rfl, rfl⟩⟩, ⟨rfl, rfl, rfl, rfl, rfl, .inr ⟨rfl, _, _, rfl, rfl, rfl, rfl⟩⟩, ⟨rfl, rfl, rfl, rfl, rfl, .inl ⟨rfl, rfl⟩⟩, trivial⟩
        · rintro ⟨k, hk⟩
          have hkl : (((fs.take k).flatMap (twoF n)).map wL).length = 2 * k := by rw [List.length_map, flat2_length, List.length_take, Nat.min_eq_left hk]
          by_cases hA : k < fs.length
          · have hA' := ltT hA
            have h0 := nnT k
            have hg := wL_get fs k hA
            have hwk := wrap_add1 (a := k) (by omega)
            obtain ⟨a1, a2⟩ := hoki _ (List.getElem_mem hA)
            have hh := halves_v fs[k] n (B + 29 + 60 * i) hn24 a1 (by omega) a2
            have htk := flat2_snoc n fs k hA
            have q1 : (2 * k == 2 * k) = true := beq_self_eq_true _
            have q2 : ((2 * k + 2) * 24 ≤ 140737488355328) = True := eq_true (by omega)
            have q3 : (2 * k + 2 ≤ maxLen) = True := eq_true (by unfold maxLen; omega)
            generalize leftH fs[k] n = L at *
            generalize rightH fs[k] n = R at *
            repeat (first | (simp -implicitDefEqProofs only [go_sem, Nat.reduceAdd, Nat.reduceMul, Nat.reduceEqDiff, Nat.reduceLT, Nat.reduceLeDiff, Nat.reduceSub, Nat.reduceBEq, reduceIte, reduceCtorEq, Int.reduceEq, Int.reduceNe, Nat.reduceBneDiff, Int.reduceLE, Int.reduceLT, Int.reduceToNat, Int.reduceAdd, Int.reduceSub, Int.reduceMul, Int.reduceNeg, wL, hA', h0, hg, hwk, hkl, q1, q2, q3, wL_okf, List.length_map, Int.toNat_natCast]) | ((with_reducible refine gcall_eq (hh) ?_ ?_ ?_); (with_reducible rfl); rfl) | (with_reducible exact drawQ_true _ _ (by kernel_rfl)) | (with_reducible refine And.intro (drawQ_true _ _ (by kernel_rfl)) ?_))
            refine ⟨⟨k + 1, hA⟩, by simp only; omega, le_of (θ := [(0, 0), (1, 1), (7, 1304)]) rfl ?_ ?_⟩
            · simp [varsLe, lkp, ren1, ren0, wL]; omega
            · simp only [htk, List.map_append]
              exact ⟨⟨rfl, rfl, rfl, rfl, rfl, .inr ⟨rfl, _, _, rfl, rfl, rfl, rfl⟩⟩, ⟨rfl, rfl, rfl, rfl, rfl, .inr ⟨rfl, _, _, rfl, rfl, rfl, rfl⟩⟩, ⟨rfl, rfl, rfl, rfl, rfl, .inl ⟨rfl, rfl⟩⟩, trivial⟩
          · have hA' := ltF hA
            have e : fs.take k = fs := List.take_of_length_le (by omega)
            simp only [e, ← hnext]
            repeat (first | (simp -implicitDefEqProofs only [go_sem, Nat.reduceAdd, Nat.reduceMul, Nat.reduceEqDiff, Nat.reduceLT, Nat.reduceLeDiff, Nat.reduceSub, Nat.reduceBEq, reduceIte, reduceCtorEq, Int.reduceEq, Int.reduceNe, Nat.reduceBneDiff, Int.reduceLE, Int.reduceLT, Int.reduceToNat, Int.reduceAdd, Int.reduceSub, Int.reduceMul, Int.reduceNeg, hA', hwi]) | (with_reducible exact drawQ_true _ _ (by kernel_rfl)) | (with_reducible refine And.intro (drawQ_true _ _ (by kernel_rfl)) ?_))
            refine ⟨⟨i + 1, hI⟩, by simp only; omega, Le.trans (le_escG 9 rfl rfl rfl rfl (by simp only [List.length_map]; omega)) (le_of (θ := [(0, 0), (1, 1)]) rfl ?_ ?_)⟩
            · simp [varsLe, lkp, ren1, ren0]
              rw [hGe, List.take_of_length_le (by rw [List.length_map]; omega)]
            · exact ⟨⟨rfl, rfl, rfl, rfl, rfl, .inr ⟨rfl, _, _, rfl, rfl, rfl, rfl⟩⟩, ⟨rfl, rfl, rfl, rfl, rfl, .inr ⟨rfl, _, _, rfl, rfl, rfl, rfl⟩⟩, trivial⟩
      · have hI' := ltF hI
        obtain rfl : i = d := by omega
        simp only [rats_nil]
        repeat (first | (simp -implicitDefEqProofs only [go_sem, Nat.reduceAdd, Nat.reduceMul, Nat.reduceEqDiff, Nat.reduceLT, Nat.reduceLeDiff, Nat.reduceSub, Nat.reduceBEq, reduceIte, reduceCtorEq, Int.reduceEq, Int.reduceNe, Nat.reduceBneDiff, Int.reduceLE, Int.reduceLT, Int.reduceToNat, Int.reduceAdd, Int.reduceSub, Int.reduceMul, Int.reduceNeg, hI', w2, wPV, ratPV]) | ((with_reducible refine gcall_eq (hone) ?_ ?_ ?_); (with_reducible rfl); rfl) | ((with_reducible refine gcall_eq (hsh) ?_ ?_ ?_); (with_reducible rfl); rfl) | ((with_reducible refine gcall_eq (l1) ?_ ?_ ?_); (with_reducible rfl); rfl) | ((with_reducible refine gcall_eq (m1) ?_ ?_ ?_); (with_reducible rfl); rfl) | ((with_reducible refine gcall_eq (l2) ?_ ?_ ?_); (with_reducible rfl); rfl) | ((with_reducible refine gcall_eq (m2) ?_ ?_ ?_); (with_reducible rfl); rfl) | (with_reducible exact drawQ_true _ _ (by kernel_rfl)) | (with_reducible refine And.intro (drawQ_true _ _ (by kernel_rfl)) ?_))
  · have hn0 : n = 0 := by omega
    have c2 : ((0 : Int) < m) = False := by rw [c1]; exact eq_false h1
    have hof0 : SoundAt Tryz.prog 60 [.slc (xs.map wPV), .int .i64 0] (.slc (T.map wPV)) := by
      have := hof
      rwa [show ((n : Nat) : Int) = 0 by omega] at this
    refine sound_go (tb := []) 83 [.cell 4 32, .cell 5 32, .tmp 6] [0, 1, 4, 5, 6, 7, 8, 9, 10, 12, 13, 14, 15, 17, 22, 34, 35, 36, 37, 38, 39, 40] mixed Tryz.func22 rfl (by kernel_rfl) (by kernel_rfl) (by kernel_rfl) (by kernel_rfl) ?_
    repeat (first | (simp -implicitDefEqProofs only [go_sem, Nat.reduceAdd, Nat.reduceMul, Nat.reduceEqDiff, Nat.reduceLT, Nat.reduceLeDiff, Nat.reduceSub, Nat.reduceBEq, reduceIte, reduceCtorEq, Int.reduceEq, Int.reduceNe, Nat.reduceBneDiff, Int.reduceLE, Int.reduceLT, Int.reduceToNat, Int.reduceAdd, Int.reduceSub, Int.reduceMul, Int.reduceNeg, z0, w1, c2, List.length_map, wL]) | ((with_reducible refine gcall_eq (hc) ?_ ?_ ?_); (with_reducible rfl); rfl) | ((with_reducible refine gcall_eq (hof0) ?_ ?_ ?_); (with_reducible rfl); rfl) | (with_reducible exact drawQ_true _ _ (by kernel_rfl)) | (with_reducible refine And.intro (drawQ_true _ _ (by kernel_rfl)) ?_))
    refine g_loop mixed (fun i : { i : Nat // i ≤ d } => St.of [(1, .int .i64 (d : Int)), (4, .bp 0 4 0 0), (5, .bp 1 4 0 0), (8, .int .i64 (n : Int)), (9, .slc ((pcs n T i.1).map wL)), (34, .int .i64 (d : Int)), (35, .int .i64 (i.1 : Int))]
      [(0, { els := [rats false []], esz := 4, ety := 32, fro := 0, live := true, arr := false }), (1, { els := [rats false []], esz := 4, ety := 32, fro := 0, live := true, arr := false })]) (fun i => d - i.1) ⟨0, Nat.zero_le _⟩ ?_ ?_
    · refine Le.trans (le_escG 9 rfl rfl rfl rfl (by simp)) (le_of (θ := [(0, 0), (1, 1)]) rfl ?_ ?_)
      · simp [varsLe, lkp, ren1, ren0, wL, pcs, hn0]
      · simp only [rats_nil]
        exact ⟨⟨rfl, rfl, rfl, rfl, rfl, .inr ⟨rfl, _, _, rfl, rfl, rfl, rfl⟩⟩, ⟨rfl, rfl, rfl, rfl, rfl, .inr ⟨rfl, _, _, rfl, rfl, rfl, rfl⟩⟩, trivial⟩
    · rintro ⟨i, hi⟩
      by_cases hI : i < d
      · have hI' := ltT hI
        have hwi := wrap_add1 (a := i) (by omega)
        have hlen := pcs_length n T i
        have hlen2 : (pcs n T i).length ≤ 256 := by rw [hlen]; exact Nat.le_trans (Nat.pow_le_pow_right (by decide) (show i ≤ 8 by omega)) (by decide)
        have hoki := hok i
        have hnext : pcs n T (i + 1) = (pcs n T i).flatMap (twoF n) := rfl
        simp only
        have hGl : (pcs n T (i + 1)).length = 2 * (pcs n T i).length := by rw [hnext, flat2_length]
        generalize hGe : pcs n T (i + 1) = G at *
        generalize hFs : pcs n T i = fs at *
        repeat (first | (simp -implicitDefEqProofs only [go_sem, Nat.reduceAdd, Nat.reduceMul, Nat.reduceEqDiff, Nat.reduceLT, Nat.reduceLeDiff, Nat.reduceSub, Nat.reduceBEq, reduceIte, reduceCtorEq, Int.reduceEq, Int.reduceNe, Nat.reduceBneDiff, Int.reduceLE, Int.reduceLT, Int.reduceToNat, Int.reduceAdd, Int.reduceSub, Int.reduceMul, Int.reduceNeg, hI', List.length_map]) | (with_reducible exact drawQ_true _ _ (by kernel_rfl)) | (with_reducible refine And.intro (drawQ_true _ _ (by kernel_rfl)) ?_))
        refine g_loop mixed (fun k : { k : Nat // k ≤ fs.length } => St.of [(1, .int .i64 (d : Int)), (4, .bp 0 4 0 0), (5, .bp 1 4 0 0), (8, .int .i64 (n : Int)), (10, .bs 7 1 0 (2 * k.1)), (34, .int .i64 (d : Int)), (35, .int .i64 (i : Int)), (37, .slc (fs.map wL)), (38, .int .i64 (fs.length : Int)), (39, .int .i64 (k.1 : Int))]
          [(0, { els := [rats false []], esz := 4, ety := 32, fro := 0, live := true, arr := false }), (1, { els := [rats false []], esz := 4, ety := 32, fro := 0, live := true, arr := false }), (7, { els := ((fs.take k.1).flatMap (twoF n)).map wL, esz := 1, ety := 78, fro := 0, live := true, arr := true })]) (fun k => fs.length - k.1) ⟨0, Nat.zero_le _⟩ ?_ ?_
        · refine le_nil1 10 7 1 78 rfl rfl rfl (by decide) [(0, 0), (1, 1), (7, 7)] rfl ?_ ?_
          · simp [varsLe, lkp, ren1, ren0, wL]
          · exact ⟨⟨rfl, rfl, rfl, rfl, rfl, .inr ⟨rfl, _, _, rfl, rfl, rfl, rfl⟩⟩, ⟨rfl, rfl, rfl, rfl, rfl, .inr ⟨rfl, _, _, rfl, rfl, rfl, rfl⟩⟩, ⟨rfl, rfl, rfl, rfl, rfl, .inl ⟨rfl, rfl⟩⟩, trivial⟩
        · rintro ⟨k, hk⟩
          have hkl : (((fs.take k).flatMap (twoF n)).map wL).length = 2 * k := by rw [List.length_map, flat2_length, List.length_take, Nat.min_eq_left hk]
          by_cases hA : k < fs.length
          · have hA' := ltT hA
            have h0 := nnT k
            have hg := wL_get fs k hA
            have hwk := wrap_add1 (a := k) (by omega)
            obtain ⟨a1, a2⟩ := hoki _ (List.getElem_mem hA)
            have hh := halves_v fs[k] n (B + 29 + 60 * i) hn24 a1 (by omega) a2
            have htk := flat2_snoc n fs k hA
            have q1 : (2 * k == 2 * k) = true := beq_self_eq_true _
            have q2 : ((2 * k + 2) * 24 ≤ 140737488355328) = True := eq_true (by omega)
            have q3 : (2 * k + 2 ≤ maxLen) = True := eq_true (by unfold maxLen; omega)
            generalize leftH fs[k] n = L at *
            generalize rightH fs[k] n = R at *
            repeat (first | (simp -implicitDefEqProofs only [go_sem, Nat.reduceAdd, Nat.reduceMul, Nat.reduceEqDiff, Nat.reduceLT, Nat.reduceLeDiff, Nat.reduceSub, Nat.reduceBEq, reduceIte, reduceCtorEq, Int.reduceEq, Int.reduceNe, Nat.reduceBneDiff, Int.reduceLE, Int.reduceLT, Int.reduceToNat, Int.reduceAdd, Int.reduceSub, Int.reduceMul, Int.reduceNeg, wL, hA', h0, hg, hwk, hkl, q1, q2, q3, wL_okf, List.length_map, Int.toNat_natCast]) | ((with_reducible refine gcall_eq (hh) ?_ ?_ ?_); (with_reducible rfl); rfl) | (with_reducible exact drawQ_true _ _ (by kernel_rfl)) | (with_reducible refine And.intro (drawQ_true _ _ (by kernel_rfl)) ?_))
            refine ⟨⟨k + 1, hA⟩, by simp only; omega, le_of (θ := [(0, 0), (1, 1), (7, 1304)]) rfl ?_ ?_⟩
            · simp [varsLe, lkp, ren1, ren0, wL]; omega
            · simp only [htk, List.map_append]
              exact ⟨⟨rfl, rfl, rfl, rfl, rfl, .inr ⟨rfl, _, _, rfl, rfl, rfl, rfl⟩⟩, ⟨rfl, rfl, rfl, rfl, rfl, .inr ⟨rfl, _, _, rfl, rfl, rfl, rfl⟩⟩, ⟨rfl, rfl, rfl, rfl, rfl, .inl ⟨rfl, rfl⟩⟩, trivial⟩
          · have hA' := ltF hA
            have e : fs.take k = fs := List.take_of_length_le (by omega)
            simp only [e, ← hnext]
            repeat (first | (simp -implicitDefEqProofs only [go_sem, Nat.reduceAdd, Nat.reduceMul, Nat.reduceEqDiff, Nat.reduceLT, Nat.reduceLeDiff, Nat.reduceSub, Nat.reduceBEq, reduceIte, reduceCtorEq, Int.reduceEq, Int.reduceNe, Nat.reduceBneDiff, Int.reduceLE, Int.reduceLT, Int.reduceToNat, Int.reduceAdd, Int.reduceSub, Int.reduceMul, Int.reduceNeg, hA', hwi]) | (with_reducible exact drawQ_true _ _ (by kernel_rfl)) | (with_reducible refine And.intro (drawQ_true _ _ (by kernel_rfl)) ?_))
            refine ⟨⟨i + 1, hI⟩, by simp only; omega, Le.trans (le_escG 9 rfl rfl rfl rfl (by simp only [List.length_map]; omega)) (le_of (θ := [(0, 0), (1, 1)]) rfl ?_ ?_)⟩
            · simp [varsLe, lkp, ren1, ren0]
              rw [hGe, List.take_of_length_le (by rw [List.length_map]; omega)]
            · exact ⟨⟨rfl, rfl, rfl, rfl, rfl, .inr ⟨rfl, _, _, rfl, rfl, rfl, rfl⟩⟩, ⟨rfl, rfl, rfl, rfl, rfl, .inr ⟨rfl, _, _, rfl, rfl, rfl, rfl⟩⟩, trivial⟩
      · have hI' := ltF hI
        obtain rfl : i = d := by omega
        simp only [rats_nil]
        repeat (first | (simp -implicitDefEqProofs only [go_sem, Nat.reduceAdd, Nat.reduceMul, Nat.reduceEqDiff, Nat.reduceLT, Nat.reduceLeDiff, Nat.reduceSub, Nat.reduceBEq, reduceIte, reduceCtorEq, Int.reduceEq, Int.reduceNe, Nat.reduceBneDiff, Int.reduceLE, Int.reduceLT, Int.reduceToNat, Int.reduceAdd, Int.reduceSub, Int.reduceMul, Int.reduceNeg, hI', w2, wPV, ratPV]) | ((with_reducible refine gcall_eq (hone) ?_ ?_ ?_); (with_reducible rfl); rfl) | ((with_reducible refine gcall_eq (hsh) ?_ ?_ ?_); (with_reducible rfl); rfl) | ((with_reducible refine gcall_eq (l1) ?_ ?_ ?_); (with_reducible rfl); rfl) | ((with_reducible refine gcall_eq (m1) ?_ ?_ ?_); (with_reducible rfl); rfl) | ((with_reducible refine gcall_eq (l2) ?_ ?_ ?_); (with_reducible rfl); rfl) | ((with_reducible refine gcall_eq (m2) ?_ ?_ ?_); (with_reducible rfl); rfl) | (with_reducible exact drawQ_true _ _ (by kernel_rfl)) | (with_reducible refine And.intro (drawQ_true _ _ (by kernel_rfl)) ?_))
end Go.Proofs.YtnpclmmmngmdkaaGreat
