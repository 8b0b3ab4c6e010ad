/-
  By, FN12, FN13 (merged for the claim).
-/
import Derived.Test.YtnpclmmmngmdkaaGreatBn
import Derived.Test.YtnpclmmmngmdkaaGreatFN11
set_option linter.unusedSimpArgs false
set_option linter.unusedVariables false
namespace Go.Vl
open Go.RowKit

theorem le_esc {st : St} {t b esz off len : Nat} {B : Box} (ht : st.var t = some (.bs b esz off len)) (hB : st.box b = some B) (ha : B.arr = true) (he : B.esz = esz) (hn : off + len ≤ B.els.length) :
    Le st ((st.setBox b { B with fro := max B.fro (off + len), live := B.live && true }).setVar t (.slc ((B.els.drop off).take len))) := by
  rintro C a w ⟨ρ, im, h⟩
  obtain ⟨x, hx, hr⟩ := slc_of_bs h (h.var t _ ht) hB ha he hn
  have h1 := h.hold hx hB hn true (.inl rfl)
  refine ⟨ρ, _, h1.root, h1.nt, h1.dfr, h1.imc, ?_, h1.rho, h1.box, h1.inj⟩
  intro t' v' hv'
  simp only [St.setVar, upd] at hv'
  split at hv'
  · rename_i e
    cases hv'
    subst e
    exact .ext _ _ hr
  · exact h1.var t' v' hv'
theorem le_escG {vs : List (Nat × PV)} {bs : List (Nat × Box)} {o : List (List PV)} {y : Option (Nat × Nat)} (t : Nat) {b esz off len : Nat} {B : Box} (ht : lkp vs t = some (.bs b esz off len)) (hB : lkp bs b = some B)
    (ha : B.arr = true) (he : B.esz = esz) (hn : off + len ≤ B.els.length) :
    Le (St.ofG vs bs o y) (St.ofG ((t, .slc ((B.els.drop off).take len)) :: vs) ((b, { B with fro := max B.fro (off + len), live := B.live && true }) :: bs) o y) := le_esc (st := St.ofG vs bs o y) ht hB ha he hn
end Go.Vl

namespace Go.Proofs.YtnpclmmmngmdkaaGreat
open Go.Vl Go.RowKit Go.Dg

/-- The degree: the length less 1, at least 0. -/
theorem rDegree_v (p : List Int) (hl : p.length ≤ 1000000) : SoundAt Tryz.prog 65 [rL p] (.int .i64 ((p.length - 1 : Nat) : Int)) := by
  by_cases h1 : 1 < p.length
  · have w1 : IntKind.i64.wrap ((p.length : Int) - 1) = ((p.length - 1 : Nat) : Int) := by rw [wrap_i64 (by omega) (by omega)]; omega
    have c1 : ((0 : Int) < ((p.length - 1 : Nat) : Int)) = True := by simp only [eq_iff_iff, iff_true]; omega
    refine sound_go (tb := []) 7 [.tmp 2] [0, 2] mixed Tryz.func65 rfl (by kernel_rfl) (by kernel_rfl) (by kernel_rfl) (by kernel_rfl) ?_
    repeat (first | (simp -implicitDefEqProofs only [go_sem, Nat.reduceAdd, Nat.reduceMul, Nat.reduceEqDiff, Nat.reduceLT, Nat.reduceLeDiff, Nat.reduceSub, Nat.reduceBEq, reduceIte, reduceCtorEq, Int.reduceEq, Int.reduceNe, Nat.reduceBneDiff, Int.reduceLE, Int.reduceLT, Int.reduceToNat, Int.reduceAdd, Int.reduceSub, Int.reduceMul, Int.reduceNeg, rL, List.length_map, w1, c1]) | (with_reducible exact drawQ_true _ _ (by kernel_rfl)) | (with_reducible refine And.intro (drawQ_true _ _ (by kernel_rfl)) ?_))
  · have w1 : IntKind.i64.wrap ((p.length : Int) - 1) = (p.length : Int) - 1 := wrap_i64 (by omega) (by omega)
    have c1 : ((0 : Int) < (p.length : Int) - 1) = False := by simp only [eq_iff_iff, iff_false]; omega
    have e : ((p.length - 1 : Nat) : Int) = 0 := by omega
    rw [e]
    refine sound_go (tb := []) 7 [.tmp 2] [0, 2] mixed Tryz.func65 rfl (by kernel_rfl) (by kernel_rfl) (by kernel_rfl) (by kernel_rfl) ?_
    repeat (first | (simp -implicitDefEqProofs only [go_sem, Nat.reduceAdd, Nat.reduceMul, Nat.reduceEqDiff, Nat.reduceLT, Nat.reduceLeDiff, Nat.reduceSub, Nat.reduceBEq, reduceIte, reduceCtorEq, Int.reduceEq, Int.reduceNe, Nat.reduceBneDiff, Int.reduceLE, Int.reduceLT, Int.reduceToNat, Int.reduceAdd, Int.reduceSub, Int.reduceMul, Int.reduceNeg, rL, List.length_map, w1, c1]) | (with_reducible exact drawQ_true _ _ (by kernel_rfl)) | (with_reducible refine And.intro (drawQ_true _ _ (by kernel_rfl)) ?_))
theorem check_arg (l : List (Bool × ByteArray)) (d : Int) (hl : l.length ≤ 100000) (hs : ∀ p ∈ l, p.2.size ≤ 100000) (h : polyB l = false ∨ d < 0 ∨ 8 < d) : SoundAt Tryz.prog 59 [.slc (l.map wA), .int .i64 d] (.int .i64 2) := by
  have hv := pValid_v l hl hs
  cases hp : polyB l with
  | false =>
    rw [hp] at hv
    refine sound_go (tb := []) 29 [.tmp 4] [0, 1, 4, 5, 17] mixed Tryz.func59 rfl (by kernel_rfl) (by kernel_rfl) (by kernel_rfl) (by kernel_rfl) ?_
    repeat (first | (simp -implicitDefEqProofs only [go_sem, Nat.reduceAdd, Nat.reduceMul, Nat.reduceEqDiff, Nat.reduceLT, Nat.reduceLeDiff, Nat.reduceSub, Nat.reduceBEq, reduceIte, reduceCtorEq, Int.reduceEq, Int.reduceNe, Nat.reduceBneDiff, Int.reduceLE, Int.reduceLT, Int.reduceToNat, Int.reduceAdd, Int.reduceSub, Int.reduceMul, Int.reduceNeg]) | ((with_reducible refine gcall_eq (hv) ?_ ?_ ?_); (with_reducible rfl); rfl) | (with_reducible exact drawQ_true _ _ (by kernel_rfl)) | (with_reducible refine And.intro (drawQ_true _ _ (by kernel_rfl)) ?_))
  | true =>
    rw [hp] at hv h
    by_cases h1 : d < 0
    · have g1 : (d < 0) = True := eq_true h1
      refine sound_go (tb := []) 29 [.tmp 4] [0, 1, 4, 5, 17] mixed Tryz.func59 rfl (by kernel_rfl) (by kernel_rfl) (by kernel_rfl) (by kernel_rfl) ?_
      repeat (first | (simp -implicitDefEqProofs only [go_sem, Nat.reduceAdd, Nat.reduceMul, Nat.reduceEqDiff, Nat.reduceLT, Nat.reduceLeDiff, Nat.reduceSub, Nat.reduceBEq, reduceIte, reduceCtorEq, Int.reduceEq, Int.reduceNe, Nat.reduceBneDiff, Int.reduceLE, Int.reduceLT, Int.reduceToNat, Int.reduceAdd, Int.reduceSub, Int.reduceMul, Int.reduceNeg, g1]) | ((with_reducible refine gcall_eq (hv) ?_ ?_ ?_); (with_reducible rfl); rfl) | (with_reducible exact drawQ_true _ _ (by kernel_rfl)) | (with_reducible refine And.intro (drawQ_true _ _ (by kernel_rfl)) ?_))
    · have g1 : (d < 0) = False := eq_false h1
      have g2 : (8 < d) = True := by
        rcases h with h | h | h
        · cases h
        · exact absurd h h1
        · exact eq_true h
      refine sound_go (tb := []) 29 [.tmp 4] [0, 1, 4, 5, 17] mixed Tryz.func59 rfl (by kernel_rfl) (by kernel_rfl) (by kernel_rfl) (by kernel_rfl) ?_
      repeat (first | (simp -implicitDefEqProofs only [go_sem, Nat.reduceAdd, Nat.reduceMul, Nat.reduceEqDiff, Nat.reduceLT, Nat.reduceLeDiff, Nat.reduceSub, Nat.reduceBEq, reduceIte, reduceCtorEq, Int.reduceEq, Int.reduceNe, Nat.reduceBneDiff, Int.reduceLE, Int.reduceLT, Int.reduceToNat, Int.reduceAdd, Int.reduceSub, Int.reduceMul, Int.reduceNeg, g1, g2]) | ((with_reducible refine gcall_eq (hv) ?_ ?_ ?_); (with_reducible rfl); rfl) | (with_reducible exact drawQ_true _ _ (by kernel_rfl)) | (with_reducible refine And.intro (drawQ_true _ _ (by kernel_rfl)) ?_))
theorem polyB_of {l : List (Bool × ByteArray)} (h : polyB l = true) : validL l = true ∧ l.length ≤ 25 := by
  unfold polyB at h
  simp only [Bool.and_eq_true, decide_eq_true_eq] at h
  exact ⟨h.1, h.2.1⟩
theorem check_v (l : List (Bool × ByteArray)) (n d : Nat) (hs : ∀ p ∈ l, p.2.size ≤ 100000) (hp : polyB l = true) (hn : n = l.length - 1) (hd : d ≤ 8) (hx : ∀ x ∈ l.map wnP, x.natAbs < 2 ^ 65536) :
    SoundAt Tryz.prog 59 [.slc (l.map wA), .int .i64 (d : Int)] (.int .i64 (if 65536 < bitsF blen (l.map wnP) + n * d + 60 then 7 else 0)) := by
  obtain ⟨hval, h25⟩ := polyB_of hp
  have hv := pValid_v l (by omega) hs
  rw [hp] at hv
  rw [wA_wPV hval] at hv ⊢
  have hxl : (l.map wnP).length = l.length := List.length_map _
  rw [← hxl] at h25 hn
  generalize l.map wnP = xs at *
  have hsz := size_v xs (by omega) hx
  have hle : bitsF blen xs ≤ 65536 := bitsF_le fun x hx' => p2_blen (hx x hx')
  have g1 : ((d : Int) < 0) = False := eq_false (by omega)
  have g2 : ((8 : Int) < (d : Int)) = False := eq_false (by omega)
  have hnd : n * d ≤ 24 * 8 := Nat.mul_le_mul (by omega) hd
  generalize bitsF blen xs = bb at *
  unfold wL at hsz
  by_cases h1 : 1 < xs.length
  · have w1 : IntKind.i64.wrap ((xs.length : Int) - 1) = (n : Int) := by rw [wrap_i64 (by omega) (by omega)]; omega
    have c1 : ((0 : Int) < (n : Int)) = True := eq_true (by omega)
    have w2 : IntKind.i64.wrap ((n : Int) * (d : Int)) = ((n * d : Nat) : Int) := by rw [← Int.natCast_mul]; exact wrapn (by omega)
    have w3 : IntKind.i64.wrap ((bb : Int) + ((n * d : Nat) : Int)) = ((bb + n * d : Nat) : Int) := by rw [wrap_i64 (by omega) (by omega)]; omega
    have w4 : IntKind.i64.wrap (((bb + n * d : Nat) : Int) + 60) = ((bb + n * d + 60 : Nat) : Int) := by rw [wrap_i64 (by omega) (by omega)]; omega
    by_cases hF : 65536 < bb + n * d + 60
    · have g4 : ((65536 : Int) < ((bb + n * d + 60 : Nat) : Int)) = True := eq_true (by omega)
      rw [if_pos hF]
      refine sound_go (tb := []) 29 [.tmp 4] [0, 1, 4, 5, 17] mixed Tryz.func59 rfl (by kernel_rfl) (by kernel_rfl) (by kernel_rfl) (by kernel_rfl) ?_
      repeat (first | (simp -implicitDefEqProofs only [go_sem, Nat.reduceAdd, Nat.reduceMul, Nat.reduceEqDiff, Nat.reduceLT, Nat.reduceLeDiff, Nat.reduceSub, Nat.reduceBEq, reduceIte, reduceCtorEq, Int.reduceEq, Int.reduceNe, Nat.reduceBneDiff, Int.reduceLE, Int.reduceLT, Int.reduceToNat, Int.reduceAdd, Int.reduceSub, Int.reduceMul, Int.reduceNeg, g1, g2, w1, c1, w2, w3, w4, g4, List.length_map]) | ((with_reducible refine gcall_eq (hv) ?_ ?_ ?_); (with_reducible rfl); rfl) | ((with_reducible refine gcall_eq (hsz) ?_ ?_ ?_); (with_reducible rfl); rfl) | (with_reducible exact drawQ_true _ _ (by kernel_rfl)) | (with_reducible refine And.intro (drawQ_true _ _ (by kernel_rfl)) ?_))
    · have g4 : ((65536 : Int) < ((bb + n * d + 60 : Nat) : Int)) = False := eq_false (by omega)
      rw [if_neg hF]
      refine sound_go (tb := []) 29 [.tmp 4] [0, 1, 4, 5, 17] mixed Tryz.func59 rfl (by kernel_rfl) (by kernel_rfl) (by kernel_rfl) (by kernel_rfl) ?_
      repeat (first | (simp -implicitDefEqProofs only [go_sem, Nat.reduceAdd, Nat.reduceMul, Nat.reduceEqDiff, Nat.reduceLT, Nat.reduceLeDiff, Nat.reduceSub, Nat.reduceBEq, reduceIte, reduceCtorEq, Int.reduceEq, Int.reduceNe, Nat.reduceBneDiff, Int.reduceLE, Int.reduceLT, Int.reduceToNat, Int.reduceAdd, Int.reduceSub, Int.reduceMul, Int.reduceNeg, g1, g2, w1, c1, w2, w3, w4, g4, List.length_map]) | ((with_reducible refine gcall_eq (hv) ?_ ?_ ?_); (with_reducible rfl); rfl) | ((with_reducible refine gcall_eq (hsz) ?_ ?_ ?_); (with_reducible rfl); rfl) | (with_reducible exact drawQ_true _ _ (by kernel_rfl)) | (with_reducible refine And.intro (drawQ_true _ _ (by kernel_rfl)) ?_))
  · have w1 : IntKind.i64.wrap ((xs.length : Int) - 1) = (xs.length : Int) - 1 := wrap_i64 (by omega) (by omega)
    have c1 : ((0 : Int) < (xs.length : Int) - 1) = False := eq_false (by omega)
    obtain rfl : n = 0 := by omega
    have w2 : IntKind.i64.wrap (0 * (d : Int)) = 0 := by rw [Int.zero_mul]; rfl
    have w3 : IntKind.i64.wrap ((bb : Int) + 0) = (bb : Int) := by rw [Int.add_zero]; exact wrapn (by omega)
    have w4 : IntKind.i64.wrap ((bb : Int) + 60) = ((bb + 60 : Nat) : Int) := by rw [wrap_i64 (by omega) (by omega)]; omega
    rw [Nat.zero_mul, Nat.add_zero]
    by_cases hF : 65536 < bb + 60
    · have g4 : ((65536 : Int) < ((bb + 60 : Nat) : Int)) = True := eq_true (by omega)
      rw [if_pos hF]
      refine sound_go (tb := []) 29 [.tmp 4] [0, 1, 4, 5, 17] mixed Tryz.func59 rfl (by kernel_rfl) (by kernel_rfl) (by kernel_rfl) (by kernel_rfl) ?_
      repeat (first | (simp -implicitDefEqProofs only [go_sem, Nat.reduceAdd, Nat.reduceMul, Nat.reduceEqDiff, Nat.reduceLT, Nat.reduceLeDiff, Nat.reduceSub, Nat.reduceBEq, reduceIte, reduceCtorEq, Int.reduceEq, Int.reduceNe, Nat.reduceBneDiff, Int.reduceLE, Int.reduceLT, Int.reduceToNat, Int.reduceAdd, Int.reduceSub, Int.reduceMul, Int.reduceNeg, g1, g2, w1, c1, w2, w3, w4, g4, List.length_map]) | ((with_reducible refine gcall_eq (hv) ?_ ?_ ?_); (with_reducible rfl); rfl) | ((with_reducible refine gcall_eq (hsz) ?_ ?_ ?_); (with_reducible rfl); rfl) | (with_reducible exact drawQ_true _ _ (by kernel_rfl)) | (with_reducible refine And.intro (drawQ_true _ _ (by kernel_rfl)) ?_))
    · have g4 : ((65536 : Int) < ((bb + 60 : Nat) : Int)) = False := eq_false (by omega)
      rw [if_neg hF]
      refine sound_go (tb := []) 29 [.tmp 4] [0, 1, 4, 5, 17] mixed Tryz.func59 rfl (by kernel_rfl) (by kernel_rfl) (by kernel_rfl) (by kernel_rfl) ?_
      repeat (first | (simp -implicitDefEqProofs only [go_sem, Nat.reduceAdd, Nat.reduceMul, Nat.reduceEqDiff, Nat.reduceLT, Nat.reduceLeDiff, Nat.reduceSub, Nat.reduceBEq, reduceIte, reduceCtorEq, Int.reduceEq, Int.reduceNe, Nat.reduceBneDiff, Int.reduceLE, Int.reduceLT, Int.reduceToNat, Int.reduceAdd, Int.reduceSub, Int.reduceMul, Int.reduceNeg, g1, g2, w1, c1, w2, w3, w4, g4, List.length_map]) | ((with_reducible refine gcall_eq (hv) ?_ ?_ ?_); (with_reducible rfl); rfl) | ((with_reducible refine gcall_eq (hsz) ?_ ?_ ?_); (with_reducible rfl); rfl) | (with_reducible exact drawQ_true _ _ (by kernel_rfl)) | (with_reducible refine And.intro (drawQ_true _ _ (by kernel_rfl)) ?_))
/-- Whether some halvings show that a form is at least 0. -/
def nonnegB (f : List Int) : Bool := f.all fun x => decide (0 ≤ x)
def shownF (n : Nat) : Nat → List Int → Bool
  | 0, f => nonnegB f
  | d + 1, f => nonnegB f || (shownF n d (leftH f n) && shownF n d (rightH f n))
def pairI (x : Int) : Bool × ByteArray := (decide (x < 0), mB x)
theorem pairI_wA (xs : List Int) : (xs.map pairI).map wA = xs.map wPV := by rw [List.map_map]; rfl
theorem wnum_pairI (x : Int) : wnum (pairI x).1 (pairI x).2 = x := wnum_magL x
theorem shown1_v (x : Int) (hx : x.natAbs < 2 ^ 65536) : SoundAt Tryz.prog 103 [.agg [.bool (decide (x < 0)), .str (mB x)]] (.bool (decide (x < 0))) := by
  have h := wSign_i hx
  by_cases h0 : x < 0
  · have g1 : (x.sign < 0) = True := eq_true (by rw [Int.sign_eq_neg_one_of_neg h0]; decide)
    simp only [h0, decide_true]
    simp only [h0, decide_true, wPV] at h
    refine sound_go (tb := []) 6 [.tmp 2] [0, 1, 2] mixed Tryz.func103 rfl (by kernel_rfl) (by kernel_rfl) (by kernel_rfl) (by kernel_rfl) ?_
    repeat (first | (simp -implicitDefEqProofs only [go_sem, Nat.reduceAdd, Nat.reduceMul, Nat.reduceEqDiff, Nat.reduceLT, Nat.reduceLeDiff, Nat.reduceSub, Nat.reduceBEq, reduceIte, reduceCtorEq, Int.reduceEq, Int.reduceNe, Nat.reduceBneDiff, Int.reduceLE, Int.reduceLT, Int.reduceToNat, Int.reduceAdd, Int.reduceSub, Int.reduceMul, Int.reduceNeg, g1]) | ((with_reducible refine gcall_eq (h) ?_ ?_ ?_); (with_reducible rfl); rfl) | (with_reducible exact drawQ_true _ _ (by kernel_rfl)) | (with_reducible refine And.intro (drawQ_true _ _ (by kernel_rfl)) ?_))
  · have g1 : (x.sign < 0) = False := eq_false (by intro h; exact h0 (Int.sign_neg_iff.1 h))
    simp only [h0, decide_false]
    simp only [h0, decide_false, wPV] at h
    refine sound_go (tb := []) 6 [.tmp 2] [0, 1, 2] mixed Tryz.func103 rfl (by kernel_rfl) (by kernel_rfl) (by kernel_rfl) (by kernel_rfl) ?_
    repeat (first | (simp -implicitDefEqProofs only [go_sem, Nat.reduceAdd, Nat.reduceMul, Nat.reduceEqDiff, Nat.reduceLT, Nat.reduceLeDiff, Nat.reduceSub, Nat.reduceBEq, reduceIte, reduceCtorEq, Int.reduceEq, Int.reduceNe, Nat.reduceBneDiff, Int.reduceLE, Int.reduceLT, Int.reduceToNat, Int.reduceAdd, Int.reduceSub, Int.reduceMul, Int.reduceNeg, g1]) | ((with_reducible refine gcall_eq (h) ?_ ?_ ?_); (with_reducible rfl); rfl) | (with_reducible exact drawQ_true _ _ (by kernel_rfl)) | (with_reducible refine And.intro (drawQ_true _ _ (by kernel_rfl)) ?_))
theorem containsS_v (f : List Int) (hl : f.length ≤ 1000000) (hf : ∀ x ∈ f, x.natAbs < 2 ^ 65536) : SoundAt Tryz.prog 76 [.slc (f.map wPV), .fn 103 [] []] (.bool (!nonnegB f)) := by
  have h := contains_v (f.map pairI) (by simpa using hl) 103 (fun q => decide (wnum q.1 q.2 < 0)) (fun q hq => by
    obtain ⟨x, hx, rfl⟩ := List.mem_map.1 hq
    have := shown1_v x (hf x hx)
    simp only [wnum_pairI]
    exact this)
  rw [pairI_wA] at h
  have e : (f.map pairI).any (fun q => decide (wnum q.1 q.2 < 0)) = !nonnegB f := by
    unfold nonnegB
    rw [List.any_map, List.not_all_eq_any_not]
    congr 1
    funext x
    simp only [Function.comp_apply, wnum_pairI]
    by_cases hx : x < 0
    · rw [decide_eq_true hx, decide_eq_false (by omega)]; rfl
    · rw [decide_eq_false hx, decide_eq_true (by omega)]; rfl
  rwa [e] at h
theorem shown_v (n : Nat) (hn : n ≤ 24) : ∀ (d : Nat) (f : List Int) (B : Nat), f.length = n + 1 → bd B f → B + 60 * d + 60 ≤ 60000 → SoundAt Tryz.prog 67 [wL f, .int .i64 (d : Int)] (.bool (shownF n d f)) := by
  intro d
  induction d with
  | zero =>
    intro f B hl hf hB
    have hc := containsS_v f (by omega) fun x hx => p2_16 (hf x hx) (by omega)
    have z0 : (((0 : Nat) : Int) == 0) = true := rfl
    rw [shownF]
    cases hb : nonnegB f with
    | true =>
      rw [hb] at hc
      refine sound_go (tb := []) 27 [.tmp 4] [0, 1, 4, 5, 6, 9, 11] mixed Tryz.func67 rfl (by kernel_rfl) (by kernel_rfl) (by kernel_rfl) (by kernel_rfl) ?_
      repeat (first | (simp -implicitDefEqProofs only [go_sem, Nat.reduceAdd, Nat.reduceMul, Nat.reduceEqDiff, Nat.reduceLT, Nat.reduceLeDiff, Nat.reduceSub, Nat.reduceBEq, reduceIte, reduceCtorEq, Int.reduceEq, Int.reduceNe, Nat.reduceBneDiff, Int.reduceLE, Int.reduceLT, Int.reduceToNat, Int.reduceAdd, Int.reduceSub, Int.reduceMul, Int.reduceNeg, wL, z0]) | ((with_reducible refine gcall_eq (hc) ?_ ?_ ?_); (with_reducible rfl); rfl) | (with_reducible exact drawQ_true _ _ (by kernel_rfl)) | (with_reducible refine And.intro (drawQ_true _ _ (by kernel_rfl)) ?_))
    | false =>
      rw [hb] at hc
      refine sound_go (tb := []) 27 [.tmp 4] [0, 1, 4, 5, 6, 9, 11] mixed Tryz.func67 rfl (by kernel_rfl) (by kernel_rfl) (by kernel_rfl) (by kernel_rfl) ?_
      repeat (first | (simp -implicitDefEqProofs only [go_sem, Nat.reduceAdd, Nat.reduceMul, Nat.reduceEqDiff, Nat.reduceLT, Nat.reduceLeDiff, Nat.reduceSub, Nat.reduceBEq, reduceIte, reduceCtorEq, Int.reduceEq, Int.reduceNe, Nat.reduceBneDiff, Int.reduceLE, Int.reduceLT, Int.reduceToNat, Int.reduceAdd, Int.reduceSub, Int.reduceMul, Int.reduceNeg, wL, z0]) | ((with_reducible refine gcall_eq (hc) ?_ ?_ ?_); (with_reducible rfl); rfl) | (with_reducible exact drawQ_true _ _ (by kernel_rfl)) | (with_reducible refine And.intro (drawQ_true _ _ (by kernel_rfl)) ?_))
  | succ d ih =>
    intro f B hl hf hB
    have hc := containsS_v f (by omega) fun x hx => p2_16 (hf x hx) (by omega)
    have z0 : (((d + 1 : Nat) : Int) == 0) = false := by simp only [beq_eq_false_iff_ne, ne_eq]; omega
    have w1 : IntKind.i64.wrap (((d + 1 : Nat) : Int) - 1) = (d : Int) := by rw [wrap_i64 (by omega) (by omega)]; omega
    rw [shownF]
    cases hb : nonnegB f with
    | true =>
      rw [hb] at hc
      refine sound_go (tb := []) 27 [.tmp 4] [0, 1, 4, 5, 6, 9, 11] mixed Tryz.func67 rfl (by kernel_rfl) (by kernel_rfl) (by kernel_rfl) (by kernel_rfl) ?_
      repeat (first | (simp -implicitDefEqProofs only [go_sem, Nat.reduceAdd, Nat.reduceMul, Nat.reduceEqDiff, Nat.reduceLT, Nat.reduceLeDiff, Nat.reduceSub, Nat.reduceBEq, reduceIte, reduceCtorEq, Int.reduceEq, Int.reduceNe, Nat.reduceBneDiff, Int.reduceLE, Int.reduceLT, Int.reduceToNat, Int.reduceAdd, Int.reduceSub, Int.reduceMul, Int.reduceNeg, wL, z0]) | ((with_reducible refine gcall_eq (hc) ?_ ?_ ?_); (with_reducible rfl); rfl) | (with_reducible exact drawQ_true _ _ (by kernel_rfl)) | (with_reducible refine And.intro (drawQ_true _ _ (by kernel_rfl)) ?_))
    | false =>
      rw [hb] at hc
      have hh := halves_v f n B hn hl (by omega) hf
      have i1 := ih (leftH f n) (B + 29 + n) (leftH_length f n) (bd_leftH hn hf) (by omega)
      have i2 := ih (rightH f n) (B + 29 + n) (rightH_length f n) (bd_rightH hn hf) (by omega)
      clear ih
      rw [Bool.false_or]
      generalize leftH f n = L at *
      generalize rightH f n = R at *
      unfold wL at *
      cases hL : shownF n d L with
      | false =>
        rw [hL] at i1
        refine sound_go (tb := []) 27 [.tmp 4] [0, 1, 4, 5, 6, 9, 11] mixed Tryz.func67 rfl (by kernel_rfl) (by kernel_rfl) (by kernel_rfl) (by kernel_rfl) ?_
        repeat (first | (simp -implicitDefEqProofs only [go_sem, Nat.reduceAdd, Nat.reduceMul, Nat.reduceEqDiff, Nat.reduceLT, Nat.reduceLeDiff, Nat.reduceSub, Nat.reduceBEq, reduceIte, reduceCtorEq, Int.reduceEq, Int.reduceNe, Nat.reduceBneDiff, Int.reduceLE, Int.reduceLT, Int.reduceToNat, Int.reduceAdd, Int.reduceSub, Int.reduceMul, Int.reduceNeg, z0, w1]) | ((with_reducible refine gcall_eq (hc) ?_ ?_ ?_); (with_reducible rfl); rfl) | ((with_reducible refine gcall_eq (hh) ?_ ?_ ?_); (with_reducible rfl); rfl) | ((with_reducible refine gcall_eq (i1) ?_ ?_ ?_); (with_reducible rfl); rfl) | ((with_reducible refine gcall_eq (i2) ?_ ?_ ?_); (with_reducible rfl); rfl) | (with_reducible exact drawQ_true _ _ (by kernel_rfl)) | (with_reducible refine And.intro (drawQ_true _ _ (by kernel_rfl)) ?_))
      | true =>
        rw [hL] at i1
        generalize shownF n d R = r at *
        refine sound_go (tb := []) 27 [.tmp 4] [0, 1, 4, 5, 6, 9, 11] mixed Tryz.func67 rfl (by kernel_rfl) (by kernel_rfl) (by kernel_rfl) (by kernel_rfl) ?_
        repeat (first | (simp -implicitDefEqProofs only [go_sem, Nat.reduceAdd, Nat.reduceMul, Nat.reduceEqDiff, Nat.reduceLT, Nat.reduceLeDiff, Nat.reduceSub, Nat.reduceBEq, reduceIte, reduceCtorEq, Int.reduceEq, Int.reduceNe, Nat.reduceBneDiff, Int.reduceLE, Int.reduceLT, Int.reduceToNat, Int.reduceAdd, Int.reduceSub, Int.reduceMul, Int.reduceNeg, z0, w1]) | ((with_reducible refine gcall_eq (hc) ?_ ?_ ?_); (with_reducible rfl); rfl) | ((with_reducible refine gcall_eq (hh) ?_ ?_ ?_); (with_reducible rfl); rfl) | ((with_reducible refine gcall_eq (i1) ?_ ?_ ?_); (with_reducible rfl); rfl) | ((with_reducible refine gcall_eq (i2) ?_ ?_ ?_); (with_reducible rfl); rfl) | (with_reducible exact drawQ_true _ _ (by kernel_rfl)) | (with_reducible refine And.intro (drawQ_true _ _ (by kernel_rfl)) ?_))
theorem rShown_v (n : Nat) (hn : n ≤ 24) : ∀ (d : Nat) (f : List Int) (B : Nat), f.length = n + 1 → bd B f → B + 60 * d + 60 ≤ 4000 → SoundAt Tryz.prog 68 [rL f, .int .i64 (d : Int)] (.bool (shownF n d f)) := by
  intro d
  induction d with
  | zero =>
    intro f B hl hf hB
    have z0 : (((0 : Nat) : Int) == 0) = true := rfl
    rw [shownF]
    refine sound_go (tb := []) 45 [.tmp 4] [0, 1, 4, 5, 6, 7, 8, 12, 28] mixed Tryz.func68 rfl (by kernel_rfl) (by kernel_rfl) (by kernel_rfl) (by kernel_rfl) ?_
    simp -implicitDefEqProofs only [go_sem, Nat.reduceAdd, Nat.reduceMul, Nat.reduceEqDiff, Nat.reduceLT, Nat.reduceLeDiff, Nat.reduceSub, Nat.reduceBEq, reduceIte, reduceCtorEq, Int.reduceEq, Int.reduceNe, Nat.reduceBneDiff, Int.reduceLE, Int.reduceLT, Int.reduceToNat, Int.reduceAdd, Int.reduceSub, Int.reduceMul, Int.reduceNeg]
    refine g_loop mixed (fun i : { i : Nat // i ≤ f.length } => St.of [(0, rL f), (1, .int .i64 ((0 : Nat) : Int)), (5, .bool (nonnegB (f.take i.1))), (6, .int .i64 (i.1 : Int))] []) (fun i => f.length - i.1) ⟨0, Nat.zero_le _⟩ ?_ ?_
    · exact le_vars (by simp [varsLe, lkp, ren1, ren0, rL, nonnegB])
    · rintro ⟨i, hi⟩
      by_cases hA : i < f.length
      · have hA' := ltT hA
        have h0 := nnT i
        have hg := rI_get f i hA
        have hwk := wrap_add1 (a := i) (by omega)
        have hrs := rsign_v f[i]
        have e2 : nonnegB (f.take (i + 1)) = (nonnegB (f.take i) && decide (0 ≤ f[i])) := by unfold nonnegB; rw [take_snoc f i hA, List.all_append, List.all_cons, List.all_nil, Bool.and_true]
        simp only
        by_cases hp : 0 ≤ f[i]
        · have g1 : (0 ≤ f[i].sign) = True := eq_true (Int.sign_nonneg_iff.2 hp)
          rw [decide_eq_true hp, Bool.and_true] at e2
          cases hb : nonnegB (f.take i) with
          | true =>
            rw [hb] at e2
            repeat (first | (simp -implicitDefEqProofs only [go_sem, Nat.reduceAdd, Nat.reduceMul, Nat.reduceEqDiff, Nat.reduceLT, Nat.reduceLeDiff, Nat.reduceSub, Nat.reduceBEq, reduceIte, reduceCtorEq, Int.reduceEq, Int.reduceNe, Nat.reduceBneDiff, Int.reduceLE, Int.reduceLT, Int.reduceToNat, Int.reduceAdd, Int.reduceSub, Int.reduceMul, Int.reduceNeg, rL, rI, di, hA', h0, hg, hwk, g1, List.length_map, Int.toNat_natCast]) | ((with_reducible refine gcall_eq (hrs) ?_ ?_ ?_); (with_reducible rfl); rfl) | (with_reducible exact drawQ_true _ _ (by kernel_rfl)) | (with_reducible refine And.intro (drawQ_true _ _ (by kernel_rfl)) ?_))
            refine ⟨⟨i + 1, hA⟩, by simp only; omega, le_vars ?_⟩
            simp only [e2]
            simp [varsLe, lkp, ren1, ren0, rL]
          | false =>
            rw [hb] at e2
            repeat (first | (simp -implicitDefEqProofs only [go_sem, Nat.reduceAdd, Nat.reduceMul, Nat.reduceEqDiff, Nat.reduceLT, Nat.reduceLeDiff, Nat.reduceSub, Nat.reduceBEq, reduceIte, reduceCtorEq, Int.reduceEq, Int.reduceNe, Nat.reduceBneDiff, Int.reduceLE, Int.reduceLT, Int.reduceToNat, Int.reduceAdd, Int.reduceSub, Int.reduceMul, Int.reduceNeg, rL, rI, di, hA', h0, hg, hwk, g1, List.length_map, Int.toNat_natCast]) | ((with_reducible refine gcall_eq (hrs) ?_ ?_ ?_); (with_reducible rfl); rfl) | (with_reducible exact drawQ_true _ _ (by kernel_rfl)) | (with_reducible refine And.intro (drawQ_true _ _ (by kernel_rfl)) ?_))
            refine ⟨⟨i + 1, hA⟩, by simp only; omega, le_vars ?_⟩
            simp only [e2]
            simp [varsLe, lkp, ren1, ren0, rL]
        · have g1 : (0 ≤ f[i].sign) = False := eq_false (fun h => hp (Int.sign_nonneg_iff.1 h))
          rw [decide_eq_false hp, Bool.and_false] at e2
          cases hb : nonnegB (f.take i) with
          | true =>
            repeat (first | (simp -implicitDefEqProofs only [go_sem, Nat.reduceAdd, Nat.reduceMul, Nat.reduceEqDiff, Nat.reduceLT, Nat.reduceLeDiff, Nat.reduceSub, Nat.reduceBEq, reduceIte, reduceCtorEq, Int.reduceEq, Int.reduceNe, Nat.reduceBneDiff, Int.reduceLE, Int.reduceLT, Int.reduceToNat, Int.reduceAdd, Int.reduceSub, Int.reduceMul, Int.reduceNeg, rL, rI, di, hA', h0, hg, hwk, g1, List.length_map, Int.toNat_natCast]) | ((with_reducible refine gcall_eq (hrs) ?_ ?_ ?_); (with_reducible rfl); rfl) | (with_reducible exact drawQ_true _ _ (by kernel_rfl)) | (with_reducible refine And.intro (drawQ_true _ _ (by kernel_rfl)) ?_))
            refine ⟨⟨i + 1, hA⟩, by simp only; omega, le_vars ?_⟩
            simp only [e2]
            simp [varsLe, lkp, ren1, ren0, rL]
          | false =>
            repeat (first | (simp -implicitDefEqProofs only [go_sem, Nat.reduceAdd, Nat.reduceMul, Nat.reduceEqDiff, Nat.reduceLT, Nat.reduceLeDiff, Nat.reduceSub, Nat.reduceBEq, reduceIte, reduceCtorEq, Int.reduceEq, Int.reduceNe, Nat.reduceBneDiff, Int.reduceLE, Int.reduceLT, Int.reduceToNat, Int.reduceAdd, Int.reduceSub, Int.reduceMul, Int.reduceNeg, rL, rI, di, hA', h0, hg, hwk, g1, List.length_map, Int.toNat_natCast]) | ((with_reducible refine gcall_eq (hrs) ?_ ?_ ?_); (with_reducible rfl); rfl) | (with_reducible exact drawQ_true _ _ (by kernel_rfl)) | (with_reducible refine And.intro (drawQ_true _ _ (by kernel_rfl)) ?_))
            refine ⟨⟨i + 1, hA⟩, by simp only; omega, le_vars ?_⟩
            simp only [e2]
            simp [varsLe, lkp, ren1, ren0, rL]
      · have hA' := ltF hA
        have e : f.take i = f := List.take_of_length_le (by omega)
        simp only [e]
        cases hb : nonnegB f with
        | true => repeat (first | (simp -implicitDefEqProofs only [go_sem, Nat.reduceAdd, Nat.reduceMul, Nat.reduceEqDiff, Nat.reduceLT, Nat.reduceLeDiff, Nat.reduceSub, Nat.reduceBEq, reduceIte, reduceCtorEq, Int.reduceEq, Int.reduceNe, Nat.reduceBneDiff, Int.reduceLE, Int.reduceLT, Int.reduceToNat, Int.reduceAdd, Int.reduceSub, Int.reduceMul, Int.reduceNeg, rL, hA', z0, List.length_map]) | (with_reducible exact drawQ_true _ _ (by kernel_rfl)) | (with_reducible refine And.intro (drawQ_true _ _ (by kernel_rfl)) ?_))
        | false => repeat (first | (simp -implicitDefEqProofs only [go_sem, Nat.reduceAdd, Nat.reduceMul, Nat.reduceEqDiff, Nat.reduceLT, Nat.reduceLeDiff, Nat.reduceSub, Nat.reduceBEq, reduceIte, reduceCtorEq, Int.reduceEq, Int.reduceNe, Nat.reduceBneDiff, Int.reduceLE, Int.reduceLT, Int.reduceToNat, Int.reduceAdd, Int.reduceSub, Int.reduceMul, Int.reduceNeg, rL, hA', z0, List.length_map]) | (with_reducible exact drawQ_true _ _ (by kernel_rfl)) | (with_reducible refine And.intro (drawQ_true _ _ (by kernel_rfl)) ?_))
  | succ d ih =>
    intro f B hl hf hB
    have z0 : (((d + 1 : Nat) : Int) == 0) = false := by simp only [beq_eq_false_iff_ne, ne_eq]; omega
    have w1 : IntKind.i64.wrap (((d + 1 : Nat) : Int) - 1) = (d : Int) := by rw [wrap_i64 (by omega) (by omega)]; omega
    rw [shownF]
    have hh := rHalves_v f n B hn hl (by omega) hf
    have i1 := ih (leftH f n) (B + 29 + n) (leftH_length f n) (bd_leftH hn hf) (by omega)
    have i2 := ih (rightH f n) (B + 29 + n) (rightH_length f n) (bd_rightH hn hf) (by omega)
    clear ih
    generalize leftH f n = L at *
    generalize rightH f n = R at *
    refine sound_go (tb := []) 45 [.tmp 4] [0, 1, 4, 5, 6, 7, 8, 12, 28] mixed Tryz.func68 rfl (by kernel_rfl) (by kernel_rfl) (by kernel_rfl) (by kernel_rfl) ?_
    simp -implicitDefEqProofs only [go_sem, Nat.reduceAdd, Nat.reduceMul, Nat.reduceEqDiff, Nat.reduceLT, Nat.reduceLeDiff, Nat.reduceSub, Nat.reduceBEq, reduceIte, reduceCtorEq, Int.reduceEq, Int.reduceNe, Nat.reduceBneDiff, Int.reduceLE, Int.reduceLT, Int.reduceToNat, Int.reduceAdd, Int.reduceSub, Int.reduceMul, Int.reduceNeg]
    refine g_loop mixed (fun i : { i : Nat // i ≤ f.length } => St.of [(0, rL f), (1, .int .i64 ((d + 1 : Nat) : Int)), (5, .bool (nonnegB (f.take i.1))), (6, .int .i64 (i.1 : Int))] []) (fun i => f.length - i.1) ⟨0, Nat.zero_le _⟩ ?_ ?_
    · exact le_vars (by simp [varsLe, lkp, ren1, ren0, rL, nonnegB])
    · rintro ⟨i, hi⟩
      by_cases hA : i < f.length
      · have hA' := ltT hA
        have h0 := nnT i
        have hg := rI_get f i hA
        have hwk := wrap_add1 (a := i) (by omega)
        have hrs := rsign_v f[i]
        have e2 : nonnegB (f.take (i + 1)) = (nonnegB (f.take i) && decide (0 ≤ f[i])) := by unfold nonnegB; rw [take_snoc f i hA, List.all_append, List.all_cons, List.all_nil, Bool.and_true]
        simp only
        by_cases hp : 0 ≤ f[i]
        · have g1 : (0 ≤ f[i].sign) = True := eq_true (Int.sign_nonneg_iff.2 hp)
          rw [decide_eq_true hp, Bool.and_true] at e2
          cases hb : nonnegB (f.take i) with
          | true =>
            rw [hb] at e2
            repeat (first | (simp -implicitDefEqProofs only [go_sem, Nat.reduceAdd, Nat.reduceMul, Nat.reduceEqDiff, Nat.reduceLT, Nat.reduceLeDiff, Nat.reduceSub, Nat.reduceBEq, reduceIte, reduceCtorEq, Int.reduceEq, Int.reduceNe, Nat.reduceBneDiff, Int.reduceLE, Int.reduceLT, Int.reduceToNat, Int.reduceAdd, Int.reduceSub, Int.reduceMul, Int.reduceNeg, rL, rI, di, hA', h0, hg, hwk, g1, List.length_map, Int.toNat_natCast]) | ((with_reducible refine gcall_eq (hrs) ?_ ?_ ?_); (with_reducible rfl); rfl) | (with_reducible exact drawQ_true _ _ (by kernel_rfl)) | (with_reducible refine And.intro (drawQ_true _ _ (by kernel_rfl)) ?_))
            refine ⟨⟨i + 1, hA⟩, by simp only; omega, le_vars ?_⟩
            simp only [e2]
            simp [varsLe, lkp, ren1, ren0, rL]
          | false =>
            rw [hb] at e2
            repeat (first | (simp -implicitDefEqProofs only [go_sem, Nat.reduceAdd, Nat.reduceMul, Nat.reduceEqDiff, Nat.reduceLT, Nat.reduceLeDiff, Nat.reduceSub, Nat.reduceBEq, reduceIte, reduceCtorEq, Int.reduceEq, Int.reduceNe, Nat.reduceBneDiff, Int.reduceLE, Int.reduceLT, Int.reduceToNat, Int.reduceAdd, Int.reduceSub, Int.reduceMul, Int.reduceNeg, rL, rI, di, hA', h0, hg, hwk, g1, List.length_map, Int.toNat_natCast]) | ((with_reducible refine gcall_eq (hrs) ?_ ?_ ?_); (with_reducible rfl); rfl) | (with_reducible exact drawQ_true _ _ (by kernel_rfl)) | (with_reducible refine And.intro (drawQ_true _ _ (by kernel_rfl)) ?_))
            refine ⟨⟨i + 1, hA⟩, by simp only; omega, le_vars ?_⟩
            simp only [e2]
            simp [varsLe, lkp, ren1, ren0, rL]
        · have g1 : (0 ≤ f[i].sign) = False := eq_false (fun h => hp (Int.sign_nonneg_iff.1 h))
          rw [decide_eq_false hp, Bool.and_false] at e2
          cases hb : nonnegB (f.take i) with
          | true =>
            repeat (first | (simp -implicitDefEqProofs only [go_sem, Nat.reduceAdd, Nat.reduceMul, Nat.reduceEqDiff, Nat.reduceLT, Nat.reduceLeDiff, Nat.reduceSub, Nat.reduceBEq, reduceIte, reduceCtorEq, Int.reduceEq, Int.reduceNe, Nat.reduceBneDiff, Int.reduceLE, Int.reduceLT, Int.reduceToNat, Int.reduceAdd, Int.reduceSub, Int.reduceMul, Int.reduceNeg, rL, rI, di, hA', h0, hg, hwk, g1, List.length_map, Int.toNat_natCast]) | ((with_reducible refine gcall_eq (hrs) ?_ ?_ ?_); (with_reducible rfl); rfl) | (with_reducible exact drawQ_true _ _ (by kernel_rfl)) | (with_reducible refine And.intro (drawQ_true _ _ (by kernel_rfl)) ?_))
            refine ⟨⟨i + 1, hA⟩, by simp only; omega, le_vars ?_⟩
            simp only [e2]
            simp [varsLe, lkp, ren1, ren0, rL]
          | false =>
            repeat (first | (simp -implicitDefEqProofs only [go_sem, Nat.reduceAdd, Nat.reduceMul, Nat.reduceEqDiff, Nat.reduceLT, Nat.reduceLeDiff, Nat.reduceSub, Nat.reduceBEq, reduceIte, reduceCtorEq, Int.reduceEq, Int.reduceNe, Nat.reduceBneDiff, Int.reduceLE, Int.reduceLT, Int.reduceToNat, Int.reduceAdd, Int.reduceSub, Int.reduceMul, Int.reduceNeg, rL, rI, di, hA', h0, hg, hwk, g1, List.length_map, Int.toNat_natCast]) | ((with_reducible refine gcall_eq (hrs) ?_ ?_ ?_); (with_reducible rfl); rfl) | (with_reducible exact drawQ_true _ _ (by kernel_rfl)) | (with_reducible refine And.intro (drawQ_true _ _ (by kernel_rfl)) ?_))
            refine ⟨⟨i + 1, hA⟩, by simp only; omega, le_vars ?_⟩
            simp only [e2]
            simp [varsLe, lkp, ren1, ren0, rL]
      · have hA' := ltF hA
        have e : f.take i = f := List.take_of_length_le (by omega)
        simp only [e]
        unfold rL at *
        cases hb : nonnegB f with
        | true => repeat (first | (simp -implicitDefEqProofs only [go_sem, Nat.reduceAdd, Nat.reduceMul, Nat.reduceEqDiff, Nat.reduceLT, Nat.reduceLeDiff, Nat.reduceSub, Nat.reduceBEq, reduceIte, reduceCtorEq, Int.reduceEq, Int.reduceNe, Nat.reduceBneDiff, Int.reduceLE, Int.reduceLT, Int.reduceToNat, Int.reduceAdd, Int.reduceSub, Int.reduceMul, Int.reduceNeg, hA', z0, List.length_map]) | (with_reducible exact drawQ_true _ _ (by kernel_rfl)) | (with_reducible refine And.intro (drawQ_true _ _ (by kernel_rfl)) ?_))
        | false =>
          rw [Bool.false_or]
          cases hL : shownF n d L with
          | false =>
            rw [hL] at i1
            repeat (first | (simp -implicitDefEqProofs only [go_sem, Nat.reduceAdd, Nat.reduceMul, Nat.reduceEqDiff, Nat.reduceLT, Nat.reduceLeDiff, Nat.reduceSub, Nat.reduceBEq, reduceIte, reduceCtorEq, Int.reduceEq, Int.reduceNe, Nat.reduceBneDiff, Int.reduceLE, Int.reduceLT, Int.reduceToNat, Int.reduceAdd, Int.reduceSub, Int.reduceMul, Int.reduceNeg, hA', z0, w1, List.length_map]) | ((with_reducible refine gcall_eq (hh) ?_ ?_ ?_); (with_reducible rfl); rfl) | ((with_reducible refine gcall_eq (i1) ?_ ?_ ?_); (with_reducible rfl); rfl) | ((with_reducible refine gcall_eq (i2) ?_ ?_ ?_); (with_reducible rfl); rfl) | (with_reducible exact drawQ_true _ _ (by kernel_rfl)) | (with_reducible refine And.intro (drawQ_true _ _ (by kernel_rfl)) ?_))
          | true =>
            rw [hL] at i1
            generalize shownF n d R = r at *
            repeat (first | (simp -implicitDefEqProofs only [go_sem, Nat.reduceAdd, Nat.reduceMul, Nat.reduceEqDiff, Nat.reduceLT, Nat.reduceLeDiff, Nat.reduceSub, Nat.reduceBEq, reduceIte, reduceCtorEq, Int.reduceEq, Int.reduceNe, Nat.reduceBneDiff, Int.reduceLE, Int.reduceLT, Int.reduceToNat, Int.reduceAdd, Int.reduceSub, Int.reduceMul, Int.reduceNeg, hA', z0, w1, List.length_map]) | ((with_reducible refine gcall_eq (hh) ?_ ?_ ?_); (with_reducible rfl); rfl) | ((with_reducible refine gcall_eq (i1) ?_ ?_ ?_); (with_reducible rfl); rfl) | ((with_reducible refine gcall_eq (i2) ?_ ?_ ?_); (with_reducible rfl); rfl) | (with_reducible exact drawQ_true _ _ (by kernel_rfl)) | (with_reducible refine And.intro (drawQ_true _ _ (by kernel_rfl)) ?_))
end Go.Proofs.YtnpclmmmngmdkaaGreat

namespace Go.Proofs.YtnpclmmmngmdkaaGreat
open Go.Vl Go.RowKit Go.Dg

/-- The form of a polynomial for its own degree. -/
def ownF (l : List (Bool × ByteArray)) : List Int := trans (l.map wnP) 1 (l.length - 1)
theorem Positive_arg (l : List (Bool × ByteArray)) (d : Int) (hl : l.length ≤ 100000) (hs : ∀ p ∈ l, p.2.size ≤ 100000) (h : polyB l = false ∨ d < 0 ∨ 8 < d) : SoundAt Tryz.prog 26 [.slc (l.map wA), .int .i64 d] (.tup [.bool false, .int .i64 2]) := by
  have hc := check_arg l d hl hs h
  have z2 : ((2 : Int) != 0) = true := rfl
  refine sound_go (tb := []) 21 [.tmp 4, .tmp 5] [0, 1, 4, 5, 6, 11] mixed Tryz.func26 rfl (by kernel_rfl) (by kernel_rfl) (by kernel_rfl) (by kernel_rfl) ?_
  repeat (first | (simp -implicitDefEqProofs only [go_sem, Nat.reduceAdd, Nat.reduceMul, Nat.reduceEqDiff, Nat.reduceLT, Nat.reduceLeDiff, Nat.reduceSub, Nat.reduceBEq, reduceIte, reduceCtorEq, Int.reduceEq, Int.reduceNe, Nat.reduceBneDiff, Int.reduceLE, Int.reduceLT, Int.reduceToNat, Int.reduceAdd, Int.reduceSub, Int.reduceMul, Int.reduceNeg, z2]) | ((with_reducible refine gcall_eq (hc) ?_ ?_ ?_); (with_reducible rfl); rfl) | (with_reducible exact drawQ_true _ _ (by kernel_rfl)) | (with_reducible refine And.intro (drawQ_true _ _ (by kernel_rfl)) ?_))
theorem Positive_full (l : List (Bool × ByteArray)) (n d : Nat) (hs : ∀ p ∈ l, p.2.size ≤ 100000) (hp : polyB l = true) (hn : n = l.length - 1) (hd : d ≤ 8) (hx : ∀ x ∈ l.map wnP, x.natAbs < 2 ^ 65536)
    (hF : 65536 < bitsF blen (l.map wnP) + n * d + 60) : SoundAt Tryz.prog 26 [.slc (l.map wA), .int .i64 (d : Int)] (.tup [.bool false, .int .i64 7]) := by
  have hc := check_v l n d hs hp hn hd hx
  rw [if_pos hF] at hc
  have z2 : ((7 : Int) != 0) = true := rfl
  refine sound_go (tb := []) 21 [.tmp 4, .tmp 5] [0, 1, 4, 5, 6, 11] mixed Tryz.func26 rfl (by kernel_rfl) (by kernel_rfl) (by kernel_rfl) (by kernel_rfl) ?_
  repeat (first | (simp -implicitDefEqProofs only [go_sem, Nat.reduceAdd, Nat.reduceMul, Nat.reduceEqDiff, Nat.reduceLT, Nat.reduceLeDiff, Nat.reduceSub, Nat.reduceBEq, reduceIte, reduceCtorEq, Int.reduceEq, Int.reduceNe, Nat.reduceBneDiff, Int.reduceLE, Int.reduceLT, Int.reduceToNat, Int.reduceAdd, Int.reduceSub, Int.reduceMul, Int.reduceNeg, z2]) | ((with_reducible refine gcall_eq (hc) ?_ ?_ ?_); (with_reducible rfl); rfl) | (with_reducible exact drawQ_true _ _ (by kernel_rfl)) | (with_reducible refine And.intro (drawQ_true _ _ (by kernel_rfl)) ?_))
theorem Positive_v (l : List (Bool × ByteArray)) (d B : Nat) (hs : ∀ p ∈ l, p.2.size ≤ 100000) (hp : polyB l = true) (hd : d ≤ 8) (hx : ∀ x ∈ l.map wnP, x.natAbs < 2 ^ B) (hB : B ≤ 50000) :
    SoundAt Tryz.prog 26 [.slc (l.map wA), .int .i64 (d : Int)] (.tup [.bool (shownF (l.length - 1) d (ownF l)), .int .i64 0]) := by
  obtain ⟨hval, h25⟩ := polyB_of hp
  have hc := check_v l (l.length - 1) d hs hp rfl hd fun x hx' => p2_16 (hx x hx') (by omega)
  have hnd : (l.length - 1) * d ≤ 24 * 8 := Nat.mul_le_mul (by omega) hd
  have hle : bitsF blen (l.map wnP) ≤ B := bitsF_le fun x hx' => p2_blen (hx x hx')
  rw [if_neg (by omega)] at hc
  unfold ownF
  have hxl : (l.map wnP).length = l.length := List.length_map _
  rw [wA_wPV hval] at hc ⊢
  rw [← hxl] at h25 hnd ⊢
  clear hval hp hs
  generalize l.map wnP = xs at *
  have hof := of_v xs (xs.length - 1) B (by omega) (by omega) (by omega) hx
  have hsh := shown_v (xs.length - 1) (by omega) d (trans xs 1 (xs.length - 1)) (B + 29) (trans_length _ _ _) (bd_trans rfl (by omega) hx) (by omega)
  have z0 : ((0 : Int) != 0) = false := rfl
  obtain ⟨n, hn⟩ : ∃ n : Nat, n = xs.length - 1 := ⟨_, rfl⟩
  rw [← hn] at hof hsh ⊢
  generalize trans xs 1 n = T at *
  generalize shownF n d T = r at *
  unfold wL at *
  by_cases h1 : 1 < xs.length
  · have w1 : IntKind.i64.wrap ((xs.length : Int) - 1) = (n : Int) := by rw [wrap_i64 (by omega) (by omega)]; omega
    have c1 : ((0 : Int) < (n : Int)) = True := eq_true (by omega)
    refine sound_go (tb := []) 21 [.tmp 4, .tmp 5] [0, 1, 4, 5, 6, 11] mixed Tryz.func26 rfl (by kernel_rfl) (by kernel_rfl) (by kernel_rfl) (by kernel_rfl) ?_
    repeat (first | (simp -implicitDefEqProofs only [go_sem, Nat.reduceAdd, Nat.reduceMul, Nat.reduceEqDiff, Nat.reduceLT, Nat.reduceLeDiff, Nat.reduceSub, Nat.reduceBEq, reduceIte, reduceCtorEq, Int.reduceEq, Int.reduceNe, Nat.reduceBneDiff, Int.reduceLE, Int.reduceLT, Int.reduceToNat, Int.reduceAdd, Int.reduceSub, Int.reduceMul, Int.reduceNeg, z0, w1, c1, List.length_map]) | ((with_reducible refine gcall_eq (hc) ?_ ?_ ?_); (with_reducible rfl); rfl) | ((with_reducible refine gcall_eq (hof) ?_ ?_ ?_); (with_reducible rfl); rfl) | ((with_reducible refine gcall_eq (hsh) ?_ ?_ ?_); (with_reducible rfl); rfl) | (with_reducible exact drawQ_true _ _ (by kernel_rfl)) | (with_reducible refine And.intro (drawQ_true _ _ (by kernel_rfl)) ?_))
  · have w1 : IntKind.i64.wrap ((xs.length : Int) - 1) = (xs.length : Int) - 1 := wrap_i64 (by omega) (by omega)
    have c1 : ((0 : Int) < (xs.length : Int) - 1) = False := eq_false (by omega)
    obtain rfl : n = 0 := by omega
    refine sound_go (tb := []) 21 [.tmp 4, .tmp 5] [0, 1, 4, 5, 6, 11] mixed Tryz.func26 rfl (by kernel_rfl) (by kernel_rfl) (by kernel_rfl) (by kernel_rfl) ?_
    repeat (first | (simp -implicitDefEqProofs only [go_sem, Nat.reduceAdd, Nat.reduceMul, Nat.reduceEqDiff, Nat.reduceLT, Nat.reduceLeDiff, Nat.reduceSub, Nat.reduceBEq, reduceIte, reduceCtorEq, Int.reduceEq, Int.reduceNe, Nat.reduceBneDiff, Int.reduceLE, Int.reduceLT, Int.reduceToNat, Int.reduceAdd, Int.reduceSub, Int.reduceMul, Int.reduceNeg, z0, w1, c1, List.length_map]) | ((with_reducible refine gcall_eq (hc) ?_ ?_ ?_); (with_reducible rfl); rfl) | ((with_reducible refine gcall_eq (hof) ?_ ?_ ?_); (with_reducible rfl); rfl) | ((with_reducible refine gcall_eq (hsh) ?_ ?_ ?_); (with_reducible rfl); rfl) | (with_reducible exact drawQ_true _ _ (by kernel_rfl)) | (with_reducible refine And.intro (drawQ_true _ _ (by kernel_rfl)) ?_))
theorem rPositive_v (xs : List Int) (d B : Nat) (hl : xs.length ≤ 25) (hd : d ≤ 8) (hx : bd B xs) (hB : B ≤ 3000) : SoundAt Tryz.prog 27 [rL xs, .int .i64 (d : Int)] (.bool (shownF (xs.length - 1) d (trans xs 1 (xs.length - 1)))) := by
  have hdg := rDegree_v xs (by omega)
  have hof := rForm_v xs (xs.length - 1) B (by omega) (by omega) (by omega) hx
  have hsh := rShown_v (xs.length - 1) (by omega) d (trans xs 1 (xs.length - 1)) (B + 29) (trans_length _ _ _) (bd_trans rfl (by omega) hx) (by omega)
  generalize trans xs 1 (xs.length - 1) = T at *
  generalize shownF (xs.length - 1) d T = r at *
  generalize xs.length - 1 = n at *
  unfold rL at *
  refine sound_go (tb := []) 11 [.tmp 4] [0, 1, 4] mixed Tryz.func27 rfl (by kernel_rfl) (by kernel_rfl) (by kernel_rfl) (by kernel_rfl) ?_
  repeat (first | (simp -implicitDefEqProofs only [go_sem, Nat.reduceAdd, Nat.reduceMul, Nat.reduceEqDiff, Nat.reduceLT, Nat.reduceLeDiff, Nat.reduceSub, Nat.reduceBEq, reduceIte, reduceCtorEq, Int.reduceEq, Int.reduceNe, Nat.reduceBneDiff, Int.reduceLE, Int.reduceLT, Int.reduceToNat, Int.reduceAdd, Int.reduceSub, Int.reduceMul, Int.reduceNeg]) | ((with_reducible refine gcall_eq (hdg) ?_ ?_ ?_); (with_reducible rfl); rfl) | ((with_reducible refine gcall_eq (hof) ?_ ?_ ?_); (with_reducible rfl); rfl) | ((with_reducible refine gcall_eq (hsh) ?_ ?_ ?_); (with_reducible rfl); rfl) | (with_reducible exact drawQ_true _ _ (by kernel_rfl)) | (with_reducible refine And.intro (drawQ_true _ _ (by kernel_rfl)) ?_))
set_option maxHeartbeats 4000000 in
theorem BernsteinPositives_v (l : List (Bool × ByteArray)) (n : Int) (hl : l.length ≤ maxLen) (h1 : -9223372036854775808 ≤ n) (h2 : n ≤ 9223372036854775807) :
    SoundAt Tryz.prog 6 [.slc (l.map wA), .int .i64 n] (.bool true) := by
  have hsm := small_v l hl
  have hk := known_v
  have z0 : ((0 : Int) == 0) = true := rfl
  have z2 : ((2 : Int) == 2) = true := rfl
  cases hS : smallB l with
  | false =>
    rw [hS] at hsm
    refine sound_go (tb := []) 68 [.tmp 4] [0, 1, 4, 5, 6, 27, 45] mixed Tryz.func6 rfl (by kernel_rfl) (by kernel_rfl) (by kernel_rfl) (by kernel_rfl) ?_
    repeat (first | (simp -implicitDefEqProofs only [go_sem, Nat.reduceAdd, Nat.reduceMul, Nat.reduceEqDiff, Nat.reduceLT, Nat.reduceLeDiff, Nat.reduceSub, Nat.reduceBEq, reduceIte, reduceCtorEq, Int.reduceEq, Int.reduceNe, Nat.reduceBneDiff, Int.reduceLE, Int.reduceLT, Int.reduceToNat, Int.reduceAdd, Int.reduceSub, Int.reduceMul, Int.reduceNeg]) | ((with_reducible refine gcall_eq (hsm) ?_ ?_ ?_); (with_reducible rfl); rfl) | ((with_reducible refine gcall_eq (hk) ?_ ?_ ?_); (with_reducible rfl); rfl) | (with_reducible exact drawQ_true _ _ (by kernel_rfl)) | (with_reducible refine And.intro (drawQ_true _ _ (by kernel_rfl)) ?_))
  | true =>
    rw [hS] at hsm
    obtain ⟨hs8, hlen⟩ := smallB_of hS
    have hs : ∀ p ∈ l, p.2.size ≤ 100000 := fun p hp => Nat.le_trans (hs8 p hp) (by decide)
    have hvr := rPValid_v l (by omega)
    by_cases hL : 6 < l.length ∧ l.length ≠ 26
    · have g1 : ((6 : Int) < (l.length : Int)) = True := eq_true (by omega)
      have g2 : ((l.length : Int) != 26) = true := by simp only [bne_iff_ne, ne_eq]; omega
      refine sound_go (tb := []) 68 [.tmp 4] [0, 1, 4, 5, 6, 27, 45] mixed Tryz.func6 rfl (by kernel_rfl) (by kernel_rfl) (by kernel_rfl) (by kernel_rfl) ?_
      repeat (first | (simp -implicitDefEqProofs only [go_sem, Nat.reduceAdd, Nat.reduceMul, Nat.reduceEqDiff, Nat.reduceLT, Nat.reduceLeDiff, Nat.reduceSub, Nat.reduceBEq, reduceIte, reduceCtorEq, Int.reduceEq, Int.reduceNe, Nat.reduceBneDiff, Int.reduceLE, Int.reduceLT, Int.reduceToNat, Int.reduceAdd, Int.reduceSub, Int.reduceMul, Int.reduceNeg, g1, g2, List.length_map]) | ((with_reducible refine gcall_eq (hsm) ?_ ?_ ?_); (with_reducible rfl); rfl) | ((with_reducible refine gcall_eq (hk) ?_ ?_ ?_); (with_reducible rfl); rfl) | (with_reducible exact drawQ_true _ _ (by kernel_rfl)) | (with_reducible refine And.intro (drawQ_true _ _ (by kernel_rfl)) ?_))
    have hlen2 : ((6 : Int) < (l.length : Int)) = False ∨ ((6 : Int) < (l.length : Int)) = True ∧ ((l.length : Int) != 26) = false := by
      by_cases h6 : 6 < l.length
      · refine .inr ⟨eq_true (by omega), ?_⟩
        have : l.length = 26 := Classical.not_not.1 fun h => hL ⟨h6, h⟩
        rw [this]; rfl
      · exact .inl (eq_false (by omega))
    by_cases hmid : 5 < n ∧ n ≤ 8
    · have g1 : (5 < n) = True := eq_true hmid.1
      have g2 : (n ≤ 8) = True := eq_true hmid.2
      rcases hlen2 with q1 | ⟨q1, q2⟩
      · refine sound_go (tb := []) 68 [.tmp 4] [0, 1, 4, 5, 6, 27, 45] mixed Tryz.func6 rfl (by kernel_rfl) (by kernel_rfl) (by kernel_rfl) (by kernel_rfl) ?_
        repeat (first | (simp -implicitDefEqProofs only [go_sem, Nat.reduceAdd, Nat.reduceMul, Nat.reduceEqDiff, Nat.reduceLT, Nat.reduceLeDiff, Nat.reduceSub, Nat.reduceBEq, reduceIte, reduceCtorEq, Int.reduceEq, Int.reduceNe, Nat.reduceBneDiff, Int.reduceLE, Int.reduceLT, Int.reduceToNat, Int.reduceAdd, Int.reduceSub, Int.reduceMul, Int.reduceNeg, q1, g1, g2, List.length_map]) | ((with_reducible refine gcall_eq (hsm) ?_ ?_ ?_); (with_reducible rfl); rfl) | ((with_reducible refine gcall_eq (hk) ?_ ?_ ?_); (with_reducible rfl); rfl) | (with_reducible exact drawQ_true _ _ (by kernel_rfl)) | (with_reducible refine And.intro (drawQ_true _ _ (by kernel_rfl)) ?_))
      · refine sound_go (tb := []) 68 [.tmp 4] [0, 1, 4, 5, 6, 27, 45] mixed Tryz.func6 rfl (by kernel_rfl) (by kernel_rfl) (by kernel_rfl) (by kernel_rfl) ?_
        repeat (first | (simp -implicitDefEqProofs only [go_sem, Nat.reduceAdd, Nat.reduceMul, Nat.reduceEqDiff, Nat.reduceLT, Nat.reduceLeDiff, Nat.reduceSub, Nat.reduceBEq, reduceIte, reduceCtorEq, Int.reduceEq, Int.reduceNe, Nat.reduceBneDiff, Int.reduceLE, Int.reduceLT, Int.reduceToNat, Int.reduceAdd, Int.reduceSub, Int.reduceMul, Int.reduceNeg, q1, q2, g1, g2, List.length_map]) | ((with_reducible refine gcall_eq (hsm) ?_ ?_ ?_); (with_reducible rfl); rfl) | ((with_reducible refine gcall_eq (hk) ?_ ?_ ?_); (with_reducible rfl); rfl) | (with_reducible exact drawQ_true _ _ (by kernel_rfl)) | (with_reducible refine And.intro (drawQ_true _ _ (by kernel_rfl)) ?_))
    by_cases hbad : polyB l = false ∨ n < 0 ∨ 8 < n
    · have hF := Positive_arg l n (by omega) hs hbad
      have hn5 : (5 < n) = False ∨ (5 < n) = True ∧ (n ≤ 8) = False ∧ (n < 0) = False ∧ (8 < n) = True := by
        by_cases h5 : 5 < n
        · exact .inr ⟨eq_true h5, eq_false (fun h => hmid ⟨h5, h⟩), eq_false (by omega), eq_true (by omega)⟩
        · exact .inl (eq_false h5)
      cases hp : polyB l with
      | false =>
        rw [hp] at hvr
        rcases hlen2 with q1 | ⟨q1, q2⟩
        · rcases hn5 with g1 | ⟨g1, g2, g3, g4⟩
          · refine sound_go (tb := []) 68 [.tmp 4] [0, 1, 4, 5, 6, 27, 45] mixed Tryz.func6 rfl (by kernel_rfl) (by kernel_rfl) (by kernel_rfl) (by kernel_rfl) ?_
            repeat (first | (simp -implicitDefEqProofs only [go_sem, Nat.reduceAdd, Nat.reduceMul, Nat.reduceEqDiff, Nat.reduceLT, Nat.reduceLeDiff, Nat.reduceSub, Nat.reduceBEq, reduceIte, reduceCtorEq, Int.reduceEq, Int.reduceNe, Nat.reduceBneDiff, Int.reduceLE, Int.reduceLT, Int.reduceToNat, Int.reduceAdd, Int.reduceSub, Int.reduceMul, Int.reduceNeg, q1, g1, z2, List.length_map]) | ((with_reducible refine gcall_eq (hsm) ?_ ?_ ?_); (with_reducible rfl); rfl) | ((with_reducible refine gcall_eq (hF) ?_ ?_ ?_); (with_reducible rfl); rfl) | ((with_reducible refine gcall_eq (hvr) ?_ ?_ ?_); (with_reducible rfl); rfl) | ((with_reducible refine gcall_eq (hk) ?_ ?_ ?_); (with_reducible rfl); rfl) | (with_reducible exact drawQ_true _ _ (by kernel_rfl)) | (with_reducible refine And.intro (drawQ_true _ _ (by kernel_rfl)) ?_))
          · refine sound_go (tb := []) 68 [.tmp 4] [0, 1, 4, 5, 6, 27, 45] mixed Tryz.func6 rfl (by kernel_rfl) (by kernel_rfl) (by kernel_rfl) (by kernel_rfl) ?_
            repeat (first | (simp -implicitDefEqProofs only [go_sem, Nat.reduceAdd, Nat.reduceMul, Nat.reduceEqDiff, Nat.reduceLT, Nat.reduceLeDiff, Nat.reduceSub, Nat.reduceBEq, reduceIte, reduceCtorEq, Int.reduceEq, Int.reduceNe, Nat.reduceBneDiff, Int.reduceLE, Int.reduceLT, Int.reduceToNat, Int.reduceAdd, Int.reduceSub, Int.reduceMul, Int.reduceNeg, q1, g1, g2, z2, List.length_map]) | ((with_reducible refine gcall_eq (hsm) ?_ ?_ ?_); (with_reducible rfl); rfl) | ((with_reducible refine gcall_eq (hF) ?_ ?_ ?_); (with_reducible rfl); rfl) | ((with_reducible refine gcall_eq (hvr) ?_ ?_ ?_); (with_reducible rfl); rfl) | ((with_reducible refine gcall_eq (hk) ?_ ?_ ?_); (with_reducible rfl); rfl) | (with_reducible exact drawQ_true _ _ (by kernel_rfl)) | (with_reducible refine And.intro (drawQ_true _ _ (by kernel_rfl)) ?_))
        · rcases hn5 with g1 | ⟨g1, g2, g3, g4⟩
          · refine sound_go (tb := []) 68 [.tmp 4] [0, 1, 4, 5, 6, 27, 45] mixed Tryz.func6 rfl (by kernel_rfl) (by kernel_rfl) (by kernel_rfl) (by kernel_rfl) ?_
            repeat (first | (simp -implicitDefEqProofs only [go_sem, Nat.reduceAdd, Nat.reduceMul, Nat.reduceEqDiff, Nat.reduceLT, Nat.reduceLeDiff, Nat.reduceSub, Nat.reduceBEq, reduceIte, reduceCtorEq, Int.reduceEq, Int.reduceNe, Nat.reduceBneDiff, Int.reduceLE, Int.reduceLT, Int.reduceToNat, Int.reduceAdd, Int.reduceSub, Int.reduceMul, Int.reduceNeg, q1, q2, g1, z2, List.length_map]) | ((with_reducible refine gcall_eq (hsm) ?_ ?_ ?_); (with_reducible rfl); rfl) | ((with_reducible refine gcall_eq (hF) ?_ ?_ ?_); (with_reducible rfl); rfl) | ((with_reducible refine gcall_eq (hvr) ?_ ?_ ?_); (with_reducible rfl); rfl) | ((with_reducible refine gcall_eq (hk) ?_ ?_ ?_); (with_reducible rfl); rfl) | (with_reducible exact drawQ_true _ _ (by kernel_rfl)) | (with_reducible refine And.intro (drawQ_true _ _ (by kernel_rfl)) ?_))
          · refine sound_go (tb := []) 68 [.tmp 4] [0, 1, 4, 5, 6, 27, 45] mixed Tryz.func6 rfl (by kernel_rfl) (by kernel_rfl) (by kernel_rfl) (by kernel_rfl) ?_
            repeat (first | (simp -implicitDefEqProofs only [go_sem, Nat.reduceAdd, Nat.reduceMul, Nat.reduceEqDiff, Nat.reduceLT, Nat.reduceLeDiff, Nat.reduceSub, Nat.reduceBEq, reduceIte, reduceCtorEq, Int.reduceEq, Int.reduceNe, Nat.reduceBneDiff, Int.reduceLE, Int.reduceLT, Int.reduceToNat, Int.reduceAdd, Int.reduceSub, Int.reduceMul, Int.reduceNeg, q1, q2, g1, g2, z2, List.length_map]) | ((with_reducible refine gcall_eq (hsm) ?_ ?_ ?_); (with_reducible rfl); rfl) | ((with_reducible refine gcall_eq (hF) ?_ ?_ ?_); (with_reducible rfl); rfl) | ((with_reducible refine gcall_eq (hvr) ?_ ?_ ?_); (with_reducible rfl); rfl) | ((with_reducible refine gcall_eq (hk) ?_ ?_ ?_); (with_reducible rfl); rfl) | (with_reducible exact drawQ_true _ _ (by kernel_rfl)) | (with_reducible refine And.intro (drawQ_true _ _ (by kernel_rfl)) ?_))
      | true =>
        rw [hp] at hvr
        have q1 : ((6 : Int) < (l.length : Int)) = False := by
          rcases hlen2 with q1 | ⟨q1, q2⟩
          · exact q1
          · have := (polyB_of hp).2
            simp only [bne_eq_false_iff_eq] at q2
            omega
        rcases hn5 with g1 | ⟨g1, g2, g3, g4⟩
        · have g3 : (n < 0) = True := by
            rcases hbad with h | h | h
            · rw [hp] at h; cases h
            · exact eq_true h
            · exact absurd (show 5 < n by omega) (of_eq_false g1)
          refine sound_go (tb := []) 68 [.tmp 4] [0, 1, 4, 5, 6, 27, 45] mixed Tryz.func6 rfl (by kernel_rfl) (by kernel_rfl) (by kernel_rfl) (by kernel_rfl) ?_
          repeat (first | (simp -implicitDefEqProofs only [go_sem, Nat.reduceAdd, Nat.reduceMul, Nat.reduceEqDiff, Nat.reduceLT, Nat.reduceLeDiff, Nat.reduceSub, Nat.reduceBEq, reduceIte, reduceCtorEq, Int.reduceEq, Int.reduceNe, Nat.reduceBneDiff, Int.reduceLE, Int.reduceLT, Int.reduceToNat, Int.reduceAdd, Int.reduceSub, Int.reduceMul, Int.reduceNeg, q1, g1, g3, z2, List.length_map]) | ((with_reducible refine gcall_eq (hsm) ?_ ?_ ?_); (with_reducible rfl); rfl) | ((with_reducible refine gcall_eq (hF) ?_ ?_ ?_); (with_reducible rfl); rfl) | ((with_reducible refine gcall_eq (hvr) ?_ ?_ ?_); (with_reducible rfl); rfl) | ((with_reducible refine gcall_eq (hk) ?_ ?_ ?_); (with_reducible rfl); rfl) | (with_reducible exact drawQ_true _ _ (by kernel_rfl)) | (with_reducible refine And.intro (drawQ_true _ _ (by kernel_rfl)) ?_))
        · refine sound_go (tb := []) 68 [.tmp 4] [0, 1, 4, 5, 6, 27, 45] mixed Tryz.func6 rfl (by kernel_rfl) (by kernel_rfl) (by kernel_rfl) (by kernel_rfl) ?_
          repeat (first | (simp -implicitDefEqProofs only [go_sem, Nat.reduceAdd, Nat.reduceMul, Nat.reduceEqDiff, Nat.reduceLT, Nat.reduceLeDiff, Nat.reduceSub, Nat.reduceBEq, reduceIte, reduceCtorEq, Int.reduceEq, Int.reduceNe, Nat.reduceBneDiff, Int.reduceLE, Int.reduceLT, Int.reduceToNat, Int.reduceAdd, Int.reduceSub, Int.reduceMul, Int.reduceNeg, q1, g1, g2, g3, g4, z2, List.length_map]) | ((with_reducible refine gcall_eq (hsm) ?_ ?_ ?_); (with_reducible rfl); rfl) | ((with_reducible refine gcall_eq (hF) ?_ ?_ ?_); (with_reducible rfl); rfl) | ((with_reducible refine gcall_eq (hvr) ?_ ?_ ?_); (with_reducible rfl); rfl) | ((with_reducible refine gcall_eq (hk) ?_ ?_ ?_); (with_reducible rfl); rfl) | (with_reducible exact drawQ_true _ _ (by kernel_rfl)) | (with_reducible refine And.intro (drawQ_true _ _ (by kernel_rfl)) ?_))
    · have hp : polyB l = true := by
        cases hp : polyB l with
        | false => exact absurd (.inl hp) hbad
        | true => rfl
      rw [hp] at hvr
      obtain ⟨m, rfl⟩ : ∃ m : Nat, n = m := ⟨n.toNat, by omega⟩
      have hm : m ≤ 5 := by omega
      have h25 := (polyB_of hp).2
      have q1 : ((6 : Int) < (l.length : Int)) = False := by
        rcases hlen2 with q1 | ⟨q1, q2⟩
        · exact q1
        · simp only [bne_eq_false_iff_eq] at q2
          omega
      have g1 : ((5 : Int) < (m : Int)) = False := eq_false (by omega)
      have g3 : ((m : Int) < 0) = False := eq_false (by omega)
      have g4 : ((8 : Int) < (m : Int)) = False := eq_false (by omega)
      have hx := wnP_bound hs8
      have hF := Positive_v l m 64 hs hp (by omega) hx (by decide)
      have hfr := rPFrom_v l (by omega) fun p hp' => Nat.le_trans (hs8 p hp') (by decide)
      have hrp := rPositive_v (l.map wnP) m 64 (by simpa using h25) (by omega) hx (by decide)
      unfold ownF at hF
      rw [List.length_map] at hrp
      generalize shownF (l.length - 1) m (trans (l.map wnP) 1 (l.length - 1)) = r at *
      generalize l.map wnP = xs at *
      have br : (r == r) = true := by cases r <;> rfl
      unfold rL at *
      refine sound_go (tb := []) 68 [.tmp 4] [0, 1, 4, 5, 6, 27, 45] mixed Tryz.func6 rfl (by kernel_rfl) (by kernel_rfl) (by kernel_rfl) (by kernel_rfl) ?_
      repeat (first | (simp -implicitDefEqProofs only [go_sem, Nat.reduceAdd, Nat.reduceMul, Nat.reduceEqDiff, Nat.reduceLT, Nat.reduceLeDiff, Nat.reduceSub, Nat.reduceBEq, reduceIte, reduceCtorEq, Int.reduceEq, Int.reduceNe, Nat.reduceBneDiff, Int.reduceLE, Int.reduceLT, Int.reduceToNat, Int.reduceAdd, Int.reduceSub, Int.reduceMul, Int.reduceNeg, q1, g1, g3, g4, z0, br, List.length_map]) | ((with_reducible refine gcall_eq (hsm) ?_ ?_ ?_); (with_reducible rfl); rfl) | ((with_reducible refine gcall_eq (hF) ?_ ?_ ?_); (with_reducible rfl); rfl) | ((with_reducible refine gcall_eq (hvr) ?_ ?_ ?_); (with_reducible rfl); rfl) | ((with_reducible refine gcall_eq (hfr) ?_ ?_ ?_); (with_reducible rfl); rfl) | ((with_reducible refine gcall_eq (hrp) ?_ ?_ ?_); (with_reducible rfl); rfl) | ((with_reducible refine gcall_eq (hk) ?_ ?_ ?_); (with_reducible rfl); rfl) | (with_reducible exact drawQ_true _ _ (by kernel_rfl)) | (with_reducible refine And.intro (drawQ_true _ _ (by kernel_rfl)) ?_))
end Go.Proofs.YtnpclmmmngmdkaaGreat
