/-
  FA11, FA12, FA13, Dq, FP1 (merged for the claim).
-/
import Derived.Test.YtnpclmmmngmdkaaGreatFW1
import Derived.Test.YtnpclmmmngmdkaaGreatFW22
import Derived.Test.YtnpclmmmngmdkaaGreatFW32
import Derived.Test.YtnpclmmmngmdkaaGreatFW26
set_option linter.unusedSimpArgs false
set_option linter.unusedVariables false
namespace Go.Proofs.YtnpclmmmngmdkaaGreat
open Go.Vl Go.RowKit Go.Dg

theorem digs_up (r d : Nat) (hd : d < E9) : trimZ (d :: digs E9 r) = digs E9 (r * E9 + d) := by
  rw [trimZ_eq E9_2 (d :: digs E9 r) (by
    intro x hx
    rcases List.mem_cons.1 hx with rfl | hx
    · exact hd
    · exact digs_mem_lt E9_2 hx)]
  congr 1
  simp only [val, val_digs E9_2]
  rw [Nat.mul_comm, Nat.add_comm]
theorem mix_same (V N i : Nat) (hi : i < N) (h : V / E9 ^ i % E9 = 0) : mix E9 0 V N (i + 1) = mix E9 0 V N i := by
  have h1 := mix_down (B := E9) (V := 0) (S := V) (N := N) (i := i) (d := 0) hi h
  rw [← h1]
  apply List.ext_getElem?
  intro j
  rw [List.getElem?_set]
  by_cases e : i = j
  · subst e
    simp only [if_true]
    rw [if_pos (by rw [mix_length]; exact hi), mix_get _ _ _ _ _ hi, if_pos (by omega)]
    simp
  · simp [e]
theorem app1 (d : Nat) (D : List PV) (bx : Bx) (hb : bx 606 = none) (h4 : bx 604 = some { els := [.int .i64 (d : Int)], esz := 1, ety := 3, fro := 0, live := true, arr := true }) (hD : D.length ≤ 1000000000) (hok : D.all (fun e => e.cells.length == 1 && e.cells.all PV.okCell) = true) :
    opVal Tryz.prog [] 606 (.call ⟨.builtin .append, #[.tmp 26, .tmp 27], #[35, 35]⟩) [.bs 604 1 0 1, .slc D] bx =
      some (.done (.bs 606 1 0 (1 + D.length)) [.kill 604, .new 606 { els := .int .i64 (d : Int) :: D, esz := 1, ety := 3, fro := 0, live := true, arr := true }], [(606, true), (604, true)]) := by
  have c1 : ((1 + D.length) * 8 ≤ 140737488355328) = True := by simp only [eq_iff_iff, iff_true]; omega
  have c2 : (1 + D.length ≤ maxLen) = True := by simp only [eq_iff_iff, iff_true]; unfold maxLen; omega
  skip
  simp -implicitDefEqProofs only [go_sem, Nat.reduceAdd, Nat.reduceMul, Nat.reduceEqDiff, Nat.reduceLT, Nat.reduceLeDiff, Nat.reduceSub, Nat.reduceBEq, reduceIte, reduceCtorEq, Int.reduceEq, Int.reduceNe, Nat.reduceBneDiff, Int.reduceLE, Int.reduceLT, Int.reduceToNat, Int.reduceAdd, Int.reduceSub, Int.reduceMul, Int.reduceNeg, hok, c1, c2, hb, h4]
theorem call_bs {P : Program} (id : Nat) (bx : Bx) (fo : Operand) (as0 : Array Operand) (ts : Array TypeId) (f b esz len : Nat) (B : Box) (xs : List PV) (hB : bx b = some B) (ha : B.arr = true) (he : B.esz = esz) (hx : B.els = xs) (hl : len = xs.length) :
    opVal P [] id (.call ⟨.value fo, as0, ts⟩) [.fn f [] [], .bs b esz 0 len] bx = some (.call f [.slc xs] [.fro b len], [(b, false)]) := by
  subst hx; subst hl; subst he
  rw [o_call0]
  have e1 : (B.soft.arr && B.soft.esz == B.esz && decide (B.els.length ≤ B.soft.els.length)) = true := by simp [Box.soft, ha]
  have e2 : (List.drop 0 B.soft.els).take B.els.length = B.els := by rw [List.drop_zero]; exact List.take_of_length_le (Nat.le_refl _)
  have h0 : esc0 (.bs b B.esz 0 B.els.length) bx = some ((.slc B.els, [.fro b B.els.length]), [(b, false)]) := by
    simp only [esc0, M.bind, M.soft, hB, M.ok, Nat.zero_add, e1, if_true, M.pure, List.nil_append, List.append_nil, e2, List.cons_append]
  have h1 : esc1L [.bs b B.esz 0 B.els.length] bx = some (([.slc B.els], [.fro b B.els.length]), [(b, false)]) := by
    simp only [esc1L, esc1, escC, M.bind, h0, M.pure, List.nil_append, List.append_nil]
  simp only [M.bind, escCL, M.pure, h1, List.nil_append, List.append_nil]
set_option maxHeartbeats 1000000 in
theorem rover_v (a b : Nat) (hb : 0 < b) (ha : (digs E9 a).length ≤ 10000000) (hbl : (digs E9 b).length ≤ 10000000) : SoundAt Tryz.prog 111 [di (digs E9 a), di (digs E9 b)] (.tup [di (digs E9 (a / b)), di (digs E9 (a % b))]) := by
  refine sound_go (tb := []) 63 [.tmp 4, .tmp 5] [0, 1, 4, 5, 6, 7, 8, 9, 10, 11, 19, 33, 36, 47] mixed Tryz.func111 rfl (by kernel_rfl) (by kernel_rfl) (by kernel_rfl) (by kernel_rfl) ?_
  have hn0 : ((0 : Int) ≤ ((digs E9 a).length : Int)) = True := by simp
  have hn1 : ((8 : Nat) : Int) * ((digs E9 a).length : Int) ≤ 281474976710656 := by omega
  have hn2 : ((digs E9 a).length : Int) ≤ 9223372036854775807 := by omega
  have hlt : a < E9 ^ (digs E9 a).length := lt_pow_len E9_2 a
  have hw : IntKind.i64.wrap (((digs E9 a).length : Int) - 1) = ((digs E9 a).length : Int) - 1 := wrap_i64 (by omega) (by omega)
  simp -implicitDefEqProofs only [go_sem, Nat.reduceAdd, Nat.reduceMul, Nat.reduceEqDiff, Nat.reduceLT, Nat.reduceLeDiff, Nat.reduceSub, Nat.reduceBEq, reduceIte, reduceCtorEq, Int.reduceEq, Int.reduceNe, Nat.reduceBneDiff, Int.reduceLE, Int.reduceLT, Int.reduceToNat, Int.reduceAdd, Int.reduceSub, Int.reduceMul, Int.reduceNeg, di, List.length_map, hn0, hn1, hn2, Int.toNat_natCast, hw]
  generalize hN : (digs E9 a).length = N at *
  have hrep : List.replicate N (PV.int .i64 0) = (mix E9 0 (a / b) N N).map fI := by rw [mix_full, lows_zero]; simp
  rw [hrep]
  refine g_loop mixed (fun i : { i : Nat // i ≤ N } => St.of [(0, di (digs E9 a)), (1, di (digs E9 b)), (6, .bs 102 1 0 N), (7, di (digs E9 (a / E9 ^ i.1 % b))), (8, .int .i64 ((i.1 : Int) - 1))]
    [(102, { els := (mix E9 0 (a / b) N i.1).map fI, esz := 1, ety := 3, fro := 0, live := true, arr := true })]) (fun i => i.1) ⟨N, Nat.le_refl _⟩ ?_ ?_
  · refine Le.trans (le_slc0G 7 rfl) (le_of (θ := [(102, 102)]) rfl ?_ ?_)
    · simp [varsLe, lkp, ren1, ren0, di, Nat.div_eq_of_lt hlt, digs_zero]
    · simp [boxesLe, lkp, Box.renames]
  · rintro ⟨i, hi⟩
    cases i with
    | zero =>
      have h1 : ((0 : Int) ≤ ((0 : Nat) : Int) - 1) = False := by simp
      have hll := lows_length (B := E9) (a / b) N
      have htk : ((lows E9 (a / b) N).map fI).take N = (lows E9 (a / b) N).map fI := List.take_of_length_le (by simp [hll])
      have e0 : a / E9 ^ 0 % b = a % b := by rw [Nat.pow_zero, Nat.div_one]
      simp -implicitDefEqProofs only [go_sem, Nat.reduceAdd, Nat.reduceMul, Nat.reduceEqDiff, Nat.reduceLT, Nat.reduceLeDiff, Nat.reduceSub, Nat.reduceBEq, reduceIte, reduceCtorEq, Int.reduceEq, Int.reduceNe, Nat.reduceBneDiff, Int.reduceLE, Int.reduceLT, Int.reduceToNat, Int.reduceAdd, Int.reduceSub, Int.reduceMul, Int.reduceNeg, h1, mix_none, List.length_map, hll, htk]
      refine gcall_intro _ _ _ _ _ _ _ _ _ (rtrim_v (lows E9 (a / b) N) (by rw [hll]; simp [maxLen]; omega)) ?_
      simp -implicitDefEqProofs only [go_sem, Nat.reduceAdd, Nat.reduceMul, Nat.reduceEqDiff, Nat.reduceLT, Nat.reduceLeDiff, Nat.reduceSub, Nat.reduceBEq, reduceIte, reduceCtorEq, Int.reduceEq, Int.reduceNe, Nat.reduceBneDiff, Int.reduceLE, Int.reduceLT, Int.reduceToNat, Int.reduceAdd, Int.reduceSub, Int.reduceMul, Int.reduceNeg, di, e0]
      rw [trimZ_lows E9_2, Nat.mod_eq_of_lt (Nat.lt_of_le_of_lt (Nat.div_le_self _ _) hlt)]
    | succ i =>
      have hs : (((i + 1 : Nat) : Int) - 1) = (i : Int) := by omega
      have h1 : ((0 : Int) ≤ (i : Int)) = True := by simp
      have h2 : ((i : Int) < (N : Int)) = True := by simp; omega
      have hga := digs_get_lt E9_2 (show i < (digs E9 a).length by omega)
      have e0 : a / E9 ^ (i + 1) = a / E9 ^ i / E9 := by rw [Nat.pow_succ, Nat.div_div_eq_div_mul]
      obtain ⟨s1, s2⟩ := small_step (a / E9 ^ i) b E9 (by decide) hb
      have e1 : a / E9 ^ i / b = a / b / E9 ^ i := by rw [Nat.div_div_eq_div_mul, Nat.div_div_eq_div_mul, Nat.mul_comm]
      rw [← e0] at s1 s2
      rw [e1] at s1
      have hset := mix_down (B := E9) (V := 0) (S := a / b) (N := N) (i := i) (d := a / b / E9 ^ i % E9) (by omega) rfl
      have hsame := mix_same (a / b) N i (by omega)
      have hml := mix_length (B := E9) 0 (a / b) N (i + 1)
      obtain ⟨e, hgo⟩ : ∃ e : Nat, ((mix E9 0 (a / b) N (i + 1)).map fI)[i]? = some (PV.int .i64 (e : Int)) := ⟨_, by rw [List.getElem?_map, mix_get _ _ _ _ _ (by omega)]; rfl⟩
      have hdl : a / E9 ^ i % E9 < E9 := Nat.mod_lt _ (by decide)
      have hrl : a / E9 ^ (i + 1) % b < b := Nat.mod_lt _ hb
      have hup := digs_up (a / E9 ^ (i + 1) % b) (a / E9 ^ i % E9) hdl
      have hL1 : (digs E9 (a / E9 ^ (i + 1) % b)).length ≤ 10000000 := Nat.le_trans (L_mono (Nat.le_of_lt hrl)) hbl
      have w4 : IntKind.i64.wrap ((i : Int) - 1) = (i : Int) - 1 := wrap_i64 (by omega) (by omega)
      generalize a / E9 ^ i % E9 = d at *
      generalize a / E9 ^ (i + 1) % b = ρ at *
      have ht := rtrim_v (d :: digs E9 ρ) (by rw [List.length_cons]; unfold maxLen; omega)
      rw [hup, di, List.map_cons] at ht
      have hL2 : (digs E9 (ρ * E9 + d)).length ≤ 10000001 := by
        refine Nat.le_trans ((digs_len_le E9_2 _ ((digs E9 b).length + 1)).2 ?_) (Nat.succ_le_succ hbl)
        have h5 := Nat.mul_le_mul_right E9 (show ρ + 1 ≤ b from hrl)
        have h6 := Nat.mul_lt_mul_of_pos_right (lt_pow_len E9_2 b) (show 0 < E9 by decide)
        rw [Nat.add_mul, Nat.one_mul] at h5
        rw [Nat.pow_succ]
        exact Nat.lt_trans (Nat.lt_of_lt_of_le (Nat.add_lt_add_left hdl _) h5) h6
      have c1 : ((1 + (digs E9 ρ).length) * 8 ≤ 140737488355328) = True := by simp only [eq_iff_iff, iff_true]; omega
      have c2 : (1 + (digs E9 ρ).length ≤ maxLen) = True := by simp only [eq_iff_iff, iff_true]; unfold maxLen; omega
      have hok : ((digs E9 ρ).map fI).all (fun e => e.cells.length == 1 && e.cells.all PV.okCell) = true := by rw [List.all_map, List.all_eq_true]; intro _ _; rfl
      have hor := rorder_v (ρ * E9 + d) b (by omega)
      have c3 : (1 + (digs E9 ρ).length ≤ (digs E9 ρ).length + 1) = True := by simp only [eq_iff_iff, iff_true]; omega
      have c4 : List.take (1 + (digs E9 ρ).length) (PV.int .i64 (d : Int) :: (digs E9 ρ).map fI) = PV.int .i64 (d : Int) :: (digs E9 ρ).map fI := List.take_of_length_le (by rw [List.length_cons, List.length_map, Nat.add_comm]; exact Nat.le_refl _)
      generalize hR : ρ * E9 + d = R at *
      generalize digs E9 ρ = D at *
      have hap := fun (bx : Bx) h1 h2 => app1 d (D.map fI) bx h1 h2 (by rw [List.length_map]; omega) hok
      rw [List.length_map] at hap
      have hca := fun (bx : Bx) hB => call_bs (P := Tryz.prog) 607 bx (.func 73) #[.tmp 28] #[35] 73 606 1 (1 + D.length) { els := .int .i64 (d : Int) :: D.map fI, esz := 1, ety := 3, fro := 0, live := true, arr := true } (.int .i64 (d : Int) :: D.map fI) hB rfl rfl rfl (by rw [List.length_cons, List.length_map, Nat.add_comm])
      simp -implicitDefEqProofs only [go_sem, Nat.reduceAdd, Nat.reduceMul, Nat.reduceEqDiff, Nat.reduceLT, Nat.reduceLeDiff, Nat.reduceSub, Nat.reduceBEq, reduceIte, reduceCtorEq, Int.reduceEq, Int.reduceNe, Nat.reduceBneDiff, Int.reduceLE, Int.reduceLT, Int.reduceToNat, Int.reduceAdd, Int.reduceSub, Int.reduceMul, Int.reduceNeg, di, hs, h1, h2, di_get, hga, Int.toNat_natCast, List.length_map, hap, hca]
      refine gcall_intro _ _ _ _ _ _ _ _ _ ht ?_
      simp -implicitDefEqProofs only [go_sem, Nat.reduceAdd, Nat.reduceMul, Nat.reduceEqDiff, Nat.reduceLT, Nat.reduceLeDiff, Nat.reduceSub, Nat.reduceBEq, reduceIte, reduceCtorEq, Int.reduceEq, Int.reduceNe, Nat.reduceBneDiff, Int.reduceLE, Int.reduceLT, Int.reduceToNat, Int.reduceAdd, Int.reduceSub, Int.reduceMul, Int.reduceNeg, di]
      refine gcall_intro _ _ _ _ _ _ _ _ _ hor ?_
      by_cases hc : R < b
      · have hc' : (cmpN R b < 0) = True := by rw [cmpN_lt hc]; simp
        have hq0 : R / b = 0 := Nat.div_eq_of_lt hc
        rw [hq0] at s1
        rw [Nat.mod_eq_of_lt hc] at s2
        simp -implicitDefEqProofs only [go_sem, Nat.reduceAdd, Nat.reduceMul, Nat.reduceEqDiff, Nat.reduceLT, Nat.reduceLeDiff, Nat.reduceSub, Nat.reduceBEq, reduceIte, reduceCtorEq, Int.reduceEq, Int.reduceNe, Nat.reduceBneDiff, Int.reduceLE, Int.reduceLT, Int.reduceToNat, Int.reduceAdd, Int.reduceSub, Int.reduceMul, Int.reduceNeg, hc', w4]
        refine ⟨⟨i, by omega⟩, by simp only; omega, le_of (θ := [(102, 102)]) rfl ?_ ?_⟩
        · simp [varsLe, lkp, ren1, ren0, di, ← s2]
        · simp [boxesLe, lkp, Box.renames, hsame s1.symm]
      · have hc' : (cmpN R b < 0) = False := by simp [cmpN]; omega
        have hQ : R / b < E9 := by
          rw [Nat.div_lt_iff_lt_mul hb, ← hR, Nat.mul_comm E9]
          have := Nat.mul_le_mul_right E9 (show ρ + 1 ≤ b from hrl)
          rw [Nat.add_mul] at this
          omega
        simp -implicitDefEqProofs only [go_sem, Nat.reduceAdd, Nat.reduceMul, Nat.reduceEqDiff, Nat.reduceLT, Nat.reduceLeDiff, Nat.reduceSub, Nat.reduceBEq, reduceIte, reduceCtorEq, Int.reduceEq, Int.reduceNe, Nat.reduceBneDiff, Int.reduceLE, Int.reduceLT, Int.reduceToNat, Int.reduceAdd, Int.reduceSub, Int.reduceMul, Int.reduceNeg, hc']
        refine g_loop mixed (fun p : { p : Nat × Nat // p.1 ≤ R / b ∧ R / b ≤ p.2 ∧ p.2 < E9 } => St.of [(0, di (digs E9 a)), (1, di (digs E9 b)), (6, .bs 102 1 0 N), (7, di (digs E9 R)), (8, .int .i64 (i : Int)), (9, .int .i64 (p.1.1 : Int)), (10, .int .i64 (p.1.2 : Int))]
          [(102, { els := (mix E9 0 (a / b) N (i + 1)).map fI, esz := 1, ety := 3, fro := 0, live := true, arr := true })]) (fun p => p.1.2 - p.1.1) ⟨(0, 999999999), Nat.zero_le _, by simp only [E9] at hQ; omega, by decide⟩ ?_ ?_
        · refine le_of (θ := [(102, 102)]) rfl ?_ ?_
          · simp [varsLe, lkp, ren1, ren0, di]
          · simp [boxesLe, lkp, Box.renames]
        · rintro ⟨⟨lo, hi⟩, p1, p2, p3⟩
          simp only at p1 p2 p3 ⊢
          simp only [E9] at p3
          by_cases hlh : lo < hi
          · have g1 : ((lo : Int) < (hi : Int)) = True := by simp; omega
            have w1 := wrap_add (a := lo) (b := hi) (by omega)
            have w2 := wrap_add1 (a := lo + hi) (by omega)
            have t2 : Int.tdiv ((lo + hi + 1 : Nat) : Int) 2 = (((lo + hi + 1) / 2 : Nat) : Int) := rfl
            have w3 := wrapn (n := (lo + hi + 1) / 2) (by omega)
            generalize hmid : (lo + hi + 1) / 2 = mid at *
            have hsm := rsmall_v b mid (by simp only [E9]; omega) (by omega)
            have hLb : (digs E9 (b * mid)).length ≤ 1000000000 := by
              refine Nat.le_trans ((digs_len_le E9_2 _ ((digs E9 b).length + 1)).2 ?_) (show (digs E9 b).length + 1 ≤ 1000000000 by omega)
              rw [Nat.pow_succ]
              exact Nat.mul_lt_mul_of_lt_of_le (lt_pow_len E9_2 b) (show mid ≤ E9 by simp only [E9]; omega) (by decide)
            have ho := rorder_v (b * mid) R hLb
            have hiff : b * mid ≤ R ↔ mid ≤ R / b := by rw [Nat.le_div_iff_mul_le hb, Nat.mul_comm]
            simp -implicitDefEqProofs only [go_sem, Nat.reduceAdd, Nat.reduceMul, Nat.reduceEqDiff, Nat.reduceLT, Nat.reduceLeDiff, Nat.reduceSub, Nat.reduceBEq, reduceIte, reduceCtorEq, Int.reduceEq, Int.reduceNe, Nat.reduceBneDiff, Int.reduceLE, Int.reduceLT, Int.reduceToNat, Int.reduceAdd, Int.reduceSub, Int.reduceMul, Int.reduceNeg, di, g1, w1, w2, t2, w3]
            refine gcall_intro _ _ _ _ _ _ _ _ _ hsm ?_
            simp -implicitDefEqProofs only [go_sem, Nat.reduceAdd, Nat.reduceMul, Nat.reduceEqDiff, Nat.reduceLT, Nat.reduceLeDiff, Nat.reduceSub, Nat.reduceBEq, reduceIte, reduceCtorEq, Int.reduceEq, Int.reduceNe, Nat.reduceBneDiff, Int.reduceLE, Int.reduceLT, Int.reduceToNat, Int.reduceAdd, Int.reduceSub, Int.reduceMul, Int.reduceNeg, di]
            refine gcall_intro _ _ _ _ _ _ _ _ _ ho ?_
            by_cases hm : b * mid ≤ R
            · have g2 : (cmpN (b * mid) R ≤ 0) = True := by simp [cmpN]; omega
              have hm2 := hiff.1 hm
              simp -implicitDefEqProofs only [go_sem, Nat.reduceAdd, Nat.reduceMul, Nat.reduceEqDiff, Nat.reduceLT, Nat.reduceLeDiff, Nat.reduceSub, Nat.reduceBEq, reduceIte, reduceCtorEq, Int.reduceEq, Int.reduceNe, Nat.reduceBneDiff, Int.reduceLE, Int.reduceLT, Int.reduceToNat, Int.reduceAdd, Int.reduceSub, Int.reduceMul, Int.reduceNeg, g2]
              refine ⟨⟨(mid, hi), hm2, p2, by simp only [E9]; omega⟩, by simp only; omega, le_of (θ := [(102, 102)]) rfl ?_ ?_⟩
              · simp [varsLe, lkp, ren1, ren0, di]
              · simp [boxesLe, lkp, Box.renames]
            · have g2 : (cmpN (b * mid) R ≤ 0) = False := by simp [cmpN]; omega
              have hm2 := mt hiff.2 hm
              have w5 : IntKind.i64.wrap ((mid : Int) - 1) = ((mid - 1 : Nat) : Int) := by rw [wrap_i64 (by omega) (by omega)]; omega
              simp -implicitDefEqProofs only [go_sem, Nat.reduceAdd, Nat.reduceMul, Nat.reduceEqDiff, Nat.reduceLT, Nat.reduceLeDiff, Nat.reduceSub, Nat.reduceBEq, reduceIte, reduceCtorEq, Int.reduceEq, Int.reduceNe, Nat.reduceBneDiff, Int.reduceLE, Int.reduceLT, Int.reduceToNat, Int.reduceAdd, Int.reduceSub, Int.reduceMul, Int.reduceNeg, g2, w5]
              refine ⟨⟨(lo, mid - 1), p1, by simp only; omega, by simp only [E9]; omega⟩, by simp only; omega, le_of (θ := [(102, 102)]) rfl ?_ ?_⟩
              · simp [varsLe, lkp, ren1, ren0, di]
              · simp [boxesLe, lkp, Box.renames]
          · have g1 : ((lo : Int) < (hi : Int)) = False := by simp; omega
            obtain rfl : lo = R / b := by omega
            have hsm := rsmall_v b (R / b) hQ (by omega)
            have hle : b * (R / b) ≤ R := Nat.mul_div_le R b
            have hmi := rminus_v R (b * (R / b)) hle (by omega)
            have e3 : R - b * (R / b) = R % b := by have := Nat.div_add_mod R b; omega
            rw [e3, s2] at hmi
            rw [← s1] at hset
            simp -implicitDefEqProofs only [go_sem, Nat.reduceAdd, Nat.reduceMul, Nat.reduceEqDiff, Nat.reduceLT, Nat.reduceLeDiff, Nat.reduceSub, Nat.reduceBEq, reduceIte, reduceCtorEq, Int.reduceEq, Int.reduceNe, Nat.reduceBneDiff, Int.reduceLE, Int.reduceLT, Int.reduceToNat, Int.reduceAdd, Int.reduceSub, Int.reduceMul, Int.reduceNeg, g1, di, hs, h1, h2, Int.toNat_natCast, List.length_map, hml, hgo]
            refine gcall_intro _ _ _ _ _ _ _ _ _ hsm ?_
            simp -implicitDefEqProofs only [go_sem, Nat.reduceAdd, Nat.reduceMul, Nat.reduceEqDiff, Nat.reduceLT, Nat.reduceLeDiff, Nat.reduceSub, Nat.reduceBEq, reduceIte, reduceCtorEq, Int.reduceEq, Int.reduceNe, Nat.reduceBneDiff, Int.reduceLE, Int.reduceLT, Int.reduceToNat, Int.reduceAdd, Int.reduceSub, Int.reduceMul, Int.reduceNeg, di]
            refine gcall_intro _ _ _ _ _ _ _ _ _ hmi ?_
            simp -implicitDefEqProofs only [go_sem, Nat.reduceAdd, Nat.reduceMul, Nat.reduceEqDiff, Nat.reduceLT, Nat.reduceLeDiff, Nat.reduceSub, Nat.reduceBEq, reduceIte, reduceCtorEq, Int.reduceEq, Int.reduceNe, Nat.reduceBneDiff, Int.reduceLE, Int.reduceLT, Int.reduceToNat, Int.reduceAdd, Int.reduceSub, Int.reduceMul, Int.reduceNeg, di, w4]
            refine ⟨⟨i, by omega⟩, by simp only; omega, le_of (θ := [(102, 102)]) rfl ?_ ?_⟩
            · simp [varsLe, lkp, ren1, ren0, di]
            · rw [set_fI, hset]
              simp [boxesLe, lkp, Box.renames]
end Go.Proofs.YtnpclmmmngmdkaaGreat

namespace Go.Proofs.YtnpclmmmngmdkaaGreat
open Go.Vl Go.RowKit Go.Dg

theorem E9_mul (a b : Nat) : (digs E9 (a * b)).length ≤ (digs E9 a).length + (digs E9 b).length := by
  refine (digs_len_le E9_2 _ _).2 ?_
  rw [Nat.pow_add]
  exact Nat.mul_lt_mul'' (lt_pow_len E9_2 _) (lt_pow_len E9_2 _)
theorem E9_add (a b k : Nat) (h1 : (digs E9 a).length ≤ k) (h2 : (digs E9 b).length ≤ k) : (digs E9 (a + b)).length ≤ k + 1 := by
  rw [digs_len_le E9_2] at h1 h2 ⊢
  rw [Nat.pow_succ]
  generalize E9 ^ k = K at *
  simp only [E9]
  omega
/-- The Euclidean quotient from the truncated one. -/
theorem quo_fix (x y : Int) (hy : y ≠ 0) : (0 ≤ x - Int.tdiv x y * y → Int.tdiv x y = x / y ∧ x - Int.tdiv x y * y = x % y) ∧
    (x - Int.tdiv x y * y < 0 → (if 0 < y then Int.tdiv x y - 1 else Int.tdiv x y + 1) = x / y ∧ x - (if 0 < y then Int.tdiv x y - 1 else Int.tdiv x y + 1) * y = x % y) := by
  have h1 : y * Int.tdiv x y + Int.tmod x y = x := Int.mul_tdiv_add_tmod x y
  have h2 := Int.natAbs_tmod x y
  have h3 := Nat.mod_lt x.natAbs (show 0 < y.natAbs by omega)
  rw [← h2] at h3
  generalize Int.tdiv x y = q at *
  generalize Int.tmod x y = r at *
  have e : q * y = y * q := Int.mul_comm _ _
  have key : ∀ q' r' : Int, r' + y * q' = x → 0 ≤ r' → r' < y.natAbs → q' = x / y ∧ r' = x % y := by
    intro q' r' a1 a2 a3
    rcases Int.lt_or_gt_of_ne hy with hn | hp
    · have := (Int.ediv_emod_unique' (a := x) (b := y) (r := r') (q := q') hn).2 ⟨a1, a2, by omega⟩
      exact ⟨this.1.symm, this.2.symm⟩
    · have := (Int.ediv_emod_unique (a := x) (b := y) (r := r') (q := q') hp).2 ⟨a1, a2, by omega⟩
      exact ⟨this.1.symm, this.2.symm⟩
  rw [e]
  constructor
  · intro h0
    exact key q (x - y * q) (by omega) h0 (by omega)
  · intro h0
    by_cases hp : 0 < y
    · rw [if_pos hp]
      have e2 : (q - 1) * y = y * q - y := by rw [Int.sub_mul, Int.one_mul, e]
      have e3 : y * (q - 1) = y * q - y := by rw [Int.mul_comm, e2]
      exact key (q - 1) (x - (q - 1) * y) (by omega) (by omega) (by omega)
    · rw [if_neg hp]
      have e2 : (q + 1) * y = y * q + y := by rw [Int.add_mul, Int.one_mul, e]
      have e3 : y * (q + 1) = y * q + y := by rw [Int.mul_comm, e2]
      exact key (q + 1) (x - (q + 1) * y) (by omega) (by omega) (by omega)
theorem E9_le {a b : Nat} (h : a ≤ b) : (digs E9 a).length ≤ (digs E9 b).length := L_mono h
theorem tdiv_signs (x y : Int) : (if (!(decide (x < 0) == decide (y < 0))) = true then -((x.natAbs / y.natAbs : Nat) : Int) else ((x.natAbs / y.natAbs : Nat) : Int)) = Int.tdiv x y := by
  cases x with
  | ofNat m => cases y with
    | ofNat n =>
      have h1 : ¬ Int.ofNat m < 0 := by simp
      have h2 : ¬ Int.ofNat n < 0 := by simp
      simp only [h1, h2, decide_false, beq_self_eq_true, Bool.not_true, Bool.false_eq_true, if_false]; rfl
    | negSucc n =>
      have h1 : ¬ Int.ofNat m < 0 := by simp
      have h2 : Int.negSucc n < 0 := Int.negSucc_lt_zero n
      simp only [h1, h2, decide_false, decide_true, Bool.false_beq, Bool.not_true, Bool.not_false, if_true]; rfl
  | negSucc m => cases y with
    | ofNat n =>
      have h1 : Int.negSucc m < 0 := Int.negSucc_lt_zero m
      have h2 : ¬ Int.ofNat n < 0 := by simp
      simp only [h1, h2, decide_false, decide_true, Bool.true_beq, Bool.not_false, if_true]; rfl
    | negSucc n =>
      have h1 : Int.negSucc m < 0 := Int.negSucc_lt_zero m
      have h2 : Int.negSucc n < 0 := Int.negSucc_lt_zero n
      simp only [h1, h2, decide_true, beq_self_eq_true, Bool.not_true, Bool.false_eq_true, if_false]; rfl
set_option maxHeartbeats 1000000 in
theorem rquo_v (x y : Int) (hy : y ≠ 0) (hx : (digs E9 x.natAbs).length ≤ 1000000) (hyl : (digs E9 y.natAbs).length ≤ 1000000) : SoundAt Tryz.prog 88 [rI x, rI y] (.tup [rI (x / y), rI (x % y)]) := by
  have ho := rover_v x.natAbs y.natAbs (by omega) (by omega) (by omega)
  have hm := rmade_v (!(decide (x < 0) == decide (y < 0))) (x.natAbs / y.natAbs)
  rw [tdiv_signs] at hm
  have hql : (digs E9 (Int.tdiv x y).natAbs).length ≤ 1000000 := by
    rw [Int.natAbs_tdiv]; exact Nat.le_trans (E9_le (Nat.div_le_self _ _)) hx
  have h1l : (digs E9 1).length ≤ 1000000 := Nat.le_trans (L_small (by decide)) (by decide)
  obtain ⟨f1, f2⟩ := quo_fix x y hy
  have hnum := rnum_v 1 (by decide) (by decide)
  generalize hq : Int.tdiv x y = q at *
  have hmq : (digs E9 (q * y).natAbs).length ≤ 2000000 := by rw [Int.natAbs_mul]; have := E9_mul q.natAbs y.natAbs; omega
  have m1 := rmul_v q y (by omega)
  have s1 := rsub_v x (q * y) (Nat.le_trans (E9_add _ _ 2000000 (by omega) hmq) (by decide))
  have g1 := rsign_v (x - q * y)
  have g2 := rsign_v y
  by_cases h0 : x - q * y < 0
  · have c1 : ((x - q * y).sign < 0) = True := by simp only [eq_iff_iff, iff_true]; rw [Int.sign_eq_neg_one_of_neg h0]; decide
    obtain ⟨e1, e2⟩ := f2 h0
    by_cases hp : 0 < y
    · have c2 : (0 < y.sign) = True := by simp only [eq_iff_iff, iff_true]; rw [Int.sign_eq_one_of_pos hp]; decide
      rw [if_pos hp] at e1 e2
      have s2 := rsub_v q 1 (Nat.le_trans (E9_add _ _ 1000000 hql h1l) (by decide))
      have hq2 : (digs E9 (q - 1).natAbs).length ≤ 1000001 := Nat.le_trans (E9_le (show (q - 1).natAbs ≤ q.natAbs + 1 by omega)) (E9_add _ _ 1000000 hql h1l)
      have m2 := rmul_v (q - 1) y (by omega)
      have hmq2 : (digs E9 ((q - 1) * y).natAbs).length ≤ 2000001 := by rw [Int.natAbs_mul]; have := E9_mul (q - 1).natAbs y.natAbs; omega
      have s3 := rsub_v x ((q - 1) * y) (Nat.le_trans (E9_add _ _ 2000001 (by omega) hmq2) (by decide))
      rw [e1] at s2 m2 s3
      rw [e1] at e2
      rw [e2] at s3
      generalize x - q * y = r at *
      generalize q * y = p at *
      generalize x / y * y = p2 at *
      generalize x / y = Q at *
      generalize x % y = R at *
      generalize x.natAbs / y.natAbs = n1 at *
      generalize x.natAbs % y.natAbs = n2 at *
      refine sound_go (tb := []) 50 [.cell 4 37, .cell 5 37] [0, 1, 2, 3, 4, 5, 6, 7, 8, 9, 32, 35] mixed Tryz.func88 rfl (by kernel_rfl) (by kernel_rfl) (by kernel_rfl) (by kernel_rfl) ?_
      repeat (first | (simp -implicitDefEqProofs only [go_sem, Nat.reduceAdd, Nat.reduceMul, Nat.reduceEqDiff, Nat.reduceLT, Nat.reduceLeDiff, Nat.reduceSub, Nat.reduceBEq, reduceIte, reduceCtorEq, Int.reduceEq, Int.reduceNe, Nat.reduceBneDiff, Int.reduceLE, Int.reduceLT, Int.reduceToNat, Int.reduceAdd, Int.reduceSub, Int.reduceMul, Int.reduceNeg, rI, di, c1, c2]) | ((with_reducible refine gcall_eq (ho) ?_ ?_ ?_); (with_reducible rfl); rfl) | ((with_reducible refine gcall_eq (hm) ?_ ?_ ?_); (with_reducible rfl); rfl) | ((with_reducible refine gcall_eq (m1) ?_ ?_ ?_); (with_reducible rfl); rfl) | ((with_reducible refine gcall_eq (s1) ?_ ?_ ?_); (with_reducible rfl); rfl) | ((with_reducible refine gcall_eq (g1) ?_ ?_ ?_); (with_reducible rfl); rfl) | ((with_reducible refine gcall_eq (g2) ?_ ?_ ?_); (with_reducible rfl); rfl) | ((with_reducible refine gcall_eq (hnum) ?_ ?_ ?_); (with_reducible rfl); rfl) | ((with_reducible refine gcall_eq (s2) ?_ ?_ ?_); (with_reducible rfl); rfl) | ((with_reducible refine gcall_eq (m2) ?_ ?_ ?_); (with_reducible rfl); rfl) | ((with_reducible refine gcall_eq (s3) ?_ ?_ ?_); (with_reducible rfl); rfl) | (with_reducible exact drawQ_true _ _ (by kernel_rfl)) | (with_reducible refine And.intro (drawQ_true _ _ (by kernel_rfl)) ?_))
    · have c2 : (0 < y.sign) = False := by simp only [eq_iff_iff, iff_false]; rw [Int.sign_eq_neg_one_of_neg (by omega)]; decide
      rw [if_neg hp] at e1 e2
      have s2 := radd_v q 1 (Nat.le_trans (E9_add _ _ 1000000 hql h1l) (by decide))
      have hq2 : (digs E9 (q + 1).natAbs).length ≤ 1000001 := Nat.le_trans (E9_le (show (q + 1).natAbs ≤ q.natAbs + 1 by omega)) (E9_add _ _ 1000000 hql h1l)
      have m2 := rmul_v (q + 1) y (by omega)
      have hmq2 : (digs E9 ((q + 1) * y).natAbs).length ≤ 2000001 := by rw [Int.natAbs_mul]; have := E9_mul (q + 1).natAbs y.natAbs; omega
      have s3 := rsub_v x ((q + 1) * y) (Nat.le_trans (E9_add _ _ 2000001 (by omega) hmq2) (by decide))
      rw [e1] at s2 m2 s3
      rw [e1] at e2
      rw [e2] at s3
      generalize x - q * y = r at *
      generalize q * y = p at *
      generalize x / y * y = p2 at *
      generalize x / y = Q at *
      generalize x % y = R at *
      generalize x.natAbs / y.natAbs = n1 at *
      generalize x.natAbs % y.natAbs = n2 at *
      refine sound_go (tb := []) 50 [.cell 4 37, .cell 5 37] [0, 1, 2, 3, 4, 5, 6, 7, 8, 9, 32, 35] mixed Tryz.func88 rfl (by kernel_rfl) (by kernel_rfl) (by kernel_rfl) (by kernel_rfl) ?_
      repeat (first | (simp -implicitDefEqProofs only [go_sem, Nat.reduceAdd, Nat.reduceMul, Nat.reduceEqDiff, Nat.reduceLT, Nat.reduceLeDiff, Nat.reduceSub, Nat.reduceBEq, reduceIte, reduceCtorEq, Int.reduceEq, Int.reduceNe, Nat.reduceBneDiff, Int.reduceLE, Int.reduceLT, Int.reduceToNat, Int.reduceAdd, Int.reduceSub, Int.reduceMul, Int.reduceNeg, rI, di, c1, c2]) | ((with_reducible refine gcall_eq (ho) ?_ ?_ ?_); (with_reducible rfl); rfl) | ((with_reducible refine gcall_eq (hm) ?_ ?_ ?_); (with_reducible rfl); rfl) | ((with_reducible refine gcall_eq (m1) ?_ ?_ ?_); (with_reducible rfl); rfl) | ((with_reducible refine gcall_eq (s1) ?_ ?_ ?_); (with_reducible rfl); rfl) | ((with_reducible refine gcall_eq (g1) ?_ ?_ ?_); (with_reducible rfl); rfl) | ((with_reducible refine gcall_eq (g2) ?_ ?_ ?_); (with_reducible rfl); rfl) | ((with_reducible refine gcall_eq (hnum) ?_ ?_ ?_); (with_reducible rfl); rfl) | ((with_reducible refine gcall_eq (s2) ?_ ?_ ?_); (with_reducible rfl); rfl) | ((with_reducible refine gcall_eq (m2) ?_ ?_ ?_); (with_reducible rfl); rfl) | ((with_reducible refine gcall_eq (s3) ?_ ?_ ?_); (with_reducible rfl); rfl) | (with_reducible exact drawQ_true _ _ (by kernel_rfl)) | (with_reducible refine And.intro (drawQ_true _ _ (by kernel_rfl)) ?_))
  · have c1 : ((x - q * y).sign < 0) = False := by simp only [eq_iff_iff, iff_false]; have := Int.sign_nonneg_iff.2 (show 0 ≤ x - q * y by omega); omega
    obtain ⟨e1, e2⟩ := f1 (by omega)
    rw [e2] at s1 g1 c1
    rw [e1] at hm m1 s1
    generalize q * y = p at *
    generalize x / y * y = p2 at *
    generalize x / y = Q at *
    generalize x % y = R at *
    generalize x.natAbs / y.natAbs = n1 at *
    generalize x.natAbs % y.natAbs = n2 at *
    refine sound_go (tb := []) 50 [.cell 4 37, .cell 5 37] [0, 1, 2, 3, 4, 5, 6, 7, 8, 9, 32, 35] mixed Tryz.func88 rfl (by kernel_rfl) (by kernel_rfl) (by kernel_rfl) (by kernel_rfl) ?_
    repeat (first | (simp -implicitDefEqProofs only [go_sem, Nat.reduceAdd, Nat.reduceMul, Nat.reduceEqDiff, Nat.reduceLT, Nat.reduceLeDiff, Nat.reduceSub, Nat.reduceBEq, reduceIte, reduceCtorEq, Int.reduceEq, Int.reduceNe, Nat.reduceBneDiff, Int.reduceLE, Int.reduceLT, Int.reduceToNat, Int.reduceAdd, Int.reduceSub, Int.reduceMul, Int.reduceNeg, rI, di, c1]) | ((with_reducible refine gcall_eq (ho) ?_ ?_ ?_); (with_reducible rfl); rfl) | ((with_reducible refine gcall_eq (hm) ?_ ?_ ?_); (with_reducible rfl); rfl) | ((with_reducible refine gcall_eq (m1) ?_ ?_ ?_); (with_reducible rfl); rfl) | ((with_reducible refine gcall_eq (s1) ?_ ?_ ?_); (with_reducible rfl); rfl) | ((with_reducible refine gcall_eq (g1) ?_ ?_ ?_); (with_reducible rfl); rfl) | (with_reducible exact drawQ_true _ _ (by kernel_rfl)) | (with_reducible refine And.intro (drawQ_true _ _ (by kernel_rfl)) ?_))
theorem rgcd_v (x y : Int) (hx : (digs E9 x.natAbs).length ≤ 1000000) (hyl : (digs E9 y.natAbs).length ≤ 1000000) : SoundAt Tryz.prog 86 [rI x, rI y] (rI ((Nat.gcd x.natAbs y.natAbs : Nat) : Int)) := by
  have hm := rmade_v false (Nat.gcd x.natAbs y.natAbs)
  simp only [Bool.false_eq_true, if_false] at hm
  refine sound_go (tb := []) 26 [.cell 4 37] [0, 1, 2, 3, 4, 5, 6, 8, 15] mixed Tryz.func86 rfl (by kernel_rfl) (by kernel_rfl) (by kernel_rfl) (by kernel_rfl) ?_
  repeat (first | (simp -implicitDefEqProofs only [go_sem, Nat.reduceAdd, Nat.reduceMul, Nat.reduceEqDiff, Nat.reduceLT, Nat.reduceLeDiff, Nat.reduceSub, Nat.reduceBEq, reduceIte, reduceCtorEq, Int.reduceEq, Int.reduceNe, Nat.reduceBneDiff, Int.reduceLE, Int.reduceLT, Int.reduceToNat, Int.reduceAdd, Int.reduceSub, Int.reduceMul, Int.reduceNeg, rI, di]) | ((with_reducible refine gcall_eq (hm) ?_ ?_ ?_); (with_reducible rfl); rfl) | (with_reducible exact drawQ_true _ _ (by kernel_rfl)) | (with_reducible refine And.intro (drawQ_true _ _ (by kernel_rfl)) ?_))
  refine g_loop mixed (fun p : { p : Nat × Nat // Nat.gcd p.1 p.2 = Nat.gcd x.natAbs y.natAbs ∧ (digs E9 p.1).length ≤ 1000000 ∧ (digs E9 p.2).length ≤ 1000000 } => St.of [(4, .bp 2 2 0 0), (5, di (digs E9 p.1.1)), (6, di (digs E9 p.1.2))]
    [(2, { els := [.agg [.bool false, .nilS]], esz := 2, ety := 37, fro := 0, live := true, arr := false })]) (fun p => p.1.2) ⟨(x.natAbs, y.natAbs), rfl, hx, hyl⟩ ?_ ?_
  · refine le_of (θ := [(2, 2)]) rfl ?_ ?_
    · simp [varsLe, lkp, ren1, ren0, di]
    · refine ⟨⟨rfl, rfl, rfl, rfl, rfl, .inr ⟨rfl, _, _, rfl, rfl, rfl, rfl⟩⟩, trivial⟩
  · rintro ⟨⟨u, v⟩, h1, h2, h3⟩
    simp only at h1 h2 h3 ⊢
    by_cases hv : v = 0
    · subst hv
      have g1 : ((0 : Int) < ((0 : Nat) : Int)) = False := by simp
      rw [Nat.gcd_zero_right] at h1
      subst h1
      repeat (first | (simp -implicitDefEqProofs only [go_sem, Nat.reduceAdd, Nat.reduceMul, Nat.reduceEqDiff, Nat.reduceLT, Nat.reduceLeDiff, Nat.reduceSub, Nat.reduceBEq, reduceIte, reduceCtorEq, Int.reduceEq, Int.reduceNe, Nat.reduceBneDiff, Int.reduceLE, Int.reduceLT, Int.reduceToNat, Int.reduceAdd, Int.reduceSub, Int.reduceMul, Int.reduceNeg, rI, di, digs_zero, List.map_nil, List.length_nil, g1]) | ((with_reducible refine gcall_eq (hm) ?_ ?_ ?_); (with_reducible rfl); rfl) | (with_reducible exact drawQ_true _ _ (by kernel_rfl)) | (with_reducible refine And.intro (drawQ_true _ _ (by kernel_rfl)) ?_))
    · have hp : 0 < (digs E9 v).length := L_pos hv
      have g1 : ((0 : Int) < ((digs E9 v).length : Int)) = True := by simp only [eq_iff_iff, iff_true]; omega
      have hd := rover_v u v (Nat.pos_of_ne_zero hv) (by omega) (by omega)
      have hr := Nat.mod_lt u (Nat.pos_of_ne_zero hv)
      repeat (first | (simp -implicitDefEqProofs only [go_sem, Nat.reduceAdd, Nat.reduceMul, Nat.reduceEqDiff, Nat.reduceLT, Nat.reduceLeDiff, Nat.reduceSub, Nat.reduceBEq, reduceIte, reduceCtorEq, Int.reduceEq, Int.reduceNe, Nat.reduceBneDiff, Int.reduceLE, Int.reduceLT, Int.reduceToNat, Int.reduceAdd, Int.reduceSub, Int.reduceMul, Int.reduceNeg, di, List.length_map, g1]) | ((with_reducible refine gcall_eq (hd) ?_ ?_ ?_); (with_reducible rfl); rfl) | (with_reducible exact drawQ_true _ _ (by kernel_rfl)) | (with_reducible refine And.intro (drawQ_true _ _ (by kernel_rfl)) ?_))
      refine ⟨⟨(v, u % v), by rw [← h1, Nat.gcd_comm u v, Nat.gcd_rec v u, Nat.gcd_comm], h3, Nat.le_trans (L_mono (Nat.le_of_lt hr)) h3⟩, by simp only; exact hr, le_of (θ := [(2, 2)]) rfl ?_ ?_⟩
      · simp [varsLe, lkp, ren1, ren0, di]
      · refine ⟨⟨rfl, rfl, rfl, rfl, rfl, .inr ⟨rfl, _, _, rfl, rfl, rfl, rfl⟩⟩, trivial⟩
end Go.Proofs.YtnpclmmmngmdkaaGreat

namespace Go.Proofs.YtnpclmmmngmdkaaGreat
open Go.Vl Go.RowKit Go.Dg

def rQ (x y : Int) : PV := .agg [.bool (decide (x < 0)), di (digs E9 x.natAbs), .bool (decide (y < 0)), di (digs E9 y.natAbs)]
theorem mul_lt {x y : Int} {k l : Nat} (hx : x.natAbs < 256 ^ k) (hy : y.natAbs < 256 ^ l) : (x * y).natAbs < 256 ^ (k + l) := by
  rw [Int.natAbs_mul, Nat.pow_add]; exact Nat.mul_lt_mul'' hx hy
theorem mod_lt {y : Int} {k : Nat} (x : Int) (h0 : y ≠ 0) (hy : y.natAbs < 256 ^ k) : (x % y).natAbs < 256 ^ k := by
  have h1 := Int.emod_nonneg x h0
  have h2 := Int.emod_lt x h0
  omega
theorem gcd_lt {x y : Nat} {k : Nat} (hx : x < 256 ^ k) (hy : y < 256 ^ k) : ((Nat.gcd x y : Nat) : Int).natAbs < 256 ^ k := by
  rw [Int.natAbs_natCast]
  rcases Nat.eq_zero_or_pos x with h0 | h0
  · rw [h0, Nat.gcd_zero_left]; exact hy
  · exact Nat.lt_of_le_of_lt (Nat.gcd_le_left _ h0) hx
theorem wnum_ne {n : Bool} {s : ByteArray} (h : validB n s.data.toList = true) (h0 : s.data.toList ≠ []) : wnum n s ≠ 0 := by
  intro e
  have h1 := wPV_wnum n s h
  rw [e, wPV_zero] at h1
  simp only [PV.agg.injEq, List.cons.injEq, PV.str.injEq, PV.bool.injEq, and_true] at h1
  exact h0 (by rw [← h1.2])
theorem wnum_nil {n : Bool} {s : ByteArray} (h0 : s.data.toList = []) : wnum n s = 0 := by
  unfold wnum sv; rw [h0]; cases n <;> rfl
theorem gN_ne {x y : Int} (h : y ≠ 0) : gN x y ≠ 0 := by
  have := Nat.gcd_pos_of_pos_right x.natAbs (show 0 < y.natAbs by omega)
  unfold gN; split <;> omega
theorem gN_lt {x y : Int} {k : Nat} (hx : x.natAbs < 256 ^ k) (hy : y.natAbs < 256 ^ k) : (gN x y).natAbs < 256 ^ k := by
  have := gcd_lt hx hy
  unfold gN; split
  · rw [Int.natAbs_neg]; exact this
  · exact this
theorem rlowest_v (x y : Int) (h : y ≠ 0) (k : Nat) (hk : k ≤ 100000) (hx : x.natAbs < 256 ^ k) (hy : y.natAbs < 256 ^ k) : SoundAt Tryz.prog 46 [rI x, rI y] (rQ (lowN x y) (lowD x y)) := by
  have hg := rgcd_v x y (Nat.le_trans (small_ok _ k hx).1 (by omega)) (Nat.le_trans (small_ok _ k hy).1 (by omega))
  have rs := rsign_v y
  have hq1 := rquo_v x (gN x y) (gN_ne h) (Nat.le_trans (small_ok _ k hx).1 (by omega)) (Nat.le_trans (small_ok _ k (gN_lt hx hy)).1 (by omega))
  have hq2 := rquo_v y (gN x y) (gN_ne h) (Nat.le_trans (small_ok _ k hy).1 (by omega)) (Nat.le_trans (small_ok _ k (gN_lt hx hy)).1 (by omega))
  have hn := rneg_v ((Nat.gcd x.natAbs y.natAbs : Nat) : Int)
  unfold lowN lowD
  by_cases hs : y < 0
  · have e : gN x y = -((Nat.gcd x.natAbs y.natAbs : Nat) : Int) := by unfold gN; rw [if_pos hs]
    have g1 : (y.sign < 0) = True := by simp only [eq_iff_iff, iff_true]; rw [Int.sign_eq_neg_one_of_neg hs]; decide
    rw [← e] at hn
    generalize gN x y = G at *
    generalize x / G = A at *
    generalize y / G = B at *
    generalize x % G = C at *
    generalize y % G = D at *
    generalize ((Nat.gcd x.natAbs y.natAbs : Nat) : Int) = H at *
    refine sound_go (tb := []) 33 [.cell 4 39] [0, 1, 2, 3, 4, 5, 6, 8, 15] mixed Tryz.func46 rfl (by kernel_rfl) (by kernel_rfl) (by kernel_rfl) (by kernel_rfl) ?_
    repeat (first | (simp -implicitDefEqProofs only [go_sem, Nat.reduceAdd, Nat.reduceMul, Nat.reduceEqDiff, Nat.reduceLT, Nat.reduceLeDiff, Nat.reduceSub, Nat.reduceBEq, reduceIte, reduceCtorEq, Int.reduceEq, Int.reduceNe, Nat.reduceBneDiff, Int.reduceLE, Int.reduceLT, Int.reduceToNat, Int.reduceAdd, Int.reduceSub, Int.reduceMul, Int.reduceNeg, g1, rI, di, rQ]) | ((with_reducible refine gcall_eq (hg) ?_ ?_ ?_); (with_reducible rfl); rfl) | ((with_reducible refine gcall_eq (rs) ?_ ?_ ?_); (with_reducible rfl); rfl) | ((with_reducible refine gcall_eq (hn) ?_ ?_ ?_); (with_reducible rfl); rfl) | ((with_reducible refine gcall_eq (hq1) ?_ ?_ ?_); (with_reducible rfl); rfl) | ((with_reducible refine gcall_eq (hq2) ?_ ?_ ?_); (with_reducible rfl); rfl) | (with_reducible exact drawQ_true _ _ (by kernel_rfl)) | (with_reducible refine And.intro (drawQ_true _ _ (by kernel_rfl)) ?_))
  · have e : gN x y = ((Nat.gcd x.natAbs y.natAbs : Nat) : Int) := by unfold gN; rw [if_neg hs]
    have g1 : (y.sign < 0) = False := by simp only [eq_iff_iff, iff_false]; have := Int.sign_nonneg_iff.2 (show 0 ≤ y by omega); omega
    rw [← e] at hg
    generalize gN x y = G at *
    generalize x / G = A at *
    generalize y / G = B at *
    generalize x % G = C at *
    generalize y % G = D at *
    refine sound_go (tb := []) 33 [.cell 4 39] [0, 1, 2, 3, 4, 5, 6, 8, 15] mixed Tryz.func46 rfl (by kernel_rfl) (by kernel_rfl) (by kernel_rfl) (by kernel_rfl) ?_
    repeat (first | (simp -implicitDefEqProofs only [go_sem, Nat.reduceAdd, Nat.reduceMul, Nat.reduceEqDiff, Nat.reduceLT, Nat.reduceLeDiff, Nat.reduceSub, Nat.reduceBEq, reduceIte, reduceCtorEq, Int.reduceEq, Int.reduceNe, Nat.reduceBneDiff, Int.reduceLE, Int.reduceLT, Int.reduceToNat, Int.reduceAdd, Int.reduceSub, Int.reduceMul, Int.reduceNeg, g1, rI, di, rQ]) | ((with_reducible refine gcall_eq (hg) ?_ ?_ ?_); (with_reducible rfl); rfl) | ((with_reducible refine gcall_eq (rs) ?_ ?_ ?_); (with_reducible rfl); rfl) | ((with_reducible refine gcall_eq (hq1) ?_ ?_ ?_); (with_reducible rfl); rfl) | ((with_reducible refine gcall_eq (hq2) ?_ ?_ ?_); (with_reducible rfl); rfl) | (with_reducible exact drawQ_true _ _ (by kernel_rfl)) | (with_reducible refine And.intro (drawQ_true _ _ (by kernel_rfl)) ?_))
theorem rvalidRatio_v (n : Bool) (s : ByteArray) (m : Bool) (t : ByteArray) : SoundAt Tryz.prog 29 [.agg [.bool n, .str s, .bool m, .str t]] (.bool (vRat n s m t)) := by
  have h1 := rvalid_v n s
  have h2 := rvalid_v m t
  unfold vRat
  cases v1 : validB n s.data.toList with
  | false =>
    rw [v1] at h1
    rw [Bool.false_and]
    refine sound_go (tb := []) 24 [.tmp 2] [0, 1, 2] mixed Tryz.func29 rfl (by kernel_rfl) (by kernel_rfl) (by kernel_rfl) (by kernel_rfl) ?_
    repeat (first | (simp -implicitDefEqProofs only [go_sem, Nat.reduceAdd, Nat.reduceMul, Nat.reduceEqDiff, Nat.reduceLT, Nat.reduceLeDiff, Nat.reduceSub, Nat.reduceBEq, reduceIte, reduceCtorEq, Int.reduceEq, Int.reduceNe, Nat.reduceBneDiff, Int.reduceLE, Int.reduceLT, Int.reduceToNat, Int.reduceAdd, Int.reduceSub, Int.reduceMul, Int.reduceNeg]) | ((with_reducible refine gcall_eq (h1) ?_ ?_ ?_); (with_reducible rfl); rfl) | ((with_reducible refine gcall_eq (h2) ?_ ?_ ?_); (with_reducible rfl); rfl) | (with_reducible exact drawQ_true _ _ (by kernel_rfl)) | (with_reducible refine And.intro (drawQ_true _ _ (by kernel_rfl)) ?_))
  | true =>
    rw [v1] at h1
    rw [Bool.true_and]
    cases v2 : validB m t.data.toList with
    | false =>
      rw [v2] at h2
      rw [Bool.false_and]
      refine sound_go (tb := []) 24 [.tmp 2] [0, 1, 2] mixed Tryz.func29 rfl (by kernel_rfl) (by kernel_rfl) (by kernel_rfl) (by kernel_rfl) ?_
      repeat (first | (simp -implicitDefEqProofs only [go_sem, Nat.reduceAdd, Nat.reduceMul, Nat.reduceEqDiff, Nat.reduceLT, Nat.reduceLeDiff, Nat.reduceSub, Nat.reduceBEq, reduceIte, reduceCtorEq, Int.reduceEq, Int.reduceNe, Nat.reduceBneDiff, Int.reduceLE, Int.reduceLT, Int.reduceToNat, Int.reduceAdd, Int.reduceSub, Int.reduceMul, Int.reduceNeg]) | ((with_reducible refine gcall_eq (h1) ?_ ?_ ?_); (with_reducible rfl); rfl) | ((with_reducible refine gcall_eq (h2) ?_ ?_ ?_); (with_reducible rfl); rfl) | (with_reducible exact drawQ_true _ _ (by kernel_rfl)) | (with_reducible refine And.intro (drawQ_true _ _ (by kernel_rfl)) ?_))
    | true =>
      rw [v2] at h2
      rw [Bool.true_and]
      have hz := ba_size t
      cases m with
      | true =>
        rw [Bool.not_true, Bool.false_and]
        refine sound_go (tb := []) 24 [.tmp 2] [0, 1, 2] mixed Tryz.func29 rfl (by kernel_rfl) (by kernel_rfl) (by kernel_rfl) (by kernel_rfl) ?_
        repeat (first | (simp -implicitDefEqProofs only [go_sem, Nat.reduceAdd, Nat.reduceMul, Nat.reduceEqDiff, Nat.reduceLT, Nat.reduceLeDiff, Nat.reduceSub, Nat.reduceBEq, reduceIte, reduceCtorEq, Int.reduceEq, Int.reduceNe, Nat.reduceBneDiff, Int.reduceLE, Int.reduceLT, Int.reduceToNat, Int.reduceAdd, Int.reduceSub, Int.reduceMul, Int.reduceNeg]) | ((with_reducible refine gcall_eq (h1) ?_ ?_ ?_); (with_reducible rfl); rfl) | ((with_reducible refine gcall_eq (h2) ?_ ?_ ?_); (with_reducible rfl); rfl) | (with_reducible exact drawQ_true _ _ (by kernel_rfl)) | (with_reducible refine And.intro (drawQ_true _ _ (by kernel_rfl)) ?_))
      | false =>
        rw [Bool.not_false, Bool.true_and]
        by_cases h0 : t.data.toList = []
        · have g1 : ((0 : Int) < (t.size : Int)) = False := by rw [hz, h0]; simp
          have e : (!(t.data.toList == [])) = false := by rw [h0]; rfl
          rw [e]
          refine sound_go (tb := []) 24 [.tmp 2] [0, 1, 2] mixed Tryz.func29 rfl (by kernel_rfl) (by kernel_rfl) (by kernel_rfl) (by kernel_rfl) ?_
          repeat (first | (simp -implicitDefEqProofs only [go_sem, Nat.reduceAdd, Nat.reduceMul, Nat.reduceEqDiff, Nat.reduceLT, Nat.reduceLeDiff, Nat.reduceSub, Nat.reduceBEq, reduceIte, reduceCtorEq, Int.reduceEq, Int.reduceNe, Nat.reduceBneDiff, Int.reduceLE, Int.reduceLT, Int.reduceToNat, Int.reduceAdd, Int.reduceSub, Int.reduceMul, Int.reduceNeg, g1]) | ((with_reducible refine gcall_eq (h1) ?_ ?_ ?_); (with_reducible rfl); rfl) | ((with_reducible refine gcall_eq (h2) ?_ ?_ ?_); (with_reducible rfl); rfl) | (with_reducible exact drawQ_true _ _ (by kernel_rfl)) | (with_reducible refine And.intro (drawQ_true _ _ (by kernel_rfl)) ?_))
        · have g1 : ((0 : Int) < (t.size : Int)) = True := by rw [hz]; have := List.length_pos_iff.2 h0; simp only [eq_iff_iff, iff_true]; omega
          rw [empty_eq h0]
          refine sound_go (tb := []) 24 [.tmp 2] [0, 1, 2] mixed Tryz.func29 rfl (by kernel_rfl) (by kernel_rfl) (by kernel_rfl) (by kernel_rfl) ?_
          repeat (first | (simp -implicitDefEqProofs only [go_sem, Nat.reduceAdd, Nat.reduceMul, Nat.reduceEqDiff, Nat.reduceLT, Nat.reduceLeDiff, Nat.reduceSub, Nat.reduceBEq, reduceIte, reduceCtorEq, Int.reduceEq, Int.reduceNe, Nat.reduceBneDiff, Int.reduceLE, Int.reduceLT, Int.reduceToNat, Int.reduceAdd, Int.reduceSub, Int.reduceMul, Int.reduceNeg, g1]) | ((with_reducible refine gcall_eq (h1) ?_ ?_ ?_); (with_reducible rfl); rfl) | ((with_reducible refine gcall_eq (h2) ?_ ?_ ?_); (with_reducible rfl); rfl) | (with_reducible exact drawQ_true _ _ (by kernel_rfl)) | (with_reducible refine And.intro (drawQ_true _ _ (by kernel_rfl)) ?_))
theorem rfromRatio_v (n : Bool) (s : ByteArray) (m : Bool) (t : ByteArray) (h1 : s.size ≤ 1000000) (h2 : t.size ≤ 1000000) : SoundAt Tryz.prog 34 [.agg [.bool n, .str s, .bool m, .str t]] (rQ (wnum n s) (wnum m t)) := by
  have hf : SoundAt Tryz.prog 48 [.agg [.bool n, .str s]] (rI (wnum n s)) := rfrom_v n s h1
  have hg : SoundAt Tryz.prog 48 [.agg [.bool m, .str t]] (rI (wnum m t)) := rfrom_v m t h2
  generalize wnum n s = X at *
  generalize wnum m t = Y at *
  refine sound_go (tb := []) 10 [.cell 2 39] [0, 1, 2] mixed Tryz.func34 rfl (by kernel_rfl) (by kernel_rfl) (by kernel_rfl) (by kernel_rfl) ?_
  repeat (first | (simp -implicitDefEqProofs only [go_sem, Nat.reduceAdd, Nat.reduceMul, Nat.reduceEqDiff, Nat.reduceLT, Nat.reduceLeDiff, Nat.reduceSub, Nat.reduceBEq, reduceIte, reduceCtorEq, Int.reduceEq, Int.reduceNe, Nat.reduceBneDiff, Int.reduceLE, Int.reduceLT, Int.reduceToNat, Int.reduceAdd, Int.reduceSub, Int.reduceMul, Int.reduceNeg, rQ, rI, di]) | ((with_reducible refine gcall_eq (hf) ?_ ?_ ?_); (with_reducible rfl); rfl) | ((with_reducible refine gcall_eq (hg) ?_ ?_ ?_); (with_reducible rfl); rfl) | (with_reducible exact drawQ_true _ _ (by kernel_rfl)) | (with_reducible refine And.intro (drawQ_true _ _ (by kernel_rfl)) ?_))
section
variable (a b c d : Int) (k : Nat) (hk : k ≤ 10000) (ha : a.natAbs < 256 ^ k) (hb : b.natAbs < 256 ^ k) (hc : c.natAbs < 256 ^ k) (hd : d.natAbs < 256 ^ k)
include hk ha hb hc hd
theorem rcompareQ_v : SoundAt Tryz.prog 33 [rQ a b, rQ c d] (.int .i64 (a * d - c * b).sign) := by
  have m1 := rmul_v a d (by have := (small_ok _ k ha).1; have := (small_ok _ k hd).1; omega)
  have m2 := rmul_v c b (by have := (small_ok _ k hc).1; have := (small_ok _ k hb).1; omega)
  have hr := rcompare_v (a * d) (c * b) (e9_sum (k := k + k) (by omega) (mul_lt ha hd) (mul_lt hc hb))
  generalize a * d = X at *
  generalize c * b = Y at *
  refine sound_go (tb := []) 16 [.tmp 4] [0, 1, 2, 3, 4] mixed Tryz.func33 rfl (by kernel_rfl) (by kernel_rfl) (by kernel_rfl) (by kernel_rfl) ?_
  repeat (first | (simp -implicitDefEqProofs only [go_sem, Nat.reduceAdd, Nat.reduceMul, Nat.reduceEqDiff, Nat.reduceLT, Nat.reduceLeDiff, Nat.reduceSub, Nat.reduceBEq, reduceIte, reduceCtorEq, Int.reduceEq, Int.reduceNe, Nat.reduceBneDiff, Int.reduceLE, Int.reduceLT, Int.reduceToNat, Int.reduceAdd, Int.reduceSub, Int.reduceMul, Int.reduceNeg, rQ, rI, di]) | ((with_reducible refine gcall_eq (m1) ?_ ?_ ?_); (with_reducible rfl); rfl) | ((with_reducible refine gcall_eq (m2) ?_ ?_ ?_); (with_reducible rfl); rfl) | ((with_reducible refine gcall_eq (hr) ?_ ?_ ?_); (with_reducible rfl); rfl) | (with_reducible exact drawQ_true _ _ (by kernel_rfl)) | (with_reducible refine And.intro (drawQ_true _ _ (by kernel_rfl)) ?_))
end
end Go.Proofs.YtnpclmmmngmdkaaGreat

namespace Go.Dg

/-! ### sums -/
/-- The sum of the first n values. -/
def sm (f : Nat → Int) : Nat → Int
  | 0 => 0
  | n + 1 => sm f n + f n
theorem sm_congr {f g : Nat → Int} : ∀ (n : Nat), (∀ i, i < n → f i = g i) → sm f n = sm g n
  | 0, _ => rfl
  | n + 1, h => by rw [sm, sm, sm_congr n (fun i hi => h i (Nat.lt_succ_of_lt hi)), h n (Nat.lt_succ_self n)]
theorem sm_add (f g : Nat → Int) : ∀ n, sm (fun i => f i + g i) n = sm f n + sm g n
  | 0 => rfl
  | n + 1 => by simp only [sm, sm_add f g n]; omega
theorem sm_mul (c : Int) (f : Nat → Int) : ∀ n, sm (fun i => c * f i) n = c * sm f n
  | 0 => by simp [sm]
  | n + 1 => by simp only [sm, sm_mul c f n, Int.mul_add]
theorem sm_first (f : Nat → Int) : ∀ n, sm f (n + 1) = f 0 + sm (fun i => f (i + 1)) n
  | 0 => by simp [sm]
  | n + 1 => by rw [sm, sm_first f n, sm]; omega
theorem sm_more (f : Nat → Int) {n m : Nat} (h : n ≤ m) (hz : ∀ i, n ≤ i → i < m → f i = 0) : sm f m = sm f n := by
  induction m with
  | zero => obtain rfl : n = 0 := by omega
            rfl
  | succ m ih =>
    rcases Nat.lt_or_eq_of_le h with h1 | h1
    · rw [sm, ih (by omega) (fun i a b => hz i a (by omega)), hz m (by omega) (by omega), Int.add_zero]
    · rw [h1]
theorem sm_tri (g : Nat → Nat → Int) : ∀ n, sm (fun j => sm (fun i => g i j) (j + 1)) n = sm (fun i => sm (fun k => g i (i + k)) (n - i)) n
  | 0 => rfl
  | n + 1 => by
    rw [sm, sm_tri g n]
    have h1 : sm (fun i => sm (fun k => g i (i + k)) (n + 1 - i)) n = sm (fun i => sm (fun k => g i (i + k)) (n - i) + g i n) n :=
      sm_congr n fun i hi => by
        have e : n + 1 - i = (n - i) + 1 := by omega
        have e2 : i + (n - i) = n := by omega
        rw [e, sm, e2]
    have e3 : n + 1 - n = 1 := by omega
    rw [sm, sm, h1, sm_add, e3]
    simp only [sm, Nat.add_zero, Int.zero_add]
    omega
theorem sm_le {f g : Nat → Int} : ∀ (n : Nat), (∀ i, i < n → f i ≤ g i) → sm f n ≤ sm g n
  | 0, _ => Int.le_refl 0
  | n + 1, h => Int.add_le_add (sm_le n fun i hi => h i (Nat.lt_succ_of_lt hi)) (h n (Nat.lt_succ_self n))

/-! ### binomials -/
/-- The number of ways to choose k of n elements. -/
def bin : Nat → Nat → Nat
  | _, 0 => 1
  | 0, _ + 1 => 0
  | n + 1, k + 1 => bin n k + bin n (k + 1)
theorem bin_zero (n : Nat) : bin n 0 = 1 := by cases n <;> rfl
theorem bin_lt : ∀ {n k : Nat}, n < k → bin n k = 0
  | 0, 0, h => absurd h (Nat.lt_irrefl 0)
  | 0, _ + 1, _ => rfl
  | n + 1, 0, h => absurd h (Nat.not_lt_zero _)
  | n + 1, k + 1, h => by rw [bin, bin_lt (by omega), bin_lt (by omega)]
theorem bin_self : ∀ n, bin n n = 1
  | 0 => rfl
  | n + 1 => by rw [bin, bin_self n, bin_lt (Nat.lt_succ_self n)]
/-- The next one of a row. -/
theorem bin_step : ∀ (n k : Nat), (bin n (k + 1) : Int) * ((k : Int) + 1) = (bin n k : Int) * ((n : Int) - (k : Int))
  | 0, 0 => by simp [bin]
  | 0, k + 1 => by simp [bin]
  | n + 1, 0 => by
    have h := bin_step n 0
    rw [bin_zero] at h ⊢
    rw [bin, bin_zero]
    simp only [Int.natCast_add, Int.natCast_zero, Int.zero_add, Int.mul_one, Int.sub_zero, Int.one_mul] at h ⊢
    omega
  | n + 1, k + 1 => by
    have h1 := bin_step n k
    have h2 := bin_step n (k + 1)
    rw [bin, bin]
    simp only [Int.natCast_add] at h1 h2 ⊢
    generalize (bin n k : Int) = a at *
    generalize (bin n (k + 1) : Int) = b at *
    generalize (bin n (k + 1 + 1) : Int) = c at *
    generalize (n : Int) = N at *
    generalize (k : Int) = K at *
    simp only [Int.mul_add, Int.add_mul, Int.mul_sub, Int.sub_mul] at h1 h2 ⊢
    simp only [Int.mul_one] at h1 h2 ⊢
    omega
theorem bin_pos : ∀ {n k : Nat}, k ≤ n → 0 < bin n k
  | _, 0, _ => by rw [bin_zero]; decide
  | 0, k + 1, h => absurd h (by omega)
  | n + 1, k + 1, h => by rw [bin]; have := bin_pos (n := n) (k := k) (by omega); omega
theorem bin_le_pow : ∀ (n k : Nat), bin n k ≤ 2 ^ n
  | 0, 0 => by decide
  | 0, _ + 1 => by simp [bin]
  | n + 1, 0 => by rw [bin_zero]; exact Nat.pow_pos (by decide)
  | n + 1, k + 1 => by rw [bin, Nat.pow_succ]; have := bin_le_pow n k; have := bin_le_pow n (k + 1); omega
theorem bin_symm : ∀ {n k : Nat}, k ≤ n → bin n (n - k) = bin n k
  | 0, 0, _ => rfl
  | 0, k + 1, h => absurd h (by omega)
  | n + 1, 0, _ => by rw [Nat.sub_zero, bin_self, bin_zero]
  | n + 1, k + 1, h => by
    rcases Nat.lt_or_eq_of_le h with h1 | h1
    · have e : n + 1 - (k + 1) = (n - (k + 1)) + 1 := by omega
      have e2 : n - (k + 1) + 1 = n - k := by omega
      rw [e, bin, bin_symm (by omega : k + 1 ≤ n), e2, bin_symm (by omega : k ≤ n), bin, Nat.add_comm]
    · rw [h1, Nat.sub_self, bin_zero, bin_self]
theorem pow_s (x : Int) (n : Nat) : x ^ (n + 1) = x * x ^ n := by rw [Int.pow_succ, Int.mul_comm]
/-- The power of a sum. -/
theorem bin_thm (a b : Int) : ∀ n, sm (fun k => (bin n k : Int) * (a ^ k * b ^ (n - k))) (n + 1) = (a + b) ^ n
  | 0 => by simp [sm, bin]
  | n + 1 => by
    have ih := bin_thm a b n
    rw [sm_first]
    have h1 : sm (fun k => (bin (n + 1) (k + 1) : Int) * (a ^ (k + 1) * b ^ (n + 1 - (k + 1)))) (n + 1)
        = sm (fun k => a * ((bin n k : Int) * (a ^ k * b ^ (n - k))) + (bin n (k + 1) : Int) * (a ^ (k + 1) * b ^ (n - k))) (n + 1) :=
      sm_congr _ fun k _ => by
        have e : n + 1 - (k + 1) = n - k := by omega
        rw [e, bin, Int.natCast_add, Int.add_mul, pow_s]
        congr 1
        rw [Int.mul_assoc, Int.mul_left_comm]
    rw [h1, sm_add, sm_mul, ih]
    have h2 : sm (fun k => (bin n (k + 1) : Int) * (a ^ (k + 1) * b ^ (n - k))) (n + 1) = sm (fun k => b * ((bin n (k + 1) : Int) * (a ^ (k + 1) * b ^ (n - (k + 1))))) n := by
      rw [sm, bin_lt (Nat.lt_succ_self n), Int.natCast_zero, Int.zero_mul, Int.add_zero]
      refine sm_congr _ fun k hk => ?_
      have e : n - k = (n - (k + 1)) + 1 := by omega
      rw [e, pow_s b]
      simp only [Int.mul_comm, Int.mul_left_comm, Int.mul_assoc]
    have h3 := sm_first (fun k => (bin n k : Int) * (a ^ k * b ^ (n - k))) n
    rw [ih] at h3
    rw [h2, sm_mul, bin_zero]
    rw [bin_zero] at h3
    simp only [Int.pow_zero, Int.one_mul, Nat.sub_zero, Int.natCast_one] at h3 ⊢
    rw [pow_s, pow_s, Int.add_mul, h3]
    simp only [Int.mul_add]
    omega

/-! ### polynomials by their values -/
/-- A polynomial at x / y, times y to the power of its degree. -/
def hev : List Int → Int → Int → Int
  | [], _, _ => 0
  | c :: r, x, y => c * y ^ r.length + x * hev r x y
theorem hev_sm : ∀ (p : List Int) (x y : Int), hev p x y = sm (fun i => p.getD i 0 * (x ^ i * y ^ (p.length - 1 - i))) p.length
  | [], _, _ => rfl
  | c :: r, x, y => by
    rw [hev, List.length_cons, sm_first, hev_sm r x y, ← sm_mul]
    congr 1
    · simp
    · refine sm_congr _ fun i hi => ?_
      have e : r.length + 1 - 1 - (i + 1) = r.length - 1 - i := by omega
      rw [e, pow_s, List.getD_cons_succ]
      simp only [Int.mul_comm, Int.mul_left_comm, Int.mul_assoc]
/-- Lists of equal length with equal values are equal. -/
theorem hev_uniq : ∀ {p q : List Int}, p.length = q.length → (∀ x : Int, 1 ≤ x → hev p x 1 = hev q x 1) → p = q
  | [], [], _, _ => rfl
  | [], _ :: _, h, _ => by simp at h
  | _ :: _, [], h, _ => by simp at h
  | a :: p, b :: q, hl, h => by
    simp only [hev, Int.one_pow, Int.mul_one] at h
    have hab : a = b := by
      have h1 := h ((a - b).natAbs + 1) (by omega)
      generalize hev p _ 1 = A at h1
      generalize hev q _ 1 = B at h1
      have h2 : a - b = (((a - b).natAbs : Int) + 1) * (B - A) := by rw [Int.mul_sub]; omega
      have h3 : (((a - b).natAbs : Int) + 1) ∣ (a - b) := ⟨_, h2⟩
      have h4 := Int.natAbs_dvd_natAbs.2 h3
      rcases Nat.eq_zero_or_pos (a - b).natAbs with h0 | h0
      · omega
      · have := Nat.le_of_dvd h0 h4
        omega
    subst hab
    congr 1
    refine hev_uniq (by simpa using hl) fun x hx => ?_
    have h1 := h x hx
    have h2 : x * hev p x 1 = x * hev q x 1 := by omega
    exact Int.eq_of_mul_eq_mul_left (by omega) h2
theorem hev_append : ∀ (p q : List Int) (x y : Int), hev (p ++ q) x y = y ^ q.length * hev p x y + x ^ p.length * hev q x y
  | [], q, x, y => by simp [hev]
  | c :: r, q, x, y => by
    rw [List.cons_append, hev, hev, hev_append r q x y, List.length_append, List.length_cons, Int.pow_add, pow_s]
    simp only [Int.mul_add]
    simp only [Int.mul_comm, Int.mul_left_comm, Int.mul_assoc]
    omega
theorem hev_reverse : ∀ (p : List Int) (x y : Int), hev p.reverse x y = hev p y x
  | [], _, _ => rfl
  | c :: r, x, y => by
    rw [List.reverse_cons, hev_append, hev_reverse r x y]
    simp only [hev, List.length_nil, List.length_singleton, List.length_reverse, Int.pow_zero, Int.mul_one, Int.mul_zero, Int.add_zero]
    rw [show y ^ 1 = y from by rw [Int.pow_succ, Int.pow_zero, Int.one_mul], Int.mul_comm c]
    omega
/-- A list of sums of products, at two values. -/
theorem hev_ofFn (F : Nat → Int) (n : Nat) (x y : Int) : hev ((List.range (n + 1)).map F) x y = sm (fun j => F j * (x ^ j * y ^ (n - j))) (n + 1) := by
  rw [hev_sm]
  simp only [List.length_map, List.length_range]
  refine sm_congr _ fun j hj => ?_
  rw [List.getD_eq_getElem?_getD]
  simp [hj]

/-- The list whose value at x, y is the sum of f i x^i (c x + y)^(n - i). -/
def trans (f : List Int) (c : Int) (n : Nat) : List Int := (List.range (n + 1)).map fun j => sm (fun i => f.getD i 0 * (c ^ (j - i) * (bin (n - i) (j - i) : Int))) (j + 1)
theorem trans_length (f : List Int) (c : Int) (n : Nat) : (trans f c n).length = n + 1 := by simp [trans]
theorem mul_pow' (a b : Int) : ∀ n : Nat, (a * b) ^ n = a ^ n * b ^ n
  | 0 => by simp
  | n + 1 => by rw [pow_s, pow_s, pow_s, mul_pow' a b n]; simp only [Int.mul_comm, Int.mul_left_comm, Int.mul_assoc]
theorem sm_mulr (c : Int) (f : Nat → Int) (n : Nat) : sm (fun i => f i * c) n = sm f n * c := by
  rw [Int.mul_comm, ← sm_mul]; exact sm_congr n fun i _ => Int.mul_comm _ _
theorem trans_hev (f : List Int) (c : Int) (n : Nat) (x y : Int) : hev (trans f c n) x y = sm (fun i => f.getD i 0 * (x ^ i * (c * x + y) ^ (n - i))) (n + 1) := by
  rw [trans, hev_ofFn]
  have h1 : sm (fun j => sm (fun i => f.getD i 0 * (c ^ (j - i) * (bin (n - i) (j - i) : Int))) (j + 1) * (x ^ j * y ^ (n - j))) (n + 1)
      = sm (fun j => sm (fun i => f.getD i 0 * (c ^ (j - i) * (bin (n - i) (j - i) : Int)) * (x ^ j * y ^ (n - j))) (j + 1)) (n + 1) :=
    sm_congr _ fun j _ => (sm_mulr _ _ _).symm
  rw [h1, sm_tri (fun i j => f.getD i 0 * (c ^ (j - i) * (bin (n - i) (j - i) : Int)) * (x ^ j * y ^ (n - j)))]
  refine sm_congr _ fun i hi => ?_
  have e : n + 1 - i = (n - i) + 1 := by omega
  rw [← bin_thm (c * x) y (n - i), e, ← sm_mul, ← sm_mul]
  refine sm_congr _ fun k hk => ?_
  have e1 : i + k - i = k := by omega
  have e2 : n - (i + k) = n - i - k := by omega
  rw [e1, e2, mul_pow', Int.pow_add]
  simp only [Int.mul_comm, Int.mul_left_comm, Int.mul_assoc]
theorem hev_deg {f : List Int} {n : Nat} (h : f.length ≤ n + 1) (x s : Int) : sm (fun i => f.getD i 0 * (x ^ i * s ^ (n - i))) (n + 1) = s ^ (n + 1 - f.length) * hev f x s := by
  rw [sm_more _ h (fun i h1 _ => by rw [List.getD_eq_getElem?_getD, List.getElem?_eq_none h1]; simp), hev_sm, ← sm_mul]
  refine sm_congr _ fun i hi => ?_
  have e : n - i = (n + 1 - f.length) + (f.length - 1 - i) := by omega
  rw [e, Int.pow_add]
  simp only [Int.mul_comm, Int.mul_left_comm, Int.mul_assoc]
theorem trans_hev' {f : List Int} {n : Nat} (h : f.length ≤ n + 1) (c x y : Int) : hev (trans f c n) x y = (c * x + y) ^ (n + 1 - f.length) * hev f x (c * x + y) := by
  rw [trans_hev, hev_deg h]
theorem trans_full {f : List Int} {n : Nat} (h : f.length = n + 1) (c x y : Int) : hev (trans f c n) x y = hev f x (c * x + y) := by
  rw [trans_hev' (by omega), h, Nat.sub_self, Int.pow_zero, Int.one_mul]
/-- Each value times a power. -/
def scaleP (b : Int) (n : Nat) (f : List Int) : List Int := (List.range (n + 1)).map fun j => f.getD j 0 * b ^ (n - j)
theorem scaleP_hev {f : List Int} {n : Nat} (h : f.length = n + 1) (b x y : Int) : hev (scaleP b n f) x y = hev f x (b * y) := by
  rw [scaleP, hev_ofFn, hev_sm, h]
  refine sm_congr _ fun j hj => ?_
  rw [Nat.add_sub_cancel, mul_pow']
  simp only [Int.mul_comm, Int.mul_left_comm, Int.mul_assoc]
end Go.Dg

namespace Go.Proofs.YtnpclmmmngmdkaaGreat
open Go.Vl Go.RowKit Go.Dg

theorem mag_ok {x : Int} (h : x.natAbs < 2 ^ 65536) : (digs 256 x.natAbs).length ≤ 8192 := (digs_len_le (by decide) x.natAbs 8192).2 (p2_256 (k := 8192) h (by decide))
theorem outPV_ok {n : Int} (h : n.natAbs < 2 ^ 65536) : outPV n = .tup [wPV n, .int .i64 0] := by
  rw [outPV, if_neg (Nat.not_lt.2 (blen_le 65536 _ h))]
theorem p2_blen {x : Int} {B : Nat} (h : x.natAbs < 2 ^ B) : blen x.natAbs ≤ B := blen_le B _ h
/-- The bytes of an integer. -/
abbrev mB (x : Int) : ByteArray := ⟨(magL x.natAbs).toArray⟩
theorem mB_size {x : Int} (h : x.natAbs < 2 ^ 65536) : (mB x).size ≤ 100000 := by rw [magL_size]; have := mag_ok h; omega
theorem mB_valid {x : Int} (h : x.natAbs < 2 ^ 65536) : validB (decide (x < 0)) (mB x).data.toList = true := validB_magL x (mag_ok h)
theorem sv_magL (x : Int) : (bnum (mB x).data.toList) = x.natAbs := by
  have h := wnum_magL x
  unfold wnum at h
  have h2 := congrArg Int.natAbs h
  rwa [sv_abs] at h2
theorem wMul_i {x y : Int} (hx : x.natAbs < 2 ^ 65536) (hy : y.natAbs < 2 ^ 65536) : SoundAt Tryz.prog 80 [wPV x, wPV y] (outPV (x * y)) := by
  have h := wMul_v (decide (x < 0)) (decide (y < 0)) (mB x) (mB y) (mB_valid hx) (mB_valid hy) (mB_size hx) (mB_size hy)
  rwa [wnum_magL, wnum_magL] at h
theorem wAdd_i {x y : Int} (hx : x.natAbs < 2 ^ 65536) (hy : y.natAbs < 2 ^ 65536) : SoundAt Tryz.prog 81 [wPV x, wPV y] (outPV (x + y)) := by
  have h := wAdd_v (decide (x < 0)) (decide (y < 0)) (mB x) (mB y) (mB_valid hx) (mB_valid hy) (mB_size hx) (mB_size hy)
  rwa [wnum_magL, wnum_magL] at h
theorem wShift_i {x : Int} (n : Int) (hx : x.natAbs < 2 ^ 65536) (h1 : -65536 ≤ n) (h2 : n ≤ 65536) : SoundAt Tryz.prog 61 [wPV x, .int .i64 n] (outPV (shiftI x n)) := by
  have h := wShift_v (decide (x < 0)) (mB x) n (mB_valid hx) h1 h2 (mB_size hx)
  rwa [wnum_magL] at h
theorem wSign_i {x : Int} (hx : x.natAbs < 2 ^ 65536) : SoundAt Tryz.prog 43 [wPV x] (.int .i64 x.sign) := by
  have h := wSign_v (decide (x < 0)) (mB x) (mB_valid hx) (mB_size hx)
  rwa [wnum_magL] at h
theorem wLen_i {x : Int} (hx : x.natAbs < 2 ^ 65536) : SoundAt Tryz.prog 79 [wPV x] (.int .i64 (blen x.natAbs : Int)) := by
  have h := wLen_v (decide (x < 0)) (mB x) (mB_valid hx) (mB_size hx)
  rwa [sv_magL] at h
theorem mB_ne {x : Int} (h : x ≠ 0) : (mB x).data.toList ≠ [] := fun e => h ((magL_nil x).1 e)
theorem wRatio_i {x y : Int} (hx : x.natAbs < 2 ^ 65536) (hy : y.natAbs < 2 ^ 65536) (h0 : y ≠ 0) : SoundAt Tryz.prog 84 [wPV x, wPV y] (outQ (lowN x y) (lowD x y)) := by
  have h := wRatio_v (decide (x < 0)) (decide (y < 0)) (mB x) (mB y) (mB_valid hx) (mB_valid hy) (mB_ne h0) (mB_size hx) (mB_size hy)
  rwa [wnum_magL, wnum_magL] at h
theorem vRat_i {x y : Int} (hx : x.natAbs < 2 ^ 65536) (hy : y.natAbs < 2 ^ 65536) (h0 : 0 < y) : vRat (decide (x < 0)) (mB x) (decide (y < 0)) (mB y) = true := by
  unfold vRat
  rw [mB_valid hx, mB_valid hy, empty_eq (mB_ne (show y ≠ 0 by omega))]
  have : decide (y < 0) = false := by simp; omega
  rw [this]; rfl
theorem wCompareRatio_i {a b c d : Int} (ha : a.natAbs < 2 ^ 65536) (hb : b.natAbs < 2 ^ 65536) (hc : c.natAbs < 2 ^ 65536) (hd : d.natAbs < 2 ^ 65536) (b0 : 0 < b) (d0 : 0 < d) :
    SoundAt Tryz.prog 85 [ratPV a b, ratPV c d] (.tup [.int .i64 (a * d - c * b).sign, .int .i64 0]) := by
  have h := wCompareRatio_v (decide (a < 0)) (decide (b < 0)) (decide (c < 0)) (decide (d < 0)) (mB a) (mB b) (mB c) (mB d) (vRat_i ha hb b0) (vRat_i hc hd d0) (mB_size ha) (mB_size hb) (mB_size hc) (mB_size hd)
  rwa [wnum_magL, wnum_magL, wnum_magL, wnum_magL] at h
theorem wMulRatio_i {a b c d : Int} (ha : a.natAbs < 2 ^ 65536) (hb : b.natAbs < 2 ^ 65536) (hc : c.natAbs < 2 ^ 65536) (hd : d.natAbs < 2 ^ 65536) (b0 : 0 < b) (d0 : 0 < d) :
    SoundAt Tryz.prog 63 [ratPV a b, ratPV c d] (outQ (lowN (a * c) (b * d)) (lowD (a * c) (b * d))) := by
  have h := wMulRatio_v (decide (a < 0)) (decide (b < 0)) (decide (c < 0)) (decide (d < 0)) (mB a) (mB b) (mB c) (mB d) (vRat_i ha hb b0) (vRat_i hc hd d0) (mB_size ha) (mB_size hb) (mB_size hc) (mB_size hd)
  rwa [wnum_magL, wnum_magL, wnum_magL, wnum_magL] at h
theorem e9_p2 {x : Int} {B k : Nat} (h : x.natAbs < 2 ^ B) (hk : B ≤ 8 * k) : (digs E9 x.natAbs).length ≤ k := (small_ok x k (p2_256 h hk)).1
theorem d8_p2 {x : Int} {B k : Nat} (h : x.natAbs < 2 ^ B) (hk : B ≤ 8 * k) : (digs 256 x.natAbs).length ≤ k := (small_ok x k (p2_256 h hk)).2
theorem rto_i {x : Int} (h : x.natAbs < 2 ^ 8000000) : SoundAt Tryz.prog 32 [rI x] (wPV x) := rto_v x (e9_p2 h (by decide)) (Nat.le_trans (d8_p2 h (k := 1000000) (by decide)) (by decide))
theorem radd_i {x y : Int} (hx : x.natAbs < 2 ^ 7000000) (hy : y.natAbs < 2 ^ 7000000) : SoundAt Tryz.prog 92 [rI x, rI y] (rI (x + y)) :=
  radd_v x y (e9_sum (k := 1000000) (by decide) (p2_256 (k := 1000000) hx (by decide)) (p2_256 (k := 1000000) hy (by decide)))
theorem rmul_i {x y : Int} (hx : x.natAbs < 2 ^ 7000000) (hy : y.natAbs < 2 ^ 7000000) : SoundAt Tryz.prog 66 [rI x, rI y] (rI (x * y)) :=
  rmul_v x y (by have := e9_p2 hx (k := 1000000) (by decide); have := e9_p2 hy (k := 1000000) (by decide); omega)
end Go.Proofs.YtnpclmmmngmdkaaGreat
