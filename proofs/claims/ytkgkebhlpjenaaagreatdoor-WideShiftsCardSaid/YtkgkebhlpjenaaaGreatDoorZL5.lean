/-
  ZL5 (merged for the claim).
-/
import Derived.Test.YtkgkebhlpjenaaaGreatDoorZR1
set_option linter.unusedSimpArgs false
set_option linter.unusedVariables false
namespace Go.Proofs.YtkgkebhlpjenaaaGreatDoor
open Go.Vl Go.RowKit Go.Dg

theorem blen_mul2 (k m : Nat) (h : m ≠ 0) : blen (m * 2 ^ k) = blen m + k := by
  have hp : 0 < 2 ^ k := Nat.pow_pos (by decide)
  have e : m * 2 ^ k / 2 ^ k = m := Nat.mul_div_cancel _ hp
  have := blen_div k (m * 2 ^ k) (by rw [e]; exact h)
  rw [e] at this
  exact this
theorem shift_far {x : Int} (h : x.natAbs < 256 ^ 60) (k l : Nat) (hk : 2000 ≤ k) (hl : 2000 ≤ l) : x / 2 ^ k = x / 2 ^ l := by
  have key : ∀ n, 2000 ≤ n → x / 2 ^ n = if x < 0 then -1 else 0 := by
    intro n hn
    have h1 : (256 : Nat) ^ 60 < 2 ^ n := p256_lt 60 n (by omega)
    have h2 : ((2 ^ n : Nat) : Int) = (2 : Int) ^ n := by simp [Int.natCast_pow]
    rw [← h2]
    generalize 2 ^ n = M at *
    generalize (256 : Nat) ^ 60 = K at *
    split
    · have := (Int.ediv_emod_unique (a := x) (r := x + M) (q := -1) (b := (M : Int)) (by omega)).2 ⟨by omega, by omega, by omega⟩
      exact this.1
    · exact Int.ediv_eq_zero_of_lt (by omega) (by omega)
  rw [key k hk, key l hl]
theorem natAbs_pow2 (x : Int) (k : Nat) : (x * 2 ^ k).natAbs = x.natAbs * 2 ^ k := by
  rw [Int.natAbs_mul]; congr 1
theorem two_pow_256 (k : Nat) (hk : k ≤ 2000) : (2 : Nat) ^ k < 256 ^ 251 := lt_p256 251 k (by omega)
theorem magL_valid {n : Int} (h : blen n.natAbs ≤ 65536) : (digs 256 n.natAbs).length ≤ 8192 := blen_digs 65536 8192 h (by decide)
set_option maxHeartbeats 4000000 in
theorem WideShifts_v (an : Bool) (a : ByteArray) (n : Int) (h1 : -9223372036854775808 ≤ n) (h2 : n ≤ 9223372036854775807) : SoundAt Tryz.prog 3 [.agg [.bool an, .str a], .int .i64 n] (.bool true) := by
  have hs := short_v [(an, a)] (by simp)
  have hv2 := valid_v [(an, a)] (by simp)
  simp only [List.map_cons, List.map_nil, wA, List.all_cons, List.all_nil, Bool.and_true] at hs hv2
  have hk := known_v
  by_cases ha : a.size ≤ 60
  · have e0 : decide (a.size ≤ 60) = true := by simp [ha]
    rw [e0] at hs
    have z1 : ((⟨#[]⟩ : ByteArray) == ⟨#[]⟩) = true := ba_self _
    have z0 : ((0 : Int) == 0) = true := rfl
    have z2 : ((2 : Int) == 2) = true := rfl
    have z3 : ((3 : Int) == 3) = true := rfl
    have z7 : ((7 : Int) == 7) = true := rfl
    have b1 : ∀ b : Bool, (b == b) = true := fun b => by cases b <;> rfl
    have hx := wnum_lt an a 60 ha
    cases hv : validB an a.data.toList with
    | false =>
      have hm := wShift_no an a n hv
      rw [refused_eq] at hm
      rw [hv] at hv2
      refine sound_go (tb := []) 142 [.tmp 4] [0, 1, 2, 4, 5, 6, 7, 8, 10, 11, 12, 16, 27, 43, 57, 59, 84, 96] mixed Tryz.func3 rfl (by kernel_rfl) (by kernel_rfl) (by kernel_rfl) (by kernel_rfl) ?_
      repeat (first | (simp -implicitDefEqProofs only [go_sem, Nat.reduceAdd, Nat.reduceMul, Nat.reduceEqDiff, Nat.reduceLT, Nat.reduceLeDiff, Nat.reduceSub, Nat.reduceBEq, reduceIte, reduceCtorEq, Int.reduceEq, Int.reduceNe, Nat.reduceBneDiff, Int.reduceLE, Int.reduceLT, Int.reduceToNat, Int.reduceAdd, Int.reduceSub, Int.reduceMul, Int.reduceNeg, T_ok3, T_agg3, T_isinfo3, T_info3, T_cells3, T_zero3, T_int3, T_ok4, T_agg4, T_isinfo4, T_info4, T_cells4, T_zero4, T_bool4, T_ok9, T_agg9, T_isinfo9, T_info9, T_cells9, T_zero9, T_str9, T_len9t, T_ok23, T_agg23, T_isinfo23, T_info23, T_cells23, T_zero23, T_build23, T_f23_0, T_p23_0, T_f23_1, T_p23_1, T_eqs23, T_ok26, T_agg26, T_isinfo26, T_info26, T_cells26, T_zero26, T_int26, T_ok29, T_agg29, T_isinfo29, T_info29, T_cells29, T_zero29, T_elem29, T_under29, T_len29s, T_len29n, T_len29b, T_ok31, T_agg31, T_isinfo31, T_info31, T_cells31, T_zero31, T_build31, T_f31_0, T_p31_0, T_f31_1, T_p31_1, T_ok79, T_agg79, T_isinfo79, T_info79, T_cells79, T_zero79, T_elem79, T_under79, T_len79s, T_len79n, T_len79b, z1, z2, b1]) | ((with_reducible refine gcall_eq (hs) ?_ ?_ ?_); (with_reducible rfl); rfl) | ((with_reducible refine gcall_eq (hm) ?_ ?_ ?_); (with_reducible rfl); rfl) | ((with_reducible refine gcall_eq (hv2) ?_ ?_ ?_); (with_reducible rfl); rfl) | ((with_reducible refine gcall_eq (hk) ?_ ?_ ?_); (with_reducible rfl); rfl) | (with_reducible exact drawQ_true _ _ (by kernel_rfl)) | (with_reducible refine And.intro (drawQ_true _ _ (by kernel_rfl)) ?_))
    | true =>
      rw [hv] at hv2
      by_cases hlo : n < -65536
      · have g1 : (n < -65536) = True := by simp only [eq_iff_iff, iff_true]; exact hlo
        have hm := wShift_far an a n hv (.inl hlo)
        refine sound_go (tb := []) 142 [.tmp 4] [0, 1, 2, 4, 5, 6, 7, 8, 10, 11, 12, 16, 27, 43, 57, 59, 84, 96] mixed Tryz.func3 rfl (by kernel_rfl) (by kernel_rfl) (by kernel_rfl) (by kernel_rfl) ?_
        repeat (first | (simp -implicitDefEqProofs only [go_sem, Nat.reduceAdd, Nat.reduceMul, Nat.reduceEqDiff, Nat.reduceLT, Nat.reduceLeDiff, Nat.reduceSub, Nat.reduceBEq, reduceIte, reduceCtorEq, Int.reduceEq, Int.reduceNe, Nat.reduceBneDiff, Int.reduceLE, Int.reduceLT, Int.reduceToNat, Int.reduceAdd, Int.reduceSub, Int.reduceMul, Int.reduceNeg, T_ok3, T_agg3, T_isinfo3, T_info3, T_cells3, T_zero3, T_int3, T_ok4, T_agg4, T_isinfo4, T_info4, T_cells4, T_zero4, T_bool4, T_ok9, T_agg9, T_isinfo9, T_info9, T_cells9, T_zero9, T_str9, T_len9t, T_ok23, T_agg23, T_isinfo23, T_info23, T_cells23, T_zero23, T_build23, T_f23_0, T_p23_0, T_f23_1, T_p23_1, T_eqs23, T_ok26, T_agg26, T_isinfo26, T_info26, T_cells26, T_zero26, T_int26, T_ok29, T_agg29, T_isinfo29, T_info29, T_cells29, T_zero29, T_elem29, T_under29, T_len29s, T_len29n, T_len29b, T_ok31, T_agg31, T_isinfo31, T_info31, T_cells31, T_zero31, T_build31, T_f31_0, T_p31_0, T_f31_1, T_p31_1, T_ok79, T_agg79, T_isinfo79, T_info79, T_cells79, T_zero79, T_elem79, T_under79, T_len79s, T_len79n, T_len79b, g1, z1, z3, b1]) | ((with_reducible refine gcall_eq (hs) ?_ ?_ ?_); (with_reducible rfl); rfl) | ((with_reducible refine gcall_eq (hm) ?_ ?_ ?_); (with_reducible rfl); rfl) | ((with_reducible refine gcall_eq (hv2) ?_ ?_ ?_); (with_reducible rfl); rfl) | ((with_reducible refine gcall_eq (hk) ?_ ?_ ?_); (with_reducible rfl); rfl) | (with_reducible exact drawQ_true _ _ (by kernel_rfl)) | (with_reducible refine And.intro (drawQ_true _ _ (by kernel_rfl)) ?_))
      have g1 : (n < -65536) = False := by simp only [eq_iff_iff, iff_false]; exact hlo
      by_cases hhi : 65536 < n
      · have g2 : (65536 < n) = True := by simp only [eq_iff_iff, iff_true]; exact hhi
        have hm := wShift_far an a n hv (.inr hhi)
        refine sound_go (tb := []) 142 [.tmp 4] [0, 1, 2, 4, 5, 6, 7, 8, 10, 11, 12, 16, 27, 43, 57, 59, 84, 96] mixed Tryz.func3 rfl (by kernel_rfl) (by kernel_rfl) (by kernel_rfl) (by kernel_rfl) ?_
        repeat (first | (simp -implicitDefEqProofs only [go_sem, Nat.reduceAdd, Nat.reduceMul, Nat.reduceEqDiff, Nat.reduceLT, Nat.reduceLeDiff, Nat.reduceSub, Nat.reduceBEq, reduceIte, reduceCtorEq, Int.reduceEq, Int.reduceNe, Nat.reduceBneDiff, Int.reduceLE, Int.reduceLT, Int.reduceToNat, Int.reduceAdd, Int.reduceSub, Int.reduceMul, Int.reduceNeg, T_ok3, T_agg3, T_isinfo3, T_info3, T_cells3, T_zero3, T_int3, T_ok4, T_agg4, T_isinfo4, T_info4, T_cells4, T_zero4, T_bool4, T_ok9, T_agg9, T_isinfo9, T_info9, T_cells9, T_zero9, T_str9, T_len9t, T_ok23, T_agg23, T_isinfo23, T_info23, T_cells23, T_zero23, T_build23, T_f23_0, T_p23_0, T_f23_1, T_p23_1, T_eqs23, T_ok26, T_agg26, T_isinfo26, T_info26, T_cells26, T_zero26, T_int26, T_ok29, T_agg29, T_isinfo29, T_info29, T_cells29, T_zero29, T_elem29, T_under29, T_len29s, T_len29n, T_len29b, T_ok31, T_agg31, T_isinfo31, T_info31, T_cells31, T_zero31, T_build31, T_f31_0, T_p31_0, T_f31_1, T_p31_1, T_ok79, T_agg79, T_isinfo79, T_info79, T_cells79, T_zero79, T_elem79, T_under79, T_len79s, T_len79n, T_len79b, g1, g2, z1, z3, b1]) | ((with_reducible refine gcall_eq (hs) ?_ ?_ ?_); (with_reducible rfl); rfl) | ((with_reducible refine gcall_eq (hm) ?_ ?_ ?_); (with_reducible rfl); rfl) | ((with_reducible refine gcall_eq (hv2) ?_ ?_ ?_); (with_reducible rfl); rfl) | ((with_reducible refine gcall_eq (hk) ?_ ?_ ?_); (with_reducible rfl); rfl) | (with_reducible exact drawQ_true _ _ (by kernel_rfl)) | (with_reducible refine And.intro (drawQ_true _ _ (by kernel_rfl)) ?_))
      have g2 : (65536 < n) = False := by simp only [eq_iff_iff, iff_false]; exact hhi
      have hm := wShift_v an a n hv (by omega) (by omega) (by omega)
      have hfa : SoundAt Tryz.prog 15 [.agg [.bool an, .str a]] (rI (wnum an a)) := rfrom_v an a (by omega)
      have rb := rbits_v (wnum an a) (Nat.le_trans (small_ok _ 60 hx).1 (by decide)) (Nat.le_trans (small_ok _ 60 hx).2 (by decide))
      have hpw := wPV_wnum an a hv
      have hEx := (small_ok _ 60 hx).1
      generalize hX : wnum an a = x at *
      by_cases hn : n < 0
      · have g3 : (n < 0) = True := by simp only [eq_iff_iff, iff_true]; exact hn
        obtain ⟨k, rfl⟩ : ∃ k : Nat, n = -(k : Int) := ⟨(-n).toNat, by omega⟩
        have e3 : shiftI x (-(k : Int)) = x / 2 ^ k := by unfold shiftI; rw [if_neg (by omega)]; congr 2; omega
        have hd := div_lt hx (2 ^ k)
        have i1 := is_sure _ 61 (by decide) hd
        rw [e3, outPV_eq, outN_small (by decide) hd, outE_small (by decide) hd] at hm
        have hne : ∀ j : Nat, (2 : Int) ^ j ≠ 0 := fun j => by have := Int.pow_pos (n := 2) (m := j) (by decide); omega
        have hEp : ∀ j : Nat, j ≤ 2000 → (digs E9 ((2 : Int) ^ j).natAbs).length ≤ 1000000 := fun j hj => by
          refine Nat.le_trans (small_ok _ 251 ?_).1 (by decide)
          rw [Int.natAbs_pow]; exact two_pow_256 j hj
        by_cases hf : -(k : Int) < -2000
        · have g4 : (-(k : Int) < -2000) = True := by simp only [eq_iff_iff, iff_true]; exact hf
          have w1 : IntKind.i64.wrap (0 - -2000) = ((2000 : Nat) : Int) := rfl
          have hp := rpower_v 2000 (by decide)
          have hq := rquo_v x (2 ^ 2000) (hne _) (Nat.le_trans hEx (by decide)) (hEp _ (Nat.le_refl _))
          rw [shift_far hx 2000 k (by decide) (by omega)] at hq
          generalize x / 2 ^ k = D at *
          generalize x % 2 ^ 2000 = R at *
          generalize (2 : Int) ^ 2000 = T at *
          refine sound_go (tb := []) 142 [.tmp 4] [0, 1, 2, 4, 5, 6, 7, 8, 10, 11, 12, 16, 27, 43, 57, 59, 84, 96] mixed Tryz.func3 rfl (by kernel_rfl) (by kernel_rfl) (by kernel_rfl) (by kernel_rfl) ?_
          repeat (first | (simp -implicitDefEqProofs only [go_sem, Nat.reduceAdd, Nat.reduceMul, Nat.reduceEqDiff, Nat.reduceLT, Nat.reduceLeDiff, Nat.reduceSub, Nat.reduceBEq, reduceIte, reduceCtorEq, Int.reduceEq, Int.reduceNe, Nat.reduceBneDiff, Int.reduceLE, Int.reduceLT, Int.reduceToNat, Int.reduceAdd, Int.reduceSub, Int.reduceMul, Int.reduceNeg, T_ok3, T_agg3, T_isinfo3, T_info3, T_cells3, T_zero3, T_int3, T_ok4, T_agg4, T_isinfo4, T_info4, T_cells4, T_zero4, T_bool4, T_ok9, T_agg9, T_isinfo9, T_info9, T_cells9, T_zero9, T_str9, T_len9t, T_ok23, T_agg23, T_isinfo23, T_info23, T_cells23, T_zero23, T_build23, T_f23_0, T_p23_0, T_f23_1, T_p23_1, T_eqs23, T_ok26, T_agg26, T_isinfo26, T_info26, T_cells26, T_zero26, T_int26, T_ok29, T_agg29, T_isinfo29, T_info29, T_cells29, T_zero29, T_elem29, T_under29, T_len29s, T_len29n, T_len29b, T_ok31, T_agg31, T_isinfo31, T_info31, T_cells31, T_zero31, T_build31, T_f31_0, T_p31_0, T_f31_1, T_p31_1, T_ok79, T_agg79, T_isinfo79, T_info79, T_cells79, T_zero79, T_elem79, T_under79, T_len79s, T_len79n, T_len79b, g1, g2, g3, g4, w1, wPV, rI, di]) | ((with_reducible refine gcall_eq (hs) ?_ ?_ ?_); (with_reducible rfl); rfl) | ((with_reducible refine gcall_eq (hm) ?_ ?_ ?_); (with_reducible rfl); rfl) | ((with_reducible refine gcall_eq (hv2) ?_ ?_ ?_); (with_reducible rfl); rfl) | ((with_reducible refine gcall_eq (hk) ?_ ?_ ?_); (with_reducible rfl); rfl) | ((with_reducible refine gcall_eq (hfa) ?_ ?_ ?_); (with_reducible rfl); rfl) | ((with_reducible refine gcall_eq (hp) ?_ ?_ ?_); (with_reducible rfl); rfl) | ((with_reducible refine gcall_eq (hq) ?_ ?_ ?_); (with_reducible rfl); rfl) | ((with_reducible refine gcall_eq (i1) ?_ ?_ ?_); (with_reducible rfl); rfl) | (with_reducible exact drawQ_true _ _ (by kernel_rfl)) | (with_reducible refine And.intro (drawQ_true _ _ (by kernel_rfl)) ?_))
        · have g4 : (-(k : Int) < -2000) = False := by simp only [eq_iff_iff, iff_false]; exact hf
          have w1 : IntKind.i64.wrap (0 - -(k : Int)) = (k : Int) := by rw [wrap_i64 (by omega) (by omega)]; omega
          have hp := rpower_v k (by omega)
          have hq := rquo_v x (2 ^ k) (hne _) (Nat.le_trans hEx (by decide)) (hEp _ (by omega))
          generalize x / 2 ^ k = D at *
          generalize x % 2 ^ k = R at *
          generalize (2 : Int) ^ k = T at *
          refine sound_go (tb := []) 142 [.tmp 4] [0, 1, 2, 4, 5, 6, 7, 8, 10, 11, 12, 16, 27, 43, 57, 59, 84, 96] mixed Tryz.func3 rfl (by kernel_rfl) (by kernel_rfl) (by kernel_rfl) (by kernel_rfl) ?_
          repeat (first | (simp -implicitDefEqProofs only [go_sem, Nat.reduceAdd, Nat.reduceMul, Nat.reduceEqDiff, Nat.reduceLT, Nat.reduceLeDiff, Nat.reduceSub, Nat.reduceBEq, reduceIte, reduceCtorEq, Int.reduceEq, Int.reduceNe, Nat.reduceBneDiff, Int.reduceLE, Int.reduceLT, Int.reduceToNat, Int.reduceAdd, Int.reduceSub, Int.reduceMul, Int.reduceNeg, T_ok3, T_agg3, T_isinfo3, T_info3, T_cells3, T_zero3, T_int3, T_ok4, T_agg4, T_isinfo4, T_info4, T_cells4, T_zero4, T_bool4, T_ok9, T_agg9, T_isinfo9, T_info9, T_cells9, T_zero9, T_str9, T_len9t, T_ok23, T_agg23, T_isinfo23, T_info23, T_cells23, T_zero23, T_build23, T_f23_0, T_p23_0, T_f23_1, T_p23_1, T_eqs23, T_ok26, T_agg26, T_isinfo26, T_info26, T_cells26, T_zero26, T_int26, T_ok29, T_agg29, T_isinfo29, T_info29, T_cells29, T_zero29, T_elem29, T_under29, T_len29s, T_len29n, T_len29b, T_ok31, T_agg31, T_isinfo31, T_info31, T_cells31, T_zero31, T_build31, T_f31_0, T_p31_0, T_f31_1, T_p31_1, T_ok79, T_agg79, T_isinfo79, T_info79, T_cells79, T_zero79, T_elem79, T_under79, T_len79s, T_len79n, T_len79b, g1, g2, g3, g4, w1, wPV, rI, di]) | ((with_reducible refine gcall_eq (hs) ?_ ?_ ?_); (with_reducible rfl); rfl) | ((with_reducible refine gcall_eq (hm) ?_ ?_ ?_); (with_reducible rfl); rfl) | ((with_reducible refine gcall_eq (hv2) ?_ ?_ ?_); (with_reducible rfl); rfl) | ((with_reducible refine gcall_eq (hk) ?_ ?_ ?_); (with_reducible rfl); rfl) | ((with_reducible refine gcall_eq (hfa) ?_ ?_ ?_); (with_reducible rfl); rfl) | ((with_reducible refine gcall_eq (hp) ?_ ?_ ?_); (with_reducible rfl); rfl) | ((with_reducible refine gcall_eq (hq) ?_ ?_ ?_); (with_reducible rfl); rfl) | ((with_reducible refine gcall_eq (i1) ?_ ?_ ?_); (with_reducible rfl); rfl) | (with_reducible exact drawQ_true _ _ (by kernel_rfl)) | (with_reducible refine And.intro (drawQ_true _ _ (by kernel_rfl)) ?_))
      · have g3 : (n < 0) = False := by simp only [eq_iff_iff, iff_false]; exact hn
        obtain ⟨k, rfl⟩ : ∃ k : Nat, n = (k : Int) := ⟨n.toNat, by omega⟩
        have e3 : shiftI x (k : Int) = x * 2 ^ k := by unfold shiftI; rw [if_pos (by omega), Int.toNat_natCast]
        rw [e3] at hm
        have w1 : IntKind.i64.wrap ((blen x.natAbs : Int) + (k : Int)) = ((blen x.natAbs + k : Nat) : Int) := by
          have := blen_256 hx
          exact wrap_add (by omega)
        by_cases hx0 : x = 0
        · subst hx0
          have c0 : ((0 : Int) < ((blen (0 : Int).natAbs : Nat) : Int)) = False := by simp [blen_zero]
          rw [Int.zero_mul, outPV_eq, outN_small (k := 1) (by decide) (by decide), outE_small (k := 1) (by decide) (by decide)] at hm
          by_cases hf : (2000 : Int) < (k : Int)
          · have g4 : ((2000 : Int) < (k : Int)) = True := by simp only [eq_iff_iff, iff_true]; exact hf
            have w2 : IntKind.i64.wrap (0 - (k : Int)) = -(k : Int) := by rw [wrap_i64 (by omega) (by omega)]; omega
            have hb := wShift_v an a (-(k : Int)) hv (by omega) (by omega) (by omega)
            rw [hX] at hb
            have e4 : shiftI 0 (-(k : Int)) = 0 := by unfold shiftI; split <;> simp
            rw [e4, outPV_eq, outN_small (k := 1) (by decide) (by decide), outE_small (k := 1) (by decide) (by decide)] at hb
            have rs := rsign_v 0
            have s0 : ((0 : Int).sign == 0) = true := rfl
            rw [hpw] at hm hb
            refine sound_go (tb := []) 142 [.tmp 4] [0, 1, 2, 4, 5, 6, 7, 8, 10, 11, 12, 16, 27, 43, 57, 59, 84, 96] mixed Tryz.func3 rfl (by kernel_rfl) (by kernel_rfl) (by kernel_rfl) (by kernel_rfl) ?_
            repeat (first | (simp -implicitDefEqProofs only [go_sem, Nat.reduceAdd, Nat.reduceMul, Nat.reduceEqDiff, Nat.reduceLT, Nat.reduceLeDiff, Nat.reduceSub, Nat.reduceBEq, reduceIte, reduceCtorEq, Int.reduceEq, Int.reduceNe, Nat.reduceBneDiff, Int.reduceLE, Int.reduceLT, Int.reduceToNat, Int.reduceAdd, Int.reduceSub, Int.reduceMul, Int.reduceNeg, T_ok3, T_agg3, T_isinfo3, T_info3, T_cells3, T_zero3, T_int3, T_ok4, T_agg4, T_isinfo4, T_info4, T_cells4, T_zero4, T_bool4, T_ok9, T_agg9, T_isinfo9, T_info9, T_cells9, T_zero9, T_str9, T_len9t, T_ok23, T_agg23, T_isinfo23, T_info23, T_cells23, T_zero23, T_build23, T_f23_0, T_p23_0, T_f23_1, T_p23_1, T_eqs23, T_ok26, T_agg26, T_isinfo26, T_info26, T_cells26, T_zero26, T_int26, T_ok29, T_agg29, T_isinfo29, T_info29, T_cells29, T_zero29, T_elem29, T_under29, T_len29s, T_len29n, T_len29b, T_ok31, T_agg31, T_isinfo31, T_info31, T_cells31, T_zero31, T_build31, T_f31_0, T_p31_0, T_f31_1, T_p31_1, T_ok79, T_agg79, T_isinfo79, T_info79, T_cells79, T_zero79, T_elem79, T_under79, T_len79s, T_len79n, T_len79b, g1, g2, g3, g4, w2, c0, s0, z0, b1, ba_self, rI, di]) | ((with_reducible refine gcall_eq (hs) ?_ ?_ ?_); (with_reducible rfl); rfl) | ((with_reducible refine gcall_eq (hm) ?_ ?_ ?_); (with_reducible rfl); rfl) | ((with_reducible refine gcall_eq (hv2) ?_ ?_ ?_); (with_reducible rfl); rfl) | ((with_reducible refine gcall_eq (hk) ?_ ?_ ?_); (with_reducible rfl); rfl) | ((with_reducible refine gcall_eq (hfa) ?_ ?_ ?_); (with_reducible rfl); rfl) | ((with_reducible refine gcall_eq (rb) ?_ ?_ ?_); (with_reducible rfl); rfl) | ((with_reducible refine gcall_eq (hb) ?_ ?_ ?_); (with_reducible rfl); rfl) | ((with_reducible refine gcall_eq (rs) ?_ ?_ ?_); (with_reducible rfl); rfl) | (with_reducible exact drawQ_true _ _ (by kernel_rfl)) | (with_reducible refine And.intro (drawQ_true _ _ (by kernel_rfl)) ?_))
          · have g4 : ((2000 : Int) < (k : Int)) = False := by simp only [eq_iff_iff, iff_false]; exact hf
            have hp := rpower_v k (by omega)
            have hq := rmul_v 0 (2 ^ k) (by
              have : (digs E9 ((2 : Int) ^ k).natAbs).length ≤ 251 := (small_ok _ 251 (by rw [Int.natAbs_pow]; exact two_pow_256 k (by omega))).1
              have := hEx
              omega)
            rw [Int.zero_mul] at hq
            have i1 := is_sure 0 1 (by decide) (by decide)
            generalize (2 : Int) ^ k = T at *
            refine sound_go (tb := []) 142 [.tmp 4] [0, 1, 2, 4, 5, 6, 7, 8, 10, 11, 12, 16, 27, 43, 57, 59, 84, 96] mixed Tryz.func3 rfl (by kernel_rfl) (by kernel_rfl) (by kernel_rfl) (by kernel_rfl) ?_
            repeat (first | (simp -implicitDefEqProofs only [go_sem, Nat.reduceAdd, Nat.reduceMul, Nat.reduceEqDiff, Nat.reduceLT, Nat.reduceLeDiff, Nat.reduceSub, Nat.reduceBEq, reduceIte, reduceCtorEq, Int.reduceEq, Int.reduceNe, Nat.reduceBneDiff, Int.reduceLE, Int.reduceLT, Int.reduceToNat, Int.reduceAdd, Int.reduceSub, Int.reduceMul, Int.reduceNeg, T_ok3, T_agg3, T_isinfo3, T_info3, T_cells3, T_zero3, T_int3, T_ok4, T_agg4, T_isinfo4, T_info4, T_cells4, T_zero4, T_bool4, T_ok9, T_agg9, T_isinfo9, T_info9, T_cells9, T_zero9, T_str9, T_len9t, T_ok23, T_agg23, T_isinfo23, T_info23, T_cells23, T_zero23, T_build23, T_f23_0, T_p23_0, T_f23_1, T_p23_1, T_eqs23, T_ok26, T_agg26, T_isinfo26, T_info26, T_cells26, T_zero26, T_int26, T_ok29, T_agg29, T_isinfo29, T_info29, T_cells29, T_zero29, T_elem29, T_under29, T_len29s, T_len29n, T_len29b, T_ok31, T_agg31, T_isinfo31, T_info31, T_cells31, T_zero31, T_build31, T_f31_0, T_p31_0, T_f31_1, T_p31_1, T_ok79, T_agg79, T_isinfo79, T_info79, T_cells79, T_zero79, T_elem79, T_under79, T_len79s, T_len79n, T_len79b, g1, g2, g3, g4, c0, wPV, rI, di]) | ((with_reducible refine gcall_eq (hs) ?_ ?_ ?_); (with_reducible rfl); rfl) | ((with_reducible refine gcall_eq (hm) ?_ ?_ ?_); (with_reducible rfl); rfl) | ((with_reducible refine gcall_eq (hv2) ?_ ?_ ?_); (with_reducible rfl); rfl) | ((with_reducible refine gcall_eq (hk) ?_ ?_ ?_); (with_reducible rfl); rfl) | ((with_reducible refine gcall_eq (hfa) ?_ ?_ ?_); (with_reducible rfl); rfl) | ((with_reducible refine gcall_eq (rb) ?_ ?_ ?_); (with_reducible rfl); rfl) | ((with_reducible refine gcall_eq (hp) ?_ ?_ ?_); (with_reducible rfl); rfl) | ((with_reducible refine gcall_eq (hq) ?_ ?_ ?_); (with_reducible rfl); rfl) | ((with_reducible refine gcall_eq (i1) ?_ ?_ ?_); (with_reducible rfl); rfl) | (with_reducible exact drawQ_true _ _ (by kernel_rfl)) | (with_reducible refine And.intro (drawQ_true _ _ (by kernel_rfl)) ?_))
        · have hb0 : x.natAbs ≠ 0 := by omega
          have hbp : 0 < blen x.natAbs := by have := blen_succ hb0; omega
          have c0 : ((0 : Int) < ((blen x.natAbs : Nat) : Int)) = True := by simp only [eq_iff_iff, iff_true]; omega
          have hbl : blen (x * 2 ^ k).natAbs = blen x.natAbs + k := by rw [natAbs_pow2, blen_mul2 k _ hb0]
          by_cases hfull : 65536 < blen x.natAbs + k
          · have c1 : ((65536 : Int) < ((blen x.natAbs + k : Nat) : Int)) = True := by simp only [eq_iff_iff, iff_true]; omega
            rw [outPV_no (by rw [hbl]; exact hfull)] at hm
            refine sound_go (tb := []) 142 [.tmp 4] [0, 1, 2, 4, 5, 6, 7, 8, 10, 11, 12, 16, 27, 43, 57, 59, 84, 96] mixed Tryz.func3 rfl (by kernel_rfl) (by kernel_rfl) (by kernel_rfl) (by kernel_rfl) ?_
            repeat (first | (simp -implicitDefEqProofs only [go_sem, Nat.reduceAdd, Nat.reduceMul, Nat.reduceEqDiff, Nat.reduceLT, Nat.reduceLeDiff, Nat.reduceSub, Nat.reduceBEq, reduceIte, reduceCtorEq, Int.reduceEq, Int.reduceNe, Nat.reduceBneDiff, Int.reduceLE, Int.reduceLT, Int.reduceToNat, Int.reduceAdd, Int.reduceSub, Int.reduceMul, Int.reduceNeg, T_ok3, T_agg3, T_isinfo3, T_info3, T_cells3, T_zero3, T_int3, T_ok4, T_agg4, T_isinfo4, T_info4, T_cells4, T_zero4, T_bool4, T_ok9, T_agg9, T_isinfo9, T_info9, T_cells9, T_zero9, T_str9, T_len9t, T_ok23, T_agg23, T_isinfo23, T_info23, T_cells23, T_zero23, T_build23, T_f23_0, T_p23_0, T_f23_1, T_p23_1, T_eqs23, T_ok26, T_agg26, T_isinfo26, T_info26, T_cells26, T_zero26, T_int26, T_ok29, T_agg29, T_isinfo29, T_info29, T_cells29, T_zero29, T_elem29, T_under29, T_len29s, T_len29n, T_len29b, T_ok31, T_agg31, T_isinfo31, T_info31, T_cells31, T_zero31, T_build31, T_f31_0, T_p31_0, T_f31_1, T_p31_1, T_ok79, T_agg79, T_isinfo79, T_info79, T_cells79, T_zero79, T_elem79, T_under79, T_len79s, T_len79n, T_len79b, g1, g2, g3, c0, c1, w1, z1, z7, b1, rI, di]) | ((with_reducible refine gcall_eq (hs) ?_ ?_ ?_); (with_reducible rfl); rfl) | ((with_reducible refine gcall_eq (hm) ?_ ?_ ?_); (with_reducible rfl); rfl) | ((with_reducible refine gcall_eq (hv2) ?_ ?_ ?_); (with_reducible rfl); rfl) | ((with_reducible refine gcall_eq (hk) ?_ ?_ ?_); (with_reducible rfl); rfl) | ((with_reducible refine gcall_eq (hfa) ?_ ?_ ?_); (with_reducible rfl); rfl) | ((with_reducible refine gcall_eq (rb) ?_ ?_ ?_); (with_reducible rfl); rfl) | (with_reducible exact drawQ_true _ _ (by kernel_rfl)) | (with_reducible refine And.intro (drawQ_true _ _ (by kernel_rfl)) ?_))
          · have c1 : ((65536 : Int) < ((blen x.natAbs + k : Nat) : Int)) = False := by simp only [eq_iff_iff, iff_false]; omega
            rw [outPV_eq, outN, outE, if_neg (by rw [hbl]; exact hfull), if_neg (by rw [hbl]; exact hfull)] at hm
            by_cases hf : (2000 : Int) < (k : Int)
            · have g4 : ((2000 : Int) < (k : Int)) = True := by simp only [eq_iff_iff, iff_true]; exact hf
              have w2 : IntKind.i64.wrap (0 - (k : Int)) = -(k : Int) := by rw [wrap_i64 (by omega) (by omega)]; omega
              have hml := magL_valid (n := x * 2 ^ k) (by rw [hbl]; omega)
              have hb := wShift_v (decide (x * 2 ^ k < 0)) ⟨(magL (x * 2 ^ k).natAbs).toArray⟩ (-(k : Int)) (validB_magL _ hml) (by omega) (by omega) (by rw [magL_size]; omega)
              have hl := wLen_v (decide (x * 2 ^ k < 0)) ⟨(magL (x * 2 ^ k).natAbs).toArray⟩ (validB_magL _ hml) (by rw [magL_size]; omega)
              rw [show (⟨(magL (x * 2 ^ k).natAbs).toArray⟩ : ByteArray).data.toList = magL (x * 2 ^ k).natAbs from rfl, bnum_magL, hbl] at hl
              have e4 : shiftI (x * 2 ^ k) (-(k : Int)) = x := by
                unfold shiftI; rw [if_neg (by omega)]
                have : (- -(k : Int)).toNat = k := by omega
                rw [this]
                exact Int.mul_ediv_cancel _ (by have := Int.pow_pos (n := 2) (m := k) (by decide); omega)
              rw [wnum_magL, e4, outPV_eq, outN_small (by decide) hx, outE_small (by decide) hx, hpw] at hb
              have rs := rsign_v x
              have s0 : (x.sign == 0) = false := by simp only [beq_eq_false_iff_ne, ne_eq, Int.sign_eq_zero_iff_zero]; exact hx0
              have l0 : (((blen x.natAbs + k : Nat) : Int) == ((blen x.natAbs + k : Nat) : Int)) = true := beq_self_eq_true _
              generalize x * 2 ^ k = M at *
              refine sound_go (tb := []) 142 [.tmp 4] [0, 1, 2, 4, 5, 6, 7, 8, 10, 11, 12, 16, 27, 43, 57, 59, 84, 96] mixed Tryz.func3 rfl (by kernel_rfl) (by kernel_rfl) (by kernel_rfl) (by kernel_rfl) ?_
              repeat (first | (simp -implicitDefEqProofs only [go_sem, Nat.reduceAdd, Nat.reduceMul, Nat.reduceEqDiff, Nat.reduceLT, Nat.reduceLeDiff, Nat.reduceSub, Nat.reduceBEq, reduceIte, reduceCtorEq, Int.reduceEq, Int.reduceNe, Nat.reduceBneDiff, Int.reduceLE, Int.reduceLT, Int.reduceToNat, Int.reduceAdd, Int.reduceSub, Int.reduceMul, Int.reduceNeg, T_ok3, T_agg3, T_isinfo3, T_info3, T_cells3, T_zero3, T_int3, T_ok4, T_agg4, T_isinfo4, T_info4, T_cells4, T_zero4, T_bool4, T_ok9, T_agg9, T_isinfo9, T_info9, T_cells9, T_zero9, T_str9, T_len9t, T_ok23, T_agg23, T_isinfo23, T_info23, T_cells23, T_zero23, T_build23, T_f23_0, T_p23_0, T_f23_1, T_p23_1, T_eqs23, T_ok26, T_agg26, T_isinfo26, T_info26, T_cells26, T_zero26, T_int26, T_ok29, T_agg29, T_isinfo29, T_info29, T_cells29, T_zero29, T_elem29, T_under29, T_len29s, T_len29n, T_len29b, T_ok31, T_agg31, T_isinfo31, T_info31, T_cells31, T_zero31, T_build31, T_f31_0, T_p31_0, T_f31_1, T_p31_1, T_ok79, T_agg79, T_isinfo79, T_info79, T_cells79, T_zero79, T_elem79, T_under79, T_len79s, T_len79n, T_len79b, g1, g2, g3, g4, w1, w2, c0, c1, s0, l0, z0, b1, ba_self, wPV, rI, di]) | ((with_reducible refine gcall_eq (hs) ?_ ?_ ?_); (with_reducible rfl); rfl) | ((with_reducible refine gcall_eq (hm) ?_ ?_ ?_); (with_reducible rfl); rfl) | ((with_reducible refine gcall_eq (hv2) ?_ ?_ ?_); (with_reducible rfl); rfl) | ((with_reducible refine gcall_eq (hk) ?_ ?_ ?_); (with_reducible rfl); rfl) | ((with_reducible refine gcall_eq (hfa) ?_ ?_ ?_); (with_reducible rfl); rfl) | ((with_reducible refine gcall_eq (rb) ?_ ?_ ?_); (with_reducible rfl); rfl) | ((with_reducible refine gcall_eq (hb) ?_ ?_ ?_); (with_reducible rfl); rfl) | ((with_reducible refine gcall_eq (hl) ?_ ?_ ?_); (with_reducible rfl); rfl) | ((with_reducible refine gcall_eq (rs) ?_ ?_ ?_); (with_reducible rfl); rfl) | (with_reducible exact drawQ_true _ _ (by kernel_rfl)) | (with_reducible refine And.intro (drawQ_true _ _ (by kernel_rfl)) ?_))
            · have g4 : ((2000 : Int) < (k : Int)) = False := by simp only [eq_iff_iff, iff_false]; exact hf
              have hp := rpower_v k (by omega)
              have hE : ((2 : Int) ^ k).natAbs < 256 ^ 251 := by rw [Int.natAbs_pow]; exact two_pow_256 k (by omega)
              have hq := rmul_v x (2 ^ k) (by
                have := (small_ok _ 251 hE).1
                omega)
              have i1 := is_sure (x * 2 ^ k) (60 + 251) (by decide) (mul_lt hx hE)
              generalize x * 2 ^ k = M at *
              generalize (2 : Int) ^ k = T at *
              refine sound_go (tb := []) 142 [.tmp 4] [0, 1, 2, 4, 5, 6, 7, 8, 10, 11, 12, 16, 27, 43, 57, 59, 84, 96] mixed Tryz.func3 rfl (by kernel_rfl) (by kernel_rfl) (by kernel_rfl) (by kernel_rfl) ?_
              repeat (first | (simp -implicitDefEqProofs only [go_sem, Nat.reduceAdd, Nat.reduceMul, Nat.reduceEqDiff, Nat.reduceLT, Nat.reduceLeDiff, Nat.reduceSub, Nat.reduceBEq, reduceIte, reduceCtorEq, Int.reduceEq, Int.reduceNe, Nat.reduceBneDiff, Int.reduceLE, Int.reduceLT, Int.reduceToNat, Int.reduceAdd, Int.reduceSub, Int.reduceMul, Int.reduceNeg, T_ok3, T_agg3, T_isinfo3, T_info3, T_cells3, T_zero3, T_int3, T_ok4, T_agg4, T_isinfo4, T_info4, T_cells4, T_zero4, T_bool4, T_ok9, T_agg9, T_isinfo9, T_info9, T_cells9, T_zero9, T_str9, T_len9t, T_ok23, T_agg23, T_isinfo23, T_info23, T_cells23, T_zero23, T_build23, T_f23_0, T_p23_0, T_f23_1, T_p23_1, T_eqs23, T_ok26, T_agg26, T_isinfo26, T_info26, T_cells26, T_zero26, T_int26, T_ok29, T_agg29, T_isinfo29, T_info29, T_cells29, T_zero29, T_elem29, T_under29, T_len29s, T_len29n, T_len29b, T_ok31, T_agg31, T_isinfo31, T_info31, T_cells31, T_zero31, T_build31, T_f31_0, T_p31_0, T_f31_1, T_p31_1, T_ok79, T_agg79, T_isinfo79, T_info79, T_cells79, T_zero79, T_elem79, T_under79, T_len79s, T_len79n, T_len79b, g1, g2, g3, g4, w1, c0, c1, wPV, rI, di]) | ((with_reducible refine gcall_eq (hs) ?_ ?_ ?_); (with_reducible rfl); rfl) | ((with_reducible refine gcall_eq (hm) ?_ ?_ ?_); (with_reducible rfl); rfl) | ((with_reducible refine gcall_eq (hv2) ?_ ?_ ?_); (with_reducible rfl); rfl) | ((with_reducible refine gcall_eq (hk) ?_ ?_ ?_); (with_reducible rfl); rfl) | ((with_reducible refine gcall_eq (hfa) ?_ ?_ ?_); (with_reducible rfl); rfl) | ((with_reducible refine gcall_eq (rb) ?_ ?_ ?_); (with_reducible rfl); rfl) | ((with_reducible refine gcall_eq (hp) ?_ ?_ ?_); (with_reducible rfl); rfl) | ((with_reducible refine gcall_eq (hq) ?_ ?_ ?_); (with_reducible rfl); rfl) | ((with_reducible refine gcall_eq (i1) ?_ ?_ ?_); (with_reducible rfl); rfl) | (with_reducible exact drawQ_true _ _ (by kernel_rfl)) | (with_reducible refine And.intro (drawQ_true _ _ (by kernel_rfl)) ?_))
  · have e0 : decide (a.size ≤ 60) = false := by simp; omega
    rw [e0] at hs
    refine sound_go (tb := []) 142 [.tmp 4] [0, 1, 2, 4, 5, 6, 7, 8, 10, 11, 12, 16, 27, 43, 57, 59, 84, 96] mixed Tryz.func3 rfl (by kernel_rfl) (by kernel_rfl) (by kernel_rfl) (by kernel_rfl) ?_
    repeat (first | (simp -implicitDefEqProofs only [go_sem, Nat.reduceAdd, Nat.reduceMul, Nat.reduceEqDiff, Nat.reduceLT, Nat.reduceLeDiff, Nat.reduceSub, Nat.reduceBEq, reduceIte, reduceCtorEq, Int.reduceEq, Int.reduceNe, Nat.reduceBneDiff, Int.reduceLE, Int.reduceLT, Int.reduceToNat, Int.reduceAdd, Int.reduceSub, Int.reduceMul, Int.reduceNeg, T_ok3, T_agg3, T_isinfo3, T_info3, T_cells3, T_zero3, T_int3, T_ok4, T_agg4, T_isinfo4, T_info4, T_cells4, T_zero4, T_bool4, T_ok9, T_agg9, T_isinfo9, T_info9, T_cells9, T_zero9, T_str9, T_len9t, T_ok23, T_agg23, T_isinfo23, T_info23, T_cells23, T_zero23, T_build23, T_f23_0, T_p23_0, T_f23_1, T_p23_1, T_eqs23, T_ok26, T_agg26, T_isinfo26, T_info26, T_cells26, T_zero26, T_int26, T_ok29, T_agg29, T_isinfo29, T_info29, T_cells29, T_zero29, T_elem29, T_under29, T_len29s, T_len29n, T_len29b, T_ok31, T_agg31, T_isinfo31, T_info31, T_cells31, T_zero31, T_build31, T_f31_0, T_p31_0, T_f31_1, T_p31_1, T_ok79, T_agg79, T_isinfo79, T_info79, T_cells79, T_zero79, T_elem79, T_under79, T_len79s, T_len79n, T_len79b]) | ((with_reducible refine gcall_eq (hs) ?_ ?_ ?_); (with_reducible rfl); rfl) | ((with_reducible refine gcall_eq (hk) ?_ ?_ ?_); (with_reducible rfl); rfl) | (with_reducible exact drawQ_true _ _ (by kernel_rfl)) | (with_reducible refine And.intro (drawQ_true _ _ (by kernel_rfl)) ?_))
end Go.Proofs.YtkgkebhlpjenaaaGreatDoor
