/-
  ZW8, Dl, ZW9, ZW10, ZW11, ZW12, ZW13 (merged for the claim).
-/
import Derived.Test.YtkgkebhlpjenaaaGreatDoorZW7
import Derived.Test.YtkgkebhlpjenaaaGreatDoorZW3
set_option linter.unusedSimpArgs false
set_option linter.unusedVariables false
namespace Go.Proofs.YtkgkebhlpjenaaaGreatDoor
open Go.Vl Go.RowKit Go.Dg

theorem lz64_v (x : Nat) (hx : x < 18446744073709551616) : SoundAt Tryz.prog 104 [.int .u64 (x : Int)] (.int .i64 ((64 - blen x : Nat) : Int)) := by
  have hb := blen_le 64 x hx
  have hw : IntKind.i64.wrap (64 - ((blen x : Nat) : Int)) = ((64 - blen x : Nat) : Int) := by rw [wrap_i64 (by omega) (by omega)]; omega
  refine sound_go (tb := []) 6 [.tmp 2] [0, 2] mixed Tryz.func104 rfl (by kernel_rfl) (by kernel_rfl) (by kernel_rfl) (by kernel_rfl) ?_
  simp -implicitDefEqProofs only [go_sem, Nat.reduceAdd, Nat.reduceMul, Nat.reduceEqDiff, Nat.reduceLT, Nat.reduceLeDiff, Nat.reduceSub, Nat.reduceBEq, reduceIte, reduceCtorEq, Int.reduceEq, Int.reduceNe, Nat.reduceBneDiff, Int.reduceLE, Int.reduceLT, Int.reduceToNat, Int.reduceAdd, Int.reduceSub, Int.reduceMul, Int.reduceNeg, T_ok3, T_agg3, T_isinfo3, T_info3, T_cells3, T_zero3, T_int3, T_ok92, T_agg92, T_isinfo92, T_info92, T_cells92, T_zero92, T_int92]
  refine gcall_intro _ _ _ _ _ _ _ _ _ (len64_v x hx) ?_
  simp -implicitDefEqProofs only [go_sem, Nat.reduceAdd, Nat.reduceMul, Nat.reduceEqDiff, Nat.reduceLT, Nat.reduceLeDiff, Nat.reduceSub, Nat.reduceBEq, reduceIte, reduceCtorEq, Int.reduceEq, Int.reduceNe, Nat.reduceBneDiff, Int.reduceLE, Int.reduceLT, Int.reduceToNat, Int.reduceAdd, Int.reduceSub, Int.reduceMul, Int.reduceNeg, T_ok3, T_agg3, T_isinfo3, T_info3, T_cells3, T_zero3, T_int3, T_ok92, T_agg92, T_isinfo92, T_info92, T_cells92, T_zero92, T_int92, hw]
theorem wsize_v (m : Nat) (hl : (digs BW m).length ≤ 1000000000) : SoundAt Tryz.prog 74 [dw (digs BW m)] (.int .i64 (blen m : Int)) := by
  refine sound_go (tb := []) 17 [.tmp 2] [0, 2, 5] mixed Tryz.func74 rfl (by kernel_rfl) (by kernel_rfl) (by kernel_rfl) (by kernel_rfl) ?_
  by_cases h0 : m = 0
  · subst h0
    have h1 : (((0 : Nat) : Int) == 0) = true := rfl
    simp -implicitDefEqProofs only [go_sem, Nat.reduceAdd, Nat.reduceMul, Nat.reduceEqDiff, Nat.reduceLT, Nat.reduceLeDiff, Nat.reduceSub, Nat.reduceBEq, reduceIte, reduceCtorEq, Int.reduceEq, Int.reduceNe, Nat.reduceBneDiff, Int.reduceLE, Int.reduceLT, Int.reduceToNat, Int.reduceAdd, Int.reduceSub, Int.reduceMul, Int.reduceNeg, T_ok3, T_agg3, T_isinfo3, T_info3, T_cells3, T_zero3, T_int3, T_ok84, T_agg84, T_isinfo84, T_info84, T_cells84, T_zero84, T_elem84, T_under84, T_len84s, T_len84n, T_len84b, T_ok92, T_agg92, T_isinfo92, T_info92, T_cells92, T_zero92, T_int92, dw, digs_zero, List.map_nil, List.length_nil, h1, blen_zero]
    rfl
  · have hp : 0 < (digs BW m).length := List.length_pos_iff.2 (mt (digs_eq_nil BW_2).1 h0)
    have h1 : (((digs BW m).length : Int) == 0) = false := by simp only [beq_eq_false_iff_ne, ne_eq]; omega
    have ht := top_digit BW_2 h0
    have hg := digs_get_lt (n := m) (k := (digs BW m).length - 1) BW_2 (by omega)
    rw [Nat.mod_eq_of_lt ht.2] at hg
    have hb : blen m = blen (m / BW ^ ((digs BW m).length - 1)) + 64 * ((digs BW m).length - 1) := blen_top h0 64 (by decide)
    generalize m / BW ^ ((digs BW m).length - 1) = t at *
    have htl := blen_le 64 t ht.2
    generalize hL : (digs BW m).length = L at *
    have hw1 : IntKind.i64.wrap ((L : Int) * 64) = ((L * 64 : Nat) : Int) := by rw [wrap_i64 (by omega) (by omega)]; omega
    have hw2 : IntKind.i64.wrap ((L : Int) - 1) = ((L - 1 : Nat) : Int) := by rw [wrap_i64 (by omega) (by omega)]; omega
    have hw3 : IntKind.i64.wrap (((L * 64 : Nat) : Int) - ((64 - blen t : Nat) : Int)) = ((blen m : Nat) : Int) := by rw [wrap_i64 (by omega) (by omega), hb]; omega
    have h2 : (0 ≤ ((L - 1 : Nat) : Int)) = True := by simp only [eq_iff_iff, iff_true]; exact Int.natCast_nonneg _
    simp -implicitDefEqProofs only [go_sem, Nat.reduceAdd, Nat.reduceMul, Nat.reduceEqDiff, Nat.reduceLT, Nat.reduceLeDiff, Nat.reduceSub, Nat.reduceBEq, reduceIte, reduceCtorEq, Int.reduceEq, Int.reduceNe, Nat.reduceBneDiff, Int.reduceLE, Int.reduceLT, Int.reduceToNat, Int.reduceAdd, Int.reduceSub, Int.reduceMul, Int.reduceNeg, T_ok3, T_agg3, T_isinfo3, T_info3, T_cells3, T_zero3, T_int3, T_ok84, T_agg84, T_isinfo84, T_info84, T_cells84, T_zero84, T_elem84, T_under84, T_len84s, T_len84n, T_len84b, T_ok92, T_agg92, T_isinfo92, T_info92, T_cells92, T_zero92, T_int92, dw, List.length_map, hL, h1, hw1, hw2, h2, dw_get, hg, Int.toNat_natCast]
    refine gcall_intro _ _ _ _ _ _ _ _ _ (lz64_v t ht.2) ?_
    simp -implicitDefEqProofs only [go_sem, Nat.reduceAdd, Nat.reduceMul, Nat.reduceEqDiff, Nat.reduceLT, Nat.reduceLeDiff, Nat.reduceSub, Nat.reduceBEq, reduceIte, reduceCtorEq, Int.reduceEq, Int.reduceNe, Nat.reduceBneDiff, Int.reduceLE, Int.reduceLT, Int.reduceToNat, Int.reduceAdd, Int.reduceSub, Int.reduceMul, Int.reduceNeg, T_ok3, T_agg3, T_isinfo3, T_info3, T_cells3, T_zero3, T_int3, T_ok84, T_agg84, T_isinfo84, T_info84, T_cells84, T_zero84, T_elem84, T_under84, T_len84s, T_len84n, T_len84b, T_ok92, T_agg92, T_isinfo92, T_info92, T_cells92, T_zero92, T_int92, hw3]
end Go.Proofs.YtkgkebhlpjenaaaGreatDoor

namespace Go.Dg
abbrev WB : Nat := 18446744073709551616
theorem WB_eq (m : Nat) (hm : m < 8) : WB = 256 ^ (m + 1) * 256 ^ (7 - m) := by
  rw [← Nat.pow_add, show m + 1 + (7 - m) = 8 by omega]
theorem place_eq (T b m j : Nat) : 256 ^ (8 * j + m + 1) * T + b * 256 ^ (8 * j + m) = WB ^ j * (256 ^ (m + 1) * T + b * 256 ^ m) := by
  have e : WB ^ j = 256 ^ (8 * j) := by rw [Nat.pow_mul]
  rw [e, Nat.mul_add, ← Nat.mul_assoc, ← Nat.pow_add, Nat.mul_left_comm (256 ^ (8 * j)) b, ← Nat.pow_add, Nat.add_assoc]
theorem place_here (T b m j : Nat) (hb : b < 256) (hm : m < 8) :
    (256 ^ (8 * j + m + 1) * T + b * 256 ^ (8 * j + m)) / WB ^ j % WB = 256 ^ (m + 1) * (T % 256 ^ (7 - m)) + b * 256 ^ m := by
  have hp : 0 < 256 ^ m := Nat.pow_pos (by decide)
  have hlt : b * 256 ^ m < 256 ^ (m + 1) := by rw [Nat.pow_succ, Nat.mul_comm]; exact Nat.mul_lt_mul_of_pos_left hb hp
  rw [place_eq, Nat.mul_div_cancel_left _ (Nat.pow_pos (by decide)), WB_eq m hm]
  generalize b * 256 ^ m = r at *
  generalize 256 ^ (m + 1) = A at *
  generalize 256 ^ (7 - m) = q at *
  have hA : 0 < A := by omega
  rw [Nat.mod_mul, Nat.mul_add_mod, Nat.mod_eq_of_lt hlt, Nat.mul_add_div hA, Nat.div_eq_of_lt hlt, Nat.add_zero, Nat.add_comm]
theorem place_other (T b m j i : Nat) (hb : b < 256) (hm : m < 8) (hi : i ≠ j) :
    (256 ^ (8 * j + m + 1) * T + b * 256 ^ (8 * j + m)) / WB ^ i % WB = (256 ^ (8 * j + m + 1) * T) / WB ^ i % WB := by
  have hp : 0 < 256 ^ m := Nat.pow_pos (by decide)
  have hlt : b * 256 ^ m < 256 ^ (m + 1) := by rw [Nat.pow_succ, Nat.mul_comm]; exact Nat.mul_lt_mul_of_pos_left hb hp
  have e2 := place_eq T 0 m j
  rw [Nat.zero_mul, Nat.add_zero, Nat.zero_mul, Nat.add_zero] at e2
  rw [place_eq, e2]
  rcases Nat.lt_or_gt_of_ne hi with h | h
  · obtain ⟨d, rfl⟩ := Nat.exists_eq_add_of_lt h
    have e : ∀ X : Nat, WB ^ (i + d + 1) * X / WB ^ i % WB = 0 := by
      intro X
      rw [show i + d + 1 = i + (d + 1) by omega, Nat.pow_add, Nat.mul_assoc, Nat.mul_div_cancel_left _ (Nat.pow_pos (by decide)), Nat.pow_succ, Nat.mul_comm (WB ^ d), Nat.mul_assoc, Nat.mul_mod_right]
    rw [e, e]
  · obtain ⟨d, rfl⟩ := Nat.exists_eq_add_of_lt h
    have e : ∀ X : Nat, WB ^ j * X / WB ^ (j + d + 1) = X / WB / WB ^ d := by
      intro X
      rw [show j + d + 1 = j + (1 + d) by omega, Nat.pow_add, Nat.mul_div_mul_left _ _ (Nat.pow_pos (by decide)), Nat.pow_add, Nat.pow_one, Nat.div_div_eq_div_mul]
    rw [e, e]
    congr 2
    rw [WB_eq m hm]
    generalize b * 256 ^ m = r at *
    generalize 256 ^ (m + 1) = A at *
    generalize 256 ^ (7 - m) = q at *
    have hA : 0 < A := by omega
    rw [← Nat.div_div_eq_div_mul, ← Nat.div_div_eq_div_mul, Nat.mul_add_div hA, Nat.div_eq_of_lt hlt, Nat.add_zero, Nat.add_zero, Nat.mul_div_cancel_left _ hA]
end Go.Dg

namespace Go.Proofs.YtkgkebhlpjenaaaGreatDoor
open Go.Vl Go.RowKit Go.Dg

theorem b_oru {P : Program} {t : TypeId} (x y : Nat) : binPV .or t P (.int .u64 (x : Int)) (.int .u64 (y : Int)) = some (.int .u64 (((x % 18446744073709551616) ||| (y % 18446744073709551616) : Nat) : Int)) := by
  rw [b_or]
  have h : (BitVec.ofInt IntKind.u64.bits (x : Int) ||| BitVec.ofInt IntKind.u64.bits (y : Int)).toNat = (x % 18446744073709551616) ||| (y % 18446744073709551616) := by
    rw [BitVec.toNat_or]
    have h1 : ∀ n : Nat, (BitVec.ofInt IntKind.u64.bits (n : Int)).toNat = n % 18446744073709551616 := by intro n; show (BitVec.ofInt 64 (n : Int)).toNat = _; simp
    rw [h1, h1]
  rw [h, u64_wrap, Nat.mod_eq_of_lt (Nat.or_lt_two_pow (n := 64) (Nat.mod_lt _ (by decide)) (Nat.mod_lt _ (by decide)))]
theorem shl_u64 (x k : Nat) : IntKind.u64.wrap ((x : Int) * 2 ^ k) = ((x * 2 ^ k % 18446744073709551616 : Nat) : Int) := by
  rw [← u64_wrap]; congr 1
theorem tdiv8 (n : Nat) : Int.tdiv (n : Int) 8 = ((n / 8 : Nat) : Int) := by
  rw [Int.tdiv_eq_ediv_of_nonneg (by omega)]; rfl
theorem tmod8 (n : Nat) : Int.tmod (n : Int) 8 = ((n % 8 : Nat) : Int) := by
  rw [Int.tmod_eq_emod_of_nonneg (by omega)]; rfl
/-- A byte put at its place. -/
theorem place_word (T b m j : Nat) (hb : b < 256) (hm : m < 8) :
    ((256 ^ (8 * j + m + 1) * T / WB ^ j % WB) ||| (b * 2 ^ (m * 8) % 18446744073709551616)) = (256 ^ (8 * j + m + 1) * T + b * 256 ^ (8 * j + m)) / WB ^ j % WB := by
  have h0 := place_here T 0 m j (by decide) hm
  rw [Nat.zero_mul, Nat.add_zero, Nat.zero_mul, Nat.add_zero] at h0
  rw [place_here T b m j hb hm, h0]
  have e8 : ∀ k, (256 : Nat) ^ k = 2 ^ (k * 8) := fun k => by rw [Nat.mul_comm, Nat.pow_mul]
  have hp : 0 < 256 ^ m := Nat.pow_pos (by decide)
  have hlt : b * 256 ^ m < 256 ^ (m + 1) := by rw [Nat.pow_succ, Nat.mul_comm]; exact Nat.mul_lt_mul_of_pos_left hb hp
  have hle : 256 ^ (m + 1) ≤ 18446744073709551616 := Nat.pow_le_pow_right (n := 256) (by decide) (show m + 1 ≤ 8 by omega)
  rw [← e8 m, Nat.mod_eq_of_lt (Nat.lt_of_lt_of_le hlt hle)]
  rw [e8 (m + 1)] at hlt ⊢
  exact (Nat.two_pow_add_eq_or_of_lt hlt _).symm

attribute [local go_sem high] b_oru
/-- The words of the first i bytes, at their places. -/
def pre (l : List UInt8) (i : Nat) : Nat := bnum (l.take i) * 256 ^ (l.length - i)
theorem wload_v (s : ByteArray) (hs : s.size ≤ 1000000) : SoundAt Tryz.prog 73 [.str s] (dw (lows BW (bnum s.data.toList) ((s.data.toList.length + 7) / 8))) := by
  rw [ba_size] at hs
  have hsz := ba_size s
  have hget := ba_get s
  generalize s.data.toList = l at *
  have w1 : IntKind.i64.wrap ((l.length : Int) + 7) = ((l.length + 7 : Nat) : Int) := by rw [wrap_i64 (by omega) (by omega)]; omega
  have w2 := wrapn (n := (l.length + 7) / 8) (by omega)
  have hn0 : ((0 : Int) ≤ (((l.length + 7) / 8 : Nat) : Int)) = True := by simp only [eq_iff_iff, iff_true]; exact Int.natCast_nonneg _
  have hn1 : ((8 : Nat) : Int) * (((l.length + 7) / 8 : Nat) : Int) ≤ 281474976710656 := by omega
  have hn2 : (((l.length + 7) / 8 : Nat) : Int) ≤ 9223372036854775807 := by omega
  refine sound_go (tb := []) 38 [.tmp 2] [0, 2, 3, 4, 5, 12, 13, 14] mixed Tryz.func73 rfl (by kernel_rfl) (by kernel_rfl) (by kernel_rfl) (by kernel_rfl) ?_
  simp -implicitDefEqProofs only [go_sem, Nat.reduceAdd, Nat.reduceMul, Nat.reduceEqDiff, Nat.reduceLT, Nat.reduceLeDiff, Nat.reduceSub, Nat.reduceBEq, reduceIte, reduceCtorEq, Int.reduceEq, Int.reduceNe, Nat.reduceBneDiff, Int.reduceLE, Int.reduceLT, Int.reduceToNat, Int.reduceAdd, Int.reduceSub, Int.reduceMul, Int.reduceNeg, T_ok3, T_agg3, T_isinfo3, T_info3, T_cells3, T_zero3, T_int3, T_ok5, T_agg5, T_isinfo5, T_info5, T_cells5, T_zero5, T_int5, T_ok9, T_agg9, T_isinfo9, T_info9, T_cells9, T_zero9, T_str9, T_len9t, T_ok84, T_agg84, T_isinfo84, T_info84, T_cells84, T_zero84, T_elem84, T_under84, T_len84s, T_len84n, T_len84b, T_ok92, T_agg92, T_isinfo92, T_info92, T_cells92, T_zero92, T_int92, hsz, w1, w2, tdiv8, hn0, hn1, hn2, Int.toNat_natCast]
  have hst : List.replicate ((l.length + 7) / 8) (PV.int .u64 0) = (lows BW (pre l 0) ((l.length + 7) / 8)).map fW := by
    rw [pre, List.take_zero, show bnum [] = 0 from rfl, Nat.zero_mul, lows_zero']; simp
  rw [hst]
  generalize hW : (l.length + 7) / 8 = W at *
  refine g_loop mixed (fun i : { i : Nat // i ≤ l.length } => St.of [(0, .str s), (2, .nilS), (3, .bs 104 1 0 W), (12, .int .i64 (l.length : Int)), (13, .int .i64 (i.1 : Int))]
      [(104, { els := (lows BW (pre l i.1) W).map fW, esz := 1, ety := 92, fro := 0, live := true, arr := true })]) (fun i => l.length - i.1) ⟨0, Nat.zero_le _⟩ ?_ ?_
  · refine le_of (θ := [(104, 104)]) rfl ?_ ?_
    · simp [varsLe, lkp, ren1, ren0]
    · simp [boxesLe, lkp, Box.renames]
  · rintro ⟨i, hi⟩
    by_cases hA : i < l.length
    · have hA' : ((i : Int) < (l.length : Int)) = True := by simp; omega
      have h0 : (0 ≤ (i : Int)) = True := by simp
      have hg := hget i hA
      have hwk := wrap_add1 (a := i) (by omega)
      have v1 : IntKind.i64.wrap ((l.length : Int) - 1) = ((l.length - 1 : Nat) : Int) := by rw [wrap_i64 (by omega) (by omega)]; omega
      have v2 : IntKind.i64.wrap (((l.length - 1 : Nat) : Int) - (i : Int)) = ((l.length - 1 - i : Nat) : Int) := by rw [wrap_i64 (by omega) (by omega)]; omega
      have htk : l.take (i + 1) = l.take i ++ [l[i]] := by rw [List.take_add_one]; simp [hA]
      have hb : l[i].toNat < 256 := l[i].toNat_lt
      generalize hk : l.length - 1 - i = k at *
      have hkj : k = 8 * (k / 8) + k % 8 := by omega
      have hm : k % 8 < 8 := Nat.mod_lt _ (by decide)
      have hjW : k / 8 < W := by omega
      have p0 : pre l i = 256 ^ (8 * (k / 8) + k % 8 + 1) * bnum (l.take i) := by
        rw [pre, Nat.mul_comm, show l.length - i = 8 * (k / 8) + k % 8 + 1 by omega]
      have p1 : pre l (i + 1) = 256 ^ (8 * (k / 8) + k % 8 + 1) * bnum (l.take i) + l[i].toNat * 256 ^ (8 * (k / 8) + k % 8) := by
        rw [pre, htk, bnum_snoc, show l.length - (i + 1) = 8 * (k / 8) + k % 8 by omega, Nat.add_mul, Nat.pow_succ, Nat.mul_assoc, Nat.mul_comm (bnum _), Nat.mul_comm 256]
      have hpw := place_word (bnum (l.take i)) l[i].toNat (k % 8) (k / 8) hb hm
      have hoth := fun c hc => place_other (bnum (l.take i)) l[i].toNat (k % 8) (k / 8) c hb hm hc
      rw [← p1, ← p0] at hpw
      rw [← p1, ← p0] at hoth
      have hgo : ((lows BW (pre l i) W).map fW)[k / 8]? = some (PV.int .u64 ((pre l i / BW ^ (k / 8) % BW : Nat) : Int)) := by rw [List.getElem?_map, lows_get _ _ _ hjW]; rfl
      have hset : (lows BW (pre l i) W).set (k / 8) (pre l (i + 1) / BW ^ (k / 8) % BW) = lows BW (pre l (i + 1)) W := by
        apply List.ext_getElem?
        intro c
        rw [List.getElem?_set, lows_length]
        by_cases hc : c < W
        · rw [lows_get _ _ _ hc, lows_get _ _ _ hc]
          by_cases e : k / 8 = c
          · subst e; simp [hjW]
          · simp only [e, if_false]
            rw [hoth c (fun h => e h.symm)]
        · rw [List.getElem?_eq_none (by rw [lows_length]; omega), List.getElem?_eq_none (by rw [lows_length]; omega)]
          simp; omega
      have hll := lows_length (B := BW) (pre l i) W
      have u1 : IntKind.i64.wrap (((k / 8 : Nat) : Int)) = ((k / 8 : Nat) : Int) := wrapn (by omega)
      have u2 : IntKind.i64.wrap (((k % 8 : Nat) : Int) * 8) = ((k % 8 * 8 : Nat) : Int) := by rw [wrap_i64 (by omega) (by omega)]; omega
      have u3 : (((k % 8 * 8 : Nat) : Int) < 0) = False := by simp only [eq_iff_iff, iff_false]; omega
      have u4 : min (k % 8 * 8) 64 = k % 8 * 8 := by omega
      have u5 : (0 ≤ ((k / 8 : Nat) : Int)) = True := by simp only [eq_iff_iff, iff_true]; exact Int.natCast_nonneg _
      have u6 : (((k / 8 : Nat) : Int) < (W : Int)) = True := by simp only [eq_iff_iff, iff_true]; omega
      have u7 : l[i].toNat % 18446744073709551616 = l[i].toNat := Nat.mod_eq_of_lt (by omega)
      have u8 : pre l i / BW ^ (k / 8) % BW % 18446744073709551616 = pre l i / BW ^ (k / 8) % BW := Nat.mod_mod _ _
      simp -implicitDefEqProofs only [go_sem, Nat.reduceAdd, Nat.reduceMul, Nat.reduceEqDiff, Nat.reduceLT, Nat.reduceLeDiff, Nat.reduceSub, Nat.reduceBEq, reduceIte, reduceCtorEq, Int.reduceEq, Int.reduceNe, Nat.reduceBneDiff, Int.reduceLE, Int.reduceLT, Int.reduceToNat, Int.reduceAdd, Int.reduceSub, Int.reduceMul, Int.reduceNeg, T_ok3, T_agg3, T_isinfo3, T_info3, T_cells3, T_zero3, T_int3, T_ok5, T_agg5, T_isinfo5, T_info5, T_cells5, T_zero5, T_int5, T_ok9, T_agg9, T_isinfo9, T_info9, T_cells9, T_zero9, T_str9, T_len9t, T_ok84, T_agg84, T_isinfo84, T_info84, T_cells84, T_zero84, T_elem84, T_under84, T_len84s, T_len84n, T_len84b, T_ok92, T_agg92, T_isinfo92, T_info92, T_cells92, T_zero92, T_int92, hA', h0, hg, hsz, v1, v2, tdiv8, tmod8, u1, u2, u3, u4, u5, u6, Int.toNat_natCast, hgo, u64_wrap, u7, shl_u64, List.length_map, hll]
      refine ⟨drawQ_true _ _ (by kernel_rfl), ⟨i + 1, hA⟩, by simp only; omega, ?_⟩
      rw [u8, Nat.mod_mod, hpw, set_fW, hset, hwk]
      refine le_of (θ := [(104, 104)]) rfl ?_ ?_
      · simp [varsLe, lkp, ren1, ren0]
      · simp [boxesLe, lkp, Box.renames]
    · have hA' : ((i : Int) < (l.length : Int)) = False := by simp; omega
      have e : pre l i = bnum l := by rw [pre, List.take_of_length_le (by omega), show l.length - i = 0 by omega, Nat.pow_zero, Nat.mul_one]
      have hll := lows_length (B := BW) (bnum l) W
      have htk : ((lows BW (bnum l) W).map fW).take W = (lows BW (bnum l) W).map fW := List.take_of_length_le (by simp [hll])
      simp -implicitDefEqProofs only [go_sem, Nat.reduceAdd, Nat.reduceMul, Nat.reduceEqDiff, Nat.reduceLT, Nat.reduceLeDiff, Nat.reduceSub, Nat.reduceBEq, reduceIte, reduceCtorEq, Int.reduceEq, Int.reduceNe, Nat.reduceBneDiff, Int.reduceLE, Int.reduceLT, Int.reduceToNat, Int.reduceAdd, Int.reduceSub, Int.reduceMul, Int.reduceNeg, T_ok3, T_agg3, T_isinfo3, T_info3, T_cells3, T_zero3, T_int3, T_ok5, T_agg5, T_isinfo5, T_info5, T_cells5, T_zero5, T_int5, T_ok9, T_agg9, T_isinfo9, T_info9, T_cells9, T_zero9, T_str9, T_len9t, T_ok84, T_agg84, T_isinfo84, T_info84, T_cells84, T_zero84, T_elem84, T_under84, T_len84s, T_len84n, T_len84b, T_ok92, T_agg92, T_isinfo92, T_info92, T_cells92, T_zero92, T_int92, hA', e, List.length_map, hll, htk, dw]
end Go.Proofs.YtkgkebhlpjenaaaGreatDoor

namespace Go.Proofs.YtkgkebhlpjenaaaGreatDoor
open Go.Vl Go.RowKit Go.Dg

theorem byte_of_word (m k : Nat) : m / BW ^ (k / 8) % BW / 2 ^ (k % 8 * 8) % 256 = m / 256 ^ k % 256 := by
  have hm : k % 8 < 8 := Nat.mod_lt _ (by decide)
  have e8 : ∀ k, (256 : Nat) ^ k = 2 ^ (k * 8) := fun k => by rw [Nat.mul_comm, Nat.pow_mul]
  have hk : k = 8 * (k / 8) + k % 8 := by omega
  have e1 : (256 : Nat) ^ k = BW ^ (k / 8) * 256 ^ (k % 8) := by
    conv => lhs; rw [hk, Nat.pow_add, Nat.pow_mul]
  rw [← e8, e1, ← Nat.div_div_eq_div_mul]
  generalize m / BW ^ (k / 8) = v
  have e2 : BW = 256 ^ (k % 8) * (256 * 256 ^ (7 - k % 8)) := by
    rw [← Nat.mul_assoc, ← Nat.pow_succ, ← Nat.pow_add, show k % 8 + 1 + (7 - k % 8) = 8 by omega]
  rw [e2, Nat.mod_mul_right_div_self, Nat.mod_mul_right_mod]
/-- The first i bytes, the rest zeros. -/
def stp (m D i : Nat) : List Nat := (List.range D).map fun c => if c < i then m / 256 ^ (D - 1 - c) % 256 else 0
theorem stp_length (m D i : Nat) : (stp m D i).length = D := by simp [stp]
theorem stp_get (m D i c : Nat) (h : c < D) : (stp m D i)[c]? = some (if c < i then m / 256 ^ (D - 1 - c) % 256 else 0) := by simp [stp, h]
theorem stp_zero (m D : Nat) : List.replicate D (PV.int .u8 0) = (stp m D 0).map f8 := by
  apply List.ext_getElem?
  intro c
  by_cases hc : c < D
  · rw [List.getElem?_map, stp_get _ _ _ _ hc]; simp [hc]
  · rw [List.getElem?_eq_none (by simp; omega), List.getElem?_eq_none (by simp [stp_length]; omega)]
theorem stp_set (m D i : Nat) (hi : i < D) : (stp m D i).set i (m / 256 ^ (D - 1 - i) % 256) = stp m D (i + 1) := by
  apply List.ext_getElem?
  intro c
  rw [List.getElem?_set, stp_length]
  by_cases hc : c < D
  · rw [stp_get _ _ _ _ hc, stp_get _ _ _ _ hc]
    by_cases e : i = c
    · subst e; simp [hi]
    · simp only [e, if_false]
      by_cases hlt : c < i
      · rw [if_pos hlt, if_pos (by omega)]
      · rw [if_neg hlt, if_neg (by omega)]
  · rw [List.getElem?_eq_none (by rw [stp_length]; omega), List.getElem?_eq_none (by rw [stp_length]; omega)]
    simp; omega
theorem stp_full (m : Nat) : stp m (digs 256 m).length (digs 256 m).length = (digs 256 m).reverse := by
  apply List.ext_getElem?
  intro c
  by_cases hc : c < (digs 256 m).length
  · rw [stp_get _ _ _ _ hc, if_pos hc, List.getElem?_reverse hc, digs_get_lt (by decide) (by omega)]
  · rw [List.getElem?_eq_none (by rw [stp_length]; omega), List.getElem?_eq_none (by simp; omega)]
theorem set_f8 (l : List Nat) (i : Nat) (d : Nat) : (l.map f8).set i (PV.int .u8 (d : Int)) = (l.set i d).map f8 := (List.map_set (f := f8)).symm
theorem u8_wrapm (n : Nat) : IntKind.u8.wrap (n : Int) = ((n % 256 : Nat) : Int) := by
  simp [IntKind.wrap, IntKind.signed, IntKind.bits]
theorem wstore_v (m : Nat) (hl : (digs BW m).length ≤ 1000000) : SoundAt Tryz.prog 100 [dw (digs BW m)] (.str ⟨(magL m).toArray⟩) := by
  have hbl : (blen m + 7) / 8 = (digs 256 m).length := by
    by_cases h0 : m = 0
    · subst h0; rw [blen_zero, digs_zero]; rfl
    · have ht := top_digit (B := 256) (by decide) h0
      have hb : blen m = blen (m / 256 ^ ((digs 256 m).length - 1)) + 8 * ((digs 256 m).length - 1) := blen_top h0 8 (by decide)
      have h1 := blen_le 8 _ ht.2
      have h2 := blen_succ ht.1
      have hp : 0 < (digs 256 m).length := List.length_pos_iff.2 (mt (digs_eq_nil (by decide)).1 h0)
      omega
  have hbm : blen m ≤ 64 * (digs BW m).length := blen_le _ _ (by rw [Nat.pow_mul]; exact lt_pow_len BW_2 m)
  have w1 : IntKind.i64.wrap ((blen m : Int) + 7) = ((blen m + 7 : Nat) : Int) := by rw [wrap_i64 (by omega) (by omega)]; omega
  have w2 := wrapn (n := (blen m + 7) / 8) (by omega)
  generalize hD : (digs 256 m).length = D at *
  have hD2 : D ≤ 9000000 := by omega
  have hn0 : ((0 : Int) ≤ ((D : Nat) : Int)) = True := by simp
  have hn1 : ((1 : Nat) : Int) * (D : Int) ≤ 281474976710656 := by omega
  have hn2 : (D : Int) ≤ 9223372036854775807 := by omega
  rw [hbl] at w2
  refine sound_go (tb := []) 37 [.tmp 2] [0, 2, 3, 4, 5, 12, 13, 14] mixed Tryz.func100 rfl (by kernel_rfl) (by kernel_rfl) (by kernel_rfl) (by kernel_rfl) ?_
  simp -implicitDefEqProofs only [go_sem, Nat.reduceAdd, Nat.reduceMul, Nat.reduceEqDiff, Nat.reduceLT, Nat.reduceLeDiff, Nat.reduceSub, Nat.reduceBEq, reduceIte, reduceCtorEq, Int.reduceEq, Int.reduceNe, Nat.reduceBneDiff, Int.reduceLE, Int.reduceLT, Int.reduceToNat, Int.reduceAdd, Int.reduceSub, Int.reduceMul, Int.reduceNeg, T_ok3, T_agg3, T_isinfo3, T_info3, T_cells3, T_zero3, T_int3, T_ok5, T_agg5, T_isinfo5, T_info5, T_cells5, T_zero5, T_int5, T_ok9, T_agg9, T_isinfo9, T_info9, T_cells9, T_zero9, T_str9, T_len9t, T_ok74, T_agg74, T_isinfo74, T_info74, T_cells74, T_zero74, T_elem74, T_under74, T_len74s, T_len74n, T_len74b, T_ok84, T_agg84, T_isinfo84, T_info84, T_cells84, T_zero84, T_elem84, T_under84, T_len84s, T_len84n, T_len84b, T_ok92, T_agg92, T_isinfo92, T_info92, T_cells92, T_zero92, T_int92, dw]
  refine gcall_intro _ _ _ _ _ _ _ _ _ (wsize_v m (by omega)) ?_
  simp -implicitDefEqProofs only [go_sem, Nat.reduceAdd, Nat.reduceMul, Nat.reduceEqDiff, Nat.reduceLT, Nat.reduceLeDiff, Nat.reduceSub, Nat.reduceBEq, reduceIte, reduceCtorEq, Int.reduceEq, Int.reduceNe, Nat.reduceBneDiff, Int.reduceLE, Int.reduceLT, Int.reduceToNat, Int.reduceAdd, Int.reduceSub, Int.reduceMul, Int.reduceNeg, T_ok3, T_agg3, T_isinfo3, T_info3, T_cells3, T_zero3, T_int3, T_ok5, T_agg5, T_isinfo5, T_info5, T_cells5, T_zero5, T_int5, T_ok9, T_agg9, T_isinfo9, T_info9, T_cells9, T_zero9, T_str9, T_len9t, T_ok74, T_agg74, T_isinfo74, T_info74, T_cells74, T_zero74, T_elem74, T_under74, T_len74s, T_len74n, T_len74b, T_ok84, T_agg84, T_isinfo84, T_info84, T_cells84, T_zero84, T_elem84, T_under84, T_len84s, T_len84n, T_len84b, T_ok92, T_agg92, T_isinfo92, T_info92, T_cells92, T_zero92, T_int92, w1, tdiv8, hbl, w2, hn0, hn1, hn2, Int.toNat_natCast]
  have hfull := stp_full m
  rw [hD] at hfull
  rw [stp_zero m D]
  refine g_loop mixed (fun i : { i : Nat // i ≤ D } => St.of [(0, dw (digs BW m)), (2, .str ⟨#[]⟩), (3, .bs 104 1 0 D), (12, .int .i64 (D : Int)), (13, .int .i64 (i.1 : Int))]
      [(104, { els := (stp m D i.1).map f8, esz := 1, ety := 5, fro := 0, live := true, arr := true })]) (fun i => D - i.1) ⟨0, Nat.zero_le _⟩ ?_ ?_
  · refine le_of (θ := [(104, 104)]) rfl ?_ ?_
    · simp [varsLe, lkp, ren1, ren0, dw]
    · simp [boxesLe, lkp, Box.renames]
  · rintro ⟨i, hi⟩
    by_cases hA : i < D
    · have hA' : ((i : Int) < (D : Int)) = True := by simp; omega
      have h0 : (0 ≤ (i : Int)) = True := by simp
      have hwk := wrap_add1 (a := i) (by omega)
      have v1 : IntKind.i64.wrap ((D : Int) - 1) = ((D - 1 : Nat) : Int) := by rw [wrap_i64 (by omega) (by omega)]; omega
      have v2 : IntKind.i64.wrap (((D - 1 : Nat) : Int) - (i : Int)) = ((D - 1 - i : Nat) : Int) := by rw [wrap_i64 (by omega) (by omega)]; omega
      have hset := stp_set m D i hA
      have hne : m / 256 ^ (D - 1 - i) ≠ 0 := (digs_len (by decide) m _).1 (by omega)
      generalize hk : D - 1 - i = k at *
      have hbw := byte_of_word m k
      have hwne : m / BW ^ (k / 8) ≠ 0 := by
        intro h
        apply hne
        have e1 : (256 : Nat) ^ k = BW ^ (k / 8) * 256 ^ (k % 8) := by
          conv => lhs; rw [show k = 8 * (k / 8) + k % 8 by omega, Nat.pow_add, Nat.pow_mul]
        rw [e1, ← Nat.div_div_eq_div_mul, h, Nat.zero_div]
      have hgw := digs_get_lt (n := m) (k := k / 8) BW_2 ((digs_len BW_2 m _).2 hwne)
      generalize m / BW ^ (k / 8) % BW = q at *
      have u1 : IntKind.i64.wrap (((k / 8 : Nat) : Int)) = ((k / 8 : Nat) : Int) := wrapn (by omega)
      have u2 : IntKind.i64.wrap (((k % 8 : Nat) : Int) * 8) = ((k % 8 * 8 : Nat) : Int) := by rw [wrap_i64 (by omega) (by omega)]; omega
      have u3 : (((k % 8 * 8 : Nat) : Int) < 0) = False := by simp only [eq_iff_iff, iff_false]; omega
      have u4 : min (k % 8 * 8) 64 = k % 8 * 8 := by omega
      have u5 : (0 ≤ ((k / 8 : Nat) : Int)) = True := by simp only [eq_iff_iff, iff_true]; exact Int.natCast_nonneg _
      obtain ⟨e, hgo⟩ : ∃ e : Nat, ((stp m D i).map f8)[i]? = some (PV.int .u8 (e : Int)) := ⟨_, by rw [List.getElem?_map, stp_get _ _ _ _ hA]; rfl⟩
      have hsl := stp_length m D i
      simp -implicitDefEqProofs only [go_sem, Nat.reduceAdd, Nat.reduceMul, Nat.reduceEqDiff, Nat.reduceLT, Nat.reduceLeDiff, Nat.reduceSub, Nat.reduceBEq, reduceIte, reduceCtorEq, Int.reduceEq, Int.reduceNe, Nat.reduceBneDiff, Int.reduceLE, Int.reduceLT, Int.reduceToNat, Int.reduceAdd, Int.reduceSub, Int.reduceMul, Int.reduceNeg, T_ok3, T_agg3, T_isinfo3, T_info3, T_cells3, T_zero3, T_int3, T_ok5, T_agg5, T_isinfo5, T_info5, T_cells5, T_zero5, T_int5, T_ok9, T_agg9, T_isinfo9, T_info9, T_cells9, T_zero9, T_str9, T_len9t, T_ok74, T_agg74, T_isinfo74, T_info74, T_cells74, T_zero74, T_elem74, T_under74, T_len74s, T_len74n, T_len74b, T_ok84, T_agg84, T_isinfo84, T_info84, T_cells84, T_zero84, T_elem84, T_under84, T_len84s, T_len84n, T_len84b, T_ok92, T_agg92, T_isinfo92, T_info92, T_cells92, T_zero92, T_int92, dw, hA', h0, v1, v2, tdiv8, tmod8, u1, u2, u3, u4, u5, Int.toNat_natCast, dw_get, hgw, fdivK, u8_wrapm, hbw, hgo, List.length_map, hsl, hwk]
      refine ⟨⟨i + 1, hA⟩, by simp only; omega, ?_⟩
      refine le_of (θ := [(104, 104)]) rfl ?_ ?_
      · simp [varsLe, lkp, ren1, ren0, dw]
      · rw [set_f8, hset]
        simp [boxesLe, lkp, Box.renames]
    · have hA' : ((i : Int) < (D : Int)) = False := by simp; omega
      obtain rfl : i = D := by omega
      rw [hfull]
      have hrl : (digs 256 m).reverse.length = i := by simp [hD]
      have htk : ((digs 256 m).reverse.map f8).take i = (digs 256 m).reverse.map f8 := List.take_of_length_le (by simp [hD])
      simp -implicitDefEqProofs only [go_sem, Nat.reduceAdd, Nat.reduceMul, Nat.reduceEqDiff, Nat.reduceLT, Nat.reduceLeDiff, Nat.reduceSub, Nat.reduceBEq, reduceIte, reduceCtorEq, Int.reduceEq, Int.reduceNe, Nat.reduceBneDiff, Int.reduceLE, Int.reduceLT, Int.reduceToNat, Int.reduceAdd, Int.reduceSub, Int.reduceMul, Int.reduceNeg, T_ok3, T_agg3, T_isinfo3, T_info3, T_cells3, T_zero3, T_int3, T_ok5, T_agg5, T_isinfo5, T_info5, T_cells5, T_zero5, T_int5, T_ok9, T_agg9, T_isinfo9, T_info9, T_cells9, T_zero9, T_str9, T_len9t, T_ok74, T_agg74, T_isinfo74, T_info74, T_cells74, T_zero74, T_elem74, T_under74, T_len74s, T_len74n, T_len74b, T_ok84, T_agg84, T_isinfo84, T_info84, T_cells84, T_zero84, T_elem84, T_under84, T_len84s, T_len84n, T_len84b, T_ok92, T_agg92, T_isinfo92, T_info92, T_cells92, T_zero92, T_int92, hA', List.length_map, hrl, htk, bytesOf_f8]
      rfl
end Go.Proofs.YtkgkebhlpjenaaaGreatDoor

namespace Go.Proofs.YtkgkebhlpjenaaaGreatDoor
open Go.Vl Go.RowKit Go.Dg

theorem nwide_v (neg : Bool) (m : Nat) (hl : (digs BW m).length ≤ 1000000) : SoundAt Tryz.prog 64 [nP neg m] (outPV (sv neg m)) := by
  have hna : (sv neg m).natAbs = m := by cases neg <;> simp [sv]
  have hneg : decide (sv neg m < 0) = (neg && decide (0 < m)) := by
    cases neg
    · simp [sv]
    · simp [sv]
  unfold outPV
  rw [hna]
  refine sound_go (tb := []) 21 [.cell 2 23, .tmp 3] [0, 1, 2, 3, 7] mixed Tryz.func64 rfl (by kernel_rfl) (by kernel_rfl) (by kernel_rfl) (by kernel_rfl) ?_
  simp -implicitDefEqProofs only [go_sem, Nat.reduceAdd, Nat.reduceMul, Nat.reduceEqDiff, Nat.reduceLT, Nat.reduceLeDiff, Nat.reduceSub, Nat.reduceBEq, reduceIte, reduceCtorEq, Int.reduceEq, Int.reduceNe, Nat.reduceBneDiff, Int.reduceLE, Int.reduceLT, Int.reduceToNat, Int.reduceAdd, Int.reduceSub, Int.reduceMul, Int.reduceNeg, T_ok3, T_agg3, T_isinfo3, T_info3, T_cells3, T_zero3, T_int3, T_ok4, T_agg4, T_isinfo4, T_info4, T_cells4, T_zero4, T_bool4, T_ok9, T_agg9, T_isinfo9, T_info9, T_cells9, T_zero9, T_str9, T_len9t, T_ok23, T_agg23, T_isinfo23, T_info23, T_cells23, T_zero23, T_build23, T_f23_0, T_p23_0, T_f23_1, T_p23_1, T_eqs23, T_ok84, T_agg84, T_isinfo84, T_info84, T_cells84, T_zero84, T_elem84, T_under84, T_len84s, T_len84n, T_len84b, T_ok86, T_agg86, T_isinfo86, T_info86, T_cells86, T_zero86, T_build86, T_f86_0, T_p86_0, T_f86_1, T_p86_1, T_ok92, T_agg92, T_isinfo92, T_info92, T_cells92, T_zero92, T_int92, nP, dw]
  refine gcall_intro _ _ _ _ _ _ _ _ _ (wsize_v m (by omega)) ?_
  by_cases h : 65536 < blen m
  · have h' : ((65536 : Int) < (blen m : Int)) = True := by simp only [eq_iff_iff, iff_true]; omega
    rw [if_pos h, wPV_zero]
    simp -implicitDefEqProofs only [go_sem, Nat.reduceAdd, Nat.reduceMul, Nat.reduceEqDiff, Nat.reduceLT, Nat.reduceLeDiff, Nat.reduceSub, Nat.reduceBEq, reduceIte, reduceCtorEq, Int.reduceEq, Int.reduceNe, Nat.reduceBneDiff, Int.reduceLE, Int.reduceLT, Int.reduceToNat, Int.reduceAdd, Int.reduceSub, Int.reduceMul, Int.reduceNeg, T_ok3, T_agg3, T_isinfo3, T_info3, T_cells3, T_zero3, T_int3, T_ok4, T_agg4, T_isinfo4, T_info4, T_cells4, T_zero4, T_bool4, T_ok9, T_agg9, T_isinfo9, T_info9, T_cells9, T_zero9, T_str9, T_len9t, T_ok23, T_agg23, T_isinfo23, T_info23, T_cells23, T_zero23, T_build23, T_f23_0, T_p23_0, T_f23_1, T_p23_1, T_eqs23, T_ok84, T_agg84, T_isinfo84, T_info84, T_cells84, T_zero84, T_elem84, T_under84, T_len84s, T_len84n, T_len84b, T_ok86, T_agg86, T_isinfo86, T_info86, T_cells86, T_zero86, T_build86, T_f86_0, T_p86_0, T_f86_1, T_p86_1, T_ok92, T_agg92, T_isinfo92, T_info92, T_cells92, T_zero92, T_int92, h']
  · have h' : ((65536 : Int) < (blen m : Int)) = False := by simp only [eq_iff_iff, iff_false]; omega
    rw [if_neg h]
    have hlen : decide ((0 : Int) < ((digs BW m).length : Int)) = decide (0 < m) := by
      simp only [decide_eq_decide]
      have := mt (digs_eq_nil BW_2 (n := m)).2
      by_cases h0 : m = 0
      · subst h0; simp [digs_zero]
      · have := List.length_pos_iff.2 (mt (digs_eq_nil BW_2).1 h0)
        constructor <;> intro _ <;> omega
    cases neg with
    | true =>
      simp -implicitDefEqProofs only [go_sem, Nat.reduceAdd, Nat.reduceMul, Nat.reduceEqDiff, Nat.reduceLT, Nat.reduceLeDiff, Nat.reduceSub, Nat.reduceBEq, reduceIte, reduceCtorEq, Int.reduceEq, Int.reduceNe, Nat.reduceBneDiff, Int.reduceLE, Int.reduceLT, Int.reduceToNat, Int.reduceAdd, Int.reduceSub, Int.reduceMul, Int.reduceNeg, T_ok3, T_agg3, T_isinfo3, T_info3, T_cells3, T_zero3, T_int3, T_ok4, T_agg4, T_isinfo4, T_info4, T_cells4, T_zero4, T_bool4, T_ok9, T_agg9, T_isinfo9, T_info9, T_cells9, T_zero9, T_str9, T_len9t, T_ok23, T_agg23, T_isinfo23, T_info23, T_cells23, T_zero23, T_build23, T_f23_0, T_p23_0, T_f23_1, T_p23_1, T_eqs23, T_ok84, T_agg84, T_isinfo84, T_info84, T_cells84, T_zero84, T_elem84, T_under84, T_len84s, T_len84n, T_len84b, T_ok86, T_agg86, T_isinfo86, T_info86, T_cells86, T_zero86, T_build86, T_f86_0, T_p86_0, T_f86_1, T_p86_1, T_ok92, T_agg92, T_isinfo92, T_info92, T_cells92, T_zero92, T_int92, h', nP, dw, List.length_map]
      refine gcall_intro _ _ _ _ _ _ _ _ _ (wstore_v m hl) ?_
      simp -implicitDefEqProofs only [go_sem, Nat.reduceAdd, Nat.reduceMul, Nat.reduceEqDiff, Nat.reduceLT, Nat.reduceLeDiff, Nat.reduceSub, Nat.reduceBEq, reduceIte, reduceCtorEq, Int.reduceEq, Int.reduceNe, Nat.reduceBneDiff, Int.reduceLE, Int.reduceLT, Int.reduceToNat, Int.reduceAdd, Int.reduceSub, Int.reduceMul, Int.reduceNeg, T_ok3, T_agg3, T_isinfo3, T_info3, T_cells3, T_zero3, T_int3, T_ok4, T_agg4, T_isinfo4, T_info4, T_cells4, T_zero4, T_bool4, T_ok9, T_agg9, T_isinfo9, T_info9, T_cells9, T_zero9, T_str9, T_len9t, T_ok23, T_agg23, T_isinfo23, T_info23, T_cells23, T_zero23, T_build23, T_f23_0, T_p23_0, T_f23_1, T_p23_1, T_eqs23, T_ok84, T_agg84, T_isinfo84, T_info84, T_cells84, T_zero84, T_elem84, T_under84, T_len84s, T_len84n, T_len84b, T_ok86, T_agg86, T_isinfo86, T_info86, T_cells86, T_zero86, T_build86, T_f86_0, T_p86_0, T_f86_1, T_p86_1, T_ok92, T_agg92, T_isinfo92, T_info92, T_cells92, T_zero92, T_int92, wPV, hna, hneg, hlen, Bool.true_and]
      exact drawQ_true _ _ (by kernel_rfl)
    | false =>
      simp -implicitDefEqProofs only [go_sem, Nat.reduceAdd, Nat.reduceMul, Nat.reduceEqDiff, Nat.reduceLT, Nat.reduceLeDiff, Nat.reduceSub, Nat.reduceBEq, reduceIte, reduceCtorEq, Int.reduceEq, Int.reduceNe, Nat.reduceBneDiff, Int.reduceLE, Int.reduceLT, Int.reduceToNat, Int.reduceAdd, Int.reduceSub, Int.reduceMul, Int.reduceNeg, T_ok3, T_agg3, T_isinfo3, T_info3, T_cells3, T_zero3, T_int3, T_ok4, T_agg4, T_isinfo4, T_info4, T_cells4, T_zero4, T_bool4, T_ok9, T_agg9, T_isinfo9, T_info9, T_cells9, T_zero9, T_str9, T_len9t, T_ok23, T_agg23, T_isinfo23, T_info23, T_cells23, T_zero23, T_build23, T_f23_0, T_p23_0, T_f23_1, T_p23_1, T_eqs23, T_ok84, T_agg84, T_isinfo84, T_info84, T_cells84, T_zero84, T_elem84, T_under84, T_len84s, T_len84n, T_len84b, T_ok86, T_agg86, T_isinfo86, T_info86, T_cells86, T_zero86, T_build86, T_f86_0, T_p86_0, T_f86_1, T_p86_1, T_ok92, T_agg92, T_isinfo92, T_info92, T_cells92, T_zero92, T_int92, h', nP, dw, List.length_map]
      refine gcall_intro _ _ _ _ _ _ _ _ _ (wstore_v m hl) ?_
      simp -implicitDefEqProofs only [go_sem, Nat.reduceAdd, Nat.reduceMul, Nat.reduceEqDiff, Nat.reduceLT, Nat.reduceLeDiff, Nat.reduceSub, Nat.reduceBEq, reduceIte, reduceCtorEq, Int.reduceEq, Int.reduceNe, Nat.reduceBneDiff, Int.reduceLE, Int.reduceLT, Int.reduceToNat, Int.reduceAdd, Int.reduceSub, Int.reduceMul, Int.reduceNeg, T_ok3, T_agg3, T_isinfo3, T_info3, T_cells3, T_zero3, T_int3, T_ok4, T_agg4, T_isinfo4, T_info4, T_cells4, T_zero4, T_bool4, T_ok9, T_agg9, T_isinfo9, T_info9, T_cells9, T_zero9, T_str9, T_len9t, T_ok23, T_agg23, T_isinfo23, T_info23, T_cells23, T_zero23, T_build23, T_f23_0, T_p23_0, T_f23_1, T_p23_1, T_eqs23, T_ok84, T_agg84, T_isinfo84, T_info84, T_cells84, T_zero84, T_elem84, T_under84, T_len84s, T_len84n, T_len84b, T_ok86, T_agg86, T_isinfo86, T_info86, T_cells86, T_zero86, T_build86, T_f86_0, T_p86_0, T_f86_1, T_p86_1, T_ok92, T_agg92, T_isinfo92, T_info92, T_cells92, T_zero92, T_int92, wPV, hna, hneg, Bool.false_and]
      exact drawQ_true _ _ (by kernel_rfl)
end Go.Proofs.YtkgkebhlpjenaaaGreatDoor

namespace Go.Proofs.YtkgkebhlpjenaaaGreatDoor
open Go.Vl Go.RowKit Go.Dg

theorem bfold (r : List UInt8) : ∀ a : Nat, r.foldl (fun n b => n * 256 + b.toNat) a = a * 256 ^ r.length + bnum r := by
  induction r with
  | nil => intro a; simp [bnum]
  | cons b r ih =>
    intro a
    have h0 : bnum (b :: r) = b.toNat * 256 ^ r.length + bnum r := by
      have h := ih (0 * 256 + b.toNat)
      rw [Nat.zero_mul, Nat.zero_add] at h
      rw [← h, bnum, List.foldl_cons, Nat.zero_mul, Nat.zero_add]
    rw [List.foldl_cons, ih, h0, List.length_cons, Nat.pow_succ, Nat.add_mul, Nat.mul_assoc, Nat.mul_comm 256]
    omega
theorem bnum_cons (b : UInt8) (r : List UInt8) : bnum (b :: r) = b.toNat * 256 ^ r.length + bnum r := by
  have h := bfold r (0 * 256 + b.toNat)
  rw [Nat.zero_mul, Nat.zero_add] at h
  rw [← h, bnum, List.foldl_cons, Nat.zero_mul, Nat.zero_add]
theorem load_digs {neg : Bool} {l : List UInt8} (h : validB neg l = true) : lows BW (bnum l) ((l.length + 7) / 8) = digs BW (bnum l) := by
  refine lows_done BW_2 ?_ ?_
  · refine Nat.lt_of_lt_of_le (bnum_lt _ l rfl) ?_
    rw [show BW = 256 ^ 8 from rfl, ← Nat.pow_mul]
    exact Nat.pow_le_pow_right (by decide) (by omega)
  · intro j hj
    cases l with
    | nil => simp at hj
    | cons b r =>
      have hb : b.toNat ≠ 0 := by
        intro e
        have : b = 0 := UInt8.toNat_inj.1 (by simpa using e)
        subst this
        simp [validB] at h
      have hge : 256 ^ r.length ≤ bnum (b :: r) := by
        rw [bnum_cons]
        have := Nat.mul_le_mul_right (256 ^ r.length) (Nat.pos_of_ne_zero hb)
        omega
      have hle : BW ^ j ≤ 256 ^ r.length := by
        rw [show BW = 256 ^ 8 from rfl, ← Nat.pow_mul]
        exact Nat.pow_le_pow_right (by decide) (by simp at hj; omega)
      have := Nat.div_pos (Nat.le_trans hle hge) (Nat.pow_pos (n := j) (show 0 < BW by decide))
      omega
theorem wof_v (neg : Bool) (s : ByteArray) (h : validB neg s.data.toList = true) (hs : s.size ≤ 1000000) : SoundAt Tryz.prog 62 [.agg [.bool neg, .str s]] (nP neg (bnum s.data.toList)) := by
  have hl := wload_v s hs
  rw [load_digs h] at hl
  refine sound_go (tb := []) 9 [.cell 2 86] [0, 1, 2] mixed Tryz.func62 rfl (by kernel_rfl) (by kernel_rfl) (by kernel_rfl) (by kernel_rfl) ?_
  simp -implicitDefEqProofs only [go_sem, Nat.reduceAdd, Nat.reduceMul, Nat.reduceEqDiff, Nat.reduceLT, Nat.reduceLeDiff, Nat.reduceSub, Nat.reduceBEq, reduceIte, reduceCtorEq, Int.reduceEq, Int.reduceNe, Nat.reduceBneDiff, Int.reduceLE, Int.reduceLT, Int.reduceToNat, Int.reduceAdd, Int.reduceSub, Int.reduceMul, Int.reduceNeg, T_ok4, T_agg4, T_isinfo4, T_info4, T_cells4, T_zero4, T_bool4, T_ok9, T_agg9, T_isinfo9, T_info9, T_cells9, T_zero9, T_str9, T_len9t, T_ok23, T_agg23, T_isinfo23, T_info23, T_cells23, T_zero23, T_build23, T_f23_0, T_p23_0, T_f23_1, T_p23_1, T_eqs23, T_ok84, T_agg84, T_isinfo84, T_info84, T_cells84, T_zero84, T_elem84, T_under84, T_len84s, T_len84n, T_len84b, T_ok86, T_agg86, T_isinfo86, T_info86, T_cells86, T_zero86, T_build86, T_f86_0, T_p86_0, T_f86_1, T_p86_1, T_ok92, T_agg92, T_isinfo92, T_info92, T_cells92, T_zero92, T_int92]
  refine gcall_intro _ _ _ _ _ _ _ _ _ hl ?_
  simp -implicitDefEqProofs only [go_sem, Nat.reduceAdd, Nat.reduceMul, Nat.reduceEqDiff, Nat.reduceLT, Nat.reduceLeDiff, Nat.reduceSub, Nat.reduceBEq, reduceIte, reduceCtorEq, Int.reduceEq, Int.reduceNe, Nat.reduceBneDiff, Int.reduceLE, Int.reduceLT, Int.reduceToNat, Int.reduceAdd, Int.reduceSub, Int.reduceMul, Int.reduceNeg, T_ok4, T_agg4, T_isinfo4, T_info4, T_cells4, T_zero4, T_bool4, T_ok9, T_agg9, T_isinfo9, T_info9, T_cells9, T_zero9, T_str9, T_len9t, T_ok23, T_agg23, T_isinfo23, T_info23, T_cells23, T_zero23, T_build23, T_f23_0, T_p23_0, T_f23_1, T_p23_1, T_eqs23, T_ok84, T_agg84, T_isinfo84, T_info84, T_cells84, T_zero84, T_elem84, T_under84, T_len84s, T_len84n, T_len84b, T_ok86, T_agg86, T_isinfo86, T_info86, T_cells86, T_zero86, T_build86, T_f86_0, T_p86_0, T_f86_1, T_p86_1, T_ok92, T_agg92, T_isinfo92, T_info92, T_cells92, T_zero92, T_int92, nP, dw]
  exact drawQ_true _ _ (by kernel_rfl)
end Go.Proofs.YtkgkebhlpjenaaaGreatDoor

namespace Go.Proofs.YtkgkebhlpjenaaaGreatDoor
open Go.Vl Go.RowKit Go.Dg

/-- The number of a wide integer. -/
def wnum (neg : Bool) (s : ByteArray) : Int := sv neg (bnum s.data.toList)
theorem L_bnum (s : ByteArray) (hs : s.size ≤ 100000) : (digs BW (bnum s.data.toList)).length ≤ 100000 := by
  rw [ba_size] at hs
  refine Nat.le_trans ((digs_len_le BW_2 _ s.data.toList.length).2 ?_) hs
  exact Nat.lt_of_lt_of_le (bnum_lt _ _ rfl) (Nat.pow_le_pow_left (by decide) _)
theorem L_addW (a b m k : Nat) (hm : m ≤ a + b) (h1 : (digs BW a).length ≤ k) (h2 : (digs BW b).length ≤ k) : (digs BW m).length ≤ k + 1 := by
  rw [digs_len_le BW_2] at h1 h2 ⊢
  rw [Nat.pow_succ]
  generalize BW ^ k = K at *
  simp only [BW]
  omega
theorem wNeg_v (neg : Bool) (s : ByteArray) (h : validB neg s.data.toList = true) (hs : s.size ≤ 100000) : SoundAt Tryz.prog 44 [.agg [.bool neg, .str s]] (outPV (-(wnum neg s))) := by
  have e : sv (!neg) (bnum s.data.toList) = -(wnum neg s) := by cases neg <;> simp [sv, wnum]
  rw [← e]
  have hL := L_bnum s hs
  refine sound_go (tb := []) 14 [.cell 2 23, .tmp 3] [0, 1, 2, 3, 6] mixed Tryz.func44 rfl (by kernel_rfl) (by kernel_rfl) (by kernel_rfl) (by kernel_rfl) ?_
  simp -implicitDefEqProofs only [go_sem, Nat.reduceAdd, Nat.reduceMul, Nat.reduceEqDiff, Nat.reduceLT, Nat.reduceLeDiff, Nat.reduceSub, Nat.reduceBEq, reduceIte, reduceCtorEq, Int.reduceEq, Int.reduceNe, Nat.reduceBneDiff, Int.reduceLE, Int.reduceLT, Int.reduceToNat, Int.reduceAdd, Int.reduceSub, Int.reduceMul, Int.reduceNeg, T_ok4, T_agg4, T_isinfo4, T_info4, T_cells4, T_zero4, T_bool4, T_ok9, T_agg9, T_isinfo9, T_info9, T_cells9, T_zero9, T_str9, T_len9t, T_ok23, T_agg23, T_isinfo23, T_info23, T_cells23, T_zero23, T_build23, T_f23_0, T_p23_0, T_f23_1, T_p23_1, T_eqs23, T_ok84, T_agg84, T_isinfo84, T_info84, T_cells84, T_zero84, T_elem84, T_under84, T_len84s, T_len84n, T_len84b, T_ok86, T_agg86, T_isinfo86, T_info86, T_cells86, T_zero86, T_build86, T_f86_0, T_p86_0, T_f86_1, T_p86_1, T_ok92, T_agg92, T_isinfo92, T_info92, T_cells92, T_zero92, T_int92]
  refine gcall_intro _ _ _ _ _ _ _ _ _ (wvalid_v neg s) ?_
  simp -implicitDefEqProofs only [go_sem, Nat.reduceAdd, Nat.reduceMul, Nat.reduceEqDiff, Nat.reduceLT, Nat.reduceLeDiff, Nat.reduceSub, Nat.reduceBEq, reduceIte, reduceCtorEq, Int.reduceEq, Int.reduceNe, Nat.reduceBneDiff, Int.reduceLE, Int.reduceLT, Int.reduceToNat, Int.reduceAdd, Int.reduceSub, Int.reduceMul, Int.reduceNeg, T_ok4, T_agg4, T_isinfo4, T_info4, T_cells4, T_zero4, T_bool4, T_ok9, T_agg9, T_isinfo9, T_info9, T_cells9, T_zero9, T_str9, T_len9t, T_ok23, T_agg23, T_isinfo23, T_info23, T_cells23, T_zero23, T_build23, T_f23_0, T_p23_0, T_f23_1, T_p23_1, T_eqs23, T_ok84, T_agg84, T_isinfo84, T_info84, T_cells84, T_zero84, T_elem84, T_under84, T_len84s, T_len84n, T_len84b, T_ok86, T_agg86, T_isinfo86, T_info86, T_cells86, T_zero86, T_build86, T_f86_0, T_p86_0, T_f86_1, T_p86_1, T_ok92, T_agg92, T_isinfo92, T_info92, T_cells92, T_zero92, T_int92, h]
  refine gcall_intro _ _ _ _ _ _ _ _ _ (wof_v neg s h (by omega)) ?_
  simp -implicitDefEqProofs only [go_sem, Nat.reduceAdd, Nat.reduceMul, Nat.reduceEqDiff, Nat.reduceLT, Nat.reduceLeDiff, Nat.reduceSub, Nat.reduceBEq, reduceIte, reduceCtorEq, Int.reduceEq, Int.reduceNe, Nat.reduceBneDiff, Int.reduceLE, Int.reduceLT, Int.reduceToNat, Int.reduceAdd, Int.reduceSub, Int.reduceMul, Int.reduceNeg, T_ok4, T_agg4, T_isinfo4, T_info4, T_cells4, T_zero4, T_bool4, T_ok9, T_agg9, T_isinfo9, T_info9, T_cells9, T_zero9, T_str9, T_len9t, T_ok23, T_agg23, T_isinfo23, T_info23, T_cells23, T_zero23, T_build23, T_f23_0, T_p23_0, T_f23_1, T_p23_1, T_eqs23, T_ok84, T_agg84, T_isinfo84, T_info84, T_cells84, T_zero84, T_elem84, T_under84, T_len84s, T_len84n, T_len84b, T_ok86, T_agg86, T_isinfo86, T_info86, T_cells86, T_zero86, T_build86, T_f86_0, T_p86_0, T_f86_1, T_p86_1, T_ok92, T_agg92, T_isinfo92, T_info92, T_cells92, T_zero92, T_int92, nP, dw]
  refine gcall_intro _ _ _ _ _ _ _ _ _ (nneg_v neg (bnum s.data.toList)) ?_
  simp -implicitDefEqProofs only [go_sem, Nat.reduceAdd, Nat.reduceMul, Nat.reduceEqDiff, Nat.reduceLT, Nat.reduceLeDiff, Nat.reduceSub, Nat.reduceBEq, reduceIte, reduceCtorEq, Int.reduceEq, Int.reduceNe, Nat.reduceBneDiff, Int.reduceLE, Int.reduceLT, Int.reduceToNat, Int.reduceAdd, Int.reduceSub, Int.reduceMul, Int.reduceNeg, T_ok4, T_agg4, T_isinfo4, T_info4, T_cells4, T_zero4, T_bool4, T_ok9, T_agg9, T_isinfo9, T_info9, T_cells9, T_zero9, T_str9, T_len9t, T_ok23, T_agg23, T_isinfo23, T_info23, T_cells23, T_zero23, T_build23, T_f23_0, T_p23_0, T_f23_1, T_p23_1, T_eqs23, T_ok84, T_agg84, T_isinfo84, T_info84, T_cells84, T_zero84, T_elem84, T_under84, T_len84s, T_len84n, T_len84b, T_ok86, T_agg86, T_isinfo86, T_info86, T_cells86, T_zero86, T_build86, T_f86_0, T_p86_0, T_f86_1, T_p86_1, T_ok92, T_agg92, T_isinfo92, T_info92, T_cells92, T_zero92, T_int92, nP, dw]
  refine gcall_intro _ _ _ _ _ _ _ _ _ (nwide_v (!neg) (bnum s.data.toList) (by omega)) ?_
  unfold outPV
  split
  · simp -implicitDefEqProofs only [go_sem, Nat.reduceAdd, Nat.reduceMul, Nat.reduceEqDiff, Nat.reduceLT, Nat.reduceLeDiff, Nat.reduceSub, Nat.reduceBEq, reduceIte, reduceCtorEq, Int.reduceEq, Int.reduceNe, Nat.reduceBneDiff, Int.reduceLE, Int.reduceLT, Int.reduceToNat, Int.reduceAdd, Int.reduceSub, Int.reduceMul, Int.reduceNeg, T_ok4, T_agg4, T_isinfo4, T_info4, T_cells4, T_zero4, T_bool4, T_ok9, T_agg9, T_isinfo9, T_info9, T_cells9, T_zero9, T_str9, T_len9t, T_ok23, T_agg23, T_isinfo23, T_info23, T_cells23, T_zero23, T_build23, T_f23_0, T_p23_0, T_f23_1, T_p23_1, T_eqs23, T_ok84, T_agg84, T_isinfo84, T_info84, T_cells84, T_zero84, T_elem84, T_under84, T_len84s, T_len84n, T_len84b, T_ok86, T_agg86, T_isinfo86, T_info86, T_cells86, T_zero86, T_build86, T_f86_0, T_p86_0, T_f86_1, T_p86_1, T_ok92, T_agg92, T_isinfo92, T_info92, T_cells92, T_zero92, T_int92, wPV]
  · simp -implicitDefEqProofs only [go_sem, Nat.reduceAdd, Nat.reduceMul, Nat.reduceEqDiff, Nat.reduceLT, Nat.reduceLeDiff, Nat.reduceSub, Nat.reduceBEq, reduceIte, reduceCtorEq, Int.reduceEq, Int.reduceNe, Nat.reduceBneDiff, Int.reduceLE, Int.reduceLT, Int.reduceToNat, Int.reduceAdd, Int.reduceSub, Int.reduceMul, Int.reduceNeg, T_ok4, T_agg4, T_isinfo4, T_info4, T_cells4, T_zero4, T_bool4, T_ok9, T_agg9, T_isinfo9, T_info9, T_cells9, T_zero9, T_str9, T_len9t, T_ok23, T_agg23, T_isinfo23, T_info23, T_cells23, T_zero23, T_build23, T_f23_0, T_p23_0, T_f23_1, T_p23_1, T_eqs23, T_ok84, T_agg84, T_isinfo84, T_info84, T_cells84, T_zero84, T_elem84, T_under84, T_len84s, T_len84n, T_len84b, T_ok86, T_agg86, T_isinfo86, T_info86, T_cells86, T_zero86, T_build86, T_f86_0, T_p86_0, T_f86_1, T_p86_1, T_ok92, T_agg92, T_isinfo92, T_info92, T_cells92, T_zero92, T_int92, wPV]
/-- What a refused call hands back. -/
def refused : PV := .tup [wPV 0, .int .i64 2]
/-- What Out and the like hand back. -/
def outN (n : Int) : Int := if 65536 < blen n.natAbs then 0 else n
def outE (n : Int) : Int := if 65536 < blen n.natAbs then 7 else 0
theorem outPV_eq (n : Int) : outPV n = .tup [wPV (outN n), .int .i64 (outE n)] := by
  unfold outPV outN outE; split <;> rfl
theorem refused_eq : refused = .tup [.agg [.bool false, .str ⟨#[]⟩], .int .i64 2] := by rw [refused, wPV_zero]
theorem small_ok (n : Int) (k : Nat) (h : n.natAbs < 256 ^ k) : (digs E9 n.natAbs).length ≤ k ∧ (digs 256 n.natAbs).length ≤ k :=
  ⟨(digs_len_le E9_2 _ k).2 (Nat.lt_of_lt_of_le h (Nat.pow_le_pow_left (by decide) k)), (digs_len_le (by decide) _ k).2 h⟩
theorem wnum_abs (neg : Bool) (s : ByteArray) : (wnum neg s).natAbs = bnum s.data.toList := by unfold wnum sv; cases neg <;> simp
theorem wnum_lt (neg : Bool) (s : ByteArray) (k : Nat) (h : s.size ≤ k) : (wnum neg s).natAbs < 256 ^ k := by
  rw [wnum_abs]
  exact Nat.lt_of_lt_of_le (bnum_lt _ _ rfl) (Nat.pow_le_pow_right (by decide) h)
theorem sum_lt {x y : Int} {k : Nat} (hx : x.natAbs < 256 ^ k) (hy : y.natAbs < 256 ^ k) : (x + y).natAbs < 256 ^ (k + 1) := by
  rw [Nat.pow_succ]; generalize 256 ^ k = K at *; omega
theorem e9_sum {x y : Int} {k : Nat} (hk : k ≤ 1000000) (hx : x.natAbs < 256 ^ k) (hy : y.natAbs < 256 ^ k) : (digs E9 (x.natAbs + y.natAbs)).length ≤ 1000000000 := by
  refine Nat.le_trans ((digs_len_le E9_2 _ (k + 1)).2 ?_) (show k + 1 ≤ 1000000000 by omega)
  have h : (256 : Nat) ^ k ≤ E9 ^ k := Nat.pow_le_pow_left (by decide) k
  rw [Nat.pow_succ]
  generalize 256 ^ k = K at *
  generalize E9 ^ k = M at *
  simp only [E9]
  omega
theorem wNeg_no (neg : Bool) (s : ByteArray) (h : validB neg s.data.toList = false) : SoundAt Tryz.prog 44 [.agg [.bool neg, .str s]] refused := by
  rw [refused, wPV_zero]
  refine sound_go (tb := []) 14 [.cell 2 23, .tmp 3] [0, 1, 2, 3, 6] mixed Tryz.func44 rfl (by kernel_rfl) (by kernel_rfl) (by kernel_rfl) (by kernel_rfl) ?_
  simp -implicitDefEqProofs only [go_sem, Nat.reduceAdd, Nat.reduceMul, Nat.reduceEqDiff, Nat.reduceLT, Nat.reduceLeDiff, Nat.reduceSub, Nat.reduceBEq, reduceIte, reduceCtorEq, Int.reduceEq, Int.reduceNe, Nat.reduceBneDiff, Int.reduceLE, Int.reduceLT, Int.reduceToNat, Int.reduceAdd, Int.reduceSub, Int.reduceMul, Int.reduceNeg, T_ok4, T_agg4, T_isinfo4, T_info4, T_cells4, T_zero4, T_bool4, T_ok9, T_agg9, T_isinfo9, T_info9, T_cells9, T_zero9, T_str9, T_len9t, T_ok23, T_agg23, T_isinfo23, T_info23, T_cells23, T_zero23, T_build23, T_f23_0, T_p23_0, T_f23_1, T_p23_1, T_eqs23, T_ok84, T_agg84, T_isinfo84, T_info84, T_cells84, T_zero84, T_elem84, T_under84, T_len84s, T_len84n, T_len84b, T_ok86, T_agg86, T_isinfo86, T_info86, T_cells86, T_zero86, T_build86, T_f86_0, T_p86_0, T_f86_1, T_p86_1, T_ok92, T_agg92, T_isinfo92, T_info92, T_cells92, T_zero92, T_int92]
  refine gcall_intro _ _ _ _ _ _ _ _ _ (wvalid_v neg s) ?_
  simp -implicitDefEqProofs only [go_sem, Nat.reduceAdd, Nat.reduceMul, Nat.reduceEqDiff, Nat.reduceLT, Nat.reduceLeDiff, Nat.reduceSub, Nat.reduceBEq, reduceIte, reduceCtorEq, Int.reduceEq, Int.reduceNe, Nat.reduceBneDiff, Int.reduceLE, Int.reduceLT, Int.reduceToNat, Int.reduceAdd, Int.reduceSub, Int.reduceMul, Int.reduceNeg, T_ok4, T_agg4, T_isinfo4, T_info4, T_cells4, T_zero4, T_bool4, T_ok9, T_agg9, T_isinfo9, T_info9, T_cells9, T_zero9, T_str9, T_len9t, T_ok23, T_agg23, T_isinfo23, T_info23, T_cells23, T_zero23, T_build23, T_f23_0, T_p23_0, T_f23_1, T_p23_1, T_eqs23, T_ok84, T_agg84, T_isinfo84, T_info84, T_cells84, T_zero84, T_elem84, T_under84, T_len84s, T_len84n, T_len84b, T_ok86, T_agg86, T_isinfo86, T_info86, T_cells86, T_zero86, T_build86, T_f86_0, T_p86_0, T_f86_1, T_p86_1, T_ok92, T_agg92, T_isinfo92, T_info92, T_cells92, T_zero92, T_int92, h]
theorem wAdd_no (an bn : Bool) (a b : ByteArray) (h : (validB an a.data.toList && validB bn b.data.toList) = false) : SoundAt Tryz.prog 45 [.agg [.bool an, .str a], .agg [.bool bn, .str b]] refused := by
  rw [refused, wPV_zero]
  refine sound_go (tb := []) 19 [.cell 4 23, .tmp 5] [0, 1, 2, 3, 4, 5, 9] mixed Tryz.func45 rfl (by kernel_rfl) (by kernel_rfl) (by kernel_rfl) (by kernel_rfl) ?_
  simp -implicitDefEqProofs only [go_sem, Nat.reduceAdd, Nat.reduceMul, Nat.reduceEqDiff, Nat.reduceLT, Nat.reduceLeDiff, Nat.reduceSub, Nat.reduceBEq, reduceIte, reduceCtorEq, Int.reduceEq, Int.reduceNe, Nat.reduceBneDiff, Int.reduceLE, Int.reduceLT, Int.reduceToNat, Int.reduceAdd, Int.reduceSub, Int.reduceMul, Int.reduceNeg, T_ok4, T_agg4, T_isinfo4, T_info4, T_cells4, T_zero4, T_bool4, T_ok9, T_agg9, T_isinfo9, T_info9, T_cells9, T_zero9, T_str9, T_len9t, T_ok23, T_agg23, T_isinfo23, T_info23, T_cells23, T_zero23, T_build23, T_f23_0, T_p23_0, T_f23_1, T_p23_1, T_eqs23, T_ok84, T_agg84, T_isinfo84, T_info84, T_cells84, T_zero84, T_elem84, T_under84, T_len84s, T_len84n, T_len84b, T_ok86, T_agg86, T_isinfo86, T_info86, T_cells86, T_zero86, T_build86, T_f86_0, T_p86_0, T_f86_1, T_p86_1, T_ok92, T_agg92, T_isinfo92, T_info92, T_cells92, T_zero92, T_int92]
  refine gcall_intro _ _ _ _ _ _ _ _ _ (both_v an bn a b) ?_
  simp -implicitDefEqProofs only [go_sem, Nat.reduceAdd, Nat.reduceMul, Nat.reduceEqDiff, Nat.reduceLT, Nat.reduceLeDiff, Nat.reduceSub, Nat.reduceBEq, reduceIte, reduceCtorEq, Int.reduceEq, Int.reduceNe, Nat.reduceBneDiff, Int.reduceLE, Int.reduceLT, Int.reduceToNat, Int.reduceAdd, Int.reduceSub, Int.reduceMul, Int.reduceNeg, T_ok4, T_agg4, T_isinfo4, T_info4, T_cells4, T_zero4, T_bool4, T_ok9, T_agg9, T_isinfo9, T_info9, T_cells9, T_zero9, T_str9, T_len9t, T_ok23, T_agg23, T_isinfo23, T_info23, T_cells23, T_zero23, T_build23, T_f23_0, T_p23_0, T_f23_1, T_p23_1, T_eqs23, T_ok84, T_agg84, T_isinfo84, T_info84, T_cells84, T_zero84, T_elem84, T_under84, T_len84s, T_len84n, T_len84b, T_ok86, T_agg86, T_isinfo86, T_info86, T_cells86, T_zero86, T_build86, T_f86_0, T_p86_0, T_f86_1, T_p86_1, T_ok92, T_agg92, T_isinfo92, T_info92, T_cells92, T_zero92, T_int92, h]
theorem wAdd_v (an bn : Bool) (a b : ByteArray) (h1 : validB an a.data.toList = true) (h2 : validB bn b.data.toList = true) (ha : a.size ≤ 100000) (hb : b.size ≤ 100000) : SoundAt Tryz.prog 45 [.agg [.bool an, .str a], .agg [.bool bn, .str b]] (outPV (wnum an a + wnum bn b)) := by
  have hL1 := L_bnum a ha
  have hL2 := L_bnum b hb
  have h : (validB an a.data.toList && validB bn b.data.toList) = true := by rw [h1, h2]; rfl
  obtain ⟨n, m, hs, e, hm⟩ := nadd_v an bn (bnum a.data.toList) (bnum b.data.toList) (by omega) (by omega)
  have hLm : (digs BW m).length ≤ 1000000 := by
    exact Nat.le_trans (L_addW _ _ _ _ hm hL1 hL2) (by decide)
  rw [wnum, wnum, ← e]
  refine sound_go (tb := []) 19 [.cell 4 23, .tmp 5] [0, 1, 2, 3, 4, 5, 9] mixed Tryz.func45 rfl (by kernel_rfl) (by kernel_rfl) (by kernel_rfl) (by kernel_rfl) ?_
  simp -implicitDefEqProofs only [go_sem, Nat.reduceAdd, Nat.reduceMul, Nat.reduceEqDiff, Nat.reduceLT, Nat.reduceLeDiff, Nat.reduceSub, Nat.reduceBEq, reduceIte, reduceCtorEq, Int.reduceEq, Int.reduceNe, Nat.reduceBneDiff, Int.reduceLE, Int.reduceLT, Int.reduceToNat, Int.reduceAdd, Int.reduceSub, Int.reduceMul, Int.reduceNeg, T_ok4, T_agg4, T_isinfo4, T_info4, T_cells4, T_zero4, T_bool4, T_ok9, T_agg9, T_isinfo9, T_info9, T_cells9, T_zero9, T_str9, T_len9t, T_ok23, T_agg23, T_isinfo23, T_info23, T_cells23, T_zero23, T_build23, T_f23_0, T_p23_0, T_f23_1, T_p23_1, T_eqs23, T_ok84, T_agg84, T_isinfo84, T_info84, T_cells84, T_zero84, T_elem84, T_under84, T_len84s, T_len84n, T_len84b, T_ok86, T_agg86, T_isinfo86, T_info86, T_cells86, T_zero86, T_build86, T_f86_0, T_p86_0, T_f86_1, T_p86_1, T_ok92, T_agg92, T_isinfo92, T_info92, T_cells92, T_zero92, T_int92]
  refine gcall_intro _ _ _ _ _ _ _ _ _ (both_v an bn a b) ?_
  simp -implicitDefEqProofs only [go_sem, Nat.reduceAdd, Nat.reduceMul, Nat.reduceEqDiff, Nat.reduceLT, Nat.reduceLeDiff, Nat.reduceSub, Nat.reduceBEq, reduceIte, reduceCtorEq, Int.reduceEq, Int.reduceNe, Nat.reduceBneDiff, Int.reduceLE, Int.reduceLT, Int.reduceToNat, Int.reduceAdd, Int.reduceSub, Int.reduceMul, Int.reduceNeg, T_ok4, T_agg4, T_isinfo4, T_info4, T_cells4, T_zero4, T_bool4, T_ok9, T_agg9, T_isinfo9, T_info9, T_cells9, T_zero9, T_str9, T_len9t, T_ok23, T_agg23, T_isinfo23, T_info23, T_cells23, T_zero23, T_build23, T_f23_0, T_p23_0, T_f23_1, T_p23_1, T_eqs23, T_ok84, T_agg84, T_isinfo84, T_info84, T_cells84, T_zero84, T_elem84, T_under84, T_len84s, T_len84n, T_len84b, T_ok86, T_agg86, T_isinfo86, T_info86, T_cells86, T_zero86, T_build86, T_f86_0, T_p86_0, T_f86_1, T_p86_1, T_ok92, T_agg92, T_isinfo92, T_info92, T_cells92, T_zero92, T_int92, h]
  refine gcall_intro _ _ _ _ _ _ _ _ _ (wof_v an a h1 (by omega)) ?_
  simp -implicitDefEqProofs only [go_sem, Nat.reduceAdd, Nat.reduceMul, Nat.reduceEqDiff, Nat.reduceLT, Nat.reduceLeDiff, Nat.reduceSub, Nat.reduceBEq, reduceIte, reduceCtorEq, Int.reduceEq, Int.reduceNe, Nat.reduceBneDiff, Int.reduceLE, Int.reduceLT, Int.reduceToNat, Int.reduceAdd, Int.reduceSub, Int.reduceMul, Int.reduceNeg, T_ok4, T_agg4, T_isinfo4, T_info4, T_cells4, T_zero4, T_bool4, T_ok9, T_agg9, T_isinfo9, T_info9, T_cells9, T_zero9, T_str9, T_len9t, T_ok23, T_agg23, T_isinfo23, T_info23, T_cells23, T_zero23, T_build23, T_f23_0, T_p23_0, T_f23_1, T_p23_1, T_eqs23, T_ok84, T_agg84, T_isinfo84, T_info84, T_cells84, T_zero84, T_elem84, T_under84, T_len84s, T_len84n, T_len84b, T_ok86, T_agg86, T_isinfo86, T_info86, T_cells86, T_zero86, T_build86, T_f86_0, T_p86_0, T_f86_1, T_p86_1, T_ok92, T_agg92, T_isinfo92, T_info92, T_cells92, T_zero92, T_int92, nP, dw]
  refine gcall_intro _ _ _ _ _ _ _ _ _ (wof_v bn b h2 (by omega)) ?_
  simp -implicitDefEqProofs only [go_sem, Nat.reduceAdd, Nat.reduceMul, Nat.reduceEqDiff, Nat.reduceLT, Nat.reduceLeDiff, Nat.reduceSub, Nat.reduceBEq, reduceIte, reduceCtorEq, Int.reduceEq, Int.reduceNe, Nat.reduceBneDiff, Int.reduceLE, Int.reduceLT, Int.reduceToNat, Int.reduceAdd, Int.reduceSub, Int.reduceMul, Int.reduceNeg, T_ok4, T_agg4, T_isinfo4, T_info4, T_cells4, T_zero4, T_bool4, T_ok9, T_agg9, T_isinfo9, T_info9, T_cells9, T_zero9, T_str9, T_len9t, T_ok23, T_agg23, T_isinfo23, T_info23, T_cells23, T_zero23, T_build23, T_f23_0, T_p23_0, T_f23_1, T_p23_1, T_eqs23, T_ok84, T_agg84, T_isinfo84, T_info84, T_cells84, T_zero84, T_elem84, T_under84, T_len84s, T_len84n, T_len84b, T_ok86, T_agg86, T_isinfo86, T_info86, T_cells86, T_zero86, T_build86, T_f86_0, T_p86_0, T_f86_1, T_p86_1, T_ok92, T_agg92, T_isinfo92, T_info92, T_cells92, T_zero92, T_int92, nP, dw]
  refine gcall_intro _ _ _ _ _ _ _ _ _ hs ?_
  simp -implicitDefEqProofs only [go_sem, Nat.reduceAdd, Nat.reduceMul, Nat.reduceEqDiff, Nat.reduceLT, Nat.reduceLeDiff, Nat.reduceSub, Nat.reduceBEq, reduceIte, reduceCtorEq, Int.reduceEq, Int.reduceNe, Nat.reduceBneDiff, Int.reduceLE, Int.reduceLT, Int.reduceToNat, Int.reduceAdd, Int.reduceSub, Int.reduceMul, Int.reduceNeg, T_ok4, T_agg4, T_isinfo4, T_info4, T_cells4, T_zero4, T_bool4, T_ok9, T_agg9, T_isinfo9, T_info9, T_cells9, T_zero9, T_str9, T_len9t, T_ok23, T_agg23, T_isinfo23, T_info23, T_cells23, T_zero23, T_build23, T_f23_0, T_p23_0, T_f23_1, T_p23_1, T_eqs23, T_ok84, T_agg84, T_isinfo84, T_info84, T_cells84, T_zero84, T_elem84, T_under84, T_len84s, T_len84n, T_len84b, T_ok86, T_agg86, T_isinfo86, T_info86, T_cells86, T_zero86, T_build86, T_f86_0, T_p86_0, T_f86_1, T_p86_1, T_ok92, T_agg92, T_isinfo92, T_info92, T_cells92, T_zero92, T_int92, nP, dw]
  refine gcall_intro _ _ _ _ _ _ _ _ _ (nwide_v n m hLm) ?_
  unfold outPV
  split
  · simp -implicitDefEqProofs only [go_sem, Nat.reduceAdd, Nat.reduceMul, Nat.reduceEqDiff, Nat.reduceLT, Nat.reduceLeDiff, Nat.reduceSub, Nat.reduceBEq, reduceIte, reduceCtorEq, Int.reduceEq, Int.reduceNe, Nat.reduceBneDiff, Int.reduceLE, Int.reduceLT, Int.reduceToNat, Int.reduceAdd, Int.reduceSub, Int.reduceMul, Int.reduceNeg, T_ok4, T_agg4, T_isinfo4, T_info4, T_cells4, T_zero4, T_bool4, T_ok9, T_agg9, T_isinfo9, T_info9, T_cells9, T_zero9, T_str9, T_len9t, T_ok23, T_agg23, T_isinfo23, T_info23, T_cells23, T_zero23, T_build23, T_f23_0, T_p23_0, T_f23_1, T_p23_1, T_eqs23, T_ok84, T_agg84, T_isinfo84, T_info84, T_cells84, T_zero84, T_elem84, T_under84, T_len84s, T_len84n, T_len84b, T_ok86, T_agg86, T_isinfo86, T_info86, T_cells86, T_zero86, T_build86, T_f86_0, T_p86_0, T_f86_1, T_p86_1, T_ok92, T_agg92, T_isinfo92, T_info92, T_cells92, T_zero92, T_int92, wPV]
    exact drawQ_true _ _ (by kernel_rfl)
  · simp -implicitDefEqProofs only [go_sem, Nat.reduceAdd, Nat.reduceMul, Nat.reduceEqDiff, Nat.reduceLT, Nat.reduceLeDiff, Nat.reduceSub, Nat.reduceBEq, reduceIte, reduceCtorEq, Int.reduceEq, Int.reduceNe, Nat.reduceBneDiff, Int.reduceLE, Int.reduceLT, Int.reduceToNat, Int.reduceAdd, Int.reduceSub, Int.reduceMul, Int.reduceNeg, T_ok4, T_agg4, T_isinfo4, T_info4, T_cells4, T_zero4, T_bool4, T_ok9, T_agg9, T_isinfo9, T_info9, T_cells9, T_zero9, T_str9, T_len9t, T_ok23, T_agg23, T_isinfo23, T_info23, T_cells23, T_zero23, T_build23, T_f23_0, T_p23_0, T_f23_1, T_p23_1, T_eqs23, T_ok84, T_agg84, T_isinfo84, T_info84, T_cells84, T_zero84, T_elem84, T_under84, T_len84s, T_len84n, T_len84b, T_ok86, T_agg86, T_isinfo86, T_info86, T_cells86, T_zero86, T_build86, T_f86_0, T_p86_0, T_f86_1, T_p86_1, T_ok92, T_agg92, T_isinfo92, T_info92, T_cells92, T_zero92, T_int92, wPV]
    exact drawQ_true _ _ (by kernel_rfl)
end Go.Proofs.YtkgkebhlpjenaaaGreatDoor
