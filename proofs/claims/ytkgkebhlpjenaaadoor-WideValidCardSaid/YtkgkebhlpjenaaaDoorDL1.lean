/-
  DW8, Dl, DW9, DW10, DW11, DW12, DW13, DW14, DW15, DSh, DK1, DK2, US3, DL1 (merged for the claim).
-/
import Derived.Test.YtkgkebhlpjenaaaDoorDW7
import Derived.Test.YtkgkebhlpjenaaaDoorDW3
import Derived.Shelf.Pu.ParseUintPublic10
import Derived.Test.YtkgkebhlpjenaaaDoorChecked
import Derived.Test.YtkgkebhlpjenaaaDoorUW
set_option linter.unusedSimpArgs false
set_option linter.unusedVariables false
namespace Go.Proofs.YtkgkebhlpjenaaaDoor
open Go.Vl Go.RowKit Go.Dg

theorem lz64_v (x : Nat) (hx : x < 18446744073709551616) : SoundAt Tryd.prog 64 [.int .u64 (x : Int)] (.int .i64 ((64 - blen x : Nat) : Int)) := by
  have hb := blen_le 64 x hx
  have hw : IntKind.i64.wrap (64 - ((blen x : Nat) : Int)) = ((64 - blen x : Nat) : Int) := by rw [wrap_i64 (by omega) (by omega)]; omega
  refine sound_go (tb := []) 6 [.tmp 2] [0, 2] mixed Tryd.func64 rfl (by kernel_rfl) (by kernel_rfl) (by kernel_rfl) (by kernel_rfl) ?_
  simp -implicitDefEqProofs only [go_sem, Nat.reduceAdd, Nat.reduceMul, Nat.reduceEqDiff, Nat.reduceLT, Nat.reduceLeDiff, Nat.reduceSub, Nat.reduceBEq, reduceIte, reduceCtorEq, Int.reduceEq, Int.reduceNe, Nat.reduceBneDiff, Int.reduceLE, Int.reduceLT, Int.reduceToNat, Int.reduceAdd, Int.reduceSub, Int.reduceMul, Int.reduceNeg, T_ok3, T_agg3, T_isinfo3, T_info3, T_cells3, T_zero3, T_int3, T_ok57, T_agg57, T_isinfo57, T_info57, T_cells57, T_zero57, T_int57]
  refine gcall_intro _ _ _ _ _ _ _ _ _ (len64_v x hx) ?_
  simp -implicitDefEqProofs only [go_sem, Nat.reduceAdd, Nat.reduceMul, Nat.reduceEqDiff, Nat.reduceLT, Nat.reduceLeDiff, Nat.reduceSub, Nat.reduceBEq, reduceIte, reduceCtorEq, Int.reduceEq, Int.reduceNe, Nat.reduceBneDiff, Int.reduceLE, Int.reduceLT, Int.reduceToNat, Int.reduceAdd, Int.reduceSub, Int.reduceMul, Int.reduceNeg, T_ok3, T_agg3, T_isinfo3, T_info3, T_cells3, T_zero3, T_int3, T_ok57, T_agg57, T_isinfo57, T_info57, T_cells57, T_zero57, T_int57, hw]
theorem wsize_v (m : Nat) (hl : (digs BW m).length ≤ 1000000000) : SoundAt Tryd.prog 44 [dw (digs BW m)] (.int .i64 (blen m : Int)) := by
  refine sound_go (tb := []) 17 [.tmp 2] [0, 2, 5] mixed Tryd.func44 rfl (by kernel_rfl) (by kernel_rfl) (by kernel_rfl) (by kernel_rfl) ?_
  by_cases h0 : m = 0
  · subst h0
    have h1 : (((0 : Nat) : Int) == 0) = true := rfl
    simp -implicitDefEqProofs only [go_sem, Nat.reduceAdd, Nat.reduceMul, Nat.reduceEqDiff, Nat.reduceLT, Nat.reduceLeDiff, Nat.reduceSub, Nat.reduceBEq, reduceIte, reduceCtorEq, Int.reduceEq, Int.reduceNe, Nat.reduceBneDiff, Int.reduceLE, Int.reduceLT, Int.reduceToNat, Int.reduceAdd, Int.reduceSub, Int.reduceMul, Int.reduceNeg, T_ok3, T_agg3, T_isinfo3, T_info3, T_cells3, T_zero3, T_int3, T_ok57, T_agg57, T_isinfo57, T_info57, T_cells57, T_zero57, T_int57, T_ok59, T_agg59, T_isinfo59, T_info59, T_cells59, T_zero59, T_elem59, T_under59, T_len59s, T_len59n, T_len59b, dw, digs_zero, List.map_nil, List.length_nil, h1, blen_zero]
    rfl
  · have hp : 0 < (digs BW m).length := List.length_pos_iff.2 (mt (digs_eq_nil BW_2).1 h0)
    have h1 : (((digs BW m).length : Int) == 0) = false := by simp only [beq_eq_false_iff_ne, ne_eq]; omega
    have ht := top_digit BW_2 h0
    have hg := digs_get_lt (n := m) (k := (digs BW m).length - 1) BW_2 (by omega)
    rw [Nat.mod_eq_of_lt ht.2] at hg
    have hb : blen m = blen (m / BW ^ ((digs BW m).length - 1)) + 64 * ((digs BW m).length - 1) := blen_top h0 64 (by decide)
    generalize m / BW ^ ((digs BW m).length - 1) = t at *
    have htl := blen_le 64 t ht.2
    generalize hL : (digs BW m).length = L at *
    have hw1 : IntKind.i64.wrap ((L : Int) * 64) = ((L * 64 : Nat) : Int) := by rw [wrap_i64 (by omega) (by omega)]; omega
    have hw2 : IntKind.i64.wrap ((L : Int) - 1) = ((L - 1 : Nat) : Int) := by rw [wrap_i64 (by omega) (by omega)]; omega
    have hw3 : IntKind.i64.wrap (((L * 64 : Nat) : Int) - ((64 - blen t : Nat) : Int)) = ((blen m : Nat) : Int) := by rw [wrap_i64 (by omega) (by omega), hb]; omega
    have h2 : (0 ≤ ((L - 1 : Nat) : Int)) = True := by simp only [eq_iff_iff, iff_true]; exact Int.natCast_nonneg _
    simp -implicitDefEqProofs only [go_sem, Nat.reduceAdd, Nat.reduceMul, Nat.reduceEqDiff, Nat.reduceLT, Nat.reduceLeDiff, Nat.reduceSub, Nat.reduceBEq, reduceIte, reduceCtorEq, Int.reduceEq, Int.reduceNe, Nat.reduceBneDiff, Int.reduceLE, Int.reduceLT, Int.reduceToNat, Int.reduceAdd, Int.reduceSub, Int.reduceMul, Int.reduceNeg, T_ok3, T_agg3, T_isinfo3, T_info3, T_cells3, T_zero3, T_int3, T_ok57, T_agg57, T_isinfo57, T_info57, T_cells57, T_zero57, T_int57, T_ok59, T_agg59, T_isinfo59, T_info59, T_cells59, T_zero59, T_elem59, T_under59, T_len59s, T_len59n, T_len59b, dw, List.length_map, hL, h1, hw1, hw2, h2, dw_get, hg, Int.toNat_natCast]
    refine gcall_intro _ _ _ _ _ _ _ _ _ (lz64_v t ht.2) ?_
    simp -implicitDefEqProofs only [go_sem, Nat.reduceAdd, Nat.reduceMul, Nat.reduceEqDiff, Nat.reduceLT, Nat.reduceLeDiff, Nat.reduceSub, Nat.reduceBEq, reduceIte, reduceCtorEq, Int.reduceEq, Int.reduceNe, Nat.reduceBneDiff, Int.reduceLE, Int.reduceLT, Int.reduceToNat, Int.reduceAdd, Int.reduceSub, Int.reduceMul, Int.reduceNeg, T_ok3, T_agg3, T_isinfo3, T_info3, T_cells3, T_zero3, T_int3, T_ok57, T_agg57, T_isinfo57, T_info57, T_cells57, T_zero57, T_int57, T_ok59, T_agg59, T_isinfo59, T_info59, T_cells59, T_zero59, T_elem59, T_under59, T_len59s, T_len59n, T_len59b, hw3]
end Go.Proofs.YtkgkebhlpjenaaaDoor

namespace Go.Dg
abbrev WB : Nat := 18446744073709551616
theorem WB_eq (m : Nat) (hm : m < 8) : WB = 256 ^ (m + 1) * 256 ^ (7 - m) := by
  rw [← Nat.pow_add, show m + 1 + (7 - m) = 8 by omega]
theorem place_eq (T b m j : Nat) : 256 ^ (8 * j + m + 1) * T + b * 256 ^ (8 * j + m) = WB ^ j * (256 ^ (m + 1) * T + b * 256 ^ m) := by
  have e : WB ^ j = 256 ^ (8 * j) := by rw [Nat.pow_mul]
  rw [e, Nat.mul_add, ← Nat.mul_assoc, ← Nat.pow_add, Nat.mul_left_comm (256 ^ (8 * j)) b, ← Nat.pow_add, Nat.add_assoc]
theorem place_here (T b m j : Nat) (hb : b < 256) (hm : m < 8) :
    (256 ^ (8 * j + m + 1) * T + b * 256 ^ (8 * j + m)) / WB ^ j % WB = 256 ^ (m + 1) * (T % 256 ^ (7 - m)) + b * 256 ^ m := by
  have hp : 0 < 256 ^ m := Nat.pow_pos (by decide)
  have hlt : b * 256 ^ m < 256 ^ (m + 1) := by rw [Nat.pow_succ, Nat.mul_comm]; exact Nat.mul_lt_mul_of_pos_left hb hp
  rw [place_eq, Nat.mul_div_cancel_left _ (Nat.pow_pos (by decide)), WB_eq m hm]
  generalize b * 256 ^ m = r at *
  generalize 256 ^ (m + 1) = A at *
  generalize 256 ^ (7 - m) = q at *
  have hA : 0 < A := by omega
  rw [Nat.mod_mul, Nat.mul_add_mod, Nat.mod_eq_of_lt hlt, Nat.mul_add_div hA, Nat.div_eq_of_lt hlt, Nat.add_zero, Nat.add_comm]
theorem place_other (T b m j i : Nat) (hb : b < 256) (hm : m < 8) (hi : i ≠ j) :
    (256 ^ (8 * j + m + 1) * T + b * 256 ^ (8 * j + m)) / WB ^ i % WB = (256 ^ (8 * j + m + 1) * T) / WB ^ i % WB := by
  have hp : 0 < 256 ^ m := Nat.pow_pos (by decide)
  have hlt : b * 256 ^ m < 256 ^ (m + 1) := by rw [Nat.pow_succ, Nat.mul_comm]; exact Nat.mul_lt_mul_of_pos_left hb hp
  have e2 := place_eq T 0 m j
  rw [Nat.zero_mul, Nat.add_zero, Nat.zero_mul, Nat.add_zero] at e2
  rw [place_eq, e2]
  rcases Nat.lt_or_gt_of_ne hi with h | h
  · obtain ⟨d, rfl⟩ := Nat.exists_eq_add_of_lt h
    have e : ∀ X : Nat, WB ^ (i + d + 1) * X / WB ^ i % WB = 0 := by
      intro X
      rw [show i + d + 1 = i + (d + 1) by omega, Nat.pow_add, Nat.mul_assoc, Nat.mul_div_cancel_left _ (Nat.pow_pos (by decide)), Nat.pow_succ, Nat.mul_comm (WB ^ d), Nat.mul_assoc, Nat.mul_mod_right]
    rw [e, e]
  · obtain ⟨d, rfl⟩ := Nat.exists_eq_add_of_lt h
    have e : ∀ X : Nat, WB ^ j * X / WB ^ (j + d + 1) = X / WB / WB ^ d := by
      intro X
      rw [show j + d + 1 = j + (1 + d) by omega, Nat.pow_add, Nat.mul_div_mul_left _ _ (Nat.pow_pos (by decide)), Nat.pow_add, Nat.pow_one, Nat.div_div_eq_div_mul]
    rw [e, e]
    congr 2
    rw [WB_eq m hm]
    generalize b * 256 ^ m = r at *
    generalize 256 ^ (m + 1) = A at *
    generalize 256 ^ (7 - m) = q at *
    have hA : 0 < A := by omega
    rw [← Nat.div_div_eq_div_mul, ← Nat.div_div_eq_div_mul, Nat.mul_add_div hA, Nat.div_eq_of_lt hlt, Nat.add_zero, Nat.add_zero, Nat.mul_div_cancel_left _ hA]
end Go.Dg

namespace Go.Proofs.YtkgkebhlpjenaaaDoor
open Go.Vl Go.RowKit Go.Dg

theorem b_oru {P : Program} {t : TypeId} (x y : Nat) : binPV .or t P (.int .u64 (x : Int)) (.int .u64 (y : Int)) = some (.int .u64 (((x % 18446744073709551616) ||| (y % 18446744073709551616) : Nat) : Int)) := by
  rw [b_or]
  have h : (BitVec.ofInt IntKind.u64.bits (x : Int) ||| BitVec.ofInt IntKind.u64.bits (y : Int)).toNat = (x % 18446744073709551616) ||| (y % 18446744073709551616) := by
    rw [BitVec.toNat_or]
    have h1 : ∀ n : Nat, (BitVec.ofInt IntKind.u64.bits (n : Int)).toNat = n % 18446744073709551616 := by intro n; show (BitVec.ofInt 64 (n : Int)).toNat = _; simp
    rw [h1, h1]
  rw [h, u64_wrap, Nat.mod_eq_of_lt (Nat.or_lt_two_pow (n := 64) (Nat.mod_lt _ (by decide)) (Nat.mod_lt _ (by decide)))]
theorem shl_u64 (x k : Nat) : IntKind.u64.wrap ((x : Int) * 2 ^ k) = ((x * 2 ^ k % 18446744073709551616 : Nat) : Int) := by
  rw [← u64_wrap]; congr 1
theorem tdiv8 (n : Nat) : Int.tdiv (n : Int) 8 = ((n / 8 : Nat) : Int) := by
  rw [Int.tdiv_eq_ediv_of_nonneg (by omega)]; rfl
theorem tmod8 (n : Nat) : Int.tmod (n : Int) 8 = ((n % 8 : Nat) : Int) := by
  rw [Int.tmod_eq_emod_of_nonneg (by omega)]; rfl
/-- A byte put at its place. -/
theorem place_word (T b m j : Nat) (hb : b < 256) (hm : m < 8) :
    ((256 ^ (8 * j + m + 1) * T / WB ^ j % WB) ||| (b * 2 ^ (m * 8) % 18446744073709551616)) = (256 ^ (8 * j + m + 1) * T + b * 256 ^ (8 * j + m)) / WB ^ j % WB := by
  have h0 := place_here T 0 m j (by decide) hm
  rw [Nat.zero_mul, Nat.add_zero, Nat.zero_mul, Nat.add_zero] at h0
  rw [place_here T b m j hb hm, h0]
  have e8 : ∀ k, (256 : Nat) ^ k = 2 ^ (k * 8) := fun k => by rw [Nat.mul_comm, Nat.pow_mul]
  have hp : 0 < 256 ^ m := Nat.pow_pos (by decide)
  have hlt : b * 256 ^ m < 256 ^ (m + 1) := by rw [Nat.pow_succ, Nat.mul_comm]; exact Nat.mul_lt_mul_of_pos_left hb hp
  have hle : 256 ^ (m + 1) ≤ 18446744073709551616 := Nat.pow_le_pow_right (n := 256) (by decide) (show m + 1 ≤ 8 by omega)
  rw [← e8 m, Nat.mod_eq_of_lt (Nat.lt_of_lt_of_le hlt hle)]
  rw [e8 (m + 1)] at hlt ⊢
  exact (Nat.two_pow_add_eq_or_of_lt hlt _).symm

attribute [local go_sem high] b_oru
/-- The words of the first i bytes, at their places. -/
def pre (l : List UInt8) (i : Nat) : Nat := bnum (l.take i) * 256 ^ (l.length - i)
theorem wload_v (s : ByteArray) (hs : s.size ≤ 1000000) : SoundAt Tryd.prog 43 [.str s] (dw (lows BW (bnum s.data.toList) ((s.data.toList.length + 7) / 8))) := by
  rw [ba_size] at hs
  have hsz := ba_size s
  have hget := ba_get s
  generalize s.data.toList = l at *
  have w1 : IntKind.i64.wrap ((l.length : Int) + 7) = ((l.length + 7 : Nat) : Int) := by rw [wrap_i64 (by omega) (by omega)]; omega
  have w2 := wrapn (n := (l.length + 7) / 8) (by omega)
  have hn0 : ((0 : Int) ≤ (((l.length + 7) / 8 : Nat) : Int)) = True := by simp only [eq_iff_iff, iff_true]; exact Int.natCast_nonneg _
  have hn1 : ((8 : Nat) : Int) * (((l.length + 7) / 8 : Nat) : Int) ≤ 281474976710656 := by omega
  have hn2 : (((l.length + 7) / 8 : Nat) : Int) ≤ 9223372036854775807 := by omega
  refine sound_go (tb := []) 38 [.tmp 2] [0, 2, 3, 4, 5, 12, 13, 14] mixed Tryd.func43 rfl (by kernel_rfl) (by kernel_rfl) (by kernel_rfl) (by kernel_rfl) ?_
  simp -implicitDefEqProofs only [go_sem, Nat.reduceAdd, Nat.reduceMul, Nat.reduceEqDiff, Nat.reduceLT, Nat.reduceLeDiff, Nat.reduceSub, Nat.reduceBEq, reduceIte, reduceCtorEq, Int.reduceEq, Int.reduceNe, Nat.reduceBneDiff, Int.reduceLE, Int.reduceLT, Int.reduceToNat, Int.reduceAdd, Int.reduceSub, Int.reduceMul, Int.reduceNeg, T_ok3, T_agg3, T_isinfo3, T_info3, T_cells3, T_zero3, T_int3, T_ok5, T_agg5, T_isinfo5, T_info5, T_cells5, T_zero5, T_int5, T_ok9, T_agg9, T_isinfo9, T_info9, T_cells9, T_zero9, T_str9, T_len9t, T_ok57, T_agg57, T_isinfo57, T_info57, T_cells57, T_zero57, T_int57, T_ok59, T_agg59, T_isinfo59, T_info59, T_cells59, T_zero59, T_elem59, T_under59, T_len59s, T_len59n, T_len59b, hsz, w1, w2, tdiv8, hn0, hn1, hn2, Int.toNat_natCast]
  have hst : List.replicate ((l.length + 7) / 8) (PV.int .u64 0) = (lows BW (pre l 0) ((l.length + 7) / 8)).map fW := by
    rw [pre, List.take_zero, show bnum [] = 0 from rfl, Nat.zero_mul, lows_zero']; simp
  rw [hst]
  generalize hW : (l.length + 7) / 8 = W at *
  refine g_loop mixed (fun i : { i : Nat // i ≤ l.length } => St.of [(0, .str s), (2, .nilS), (3, .bs 104 1 0 W), (12, .int .i64 (l.length : Int)), (13, .int .i64 (i.1 : Int))]
      [(104, { els := (lows BW (pre l i.1) W).map fW, esz := 1, ety := 57, fro := 0, live := true, arr := true })]) (fun i => l.length - i.1) ⟨0, Nat.zero_le _⟩ ?_ ?_
  · refine le_of (θ := [(104, 104)]) rfl ?_ ?_
    · simp [varsLe, lkp, ren1, ren0]
    · simp [boxesLe, lkp, Box.renames]
  · rintro ⟨i, hi⟩
    by_cases hA : i < l.length
    · have hA' : ((i : Int) < (l.length : Int)) = True := by simp; omega
      have h0 : (0 ≤ (i : Int)) = True := by simp
      have hg := hget i hA
      have hwk := wrap_add1 (a := i) (by omega)
      have v1 : IntKind.i64.wrap ((l.length : Int) - 1) = ((l.length - 1 : Nat) : Int) := by rw [wrap_i64 (by omega) (by omega)]; omega
      have v2 : IntKind.i64.wrap (((l.length - 1 : Nat) : Int) - (i : Int)) = ((l.length - 1 - i : Nat) : Int) := by rw [wrap_i64 (by omega) (by omega)]; omega
      have htk : l.take (i + 1) = l.take i ++ [l[i]] := by rw [List.take_add_one]; simp [hA]
      have hb : l[i].toNat < 256 := l[i].toNat_lt
      generalize hk : l.length - 1 - i = k at *
      have hkj : k = 8 * (k / 8) + k % 8 := by omega
      have hm : k % 8 < 8 := Nat.mod_lt _ (by decide)
      have hjW : k / 8 < W := by omega
      have p0 : pre l i = 256 ^ (8 * (k / 8) + k % 8 + 1) * bnum (l.take i) := by
        rw [pre, Nat.mul_comm, show l.length - i = 8 * (k / 8) + k % 8 + 1 by omega]
      have p1 : pre l (i + 1) = 256 ^ (8 * (k / 8) + k % 8 + 1) * bnum (l.take i) + l[i].toNat * 256 ^ (8 * (k / 8) + k % 8) := by
        rw [pre, htk, bnum_snoc, show l.length - (i + 1) = 8 * (k / 8) + k % 8 by omega, Nat.add_mul, Nat.pow_succ, Nat.mul_assoc, Nat.mul_comm (bnum _), Nat.mul_comm 256]
      have hpw := place_word (bnum (l.take i)) l[i].toNat (k % 8) (k / 8) hb hm
      have hoth := fun c hc => place_other (bnum (l.take i)) l[i].toNat (k % 8) (k / 8) c hb hm hc
      rw [← p1, ← p0] at hpw
      rw [← p1, ← p0] at hoth
      have hgo : ((lows BW (pre l i) W).map fW)[k / 8]? = some (PV.int .u64 ((pre l i / BW ^ (k / 8) % BW : Nat) : Int)) := by rw [List.getElem?_map, lows_get _ _ _ hjW]; rfl
      have hset : (lows BW (pre l i) W).set (k / 8) (pre l (i + 1) / BW ^ (k / 8) % BW) = lows BW (pre l (i + 1)) W := by
        apply List.ext_getElem?
        intro c
        rw [List.getElem?_set, lows_length]
        by_cases hc : c < W
        · rw [lows_get _ _ _ hc, lows_get _ _ _ hc]
          by_cases e : k / 8 = c
          · subst e; simp [hjW]
          · simp only [e, if_false]
            rw [hoth c (fun h => e h.symm)]
        · rw [List.getElem?_eq_none (by rw [lows_length]; omega), List.getElem?_eq_none (by rw [lows_length]; omega)]
          simp; omega
      have hll := lows_length (B := BW) (pre l i) W
      have u1 : IntKind.i64.wrap (((k / 8 : Nat) : Int)) = ((k / 8 : Nat) : Int) := wrapn (by omega)
      have u2 : IntKind.i64.wrap (((k % 8 : Nat) : Int) * 8) = ((k % 8 * 8 : Nat) : Int) := by rw [wrap_i64 (by omega) (by omega)]; omega
      have u3 : (((k % 8 * 8 : Nat) : Int) < 0) = False := by simp only [eq_iff_iff, iff_false]; omega
      have u4 : min (k % 8 * 8) 64 = k % 8 * 8 := by omega
      have u5 : (0 ≤ ((k / 8 : Nat) : Int)) = True := by simp only [eq_iff_iff, iff_true]; exact Int.natCast_nonneg _
      have u6 : (((k / 8 : Nat) : Int) < (W : Int)) = True := by simp only [eq_iff_iff, iff_true]; omega
      have u7 : l[i].toNat % 18446744073709551616 = l[i].toNat := Nat.mod_eq_of_lt (by omega)
      have u8 : pre l i / BW ^ (k / 8) % BW % 18446744073709551616 = pre l i / BW ^ (k / 8) % BW := Nat.mod_mod _ _
      simp -implicitDefEqProofs only [go_sem, Nat.reduceAdd, Nat.reduceMul, Nat.reduceEqDiff, Nat.reduceLT, Nat.reduceLeDiff, Nat.reduceSub, Nat.reduceBEq, reduceIte, reduceCtorEq, Int.reduceEq, Int.reduceNe, Nat.reduceBneDiff, Int.reduceLE, Int.reduceLT, Int.reduceToNat, Int.reduceAdd, Int.reduceSub, Int.reduceMul, Int.reduceNeg, T_ok3, T_agg3, T_isinfo3, T_info3, T_cells3, T_zero3, T_int3, T_ok5, T_agg5, T_isinfo5, T_info5, T_cells5, T_zero5, T_int5, T_ok9, T_agg9, T_isinfo9, T_info9, T_cells9, T_zero9, T_str9, T_len9t, T_ok57, T_agg57, T_isinfo57, T_info57, T_cells57, T_zero57, T_int57, T_ok59, T_agg59, T_isinfo59, T_info59, T_cells59, T_zero59, T_elem59, T_under59, T_len59s, T_len59n, T_len59b, hA', h0, hg, hsz, v1, v2, tdiv8, tmod8, u1, u2, u3, u4, u5, u6, Int.toNat_natCast, hgo, u64_wrap, u7, shl_u64, List.length_map, hll]
      refine ⟨drawQ_true _ _ (by kernel_rfl), ⟨i + 1, hA⟩, by simp only; omega, ?_⟩
      rw [u8, Nat.mod_mod, hpw, set_fW, hset, hwk]
      refine le_of (θ := [(104, 104)]) rfl ?_ ?_
      · simp [varsLe, lkp, ren1, ren0]
      · simp [boxesLe, lkp, Box.renames]
    · have hA' : ((i : Int) < (l.length : Int)) = False := by simp; omega
      have e : pre l i = bnum l := by rw [pre, List.take_of_length_le (by omega), show l.length - i = 0 by omega, Nat.pow_zero, Nat.mul_one]
      have hll := lows_length (B := BW) (bnum l) W
      have htk : ((lows BW (bnum l) W).map fW).take W = (lows BW (bnum l) W).map fW := List.take_of_length_le (by simp [hll])
      simp -implicitDefEqProofs only [go_sem, Nat.reduceAdd, Nat.reduceMul, Nat.reduceEqDiff, Nat.reduceLT, Nat.reduceLeDiff, Nat.reduceSub, Nat.reduceBEq, reduceIte, reduceCtorEq, Int.reduceEq, Int.reduceNe, Nat.reduceBneDiff, Int.reduceLE, Int.reduceLT, Int.reduceToNat, Int.reduceAdd, Int.reduceSub, Int.reduceMul, Int.reduceNeg, T_ok3, T_agg3, T_isinfo3, T_info3, T_cells3, T_zero3, T_int3, T_ok5, T_agg5, T_isinfo5, T_info5, T_cells5, T_zero5, T_int5, T_ok9, T_agg9, T_isinfo9, T_info9, T_cells9, T_zero9, T_str9, T_len9t, T_ok57, T_agg57, T_isinfo57, T_info57, T_cells57, T_zero57, T_int57, T_ok59, T_agg59, T_isinfo59, T_info59, T_cells59, T_zero59, T_elem59, T_under59, T_len59s, T_len59n, T_len59b, hA', e, List.length_map, hll, htk, dw]
end Go.Proofs.YtkgkebhlpjenaaaDoor

namespace Go.Proofs.YtkgkebhlpjenaaaDoor
open Go.Vl Go.RowKit Go.Dg

theorem byte_of_word (m k : Nat) : m / BW ^ (k / 8) % BW / 2 ^ (k % 8 * 8) % 256 = m / 256 ^ k % 256 := by
  have hm : k % 8 < 8 := Nat.mod_lt _ (by decide)
  have e8 : ∀ k, (256 : Nat) ^ k = 2 ^ (k * 8) := fun k => by rw [Nat.mul_comm, Nat.pow_mul]
  have hk : k = 8 * (k / 8) + k % 8 := by omega
  have e1 : (256 : Nat) ^ k = BW ^ (k / 8) * 256 ^ (k % 8) := by
    conv => lhs; rw [hk, Nat.pow_add, Nat.pow_mul]
  rw [← e8, e1, ← Nat.div_div_eq_div_mul]
  generalize m / BW ^ (k / 8) = v
  have e2 : BW = 256 ^ (k % 8) * (256 * 256 ^ (7 - k % 8)) := by
    rw [← Nat.mul_assoc, ← Nat.pow_succ, ← Nat.pow_add, show k % 8 + 1 + (7 - k % 8) = 8 by omega]
  rw [e2, Nat.mod_mul_right_div_self, Nat.mod_mul_right_mod]
/-- The first i bytes, the rest zeros. -/
def stp (m D i : Nat) : List Nat := (List.range D).map fun c => if c < i then m / 256 ^ (D - 1 - c) % 256 else 0
theorem stp_length (m D i : Nat) : (stp m D i).length = D := by simp [stp]
theorem stp_get (m D i c : Nat) (h : c < D) : (stp m D i)[c]? = some (if c < i then m / 256 ^ (D - 1 - c) % 256 else 0) := by simp [stp, h]
theorem stp_zero (m D : Nat) : List.replicate D (PV.int .u8 0) = (stp m D 0).map f8 := by
  apply List.ext_getElem?
  intro c
  by_cases hc : c < D
  · rw [List.getElem?_map, stp_get _ _ _ _ hc]; simp [hc]
  · rw [List.getElem?_eq_none (by simp; omega), List.getElem?_eq_none (by simp [stp_length]; omega)]
theorem stp_set (m D i : Nat) (hi : i < D) : (stp m D i).set i (m / 256 ^ (D - 1 - i) % 256) = stp m D (i + 1) := by
  apply List.ext_getElem?
  intro c
  rw [List.getElem?_set, stp_length]
  by_cases hc : c < D
  · rw [stp_get _ _ _ _ hc, stp_get _ _ _ _ hc]
    by_cases e : i = c
    · subst e; simp [hi]
    · simp only [e, if_false]
      by_cases hlt : c < i
      · rw [if_pos hlt, if_pos (by omega)]
      · rw [if_neg hlt, if_neg (by omega)]
  · rw [List.getElem?_eq_none (by rw [stp_length]; omega), List.getElem?_eq_none (by rw [stp_length]; omega)]
    simp; omega
theorem stp_full (m : Nat) : stp m (digs 256 m).length (digs 256 m).length = (digs 256 m).reverse := by
  apply List.ext_getElem?
  intro c
  by_cases hc : c < (digs 256 m).length
  · rw [stp_get _ _ _ _ hc, if_pos hc, List.getElem?_reverse hc, digs_get_lt (by decide) (by omega)]
  · rw [List.getElem?_eq_none (by rw [stp_length]; omega), List.getElem?_eq_none (by simp; omega)]
theorem set_f8 (l : List Nat) (i : Nat) (d : Nat) : (l.map f8).set i (PV.int .u8 (d : Int)) = (l.set i d).map f8 := (List.map_set (f := f8)).symm
theorem u8_wrapm (n : Nat) : IntKind.u8.wrap (n : Int) = ((n % 256 : Nat) : Int) := by
  simp [IntKind.wrap, IntKind.signed, IntKind.bits]
theorem wstore_v (m : Nat) (hl : (digs BW m).length ≤ 1000000) : SoundAt Tryd.prog 58 [dw (digs BW m)] (.str ⟨(magL m).toArray⟩) := by
  have hbl : (blen m + 7) / 8 = (digs 256 m).length := by
    by_cases h0 : m = 0
    · subst h0; rw [blen_zero, digs_zero]; rfl
    · have ht := top_digit (B := 256) (by decide) h0
      have hb : blen m = blen (m / 256 ^ ((digs 256 m).length - 1)) + 8 * ((digs 256 m).length - 1) := blen_top h0 8 (by decide)
      have h1 := blen_le 8 _ ht.2
      have h2 := blen_succ ht.1
      have hp : 0 < (digs 256 m).length := List.length_pos_iff.2 (mt (digs_eq_nil (by decide)).1 h0)
      omega
  have hbm : blen m ≤ 64 * (digs BW m).length := blen_le _ _ (by rw [Nat.pow_mul]; exact lt_pow_len BW_2 m)
  have w1 : IntKind.i64.wrap ((blen m : Int) + 7) = ((blen m + 7 : Nat) : Int) := by rw [wrap_i64 (by omega) (by omega)]; omega
  have w2 := wrapn (n := (blen m + 7) / 8) (by omega)
  generalize hD : (digs 256 m).length = D at *
  have hD2 : D ≤ 9000000 := by omega
  have hn0 : ((0 : Int) ≤ ((D : Nat) : Int)) = True := by simp
  have hn1 : ((1 : Nat) : Int) * (D : Int) ≤ 281474976710656 := by omega
  have hn2 : (D : Int) ≤ 9223372036854775807 := by omega
  rw [hbl] at w2
  refine sound_go (tb := []) 37 [.tmp 2] [0, 2, 3, 4, 5, 12, 13, 14] mixed Tryd.func58 rfl (by kernel_rfl) (by kernel_rfl) (by kernel_rfl) (by kernel_rfl) ?_
  simp -implicitDefEqProofs only [go_sem, Nat.reduceAdd, Nat.reduceMul, Nat.reduceEqDiff, Nat.reduceLT, Nat.reduceLeDiff, Nat.reduceSub, Nat.reduceBEq, reduceIte, reduceCtorEq, Int.reduceEq, Int.reduceNe, Nat.reduceBneDiff, Int.reduceLE, Int.reduceLT, Int.reduceToNat, Int.reduceAdd, Int.reduceSub, Int.reduceMul, Int.reduceNeg, T_ok3, T_agg3, T_isinfo3, T_info3, T_cells3, T_zero3, T_int3, T_ok5, T_agg5, T_isinfo5, T_info5, T_cells5, T_zero5, T_int5, T_ok9, T_agg9, T_isinfo9, T_info9, T_cells9, T_zero9, T_str9, T_len9t, T_ok57, T_agg57, T_isinfo57, T_info57, T_cells57, T_zero57, T_int57, T_ok59, T_agg59, T_isinfo59, T_info59, T_cells59, T_zero59, T_elem59, T_under59, T_len59s, T_len59n, T_len59b, T_ok92, T_agg92, T_isinfo92, T_info92, T_cells92, T_zero92, T_elem92, T_under92, T_len92s, T_len92n, T_len92b, dw]
  refine gcall_intro _ _ _ _ _ _ _ _ _ (wsize_v m (by omega)) ?_
  simp -implicitDefEqProofs only [go_sem, Nat.reduceAdd, Nat.reduceMul, Nat.reduceEqDiff, Nat.reduceLT, Nat.reduceLeDiff, Nat.reduceSub, Nat.reduceBEq, reduceIte, reduceCtorEq, Int.reduceEq, Int.reduceNe, Nat.reduceBneDiff, Int.reduceLE, Int.reduceLT, Int.reduceToNat, Int.reduceAdd, Int.reduceSub, Int.reduceMul, Int.reduceNeg, T_ok3, T_agg3, T_isinfo3, T_info3, T_cells3, T_zero3, T_int3, T_ok5, T_agg5, T_isinfo5, T_info5, T_cells5, T_zero5, T_int5, T_ok9, T_agg9, T_isinfo9, T_info9, T_cells9, T_zero9, T_str9, T_len9t, T_ok57, T_agg57, T_isinfo57, T_info57, T_cells57, T_zero57, T_int57, T_ok59, T_agg59, T_isinfo59, T_info59, T_cells59, T_zero59, T_elem59, T_under59, T_len59s, T_len59n, T_len59b, T_ok92, T_agg92, T_isinfo92, T_info92, T_cells92, T_zero92, T_elem92, T_under92, T_len92s, T_len92n, T_len92b, w1, tdiv8, hbl, w2, hn0, hn1, hn2, Int.toNat_natCast]
  have hfull := stp_full m
  rw [hD] at hfull
  rw [stp_zero m D]
  refine g_loop mixed (fun i : { i : Nat // i ≤ D } => St.of [(0, dw (digs BW m)), (2, .str ⟨#[]⟩), (3, .bs 104 1 0 D), (12, .int .i64 (D : Int)), (13, .int .i64 (i.1 : Int))]
      [(104, { els := (stp m D i.1).map f8, esz := 1, ety := 5, fro := 0, live := true, arr := true })]) (fun i => D - i.1) ⟨0, Nat.zero_le _⟩ ?_ ?_
  · refine le_of (θ := [(104, 104)]) rfl ?_ ?_
    · simp [varsLe, lkp, ren1, ren0, dw]
    · simp [boxesLe, lkp, Box.renames]
  · rintro ⟨i, hi⟩
    by_cases hA : i < D
    · have hA' : ((i : Int) < (D : Int)) = True := by simp; omega
      have h0 : (0 ≤ (i : Int)) = True := by simp
      have hwk := wrap_add1 (a := i) (by omega)
      have v1 : IntKind.i64.wrap ((D : Int) - 1) = ((D - 1 : Nat) : Int) := by rw [wrap_i64 (by omega) (by omega)]; omega
      have v2 : IntKind.i64.wrap (((D - 1 : Nat) : Int) - (i : Int)) = ((D - 1 - i : Nat) : Int) := by rw [wrap_i64 (by omega) (by omega)]; omega
      have hset := stp_set m D i hA
      have hne : m / 256 ^ (D - 1 - i) ≠ 0 := (digs_len (by decide) m _).1 (by omega)
      generalize hk : D - 1 - i = k at *
      have hbw := byte_of_word m k
      have hwne : m / BW ^ (k / 8) ≠ 0 := by
        intro h
        apply hne
        have e1 : (256 : Nat) ^ k = BW ^ (k / 8) * 256 ^ (k % 8) := by
          conv => lhs; rw [show k = 8 * (k / 8) + k % 8 by omega, Nat.pow_add, Nat.pow_mul]
        rw [e1, ← Nat.div_div_eq_div_mul, h, Nat.zero_div]
      have hgw := digs_get_lt (n := m) (k := k / 8) BW_2 ((digs_len BW_2 m _).2 hwne)
      generalize m / BW ^ (k / 8) % BW = q at *
      have u1 : IntKind.i64.wrap (((k / 8 : Nat) : Int)) = ((k / 8 : Nat) : Int) := wrapn (by omega)
      have u2 : IntKind.i64.wrap (((k % 8 : Nat) : Int) * 8) = ((k % 8 * 8 : Nat) : Int) := by rw [wrap_i64 (by omega) (by omega)]; omega
      have u3 : (((k % 8 * 8 : Nat) : Int) < 0) = False := by simp only [eq_iff_iff, iff_false]; omega
      have u4 : min (k % 8 * 8) 64 = k % 8 * 8 := by omega
      have u5 : (0 ≤ ((k / 8 : Nat) : Int)) = True := by simp only [eq_iff_iff, iff_true]; exact Int.natCast_nonneg _
      obtain ⟨e, hgo⟩ : ∃ e : Nat, ((stp m D i).map f8)[i]? = some (PV.int .u8 (e : Int)) := ⟨_, by rw [List.getElem?_map, stp_get _ _ _ _ hA]; rfl⟩
      have hsl := stp_length m D i
      simp -implicitDefEqProofs only [go_sem, Nat.reduceAdd, Nat.reduceMul, Nat.reduceEqDiff, Nat.reduceLT, Nat.reduceLeDiff, Nat.reduceSub, Nat.reduceBEq, reduceIte, reduceCtorEq, Int.reduceEq, Int.reduceNe, Nat.reduceBneDiff, Int.reduceLE, Int.reduceLT, Int.reduceToNat, Int.reduceAdd, Int.reduceSub, Int.reduceMul, Int.reduceNeg, T_ok3, T_agg3, T_isinfo3, T_info3, T_cells3, T_zero3, T_int3, T_ok5, T_agg5, T_isinfo5, T_info5, T_cells5, T_zero5, T_int5, T_ok9, T_agg9, T_isinfo9, T_info9, T_cells9, T_zero9, T_str9, T_len9t, T_ok57, T_agg57, T_isinfo57, T_info57, T_cells57, T_zero57, T_int57, T_ok59, T_agg59, T_isinfo59, T_info59, T_cells59, T_zero59, T_elem59, T_under59, T_len59s, T_len59n, T_len59b, T_ok92, T_agg92, T_isinfo92, T_info92, T_cells92, T_zero92, T_elem92, T_under92, T_len92s, T_len92n, T_len92b, dw, hA', h0, v1, v2, tdiv8, tmod8, u1, u2, u3, u4, u5, Int.toNat_natCast, dw_get, hgw, fdivK, u8_wrapm, hbw, hgo, List.length_map, hsl, hwk]
      refine ⟨⟨i + 1, hA⟩, by simp only; omega, ?_⟩
      refine le_of (θ := [(104, 104)]) rfl ?_ ?_
      · simp [varsLe, lkp, ren1, ren0, dw]
      · rw [set_f8, hset]
        simp [boxesLe, lkp, Box.renames]
    · have hA' : ((i : Int) < (D : Int)) = False := by simp; omega
      obtain rfl : i = D := by omega
      rw [hfull]
      have hrl : (digs 256 m).reverse.length = i := by simp [hD]
      have htk : ((digs 256 m).reverse.map f8).take i = (digs 256 m).reverse.map f8 := List.take_of_length_le (by simp [hD])
      simp -implicitDefEqProofs only [go_sem, Nat.reduceAdd, Nat.reduceMul, Nat.reduceEqDiff, Nat.reduceLT, Nat.reduceLeDiff, Nat.reduceSub, Nat.reduceBEq, reduceIte, reduceCtorEq, Int.reduceEq, Int.reduceNe, Nat.reduceBneDiff, Int.reduceLE, Int.reduceLT, Int.reduceToNat, Int.reduceAdd, Int.reduceSub, Int.reduceMul, Int.reduceNeg, T_ok3, T_agg3, T_isinfo3, T_info3, T_cells3, T_zero3, T_int3, T_ok5, T_agg5, T_isinfo5, T_info5, T_cells5, T_zero5, T_int5, T_ok9, T_agg9, T_isinfo9, T_info9, T_cells9, T_zero9, T_str9, T_len9t, T_ok57, T_agg57, T_isinfo57, T_info57, T_cells57, T_zero57, T_int57, T_ok59, T_agg59, T_isinfo59, T_info59, T_cells59, T_zero59, T_elem59, T_under59, T_len59s, T_len59n, T_len59b, T_ok92, T_agg92, T_isinfo92, T_info92, T_cells92, T_zero92, T_elem92, T_under92, T_len92s, T_len92n, T_len92b, hA', List.length_map, hrl, htk, bytesOf_f8]
      rfl
end Go.Proofs.YtkgkebhlpjenaaaDoor

namespace Go.Proofs.YtkgkebhlpjenaaaDoor
open Go.Vl Go.RowKit Go.Dg

theorem nwide_v (neg : Bool) (m : Nat) (hl : (digs BW m).length ≤ 1000000) : SoundAt Tryd.prog 31 [nP neg m] (outPV (sv neg m)) := by
  have hna : (sv neg m).natAbs = m := by cases neg <;> simp [sv]
  have hneg : decide (sv neg m < 0) = (neg && decide (0 < m)) := by
    cases neg
    · simp [sv]
    · simp [sv]
  unfold outPV
  rw [hna]
  refine sound_go (tb := []) 21 [.cell 2 23, .tmp 3] [0, 1, 2, 3, 7] mixed Tryd.func31 rfl (by kernel_rfl) (by kernel_rfl) (by kernel_rfl) (by kernel_rfl) ?_
  simp -implicitDefEqProofs only [go_sem, Nat.reduceAdd, Nat.reduceMul, Nat.reduceEqDiff, Nat.reduceLT, Nat.reduceLeDiff, Nat.reduceSub, Nat.reduceBEq, reduceIte, reduceCtorEq, Int.reduceEq, Int.reduceNe, Nat.reduceBneDiff, Int.reduceLE, Int.reduceLT, Int.reduceToNat, Int.reduceAdd, Int.reduceSub, Int.reduceMul, Int.reduceNeg, T_ok3, T_agg3, T_isinfo3, T_info3, T_cells3, T_zero3, T_int3, T_ok4, T_agg4, T_isinfo4, T_info4, T_cells4, T_zero4, T_bool4, T_ok9, T_agg9, T_isinfo9, T_info9, T_cells9, T_zero9, T_str9, T_len9t, T_ok23, T_agg23, T_isinfo23, T_info23, T_cells23, T_zero23, T_build23, T_f23_0, T_p23_0, T_f23_1, T_p23_1, T_eqs23, T_ok57, T_agg57, T_isinfo57, T_info57, T_cells57, T_zero57, T_int57, T_ok59, T_agg59, T_isinfo59, T_info59, T_cells59, T_zero59, T_elem59, T_under59, T_len59s, T_len59n, T_len59b, T_ok62, T_agg62, T_isinfo62, T_info62, T_cells62, T_zero62, T_build62, T_f62_0, T_p62_0, T_f62_1, T_p62_1, nP, dw]
  refine gcall_intro _ _ _ _ _ _ _ _ _ (wsize_v m (by omega)) ?_
  by_cases h : 65536 < blen m
  · have h' : ((65536 : Int) < (blen m : Int)) = True := by simp only [eq_iff_iff, iff_true]; omega
    rw [if_pos h, wPV_zero]
    simp -implicitDefEqProofs only [go_sem, Nat.reduceAdd, Nat.reduceMul, Nat.reduceEqDiff, Nat.reduceLT, Nat.reduceLeDiff, Nat.reduceSub, Nat.reduceBEq, reduceIte, reduceCtorEq, Int.reduceEq, Int.reduceNe, Nat.reduceBneDiff, Int.reduceLE, Int.reduceLT, Int.reduceToNat, Int.reduceAdd, Int.reduceSub, Int.reduceMul, Int.reduceNeg, T_ok3, T_agg3, T_isinfo3, T_info3, T_cells3, T_zero3, T_int3, T_ok4, T_agg4, T_isinfo4, T_info4, T_cells4, T_zero4, T_bool4, T_ok9, T_agg9, T_isinfo9, T_info9, T_cells9, T_zero9, T_str9, T_len9t, T_ok23, T_agg23, T_isinfo23, T_info23, T_cells23, T_zero23, T_build23, T_f23_0, T_p23_0, T_f23_1, T_p23_1, T_eqs23, T_ok57, T_agg57, T_isinfo57, T_info57, T_cells57, T_zero57, T_int57, T_ok59, T_agg59, T_isinfo59, T_info59, T_cells59, T_zero59, T_elem59, T_under59, T_len59s, T_len59n, T_len59b, T_ok62, T_agg62, T_isinfo62, T_info62, T_cells62, T_zero62, T_build62, T_f62_0, T_p62_0, T_f62_1, T_p62_1, h']
  · have h' : ((65536 : Int) < (blen m : Int)) = False := by simp only [eq_iff_iff, iff_false]; omega
    rw [if_neg h]
    have hlen : decide ((0 : Int) < ((digs BW m).length : Int)) = decide (0 < m) := by
      simp only [decide_eq_decide]
      have := mt (digs_eq_nil BW_2 (n := m)).2
      by_cases h0 : m = 0
      · subst h0; simp [digs_zero]
      · have := List.length_pos_iff.2 (mt (digs_eq_nil BW_2).1 h0)
        constructor <;> intro _ <;> omega
    cases neg with
    | true =>
      simp -implicitDefEqProofs only [go_sem, Nat.reduceAdd, Nat.reduceMul, Nat.reduceEqDiff, Nat.reduceLT, Nat.reduceLeDiff, Nat.reduceSub, Nat.reduceBEq, reduceIte, reduceCtorEq, Int.reduceEq, Int.reduceNe, Nat.reduceBneDiff, Int.reduceLE, Int.reduceLT, Int.reduceToNat, Int.reduceAdd, Int.reduceSub, Int.reduceMul, Int.reduceNeg, T_ok3, T_agg3, T_isinfo3, T_info3, T_cells3, T_zero3, T_int3, T_ok4, T_agg4, T_isinfo4, T_info4, T_cells4, T_zero4, T_bool4, T_ok9, T_agg9, T_isinfo9, T_info9, T_cells9, T_zero9, T_str9, T_len9t, T_ok23, T_agg23, T_isinfo23, T_info23, T_cells23, T_zero23, T_build23, T_f23_0, T_p23_0, T_f23_1, T_p23_1, T_eqs23, T_ok57, T_agg57, T_isinfo57, T_info57, T_cells57, T_zero57, T_int57, T_ok59, T_agg59, T_isinfo59, T_info59, T_cells59, T_zero59, T_elem59, T_under59, T_len59s, T_len59n, T_len59b, T_ok62, T_agg62, T_isinfo62, T_info62, T_cells62, T_zero62, T_build62, T_f62_0, T_p62_0, T_f62_1, T_p62_1, h', nP, dw, List.length_map]
      refine gcall_intro _ _ _ _ _ _ _ _ _ (wstore_v m hl) ?_
      simp -implicitDefEqProofs only [go_sem, Nat.reduceAdd, Nat.reduceMul, Nat.reduceEqDiff, Nat.reduceLT, Nat.reduceLeDiff, Nat.reduceSub, Nat.reduceBEq, reduceIte, reduceCtorEq, Int.reduceEq, Int.reduceNe, Nat.reduceBneDiff, Int.reduceLE, Int.reduceLT, Int.reduceToNat, Int.reduceAdd, Int.reduceSub, Int.reduceMul, Int.reduceNeg, T_ok3, T_agg3, T_isinfo3, T_info3, T_cells3, T_zero3, T_int3, T_ok4, T_agg4, T_isinfo4, T_info4, T_cells4, T_zero4, T_bool4, T_ok9, T_agg9, T_isinfo9, T_info9, T_cells9, T_zero9, T_str9, T_len9t, T_ok23, T_agg23, T_isinfo23, T_info23, T_cells23, T_zero23, T_build23, T_f23_0, T_p23_0, T_f23_1, T_p23_1, T_eqs23, T_ok57, T_agg57, T_isinfo57, T_info57, T_cells57, T_zero57, T_int57, T_ok59, T_agg59, T_isinfo59, T_info59, T_cells59, T_zero59, T_elem59, T_under59, T_len59s, T_len59n, T_len59b, T_ok62, T_agg62, T_isinfo62, T_info62, T_cells62, T_zero62, T_build62, T_f62_0, T_p62_0, T_f62_1, T_p62_1, wPV, hna, hneg, hlen, Bool.true_and]
      exact drawQ_true _ _ (by kernel_rfl)
    | false =>
      simp -implicitDefEqProofs only [go_sem, Nat.reduceAdd, Nat.reduceMul, Nat.reduceEqDiff, Nat.reduceLT, Nat.reduceLeDiff, Nat.reduceSub, Nat.reduceBEq, reduceIte, reduceCtorEq, Int.reduceEq, Int.reduceNe, Nat.reduceBneDiff, Int.reduceLE, Int.reduceLT, Int.reduceToNat, Int.reduceAdd, Int.reduceSub, Int.reduceMul, Int.reduceNeg, T_ok3, T_agg3, T_isinfo3, T_info3, T_cells3, T_zero3, T_int3, T_ok4, T_agg4, T_isinfo4, T_info4, T_cells4, T_zero4, T_bool4, T_ok9, T_agg9, T_isinfo9, T_info9, T_cells9, T_zero9, T_str9, T_len9t, T_ok23, T_agg23, T_isinfo23, T_info23, T_cells23, T_zero23, T_build23, T_f23_0, T_p23_0, T_f23_1, T_p23_1, T_eqs23, T_ok57, T_agg57, T_isinfo57, T_info57, T_cells57, T_zero57, T_int57, T_ok59, T_agg59, T_isinfo59, T_info59, T_cells59, T_zero59, T_elem59, T_under59, T_len59s, T_len59n, T_len59b, T_ok62, T_agg62, T_isinfo62, T_info62, T_cells62, T_zero62, T_build62, T_f62_0, T_p62_0, T_f62_1, T_p62_1, h', nP, dw, List.length_map]
      refine gcall_intro _ _ _ _ _ _ _ _ _ (wstore_v m hl) ?_
      simp -implicitDefEqProofs only [go_sem, Nat.reduceAdd, Nat.reduceMul, Nat.reduceEqDiff, Nat.reduceLT, Nat.reduceLeDiff, Nat.reduceSub, Nat.reduceBEq, reduceIte, reduceCtorEq, Int.reduceEq, Int.reduceNe, Nat.reduceBneDiff, Int.reduceLE, Int.reduceLT, Int.reduceToNat, Int.reduceAdd, Int.reduceSub, Int.reduceMul, Int.reduceNeg, T_ok3, T_agg3, T_isinfo3, T_info3, T_cells3, T_zero3, T_int3, T_ok4, T_agg4, T_isinfo4, T_info4, T_cells4, T_zero4, T_bool4, T_ok9, T_agg9, T_isinfo9, T_info9, T_cells9, T_zero9, T_str9, T_len9t, T_ok23, T_agg23, T_isinfo23, T_info23, T_cells23, T_zero23, T_build23, T_f23_0, T_p23_0, T_f23_1, T_p23_1, T_eqs23, T_ok57, T_agg57, T_isinfo57, T_info57, T_cells57, T_zero57, T_int57, T_ok59, T_agg59, T_isinfo59, T_info59, T_cells59, T_zero59, T_elem59, T_under59, T_len59s, T_len59n, T_len59b, T_ok62, T_agg62, T_isinfo62, T_info62, T_cells62, T_zero62, T_build62, T_f62_0, T_p62_0, T_f62_1, T_p62_1, wPV, hna, hneg, Bool.false_and]
      exact drawQ_true _ _ (by kernel_rfl)
end Go.Proofs.YtkgkebhlpjenaaaDoor

namespace Go.Proofs.YtkgkebhlpjenaaaDoor
open Go.Vl Go.RowKit Go.Dg

theorem bfold (r : List UInt8) : ∀ a : Nat, r.foldl (fun n b => n * 256 + b.toNat) a = a * 256 ^ r.length + bnum r := by
  induction r with
  | nil => intro a; simp [bnum]
  | cons b r ih =>
    intro a
    have h0 : bnum (b :: r) = b.toNat * 256 ^ r.length + bnum r := by
      have h := ih (0 * 256 + b.toNat)
      rw [Nat.zero_mul, Nat.zero_add] at h
      rw [← h, bnum, List.foldl_cons, Nat.zero_mul, Nat.zero_add]
    rw [List.foldl_cons, ih, h0, List.length_cons, Nat.pow_succ, Nat.add_mul, Nat.mul_assoc, Nat.mul_comm 256]
    omega
theorem bnum_cons (b : UInt8) (r : List UInt8) : bnum (b :: r) = b.toNat * 256 ^ r.length + bnum r := by
  have h := bfold r (0 * 256 + b.toNat)
  rw [Nat.zero_mul, Nat.zero_add] at h
  rw [← h, bnum, List.foldl_cons, Nat.zero_mul, Nat.zero_add]
theorem load_digs {neg : Bool} {l : List UInt8} (h : validB neg l = true) : lows BW (bnum l) ((l.length + 7) / 8) = digs BW (bnum l) := by
  refine lows_done BW_2 ?_ ?_
  · refine Nat.lt_of_lt_of_le (bnum_lt _ l rfl) ?_
    rw [show BW = 256 ^ 8 from rfl, ← Nat.pow_mul]
    exact Nat.pow_le_pow_right (by decide) (by omega)
  · intro j hj
    cases l with
    | nil => simp at hj
    | cons b r =>
      have hb : b.toNat ≠ 0 := by
        intro e
        have : b = 0 := UInt8.toNat_inj.1 (by simpa using e)
        subst this
        simp [validB] at h
      have hge : 256 ^ r.length ≤ bnum (b :: r) := by
        rw [bnum_cons]
        have := Nat.mul_le_mul_right (256 ^ r.length) (Nat.pos_of_ne_zero hb)
        omega
      have hle : BW ^ j ≤ 256 ^ r.length := by
        rw [show BW = 256 ^ 8 from rfl, ← Nat.pow_mul]
        exact Nat.pow_le_pow_right (by decide) (by simp at hj; omega)
      have := Nat.div_pos (Nat.le_trans hle hge) (Nat.pow_pos (n := j) (show 0 < BW by decide))
      omega
theorem wof_v (neg : Bool) (s : ByteArray) (h : validB neg s.data.toList = true) (hs : s.size ≤ 1000000) : SoundAt Tryd.prog 33 [.agg [.bool neg, .str s]] (nP neg (bnum s.data.toList)) := by
  have hl := wload_v s hs
  rw [load_digs h] at hl
  refine sound_go (tb := []) 9 [.cell 2 62] [0, 1, 2] mixed Tryd.func33 rfl (by kernel_rfl) (by kernel_rfl) (by kernel_rfl) (by kernel_rfl) ?_
  simp -implicitDefEqProofs only [go_sem, Nat.reduceAdd, Nat.reduceMul, Nat.reduceEqDiff, Nat.reduceLT, Nat.reduceLeDiff, Nat.reduceSub, Nat.reduceBEq, reduceIte, reduceCtorEq, Int.reduceEq, Int.reduceNe, Nat.reduceBneDiff, Int.reduceLE, Int.reduceLT, Int.reduceToNat, Int.reduceAdd, Int.reduceSub, Int.reduceMul, Int.reduceNeg, T_ok4, T_agg4, T_isinfo4, T_info4, T_cells4, T_zero4, T_bool4, T_ok9, T_agg9, T_isinfo9, T_info9, T_cells9, T_zero9, T_str9, T_len9t, T_ok23, T_agg23, T_isinfo23, T_info23, T_cells23, T_zero23, T_build23, T_f23_0, T_p23_0, T_f23_1, T_p23_1, T_eqs23, T_ok57, T_agg57, T_isinfo57, T_info57, T_cells57, T_zero57, T_int57, T_ok59, T_agg59, T_isinfo59, T_info59, T_cells59, T_zero59, T_elem59, T_under59, T_len59s, T_len59n, T_len59b, T_ok62, T_agg62, T_isinfo62, T_info62, T_cells62, T_zero62, T_build62, T_f62_0, T_p62_0, T_f62_1, T_p62_1]
  refine gcall_intro _ _ _ _ _ _ _ _ _ hl ?_
  simp -implicitDefEqProofs only [go_sem, Nat.reduceAdd, Nat.reduceMul, Nat.reduceEqDiff, Nat.reduceLT, Nat.reduceLeDiff, Nat.reduceSub, Nat.reduceBEq, reduceIte, reduceCtorEq, Int.reduceEq, Int.reduceNe, Nat.reduceBneDiff, Int.reduceLE, Int.reduceLT, Int.reduceToNat, Int.reduceAdd, Int.reduceSub, Int.reduceMul, Int.reduceNeg, T_ok4, T_agg4, T_isinfo4, T_info4, T_cells4, T_zero4, T_bool4, T_ok9, T_agg9, T_isinfo9, T_info9, T_cells9, T_zero9, T_str9, T_len9t, T_ok23, T_agg23, T_isinfo23, T_info23, T_cells23, T_zero23, T_build23, T_f23_0, T_p23_0, T_f23_1, T_p23_1, T_eqs23, T_ok57, T_agg57, T_isinfo57, T_info57, T_cells57, T_zero57, T_int57, T_ok59, T_agg59, T_isinfo59, T_info59, T_cells59, T_zero59, T_elem59, T_under59, T_len59s, T_len59n, T_len59b, T_ok62, T_agg62, T_isinfo62, T_info62, T_cells62, T_zero62, T_build62, T_f62_0, T_p62_0, T_f62_1, T_p62_1, nP, dw]
  exact drawQ_true _ _ (by kernel_rfl)
end Go.Proofs.YtkgkebhlpjenaaaDoor

namespace Go.Proofs.YtkgkebhlpjenaaaDoor
open Go.Vl Go.RowKit Go.Dg

/-- The number of a wide integer. -/
def wnum (neg : Bool) (s : ByteArray) : Int := sv neg (bnum s.data.toList)
theorem L_bnum (s : ByteArray) (hs : s.size ≤ 100000) : (digs BW (bnum s.data.toList)).length ≤ 100000 := by
  rw [ba_size] at hs
  refine Nat.le_trans ((digs_len_le BW_2 _ s.data.toList.length).2 ?_) hs
  exact Nat.lt_of_lt_of_le (bnum_lt _ _ rfl) (Nat.pow_le_pow_left (by decide) _)
theorem L_addW (a b m k : Nat) (hm : m ≤ a + b) (h1 : (digs BW a).length ≤ k) (h2 : (digs BW b).length ≤ k) : (digs BW m).length ≤ k + 1 := by
  rw [digs_len_le BW_2] at h1 h2 ⊢
  rw [Nat.pow_succ]
  generalize BW ^ k = K at *
  simp only [BW]
  omega
/-- What a refused call hands back. -/
def refused : PV := .tup [wPV 0, .int .i64 2]
end Go.Proofs.YtkgkebhlpjenaaaDoor

namespace Go.Proofs.YtkgkebhlpjenaaaDoor
open Go.Vl Go.RowKit Go.Dg

end Go.Proofs.YtkgkebhlpjenaaaDoor

namespace Go.Proofs.YtkgkebhlpjenaaaDoor
open Go.Vl Go.RowKit Go.Dg

theorem lw_v (n : Int) (h1 : -9223372036854775808 ≤ n) (h2 : n ≤ 9223372036854775807) : SoundAt Tryd.prog 8 [.int .i64 n] (wPV n) := by
  have hL := L_small (n := n.natAbs) (by omega)
  have hL2 : (digs 256 n.natAbs).length ≤ 8 := (digs_len_le (by decide) _ 8).2 (by simp only [Nat.reducePow]; omega)
  refine sound_go (tb := []) 6 [.cell 2 23] [0, 2] mixed Tryd.func8 rfl (by kernel_rfl) (by kernel_rfl) (by kernel_rfl) (by kernel_rfl) ?_
  simp -implicitDefEqProofs only [go_sem, Nat.reduceAdd, Nat.reduceMul, Nat.reduceEqDiff, Nat.reduceLT, Nat.reduceLeDiff, Nat.reduceSub, Nat.reduceBEq, reduceIte, reduceCtorEq, Int.reduceEq, Int.reduceNe, Nat.reduceBneDiff, Int.reduceLE, Int.reduceLT, Int.reduceToNat, Int.reduceAdd, Int.reduceSub, Int.reduceMul, Int.reduceNeg, T_ok3, T_agg3, T_isinfo3, T_info3, T_cells3, T_zero3, T_int3, T_ok4, T_agg4, T_isinfo4, T_info4, T_cells4, T_zero4, T_bool4, T_ok9, T_agg9, T_isinfo9, T_info9, T_cells9, T_zero9, T_str9, T_len9t, T_ok23, T_agg23, T_isinfo23, T_info23, T_cells23, T_zero23, T_build23, T_f23_0, T_p23_0, T_f23_1, T_p23_1, T_eqs23, T_ok31, T_agg31, T_isinfo31, T_info31, T_cells31, T_zero31, T_elem31, T_under31, T_len31s, T_len31n, T_len31b, T_ok33, T_agg33, T_isinfo33, T_info33, T_cells33, T_zero33, T_build33, T_f33_0, T_p33_0, T_f33_1, T_p33_1]
  refine gcall_intro _ _ _ _ _ _ _ _ _ (rnum_v n h1 h2) ?_
  simp -implicitDefEqProofs only [go_sem, Nat.reduceAdd, Nat.reduceMul, Nat.reduceEqDiff, Nat.reduceLT, Nat.reduceLeDiff, Nat.reduceSub, Nat.reduceBEq, reduceIte, reduceCtorEq, Int.reduceEq, Int.reduceNe, Nat.reduceBneDiff, Int.reduceLE, Int.reduceLT, Int.reduceToNat, Int.reduceAdd, Int.reduceSub, Int.reduceMul, Int.reduceNeg, T_ok3, T_agg3, T_isinfo3, T_info3, T_cells3, T_zero3, T_int3, T_ok4, T_agg4, T_isinfo4, T_info4, T_cells4, T_zero4, T_bool4, T_ok9, T_agg9, T_isinfo9, T_info9, T_cells9, T_zero9, T_str9, T_len9t, T_ok23, T_agg23, T_isinfo23, T_info23, T_cells23, T_zero23, T_build23, T_f23_0, T_p23_0, T_f23_1, T_p23_1, T_eqs23, T_ok31, T_agg31, T_isinfo31, T_info31, T_cells31, T_zero31, T_elem31, T_under31, T_len31s, T_len31n, T_len31b, T_ok33, T_agg33, T_isinfo33, T_info33, T_cells33, T_zero33, T_build33, T_f33_0, T_p33_0, T_f33_1, T_p33_1, rI, di]
  refine gcall_intro _ _ _ _ _ _ _ _ _ (rto_v n (by omega) (by omega)) ?_
  simp -implicitDefEqProofs only [go_sem, Nat.reduceAdd, Nat.reduceMul, Nat.reduceEqDiff, Nat.reduceLT, Nat.reduceLeDiff, Nat.reduceSub, Nat.reduceBEq, reduceIte, reduceCtorEq, Int.reduceEq, Int.reduceNe, Nat.reduceBneDiff, Int.reduceLE, Int.reduceLT, Int.reduceToNat, Int.reduceAdd, Int.reduceSub, Int.reduceMul, Int.reduceNeg, T_ok3, T_agg3, T_isinfo3, T_info3, T_cells3, T_zero3, T_int3, T_ok4, T_agg4, T_isinfo4, T_info4, T_cells4, T_zero4, T_bool4, T_ok9, T_agg9, T_isinfo9, T_info9, T_cells9, T_zero9, T_str9, T_len9t, T_ok23, T_agg23, T_isinfo23, T_info23, T_cells23, T_zero23, T_build23, T_f23_0, T_p23_0, T_f23_1, T_p23_1, T_eqs23, T_ok31, T_agg31, T_isinfo31, T_info31, T_cells31, T_zero31, T_elem31, T_under31, T_len31s, T_len31n, T_len31b, T_ok33, T_agg33, T_isinfo33, T_info33, T_cells33, T_zero33, T_build33, T_f33_0, T_p33_0, T_f33_1, T_p33_1, wPV]
end Go.Proofs.YtkgkebhlpjenaaaDoor

namespace Go.Proofs.YtkgkebhlpjenaaaDoor
open Go.Shelf Go.Proofs
def Tryd.laysPu14_ren : Go.Shelf.Ren := ⟨fun | 14 => 49 | 16 => 67 | 17 => 68 | 19 => 79 | 20 => 80 | 21 => 81 | 22 => 82 | 23 => 83 | 24 => 84 | 25 => 86 | 27 => 88 | 26 => 87 | 28 => 89 | 29 => 90 | 30 => 91 | 31 => 92 | 32 => 93 | 33 => 94 | 35 => 74 | 34 => 95 | 36 => 96 | 37 => 97 | 38 => 98 | 39 => 99 | 40 => 100 | n => n, fun | 9 => 9 | 3 => 3 | 22 => 57 | 24 => 82 | 25 => 83 | 4 => 4 | 34 => 106 | 5 => 5 | 36 => 108 | 37 => 92 | 0 => 0 | 39 => 110 | 21 => 21 | 44 => 115 | 47 => 118 | 50 => 121 | 48 => 119 | 2 => 2 | 52 => 123 | 55 => 125 | 59 => 129 | 60 => 130 | 20 => 20 | 61 => 131 | 65 => 135 | 66 => 136 | 67 => 91 | n => n, fun | 0 => 2 | 1 => 3 | 2 => 4 | 3 => 5 | 4 => 6 | n => n⟩
theorem Tryd.laysPu14 : Go.Proofs.LaysPu.n14 Tryd.prog Tryd.laysPu14_ren := {
  mixed := by kernel_rfl
  f14 := Tryd.func49.trans (congrArg some (by kernel_rfl))
  f16 := Tryd.func67.trans (congrArg some (by kernel_rfl))
  f17 := Tryd.func68.trans (congrArg some (by kernel_rfl))
  f19 := Tryd.func79.trans (congrArg some (by kernel_rfl))
  f20 := Tryd.func80.trans (congrArg some (by kernel_rfl))
  f21 := Tryd.func81.trans (congrArg some (by kernel_rfl))
  f22 := Tryd.func82.trans (congrArg some (by kernel_rfl))
  f23 := Tryd.func83.trans (congrArg some (by kernel_rfl))
  f24 := Tryd.func84.trans (congrArg some (by kernel_rfl))
  f25 := Tryd.func86.trans (congrArg some (by kernel_rfl))
  f26 := Tryd.func87.trans (congrArg some (by kernel_rfl))
  f27 := Tryd.func88.trans (congrArg some (by kernel_rfl))
  f28 := Tryd.func89.trans (congrArg some (by kernel_rfl))
  f29 := Tryd.func90.trans (congrArg some (by kernel_rfl))
  f30 := Tryd.func91.trans (congrArg some (by kernel_rfl))
  f31 := Tryd.func92.trans (congrArg some (by kernel_rfl))
  f32 := Tryd.func93.trans (congrArg some (by kernel_rfl))
  f33 := Tryd.func94.trans (congrArg some (by kernel_rfl))
  f34 := Tryd.func95.trans (congrArg some (by kernel_rfl))
  f35 := Tryd.func74.trans (congrArg some (by kernel_rfl))
  f36 := Tryd.func96.trans (congrArg some (by kernel_rfl))
  f37 := Tryd.func97.trans (congrArg some (by kernel_rfl))
  f38 := Tryd.func98.trans (congrArg some (by kernel_rfl))
  f39 := Tryd.func99.trans (congrArg some (by kernel_rfl))
  f40 := Tryd.func100.trans (congrArg some (by kernel_rfl))
  t0 := Tryd.underlying0
  a0 := Tryd.isAgg0
  z0 := Tryd.sizeOf0
  v0 := Tryd.zeroValue0
  i0 := by kernel_rfl
  t2 := Tryd.underlying2
  a2 := Tryd.isAgg2
  z2 := Tryd.sizeOf2
  v2 := Tryd.zeroValue2
  i2 := by kernel_rfl
  t3 := Tryd.underlying3
  a3 := Tryd.isAgg3
  z3 := Tryd.sizeOf3
  v3 := Tryd.zeroValue3
  i3 := by kernel_rfl
  t4 := Tryd.underlying4
  a4 := Tryd.isAgg4
  z4 := Tryd.sizeOf4
  v4 := Tryd.zeroValue4
  i4 := by kernel_rfl
  t5 := Tryd.underlying5
  a5 := Tryd.isAgg5
  z5 := Tryd.sizeOf5
  v5 := Tryd.zeroValue5
  i5 := by kernel_rfl
  t9 := Tryd.underlying9
  a9 := Tryd.isAgg9
  z9 := Tryd.sizeOf9
  v9 := Tryd.zeroValue9
  i9 := by kernel_rfl
  t20 := Tryd.underlying20
  a20 := Tryd.isAgg20
  z20 := Tryd.sizeOf20
  v20 := Tryd.zeroValue20
  i20 := by kernel_rfl
  t21 := Tryd.underlying21
  a21 := Tryd.isAgg21
  z21 := Tryd.sizeOf21
  v21 := Tryd.zeroValue21
  i21 := by kernel_rfl
  t22 := Tryd.underlying57
  a22 := Tryd.isAgg57
  z22 := Tryd.sizeOf57
  v22 := Tryd.zeroValue57
  i22 := by kernel_rfl
  t24 := Tryd.underlying82
  a24 := Tryd.isAgg82
  z24 := Tryd.sizeOf82
  v24 := Tryd.zeroValue82
  i24 := by kernel_rfl
  t25 := Tryd.underlying83
  a25 := Tryd.isAgg83
  z25 := Tryd.sizeOf83
  v25 := Tryd.zeroValue83
  i25 := by kernel_rfl
  t34 := Tryd.underlying106
  a34 := Tryd.isAgg106
  z34 := Tryd.sizeOf106
  v34 := Tryd.zeroValue106
  i34 := by kernel_rfl
  c34 := by kernel_rfl
  t36 := Tryd.underlying108
  a36 := Tryd.isAgg108
  z36 := Tryd.sizeOf108
  v36 := Tryd.zeroValue108
  i36 := by kernel_rfl
  t37 := Tryd.underlying92
  a37 := Tryd.isAgg92
  z37 := Tryd.sizeOf92
  v37 := Tryd.zeroValue92
  i37 := by kernel_rfl
  t39 := Tryd.underlying110
  a39 := Tryd.isAgg110
  z39 := Tryd.sizeOf110
  v39 := Tryd.zeroValue110
  i39 := by kernel_rfl
  t44 := Tryd.underlying115
  a44 := Tryd.isAgg115
  z44 := Tryd.sizeOf115
  v44 := Tryd.zeroValue115
  i44 := by kernel_rfl
  t47 := Tryd.underlying118
  a47 := Tryd.isAgg118
  z47 := Tryd.sizeOf118
  v47 := Tryd.zeroValue118
  i47 := by kernel_rfl
  t48 := Tryd.underlying119
  a48 := Tryd.isAgg119
  z48 := Tryd.sizeOf119
  v48 := Tryd.zeroValue119
  i48 := by kernel_rfl
  t50 := Tryd.underlying121
  a50 := Tryd.isAgg121
  z50 := Tryd.sizeOf121
  v50 := Tryd.zeroValue121
  i50 := by kernel_rfl
  t52 := Tryd.underlying123
  a52 := Tryd.isAgg123
  z52 := Tryd.sizeOf123
  v52 := Tryd.zeroValue123
  i52 := by kernel_rfl
  t55 := Tryd.underlying125
  a55 := Tryd.isAgg125
  z55 := Tryd.sizeOf125
  v55 := Tryd.zeroValue125
  i55 := by kernel_rfl
  t59 := Tryd.underlying129
  a59 := Tryd.isAgg129
  z59 := Tryd.sizeOf129
  v59 := Tryd.zeroValue129
  i59 := by kernel_rfl
  t60 := Tryd.underlying130
  a60 := Tryd.isAgg130
  z60 := Tryd.sizeOf130
  v60 := Tryd.zeroValue130
  i60 := by kernel_rfl
  t61 := Tryd.underlying131
  a61 := Tryd.isAgg131
  z61 := Tryd.sizeOf131
  t65 := Tryd.underlying135
  a65 := Tryd.isAgg135
  z65 := Tryd.sizeOf135
  v65 := Tryd.zeroValue135
  i65 := by kernel_rfl
  t66 := Tryd.underlying136
  a66 := Tryd.isAgg136
  z66 := Tryd.sizeOf136
  v66 := Tryd.zeroValue136
  i66 := by kernel_rfl
  t67 := Tryd.underlying91
  a67 := Tryd.isAgg91
  z67 := Tryd.sizeOf91
  v67 := Tryd.zeroValue91
  i67 := by kernel_rfl
  g0 := by kernel_rfl
  m0 := by kernel_rfl
  g1 := by kernel_rfl
  m1 := by kernel_rfl
  g2 := by kernel_rfl
  m2 := by kernel_rfl
  g3 := by kernel_rfl
  m3 := by kernel_rfl
  g4 := by kernel_rfl
  m4 := by kernel_rfl }
open Go.RowKit in
theorem Tryd.strconv_ParseUint_10_at64_ok (s : ByteArray) (hmax : s.size ≤ 9223372036854775806) (u : Nat) (h : Lib.parseUintB 64 s.data.toList = .ok u) (w : World) :
    Calls Tryd.prog 49 #[.string s, .int .i64 10, .int .i64 64] w fun e w' => e = .returned (.tuple #[.int .u64 u, .nilIface]) ∧ (w' = w ∨ w' = Lib.bytesWorld w 5 s) := Any.strconv_ParseUint_10_at64_ok Tryd.laysPu14 s hmax u h w
end Go.Proofs.YtkgkebhlpjenaaaDoor

namespace Go.Proofs.YtkgkebhlpjenaaaDoor
open Go.Vl Go.RowKit Go.Dg

theorem repL_pu {w : World} {im : Im} {s : ByteArray} {us : List Value} (h : RepL w im [.str s, .int .i64 10, .int .i64 64] us) : us = [.string s, .int .i64 10, .int .i64 64] := by
  cases h with
  | cons _ u _ us h t =>
  cases h
  cases t with
  | cons _ u _ us h t =>
  cases h
  cases t with
  | cons _ u _ us h t =>
  cases h
  cases t
  rfl
theorem parseUint_v (s : ByteArray) (hmax : s.size ≤ 9223372036854775806) (u : Nat) (h : Lib.parseUintB 64 s.data.toList = .ok u) : SoundAt Tryd.prog 49 [.str s, .int .i64 10, .int .i64 64] (.tup [.int .u64 (u : Int), .nilI]) := by
  refine .inl ⟨by kernel_rfl, fun w im us hr hi => ?_⟩
  rw [repL_pu hr]
  refine (Tryd.strconv_ParseUint_10_at64_ok s hmax u h w).mono ?_
  rintro e w' ⟨rfl, hw⟩
  refine ⟨_, rfl, ?_, .tup _ [_, _] (.cons _ _ _ _ (.int _ _) (.cons _ _ _ _ .nilI .nil))⟩
  rcases hw with rfl | rfl
  · exact Below.refl _ _
  · exact Lib.bytesWorld_below _ _ _
end Go.Proofs.YtkgkebhlpjenaaaDoor

namespace Go.Proofs.YtkgkebhlpjenaaaDoor
open Go.Vl Go.RowKit Go.Dg

/-- A small number as a wide integer. -/
def wsm (n : Int) : PV := .agg [.bool (decide (n < 0)), .str ⟨(if n = 0 then [] else [UInt8.ofNat n.natAbs]).toArray⟩]
theorem wsm_eq (n : Int) (h : n.natAbs < 256) : wPV n = wsm n := by
  unfold wPV wsm magL
  by_cases h0 : n = 0
  · subst h0; simp [digs_zero]
  · rw [if_neg h0, digs_succ (by decide) (by omega), Nat.mod_eq_of_lt h, Nat.div_eq_of_lt h, digs_zero]
    rfl
def wideTable (f : FuncId) (args : List PV) : Option PV :=
  match args with
  | [.int .i64 n] => if f = 8 then (if n.natAbs < 256 then some (wsm n) else none) else none
  | [.str s, .int .i64 10, .int .i64 64] => if f = 49 then
      (match Lib.parseUintB 64 s.data.toList with
      | .ok u => if s.size ≤ 20 then some (.tup [.int .u64 (u : Int), .nilI]) else none
      | _ => none) else none
  | [.int .u64 (.ofNat x), .int .u64 (.ofNat y), .int .u64 (.ofNat c)] =>
    if f = 70 then (if c ≤ 1 then some (.tup [.int .u64 (((x + y + c) % 18446744073709551616 : Nat) : Int), .int .u64 (((x + y + c) / 18446744073709551616 : Nat) : Int)]) else none)
    else if f = 73 then (if c ≤ 1 then some (.tup [.int .u64 (((x + 18446744073709551616 - y - c) % 18446744073709551616 : Nat) : Int), .int .u64 ((if x < y + c then 1 else 0 : Nat) : Int)]) else none)
    else none
  | _ => none
theorem wideTable_sound (f : FuncId) (args : List PV) (r : PV) (h : wideTable f args = some r) : SoundAt Tryd.prog f args r := by
  unfold wideTable at h
  split at h
  · split at h
    · rename_i e
      split at h
      · rename_i h2
        cases h; subst e
        rw [← wsm_eq _ h2]
        exact lw_v _ (by omega) (by omega)
      · cases h
    · cases h
  · split at h
    · rename_i e
      split at h
      · rename_i u hu
        split at h
        · cases h; subst e; exact parseUint_v _ (by omega) u hu
        · cases h
      · cases h
    · cases h
  · split at h
    · rename_i e
      split at h
      · rename_i h2; cases h; subst e; exact add64_v _ _ _ h2
      · cases h
    · split at h
      · rename_i e
        split at h
        · rename_i h2; cases h; subst e; exact sub64_v _ _ _ h2
        · cases h
      · cases h
  · cases h
theorem known_v : SoundAt Tryd.prog 6 [] (.bool true) := evF_sound mixed wideTable_sound 1000 20 _ _ _ (by kernel_rfl)
end Go.Proofs.YtkgkebhlpjenaaaDoor

namespace Go.Vl
open Go.RowKit
variable {P : Program} {tb : Tab} {nt : Nat} {ks : List Nat} {ops : Array Oper} {base i : Nat} {rest : List Oper} {accs : List Acc} {draw : Bool} {k : List It} {Q : Exit → St → Prop} {st : St}
theorem gcall_eq {dst : Option Tmp} {f f' : FuncId} {args args' : List PV} {es : List Eff} {l : Acc} {r : PV} (hs : SoundAt P f' args' r) (hf : f' = f) (ha : args' = args)
    (h : gops P tb nt ks ops base (i + 1) rest (l :: accs) draw k Q ((effsOn (if flatPV r then [] else es) st).put dst r)) : gcall P tb nt ks f args es l ops base i dst rest accs draw k Q st := by
  subst hf; subst ha; exact ⟨r, hs, h⟩
end Go.Vl

namespace Go.Proofs.YtkgkebhlpjenaaaDoor
open Go.Vl Go.RowKit Go.Dg

def wA (p : Bool × ByteArray) : PV := .agg [.bool p.1, .str p.2]
theorem wA_get (l : List (Bool × ByteArray)) (i : Nat) (h : i < l.length) : (l.map wA)[i]? = some (.agg [.bool l[i].1, .str l[i].2]) := by
  rw [List.getElem?_map, List.getElem?_eq_getElem h]; rfl
theorem short_v (l : List (Bool × ByteArray)) (hl : l.length ≤ 1000) : SoundAt Tryd.prog 5 [.slc (l.map wA)] (.bool (l.all fun p => decide (p.2.size ≤ 60))) := by
  refine sound_go (tb := []) 16 [.tmp 2] [0, 2, 4, 5, 6, 7, 8, 14] mixed Tryd.func5 rfl (by kernel_rfl) (by kernel_rfl) (by kernel_rfl) (by kernel_rfl) ?_
  simp -implicitDefEqProofs only [go_sem, Nat.reduceAdd, Nat.reduceMul, Nat.reduceEqDiff, Nat.reduceLT, Nat.reduceLeDiff, Nat.reduceSub, Nat.reduceBEq, reduceIte, reduceCtorEq, Int.reduceEq, Int.reduceNe, Nat.reduceBneDiff, Int.reduceLE, Int.reduceLT, Int.reduceToNat, Int.reduceAdd, Int.reduceSub, Int.reduceMul, Int.reduceNeg, T_ok3, T_agg3, T_isinfo3, T_info3, T_cells3, T_zero3, T_int3, T_ok4, T_agg4, T_isinfo4, T_info4, T_cells4, T_zero4, T_bool4, T_ok9, T_agg9, T_isinfo9, T_info9, T_cells9, T_zero9, T_str9, T_len9t, T_ok23, T_agg23, T_isinfo23, T_info23, T_cells23, T_zero23, T_build23, T_f23_0, T_p23_0, T_f23_1, T_p23_1, T_eqs23, T_ok42, T_agg42, T_isinfo42, T_info42, T_cells42, T_zero42, T_elem42, T_under42, T_len42s, T_len42n, T_len42b, List.length_map]
  refine g_loop mixed (fun i : { i : Nat // i ≤ l.length ∧ (l.take i).all (fun p => decide (p.2.size ≤ 60)) = true } => St.of [(5, .slc (l.map wA)), (6, .int .i64 (l.length : Int)), (7, .int .i64 (i.1 : Int))] []) (fun i => l.length - i.1) ⟨0, Nat.zero_le _, rfl⟩ ?_ ?_
  · exact le_vars (by simp [varsLe, lkp, ren1, ren0])
  · rintro ⟨i, hi, hall⟩
    by_cases hA : i < l.length
    · have hA' : ((i : Int) < (l.length : Int)) = True := by simp; omega
      have h0 : (0 ≤ (i : Int)) = True := by simp
      have hg := wA_get l i hA
      have hwk := wrap_add1 (a := i) (by omega)
      have htk : l.take (i + 1) = l.take i ++ [l[i]] := by rw [List.take_add_one]; simp [hA]
      by_cases hs : l[i].2.size ≤ 60
      · have hs' : ((60 : Int) < (l[i].2.size : Int)) = False := by simp only [eq_iff_iff, iff_false]; omega
        simp -implicitDefEqProofs only [go_sem, Nat.reduceAdd, Nat.reduceMul, Nat.reduceEqDiff, Nat.reduceLT, Nat.reduceLeDiff, Nat.reduceSub, Nat.reduceBEq, reduceIte, reduceCtorEq, Int.reduceEq, Int.reduceNe, Nat.reduceBneDiff, Int.reduceLE, Int.reduceLT, Int.reduceToNat, Int.reduceAdd, Int.reduceSub, Int.reduceMul, Int.reduceNeg, T_ok3, T_agg3, T_isinfo3, T_info3, T_cells3, T_zero3, T_int3, T_ok4, T_agg4, T_isinfo4, T_info4, T_cells4, T_zero4, T_bool4, T_ok9, T_agg9, T_isinfo9, T_info9, T_cells9, T_zero9, T_str9, T_len9t, T_ok23, T_agg23, T_isinfo23, T_info23, T_cells23, T_zero23, T_build23, T_f23_0, T_p23_0, T_f23_1, T_p23_1, T_eqs23, T_ok42, T_agg42, T_isinfo42, T_info42, T_cells42, T_zero42, T_elem42, T_under42, T_len42s, T_len42n, T_len42b, hA', h0, hg, Int.toNat_natCast, hs', hwk]
        refine ⟨⟨i + 1, hA, ?_⟩, by simp only; omega, le_vars (by simp [varsLe, lkp, ren1, ren0])⟩
        rw [htk, List.all_append, hall]; simp [hs]
      · have hs' : ((60 : Int) < (l[i].2.size : Int)) = True := by simp only [eq_iff_iff, iff_true]; omega
        have e : (l.all fun p => decide (p.2.size ≤ 60)) = false := by
          rw [List.all_eq_false]; exact ⟨l[i], List.getElem_mem hA, by simp; omega⟩
        simp -implicitDefEqProofs only [go_sem, Nat.reduceAdd, Nat.reduceMul, Nat.reduceEqDiff, Nat.reduceLT, Nat.reduceLeDiff, Nat.reduceSub, Nat.reduceBEq, reduceIte, reduceCtorEq, Int.reduceEq, Int.reduceNe, Nat.reduceBneDiff, Int.reduceLE, Int.reduceLT, Int.reduceToNat, Int.reduceAdd, Int.reduceSub, Int.reduceMul, Int.reduceNeg, T_ok3, T_agg3, T_isinfo3, T_info3, T_cells3, T_zero3, T_int3, T_ok4, T_agg4, T_isinfo4, T_info4, T_cells4, T_zero4, T_bool4, T_ok9, T_agg9, T_isinfo9, T_info9, T_cells9, T_zero9, T_str9, T_len9t, T_ok23, T_agg23, T_isinfo23, T_info23, T_cells23, T_zero23, T_build23, T_f23_0, T_p23_0, T_f23_1, T_p23_1, T_eqs23, T_ok42, T_agg42, T_isinfo42, T_info42, T_cells42, T_zero42, T_elem42, T_under42, T_len42s, T_len42n, T_len42b, hA', h0, hg, Int.toNat_natCast, hs', e]
    · have hA' : ((i : Int) < (l.length : Int)) = False := by simp; omega
      rw [List.take_of_length_le (by omega)] at hall
      simp -implicitDefEqProofs only [go_sem, Nat.reduceAdd, Nat.reduceMul, Nat.reduceEqDiff, Nat.reduceLT, Nat.reduceLeDiff, Nat.reduceSub, Nat.reduceBEq, reduceIte, reduceCtorEq, Int.reduceEq, Int.reduceNe, Nat.reduceBneDiff, Int.reduceLE, Int.reduceLT, Int.reduceToNat, Int.reduceAdd, Int.reduceSub, Int.reduceMul, Int.reduceNeg, T_ok3, T_agg3, T_isinfo3, T_info3, T_cells3, T_zero3, T_int3, T_ok4, T_agg4, T_isinfo4, T_info4, T_cells4, T_zero4, T_bool4, T_ok9, T_agg9, T_isinfo9, T_info9, T_cells9, T_zero9, T_str9, T_len9t, T_ok23, T_agg23, T_isinfo23, T_info23, T_cells23, T_zero23, T_build23, T_f23_0, T_p23_0, T_f23_1, T_p23_1, T_eqs23, T_ok42, T_agg42, T_isinfo42, T_info42, T_cells42, T_zero42, T_elem42, T_under42, T_len42s, T_len42n, T_len42b, hA', hall]
theorem ba_beq (a b : ByteArray) : (a == b) = (a.data == b.data) := rfl
theorem ba_self (b : ByteArray) : (b == b) = true := by rw [ba_beq]; exact beq_self_eq_true _
/-- What Out and the like hand back. -/
def outN (n : Int) : Int := if 65536 < blen n.natAbs then 0 else n
def outE (n : Int) : Int := if 65536 < blen n.natAbs then 7 else 0
theorem outPV_eq (n : Int) : outPV n = .tup [wPV (outN n), .int .i64 (outE n)] := by
  unfold outPV outN outE; split <;> rfl
end Go.Proofs.YtkgkebhlpjenaaaDoor
