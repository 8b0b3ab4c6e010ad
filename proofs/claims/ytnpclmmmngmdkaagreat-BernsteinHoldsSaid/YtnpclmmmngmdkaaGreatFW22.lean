/-
  De3, FW17, De4, FW18, FW21, FW22 (merged for the claim).
-/
import Derived.Test.YtnpclmmmngmdkaaGreatDe2
set_option linter.unusedSimpArgs false
set_option linter.unusedVariables false
namespace Go.Dg

section
variable {y u d q r : Nat}
/-- What a loop of Div64 knows. -/
structure Kn (y u d q r : Nat) : Prop where
  g : Guess (y / 4294967296) (y % 4294967296) u d q r
  small : r < 4294967296
theorem y_parts (y : Nat) : y / 4294967296 * 4294967296 + y % 4294967296 = y := by omega
theorem kn_first (h1 : 9223372036854775808 ≤ y) (h2 : y < 18446744073709551616) (hu : u < y) (hd : d < 4294967296) : Kn y u d (u / (y / 4294967296)) (u % (y / 4294967296)) := by
  refine ⟨guess_first (by omega) (by omega) hd, ?_⟩
  have := Nat.mod_lt u (show 0 < y / 4294967296 by omega)
  omega
theorem kn_q (h1 : 9223372036854775808 ≤ y) (h2 : y < 18446744073709551616) (hu : u < y) (h : Kn y u d q r) : q ≤ 4294967297 := by
  rcases Nat.lt_or_ge q 4294967298 with h' | h'
  · omega
  · have h3 := h.g.part
    have h4 := Nat.mul_le_mul_right (y / 4294967296) h'
    omega
/-- The test of the loop. -/
theorem kn_test (h : Kn y u d q r) : (r * 4294967296 + d < q * (y % 4294967296)) ↔ u * 4294967296 + d < q * y := by
  have := guess_more h.g
  rwa [y_parts] at this
/-- One round. -/
theorem kn_next (h1 : 9223372036854775808 ≤ y) (hu : u < y) (h : Kn y u d q r) (hq : u * 4294967296 + d < q * y) : 0 < q ∧ Guess (y / 4294967296) (y % 4294967296) u d (q - 1) (r + y / 4294967296) := by
  have := guess_next h.g (by rw [y_parts]; omega) (by rw [y_parts]; exact hq)
  exact this
theorem kn_break (h1 : 9223372036854775808 ≤ y) (hu : u < y) (hd : d < 4294967296) (h : Guess (y / 4294967296) (y % 4294967296) u d q r) (hr : 4294967296 ≤ r) : q = (u * 4294967296 + d) / y := by
  have hlt : q < 4294967296 := by
    rcases Nat.lt_or_ge q 4294967296 with h' | h'
    · exact h'
    · have := (guess_small (by rw [y_parts]; exact hu) h h').1
      omega
  have := guess_done h (by rw [y_parts]; omega) (by
    have h3 : ¬ (r * 4294967296 + d < q * (y % 4294967296)) := by
      have : q * (y % 4294967296) ≤ 4294967295 * 4294967295 := Nat.mul_le_mul (by omega) (by omega)
      omega
    rw [guess_more h] at h3
    omega)
  rwa [y_parts] at this
theorem kn_done (h1 : 9223372036854775808 ≤ y) (h : Kn y u d q r) (hq : ¬ u * 4294967296 + d < q * y) : q = (u * 4294967296 + d) / y := by
  have := guess_done h.g (by rw [y_parts]; omega) (by rw [y_parts]; omega)
  rwa [y_parts] at this
theorem kn_quot (hu : u < y) (hd : d < 4294967296) : (u * 4294967296 + d) / y < 4294967296 := by
  have := quot_small (y1 := y / 4294967296) (y0 := y % 4294967296) (by rw [y_parts]; exact hu) hd
  rwa [y_parts] at this
end

/-- The whole: two halves, one after the other, of numbers that have been moved up. -/
theorem div_halves {hi lo y s : Nat} (hs : s ≤ 64) (hlo : lo < 18446744073709551616) (hhi : hi < y) (hy : 0 < y) :
    let Y := y * 2 ^ s
    let u := hi * 2 ^ s + lo / 2 ^ (64 - s)
    let t := lo * 2 ^ s % 18446744073709551616
    let a := u * 4294967296 + t / 4294967296
    let b := a % Y * 4294967296 + t % 4294967296
    a / Y * 4294967296 + b / Y = (hi * 18446744073709551616 + lo) / y ∧ b % Y / 2 ^ s = (hi * 18446744073709551616 + lo) % y := by
  intro Y u t a b
  have hp : 0 < 2 ^ s := Nat.pow_pos (by decide)
  have hY : 0 < Y := Nat.mul_pos hy hp
  have e1 : (hi * 18446744073709551616 + lo) * 2 ^ s = u * 18446744073709551616 + t := by
    have hd : lo * 2 ^ s / 18446744073709551616 = lo / 2 ^ (64 - s) := by
      have := WB_split s hs
      simp only [WB] at this
      rw [this, Nat.mul_comm lo, Nat.mul_div_mul_left _ _ hp]
    have := Nat.div_add_mod (lo * 2 ^ s) 18446744073709551616
    rw [hd] at this
    simp only [u, t]
    rw [Nat.add_mul, Nat.mul_right_comm]
    generalize hi * 2 ^ s = p at *
    omega
  have e2 : (hi * 18446744073709551616 + lo) * 2 ^ s = a * 4294967296 + t % 4294967296 := by
    rw [e1]; simp only [a]; omega
  have e3 : (hi * 18446744073709551616 + lo) * 2 ^ s = Y * (a / Y * 4294967296 + b / Y) + b % Y := by
    have h3 := Nat.div_add_mod a Y
    have h4 := Nat.div_add_mod b Y
    rw [e2, Nat.mul_add, ← Nat.mul_assoc]
    simp only [b] at h4 ⊢
    omega
  have hb : b % Y < Y := Nat.mod_lt _ hY
  have e4 : (hi * 18446744073709551616 + lo) * 2 ^ s / Y = a / Y * 4294967296 + b / Y := by
    rw [e3, Nat.mul_add_div hY, Nat.div_eq_of_lt hb, Nat.add_zero]
  have e5 : (hi * 18446744073709551616 + lo) * 2 ^ s % Y = b % Y := by
    rw [e3, Nat.mul_add_mod, Nat.mod_eq_of_lt hb]
  constructor
  · rw [← e4]; exact Nat.mul_div_mul_right _ _ hp
  · rw [← e5, Nat.mul_mod_mul_right, Nat.mul_div_cancel _ hp]
end Go.Dg

namespace Go.Proofs.YtnpclmmmngmdkaaGreat
open Go.Vl Go.RowKit Go.Dg

theorem tdivN (a b : Nat) : Int.tdiv (a : Int) (b : Int) = ((a / b : Nat) : Int) := rfl
theorem tmodN (a b : Nat) : Int.tmod (a : Int) (b : Int) = ((a % b : Nat) : Int) := rfl
theorem blen_lt (y : Nat) : y < 2 ^ blen y := by
  rcases Nat.lt_or_ge y (2 ^ blen y) with h | h
  · exact h
  · have := blen_gt _ _ h; omega
theorem blen_ge {y : Nat} (h : 0 < y) : 2 ^ (blen y - 1) ≤ y ∧ 0 < blen y := by
  have h0 : 0 < blen y := blen_gt 0 y (by rw [Nat.pow_zero]; omega)
  refine ⟨?_, h0⟩
  rcases Nat.lt_or_ge y (2 ^ (blen y - 1)) with h1 | h1
  · have := blen_le _ _ h1; omega
  · exact h1
attribute [local go_sem high] b_oru
theorem u64_wrapI (n : Int) : IntKind.u64.wrap n = n % 18446744073709551616 := by simp [IntKind.wrap, IntKind.bits, IntKind.signed]
theorem u64_small {n : Nat} (h : n < 18446744073709551616) : IntKind.u64.wrap (n : Int) = n := by rw [u64_wrap, Nat.mod_eq_of_lt h]
theorem u64_rem (u y : Nat) (h : u < 18446744073709551616) : IntKind.u64.wrap ((u : Int) - IntKind.u64.wrap (((u / y : Nat) : Int) * (y : Int))) = ((u % y : Nat) : Int) := by
  have h := Nat.div_add_mod u y
  rw [← Int.natCast_mul, Nat.mul_comm (u / _)]
  generalize y * (u / y) = p at *
  generalize u % y = r at *
  rw [u64_wrapI, u64_wrapI]; omega
theorem u64_left (u d Y : Nat) (hY : 0 < Y) (h2 : Y < 18446744073709551616) : IntKind.u64.wrap (IntKind.u64.wrap (IntKind.u64.wrap ((u : Int) * 4294967296) + (d : Int)) - IntKind.u64.wrap ((((u * 4294967296 + d) / Y : Nat) : Int) * (Y : Int))) = (((u * 4294967296 + d) % Y : Nat) : Int) := by
  have h := Nat.div_add_mod (u * 4294967296 + d) Y
  have hm := Nat.mod_lt (u * 4294967296 + d) hY
  rw [← Int.natCast_mul, Nat.mul_comm ((u * 4294967296 + d) / Y)]
  generalize Y * ((u * 4294967296 + d) / Y) = p at *
  generalize (u * 4294967296 + d) % Y = r at *
  rw [u64_wrapI, u64_wrapI, u64_wrapI, u64_wrapI]; omega
theorem u64_both {p q : Nat} (hp : p < 4294967296) (hq : q < 4294967296) : IntKind.u64.wrap (IntKind.u64.wrap ((p : Int) * 4294967296) + (q : Int)) = ((p * 4294967296 + q : Nat) : Int) := by
  rw [u64_wrapI, u64_wrapI]; omega
theorem u64_prod {p q : Nat} (hp : p < 4294967296) (hq : q < 4294967296) : IntKind.u64.wrap ((p : Int) * (q : Int)) = ((p * q : Nat) : Int) := by
  have : p * q ≤ 4294967295 * 4294967295 := Nat.mul_le_mul (by omega) (by omega)
  rw [← Int.natCast_mul, u64_wrapI]
  generalize p * q = n at *
  omega
theorem u64_l32 {r : Nat} (hr : r < 4294967296) : IntKind.u64.wrap (4294967296 * (r : Int)) = ((r * 4294967296 : Nat) : Int) := by rw [u64_wrapI]; omega
theorem u64_l32d {r d : Nat} (hr : r < 4294967296) (hd : d < 4294967296) : IntKind.u64.wrap (((r * 4294967296 : Nat) : Int) + (d : Int)) = ((r * 4294967296 + d : Nat) : Int) := by rw [u64_wrapI]; omega
theorem u64_dec {q : Nat} (h0 : 0 < q) (h : q ≤ 4294967297) : IntKind.u64.wrap ((q : Int) - 1) = ((q - 1 : Nat) : Int) := by rw [u64_wrapI]; omega
theorem u64_inc {r y : Nat} (h0 : r < 4294967296) (h : y < 4294967296) : IntKind.u64.wrap ((r : Int) + (y : Int)) = ((r + y : Nat) : Int) := by rw [u64_wrapI]; omega
theorem m32 : (2 : Nat) ^ min 32 64 = 4294967296 := rfl
set_option maxHeartbeats 2000000 in
theorem div64_v (hi lo y : Nat) (hy : hi < y) (hyl : y < 18446744073709551616) (hlo : lo < 18446744073709551616) : SoundAt Tryz.prog 124 [.int .u64 (hi : Int), .int .u64 (lo : Int), .int .u64 (y : Int)] (.tup [.int .u64 (((hi * 18446744073709551616 + lo) / y : Nat) : Int), .int .u64 (((hi * 18446744073709551616 + lo) % y : Nat) : Int)]) := by
  have g1 : (((y : Nat) : Int) == 0) = false := by simp only [beq_eq_false_iff_ne, ne_eq]; omega
  have g2 : (((y : Nat) : Int) ≤ ((hi : Nat) : Int)) = False := by simp only [eq_iff_iff, iff_false]; omega
  have g3 : (((y : Nat) : Int) = 0) = False := by simp only [eq_iff_iff, iff_false]; omega
  by_cases h0 : hi = 0
  · subst h0
    have g4 : ((((0 : Nat) : Nat) : Int) == 0) = true := rfl
    have g5 : IntKind.u64.wrap (((lo / y : Nat) : Int)) = ((lo / y : Nat) : Int) := by rw [u64_wrap, Nat.mod_eq_of_lt (Nat.lt_of_le_of_lt (Nat.div_le_self _ _) hlo)]
    rw [Nat.zero_mul, Nat.zero_add]
    refine sound_go (tb := []) 135 [.tmp 6, .tmp 7] [0, 1, 2, 6, 7, 8, 9, 10, 11, 12, 13, 14, 15, 16, 17, 18, 20, 24, 27, 78, 85, 113, 120] mixed Tryz.func124 rfl (by kernel_rfl) (by kernel_rfl) (by kernel_rfl) (by kernel_rfl) ?_
    simp -implicitDefEqProofs only [go_sem, Nat.reduceAdd, Nat.reduceMul, Nat.reduceEqDiff, Nat.reduceLT, Nat.reduceLeDiff, Nat.reduceSub, Nat.reduceBEq, reduceIte, reduceCtorEq, Int.reduceEq, Int.reduceNe, Nat.reduceBneDiff, Int.reduceLE, Int.reduceLT, Int.reduceToNat, Int.reduceAdd, Int.reduceSub, Int.reduceMul, Int.reduceNeg, g1, g2, g3, g4, tdivN, tmodN, g5]
    exact drawQ_true _ _ (by kernel_rfl)
  · have g4 : (((hi : Nat) : Int) == 0) = false := by simp only [beq_eq_false_iff_ne, ne_eq]; omega
    obtain ⟨b1, b2⟩ := blen_ge (show 0 < y by omega)
    have b3 := blen_lt y
    have b4 := blen_le 64 y hyl
    obtain ⟨s, hs⟩ : ∃ s, s = 64 - blen y := ⟨_, rfl⟩
    have hs64 : s < 64 := by omega
    have hmin : min s 64 = s := by omega
    have hmin2 : min (64 - s) 64 = 64 - s := by omega
    obtain ⟨D1, D2⟩ := div_halves (hi := hi) (lo := lo) (y := y) (s := s) (by omega) hlo hy (by omega)
    have hY1 : 9223372036854775808 ≤ y * 2 ^ s := by
      have := Nat.mul_le_mul_right (2 ^ s) b1
      rw [← Nat.pow_add, show blen y - 1 + s = 63 by omega] at this
      exact this
    have hY2 : y * 2 ^ s < 18446744073709551616 := by
      have := Nat.mul_lt_mul_of_pos_right b3 (show 0 < 2 ^ s from Nat.pow_pos (by decide))
      rw [← Nat.pow_add, show blen y + s = 64 by omega] at this
      exact this
    have hu : hi * 2 ^ s + lo / 2 ^ (64 - s) < y * 2 ^ s := by
      have h1 : lo / 2 ^ (64 - s) < 2 ^ s := by
        have := WB_split s (by omega)
        simp only [WB] at this
        rw [this, Nat.mul_comm] at hlo
        exact Nat.div_lt_of_lt_mul hlo
      have h2 : hi * 2 ^ s + 2 ^ s ≤ y * 2 ^ s := by rw [← Nat.succ_mul]; exact Nat.mul_le_mul_right _ hy
      omega
    have hor : (hi * 2 ^ s % 18446744073709551616 % 18446744073709551616 ||| lo / 2 ^ (64 - s) % 18446744073709551616) = hi * 2 ^ s + lo / 2 ^ (64 - s) := by
      have h1 : lo / 2 ^ (64 - s) < 2 ^ s := by
        have := WB_split s (by omega)
        simp only [WB] at this
        rw [this, Nat.mul_comm] at hlo
        exact Nat.div_lt_of_lt_mul hlo
      rw [Nat.mod_mod, Nat.mod_eq_of_lt (Nat.lt_of_le_of_lt (Nat.le_trans (Nat.le_add_right _ _) (Nat.le_of_lt hu)) hY2), Nat.mod_eq_of_lt (Nat.lt_of_le_of_lt (Nat.le_trans (Nat.le_add_left _ _) (Nat.le_of_lt hu)) hY2), Nat.mul_comm hi, Nat.two_pow_add_eq_or_of_lt h1]
    have k1 : ((((s : Nat) : Int)) < 0) = False := by simp only [eq_iff_iff, iff_false]; omega
    have k2 : IntKind.u64.wrap (64 - ((s : Nat) : Int)) = ((64 - s : Nat) : Int) := by
      rw [show (64 : Int) - ((s : Nat) : Int) = ((64 - s : Nat) : Int) by omega, u64_wrap, Nat.mod_eq_of_lt (by omega)]
    have k3 : ((((64 - s : Nat) : Nat) : Int) < 0) = False := by simp only [eq_iff_iff, iff_false]; omega
    have k4 : IntKind.u64.wrap (((64 - blen y : Nat) : Int)) = ((s : Nat) : Int) := by rw [← hs, u64_wrap, Nat.mod_eq_of_lt (by omega)]
    have hyt : (((y * 2 ^ s / 4294967296 : Nat) : Int) = 0) = False := by simp only [eq_iff_iff, iff_false]; omega
    have k5 : y * 2 ^ s % 18446744073709551616 = y * 2 ^ s := Nat.mod_eq_of_lt hY2
    refine sound_go (tb := []) 135 [.tmp 6, .tmp 7] [0, 1, 2, 6, 7, 8, 9, 10, 11, 12, 13, 14, 15, 16, 17, 18, 20, 24, 27, 78, 85, 113, 120] mixed Tryz.func124 rfl (by kernel_rfl) (by kernel_rfl) (by kernel_rfl) (by kernel_rfl) ?_
    simp -implicitDefEqProofs only [go_sem, Nat.reduceAdd, Nat.reduceMul, Nat.reduceEqDiff, Nat.reduceLT, Nat.reduceLeDiff, Nat.reduceSub, Nat.reduceBEq, reduceIte, reduceCtorEq, Int.reduceEq, Int.reduceNe, Nat.reduceBneDiff, Int.reduceLE, Int.reduceLT, Int.reduceToNat, Int.reduceAdd, Int.reduceSub, Int.reduceMul, Int.reduceNeg, g1, g2, g4]
    refine gcall_intro _ _ _ _ _ _ _ _ _ (lz64_v y hyl) ?_
    simp -implicitDefEqProofs only [go_sem, Nat.reduceAdd, Nat.reduceMul, Nat.reduceEqDiff, Nat.reduceLT, Nat.reduceLeDiff, Nat.reduceSub, Nat.reduceBEq, reduceIte, reduceCtorEq, Int.reduceEq, Int.reduceNe, Nat.reduceBneDiff, Int.reduceLE, Int.reduceLT, Int.reduceToNat, Int.reduceAdd, Int.reduceSub, Int.reduceMul, Int.reduceNeg, k4, k1, k2, k3, hmin, hmin2, Int.toNat_natCast, shl_u64, fdivK, m32, b_mask, k5, hor, tdivN, hyt]
    clear g1 g2 g3 g4 k4 k5 hor b1 b2 b3 b4 hs
    generalize hi * 2 ^ s + lo / 2 ^ (64 - s) = u at *
    generalize y * 2 ^ s = Y at *
    have htl : lo * 2 ^ s % 18446744073709551616 < 18446744073709551616 := Nat.mod_lt _ (by decide)
    generalize lo * 2 ^ s % 18446744073709551616 = t at *
    have hd1 : t / 4294967296 < 4294967296 := by omega
    have hd0 : t % 4294967296 < 4294967296 := by omega
    generalize t / 4294967296 = d1 at *
    generalize t % 4294967296 = d0 at *
    have i5 := u64_small (n := u / (Y / 4294967296)) (Nat.lt_of_le_of_lt (Nat.div_le_self _ _) (Nat.lt_trans hu hY2))
    have i6 := u64_rem u (Y / 4294967296) (Nat.lt_trans hu hY2)
    have l4 := u64_left u d1 Y (by omega) hY2
    obtain ⟨v, hvd⟩ : ∃ v, v = (u * 4294967296 + d1) % Y := ⟨_, rfl⟩
    have hv : v < Y := by rw [hvd]; exact Nat.mod_lt _ (by omega)
    rw [← hvd] at D1 D2 l4
    have l5 := u64_small (n := v / (Y / 4294967296)) (Nat.lt_of_le_of_lt (Nat.div_le_self _ _) (Nat.lt_trans hv hY2))
    have l6 := u64_rem v (Y / 4294967296) (Nat.lt_trans hv hY2)
    have f1 := u64_both (kn_quot hu hd1) (kn_quot hv hd0)
    have f2 := u64_left v d0 Y (by omega) hY2
    simp only [i5, i6]
    clear hvd i5 i6
    refine g_loop mixed (fun p : { p : Nat × Nat // Kn Y u d1 p.1 p.2 } => St.of [(2, .int .u64 ((Y : Nat) : Int)), (8, .int .u64 ((s : Nat) : Int)), (9, .int .u64 ((Y / 4294967296 : Nat) : Int)), (10, .int .u64 ((Y % 4294967296 : Nat) : Int)), (11, .int .u64 ((u : Nat) : Int)), (13, .int .u64 ((d1 : Nat) : Int)), (14, .int .u64 ((d0 : Nat) : Int)), (15, .int .u64 ((p.1.1 : Nat) : Int)), (16, .int .u64 ((p.1.2 : Nat) : Int))] []) (fun p => p.1.1) ⟨(u / (Y / 4294967296), u % (Y / 4294967296)), kn_first hY1 hY2 hu hd1⟩ ?_ ?_
    · exact le_vars (by simp [varsLe, lkp, ren1, ren0])
    · rintro ⟨⟨q, r⟩, hK⟩
      have hq := kn_q hY1 hY2 hu hK
      have hr : r < 4294967296 := hK.small
      have ht := kn_test hK
      simp only at hq hr ht hK ⊢
      have hy1 : Y / 4294967296 < 4294967296 := by omega
      have hy0 : Y % 4294967296 < 4294967296 := by omega
      have e5 := u64_inc hr hy1
      have w1 := u64_l32 hr
      have w2 := u64_l32d hr hd1
      by_cases hc : u * 4294967296 + d1 < q * Y
      · obtain ⟨hq0, hG⟩ := kn_next hY1 hu hK hc
        have e4 := u64_dec hq0 hq
        have hbig : (4294967296 : Int) ≤ ((q : Nat) : Int) ∨ ((4294967296 : Int) ≤ ((q : Nat) : Int)) = False ∧ IntKind.u64.wrap (((q : Nat) : Int) * ((Y % 4294967296 : Nat) : Int)) = ((q * (Y % 4294967296) : Nat) : Int) := by
          by_cases h : 4294967296 ≤ q
          · left; omega
          · right
            exact ⟨by simp only [eq_iff_iff, iff_false]; omega, u64_prod (by omega) hy0⟩
        have w3 : (((r * 4294967296 + d1 : Nat) : Int) < ((q * (Y % 4294967296) : Nat) : Int)) = True := by
          simp only [eq_iff_iff, iff_true]; have := ht.2 hc; omega
        by_cases hbr : 4294967296 ≤ r + Y / 4294967296
        · have hbr' : ((4294967296 : Int) ≤ ((r + Y / 4294967296 : Nat) : Int)) = True := by simp only [eq_iff_iff, iff_true]; omega
          have hQ := kn_break hY1 hu hd1 hG hbr
          rcases hbig with h | ⟨h, w0⟩
          · have h' : ((4294967296 : Int) ≤ ((q : Nat) : Int)) = True := by simp only [eq_iff_iff, iff_true]; exact h
            rw [hQ] at e4
            simp -implicitDefEqProofs only [go_sem, Nat.reduceAdd, Nat.reduceMul, Nat.reduceEqDiff, Nat.reduceLT, Nat.reduceLeDiff, Nat.reduceSub, Nat.reduceBEq, reduceIte, reduceCtorEq, Int.reduceEq, Int.reduceNe, Nat.reduceBneDiff, Int.reduceLE, Int.reduceLT, Int.reduceToNat, Int.reduceAdd, Int.reduceSub, Int.reduceMul, Int.reduceNeg, h', e4, e5, hbr']
            simp -implicitDefEqProofs only [go_sem, Nat.reduceAdd, Nat.reduceMul, Nat.reduceEqDiff, Nat.reduceLT, Nat.reduceLeDiff, Nat.reduceSub, Nat.reduceBEq, reduceIte, reduceCtorEq, Int.reduceEq, Int.reduceNe, Nat.reduceBneDiff, Int.reduceLE, Int.reduceLT, Int.reduceToNat, Int.reduceAdd, Int.reduceSub, Int.reduceMul, Int.reduceNeg, l4, tdivN, hyt, l5, l6]
            refine g_loop mixed (fun p : { p : Nat × Nat // Kn Y v d0 p.1 p.2 } => St.of [(2, .int .u64 ((Y : Nat) : Int)), (8, .int .u64 ((s : Nat) : Int)), (9, .int .u64 ((Y / 4294967296 : Nat) : Int)), (10, .int .u64 ((Y % 4294967296 : Nat) : Int)), (14, .int .u64 ((d0 : Nat) : Int)), (15, .int .u64 (((u * 4294967296 + d1) / Y : Nat) : Int)), (17, .int .u64 ((v : Nat) : Int)), (18, .int .u64 ((p.1.1 : Nat) : Int)), (16, .int .u64 ((p.1.2 : Nat) : Int))] []) (fun p => p.1.1) ⟨(v / (Y / 4294967296), v % (Y / 4294967296)), kn_first hY1 hY2 hv hd0⟩ ?_ ?_
            · exact le_vars (by simp [varsLe, lkp, ren1, ren0])
            · rintro ⟨⟨q, r⟩, hK⟩
              have hq := kn_q hY1 hY2 hv hK
              have hr : r < 4294967296 := hK.small
              have ht := kn_test hK
              simp only at hq hr ht hK ⊢
              have hy1 : Y / 4294967296 < 4294967296 := by omega
              have hy0 : Y % 4294967296 < 4294967296 := by omega
              have e5 := u64_inc hr hy1
              have w1 := u64_l32 hr
              have w2 := u64_l32d hr hd0
              by_cases hc : v * 4294967296 + d0 < q * Y
              · obtain ⟨hq0, hG⟩ := kn_next hY1 hv hK hc
                have e4 := u64_dec hq0 hq
                have hbig : (4294967296 : Int) ≤ ((q : Nat) : Int) ∨ ((4294967296 : Int) ≤ ((q : Nat) : Int)) = False ∧ IntKind.u64.wrap (((q : Nat) : Int) * ((Y % 4294967296 : Nat) : Int)) = ((q * (Y % 4294967296) : Nat) : Int) := by
                  by_cases h : 4294967296 ≤ q
                  · left; omega
                  · right
                    exact ⟨by simp only [eq_iff_iff, iff_false]; omega, u64_prod (by omega) hy0⟩
                have w3 : (((r * 4294967296 + d0 : Nat) : Int) < ((q * (Y % 4294967296) : Nat) : Int)) = True := by
                  simp only [eq_iff_iff, iff_true]; have := ht.2 hc; omega
                by_cases hbr : 4294967296 ≤ r + Y / 4294967296
                · have hbr' : ((4294967296 : Int) ≤ ((r + Y / 4294967296 : Nat) : Int)) = True := by simp only [eq_iff_iff, iff_true]; omega
                  have hQ := kn_break hY1 hv hd0 hG hbr
                  rcases hbig with h | ⟨h, w0⟩
                  · have h' : ((4294967296 : Int) ≤ ((q : Nat) : Int)) = True := by simp only [eq_iff_iff, iff_true]; exact h
                    rw [hQ] at e4
                    simp -implicitDefEqProofs only [go_sem, Nat.reduceAdd, Nat.reduceMul, Nat.reduceEqDiff, Nat.reduceLT, Nat.reduceLeDiff, Nat.reduceSub, Nat.reduceBEq, reduceIte, reduceCtorEq, Int.reduceEq, Int.reduceNe, Nat.reduceBneDiff, Int.reduceLE, Int.reduceLT, Int.reduceToNat, Int.reduceAdd, Int.reduceSub, Int.reduceMul, Int.reduceNeg, h', e4, e5, hbr']
                    simp -implicitDefEqProofs only [go_sem, Nat.reduceAdd, Nat.reduceMul, Nat.reduceEqDiff, Nat.reduceLT, Nat.reduceLeDiff, Nat.reduceSub, Nat.reduceBEq, reduceIte, reduceCtorEq, Int.reduceEq, Int.reduceNe, Nat.reduceBneDiff, Int.reduceLE, Int.reduceLT, Int.reduceToNat, Int.reduceAdd, Int.reduceSub, Int.reduceMul, Int.reduceNeg, f1, f2, k1, hmin, Int.toNat_natCast, fdivK]
                    rw [← D1, ← D2]

                  · rw [hQ] at e4
                    simp -implicitDefEqProofs only [go_sem, Nat.reduceAdd, Nat.reduceMul, Nat.reduceEqDiff, Nat.reduceLT, Nat.reduceLeDiff, Nat.reduceSub, Nat.reduceBEq, reduceIte, reduceCtorEq, Int.reduceEq, Int.reduceNe, Nat.reduceBneDiff, Int.reduceLE, Int.reduceLT, Int.reduceToNat, Int.reduceAdd, Int.reduceSub, Int.reduceMul, Int.reduceNeg, h, w0, w1, w2, w3, e4, e5, hbr']
                    simp -implicitDefEqProofs only [go_sem, Nat.reduceAdd, Nat.reduceMul, Nat.reduceEqDiff, Nat.reduceLT, Nat.reduceLeDiff, Nat.reduceSub, Nat.reduceBEq, reduceIte, reduceCtorEq, Int.reduceEq, Int.reduceNe, Nat.reduceBneDiff, Int.reduceLE, Int.reduceLT, Int.reduceToNat, Int.reduceAdd, Int.reduceSub, Int.reduceMul, Int.reduceNeg, f1, f2, k1, hmin, Int.toNat_natCast, fdivK]
                    rw [← D1, ← D2]

                · have hbr' : ((4294967296 : Int) ≤ ((r + Y / 4294967296 : Nat) : Int)) = False := by simp only [eq_iff_iff, iff_false]; omega
                  have next : ∃ y : { p : Nat × Nat // Kn Y v d0 p.1 p.2 }, y.1.1 < q ∧ y.1 = (q - 1, r + Y / 4294967296) := ⟨⟨(q - 1, r + Y / 4294967296), hG, by simp only; omega⟩, by simp only; omega, rfl⟩
                  obtain ⟨y, y1, y2⟩ := next
                  rcases hbig with h | ⟨h, w0⟩
                  · have h' : ((4294967296 : Int) ≤ ((q : Nat) : Int)) = True := by simp only [eq_iff_iff, iff_true]; exact h
                    simp -implicitDefEqProofs only [go_sem, Nat.reduceAdd, Nat.reduceMul, Nat.reduceEqDiff, Nat.reduceLT, Nat.reduceLeDiff, Nat.reduceSub, Nat.reduceBEq, reduceIte, reduceCtorEq, Int.reduceEq, Int.reduceNe, Nat.reduceBneDiff, Int.reduceLE, Int.reduceLT, Int.reduceToNat, Int.reduceAdd, Int.reduceSub, Int.reduceMul, Int.reduceNeg, h', e4, e5, hbr']
                    refine ⟨y, y1, le_vars ?_⟩
                    simp [varsLe, lkp, ren1, ren0, y2]
                  · simp -implicitDefEqProofs only [go_sem, Nat.reduceAdd, Nat.reduceMul, Nat.reduceEqDiff, Nat.reduceLT, Nat.reduceLeDiff, Nat.reduceSub, Nat.reduceBEq, reduceIte, reduceCtorEq, Int.reduceEq, Int.reduceNe, Nat.reduceBneDiff, Int.reduceLE, Int.reduceLT, Int.reduceToNat, Int.reduceAdd, Int.reduceSub, Int.reduceMul, Int.reduceNeg, h, w0, w1, w2, w3, e4, e5, hbr']
                    refine ⟨y, y1, le_vars ?_⟩
                    simp [varsLe, lkp, ren1, ren0, y2]
              · have hQ := kn_done hY1 hK hc
                have hq2 : q < 4294967296 := by rw [hQ]; exact kn_quot hv hd0
                have h : ((4294967296 : Int) ≤ ((q : Nat) : Int)) = False := by simp only [eq_iff_iff, iff_false]; omega
                have w0 := u64_prod hq2 hy0
                have w3 : (((r * 4294967296 + d0 : Nat) : Int) < ((q * (Y % 4294967296) : Nat) : Int)) = False := by
                  simp only [eq_iff_iff, iff_false]; have := mt ht.1 hc; omega
                simp -implicitDefEqProofs only [go_sem, Nat.reduceAdd, Nat.reduceMul, Nat.reduceEqDiff, Nat.reduceLT, Nat.reduceLeDiff, Nat.reduceSub, Nat.reduceBEq, reduceIte, reduceCtorEq, Int.reduceEq, Int.reduceNe, Nat.reduceBneDiff, Int.reduceLE, Int.reduceLT, Int.reduceToNat, Int.reduceAdd, Int.reduceSub, Int.reduceMul, Int.reduceNeg, h, w0, w1, w2, w3]
                clear hK hq hr ht e5 hc hq2 h w0 w1 w2 w3
                subst hQ
                simp -implicitDefEqProofs only [go_sem, Nat.reduceAdd, Nat.reduceMul, Nat.reduceEqDiff, Nat.reduceLT, Nat.reduceLeDiff, Nat.reduceSub, Nat.reduceBEq, reduceIte, reduceCtorEq, Int.reduceEq, Int.reduceNe, Nat.reduceBneDiff, Int.reduceLE, Int.reduceLT, Int.reduceToNat, Int.reduceAdd, Int.reduceSub, Int.reduceMul, Int.reduceNeg, f1, f2, k1, hmin, Int.toNat_natCast, fdivK]
                rw [← D1, ← D2]

          · rw [hQ] at e4
            simp -implicitDefEqProofs only [go_sem, Nat.reduceAdd, Nat.reduceMul, Nat.reduceEqDiff, Nat.reduceLT, Nat.reduceLeDiff, Nat.reduceSub, Nat.reduceBEq, reduceIte, reduceCtorEq, Int.reduceEq, Int.reduceNe, Nat.reduceBneDiff, Int.reduceLE, Int.reduceLT, Int.reduceToNat, Int.reduceAdd, Int.reduceSub, Int.reduceMul, Int.reduceNeg, h, w0, w1, w2, w3, e4, e5, hbr']
            simp -implicitDefEqProofs only [go_sem, Nat.reduceAdd, Nat.reduceMul, Nat.reduceEqDiff, Nat.reduceLT, Nat.reduceLeDiff, Nat.reduceSub, Nat.reduceBEq, reduceIte, reduceCtorEq, Int.reduceEq, Int.reduceNe, Nat.reduceBneDiff, Int.reduceLE, Int.reduceLT, Int.reduceToNat, Int.reduceAdd, Int.reduceSub, Int.reduceMul, Int.reduceNeg, l4, tdivN, hyt, l5, l6]
            refine g_loop mixed (fun p : { p : Nat × Nat // Kn Y v d0 p.1 p.2 } => St.of [(2, .int .u64 ((Y : Nat) : Int)), (8, .int .u64 ((s : Nat) : Int)), (9, .int .u64 ((Y / 4294967296 : Nat) : Int)), (10, .int .u64 ((Y % 4294967296 : Nat) : Int)), (14, .int .u64 ((d0 : Nat) : Int)), (15, .int .u64 (((u * 4294967296 + d1) / Y : Nat) : Int)), (17, .int .u64 ((v : Nat) : Int)), (18, .int .u64 ((p.1.1 : Nat) : Int)), (16, .int .u64 ((p.1.2 : Nat) : Int))] []) (fun p => p.1.1) ⟨(v / (Y / 4294967296), v % (Y / 4294967296)), kn_first hY1 hY2 hv hd0⟩ ?_ ?_
            · exact le_vars (by simp [varsLe, lkp, ren1, ren0])
            · rintro ⟨⟨q, r⟩, hK⟩
              have hq := kn_q hY1 hY2 hv hK
              have hr : r < 4294967296 := hK.small
              have ht := kn_test hK
              simp only at hq hr ht hK ⊢
              have hy1 : Y / 4294967296 < 4294967296 := by omega
              have hy0 : Y % 4294967296 < 4294967296 := by omega
              have e5 := u64_inc hr hy1
              have w1 := u64_l32 hr
              have w2 := u64_l32d hr hd0
              by_cases hc : v * 4294967296 + d0 < q * Y
              · obtain ⟨hq0, hG⟩ := kn_next hY1 hv hK hc
                have e4 := u64_dec hq0 hq
                have hbig : (4294967296 : Int) ≤ ((q : Nat) : Int) ∨ ((4294967296 : Int) ≤ ((q : Nat) : Int)) = False ∧ IntKind.u64.wrap (((q : Nat) : Int) * ((Y % 4294967296 : Nat) : Int)) = ((q * (Y % 4294967296) : Nat) : Int) := by
                  by_cases h : 4294967296 ≤ q
                  · left; omega
                  · right
                    exact ⟨by simp only [eq_iff_iff, iff_false]; omega, u64_prod (by omega) hy0⟩
                have w3 : (((r * 4294967296 + d0 : Nat) : Int) < ((q * (Y % 4294967296) : Nat) : Int)) = True := by
                  simp only [eq_iff_iff, iff_true]; have := ht.2 hc; omega
                by_cases hbr : 4294967296 ≤ r + Y / 4294967296
                · have hbr' : ((4294967296 : Int) ≤ ((r + Y / 4294967296 : Nat) : Int)) = True := by simp only [eq_iff_iff, iff_true]; omega
                  have hQ := kn_break hY1 hv hd0 hG hbr
                  rcases hbig with h | ⟨h, w0⟩
                  · have h' : ((4294967296 : Int) ≤ ((q : Nat) : Int)) = True := by simp only [eq_iff_iff, iff_true]; exact h
                    rw [hQ] at e4
                    simp -implicitDefEqProofs only [go_sem, Nat.reduceAdd, Nat.reduceMul, Nat.reduceEqDiff, Nat.reduceLT, Nat.reduceLeDiff, Nat.reduceSub, Nat.reduceBEq, reduceIte, reduceCtorEq, Int.reduceEq, Int.reduceNe, Nat.reduceBneDiff, Int.reduceLE, Int.reduceLT, Int.reduceToNat, Int.reduceAdd, Int.reduceSub, Int.reduceMul, Int.reduceNeg, h', e4, e5, hbr']
                    simp -implicitDefEqProofs only [go_sem, Nat.reduceAdd, Nat.reduceMul, Nat.reduceEqDiff, Nat.reduceLT, Nat.reduceLeDiff, Nat.reduceSub, Nat.reduceBEq, reduceIte, reduceCtorEq, Int.reduceEq, Int.reduceNe, Nat.reduceBneDiff, Int.reduceLE, Int.reduceLT, Int.reduceToNat, Int.reduceAdd, Int.reduceSub, Int.reduceMul, Int.reduceNeg, f1, f2, k1, hmin, Int.toNat_natCast, fdivK]
                    rw [← D1, ← D2]

                  · rw [hQ] at e4
                    simp -implicitDefEqProofs only [go_sem, Nat.reduceAdd, Nat.reduceMul, Nat.reduceEqDiff, Nat.reduceLT, Nat.reduceLeDiff, Nat.reduceSub, Nat.reduceBEq, reduceIte, reduceCtorEq, Int.reduceEq, Int.reduceNe, Nat.reduceBneDiff, Int.reduceLE, Int.reduceLT, Int.reduceToNat, Int.reduceAdd, Int.reduceSub, Int.reduceMul, Int.reduceNeg, h, w0, w1, w2, w3, e4, e5, hbr']
                    simp -implicitDefEqProofs only [go_sem, Nat.reduceAdd, Nat.reduceMul, Nat.reduceEqDiff, Nat.reduceLT, Nat.reduceLeDiff, Nat.reduceSub, Nat.reduceBEq, reduceIte, reduceCtorEq, Int.reduceEq, Int.reduceNe, Nat.reduceBneDiff, Int.reduceLE, Int.reduceLT, Int.reduceToNat, Int.reduceAdd, Int.reduceSub, Int.reduceMul, Int.reduceNeg, f1, f2, k1, hmin, Int.toNat_natCast, fdivK]
                    rw [← D1, ← D2]

                · have hbr' : ((4294967296 : Int) ≤ ((r + Y / 4294967296 : Nat) : Int)) = False := by simp only [eq_iff_iff, iff_false]; omega
                  have next : ∃ y : { p : Nat × Nat // Kn Y v d0 p.1 p.2 }, y.1.1 < q ∧ y.1 = (q - 1, r + Y / 4294967296) := ⟨⟨(q - 1, r + Y / 4294967296), hG, by simp only; omega⟩, by simp only; omega, rfl⟩
                  obtain ⟨y, y1, y2⟩ := next
                  rcases hbig with h | ⟨h, w0⟩
                  · have h' : ((4294967296 : Int) ≤ ((q : Nat) : Int)) = True := by simp only [eq_iff_iff, iff_true]; exact h
                    simp -implicitDefEqProofs only [go_sem, Nat.reduceAdd, Nat.reduceMul, Nat.reduceEqDiff, Nat.reduceLT, Nat.reduceLeDiff, Nat.reduceSub, Nat.reduceBEq, reduceIte, reduceCtorEq, Int.reduceEq, Int.reduceNe, Nat.reduceBneDiff, Int.reduceLE, Int.reduceLT, Int.reduceToNat, Int.reduceAdd, Int.reduceSub, Int.reduceMul, Int.reduceNeg, h', e4, e5, hbr']
                    refine ⟨y, y1, le_vars ?_⟩
                    simp [varsLe, lkp, ren1, ren0, y2]
                  · simp -implicitDefEqProofs only [go_sem, Nat.reduceAdd, Nat.reduceMul, Nat.reduceEqDiff, Nat.reduceLT, Nat.reduceLeDiff, Nat.reduceSub, Nat.reduceBEq, reduceIte, reduceCtorEq, Int.reduceEq, Int.reduceNe, Nat.reduceBneDiff, Int.reduceLE, Int.reduceLT, Int.reduceToNat, Int.reduceAdd, Int.reduceSub, Int.reduceMul, Int.reduceNeg, h, w0, w1, w2, w3, e4, e5, hbr']
                    refine ⟨y, y1, le_vars ?_⟩
                    simp [varsLe, lkp, ren1, ren0, y2]
              · have hQ := kn_done hY1 hK hc
                have hq2 : q < 4294967296 := by rw [hQ]; exact kn_quot hv hd0
                have h : ((4294967296 : Int) ≤ ((q : Nat) : Int)) = False := by simp only [eq_iff_iff, iff_false]; omega
                have w0 := u64_prod hq2 hy0
                have w3 : (((r * 4294967296 + d0 : Nat) : Int) < ((q * (Y % 4294967296) : Nat) : Int)) = False := by
                  simp only [eq_iff_iff, iff_false]; have := mt ht.1 hc; omega
                simp -implicitDefEqProofs only [go_sem, Nat.reduceAdd, Nat.reduceMul, Nat.reduceEqDiff, Nat.reduceLT, Nat.reduceLeDiff, Nat.reduceSub, Nat.reduceBEq, reduceIte, reduceCtorEq, Int.reduceEq, Int.reduceNe, Nat.reduceBneDiff, Int.reduceLE, Int.reduceLT, Int.reduceToNat, Int.reduceAdd, Int.reduceSub, Int.reduceMul, Int.reduceNeg, h, w0, w1, w2, w3]
                clear hK hq hr ht e5 hc hq2 h w0 w1 w2 w3
                subst hQ
                simp -implicitDefEqProofs only [go_sem, Nat.reduceAdd, Nat.reduceMul, Nat.reduceEqDiff, Nat.reduceLT, Nat.reduceLeDiff, Nat.reduceSub, Nat.reduceBEq, reduceIte, reduceCtorEq, Int.reduceEq, Int.reduceNe, Nat.reduceBneDiff, Int.reduceLE, Int.reduceLT, Int.reduceToNat, Int.reduceAdd, Int.reduceSub, Int.reduceMul, Int.reduceNeg, f1, f2, k1, hmin, Int.toNat_natCast, fdivK]
                rw [← D1, ← D2]

        · have hbr' : ((4294967296 : Int) ≤ ((r + Y / 4294967296 : Nat) : Int)) = False := by simp only [eq_iff_iff, iff_false]; omega
          have next : ∃ y : { p : Nat × Nat // Kn Y u d1 p.1 p.2 }, y.1.1 < q ∧ y.1 = (q - 1, r + Y / 4294967296) := ⟨⟨(q - 1, r + Y / 4294967296), hG, by simp only; omega⟩, by simp only; omega, rfl⟩
          obtain ⟨y, y1, y2⟩ := next
          rcases hbig with h | ⟨h, w0⟩
          · have h' : ((4294967296 : Int) ≤ ((q : Nat) : Int)) = True := by simp only [eq_iff_iff, iff_true]; exact h
            simp -implicitDefEqProofs only [go_sem, Nat.reduceAdd, Nat.reduceMul, Nat.reduceEqDiff, Nat.reduceLT, Nat.reduceLeDiff, Nat.reduceSub, Nat.reduceBEq, reduceIte, reduceCtorEq, Int.reduceEq, Int.reduceNe, Nat.reduceBneDiff, Int.reduceLE, Int.reduceLT, Int.reduceToNat, Int.reduceAdd, Int.reduceSub, Int.reduceMul, Int.reduceNeg, h', e4, e5, hbr']
            refine ⟨y, y1, le_vars ?_⟩
            simp [varsLe, lkp, ren1, ren0, y2]
          · simp -implicitDefEqProofs only [go_sem, Nat.reduceAdd, Nat.reduceMul, Nat.reduceEqDiff, Nat.reduceLT, Nat.reduceLeDiff, Nat.reduceSub, Nat.reduceBEq, reduceIte, reduceCtorEq, Int.reduceEq, Int.reduceNe, Nat.reduceBneDiff, Int.reduceLE, Int.reduceLT, Int.reduceToNat, Int.reduceAdd, Int.reduceSub, Int.reduceMul, Int.reduceNeg, h, w0, w1, w2, w3, e4, e5, hbr']
            refine ⟨y, y1, le_vars ?_⟩
            simp [varsLe, lkp, ren1, ren0, y2]
      · have hQ := kn_done hY1 hK hc
        have hq2 : q < 4294967296 := by rw [hQ]; exact kn_quot hu hd1
        have h : ((4294967296 : Int) ≤ ((q : Nat) : Int)) = False := by simp only [eq_iff_iff, iff_false]; omega
        have w0 := u64_prod hq2 hy0
        have w3 : (((r * 4294967296 + d1 : Nat) : Int) < ((q * (Y % 4294967296) : Nat) : Int)) = False := by
          simp only [eq_iff_iff, iff_false]; have := mt ht.1 hc; omega
        simp -implicitDefEqProofs only [go_sem, Nat.reduceAdd, Nat.reduceMul, Nat.reduceEqDiff, Nat.reduceLT, Nat.reduceLeDiff, Nat.reduceSub, Nat.reduceBEq, reduceIte, reduceCtorEq, Int.reduceEq, Int.reduceNe, Nat.reduceBneDiff, Int.reduceLE, Int.reduceLT, Int.reduceToNat, Int.reduceAdd, Int.reduceSub, Int.reduceMul, Int.reduceNeg, h, w0, w1, w2, w3]
        clear hK hq hr ht e5 hc hq2 h w0 w1 w2 w3
        subst hQ
        simp -implicitDefEqProofs only [go_sem, Nat.reduceAdd, Nat.reduceMul, Nat.reduceEqDiff, Nat.reduceLT, Nat.reduceLeDiff, Nat.reduceSub, Nat.reduceBEq, reduceIte, reduceCtorEq, Int.reduceEq, Int.reduceNe, Nat.reduceBneDiff, Int.reduceLE, Int.reduceLT, Int.reduceToNat, Int.reduceAdd, Int.reduceSub, Int.reduceMul, Int.reduceNeg, l4, tdivN, hyt, l5, l6]
        refine g_loop mixed (fun p : { p : Nat × Nat // Kn Y v d0 p.1 p.2 } => St.of [(2, .int .u64 ((Y : Nat) : Int)), (8, .int .u64 ((s : Nat) : Int)), (9, .int .u64 ((Y / 4294967296 : Nat) : Int)), (10, .int .u64 ((Y % 4294967296 : Nat) : Int)), (14, .int .u64 ((d0 : Nat) : Int)), (15, .int .u64 (((u * 4294967296 + d1) / Y : Nat) : Int)), (17, .int .u64 ((v : Nat) : Int)), (18, .int .u64 ((p.1.1 : Nat) : Int)), (16, .int .u64 ((p.1.2 : Nat) : Int))] []) (fun p => p.1.1) ⟨(v / (Y / 4294967296), v % (Y / 4294967296)), kn_first hY1 hY2 hv hd0⟩ ?_ ?_
        · exact le_vars (by simp [varsLe, lkp, ren1, ren0])
        · rintro ⟨⟨q, r⟩, hK⟩
          have hq := kn_q hY1 hY2 hv hK
          have hr : r < 4294967296 := hK.small
          have ht := kn_test hK
          simp only at hq hr ht hK ⊢
          have hy1 : Y / 4294967296 < 4294967296 := by omega
          have hy0 : Y % 4294967296 < 4294967296 := by omega
          have e5 := u64_inc hr hy1
          have w1 := u64_l32 hr
          have w2 := u64_l32d hr hd0
          by_cases hc : v * 4294967296 + d0 < q * Y
          · obtain ⟨hq0, hG⟩ := kn_next hY1 hv hK hc
            have e4 := u64_dec hq0 hq
            have hbig : (4294967296 : Int) ≤ ((q : Nat) : Int) ∨ ((4294967296 : Int) ≤ ((q : Nat) : Int)) = False ∧ IntKind.u64.wrap (((q : Nat) : Int) * ((Y % 4294967296 : Nat) : Int)) = ((q * (Y % 4294967296) : Nat) : Int) := by
              by_cases h : 4294967296 ≤ q
              · left; omega
              · right
                exact ⟨by simp only [eq_iff_iff, iff_false]; omega, u64_prod (by omega) hy0⟩
            have w3 : (((r * 4294967296 + d0 : Nat) : Int) < ((q * (Y % 4294967296) : Nat) : Int)) = True := by
              simp only [eq_iff_iff, iff_true]; have := ht.2 hc; omega
            by_cases hbr : 4294967296 ≤ r + Y / 4294967296
            · have hbr' : ((4294967296 : Int) ≤ ((r + Y / 4294967296 : Nat) : Int)) = True := by simp only [eq_iff_iff, iff_true]; omega
              have hQ := kn_break hY1 hv hd0 hG hbr
              rcases hbig with h | ⟨h, w0⟩
              · have h' : ((4294967296 : Int) ≤ ((q : Nat) : Int)) = True := by simp only [eq_iff_iff, iff_true]; exact h
                rw [hQ] at e4
                simp -implicitDefEqProofs only [go_sem, Nat.reduceAdd, Nat.reduceMul, Nat.reduceEqDiff, Nat.reduceLT, Nat.reduceLeDiff, Nat.reduceSub, Nat.reduceBEq, reduceIte, reduceCtorEq, Int.reduceEq, Int.reduceNe, Nat.reduceBneDiff, Int.reduceLE, Int.reduceLT, Int.reduceToNat, Int.reduceAdd, Int.reduceSub, Int.reduceMul, Int.reduceNeg, h', e4, e5, hbr']
                simp -implicitDefEqProofs only [go_sem, Nat.reduceAdd, Nat.reduceMul, Nat.reduceEqDiff, Nat.reduceLT, Nat.reduceLeDiff, Nat.reduceSub, Nat.reduceBEq, reduceIte, reduceCtorEq, Int.reduceEq, Int.reduceNe, Nat.reduceBneDiff, Int.reduceLE, Int.reduceLT, Int.reduceToNat, Int.reduceAdd, Int.reduceSub, Int.reduceMul, Int.reduceNeg, f1, f2, k1, hmin, Int.toNat_natCast, fdivK]
                rw [← D1, ← D2]

              · rw [hQ] at e4
                simp -implicitDefEqProofs only [go_sem, Nat.reduceAdd, Nat.reduceMul, Nat.reduceEqDiff, Nat.reduceLT, Nat.reduceLeDiff, Nat.reduceSub, Nat.reduceBEq, reduceIte, reduceCtorEq, Int.reduceEq, Int.reduceNe, Nat.reduceBneDiff, Int.reduceLE, Int.reduceLT, Int.reduceToNat, Int.reduceAdd, Int.reduceSub, Int.reduceMul, Int.reduceNeg, h, w0, w1, w2, w3, e4, e5, hbr']
                simp -implicitDefEqProofs only [go_sem, Nat.reduceAdd, Nat.reduceMul, Nat.reduceEqDiff, Nat.reduceLT, Nat.reduceLeDiff, Nat.reduceSub, Nat.reduceBEq, reduceIte, reduceCtorEq, Int.reduceEq, Int.reduceNe, Nat.reduceBneDiff, Int.reduceLE, Int.reduceLT, Int.reduceToNat, Int.reduceAdd, Int.reduceSub, Int.reduceMul, Int.reduceNeg, f1, f2, k1, hmin, Int.toNat_natCast, fdivK]
                rw [← D1, ← D2]

            · have hbr' : ((4294967296 : Int) ≤ ((r + Y / 4294967296 : Nat) : Int)) = False := by simp only [eq_iff_iff, iff_false]; omega
              have next : ∃ y : { p : Nat × Nat // Kn Y v d0 p.1 p.2 }, y.1.1 < q ∧ y.1 = (q - 1, r + Y / 4294967296) := ⟨⟨(q - 1, r + Y / 4294967296), hG, by simp only; omega⟩, by simp only; omega, rfl⟩
              obtain ⟨y, y1, y2⟩ := next
              rcases hbig with h | ⟨h, w0⟩
              · have h' : ((4294967296 : Int) ≤ ((q : Nat) : Int)) = True := by simp only [eq_iff_iff, iff_true]; exact h
                simp -implicitDefEqProofs only [go_sem, Nat.reduceAdd, Nat.reduceMul, Nat.reduceEqDiff, Nat.reduceLT, Nat.reduceLeDiff, Nat.reduceSub, Nat.reduceBEq, reduceIte, reduceCtorEq, Int.reduceEq, Int.reduceNe, Nat.reduceBneDiff, Int.reduceLE, Int.reduceLT, Int.reduceToNat, Int.reduceAdd, Int.reduceSub, Int.reduceMul, Int.reduceNeg, h', e4, e5, hbr']
                refine ⟨y, y1, le_vars ?_⟩
                simp [varsLe, lkp, ren1, ren0, y2]
              · simp -implicitDefEqProofs only [go_sem, Nat.reduceAdd, Nat.reduceMul, Nat.reduceEqDiff, Nat.reduceLT, Nat.reduceLeDiff, Nat.reduceSub, Nat.reduceBEq, reduceIte, reduceCtorEq, Int.reduceEq, Int.reduceNe, Nat.reduceBneDiff, Int.reduceLE, Int.reduceLT, Int.reduceToNat, Int.reduceAdd, Int.reduceSub, Int.reduceMul, Int.reduceNeg, h, w0, w1, w2, w3, e4, e5, hbr']
                refine ⟨y, y1, le_vars ?_⟩
                simp [varsLe, lkp, ren1, ren0, y2]
          · have hQ := kn_done hY1 hK hc
            have hq2 : q < 4294967296 := by rw [hQ]; exact kn_quot hv hd0
            have h : ((4294967296 : Int) ≤ ((q : Nat) : Int)) = False := by simp only [eq_iff_iff, iff_false]; omega
            have w0 := u64_prod hq2 hy0
            have w3 : (((r * 4294967296 + d0 : Nat) : Int) < ((q * (Y % 4294967296) : Nat) : Int)) = False := by
              simp only [eq_iff_iff, iff_false]; have := mt ht.1 hc; omega
            simp -implicitDefEqProofs only [go_sem, Nat.reduceAdd, Nat.reduceMul, Nat.reduceEqDiff, Nat.reduceLT, Nat.reduceLeDiff, Nat.reduceSub, Nat.reduceBEq, reduceIte, reduceCtorEq, Int.reduceEq, Int.reduceNe, Nat.reduceBneDiff, Int.reduceLE, Int.reduceLT, Int.reduceToNat, Int.reduceAdd, Int.reduceSub, Int.reduceMul, Int.reduceNeg, h, w0, w1, w2, w3]
            clear hK hq hr ht e5 hc hq2 h w0 w1 w2 w3
            subst hQ
            simp -implicitDefEqProofs only [go_sem, Nat.reduceAdd, Nat.reduceMul, Nat.reduceEqDiff, Nat.reduceLT, Nat.reduceLeDiff, Nat.reduceSub, Nat.reduceBEq, reduceIte, reduceCtorEq, Int.reduceEq, Int.reduceNe, Nat.reduceBneDiff, Int.reduceLE, Int.reduceLT, Int.reduceToNat, Int.reduceAdd, Int.reduceSub, Int.reduceMul, Int.reduceNeg, f1, f2, k1, hmin, Int.toNat_natCast, fdivK]
            rw [← D1, ← D2]
end Go.Proofs.YtnpclmmmngmdkaaGreat

namespace Go.Dg
theorem small_step (A d B : Nat) (hB : 0 < B) (hd : 0 < d) : (A / B % d * B + A % B) / d = A / d % B ∧ (A / B % d * B + A % B) % d = A % d := by
  have h1 := Nat.div_add_mod A B
  have h2 := Nat.div_add_mod (A / B) d
  have hr : A / B % d < d := Nat.mod_lt _ hd
  have hl : A % B < B := Nat.mod_lt _ hB
  generalize A / B % d = r at *
  generalize A / B / d = Q at *
  generalize A % B = l at *
  have e : A = d * (Q * B) + (r * B + l) := by
    rw [← h1, ← h2, Nat.mul_add, Nat.mul_comm B r, Nat.mul_comm B, Nat.mul_assoc]; omega
  have hlt : r * B + l < d * B := by
    have := Nat.mul_le_mul_right B (show r + 1 ≤ d from hr)
    rw [Nat.add_mul] at this
    omega
  have hq : (r * B + l) / d < B := by rw [Nat.div_lt_iff_lt_mul hd, Nat.mul_comm B]; exact hlt
  constructor
  · rw [e, Nat.mul_add_div hd, Nat.mul_add_mod_self_right, Nat.mod_eq_of_lt hq]
  · rw [e, Nat.mul_add_mod]
theorem mix_full (B V S N : Nat) : mix B V S N N = lows B V N := by
  apply List.map_congr_left
  intro j hj
  rw [if_pos (by simpa using hj)]
theorem shlC_digit (a w r i : Nat) (hr : r ≤ 64) : shlV a w r i / WB ^ (i + w) % WB = shlC a r i := by
  rw [shlV_div, Nat.mod_eq_of_lt (Nat.lt_of_lt_of_le (shlC_lt a r i) (Nat.pow_le_pow_right (n := 2) (by decide) hr))]
end Go.Dg

namespace Go.Proofs.YtnpclmmmngmdkaaGreat
open Go.Vl Go.RowKit Go.Dg

theorem wsmall_v (a d : Nat) (hd : 0 < d) (hdl : d < 18446744073709551616) (ha : (digs BW a).length ≤ 1000000000) : SoundAt Tryz.prog 123 [dw (digs BW a), .int .u64 (d : Int)] (.tup [dw (digs BW (a / d)), .int .u64 ((a % d : Nat) : Int)]) := by
  refine sound_go (tb := []) 35 [.tmp 4, .tmp 5] [0, 1, 4, 5, 6, 7, 8, 16] mixed Tryz.func123 rfl (by kernel_rfl) (by kernel_rfl) (by kernel_rfl) (by kernel_rfl) ?_
  have hn0 : ((0 : Int) ≤ ((digs BW a).length : Int)) = True := by simp
  have hn1 : ((8 : Nat) : Int) * ((digs BW a).length : Int) ≤ 281474976710656 := by omega
  have hn2 : ((digs BW a).length : Int) ≤ 9223372036854775807 := by omega
  have hlt : a < BW ^ (digs BW a).length := lt_pow_len BW_2 a
  have hw : IntKind.i64.wrap (((digs BW a).length : Int) - 1) = ((digs BW a).length : Int) - 1 := wrap_i64 (by omega) (by omega)
  simp -implicitDefEqProofs only [go_sem, Nat.reduceAdd, Nat.reduceMul, Nat.reduceEqDiff, Nat.reduceLT, Nat.reduceLeDiff, Nat.reduceSub, Nat.reduceBEq, reduceIte, reduceCtorEq, Int.reduceEq, Int.reduceNe, Nat.reduceBneDiff, Int.reduceLE, Int.reduceLT, Int.reduceToNat, Int.reduceAdd, Int.reduceSub, Int.reduceMul, Int.reduceNeg, dw, List.length_map, hn0, hn1, hn2, Int.toNat_natCast, hw]
  generalize hN : (digs BW a).length = N at *
  have hrep : List.replicate N (PV.int .u64 0) = (mix BW 0 (a / d) N N).map fW := by rw [mix_full, lows_zero']; simp
  rw [hrep]
  refine g_loop mixed (fun i : { i : Nat // i ≤ N } => St.of [(0, dw (digs BW a)), (1, .int .u64 (d : Int)), (4, .nilS), (5, .int .u64 0), (6, .bs 102 1 0 N), (7, .int .u64 ((a / BW ^ i.1 % d : Nat) : Int)), (8, .int .i64 ((i.1 : Int) - 1))]
    [(102, { els := (mix BW 0 (a / d) N i.1).map fW, esz := 1, ety := 137, fro := 0, live := true, arr := true })]) (fun i => i.1) ⟨N, Nat.le_refl _⟩ ?_ ?_
  · refine le_of (θ := [(102, 102)]) rfl ?_ ?_
    · simp [varsLe, lkp, ren1, ren0, dw, Nat.div_eq_of_lt hlt]
    · simp [boxesLe, lkp, Box.renames]
  · rintro ⟨i, hi⟩
    cases i with
    | zero =>
      have h1 : ((0 : Int) ≤ ((0 : Nat) : Int) - 1) = False := by simp
      have hll := lows_length (B := BW) (a / d) N
      have htk : ((lows BW (a / d) N).map fW).take N = (lows BW (a / d) N).map fW := List.take_of_length_le (by simp [hll])
      simp -implicitDefEqProofs only [go_sem, Nat.reduceAdd, Nat.reduceMul, Nat.reduceEqDiff, Nat.reduceLT, Nat.reduceLeDiff, Nat.reduceSub, Nat.reduceBEq, reduceIte, reduceCtorEq, Int.reduceEq, Int.reduceNe, Nat.reduceBneDiff, Int.reduceLE, Int.reduceLT, Int.reduceToNat, Int.reduceAdd, Int.reduceSub, Int.reduceMul, Int.reduceNeg, h1, mix_none, List.length_map, hll, htk]
      refine gcall_intro _ _ _ _ _ _ _ _ _ (wtrim_v (lows BW (a / d) N) (by rw [hll]; simp [maxLen]; omega)) ?_
      have e : a / BW ^ 0 % d = a % d := by rw [Nat.pow_zero, Nat.div_one]
      simp -implicitDefEqProofs only [go_sem, Nat.reduceAdd, Nat.reduceMul, Nat.reduceEqDiff, Nat.reduceLT, Nat.reduceLeDiff, Nat.reduceSub, Nat.reduceBEq, reduceIte, reduceCtorEq, Int.reduceEq, Int.reduceNe, Nat.reduceBneDiff, Int.reduceLE, Int.reduceLT, Int.reduceToNat, Int.reduceAdd, Int.reduceSub, Int.reduceMul, Int.reduceNeg, dw, e]
      rw [trimZ_lows BW_2, Nat.mod_eq_of_lt (Nat.lt_of_le_of_lt (Nat.div_le_self _ _) hlt)]
    | succ i =>
      have hs : (((i + 1 : Nat) : Int) - 1) = (i : Int) := by omega
      have h1 : ((0 : Int) ≤ (i : Int)) = True := by simp
      have h2 : ((i : Int) < (N : Int)) = True := by simp; omega
      have hga := digs_get_lt BW_2 (show i < (digs BW a).length by omega)
      have hml := mix_length (B := BW) 0 (a / d) N (i + 1)
      obtain ⟨e, hgo⟩ : ∃ e : Nat, ((mix BW 0 (a / d) N (i + 1)).map fW)[i]? = some (PV.int .u64 (e : Int)) := ⟨_, by rw [List.getElem?_map, mix_get _ _ _ _ _ (by omega)]; rfl⟩
      have e0 : a / BW ^ (i + 1) = a / BW ^ i / BW := by rw [Nat.pow_succ, Nat.div_div_eq_div_mul]
      obtain ⟨s1, s2⟩ := small_step (a / BW ^ i) d BW (by decide) hd
      have e1 : a / BW ^ i / d = a / d / BW ^ i := by rw [Nat.div_div_eq_div_mul, Nat.div_div_eq_div_mul, Nat.mul_comm]
      have hc := div64_v (a / BW ^ (i + 1) % d) (a / BW ^ i % BW) d (Nat.mod_lt _ hd) hdl (Nat.mod_lt _ (by decide))
      rw [e0, s1, s2, e1] at hc
      have hset := mix_down (B := BW) (V := 0) (S := a / d) (N := N) (i := i) (d := a / d / BW ^ i % BW) (by omega) rfl
      have w4 : IntKind.i64.wrap ((i : Int) - 1) = (i : Int) - 1 := wrap_i64 (by omega) (by omega)
      simp -implicitDefEqProofs only [go_sem, Nat.reduceAdd, Nat.reduceMul, Nat.reduceEqDiff, Nat.reduceLT, Nat.reduceLeDiff, Nat.reduceSub, Nat.reduceBEq, reduceIte, reduceCtorEq, Int.reduceEq, Int.reduceNe, Nat.reduceBneDiff, Int.reduceLE, Int.reduceLT, Int.reduceToNat, Int.reduceAdd, Int.reduceSub, Int.reduceMul, Int.reduceNeg, dw, hs, h1, h2, dw_get, hga, Int.toNat_natCast, e0]
      refine gcall_intro _ _ _ _ _ _ _ _ _ hc ?_
      simp -implicitDefEqProofs only [go_sem, Nat.reduceAdd, Nat.reduceMul, Nat.reduceEqDiff, Nat.reduceLT, Nat.reduceLeDiff, Nat.reduceSub, Nat.reduceBEq, reduceIte, reduceCtorEq, Int.reduceEq, Int.reduceNe, Nat.reduceBneDiff, Int.reduceLE, Int.reduceLT, Int.reduceToNat, Int.reduceAdd, Int.reduceSub, Int.reduceMul, Int.reduceNeg, h1, h2, List.length_map, hml, hgo, Int.toNat_natCast, w4]
      refine ⟨⟨i, by omega⟩, by simp only; omega, le_of (θ := [(102, 102)]) rfl ?_ ?_⟩
      · simp [varsLe, lkp, ren1, ren0, dw]
      · rw [set_fW, hset]
        simp [boxesLe, lkp, Box.renames]
end Go.Proofs.YtnpclmmmngmdkaaGreat

namespace Go.Proofs.YtnpclmmmngmdkaaGreat
open Go.Vl Go.RowKit Go.Dg

abbrev wB (E : List Nat) : Box := { els := E.map fW, esz := 1, ety := 137, fro := 0, live := true, arr := true }
theorem wtrimB_v (E : List Nat) (off n : Nat) (hn : off + n ≤ E.length) (hE : E.length ≤ maxLen) :
    SoundB Tryz.prog 98 [.bs 1000000 1 off n] [(1000000, wB E)] (.bs 1000000 1 off (trimZ ((E.drop off).take n)).length) [(1000000, wB E)] := by
  have hm := maxLen_lt
  refine soundB_go (tb := []) 21 [.tmp 2] [0, 2, 14] mixed Tryz.func98 rfl (by kernel_rfl) (by kernel_rfl) (by kernel_rfl) (by kernel_rfl) (by rfl) ?_
  simp -implicitDefEqProofs only [go_sem, Nat.reduceAdd, Nat.reduceMul, Nat.reduceEqDiff, Nat.reduceLT, Nat.reduceLeDiff, Nat.reduceSub, Nat.reduceBEq, reduceIte, reduceCtorEq, Int.reduceEq, Int.reduceNe, Nat.reduceBneDiff, Int.reduceLE, Int.reduceLT, Int.reduceToNat, Int.reduceAdd, Int.reduceSub, Int.reduceMul, Int.reduceNeg]
  refine g_loop mixed (fun k : { k : Nat // k ≤ n ∧ trimZ ((E.drop off).take k) = trimZ ((E.drop off).take n) } => St.of [(0, .bs 1000000 1 off k.1), (2, .nilS)] [(1000000, wB E)]) (fun k => k.1) ⟨n, Nat.le_refl _, rfl⟩ ?_ ?_
  · refine le_of (θ := [(1000000, 1000000)]) rfl ?_ ?_
    · simp [varsLe, lkp, ren1, ren0]
    · simp [boxesLe, lkp, Box.renames]
  · rintro ⟨k, hk, ht⟩
    cases k with
    | zero =>
      have h1 : ((0 : Int) < ((0 : Nat) : Int)) = False := by simp
      simp -implicitDefEqProofs only [go_sem, Nat.reduceAdd, Nat.reduceMul, Nat.reduceEqDiff, Nat.reduceLT, Nat.reduceLeDiff, Nat.reduceSub, Nat.reduceBEq, reduceIte, reduceCtorEq, Int.reduceEq, Int.reduceNe, Nat.reduceBneDiff, Int.reduceLE, Int.reduceLT, Int.reduceToNat, Int.reduceAdd, Int.reduceSub, Int.reduceMul, Int.reduceNeg, h1]
      rw [← ht]
      refine vretB_back (.inl rfl) ?_
      simp -implicitDefEqProofs only [go_sem, Nat.reduceAdd, Nat.reduceMul, Nat.reduceEqDiff, Nat.reduceLT, Nat.reduceLeDiff, Nat.reduceSub, Nat.reduceBEq, reduceIte, reduceCtorEq, Int.reduceEq, Int.reduceNe, Nat.reduceBneDiff, Int.reduceLE, Int.reduceLT, Int.reduceToNat, Int.reduceAdd, Int.reduceSub, Int.reduceMul, Int.reduceNeg]
      refine le_of (θ := [(1000000, 1000000)]) rfl ?_ ?_
      · simp [varsLe, lkp, ren1, ren0, trimZ]
      · simp [boxesLe, lkp, Box.renames]
    | succ k =>
      have h1 : ((0 : Int) < ((k + 1 : Nat) : Int)) = True := by simp
      have h2 : (0 ≤ (k : Int)) = True := by simp
      have hw := wrap_sub1 (n := k) (by omega)
      have hlt : off + k < E.length := by omega
      have hget : (E.map fW)[off + k]? = some (.int .u64 (E[off + k] : Int)) := by simp [hlt]
      have hcut : (E.drop off).take (k + 1) = (E.drop off).take k ++ [E[off + k]] := by
        rw [List.take_add_one, List.getElem?_drop, List.getElem?_eq_getElem hlt]; rfl
      have h4 : ((k : Int) < ((k + 1 : Nat) : Int)) = True := by simp; omega
      cases hd : ((E[off + k] : Int) == 0) with
      | true =>
        have hd0 : E[off + k] = 0 := by simpa using hd
        have h3 : ((k : Int) ≤ ((k + 1 : Nat) : Int)) = True := by simp; omega
        simp -implicitDefEqProofs only [go_sem, Nat.reduceAdd, Nat.reduceMul, Nat.reduceEqDiff, Nat.reduceLT, Nat.reduceLeDiff, Nat.reduceSub, Nat.reduceBEq, reduceIte, reduceCtorEq, Int.reduceEq, Int.reduceNe, Nat.reduceBneDiff, Int.reduceLE, Int.reduceLT, Int.reduceToNat, Int.reduceAdd, Int.reduceSub, Int.reduceMul, Int.reduceNeg, h1, h2, hw, hget, hd, Int.toNat_natCast, h3, h4, wB]
        refine ⟨⟨k, by omega, ?_⟩, by simp, ?_⟩
        · rw [← ht, hcut, hd0, trimZ_snoc_zero]
        · refine le_of (θ := [(1000000, 1000000)]) rfl ?_ ?_
          · simp [varsLe, lkp, ren1, ren0]
          · simp [boxesLe, lkp, Box.renames]
      | false =>
        have hd0 : E[off + k] ≠ 0 := by simpa using hd
        simp -implicitDefEqProofs only [go_sem, Nat.reduceAdd, Nat.reduceMul, Nat.reduceEqDiff, Nat.reduceLT, Nat.reduceLeDiff, Nat.reduceSub, Nat.reduceBEq, reduceIte, reduceCtorEq, Int.reduceEq, Int.reduceNe, Nat.reduceBneDiff, Int.reduceLE, Int.reduceLT, Int.reduceToNat, Int.reduceAdd, Int.reduceSub, Int.reduceMul, Int.reduceNeg, h1, h2, hw, hget, hd, Int.toNat_natCast, h4, wB]
        rw [← ht, hcut, trimZ_snoc _ hd0]
        refine vretB_back (.inl rfl) ?_
        simp -implicitDefEqProofs only [go_sem, Nat.reduceAdd, Nat.reduceMul, Nat.reduceEqDiff, Nat.reduceLT, Nat.reduceLeDiff, Nat.reduceSub, Nat.reduceBEq, reduceIte, reduceCtorEq, Int.reduceEq, Int.reduceNe, Nat.reduceBneDiff, Int.reduceLE, Int.reduceLT, Int.reduceToNat, Int.reduceAdd, Int.reduceSub, Int.reduceMul, Int.reduceNeg]
        refine le_of (θ := [(1000000, 1000000)]) rfl ?_ ?_
        · simp [varsLe, lkp, ren1, ren0]; omega
        · simp [boxesLe, lkp, Box.renames]
end Go.Proofs.YtnpclmmmngmdkaaGreat

namespace Go.Proofs.YtnpclmmmngmdkaaGreat
open Go.Vl Go.RowKit Go.Dg

theorem wsubB_v (E : List Nat) (off a b : Nat) (hba : b ≤ a) (hE : (E.drop off).take (digs BW a).length = digs BW a) (hEl : off + (digs BW a).length ≤ E.length) (ha : (digs BW a).length ≤ 1000000000) :
    SoundB Tryz.prog 117 [.bs 1000000 1 off (digs BW a).length, dw (digs BW b)] [(1000000, wB E)] (.bs 102 1 0 (digs BW (a - b)).length) [(1000000, wB E), (102, wB (lows BW (a - b) (digs BW a).length))] := by
  
  refine soundB_go (tb := [(1101, [(1000000, 102)], [])]) 41 [.tmp 4] [0, 1, 4, 5, 6, 7, 8, 13, 14, 15, 20] mixed Tryz.func117 rfl (by kernel_rfl) (by kernel_rfl) (by kernel_rfl) (by kernel_rfl) (by rfl) ?_
  have hn0 : ((0 : Int) ≤ ((digs BW a).length : Int)) = True := by simp
  have hn1 : ((8 : Nat) : Int) * ((digs BW a).length : Int) ≤ 281474976710656 := by omega
  have hn2 : ((digs BW a).length : Int) ≤ 9223372036854775807 := by omega
  simp -implicitDefEqProofs only [go_sem, Nat.reduceAdd, Nat.reduceMul, Nat.reduceEqDiff, Nat.reduceLT, Nat.reduceLeDiff, Nat.reduceSub, Nat.reduceBEq, reduceIte, reduceCtorEq, Int.reduceEq, Int.reduceNe, Nat.reduceBneDiff, Int.reduceLE, Int.reduceLT, Int.reduceToNat, Int.reduceAdd, Int.reduceSub, Int.reduceMul, Int.reduceNeg, dw, wB, List.length_map, hn0, hn1, hn2, Int.toNat_natCast]
  generalize hN : (digs BW a).length = N at *
  rw [mix_start (a - b) N]
  refine g_loop mixed (fun i : { i : Nat // i ≤ N } => St.of [(0, .bs 1000000 1 off N), (1, dw (digs BW b)), (4, .nilS), (5, .bs 102 1 0 N), (6, .int .u64 (bor BW a b i.1 : Int)), (13, .int .i64 (N : Int)), (14, .int .i64 (i.1 : Int))]
    [(1000000, wB E), (102, { els := (mix BW (a - b) 0 N i.1).map fW, esz := 1, ety := 137, fro := 0, live := true, arr := true })]) (fun i => N - i.1) ⟨0, Nat.zero_le _⟩ ?_ ?_
  · refine le_of (θ := [(1000000, 1000000), (102, 102)]) rfl ?_ ?_
    · simp [varsLe, lkp, ren1, ren0, dw, bor_zero]
    · simp [boxesLe, lkp, Box.renames]
  · rintro ⟨i, hi⟩
    have hml := mix_length (B := BW) (a - b) 0 N i
    by_cases hA : i < N
    · have hA' : ((i : Int) < (N : Int)) = True := by simp; omega
      have h0 : (0 ≤ (i : Int)) = True := by simp
      have hga := digs_get_lt BW_2 (show i < (digs BW a).length by omega)
      have hgE : (E.map fW)[off + i]? = some (PV.int .u64 ((a / BW ^ i % BW : Nat) : Int)) := by
        rw [List.getElem?_map, ← List.getElem?_drop, ← List.getElem?_take_of_lt (show i < N by omega), hE, hga]; rfl
      have hwk := wrap_add1 (a := i) (by omega)
      have hbl := bor_le (B := BW) a b i
      have hbl2 := bor_le (B := BW) a b (i + 1)
      have hst := sub_step BW_2 hba i
      have hx : a / BW ^ i % BW < BW := Nat.mod_lt _ (by decide)
      have hy : b / BW ^ i % BW < BW := Nat.mod_lt _ (by decide)
      have hz : (a - b) / BW ^ i % BW < BW := Nat.mod_lt _ (by decide)
      have hset := mix_set (B := BW) (V := a - b) (W := a - b) (S := 0) (n := N) (m := i) (d := (a - b) / BW ^ i % BW) (by decide) hA rfl rfl
      have hy0 : ¬ i < (digs BW b).length → b / BW ^ i % BW = 0 := fun h => by rw [digit_beyond BW_2 (Nat.le_of_not_lt h), Nat.zero_mod]
      have hgb : i < (digs BW b).length → (digs BW b)[i]? = some (b / BW ^ i % BW) := fun h => digs_get_lt BW_2 h
      obtain ⟨e, hgo⟩ : ∃ e : Nat, ((mix BW (a - b) 0 N i).map fW)[i]? = some (PV.int .u64 (e : Int)) := ⟨_, by rw [List.getElem?_map, mix_get _ _ _ _ _ hA]; rfl⟩
      generalize a / BW ^ i % BW = x at *
      generalize b / BW ^ i % BW = y at *
      generalize (a - b) / BW ^ i % BW = z at *
      have s1 : (x + 18446744073709551616 - y - bor BW a b i) % 18446744073709551616 = z := by simp only [BW] at *; omega
      have s2 : (if x < y + bor BW a b i then 1 else 0) = bor BW a b (i + 1) := by
        simp only [BW] at *
        split <;> omega
      have hc := sub64_v x y (bor BW a b i) hbl
      rw [s1, s2] at hc
      by_cases hB : i < (digs BW b).length
      · have hB' : ((i : Int) < ((digs BW b).length : Int)) = True := by simp; omega
        have hgb := hgb hB
        simp -implicitDefEqProofs only [go_sem, Nat.reduceAdd, Nat.reduceMul, Nat.reduceEqDiff, Nat.reduceLT, Nat.reduceLeDiff, Nat.reduceSub, Nat.reduceBEq, reduceIte, reduceCtorEq, Int.reduceEq, Int.reduceNe, Nat.reduceBneDiff, Int.reduceLE, Int.reduceLT, Int.reduceToNat, Int.reduceAdd, Int.reduceSub, Int.reduceMul, Int.reduceNeg, dw, List.length_map, hA', hB', h0, dw_get, hgE, wB, hgb, Int.toNat_natCast]
        refine gcall_intro _ _ _ _ _ _ _ _ _ hc ?_
        simp -implicitDefEqProofs only [go_sem, Nat.reduceAdd, Nat.reduceMul, Nat.reduceEqDiff, Nat.reduceLT, Nat.reduceLeDiff, Nat.reduceSub, Nat.reduceBEq, reduceIte, reduceCtorEq, Int.reduceEq, Int.reduceNe, Nat.reduceBneDiff, Int.reduceLE, Int.reduceLT, Int.reduceToNat, Int.reduceAdd, Int.reduceSub, Int.reduceMul, Int.reduceNeg, hA', h0, Int.toNat_natCast, hwk, hgo, List.length_map, hml]
        refine ⟨⟨i + 1, hA⟩, by simp only; omega, ?_⟩
        refine le_of (θ := [(1000000, 1000000), (102, 102)]) rfl ?_ ?_
        · simp [varsLe, lkp, ren1, ren0, dw]
        · rw [set_fW, hset]
          simp [boxesLe, lkp, Box.renames]
      · have hB' : ((i : Int) < ((digs BW b).length : Int)) = False := by simp; omega
        obtain rfl := hy0 hB
        simp -implicitDefEqProofs only [go_sem, Nat.reduceAdd, Nat.reduceMul, Nat.reduceEqDiff, Nat.reduceLT, Nat.reduceLeDiff, Nat.reduceSub, Nat.reduceBEq, reduceIte, reduceCtorEq, Int.reduceEq, Int.reduceNe, Nat.reduceBneDiff, Int.reduceLE, Int.reduceLT, Int.reduceToNat, Int.reduceAdd, Int.reduceSub, Int.reduceMul, Int.reduceNeg, dw, List.length_map, hA', hB', h0, dw_get, hgE, wB, Int.toNat_natCast]
        refine gcall_intro _ _ _ _ _ _ _ _ _ hc ?_
        simp -implicitDefEqProofs only [go_sem, Nat.reduceAdd, Nat.reduceMul, Nat.reduceEqDiff, Nat.reduceLT, Nat.reduceLeDiff, Nat.reduceSub, Nat.reduceBEq, reduceIte, reduceCtorEq, Int.reduceEq, Int.reduceNe, Nat.reduceBneDiff, Int.reduceLE, Int.reduceLT, Int.reduceToNat, Int.reduceAdd, Int.reduceSub, Int.reduceMul, Int.reduceNeg, hA', h0, Int.toNat_natCast, hwk, hgo, List.length_map, hml]
        refine ⟨⟨i + 1, hA⟩, by simp only; omega, ?_⟩
        refine le_of (θ := [(1000000, 1000000), (102, 102)]) rfl ?_ ?_
        · simp [varsLe, lkp, ren1, ren0, dw]
        · rw [set_fW, hset]
          simp [boxesLe, lkp, Box.renames]
    · have hA' : ((i : Int) < (N : Int)) = False := by simp; omega
      obtain rfl : i = N := by omega
      have hll := lows_length (B := BW) (a - b) i
      have hlt : a < BW ^ i := by rw [← hN]; exact lt_pow_len BW_2 a
      have hm : mix BW (a - b) 0 i i = lows BW (a - b) i := mix_all (by decide) (by rw [Nat.div_eq_of_lt (Nat.lt_of_le_of_lt (Nat.sub_le _ _) hlt), Nat.zero_div])
      have hq : trimZ (((lows BW (a - b) i).drop 0).take i) = digs BW (a - b) := by
        rw [List.drop_zero, List.take_of_length_le (by rw [hll]; exact Nat.le_refl _), trimZ_lows BW_2, Nat.mod_eq_of_lt (Nat.lt_of_le_of_lt (Nat.sub_le _ _) hlt)]
      have hc := wtrimB_v (lows BW (a - b) i) 0 i (by rw [hll]; omega) (by rw [hll]; simp [maxLen]; omega)
      rw [hq] at hc
      simp -implicitDefEqProofs only [go_sem, Nat.reduceAdd, Nat.reduceMul, Nat.reduceEqDiff, Nat.reduceLT, Nat.reduceLeDiff, Nat.reduceSub, Nat.reduceBEq, reduceIte, reduceCtorEq, Int.reduceEq, Int.reduceNe, Nat.reduceBneDiff, Int.reduceLE, Int.reduceLT, Int.reduceToNat, Int.reduceAdd, Int.reduceSub, Int.reduceMul, Int.reduceNeg, hA', wB, hm]
      refine gcallB_intro _ _ _ _ _ _ _ _ _ hc ?_
      simp -implicitDefEqProofs only [go_sem, Nat.reduceAdd, Nat.reduceMul, Nat.reduceEqDiff, Nat.reduceLT, Nat.reduceLeDiff, Nat.reduceSub, Nat.reduceBEq, reduceIte, reduceCtorEq, Int.reduceEq, Int.reduceNe, Nat.reduceBneDiff, Int.reduceLE, Int.reduceLT, Int.reduceToNat, Int.reduceAdd, Int.reduceSub, Int.reduceMul, Int.reduceNeg, wB]
      refine vretB_back (.inl rfl) ?_
      simp -implicitDefEqProofs only [go_sem, Nat.reduceAdd, Nat.reduceMul, Nat.reduceEqDiff, Nat.reduceLT, Nat.reduceLeDiff, Nat.reduceSub, Nat.reduceBEq, reduceIte, reduceCtorEq, Int.reduceEq, Int.reduceNe, Nat.reduceBneDiff, Int.reduceLE, Int.reduceLT, Int.reduceToNat, Int.reduceAdd, Int.reduceSub, Int.reduceMul, Int.reduceNeg]
      refine le_of (θ := [(1000000, 1000000), (102, 102)]) rfl ?_ ?_
      · simp [varsLe, lkp, ren1, ren0]
      · simp [boxesLe, lkp, Box.renames]
end Go.Proofs.YtnpclmmmngmdkaaGreat
