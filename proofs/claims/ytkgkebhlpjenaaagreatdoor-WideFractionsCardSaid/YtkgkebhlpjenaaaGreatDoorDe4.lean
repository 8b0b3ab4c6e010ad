/-
  De, De2, De3, ZW17, De4 (merged for the claim).
-/
import Derived.Test.YtkgkebhlpjenaaaGreatDoorUW
import Derived.Test.YtkgkebhlpjenaaaGreatDoorZW3
import Derived.Test.YtkgkebhlpjenaaaGreatDoorZW13
import Derived.Test.YtkgkebhlpjenaaaGreatDoorZW16
set_option linter.unusedSimpArgs false
set_option linter.unusedVariables false
namespace Go.Dg

theorem WB_split (r : Nat) (hr : r ≤ 64) : WB = 2 ^ r * 2 ^ (64 - r) := by
  rw [← Nat.pow_add, show r + (64 - r) = 64 by omega]
theorem mul_pow_mod (x r : Nat) (hr : r ≤ 64) : x * 2 ^ r % WB = 2 ^ r * (x % 2 ^ (64 - r)) := by
  rw [WB_split r hr, Nat.mul_comm x, Nat.mul_mod_mul_left]
/-- A word moved up, put to what has come from below. -/
theorem shl_digit (x c r : Nat) (hr : r ≤ 64) (hc : c < 2 ^ r) : (c ||| (x * 2 ^ r % WB)) = (c + x * 2 ^ r) % WB ∧ (c + x * 2 ^ r) / WB = x / 2 ^ (64 - r) := by
  have e1 := mul_pow_mod x r hr
  have e2 : (x * 2 ^ r) / WB = x / 2 ^ (64 - r) := by
    rw [WB_split r hr, Nat.mul_comm x, Nat.mul_div_mul_left _ _ (Nat.pow_pos (by decide))]
  have hlt : 2 ^ r * (x % 2 ^ (64 - r)) + c < WB := by
    have h1 : x % 2 ^ (64 - r) < 2 ^ (64 - r) := Nat.mod_lt _ (Nat.pow_pos (by decide))
    rw [WB_split r hr]
    have : 2 ^ r * (x % 2 ^ (64 - r)) + 2 ^ r ≤ 2 ^ r * 2 ^ (64 - r) := by
      rw [← Nat.mul_succ]; exact Nat.mul_le_mul_left _ h1
    omega
  have e3 : c + x * 2 ^ r = WB * (x / 2 ^ (64 - r)) + (2 ^ r * (x % 2 ^ (64 - r)) + c) := by
    have := Nat.div_add_mod (x * 2 ^ r) WB
    rw [e1, e2] at this
    omega
  constructor
  · rw [e1, e3, Nat.mul_add_mod, Nat.mod_eq_of_lt hlt, Nat.or_comm, Nat.two_pow_add_eq_or_of_lt hc]
  · rw [e3, Nat.mul_add_div (by decide), Nat.div_eq_of_lt hlt, Nat.add_zero]

/-- The value behind i words that have been moved up by w words and r bits. -/
def shlV (a w r i : Nat) : Nat := a % WB ^ i * 2 ^ r * WB ^ w
def shlC (a r i : Nat) : Nat := a % WB ^ i * 2 ^ r / WB ^ i
theorem shlC_lt (a r i : Nat) : shlC a r i < 2 ^ r := by
  rw [shlC, Nat.div_lt_iff_lt_mul (Nat.pow_pos (by decide)), Nat.mul_comm]
  exact Nat.mul_lt_mul_of_pos_left (Nat.mod_lt _ (Nat.pow_pos (by decide))) (Nat.pow_pos (by decide))
theorem WBp (i : Nat) : 0 < WB ^ i := Nat.pow_pos (by decide)
theorem shlV_div (a w r i : Nat) : shlV a w r i / WB ^ (i + w) = shlC a r i := by
  rw [shlV, shlC, Nat.add_comm i w, Nat.pow_add, ← Nat.div_div_eq_div_mul, Nat.mul_div_cancel _ (WBp w)]
theorem shlV_next (a w r i : Nat) : shlV a w r (i + 1) = shlV a w r i + a / WB ^ i % WB * 2 ^ r * WB ^ (i + w) := by
  rw [shlV, shlV, Nat.pow_succ, Nat.mod_mul, Nat.add_mul, Nat.add_mul, Nat.pow_add]
  congr 1
  simp only [Nat.mul_assoc, Nat.mul_comm, Nat.mul_left_comm]
theorem shlV_nextdiv (a w r i : Nat) : shlV a w r (i + 1) / WB ^ (i + w) = shlC a r i + a / WB ^ i % WB * 2 ^ r := by
  rw [shlV_next, Nat.add_mul_div_right _ _ (WBp _), shlV_div]
theorem shlV_low (a w r i : Nat) : shlV a w r i % WB ^ (i + w) = shlV a w r (i + 1) % WB ^ (i + w) := by
  rw [shlV_next, Nat.add_mul_mod_self_right]
theorem shlV_zero (a w r : Nat) : shlV a w r 0 = 0 := by simp [shlV, Nat.mod_one]
theorem shlV_done (a w r i : Nat) (h : a < WB ^ i) : shlV a w r i = a * 2 ^ (64 * w + r) := by
  rw [shlV, Nat.mod_eq_of_lt h, Nat.pow_add, Nat.pow_mul, show (2 : Nat) ^ 64 = WB from rfl]
  simp only [Nat.mul_assoc, Nat.mul_comm, Nat.mul_left_comm]
theorem mix_self (B V n m : Nat) : mix B V V n m = lows B V n := by
  apply List.map_congr_left
  intro j _
  split <;> rfl
theorem mix_lows (B V S n m : Nat) (hB : 0 < B) (h : V % B ^ m = S % B ^ m) : mix B V S n m = lows B S n := by
  apply List.map_congr_left
  intro j _
  split
  · rename_i hj; exact low_digit hB h hj
  · rfl
/-- One word of the list becomes that of the next value (nothing goes up). -/
theorem lows_set1 {V W n j d : Nat} (hj : j < n) (h : V % WB ^ j = W % WB ^ j) (hd : W / WB ^ j % WB = d) (hu : W / WB ^ (j + 1) = V / WB ^ (j + 1)) : (lows WB V n).set j d = lows WB W n := by
  rw [← mix_lows WB W V n j (by decide) h.symm, mix_set (V := W) (W := W) (by decide) hj rfl hd, mix_all (by decide) hu]
/-- Two words. -/
theorem lows_set2 {V W n j d e : Nat} (hj : j + 1 < n) (h : V % WB ^ j = W % WB ^ j) (hd : W / WB ^ j % WB = d) (he : W / WB ^ (j + 1) % WB = e) (hu : W / WB ^ (j + 1 + 1) = V / WB ^ (j + 1 + 1)) :
    ((lows WB V n).set j d).set (j + 1) e = lows WB W n := by
  rw [← mix_lows WB W V n j (by decide) h.symm, mix_set (V := W) (W := W) (by decide) (by omega) rfl hd, mix_set (V := W) (W := W) (by decide) hj rfl he, mix_all (by decide) hu]
theorem shl_set1 (a w i n : Nat) (hj : i + w < n) :
    (lows WB (shlV a w 0 i) n).set (i + w) (a / WB ^ i % WB) = lows WB (shlV a w 0 (i + 1)) n := by
  have hc : shlC a 0 i = 0 := by have := shlC_lt a 0 i; simp at this; exact this
  have h2 := shlV_nextdiv a w 0 i
  rw [hc, Nat.pow_zero, Nat.mul_one, Nat.zero_add] at h2
  have h1 := shlV_div a w 0 i
  rw [hc] at h1
  refine lows_set1 hj (shlV_low a w 0 i) (by rw [h2, Nat.mod_mod]) ?_
  rw [Nat.pow_succ, ← Nat.div_div_eq_div_mul, ← Nat.div_div_eq_div_mul, h1, h2, Nat.zero_div, Nat.div_eq_of_lt (Nat.mod_lt _ (by decide))]
theorem shl_set2 (a w r i n : Nat) (hr : r ≤ 64) (hj : i + w + 1 < n) :
    ((lows WB (shlV a w r i) n).set (i + w) (shlC a r i ||| (a / WB ^ i % WB * 2 ^ r % WB))).set (i + w + 1) (a / WB ^ i % WB / 2 ^ (64 - r)) = lows WB (shlV a w r (i + 1)) n := by
  have hc := shlC_lt a r i
  have h2 := shlV_nextdiv a w r i
  have h1 := shlV_div a w r i
  obtain ⟨e1, e2⟩ := shl_digit (a / WB ^ i % WB) (shlC a r i) r hr hc
  have hx : a / WB ^ i % WB < WB := Nat.mod_lt _ (by decide)
  have hx2 : a / WB ^ i % WB / 2 ^ (64 - r) < WB := Nat.lt_of_le_of_lt (Nat.div_le_self _ _) hx
  have hc2 : shlC a r i < WB := Nat.lt_of_lt_of_le hc (Nat.pow_le_pow_right (n := 2) (by decide) hr)
  rw [e1]
  refine lows_set2 hj (shlV_low a w r i) (by rw [h2]) ?_ ?_
  · rw [Nat.pow_succ, ← Nat.div_div_eq_div_mul, h2, e2, Nat.mod_eq_of_lt hx2]
  · rw [Nat.pow_succ, Nat.pow_succ, ← Nat.div_div_eq_div_mul, ← Nat.div_div_eq_div_mul, ← Nat.div_div_eq_div_mul, ← Nat.div_div_eq_div_mul, h1, h2, e2, Nat.div_eq_of_lt hx2, Nat.div_eq_of_lt hc2, Nat.zero_div]

/-- A word moved down, with what comes from above. -/
theorem shr_digit (A i r : Nat) (h0 : 0 < r) (hr : r < 64) : ((A / WB ^ i % WB / 2 ^ r) ||| (A / WB ^ (i + 1) % WB * 2 ^ (64 - r) % WB)) = A / 2 ^ r / WB ^ i % WB := by
  have e0 : A / WB ^ (i + 1) = A / WB ^ i / WB := by rw [Nat.pow_succ, Nat.div_div_eq_div_mul]
  have e1 : A / 2 ^ r / WB ^ i = A / WB ^ i / 2 ^ r := by rw [Nat.div_div_eq_div_mul, Nat.div_div_eq_div_mul, Nat.mul_comm]
  rw [e0, e1]
  generalize A / WB ^ i = X
  have hlt : X % WB / 2 ^ r < 2 ^ (64 - r) := by
    rw [Nat.div_lt_iff_lt_mul (Nat.pow_pos (by decide)), Nat.mul_comm, ← WB_split r (by omega)]
    exact Nat.mod_lt _ (by decide)
  obtain ⟨s1, _⟩ := shl_digit (X / WB % WB) (X % WB / 2 ^ r) (64 - r) (by omega) hlt
  rw [s1]
  have hX : X = WB * (X / WB) + X % WB := (Nat.div_add_mod X WB).symm
  have hS := WB_split r (by omega)
  have e2 : X / 2 ^ r = 2 ^ (64 - r) * (X / WB) + X % WB / 2 ^ r := by
    conv => lhs; rw [hX, hS, Nat.mul_assoc]
    rw [Nat.mul_add_div (Nat.pow_pos (by decide)), ← hS]
  rw [e2, Nat.mul_comm (2 ^ (64 - r)) (X / WB), Nat.add_comm]
  have hm : (X / WB % WB) * 2 ^ (64 - r) % WB = X / WB * 2 ^ (64 - r) % WB := by rw [Nat.mod_mul_mod]
  rw [Nat.add_mod, hm, ← Nat.add_mod]
theorem shr_top (A i r : Nat) (h : A / WB ^ (i + 1) = 0) : A / WB ^ i % WB / 2 ^ r = A / 2 ^ r / WB ^ i % WB := by
  have e1 : A / 2 ^ r / WB ^ i = A / WB ^ i / 2 ^ r := by rw [Nat.div_div_eq_div_mul, Nat.div_div_eq_div_mul, Nat.mul_comm]
  have hlt : A / WB ^ i < WB := by
    rw [Nat.pow_succ, ← Nat.div_div_eq_div_mul] at h
    exact (Nat.div_eq_zero_iff_lt (by decide)).1 h
  rw [e1, Nat.mod_eq_of_lt hlt, Nat.mod_eq_of_lt (Nat.lt_of_le_of_lt (Nat.div_le_self _ _) hlt)]

/-! ### a half of a division by a word: Knuth's digit -/
section
variable {y1 y0 u d q r : Nat}
/-- What is known of a guess: it is not too small, and u is parted by it. -/
structure Guess (y1 y0 u d q r : Nat) : Prop where
  part : q * y1 + r = u
  big : (u * 4294967296 + d) / (y1 * 4294967296 + y0) ≤ q
theorem guess_first (hy1 : 2147483648 ≤ y1) (hu : u < y1 * 4294967296 + y0) (hd : d < 4294967296) : Guess y1 y0 u d (u / y1) (u % y1) := by
  refine ⟨by rw [Nat.mul_comm]; exact Nat.div_add_mod u y1, ?_⟩
  have h1 : (u * 4294967296 + d) / (y1 * 4294967296 + y0) ≤ (u * 4294967296 + d) / (y1 * 4294967296) := Nat.div_le_div_left (by omega) (by omega)
  have h2 : (u * 4294967296 + d) / (y1 * 4294967296) = u / y1 := by
    rw [Nat.mul_comm y1, ← Nat.div_div_eq_div_mul]; congr 1; omega
  omega
theorem guess_more (h : Guess y1 y0 u d q r) : (r * 4294967296 + d < q * y0 ↔ u * 4294967296 + d < q * (y1 * 4294967296 + y0)) := by
  have e : q * (y1 * 4294967296 + y0) = q * y1 * 4294967296 + q * y0 := by rw [Nat.mul_add, Nat.mul_assoc]
  have := h.part
  rw [e]
  omega
theorem guess_next (h : Guess y1 y0 u d q r) (hy : 0 < y1 * 4294967296 + y0) (hq : (u * 4294967296 + d) < q * (y1 * 4294967296 + y0)) : 0 < q ∧ Guess y1 y0 u d (q - 1) (r + y1) := by
  have hq0 : 0 < q := by
    rcases Nat.eq_zero_or_pos q with rfl | h
    · omega
    · exact h
  refine ⟨hq0, ?_, ?_⟩
  · obtain ⟨p, rfl⟩ : ∃ p, q = p + 1 := ⟨q - 1, by omega⟩
    have := h.part
    rw [Nat.add_mul] at this
    simp only [Nat.add_sub_cancel]
    omega
  · have := (Nat.div_lt_iff_lt_mul hy).2 hq
    omega
theorem guess_done (h : Guess y1 y0 u d q r) (hy : 0 < y1 * 4294967296 + y0) (hq : q * (y1 * 4294967296 + y0) ≤ u * 4294967296 + d) : q = (u * 4294967296 + d) / (y1 * 4294967296 + y0) :=
  Nat.le_antisymm ((Nat.le_div_iff_mul_le hy).2 hq) h.big
theorem guess_small (hu : u < y1 * 4294967296 + y0) (h : Guess y1 y0 u d q r) (hq : 4294967296 ≤ q) : r < y0 ∧ r < 4294967296 + y0 := by
  have h1 := Nat.mul_le_mul_right y1 hq
  have h2 := h.part
  omega
theorem quot_small (hu : u < y1 * 4294967296 + y0) (hd : d < 4294967296) : (u * 4294967296 + d) / (y1 * 4294967296 + y0) < 4294967296 := by
  have : 0 < y1 * 4294967296 + y0 := by omega
  rw [Nat.div_lt_iff_lt_mul this]
  omega
end

end Go.Dg

namespace Go.Dg

section
variable {B : Nat}
/-- The remainder goes on with one more digit. -/
theorem dv_digit (hB : 0 < B) (R D j : Nat) (hD : 0 < D) : R % (D * B ^ (j + 1)) / B ^ j / D = R / D / B ^ j % B := by
  rw [Nat.div_div_eq_div_mul, Nat.div_div_eq_div_mul, Nat.mul_comm (B ^ j) D, Nat.pow_succ, ← Nat.mul_assoc, Nat.mod_mul_right_div_self]
theorem dv_next (R D j : Nat) : R % (D * B ^ (j + 1)) % (D * B ^ j) = R % (D * B ^ j) := by
  rw [Nat.pow_succ, ← Nat.mul_assoc, Nat.mod_mul_right_mod]
theorem dv_left (hB : 0 < B) (S D j : Nat) (hD : 0 < D) : S - D * B ^ j * (S / B ^ j / D) = S % (D * B ^ j) := by
  rw [Nat.div_div_eq_div_mul, Nat.mul_comm (B ^ j) D]
  have := Nat.div_add_mod S (D * B ^ j)
  omega
/-- The remainder, as its upper part and the rest. -/
theorem dv_upper (hB : 0 < B) (S D j : Nat) (hD : 0 < D) : S % (D * B ^ j) / B ^ j = S / B ^ j % D := by
  rw [Nat.mul_comm, Nat.mod_mul_right_div_self]
theorem dv_lower (hB : 0 < B) (S D j : Nat) : S % (D * B ^ j) % B ^ j = S % B ^ j := by
  rw [Nat.mul_comm, Nat.mod_mul_right_mod]
/-- A guess off the first digits is not too small. -/
theorem guess_over (hB : 0 < B) (W d k : Nat) (ht : 0 < d / B ^ k) : W / d ≤ W / B ^ k / (d / B ^ k) := by
  have h1 : d / B ^ k * B ^ k ≤ d := Nat.div_mul_le_self d (B ^ k)
  have h2 : W / d ≤ W / (B ^ k * (d / B ^ k)) := Nat.div_le_div_left (by rw [Nat.mul_comm]; exact h1) (Nat.mul_pos (Nat.pow_pos hB) ht)
  rwa [← Nat.div_div_eq_div_mul] at h2
theorem two_top (hB : 0 < B) (W k : Nat) : W / B ^ k = W / B ^ (k + 1) * B + W / B ^ k % B := by
  have := div_up hB W k
  rw [Nat.mul_comm] at this
  exact this
/-- A part of the list written anew. -/
theorem lows_over (hB : 0 < B) {V W n j : Nat} {x : List Nat} (hj : j + x.length ≤ n) (h : V % B ^ j = W % B ^ j) (hx : x = lows B (W / B ^ j) x.length) (hu : W / B ^ (j + x.length) = V / B ^ (j + x.length)) :
    (lows B V n).take j ++ x ++ (lows B V n).drop (j + x.length) = lows B W n := by
  apply List.ext_getElem?
  intro i
  by_cases h1 : i < n
  · rw [lows_get _ _ _ h1]
    by_cases h2 : i < j
    · rw [List.append_assoc, List.getElem?_append_left (by simp [lows_length]; omega), List.getElem?_take_of_lt h2, lows_get _ _ _ h1, low_digit hB h h2]
    · by_cases h3 : i < j + x.length
      · rw [List.append_assoc, List.getElem?_append_right (by simp [lows_length]; omega), List.getElem?_append_left (by simp [lows_length]; omega)]
        have e : i - ((lows B V n).take j).length = i - j := by simp [lows_length]; omega
        rw [e, hx, lows_get _ _ _ (by omega), Nat.div_div_eq_div_mul, ← Nat.pow_add, show j + (i - j) = i by omega]
      · rw [List.getElem?_append_right (by simp [lows_length]; omega), List.getElem?_drop]
        have e : j + x.length + (i - ((lows B V n).take j ++ x).length) = i := by simp [lows_length]; omega
        rw [e, lows_get _ _ _ h1]
        have e2 : i = (j + x.length) + (i - (j + x.length)) := by omega
        rw [e2, Nat.pow_add, ← Nat.div_div_eq_div_mul, ← Nat.div_div_eq_div_mul, hu]
  · rw [List.getElem?_eq_none (by simp [lows_length]; omega), List.getElem?_eq_none (by rw [lows_length]; omega)]
end
theorem digs_lows_pad (hB : 2 ≤ 18446744073709551616) (n i : Nat) (h : (digs WB n).length ≤ i) : digs WB n ++ List.replicate (i - (digs WB n).length) 0 = lows WB n i := by
  apply List.ext_getElem?
  intro k
  by_cases h1 : k < i
  · rw [lows_get _ _ _ h1]
    by_cases h2 : k < (digs WB n).length
    · rw [List.getElem?_append_left h2, digs_get_lt hB h2]
    · rw [List.getElem?_append_right (by omega), digit_beyond hB (Nat.le_of_not_lt h2), Nat.zero_mod, List.getElem?_replicate, if_pos (by omega)]
  · rw [List.getElem?_eq_none (by simp; omega), List.getElem?_eq_none (by rw [lows_length]; omega)]
theorem lows_window (B V n j k : Nat) (h : j + k ≤ n) : ((lows B V n).drop j).take k = lows B (V / B ^ j) k := by
  apply List.ext_getElem?
  intro i
  by_cases h1 : i < k
  · rw [List.getElem?_take_of_lt h1, List.getElem?_drop, lows_get _ _ _ (by omega), lows_get _ _ _ h1, Nat.div_div_eq_div_mul, ← Nat.pow_add]
  · rw [List.getElem?_eq_none (by simp; omega), List.getElem?_eq_none (by rw [lows_length]; omega)]
end Go.Dg

namespace Go.Dg

abbrev H32 : Nat := 4294967296
section
variable {y u d q r : Nat}
/-- What a loop of Div64 knows. -/
structure Kn (y u d q r : Nat) : Prop where
  g : Guess (y / 4294967296) (y % 4294967296) u d q r
  small : r < 4294967296
theorem y_parts (y : Nat) : y / 4294967296 * 4294967296 + y % 4294967296 = y := by omega
theorem kn_first (h1 : 9223372036854775808 ≤ y) (h2 : y < 18446744073709551616) (hu : u < y) (hd : d < 4294967296) : Kn y u d (u / (y / 4294967296)) (u % (y / 4294967296)) := by
  refine ⟨guess_first (by omega) (by omega) hd, ?_⟩
  have := Nat.mod_lt u (show 0 < y / 4294967296 by omega)
  omega
theorem kn_q (h1 : 9223372036854775808 ≤ y) (h2 : y < 18446744073709551616) (hu : u < y) (h : Kn y u d q r) : q ≤ 4294967297 := by
  rcases Nat.lt_or_ge q 4294967298 with h' | h'
  · omega
  · have h3 := h.g.part
    have h4 := Nat.mul_le_mul_right (y / 4294967296) h'
    omega
/-- The test of the loop. -/
theorem kn_test (h : Kn y u d q r) : (r * 4294967296 + d < q * (y % 4294967296)) ↔ u * 4294967296 + d < q * y := by
  have := guess_more h.g
  rwa [y_parts] at this
theorem kn_big (hu : u < y) (hd : d < 4294967296) (hq : 4294967296 ≤ q) : u * 4294967296 + d < q * y := by
  have := Nat.mul_le_mul_right y hq
  omega
/-- One round. -/
theorem kn_next (h1 : 9223372036854775808 ≤ y) (hu : u < y) (h : Kn y u d q r) (hq : u * 4294967296 + d < q * y) : 0 < q ∧ Guess (y / 4294967296) (y % 4294967296) u d (q - 1) (r + y / 4294967296) := by
  have := guess_next h.g (by rw [y_parts]; omega) (by rw [y_parts]; exact hq)
  exact this
theorem kn_break (h1 : 9223372036854775808 ≤ y) (hu : u < y) (hd : d < 4294967296) (h : Guess (y / 4294967296) (y % 4294967296) u d q r) (hr : 4294967296 ≤ r) : q = (u * 4294967296 + d) / y := by
  have hlt : q < 4294967296 := by
    rcases Nat.lt_or_ge q 4294967296 with h' | h'
    · exact h'
    · have := (guess_small (by rw [y_parts]; exact hu) h h').1
      omega
  have := guess_done h (by rw [y_parts]; omega) (by
    have h3 : ¬ (r * 4294967296 + d < q * (y % 4294967296)) := by
      have : q * (y % 4294967296) ≤ 4294967295 * 4294967295 := Nat.mul_le_mul (by omega) (by omega)
      omega
    rw [guess_more h] at h3
    omega)
  rwa [y_parts] at this
theorem kn_done (h1 : 9223372036854775808 ≤ y) (h : Kn y u d q r) (hq : ¬ u * 4294967296 + d < q * y) : q = (u * 4294967296 + d) / y := by
  have := guess_done h.g (by rw [y_parts]; omega) (by rw [y_parts]; omega)
  rwa [y_parts] at this
theorem kn_quot (hu : u < y) (hd : d < 4294967296) : (u * 4294967296 + d) / y < 4294967296 := by
  have := quot_small (y1 := y / 4294967296) (y0 := y % 4294967296) (by rw [y_parts]; exact hu) hd
  rwa [y_parts] at this
/-- What is left, in words. -/
theorem kn_left (h2 : y < 18446744073709551616) (hu : u < y) : (u * 4294967296 + d + 18446744073709551616 * 18446744073709551616 - (u * 4294967296 + d) / y * y) % 18446744073709551616 = (u * 4294967296 + d) % y := by
  have h3 := Nat.div_add_mod (u * 4294967296 + d) y
  have h4 := Nat.mod_lt (u * 4294967296 + d) (show 0 < y by omega)
  rw [Nat.mul_comm] at h3
  generalize (u * 4294967296 + d) / y * y = P at *
  omega
end

/-- The whole: two halves, one after the other, of numbers that have been moved up. -/
theorem div_halves {hi lo y s : Nat} (hs : s ≤ 64) (hlo : lo < 18446744073709551616) (hhi : hi < y) (hy : 0 < y) :
    let Y := y * 2 ^ s
    let u := hi * 2 ^ s + lo / 2 ^ (64 - s)
    let t := lo * 2 ^ s % 18446744073709551616
    let a := u * 4294967296 + t / 4294967296
    let b := a % Y * 4294967296 + t % 4294967296
    a / Y * 4294967296 + b / Y = (hi * 18446744073709551616 + lo) / y ∧ b % Y / 2 ^ s = (hi * 18446744073709551616 + lo) % y := by
  intro Y u t a b
  have hp : 0 < 2 ^ s := Nat.pow_pos (by decide)
  have hY : 0 < Y := Nat.mul_pos hy hp
  have e1 : (hi * 18446744073709551616 + lo) * 2 ^ s = u * 18446744073709551616 + t := by
    have hd : lo * 2 ^ s / 18446744073709551616 = lo / 2 ^ (64 - s) := by
      have := WB_split s hs
      simp only [WB] at this
      rw [this, Nat.mul_comm lo, Nat.mul_div_mul_left _ _ hp]
    have := Nat.div_add_mod (lo * 2 ^ s) 18446744073709551616
    rw [hd] at this
    simp only [u, t]
    rw [Nat.add_mul, Nat.mul_right_comm]
    generalize hi * 2 ^ s = p at *
    omega
  have e2 : (hi * 18446744073709551616 + lo) * 2 ^ s = a * 4294967296 + t % 4294967296 := by
    rw [e1]; simp only [a]; omega
  have e3 : (hi * 18446744073709551616 + lo) * 2 ^ s = Y * (a / Y * 4294967296 + b / Y) + b % Y := by
    have h3 := Nat.div_add_mod a Y
    have h4 := Nat.div_add_mod b Y
    rw [e2, Nat.mul_add, ← Nat.mul_assoc]
    simp only [b] at h4 ⊢
    omega
  have hb : b % Y < Y := Nat.mod_lt _ hY
  have e4 : (hi * 18446744073709551616 + lo) * 2 ^ s / Y = a / Y * 4294967296 + b / Y := by
    rw [e3, Nat.mul_add_div hY, Nat.div_eq_of_lt hb, Nat.add_zero]
  have e5 : (hi * 18446744073709551616 + lo) * 2 ^ s % Y = b % Y := by
    rw [e3, Nat.mul_add_mod, Nat.mod_eq_of_lt hb]
  constructor
  · rw [← e4]; exact Nat.mul_div_mul_right _ _ hp
  · rw [← e5, Nat.mul_mod_mul_right, Nat.mul_div_cancel _ hp]
end Go.Dg

namespace Go.Proofs.YtkgkebhlpjenaaaGreatDoor
open Go.Vl Go.RowKit Go.Dg

theorem tdivN (a b : Nat) : Int.tdiv (a : Int) (b : Int) = ((a / b : Nat) : Int) := rfl
theorem tmodN (a b : Nat) : Int.tmod (a : Int) (b : Int) = ((a % b : Nat) : Int) := rfl
theorem blen_lt (y : Nat) : y < 2 ^ blen y := by
  rcases Nat.lt_or_ge y (2 ^ blen y) with h | h
  · exact h
  · have := blen_gt _ _ h; omega
theorem blen_ge {y : Nat} (h : 0 < y) : 2 ^ (blen y - 1) ≤ y ∧ 0 < blen y := by
  have h0 : 0 < blen y := blen_gt 0 y (by rw [Nat.pow_zero]; omega)
  refine ⟨?_, h0⟩
  rcases Nat.lt_or_ge y (2 ^ (blen y - 1)) with h1 | h1
  · have := blen_le _ _ h1; omega
  · exact h1
attribute [local go_sem high] b_oru
theorem u64_wrapI (n : Int) : IntKind.u64.wrap n = n % 18446744073709551616 := by simp [IntKind.wrap, IntKind.bits, IntKind.signed]
theorem u64_small {n : Nat} (h : n < 18446744073709551616) : IntKind.u64.wrap (n : Int) = n := by rw [u64_wrap, Nat.mod_eq_of_lt h]
theorem u64_rem (u y : Nat) (h : u < 18446744073709551616) : IntKind.u64.wrap ((u : Int) - IntKind.u64.wrap (((u / y : Nat) : Int) * (y : Int))) = ((u % y : Nat) : Int) := by
  have h := Nat.div_add_mod u y
  rw [← Int.natCast_mul, Nat.mul_comm (u / _)]
  generalize y * (u / y) = p at *
  generalize u % y = r at *
  rw [u64_wrapI, u64_wrapI]; omega
theorem u64_left (u d Y : Nat) (hY : 0 < Y) (h2 : Y < 18446744073709551616) : IntKind.u64.wrap (IntKind.u64.wrap (IntKind.u64.wrap ((u : Int) * 4294967296) + (d : Int)) - IntKind.u64.wrap ((((u * 4294967296 + d) / Y : Nat) : Int) * (Y : Int))) = (((u * 4294967296 + d) % Y : Nat) : Int) := by
  have h := Nat.div_add_mod (u * 4294967296 + d) Y
  have hm := Nat.mod_lt (u * 4294967296 + d) hY
  rw [← Int.natCast_mul, Nat.mul_comm ((u * 4294967296 + d) / Y)]
  generalize Y * ((u * 4294967296 + d) / Y) = p at *
  generalize (u * 4294967296 + d) % Y = r at *
  rw [u64_wrapI, u64_wrapI, u64_wrapI, u64_wrapI]; omega
theorem u64_both {p q : Nat} (hp : p < 4294967296) (hq : q < 4294967296) : IntKind.u64.wrap (IntKind.u64.wrap ((p : Int) * 4294967296) + (q : Int)) = ((p * 4294967296 + q : Nat) : Int) := by
  rw [u64_wrapI, u64_wrapI]; omega
theorem u64_prod {p q : Nat} (hp : p < 4294967296) (hq : q < 4294967296) : IntKind.u64.wrap ((p : Int) * (q : Int)) = ((p * q : Nat) : Int) := by
  have : p * q ≤ 4294967295 * 4294967295 := Nat.mul_le_mul (by omega) (by omega)
  rw [← Int.natCast_mul, u64_wrapI]
  generalize p * q = n at *
  omega
theorem u64_l32 {r : Nat} (hr : r < 4294967296) : IntKind.u64.wrap (4294967296 * (r : Int)) = ((r * 4294967296 : Nat) : Int) := by rw [u64_wrapI]; omega
theorem u64_l32d {r d : Nat} (hr : r < 4294967296) (hd : d < 4294967296) : IntKind.u64.wrap (((r * 4294967296 : Nat) : Int) + (d : Int)) = ((r * 4294967296 + d : Nat) : Int) := by rw [u64_wrapI]; omega
theorem u64_dec {q : Nat} (h0 : 0 < q) (h : q ≤ 4294967297) : IntKind.u64.wrap ((q : Int) - 1) = ((q - 1 : Nat) : Int) := by rw [u64_wrapI]; omega
theorem u64_inc {r y : Nat} (h0 : r < 4294967296) (h : y < 4294967296) : IntKind.u64.wrap ((r : Int) + (y : Int)) = ((r + y : Nat) : Int) := by rw [u64_wrapI]; omega
theorem m32 : (2 : Nat) ^ min 32 64 = 4294967296 := rfl
set_option maxHeartbeats 2000000 in
theorem div64_v (hi lo y : Nat) (hy : hi < y) (hyl : y < 18446744073709551616) (hlo : lo < 18446744073709551616) : SoundAt Tryz.prog 106 [.int .u64 (hi : Int), .int .u64 (lo : Int), .int .u64 (y : Int)] (.tup [.int .u64 (((hi * 18446744073709551616 + lo) / y : Nat) : Int), .int .u64 (((hi * 18446744073709551616 + lo) % y : Nat) : Int)]) := by
  have g1 : (((y : Nat) : Int) == 0) = false := by simp only [beq_eq_false_iff_ne, ne_eq]; omega
  have g2 : (((y : Nat) : Int) ≤ ((hi : Nat) : Int)) = False := by simp only [eq_iff_iff, iff_false]; omega
  have g3 : (((y : Nat) : Int) = 0) = False := by simp only [eq_iff_iff, iff_false]; omega
  by_cases h0 : hi = 0
  · subst h0
    have g4 : ((((0 : Nat) : Nat) : Int) == 0) = true := rfl
    have g5 : IntKind.u64.wrap (((lo / y : Nat) : Int)) = ((lo / y : Nat) : Int) := by rw [u64_wrap, Nat.mod_eq_of_lt (Nat.lt_of_le_of_lt (Nat.div_le_self _ _) hlo)]
    rw [Nat.zero_mul, Nat.zero_add]
    refine sound_go (tb := []) 135 [.tmp 6, .tmp 7] [0, 1, 2, 6, 7, 8, 9, 10, 11, 12, 13, 14, 15, 16, 17, 18, 20, 24, 27, 78, 85, 113, 120] mixed Tryz.func106 rfl (by kernel_rfl) (by kernel_rfl) (by kernel_rfl) (by kernel_rfl) ?_
    simp -implicitDefEqProofs only [go_sem, Nat.reduceAdd, Nat.reduceMul, Nat.reduceEqDiff, Nat.reduceLT, Nat.reduceLeDiff, Nat.reduceSub, Nat.reduceBEq, reduceIte, reduceCtorEq, Int.reduceEq, Int.reduceNe, Nat.reduceBneDiff, Int.reduceLE, Int.reduceLT, Int.reduceToNat, Int.reduceAdd, Int.reduceSub, Int.reduceMul, Int.reduceNeg, T_ok3, T_agg3, T_isinfo3, T_info3, T_cells3, T_zero3, T_int3, T_ok92, T_agg92, T_isinfo92, T_info92, T_cells92, T_zero92, T_int92, T_ok124, T_agg124, T_isinfo124, T_info124, T_cells124, T_zero124, T_ok136, T_agg136, T_isinfo136, T_info136, T_cells136, T_zero136, T_int136, g1, g2, g3, g4, tdivN, tmodN, g5]
    exact drawQ_true _ _ (by kernel_rfl)
  · have g4 : (((hi : Nat) : Int) == 0) = false := by simp only [beq_eq_false_iff_ne, ne_eq]; omega
    obtain ⟨b1, b2⟩ := blen_ge (show 0 < y by omega)
    have b3 := blen_lt y
    have b4 := blen_le 64 y hyl
    obtain ⟨s, hs⟩ : ∃ s, s = 64 - blen y := ⟨_, rfl⟩
    have hs64 : s < 64 := by omega
    have hmin : min s 64 = s := by omega
    have hmin2 : min (64 - s) 64 = 64 - s := by omega
    obtain ⟨D1, D2⟩ := div_halves (hi := hi) (lo := lo) (y := y) (s := s) (by omega) hlo hy (by omega)
    have hY1 : 9223372036854775808 ≤ y * 2 ^ s := by
      have := Nat.mul_le_mul_right (2 ^ s) b1
      rw [← Nat.pow_add, show blen y - 1 + s = 63 by omega] at this
      exact this
    have hY2 : y * 2 ^ s < 18446744073709551616 := by
      have := Nat.mul_lt_mul_of_pos_right b3 (show 0 < 2 ^ s from Nat.pow_pos (by decide))
      rw [← Nat.pow_add, show blen y + s = 64 by omega] at this
      exact this
    have hu : hi * 2 ^ s + lo / 2 ^ (64 - s) < y * 2 ^ s := by
      have h1 : lo / 2 ^ (64 - s) < 2 ^ s := by
        have := WB_split s (by omega)
        simp only [WB] at this
        rw [this, Nat.mul_comm] at hlo
        exact Nat.div_lt_of_lt_mul hlo
      have h2 : hi * 2 ^ s + 2 ^ s ≤ y * 2 ^ s := by rw [← Nat.succ_mul]; exact Nat.mul_le_mul_right _ hy
      omega
    have hor : (hi * 2 ^ s % 18446744073709551616 % 18446744073709551616 ||| lo / 2 ^ (64 - s) % 18446744073709551616) = hi * 2 ^ s + lo / 2 ^ (64 - s) := by
      have h1 : lo / 2 ^ (64 - s) < 2 ^ s := by
        have := WB_split s (by omega)
        simp only [WB] at this
        rw [this, Nat.mul_comm] at hlo
        exact Nat.div_lt_of_lt_mul hlo
      rw [Nat.mod_mod, Nat.mod_eq_of_lt (Nat.lt_of_le_of_lt (Nat.le_trans (Nat.le_add_right _ _) (Nat.le_of_lt hu)) hY2), Nat.mod_eq_of_lt (Nat.lt_of_le_of_lt (Nat.le_trans (Nat.le_add_left _ _) (Nat.le_of_lt hu)) hY2), Nat.mul_comm hi, Nat.two_pow_add_eq_or_of_lt h1]
    have k1 : ((((s : Nat) : Int)) < 0) = False := by simp only [eq_iff_iff, iff_false]; omega
    have k2 : IntKind.u64.wrap (64 - ((s : Nat) : Int)) = ((64 - s : Nat) : Int) := by
      rw [show (64 : Int) - ((s : Nat) : Int) = ((64 - s : Nat) : Int) by omega, u64_wrap, Nat.mod_eq_of_lt (by omega)]
    have k3 : ((((64 - s : Nat) : Nat) : Int) < 0) = False := by simp only [eq_iff_iff, iff_false]; omega
    have k4 : IntKind.u64.wrap (((64 - blen y : Nat) : Int)) = ((s : Nat) : Int) := by rw [← hs, u64_wrap, Nat.mod_eq_of_lt (by omega)]
    have hyt : (((y * 2 ^ s / 4294967296 : Nat) : Int) = 0) = False := by simp only [eq_iff_iff, iff_false]; omega
    have k5 : y * 2 ^ s % 18446744073709551616 = y * 2 ^ s := Nat.mod_eq_of_lt hY2
    refine sound_go (tb := []) 135 [.tmp 6, .tmp 7] [0, 1, 2, 6, 7, 8, 9, 10, 11, 12, 13, 14, 15, 16, 17, 18, 20, 24, 27, 78, 85, 113, 120] mixed Tryz.func106 rfl (by kernel_rfl) (by kernel_rfl) (by kernel_rfl) (by kernel_rfl) ?_
    simp -implicitDefEqProofs only [go_sem, Nat.reduceAdd, Nat.reduceMul, Nat.reduceEqDiff, Nat.reduceLT, Nat.reduceLeDiff, Nat.reduceSub, Nat.reduceBEq, reduceIte, reduceCtorEq, Int.reduceEq, Int.reduceNe, Nat.reduceBneDiff, Int.reduceLE, Int.reduceLT, Int.reduceToNat, Int.reduceAdd, Int.reduceSub, Int.reduceMul, Int.reduceNeg, T_ok3, T_agg3, T_isinfo3, T_info3, T_cells3, T_zero3, T_int3, T_ok92, T_agg92, T_isinfo92, T_info92, T_cells92, T_zero92, T_int92, T_ok124, T_agg124, T_isinfo124, T_info124, T_cells124, T_zero124, T_ok136, T_agg136, T_isinfo136, T_info136, T_cells136, T_zero136, T_int136, g1, g2, g4]
    refine gcall_intro _ _ _ _ _ _ _ _ _ (lz64_v y hyl) ?_
    simp -implicitDefEqProofs only [go_sem, Nat.reduceAdd, Nat.reduceMul, Nat.reduceEqDiff, Nat.reduceLT, Nat.reduceLeDiff, Nat.reduceSub, Nat.reduceBEq, reduceIte, reduceCtorEq, Int.reduceEq, Int.reduceNe, Nat.reduceBneDiff, Int.reduceLE, Int.reduceLT, Int.reduceToNat, Int.reduceAdd, Int.reduceSub, Int.reduceMul, Int.reduceNeg, T_ok3, T_agg3, T_isinfo3, T_info3, T_cells3, T_zero3, T_int3, T_ok92, T_agg92, T_isinfo92, T_info92, T_cells92, T_zero92, T_int92, T_ok124, T_agg124, T_isinfo124, T_info124, T_cells124, T_zero124, T_ok136, T_agg136, T_isinfo136, T_info136, T_cells136, T_zero136, T_int136, k4, k1, k2, k3, hmin, hmin2, Int.toNat_natCast, shl_u64, fdivK, m32, b_mask, k5, hor, tdivN, hyt]
    clear g1 g2 g3 g4 k4 k5 hor b1 b2 b3 b4 hs
    generalize hi * 2 ^ s + lo / 2 ^ (64 - s) = u at *
    generalize y * 2 ^ s = Y at *
    have htl : lo * 2 ^ s % 18446744073709551616 < 18446744073709551616 := Nat.mod_lt _ (by decide)
    generalize lo * 2 ^ s % 18446744073709551616 = t at *
    have hd1 : t / 4294967296 < 4294967296 := by omega
    have hd0 : t % 4294967296 < 4294967296 := by omega
    generalize t / 4294967296 = d1 at *
    generalize t % 4294967296 = d0 at *
    have i5 := u64_small (n := u / (Y / 4294967296)) (Nat.lt_of_le_of_lt (Nat.div_le_self _ _) (Nat.lt_trans hu hY2))
    have i6 := u64_rem u (Y / 4294967296) (Nat.lt_trans hu hY2)
    have l4 := u64_left u d1 Y (by omega) hY2
    obtain ⟨v, hvd⟩ : ∃ v, v = (u * 4294967296 + d1) % Y := ⟨_, rfl⟩
    have hv : v < Y := by rw [hvd]; exact Nat.mod_lt _ (by omega)
    rw [← hvd] at D1 D2 l4
    have l5 := u64_small (n := v / (Y / 4294967296)) (Nat.lt_of_le_of_lt (Nat.div_le_self _ _) (Nat.lt_trans hv hY2))
    have l6 := u64_rem v (Y / 4294967296) (Nat.lt_trans hv hY2)
    have f1 := u64_both (kn_quot hu hd1) (kn_quot hv hd0)
    have f2 := u64_left v d0 Y (by omega) hY2
    simp only [i5, i6]
    clear hvd i5 i6
    refine g_loop mixed (fun p : { p : Nat × Nat // Kn Y u d1 p.1 p.2 } => St.of [(2, .int .u64 ((Y : Nat) : Int)), (8, .int .u64 ((s : Nat) : Int)), (9, .int .u64 ((Y / 4294967296 : Nat) : Int)), (10, .int .u64 ((Y % 4294967296 : Nat) : Int)), (11, .int .u64 ((u : Nat) : Int)), (13, .int .u64 ((d1 : Nat) : Int)), (14, .int .u64 ((d0 : Nat) : Int)), (15, .int .u64 ((p.1.1 : Nat) : Int)), (16, .int .u64 ((p.1.2 : Nat) : Int))] []) (fun p => p.1.1) ⟨(u / (Y / 4294967296), u % (Y / 4294967296)), kn_first hY1 hY2 hu hd1⟩ ?_ ?_
    · exact le_vars (by simp [varsLe, lkp, ren1, ren0])
    · rintro ⟨⟨q, r⟩, hK⟩
      have hq := kn_q hY1 hY2 hu hK
      have hr : r < 4294967296 := hK.small
      have ht := kn_test hK
      simp only at hq hr ht hK ⊢
      have hy1 : Y / 4294967296 < 4294967296 := by omega
      have hy0 : Y % 4294967296 < 4294967296 := by omega
      have e5 := u64_inc hr hy1
      have w1 := u64_l32 hr
      have w2 := u64_l32d hr hd1
      by_cases hc : u * 4294967296 + d1 < q * Y
      · obtain ⟨hq0, hG⟩ := kn_next hY1 hu hK hc
        have e4 := u64_dec hq0 hq
        have hbig : (4294967296 : Int) ≤ ((q : Nat) : Int) ∨ ((4294967296 : Int) ≤ ((q : Nat) : Int)) = False ∧ IntKind.u64.wrap (((q : Nat) : Int) * ((Y % 4294967296 : Nat) : Int)) = ((q * (Y % 4294967296) : Nat) : Int) := by
          by_cases h : 4294967296 ≤ q
          · left; omega
          · right
            exact ⟨by simp only [eq_iff_iff, iff_false]; omega, u64_prod (by omega) hy0⟩
        have w3 : (((r * 4294967296 + d1 : Nat) : Int) < ((q * (Y % 4294967296) : Nat) : Int)) = True := by
          simp only [eq_iff_iff, iff_true]; have := ht.2 hc; omega
        by_cases hbr : 4294967296 ≤ r + Y / 4294967296
        · have hbr' : ((4294967296 : Int) ≤ ((r + Y / 4294967296 : Nat) : Int)) = True := by simp only [eq_iff_iff, iff_true]; omega
          have hQ := kn_break hY1 hu hd1 hG hbr
          rcases hbig with h | ⟨h, w0⟩
          · have h' : ((4294967296 : Int) ≤ ((q : Nat) : Int)) = True := by simp only [eq_iff_iff, iff_true]; exact h
            rw [hQ] at e4
            simp -implicitDefEqProofs only [go_sem, Nat.reduceAdd, Nat.reduceMul, Nat.reduceEqDiff, Nat.reduceLT, Nat.reduceLeDiff, Nat.reduceSub, Nat.reduceBEq, reduceIte, reduceCtorEq, Int.reduceEq, Int.reduceNe, Nat.reduceBneDiff, Int.reduceLE, Int.reduceLT, Int.reduceToNat, Int.reduceAdd, Int.reduceSub, Int.reduceMul, Int.reduceNeg, T_ok3, T_agg3, T_isinfo3, T_info3, T_cells3, T_zero3, T_int3, T_ok92, T_agg92, T_isinfo92, T_info92, T_cells92, T_zero92, T_int92, T_ok124, T_agg124, T_isinfo124, T_info124, T_cells124, T_zero124, T_ok136, T_agg136, T_isinfo136, T_info136, T_cells136, T_zero136, T_int136, h', e4, e5, hbr']
            simp -implicitDefEqProofs only [go_sem, Nat.reduceAdd, Nat.reduceMul, Nat.reduceEqDiff, Nat.reduceLT, Nat.reduceLeDiff, Nat.reduceSub, Nat.reduceBEq, reduceIte, reduceCtorEq, Int.reduceEq, Int.reduceNe, Nat.reduceBneDiff, Int.reduceLE, Int.reduceLT, Int.reduceToNat, Int.reduceAdd, Int.reduceSub, Int.reduceMul, Int.reduceNeg, T_ok3, T_agg3, T_isinfo3, T_info3, T_cells3, T_zero3, T_int3, T_ok92, T_agg92, T_isinfo92, T_info92, T_cells92, T_zero92, T_int92, T_ok124, T_agg124, T_isinfo124, T_info124, T_cells124, T_zero124, T_ok136, T_agg136, T_isinfo136, T_info136, T_cells136, T_zero136, T_int136, l4, tdivN, hyt, l5, l6]
            refine g_loop mixed (fun p : { p : Nat × Nat // Kn Y v d0 p.1 p.2 } => St.of [(2, .int .u64 ((Y : Nat) : Int)), (8, .int .u64 ((s : Nat) : Int)), (9, .int .u64 ((Y / 4294967296 : Nat) : Int)), (10, .int .u64 ((Y % 4294967296 : Nat) : Int)), (14, .int .u64 ((d0 : Nat) : Int)), (15, .int .u64 (((u * 4294967296 + d1) / Y : Nat) : Int)), (17, .int .u64 ((v : Nat) : Int)), (18, .int .u64 ((p.1.1 : Nat) : Int)), (16, .int .u64 ((p.1.2 : Nat) : Int))] []) (fun p => p.1.1) ⟨(v / (Y / 4294967296), v % (Y / 4294967296)), kn_first hY1 hY2 hv hd0⟩ ?_ ?_
            · exact le_vars (by simp [varsLe, lkp, ren1, ren0])
            · rintro ⟨⟨q, r⟩, hK⟩
              have hq := kn_q hY1 hY2 hv hK
              have hr : r < 4294967296 := hK.small
              have ht := kn_test hK
              simp only at hq hr ht hK ⊢
              have hy1 : Y / 4294967296 < 4294967296 := by omega
              have hy0 : Y % 4294967296 < 4294967296 := by omega
              have e5 := u64_inc hr hy1
              have w1 := u64_l32 hr
              have w2 := u64_l32d hr hd0
              by_cases hc : v * 4294967296 + d0 < q * Y
              · obtain ⟨hq0, hG⟩ := kn_next hY1 hv hK hc
                have e4 := u64_dec hq0 hq
                have hbig : (4294967296 : Int) ≤ ((q : Nat) : Int) ∨ ((4294967296 : Int) ≤ ((q : Nat) : Int)) = False ∧ IntKind.u64.wrap (((q : Nat) : Int) * ((Y % 4294967296 : Nat) : Int)) = ((q * (Y % 4294967296) : Nat) : Int) := by
                  by_cases h : 4294967296 ≤ q
                  · left; omega
                  · right
                    exact ⟨by simp only [eq_iff_iff, iff_false]; omega, u64_prod (by omega) hy0⟩
                have w3 : (((r * 4294967296 + d0 : Nat) : Int) < ((q * (Y % 4294967296) : Nat) : Int)) = True := by
                  simp only [eq_iff_iff, iff_true]; have := ht.2 hc; omega
                by_cases hbr : 4294967296 ≤ r + Y / 4294967296
                · have hbr' : ((4294967296 : Int) ≤ ((r + Y / 4294967296 : Nat) : Int)) = True := by simp only [eq_iff_iff, iff_true]; omega
                  have hQ := kn_break hY1 hv hd0 hG hbr
                  rcases hbig with h | ⟨h, w0⟩
                  · have h' : ((4294967296 : Int) ≤ ((q : Nat) : Int)) = True := by simp only [eq_iff_iff, iff_true]; exact h
                    rw [hQ] at e4
                    simp -implicitDefEqProofs only [go_sem, Nat.reduceAdd, Nat.reduceMul, Nat.reduceEqDiff, Nat.reduceLT, Nat.reduceLeDiff, Nat.reduceSub, Nat.reduceBEq, reduceIte, reduceCtorEq, Int.reduceEq, Int.reduceNe, Nat.reduceBneDiff, Int.reduceLE, Int.reduceLT, Int.reduceToNat, Int.reduceAdd, Int.reduceSub, Int.reduceMul, Int.reduceNeg, T_ok3, T_agg3, T_isinfo3, T_info3, T_cells3, T_zero3, T_int3, T_ok92, T_agg92, T_isinfo92, T_info92, T_cells92, T_zero92, T_int92, T_ok124, T_agg124, T_isinfo124, T_info124, T_cells124, T_zero124, T_ok136, T_agg136, T_isinfo136, T_info136, T_cells136, T_zero136, T_int136, h', e4, e5, hbr']
                    simp -implicitDefEqProofs only [go_sem, Nat.reduceAdd, Nat.reduceMul, Nat.reduceEqDiff, Nat.reduceLT, Nat.reduceLeDiff, Nat.reduceSub, Nat.reduceBEq, reduceIte, reduceCtorEq, Int.reduceEq, Int.reduceNe, Nat.reduceBneDiff, Int.reduceLE, Int.reduceLT, Int.reduceToNat, Int.reduceAdd, Int.reduceSub, Int.reduceMul, Int.reduceNeg, T_ok3, T_agg3, T_isinfo3, T_info3, T_cells3, T_zero3, T_int3, T_ok92, T_agg92, T_isinfo92, T_info92, T_cells92, T_zero92, T_int92, T_ok124, T_agg124, T_isinfo124, T_info124, T_cells124, T_zero124, T_ok136, T_agg136, T_isinfo136, T_info136, T_cells136, T_zero136, T_int136, f1, f2, k1, hmin, Int.toNat_natCast, fdivK]
                    rw [← D1, ← D2]

                  · rw [hQ] at e4
                    simp -implicitDefEqProofs only [go_sem, Nat.reduceAdd, Nat.reduceMul, Nat.reduceEqDiff, Nat.reduceLT, Nat.reduceLeDiff, Nat.reduceSub, Nat.reduceBEq, reduceIte, reduceCtorEq, Int.reduceEq, Int.reduceNe, Nat.reduceBneDiff, Int.reduceLE, Int.reduceLT, Int.reduceToNat, Int.reduceAdd, Int.reduceSub, Int.reduceMul, Int.reduceNeg, T_ok3, T_agg3, T_isinfo3, T_info3, T_cells3, T_zero3, T_int3, T_ok92, T_agg92, T_isinfo92, T_info92, T_cells92, T_zero92, T_int92, T_ok124, T_agg124, T_isinfo124, T_info124, T_cells124, T_zero124, T_ok136, T_agg136, T_isinfo136, T_info136, T_cells136, T_zero136, T_int136, h, w0, w1, w2, w3, e4, e5, hbr']
                    simp -implicitDefEqProofs only [go_sem, Nat.reduceAdd, Nat.reduceMul, Nat.reduceEqDiff, Nat.reduceLT, Nat.reduceLeDiff, Nat.reduceSub, Nat.reduceBEq, reduceIte, reduceCtorEq, Int.reduceEq, Int.reduceNe, Nat.reduceBneDiff, Int.reduceLE, Int.reduceLT, Int.reduceToNat, Int.reduceAdd, Int.reduceSub, Int.reduceMul, Int.reduceNeg, T_ok3, T_agg3, T_isinfo3, T_info3, T_cells3, T_zero3, T_int3, T_ok92, T_agg92, T_isinfo92, T_info92, T_cells92, T_zero92, T_int92, T_ok124, T_agg124, T_isinfo124, T_info124, T_cells124, T_zero124, T_ok136, T_agg136, T_isinfo136, T_info136, T_cells136, T_zero136, T_int136, f1, f2, k1, hmin, Int.toNat_natCast, fdivK]
                    rw [← D1, ← D2]

                · have hbr' : ((4294967296 : Int) ≤ ((r + Y / 4294967296 : Nat) : Int)) = False := by simp only [eq_iff_iff, iff_false]; omega
                  have next : ∃ y : { p : Nat × Nat // Kn Y v d0 p.1 p.2 }, y.1.1 < q ∧ y.1 = (q - 1, r + Y / 4294967296) := ⟨⟨(q - 1, r + Y / 4294967296), hG, by simp only; omega⟩, by simp only; omega, rfl⟩
                  obtain ⟨y, y1, y2⟩ := next
                  rcases hbig with h | ⟨h, w0⟩
                  · have h' : ((4294967296 : Int) ≤ ((q : Nat) : Int)) = True := by simp only [eq_iff_iff, iff_true]; exact h
                    simp -implicitDefEqProofs only [go_sem, Nat.reduceAdd, Nat.reduceMul, Nat.reduceEqDiff, Nat.reduceLT, Nat.reduceLeDiff, Nat.reduceSub, Nat.reduceBEq, reduceIte, reduceCtorEq, Int.reduceEq, Int.reduceNe, Nat.reduceBneDiff, Int.reduceLE, Int.reduceLT, Int.reduceToNat, Int.reduceAdd, Int.reduceSub, Int.reduceMul, Int.reduceNeg, T_ok3, T_agg3, T_isinfo3, T_info3, T_cells3, T_zero3, T_int3, T_ok92, T_agg92, T_isinfo92, T_info92, T_cells92, T_zero92, T_int92, T_ok124, T_agg124, T_isinfo124, T_info124, T_cells124, T_zero124, T_ok136, T_agg136, T_isinfo136, T_info136, T_cells136, T_zero136, T_int136, h', e4, e5, hbr']
                    refine ⟨y, y1, le_vars ?_⟩
                    simp [varsLe, lkp, ren1, ren0, y2]
                  · simp -implicitDefEqProofs only [go_sem, Nat.reduceAdd, Nat.reduceMul, Nat.reduceEqDiff, Nat.reduceLT, Nat.reduceLeDiff, Nat.reduceSub, Nat.reduceBEq, reduceIte, reduceCtorEq, Int.reduceEq, Int.reduceNe, Nat.reduceBneDiff, Int.reduceLE, Int.reduceLT, Int.reduceToNat, Int.reduceAdd, Int.reduceSub, Int.reduceMul, Int.reduceNeg, T_ok3, T_agg3, T_isinfo3, T_info3, T_cells3, T_zero3, T_int3, T_ok92, T_agg92, T_isinfo92, T_info92, T_cells92, T_zero92, T_int92, T_ok124, T_agg124, T_isinfo124, T_info124, T_cells124, T_zero124, T_ok136, T_agg136, T_isinfo136, T_info136, T_cells136, T_zero136, T_int136, h, w0, w1, w2, w3, e4, e5, hbr']
                    refine ⟨y, y1, le_vars ?_⟩
                    simp [varsLe, lkp, ren1, ren0, y2]
              · have hQ := kn_done hY1 hK hc
                have hq2 : q < 4294967296 := by rw [hQ]; exact kn_quot hv hd0
                have h : ((4294967296 : Int) ≤ ((q : Nat) : Int)) = False := by simp only [eq_iff_iff, iff_false]; omega
                have w0 := u64_prod hq2 hy0
                have w3 : (((r * 4294967296 + d0 : Nat) : Int) < ((q * (Y % 4294967296) : Nat) : Int)) = False := by
                  simp only [eq_iff_iff, iff_false]; have := mt ht.1 hc; omega
                simp -implicitDefEqProofs only [go_sem, Nat.reduceAdd, Nat.reduceMul, Nat.reduceEqDiff, Nat.reduceLT, Nat.reduceLeDiff, Nat.reduceSub, Nat.reduceBEq, reduceIte, reduceCtorEq, Int.reduceEq, Int.reduceNe, Nat.reduceBneDiff, Int.reduceLE, Int.reduceLT, Int.reduceToNat, Int.reduceAdd, Int.reduceSub, Int.reduceMul, Int.reduceNeg, T_ok3, T_agg3, T_isinfo3, T_info3, T_cells3, T_zero3, T_int3, T_ok92, T_agg92, T_isinfo92, T_info92, T_cells92, T_zero92, T_int92, T_ok124, T_agg124, T_isinfo124, T_info124, T_cells124, T_zero124, T_ok136, T_agg136, T_isinfo136, T_info136, T_cells136, T_zero136, T_int136, h, w0, w1, w2, w3]
                clear hK hq hr ht e5 hc hq2 h w0 w1 w2 w3
                subst hQ
                simp -implicitDefEqProofs only [go_sem, Nat.reduceAdd, Nat.reduceMul, Nat.reduceEqDiff, Nat.reduceLT, Nat.reduceLeDiff, Nat.reduceSub, Nat.reduceBEq, reduceIte, reduceCtorEq, Int.reduceEq, Int.reduceNe, Nat.reduceBneDiff, Int.reduceLE, Int.reduceLT, Int.reduceToNat, Int.reduceAdd, Int.reduceSub, Int.reduceMul, Int.reduceNeg, T_ok3, T_agg3, T_isinfo3, T_info3, T_cells3, T_zero3, T_int3, T_ok92, T_agg92, T_isinfo92, T_info92, T_cells92, T_zero92, T_int92, T_ok124, T_agg124, T_isinfo124, T_info124, T_cells124, T_zero124, T_ok136, T_agg136, T_isinfo136, T_info136, T_cells136, T_zero136, T_int136, f1, f2, k1, hmin, Int.toNat_natCast, fdivK]
                rw [← D1, ← D2]

          · rw [hQ] at e4
            simp -implicitDefEqProofs only [go_sem, Nat.reduceAdd, Nat.reduceMul, Nat.reduceEqDiff, Nat.reduceLT, Nat.reduceLeDiff, Nat.reduceSub, Nat.reduceBEq, reduceIte, reduceCtorEq, Int.reduceEq, Int.reduceNe, Nat.reduceBneDiff, Int.reduceLE, Int.reduceLT, Int.reduceToNat, Int.reduceAdd, Int.reduceSub, Int.reduceMul, Int.reduceNeg, T_ok3, T_agg3, T_isinfo3, T_info3, T_cells3, T_zero3, T_int3, T_ok92, T_agg92, T_isinfo92, T_info92, T_cells92, T_zero92, T_int92, T_ok124, T_agg124, T_isinfo124, T_info124, T_cells124, T_zero124, T_ok136, T_agg136, T_isinfo136, T_info136, T_cells136, T_zero136, T_int136, h, w0, w1, w2, w3, e4, e5, hbr']
            simp -implicitDefEqProofs only [go_sem, Nat.reduceAdd, Nat.reduceMul, Nat.reduceEqDiff, Nat.reduceLT, Nat.reduceLeDiff, Nat.reduceSub, Nat.reduceBEq, reduceIte, reduceCtorEq, Int.reduceEq, Int.reduceNe, Nat.reduceBneDiff, Int.reduceLE, Int.reduceLT, Int.reduceToNat, Int.reduceAdd, Int.reduceSub, Int.reduceMul, Int.reduceNeg, T_ok3, T_agg3, T_isinfo3, T_info3, T_cells3, T_zero3, T_int3, T_ok92, T_agg92, T_isinfo92, T_info92, T_cells92, T_zero92, T_int92, T_ok124, T_agg124, T_isinfo124, T_info124, T_cells124, T_zero124, T_ok136, T_agg136, T_isinfo136, T_info136, T_cells136, T_zero136, T_int136, l4, tdivN, hyt, l5, l6]
            refine g_loop mixed (fun p : { p : Nat × Nat // Kn Y v d0 p.1 p.2 } => St.of [(2, .int .u64 ((Y : Nat) : Int)), (8, .int .u64 ((s : Nat) : Int)), (9, .int .u64 ((Y / 4294967296 : Nat) : Int)), (10, .int .u64 ((Y % 4294967296 : Nat) : Int)), (14, .int .u64 ((d0 : Nat) : Int)), (15, .int .u64 (((u * 4294967296 + d1) / Y : Nat) : Int)), (17, .int .u64 ((v : Nat) : Int)), (18, .int .u64 ((p.1.1 : Nat) : Int)), (16, .int .u64 ((p.1.2 : Nat) : Int))] []) (fun p => p.1.1) ⟨(v / (Y / 4294967296), v % (Y / 4294967296)), kn_first hY1 hY2 hv hd0⟩ ?_ ?_
            · exact le_vars (by simp [varsLe, lkp, ren1, ren0])
            · rintro ⟨⟨q, r⟩, hK⟩
              have hq := kn_q hY1 hY2 hv hK
              have hr : r < 4294967296 := hK.small
              have ht := kn_test hK
              simp only at hq hr ht hK ⊢
              have hy1 : Y / 4294967296 < 4294967296 := by omega
              have hy0 : Y % 4294967296 < 4294967296 := by omega
              have e5 := u64_inc hr hy1
              have w1 := u64_l32 hr
              have w2 := u64_l32d hr hd0
              by_cases hc : v * 4294967296 + d0 < q * Y
              · obtain ⟨hq0, hG⟩ := kn_next hY1 hv hK hc
                have e4 := u64_dec hq0 hq
                have hbig : (4294967296 : Int) ≤ ((q : Nat) : Int) ∨ ((4294967296 : Int) ≤ ((q : Nat) : Int)) = False ∧ IntKind.u64.wrap (((q : Nat) : Int) * ((Y % 4294967296 : Nat) : Int)) = ((q * (Y % 4294967296) : Nat) : Int) := by
                  by_cases h : 4294967296 ≤ q
                  · left; omega
                  · right
                    exact ⟨by simp only [eq_iff_iff, iff_false]; omega, u64_prod (by omega) hy0⟩
                have w3 : (((r * 4294967296 + d0 : Nat) : Int) < ((q * (Y % 4294967296) : Nat) : Int)) = True := by
                  simp only [eq_iff_iff, iff_true]; have := ht.2 hc; omega
                by_cases hbr : 4294967296 ≤ r + Y / 4294967296
                · have hbr' : ((4294967296 : Int) ≤ ((r + Y / 4294967296 : Nat) : Int)) = True := by simp only [eq_iff_iff, iff_true]; omega
                  have hQ := kn_break hY1 hv hd0 hG hbr
                  rcases hbig with h | ⟨h, w0⟩
                  · have h' : ((4294967296 : Int) ≤ ((q : Nat) : Int)) = True := by simp only [eq_iff_iff, iff_true]; exact h
                    rw [hQ] at e4
                    simp -implicitDefEqProofs only [go_sem, Nat.reduceAdd, Nat.reduceMul, Nat.reduceEqDiff, Nat.reduceLT, Nat.reduceLeDiff, Nat.reduceSub, Nat.reduceBEq, reduceIte, reduceCtorEq, Int.reduceEq, Int.reduceNe, Nat.reduceBneDiff, Int.reduceLE, Int.reduceLT, Int.reduceToNat, Int.reduceAdd, Int.reduceSub, Int.reduceMul, Int.reduceNeg, T_ok3, T_agg3, T_isinfo3, T_info3, T_cells3, T_zero3, T_int3, T_ok92, T_agg92, T_isinfo92, T_info92, T_cells92, T_zero92, T_int92, T_ok124, T_agg124, T_isinfo124, T_info124, T_cells124, T_zero124, T_ok136, T_agg136, T_isinfo136, T_info136, T_cells136, T_zero136, T_int136, h', e4, e5, hbr']
                    simp -implicitDefEqProofs only [go_sem, Nat.reduceAdd, Nat.reduceMul, Nat.reduceEqDiff, Nat.reduceLT, Nat.reduceLeDiff, Nat.reduceSub, Nat.reduceBEq, reduceIte, reduceCtorEq, Int.reduceEq, Int.reduceNe, Nat.reduceBneDiff, Int.reduceLE, Int.reduceLT, Int.reduceToNat, Int.reduceAdd, Int.reduceSub, Int.reduceMul, Int.reduceNeg, T_ok3, T_agg3, T_isinfo3, T_info3, T_cells3, T_zero3, T_int3, T_ok92, T_agg92, T_isinfo92, T_info92, T_cells92, T_zero92, T_int92, T_ok124, T_agg124, T_isinfo124, T_info124, T_cells124, T_zero124, T_ok136, T_agg136, T_isinfo136, T_info136, T_cells136, T_zero136, T_int136, f1, f2, k1, hmin, Int.toNat_natCast, fdivK]
                    rw [← D1, ← D2]

                  · rw [hQ] at e4
                    simp -implicitDefEqProofs only [go_sem, Nat.reduceAdd, Nat.reduceMul, Nat.reduceEqDiff, Nat.reduceLT, Nat.reduceLeDiff, Nat.reduceSub, Nat.reduceBEq, reduceIte, reduceCtorEq, Int.reduceEq, Int.reduceNe, Nat.reduceBneDiff, Int.reduceLE, Int.reduceLT, Int.reduceToNat, Int.reduceAdd, Int.reduceSub, Int.reduceMul, Int.reduceNeg, T_ok3, T_agg3, T_isinfo3, T_info3, T_cells3, T_zero3, T_int3, T_ok92, T_agg92, T_isinfo92, T_info92, T_cells92, T_zero92, T_int92, T_ok124, T_agg124, T_isinfo124, T_info124, T_cells124, T_zero124, T_ok136, T_agg136, T_isinfo136, T_info136, T_cells136, T_zero136, T_int136, h, w0, w1, w2, w3, e4, e5, hbr']
                    simp -implicitDefEqProofs only [go_sem, Nat.reduceAdd, Nat.reduceMul, Nat.reduceEqDiff, Nat.reduceLT, Nat.reduceLeDiff, Nat.reduceSub, Nat.reduceBEq, reduceIte, reduceCtorEq, Int.reduceEq, Int.reduceNe, Nat.reduceBneDiff, Int.reduceLE, Int.reduceLT, Int.reduceToNat, Int.reduceAdd, Int.reduceSub, Int.reduceMul, Int.reduceNeg, T_ok3, T_agg3, T_isinfo3, T_info3, T_cells3, T_zero3, T_int3, T_ok92, T_agg92, T_isinfo92, T_info92, T_cells92, T_zero92, T_int92, T_ok124, T_agg124, T_isinfo124, T_info124, T_cells124, T_zero124, T_ok136, T_agg136, T_isinfo136, T_info136, T_cells136, T_zero136, T_int136, f1, f2, k1, hmin, Int.toNat_natCast, fdivK]
                    rw [← D1, ← D2]

                · have hbr' : ((4294967296 : Int) ≤ ((r + Y / 4294967296 : Nat) : Int)) = False := by simp only [eq_iff_iff, iff_false]; omega
                  have next : ∃ y : { p : Nat × Nat // Kn Y v d0 p.1 p.2 }, y.1.1 < q ∧ y.1 = (q - 1, r + Y / 4294967296) := ⟨⟨(q - 1, r + Y / 4294967296), hG, by simp only; omega⟩, by simp only; omega, rfl⟩
                  obtain ⟨y, y1, y2⟩ := next
                  rcases hbig with h | ⟨h, w0⟩
                  · have h' : ((4294967296 : Int) ≤ ((q : Nat) : Int)) = True := by simp only [eq_iff_iff, iff_true]; exact h
                    simp -implicitDefEqProofs only [go_sem, Nat.reduceAdd, Nat.reduceMul, Nat.reduceEqDiff, Nat.reduceLT, Nat.reduceLeDiff, Nat.reduceSub, Nat.reduceBEq, reduceIte, reduceCtorEq, Int.reduceEq, Int.reduceNe, Nat.reduceBneDiff, Int.reduceLE, Int.reduceLT, Int.reduceToNat, Int.reduceAdd, Int.reduceSub, Int.reduceMul, Int.reduceNeg, T_ok3, T_agg3, T_isinfo3, T_info3, T_cells3, T_zero3, T_int3, T_ok92, T_agg92, T_isinfo92, T_info92, T_cells92, T_zero92, T_int92, T_ok124, T_agg124, T_isinfo124, T_info124, T_cells124, T_zero124, T_ok136, T_agg136, T_isinfo136, T_info136, T_cells136, T_zero136, T_int136, h', e4, e5, hbr']
                    refine ⟨y, y1, le_vars ?_⟩
                    simp [varsLe, lkp, ren1, ren0, y2]
                  · simp -implicitDefEqProofs only [go_sem, Nat.reduceAdd, Nat.reduceMul, Nat.reduceEqDiff, Nat.reduceLT, Nat.reduceLeDiff, Nat.reduceSub, Nat.reduceBEq, reduceIte, reduceCtorEq, Int.reduceEq, Int.reduceNe, Nat.reduceBneDiff, Int.reduceLE, Int.reduceLT, Int.reduceToNat, Int.reduceAdd, Int.reduceSub, Int.reduceMul, Int.reduceNeg, T_ok3, T_agg3, T_isinfo3, T_info3, T_cells3, T_zero3, T_int3, T_ok92, T_agg92, T_isinfo92, T_info92, T_cells92, T_zero92, T_int92, T_ok124, T_agg124, T_isinfo124, T_info124, T_cells124, T_zero124, T_ok136, T_agg136, T_isinfo136, T_info136, T_cells136, T_zero136, T_int136, h, w0, w1, w2, w3, e4, e5, hbr']
                    refine ⟨y, y1, le_vars ?_⟩
                    simp [varsLe, lkp, ren1, ren0, y2]
              · have hQ := kn_done hY1 hK hc
                have hq2 : q < 4294967296 := by rw [hQ]; exact kn_quot hv hd0
                have h : ((4294967296 : Int) ≤ ((q : Nat) : Int)) = False := by simp only [eq_iff_iff, iff_false]; omega
                have w0 := u64_prod hq2 hy0
                have w3 : (((r * 4294967296 + d0 : Nat) : Int) < ((q * (Y % 4294967296) : Nat) : Int)) = False := by
                  simp only [eq_iff_iff, iff_false]; have := mt ht.1 hc; omega
                simp -implicitDefEqProofs only [go_sem, Nat.reduceAdd, Nat.reduceMul, Nat.reduceEqDiff, Nat.reduceLT, Nat.reduceLeDiff, Nat.reduceSub, Nat.reduceBEq, reduceIte, reduceCtorEq, Int.reduceEq, Int.reduceNe, Nat.reduceBneDiff, Int.reduceLE, Int.reduceLT, Int.reduceToNat, Int.reduceAdd, Int.reduceSub, Int.reduceMul, Int.reduceNeg, T_ok3, T_agg3, T_isinfo3, T_info3, T_cells3, T_zero3, T_int3, T_ok92, T_agg92, T_isinfo92, T_info92, T_cells92, T_zero92, T_int92, T_ok124, T_agg124, T_isinfo124, T_info124, T_cells124, T_zero124, T_ok136, T_agg136, T_isinfo136, T_info136, T_cells136, T_zero136, T_int136, h, w0, w1, w2, w3]
                clear hK hq hr ht e5 hc hq2 h w0 w1 w2 w3
                subst hQ
                simp -implicitDefEqProofs only [go_sem, Nat.reduceAdd, Nat.reduceMul, Nat.reduceEqDiff, Nat.reduceLT, Nat.reduceLeDiff, Nat.reduceSub, Nat.reduceBEq, reduceIte, reduceCtorEq, Int.reduceEq, Int.reduceNe, Nat.reduceBneDiff, Int.reduceLE, Int.reduceLT, Int.reduceToNat, Int.reduceAdd, Int.reduceSub, Int.reduceMul, Int.reduceNeg, T_ok3, T_agg3, T_isinfo3, T_info3, T_cells3, T_zero3, T_int3, T_ok92, T_agg92, T_isinfo92, T_info92, T_cells92, T_zero92, T_int92, T_ok124, T_agg124, T_isinfo124, T_info124, T_cells124, T_zero124, T_ok136, T_agg136, T_isinfo136, T_info136, T_cells136, T_zero136, T_int136, f1, f2, k1, hmin, Int.toNat_natCast, fdivK]
                rw [← D1, ← D2]

        · have hbr' : ((4294967296 : Int) ≤ ((r + Y / 4294967296 : Nat) : Int)) = False := by simp only [eq_iff_iff, iff_false]; omega
          have next : ∃ y : { p : Nat × Nat // Kn Y u d1 p.1 p.2 }, y.1.1 < q ∧ y.1 = (q - 1, r + Y / 4294967296) := ⟨⟨(q - 1, r + Y / 4294967296), hG, by simp only; omega⟩, by simp only; omega, rfl⟩
          obtain ⟨y, y1, y2⟩ := next
          rcases hbig with h | ⟨h, w0⟩
          · have h' : ((4294967296 : Int) ≤ ((q : Nat) : Int)) = True := by simp only [eq_iff_iff, iff_true]; exact h
            simp -implicitDefEqProofs only [go_sem, Nat.reduceAdd, Nat.reduceMul, Nat.reduceEqDiff, Nat.reduceLT, Nat.reduceLeDiff, Nat.reduceSub, Nat.reduceBEq, reduceIte, reduceCtorEq, Int.reduceEq, Int.reduceNe, Nat.reduceBneDiff, Int.reduceLE, Int.reduceLT, Int.reduceToNat, Int.reduceAdd, Int.reduceSub, Int.reduceMul, Int.reduceNeg, T_ok3, T_agg3, T_isinfo3, T_info3, T_cells3, T_zero3, T_int3, T_ok92, T_agg92, T_isinfo92, T_info92, T_cells92, T_zero92, T_int92, T_ok124, T_agg124, T_isinfo124, T_info124, T_cells124, T_zero124, T_ok136, T_agg136, T_isinfo136, T_info136, T_cells136, T_zero136, T_int136, h', e4, e5, hbr']
            refine ⟨y, y1, le_vars ?_⟩
            simp [varsLe, lkp, ren1, ren0, y2]
          · simp -implicitDefEqProofs only [go_sem, Nat.reduceAdd, Nat.reduceMul, Nat.reduceEqDiff, Nat.reduceLT, Nat.reduceLeDiff, Nat.reduceSub, Nat.reduceBEq, reduceIte, reduceCtorEq, Int.reduceEq, Int.reduceNe, Nat.reduceBneDiff, Int.reduceLE, Int.reduceLT, Int.reduceToNat, Int.reduceAdd, Int.reduceSub, Int.reduceMul, Int.reduceNeg, T_ok3, T_agg3, T_isinfo3, T_info3, T_cells3, T_zero3, T_int3, T_ok92, T_agg92, T_isinfo92, T_info92, T_cells92, T_zero92, T_int92, T_ok124, T_agg124, T_isinfo124, T_info124, T_cells124, T_zero124, T_ok136, T_agg136, T_isinfo136, T_info136, T_cells136, T_zero136, T_int136, h, w0, w1, w2, w3, e4, e5, hbr']
            refine ⟨y, y1, le_vars ?_⟩
            simp [varsLe, lkp, ren1, ren0, y2]
      · have hQ := kn_done hY1 hK hc
        have hq2 : q < 4294967296 := by rw [hQ]; exact kn_quot hu hd1
        have h : ((4294967296 : Int) ≤ ((q : Nat) : Int)) = False := by simp only [eq_iff_iff, iff_false]; omega
        have w0 := u64_prod hq2 hy0
        have w3 : (((r * 4294967296 + d1 : Nat) : Int) < ((q * (Y % 4294967296) : Nat) : Int)) = False := by
          simp only [eq_iff_iff, iff_false]; have := mt ht.1 hc; omega
        simp -implicitDefEqProofs only [go_sem, Nat.reduceAdd, Nat.reduceMul, Nat.reduceEqDiff, Nat.reduceLT, Nat.reduceLeDiff, Nat.reduceSub, Nat.reduceBEq, reduceIte, reduceCtorEq, Int.reduceEq, Int.reduceNe, Nat.reduceBneDiff, Int.reduceLE, Int.reduceLT, Int.reduceToNat, Int.reduceAdd, Int.reduceSub, Int.reduceMul, Int.reduceNeg, T_ok3, T_agg3, T_isinfo3, T_info3, T_cells3, T_zero3, T_int3, T_ok92, T_agg92, T_isinfo92, T_info92, T_cells92, T_zero92, T_int92, T_ok124, T_agg124, T_isinfo124, T_info124, T_cells124, T_zero124, T_ok136, T_agg136, T_isinfo136, T_info136, T_cells136, T_zero136, T_int136, h, w0, w1, w2, w3]
        clear hK hq hr ht e5 hc hq2 h w0 w1 w2 w3
        subst hQ
        simp -implicitDefEqProofs only [go_sem, Nat.reduceAdd, Nat.reduceMul, Nat.reduceEqDiff, Nat.reduceLT, Nat.reduceLeDiff, Nat.reduceSub, Nat.reduceBEq, reduceIte, reduceCtorEq, Int.reduceEq, Int.reduceNe, Nat.reduceBneDiff, Int.reduceLE, Int.reduceLT, Int.reduceToNat, Int.reduceAdd, Int.reduceSub, Int.reduceMul, Int.reduceNeg, T_ok3, T_agg3, T_isinfo3, T_info3, T_cells3, T_zero3, T_int3, T_ok92, T_agg92, T_isinfo92, T_info92, T_cells92, T_zero92, T_int92, T_ok124, T_agg124, T_isinfo124, T_info124, T_cells124, T_zero124, T_ok136, T_agg136, T_isinfo136, T_info136, T_cells136, T_zero136, T_int136, l4, tdivN, hyt, l5, l6]
        refine g_loop mixed (fun p : { p : Nat × Nat // Kn Y v d0 p.1 p.2 } => St.of [(2, .int .u64 ((Y : Nat) : Int)), (8, .int .u64 ((s : Nat) : Int)), (9, .int .u64 ((Y / 4294967296 : Nat) : Int)), (10, .int .u64 ((Y % 4294967296 : Nat) : Int)), (14, .int .u64 ((d0 : Nat) : Int)), (15, .int .u64 (((u * 4294967296 + d1) / Y : Nat) : Int)), (17, .int .u64 ((v : Nat) : Int)), (18, .int .u64 ((p.1.1 : Nat) : Int)), (16, .int .u64 ((p.1.2 : Nat) : Int))] []) (fun p => p.1.1) ⟨(v / (Y / 4294967296), v % (Y / 4294967296)), kn_first hY1 hY2 hv hd0⟩ ?_ ?_
        · exact le_vars (by simp [varsLe, lkp, ren1, ren0])
        · rintro ⟨⟨q, r⟩, hK⟩
          have hq := kn_q hY1 hY2 hv hK
          have hr : r < 4294967296 := hK.small
          have ht := kn_test hK
          simp only at hq hr ht hK ⊢
          have hy1 : Y / 4294967296 < 4294967296 := by omega
          have hy0 : Y % 4294967296 < 4294967296 := by omega
          have e5 := u64_inc hr hy1
          have w1 := u64_l32 hr
          have w2 := u64_l32d hr hd0
          by_cases hc : v * 4294967296 + d0 < q * Y
          · obtain ⟨hq0, hG⟩ := kn_next hY1 hv hK hc
            have e4 := u64_dec hq0 hq
            have hbig : (4294967296 : Int) ≤ ((q : Nat) : Int) ∨ ((4294967296 : Int) ≤ ((q : Nat) : Int)) = False ∧ IntKind.u64.wrap (((q : Nat) : Int) * ((Y % 4294967296 : Nat) : Int)) = ((q * (Y % 4294967296) : Nat) : Int) := by
              by_cases h : 4294967296 ≤ q
              · left; omega
              · right
                exact ⟨by simp only [eq_iff_iff, iff_false]; omega, u64_prod (by omega) hy0⟩
            have w3 : (((r * 4294967296 + d0 : Nat) : Int) < ((q * (Y % 4294967296) : Nat) : Int)) = True := by
              simp only [eq_iff_iff, iff_true]; have := ht.2 hc; omega
            by_cases hbr : 4294967296 ≤ r + Y / 4294967296
            · have hbr' : ((4294967296 : Int) ≤ ((r + Y / 4294967296 : Nat) : Int)) = True := by simp only [eq_iff_iff, iff_true]; omega
              have hQ := kn_break hY1 hv hd0 hG hbr
              rcases hbig with h | ⟨h, w0⟩
              · have h' : ((4294967296 : Int) ≤ ((q : Nat) : Int)) = True := by simp only [eq_iff_iff, iff_true]; exact h
                rw [hQ] at e4
                simp -implicitDefEqProofs only [go_sem, Nat.reduceAdd, Nat.reduceMul, Nat.reduceEqDiff, Nat.reduceLT, Nat.reduceLeDiff, Nat.reduceSub, Nat.reduceBEq, reduceIte, reduceCtorEq, Int.reduceEq, Int.reduceNe, Nat.reduceBneDiff, Int.reduceLE, Int.reduceLT, Int.reduceToNat, Int.reduceAdd, Int.reduceSub, Int.reduceMul, Int.reduceNeg, T_ok3, T_agg3, T_isinfo3, T_info3, T_cells3, T_zero3, T_int3, T_ok92, T_agg92, T_isinfo92, T_info92, T_cells92, T_zero92, T_int92, T_ok124, T_agg124, T_isinfo124, T_info124, T_cells124, T_zero124, T_ok136, T_agg136, T_isinfo136, T_info136, T_cells136, T_zero136, T_int136, h', e4, e5, hbr']
                simp -implicitDefEqProofs only [go_sem, Nat.reduceAdd, Nat.reduceMul, Nat.reduceEqDiff, Nat.reduceLT, Nat.reduceLeDiff, Nat.reduceSub, Nat.reduceBEq, reduceIte, reduceCtorEq, Int.reduceEq, Int.reduceNe, Nat.reduceBneDiff, Int.reduceLE, Int.reduceLT, Int.reduceToNat, Int.reduceAdd, Int.reduceSub, Int.reduceMul, Int.reduceNeg, T_ok3, T_agg3, T_isinfo3, T_info3, T_cells3, T_zero3, T_int3, T_ok92, T_agg92, T_isinfo92, T_info92, T_cells92, T_zero92, T_int92, T_ok124, T_agg124, T_isinfo124, T_info124, T_cells124, T_zero124, T_ok136, T_agg136, T_isinfo136, T_info136, T_cells136, T_zero136, T_int136, f1, f2, k1, hmin, Int.toNat_natCast, fdivK]
                rw [← D1, ← D2]

              · rw [hQ] at e4
                simp -implicitDefEqProofs only [go_sem, Nat.reduceAdd, Nat.reduceMul, Nat.reduceEqDiff, Nat.reduceLT, Nat.reduceLeDiff, Nat.reduceSub, Nat.reduceBEq, reduceIte, reduceCtorEq, Int.reduceEq, Int.reduceNe, Nat.reduceBneDiff, Int.reduceLE, Int.reduceLT, Int.reduceToNat, Int.reduceAdd, Int.reduceSub, Int.reduceMul, Int.reduceNeg, T_ok3, T_agg3, T_isinfo3, T_info3, T_cells3, T_zero3, T_int3, T_ok92, T_agg92, T_isinfo92, T_info92, T_cells92, T_zero92, T_int92, T_ok124, T_agg124, T_isinfo124, T_info124, T_cells124, T_zero124, T_ok136, T_agg136, T_isinfo136, T_info136, T_cells136, T_zero136, T_int136, h, w0, w1, w2, w3, e4, e5, hbr']
                simp -implicitDefEqProofs only [go_sem, Nat.reduceAdd, Nat.reduceMul, Nat.reduceEqDiff, Nat.reduceLT, Nat.reduceLeDiff, Nat.reduceSub, Nat.reduceBEq, reduceIte, reduceCtorEq, Int.reduceEq, Int.reduceNe, Nat.reduceBneDiff, Int.reduceLE, Int.reduceLT, Int.reduceToNat, Int.reduceAdd, Int.reduceSub, Int.reduceMul, Int.reduceNeg, T_ok3, T_agg3, T_isinfo3, T_info3, T_cells3, T_zero3, T_int3, T_ok92, T_agg92, T_isinfo92, T_info92, T_cells92, T_zero92, T_int92, T_ok124, T_agg124, T_isinfo124, T_info124, T_cells124, T_zero124, T_ok136, T_agg136, T_isinfo136, T_info136, T_cells136, T_zero136, T_int136, f1, f2, k1, hmin, Int.toNat_natCast, fdivK]
                rw [← D1, ← D2]

            · have hbr' : ((4294967296 : Int) ≤ ((r + Y / 4294967296 : Nat) : Int)) = False := by simp only [eq_iff_iff, iff_false]; omega
              have next : ∃ y : { p : Nat × Nat // Kn Y v d0 p.1 p.2 }, y.1.1 < q ∧ y.1 = (q - 1, r + Y / 4294967296) := ⟨⟨(q - 1, r + Y / 4294967296), hG, by simp only; omega⟩, by simp only; omega, rfl⟩
              obtain ⟨y, y1, y2⟩ := next
              rcases hbig with h | ⟨h, w0⟩
              · have h' : ((4294967296 : Int) ≤ ((q : Nat) : Int)) = True := by simp only [eq_iff_iff, iff_true]; exact h
                simp -implicitDefEqProofs only [go_sem, Nat.reduceAdd, Nat.reduceMul, Nat.reduceEqDiff, Nat.reduceLT, Nat.reduceLeDiff, Nat.reduceSub, Nat.reduceBEq, reduceIte, reduceCtorEq, Int.reduceEq, Int.reduceNe, Nat.reduceBneDiff, Int.reduceLE, Int.reduceLT, Int.reduceToNat, Int.reduceAdd, Int.reduceSub, Int.reduceMul, Int.reduceNeg, T_ok3, T_agg3, T_isinfo3, T_info3, T_cells3, T_zero3, T_int3, T_ok92, T_agg92, T_isinfo92, T_info92, T_cells92, T_zero92, T_int92, T_ok124, T_agg124, T_isinfo124, T_info124, T_cells124, T_zero124, T_ok136, T_agg136, T_isinfo136, T_info136, T_cells136, T_zero136, T_int136, h', e4, e5, hbr']
                refine ⟨y, y1, le_vars ?_⟩
                simp [varsLe, lkp, ren1, ren0, y2]
              · simp -implicitDefEqProofs only [go_sem, Nat.reduceAdd, Nat.reduceMul, Nat.reduceEqDiff, Nat.reduceLT, Nat.reduceLeDiff, Nat.reduceSub, Nat.reduceBEq, reduceIte, reduceCtorEq, Int.reduceEq, Int.reduceNe, Nat.reduceBneDiff, Int.reduceLE, Int.reduceLT, Int.reduceToNat, Int.reduceAdd, Int.reduceSub, Int.reduceMul, Int.reduceNeg, T_ok3, T_agg3, T_isinfo3, T_info3, T_cells3, T_zero3, T_int3, T_ok92, T_agg92, T_isinfo92, T_info92, T_cells92, T_zero92, T_int92, T_ok124, T_agg124, T_isinfo124, T_info124, T_cells124, T_zero124, T_ok136, T_agg136, T_isinfo136, T_info136, T_cells136, T_zero136, T_int136, h, w0, w1, w2, w3, e4, e5, hbr']
                refine ⟨y, y1, le_vars ?_⟩
                simp [varsLe, lkp, ren1, ren0, y2]
          · have hQ := kn_done hY1 hK hc
            have hq2 : q < 4294967296 := by rw [hQ]; exact kn_quot hv hd0
            have h : ((4294967296 : Int) ≤ ((q : Nat) : Int)) = False := by simp only [eq_iff_iff, iff_false]; omega
            have w0 := u64_prod hq2 hy0
            have w3 : (((r * 4294967296 + d0 : Nat) : Int) < ((q * (Y % 4294967296) : Nat) : Int)) = False := by
              simp only [eq_iff_iff, iff_false]; have := mt ht.1 hc; omega
            simp -implicitDefEqProofs only [go_sem, Nat.reduceAdd, Nat.reduceMul, Nat.reduceEqDiff, Nat.reduceLT, Nat.reduceLeDiff, Nat.reduceSub, Nat.reduceBEq, reduceIte, reduceCtorEq, Int.reduceEq, Int.reduceNe, Nat.reduceBneDiff, Int.reduceLE, Int.reduceLT, Int.reduceToNat, Int.reduceAdd, Int.reduceSub, Int.reduceMul, Int.reduceNeg, T_ok3, T_agg3, T_isinfo3, T_info3, T_cells3, T_zero3, T_int3, T_ok92, T_agg92, T_isinfo92, T_info92, T_cells92, T_zero92, T_int92, T_ok124, T_agg124, T_isinfo124, T_info124, T_cells124, T_zero124, T_ok136, T_agg136, T_isinfo136, T_info136, T_cells136, T_zero136, T_int136, h, w0, w1, w2, w3]
            clear hK hq hr ht e5 hc hq2 h w0 w1 w2 w3
            subst hQ
            simp -implicitDefEqProofs only [go_sem, Nat.reduceAdd, Nat.reduceMul, Nat.reduceEqDiff, Nat.reduceLT, Nat.reduceLeDiff, Nat.reduceSub, Nat.reduceBEq, reduceIte, reduceCtorEq, Int.reduceEq, Int.reduceNe, Nat.reduceBneDiff, Int.reduceLE, Int.reduceLT, Int.reduceToNat, Int.reduceAdd, Int.reduceSub, Int.reduceMul, Int.reduceNeg, T_ok3, T_agg3, T_isinfo3, T_info3, T_cells3, T_zero3, T_int3, T_ok92, T_agg92, T_isinfo92, T_info92, T_cells92, T_zero92, T_int92, T_ok124, T_agg124, T_isinfo124, T_info124, T_cells124, T_zero124, T_ok136, T_agg136, T_isinfo136, T_info136, T_cells136, T_zero136, T_int136, f1, f2, k1, hmin, Int.toNat_natCast, fdivK]
            rw [← D1, ← D2]
end Go.Proofs.YtkgkebhlpjenaaaGreatDoor

namespace Go.Dg
theorem small_step (A d B : Nat) (hB : 0 < B) (hd : 0 < d) : (A / B % d * B + A % B) / d = A / d % B ∧ (A / B % d * B + A % B) % d = A % d := by
  have h1 := Nat.div_add_mod A B
  have h2 := Nat.div_add_mod (A / B) d
  have hr : A / B % d < d := Nat.mod_lt _ hd
  have hl : A % B < B := Nat.mod_lt _ hB
  generalize A / B % d = r at *
  generalize A / B / d = Q at *
  generalize A % B = l at *
  have e : A = d * (Q * B) + (r * B + l) := by
    rw [← h1, ← h2, Nat.mul_add, Nat.mul_comm B r, Nat.mul_comm B, Nat.mul_assoc]; omega
  have hlt : r * B + l < d * B := by
    have := Nat.mul_le_mul_right B (show r + 1 ≤ d from hr)
    rw [Nat.add_mul] at this
    omega
  have hq : (r * B + l) / d < B := by rw [Nat.div_lt_iff_lt_mul hd, Nat.mul_comm B]; exact hlt
  constructor
  · rw [e, Nat.mul_add_div hd, Nat.mul_add_mod_self_right, Nat.mod_eq_of_lt hq]
  · rw [e, Nat.mul_add_mod]
theorem mix_full (B V S N : Nat) : mix B V S N N = lows B V N := by
  apply List.map_congr_left
  intro j hj
  rw [if_pos (by simpa using hj)]
theorem shlC_digit (a w r i : Nat) (hr : r ≤ 64) : shlV a w r i / WB ^ (i + w) % WB = shlC a r i := by
  rw [shlV_div, Nat.mod_eq_of_lt (Nat.lt_of_lt_of_le (shlC_lt a r i) (Nat.pow_le_pow_right (n := 2) (by decide) hr))]
end Go.Dg
