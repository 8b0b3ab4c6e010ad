/-
  Dp (merged for the claim).
-/
import Derived.Test.YtkgkebhlpjenaaaGreatDoorUW
import Derived.Test.YtkgkebhlpjenaaaGreatDoorZW3
import Derived.Test.YtkgkebhlpjenaaaGreatDoorDt
set_option linter.unusedSimpArgs false
set_option linter.unusedVariables false
namespace Go.Dg

theorem p256 (k : Nat) : (256 : Nat) ^ k = 2 ^ (8 * k) := by rw [show (256 : Nat) = 2 ^ 8 from rfl, ← Nat.pow_mul]
theorem p2_256 {m B k : Nat} (h : m < 2 ^ B) (hk : B ≤ 8 * k) : m < 256 ^ k := by
  rw [p256]; exact Nat.lt_of_lt_of_le h (Nat.pow_le_pow_right (by decide) hk)
theorem p2_mono {m B C : Nat} (h : m < 2 ^ B) (hk : B ≤ C) : m < 2 ^ C := Nat.lt_of_lt_of_le h (Nat.pow_le_pow_right (by decide) hk)
theorem p2_16 {m B : Nat} (h : m < 2 ^ B) (hk : B ≤ 65536) : m < 2 ^ 65536 := p2_mono (C := 65536) h hk
theorem p2_7M {m B : Nat} (h : m < 2 ^ B) (hk : B ≤ 7000000) : m < 2 ^ 7000000 := p2_mono (C := 7000000) h hk
theorem p2_8M {m B : Nat} (h : m < 2 ^ B) (hk : B ≤ 8000000) : m < 2 ^ 8000000 := p2_mono (C := 8000000) h hk
theorem p256_lt (k n : Nat) (h : 8 * k < n) : (256 : Nat) ^ k < 2 ^ n := by rw [p256]; exact Nat.pow_lt_pow_right (by decide) h
theorem lt_p256 (k n : Nat) (h : n < 8 * k) : 2 ^ n < (256 : Nat) ^ k := by rw [p256]; exact Nat.pow_lt_pow_right (by decide) h
theorem blen_p2 {x : Nat} {B : Nat} (h : blen x ≤ B) : x < 2 ^ B := by
  rcases Nat.lt_or_ge x (2 ^ B) with h1 | h1
  · exact h1
  · have := blen_gt B x h1; omega
theorem blen_digs {x : Nat} (B k : Nat) (h : blen x ≤ B) (hk : B ≤ 8 * k) : (digs 256 x).length ≤ k := (digs_len_le (by decide) x k).2 (p2_256 (blen_p2 h) hk)
theorem p256_2 {m k : Nat} (h : m < 256 ^ k) : m < 2 ^ (8 * k) := by rw [← p256]; exact h
theorem p256_16 {m k : Nat} (h : m < 256 ^ k) (hk : 8 * k ≤ 65536) : m < 2 ^ 65536 := p2_16 (p256_2 h) hk
theorem blen_of256 {m k : Nat} (h : m < 256 ^ k) : blen m ≤ 8 * k := blen_le (8 * k) m (p256_2 h)
/-- A power of 2 has no more digits than its exponent. -/
theorem pow2_digs {B : Nat} (hB : 2 < B) (k K : Nat) (hk : k ≤ K) : (digs B (2 ^ k)).length ≤ K + 1 := by
  refine (digs_len_le (Nat.le_of_lt hB) _ (K + 1)).2 (Nat.lt_of_le_of_lt (Nat.pow_le_pow_right (show 0 < 2 by decide) (Nat.le_succ_of_le hk)) ?_)
  exact Nat.pow_lt_pow_left hB (Nat.succ_ne_zero K)
end Go.Dg
