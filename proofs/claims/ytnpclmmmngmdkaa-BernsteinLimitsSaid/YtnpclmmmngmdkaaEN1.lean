/-
  EA13, Dq, EP1, EP2, Dr, EN1 (merged for the claim).
-/
import Derived.Test.YtnpclmmmngmdkaaEA12
set_option linter.unusedSimpArgs false
set_option linter.unusedVariables false
namespace Go.Proofs.Ytnpclmmmngmdkaa
open Go.Vl Go.RowKit Go.Dg

def rQ (x y : Int) : PV := .agg [.bool (decide (x < 0)), di (digs E9 x.natAbs), .bool (decide (y < 0)), di (digs E9 y.natAbs)]
theorem mul_lt {x y : Int} {k l : Nat} (hx : x.natAbs < 256 ^ k) (hy : y.natAbs < 256 ^ l) : (x * y).natAbs < 256 ^ (k + l) := by
  rw [Int.natAbs_mul, Nat.pow_add]; exact Nat.mul_lt_mul'' hx hy
theorem div_lt {x : Int} {k : Nat} (hx : x.natAbs < 256 ^ k) (y : Int) : (x / y).natAbs < 256 ^ (k + 1) := by
  have h1 : (x / y).natAbs ≤ x.natAbs + 1 := by
    have := Int.natAbs_ediv_le_natAbs x y
    omega
  rw [Nat.pow_succ]; have := Nat.pow_pos (n := k) (show 0 < 256 by decide); generalize 256 ^ k = K at *; omega
theorem mod_lt {y : Int} {k : Nat} (x : Int) (h0 : y ≠ 0) (hy : y.natAbs < 256 ^ k) : (x % y).natAbs < 256 ^ k := by
  have h1 := Int.emod_nonneg x h0
  have h2 := Int.emod_lt x h0
  omega
theorem gcd_lt {x y : Nat} {k : Nat} (hx : x < 256 ^ k) (hy : y < 256 ^ k) : ((Nat.gcd x y : Nat) : Int).natAbs < 256 ^ k := by
  rw [Int.natAbs_natCast]
  rcases Nat.eq_zero_or_pos x with h0 | h0
  · rw [h0, Nat.gcd_zero_left]; exact hy
  · exact Nat.lt_of_le_of_lt (Nat.gcd_le_left _ h0) hx
theorem wnum_ne {n : Bool} {s : ByteArray} (h : validB n s.data.toList = true) (h0 : s.data.toList ≠ []) : wnum n s ≠ 0 := by
  intro e
  have h1 := wPV_wnum n s h
  rw [e, wPV_zero] at h1
  simp only [PV.agg.injEq, List.cons.injEq, PV.str.injEq, PV.bool.injEq, and_true] at h1
  exact h0 (by rw [← h1.2])
theorem wnum_nil {n : Bool} {s : ByteArray} (h0 : s.data.toList = []) : wnum n s = 0 := by
  unfold wnum sv; rw [h0]; cases n <;> rfl
theorem pow_mono {m k l : Nat} (h : m < 256 ^ k) (hkl : k ≤ l) : m < 256 ^ l := Nat.lt_of_lt_of_le h (Nat.pow_le_pow_right (by decide) hkl)
theorem gN_ne {x y : Int} (h : y ≠ 0) : gN x y ≠ 0 := by
  have := Nat.gcd_pos_of_pos_right x.natAbs (show 0 < y.natAbs by omega)
  unfold gN; split <;> omega
theorem gN_lt {x y : Int} {k : Nat} (hx : x.natAbs < 256 ^ k) (hy : y.natAbs < 256 ^ k) : (gN x y).natAbs < 256 ^ k := by
  have := gcd_lt hx hy
  unfold gN; split
  · rw [Int.natAbs_neg]; exact this
  · exact this
section
variable (a b c d : Int) (k : Nat) (hk : k ≤ 10000) (ha : a.natAbs < 256 ^ k) (hb : b.natAbs < 256 ^ k) (hc : c.natAbs < 256 ^ k) (hd : d.natAbs < 256 ^ k)
include hk ha hb hc hd
end
end Go.Proofs.Ytnpclmmmngmdkaa

namespace Go.Dg

/-! ### sums -/
/-- The sum of the first n values. -/
def sm (f : Nat → Int) : Nat → Int
  | 0 => 0
  | n + 1 => sm f n + f n
theorem sm_congr {f g : Nat → Int} : ∀ (n : Nat), (∀ i, i < n → f i = g i) → sm f n = sm g n
  | 0, _ => rfl
  | n + 1, h => by rw [sm, sm, sm_congr n (fun i hi => h i (Nat.lt_succ_of_lt hi)), h n (Nat.lt_succ_self n)]
theorem sm_zero {f : Nat → Int} : ∀ (n : Nat), (∀ i, i < n → f i = 0) → sm f n = 0
  | 0, _ => rfl
  | n + 1, h => by rw [sm, sm_zero n (fun i hi => h i (Nat.lt_succ_of_lt hi)), h n (Nat.lt_succ_self n)]; rfl
theorem sm_add (f g : Nat → Int) : ∀ n, sm (fun i => f i + g i) n = sm f n + sm g n
  | 0 => rfl
  | n + 1 => by simp only [sm, sm_add f g n]; omega
theorem sm_mul (c : Int) (f : Nat → Int) : ∀ n, sm (fun i => c * f i) n = c * sm f n
  | 0 => by simp [sm]
  | n + 1 => by simp only [sm, sm_mul c f n, Int.mul_add]
theorem sm_first (f : Nat → Int) : ∀ n, sm f (n + 1) = f 0 + sm (fun i => f (i + 1)) n
  | 0 => by simp [sm]
  | n + 1 => by rw [sm, sm_first f n, sm]; omega
theorem sm_more (f : Nat → Int) {n m : Nat} (h : n ≤ m) (hz : ∀ i, n ≤ i → i < m → f i = 0) : sm f m = sm f n := by
  induction m with
  | zero => obtain rfl : n = 0 := by omega
            rfl
  | succ m ih =>
    rcases Nat.lt_or_eq_of_le h with h1 | h1
    · rw [sm, ih (by omega) (fun i a b => hz i a (by omega)), hz m (by omega) (by omega), Int.add_zero]
    · rw [h1]
theorem sm_rev (f : Nat → Int) : ∀ n, sm (fun i => f (n - 1 - i)) n = sm f n
  | 0 => rfl
  | n + 1 => by
    rw [sm_first, sm]
    have e : sm (fun i => f (n + 1 - 1 - (i + 1))) n = sm (fun i => f (n - 1 - i)) n := sm_congr n fun i _ => by congr 1; omega
    rw [e, sm_rev f n, Int.add_comm]; rfl
theorem sm_tri (g : Nat → Nat → Int) : ∀ n, sm (fun j => sm (fun i => g i j) (j + 1)) n = sm (fun i => sm (fun k => g i (i + k)) (n - i)) n
  | 0 => rfl
  | n + 1 => by
    rw [sm, sm_tri g n]
    have h1 : sm (fun i => sm (fun k => g i (i + k)) (n + 1 - i)) n = sm (fun i => sm (fun k => g i (i + k)) (n - i) + g i n) n :=
      sm_congr n fun i hi => by
        have e : n + 1 - i = (n - i) + 1 := by omega
        have e2 : i + (n - i) = n := by omega
        rw [e, sm, e2]
    have e3 : n + 1 - n = 1 := by omega
    rw [sm, sm, h1, sm_add, e3]
    simp only [sm, Nat.add_zero, Int.zero_add]
    omega
theorem sm_comm (f : Nat → Nat → Int) (m : Nat) : ∀ n, sm (fun i => sm (fun j => f i j) m) n = sm (fun j => sm (fun i => f i j) n) m
  | 0 => (sm_zero m (fun _ _ => rfl)).symm
  | n + 1 => by rw [sm, sm_comm f m n, ← sm_add]; rfl
theorem sm_nonneg {f : Nat → Int} : ∀ (n : Nat), (∀ i, i < n → 0 ≤ f i) → 0 ≤ sm f n
  | 0, _ => Int.le_refl 0
  | n + 1, h => Int.add_nonneg (sm_nonneg n fun i hi => h i (Nat.lt_succ_of_lt hi)) (h n (Nat.lt_succ_self n))
theorem sm_le {f g : Nat → Int} : ∀ (n : Nat), (∀ i, i < n → f i ≤ g i) → sm f n ≤ sm g n
  | 0, _ => Int.le_refl 0
  | n + 1, h => Int.add_le_add (sm_le n fun i hi => h i (Nat.lt_succ_of_lt hi)) (h n (Nat.lt_succ_self n))

/-! ### binomials -/
/-- The number of ways to choose k of n elements. -/
def bin : Nat → Nat → Nat
  | _, 0 => 1
  | 0, _ + 1 => 0
  | n + 1, k + 1 => bin n k + bin n (k + 1)
theorem bin_zero (n : Nat) : bin n 0 = 1 := by cases n <;> rfl
theorem bin_lt : ∀ {n k : Nat}, n < k → bin n k = 0
  | 0, 0, h => absurd h (Nat.lt_irrefl 0)
  | 0, _ + 1, _ => rfl
  | n + 1, 0, h => absurd h (Nat.not_lt_zero _)
  | n + 1, k + 1, h => by rw [bin, bin_lt (by omega), bin_lt (by omega)]
theorem bin_self : ∀ n, bin n n = 1
  | 0 => rfl
  | n + 1 => by rw [bin, bin_self n, bin_lt (Nat.lt_succ_self n)]
/-- The next one of a row. -/
theorem bin_step : ∀ (n k : Nat), (bin n (k + 1) : Int) * ((k : Int) + 1) = (bin n k : Int) * ((n : Int) - (k : Int))
  | 0, 0 => by simp [bin]
  | 0, k + 1 => by simp [bin]
  | n + 1, 0 => by
    have h := bin_step n 0
    rw [bin_zero] at h ⊢
    rw [bin, bin_zero]
    simp only [Int.natCast_add, Int.natCast_zero, Int.zero_add, Int.mul_one, Int.sub_zero, Int.one_mul] at h ⊢
    omega
  | n + 1, k + 1 => by
    have h1 := bin_step n k
    have h2 := bin_step n (k + 1)
    rw [bin, bin]
    simp only [Int.natCast_add] at h1 h2 ⊢
    generalize (bin n k : Int) = a at *
    generalize (bin n (k + 1) : Int) = b at *
    generalize (bin n (k + 1 + 1) : Int) = c at *
    generalize (n : Int) = N at *
    generalize (k : Int) = K at *
    simp only [Int.mul_add, Int.add_mul, Int.mul_sub, Int.sub_mul] at h1 h2 ⊢
    simp only [Int.mul_one] at h1 h2 ⊢
    omega
theorem bin_pos : ∀ {n k : Nat}, k ≤ n → 0 < bin n k
  | _, 0, _ => by rw [bin_zero]; decide
  | 0, k + 1, h => absurd h (by omega)
  | n + 1, k + 1, h => by rw [bin]; have := bin_pos (n := n) (k := k) (by omega); omega
theorem bin_le_pow : ∀ (n k : Nat), bin n k ≤ 2 ^ n
  | 0, 0 => by decide
  | 0, _ + 1 => by simp [bin]
  | n + 1, 0 => by rw [bin_zero]; exact Nat.pow_pos (by decide)
  | n + 1, k + 1 => by rw [bin, Nat.pow_succ]; have := bin_le_pow n k; have := bin_le_pow n (k + 1); omega
theorem bin_symm : ∀ {n k : Nat}, k ≤ n → bin n (n - k) = bin n k
  | 0, 0, _ => rfl
  | 0, k + 1, h => absurd h (by omega)
  | n + 1, 0, _ => by rw [Nat.sub_zero, bin_self, bin_zero]
  | n + 1, k + 1, h => by
    rcases Nat.lt_or_eq_of_le h with h1 | h1
    · have e : n + 1 - (k + 1) = (n - (k + 1)) + 1 := by omega
      have e2 : n - (k + 1) + 1 = n - k := by omega
      rw [e, bin, bin_symm (by omega : k + 1 ≤ n), e2, bin_symm (by omega : k ≤ n), bin, Nat.add_comm]
    · rw [h1, Nat.sub_self, bin_zero, bin_self]
theorem pow_s (x : Int) (n : Nat) : x ^ (n + 1) = x * x ^ n := by rw [Int.pow_succ, Int.mul_comm]
/-- The power of a sum. -/
theorem bin_thm (a b : Int) : ∀ n, sm (fun k => (bin n k : Int) * (a ^ k * b ^ (n - k))) (n + 1) = (a + b) ^ n
  | 0 => by simp [sm, bin]
  | n + 1 => by
    have ih := bin_thm a b n
    rw [sm_first]
    have h1 : sm (fun k => (bin (n + 1) (k + 1) : Int) * (a ^ (k + 1) * b ^ (n + 1 - (k + 1)))) (n + 1)
        = sm (fun k => a * ((bin n k : Int) * (a ^ k * b ^ (n - k))) + (bin n (k + 1) : Int) * (a ^ (k + 1) * b ^ (n - k))) (n + 1) :=
      sm_congr _ fun k _ => by
        have e : n + 1 - (k + 1) = n - k := by omega
        rw [e, bin, Int.natCast_add, Int.add_mul, pow_s]
        congr 1
        rw [Int.mul_assoc, Int.mul_left_comm]
    rw [h1, sm_add, sm_mul, ih]
    have h2 : sm (fun k => (bin n (k + 1) : Int) * (a ^ (k + 1) * b ^ (n - k))) (n + 1) = sm (fun k => b * ((bin n (k + 1) : Int) * (a ^ (k + 1) * b ^ (n - (k + 1))))) n := by
      rw [sm, bin_lt (Nat.lt_succ_self n), Int.natCast_zero, Int.zero_mul, Int.add_zero]
      refine sm_congr _ fun k hk => ?_
      have e : n - k = (n - (k + 1)) + 1 := by omega
      rw [e, pow_s b]
      simp only [Int.mul_comm, Int.mul_left_comm, Int.mul_assoc]
    have h3 := sm_first (fun k => (bin n k : Int) * (a ^ k * b ^ (n - k))) n
    rw [ih] at h3
    rw [h2, sm_mul, bin_zero]
    rw [bin_zero] at h3
    simp only [Int.pow_zero, Int.one_mul, Nat.sub_zero, Int.natCast_one] at h3 ⊢
    rw [pow_s, pow_s, Int.add_mul, h3]
    simp only [Int.mul_add]
    omega

/-! ### polynomials by their values -/
/-- A polynomial at x / y, times y to the power of its degree. -/
def hev : List Int → Int → Int → Int
  | [], _, _ => 0
  | c :: r, x, y => c * y ^ r.length + x * hev r x y
theorem hev_sm : ∀ (p : List Int) (x y : Int), hev p x y = sm (fun i => p.getD i 0 * (x ^ i * y ^ (p.length - 1 - i))) p.length
  | [], _, _ => rfl
  | c :: r, x, y => by
    rw [hev, List.length_cons, sm_first, hev_sm r x y, ← sm_mul]
    congr 1
    · simp
    · refine sm_congr _ fun i hi => ?_
      have e : r.length + 1 - 1 - (i + 1) = r.length - 1 - i := by omega
      rw [e, pow_s, List.getD_cons_succ]
      simp only [Int.mul_comm, Int.mul_left_comm, Int.mul_assoc]
/-- Lists of equal length with equal values are equal. -/
theorem hev_uniq : ∀ {p q : List Int}, p.length = q.length → (∀ x : Int, 1 ≤ x → hev p x 1 = hev q x 1) → p = q
  | [], [], _, _ => rfl
  | [], _ :: _, h, _ => by simp at h
  | _ :: _, [], h, _ => by simp at h
  | a :: p, b :: q, hl, h => by
    simp only [hev, Int.one_pow, Int.mul_one] at h
    have hab : a = b := by
      have h1 := h ((a - b).natAbs + 1) (by omega)
      generalize hev p _ 1 = A at h1
      generalize hev q _ 1 = B at h1
      have h2 : a - b = (((a - b).natAbs : Int) + 1) * (B - A) := by rw [Int.mul_sub]; omega
      have h3 : (((a - b).natAbs : Int) + 1) ∣ (a - b) := ⟨_, h2⟩
      have h4 := Int.natAbs_dvd_natAbs.2 h3
      rcases Nat.eq_zero_or_pos (a - b).natAbs with h0 | h0
      · omega
      · have := Nat.le_of_dvd h0 h4
        omega
    subst hab
    congr 1
    refine hev_uniq (by simpa using hl) fun x hx => ?_
    have h1 := h x hx
    have h2 : x * hev p x 1 = x * hev q x 1 := by omega
    exact Int.eq_of_mul_eq_mul_left (by omega) h2
theorem hev_append : ∀ (p q : List Int) (x y : Int), hev (p ++ q) x y = y ^ q.length * hev p x y + x ^ p.length * hev q x y
  | [], q, x, y => by simp [hev]
  | c :: r, q, x, y => by
    rw [List.cons_append, hev, hev, hev_append r q x y, List.length_append, List.length_cons, Int.pow_add, pow_s]
    simp only [Int.mul_add]
    simp only [Int.mul_comm, Int.mul_left_comm, Int.mul_assoc]
    omega
theorem hev_reverse : ∀ (p : List Int) (x y : Int), hev p.reverse x y = hev p y x
  | [], _, _ => rfl
  | c :: r, x, y => by
    rw [List.reverse_cons, hev_append, hev_reverse r x y]
    simp only [hev, List.length_nil, List.length_singleton, List.length_reverse, Int.pow_zero, Int.mul_one, Int.mul_zero, Int.add_zero]
    rw [show y ^ 1 = y from by rw [Int.pow_succ, Int.pow_zero, Int.one_mul], Int.mul_comm c]
    omega
/-- A list of sums of products, at two values. -/
theorem hev_ofFn (F : Nat → Int) (n : Nat) (x y : Int) : hev ((List.range (n + 1)).map F) x y = sm (fun j => F j * (x ^ j * y ^ (n - j))) (n + 1) := by
  rw [hev_sm]
  simp only [List.length_map, List.length_range]
  refine sm_congr _ fun j hj => ?_
  rw [List.getD_eq_getElem?_getD]
  simp [hj]

/-- The list whose value at x, y is the sum of f i x^i (c x + y)^(n - i). -/
def trans (f : List Int) (c : Int) (n : Nat) : List Int := (List.range (n + 1)).map fun j => sm (fun i => f.getD i 0 * (c ^ (j - i) * (bin (n - i) (j - i) : Int))) (j + 1)
theorem trans_length (f : List Int) (c : Int) (n : Nat) : (trans f c n).length = n + 1 := by simp [trans]
theorem mul_pow' (a b : Int) : ∀ n : Nat, (a * b) ^ n = a ^ n * b ^ n
  | 0 => by simp
  | n + 1 => by rw [pow_s, pow_s, pow_s, mul_pow' a b n]; simp only [Int.mul_comm, Int.mul_left_comm, Int.mul_assoc]
theorem sm_mulr (c : Int) (f : Nat → Int) (n : Nat) : sm (fun i => f i * c) n = sm f n * c := by
  rw [Int.mul_comm, ← sm_mul]; exact sm_congr n fun i _ => Int.mul_comm _ _
theorem trans_hev (f : List Int) (c : Int) (n : Nat) (x y : Int) : hev (trans f c n) x y = sm (fun i => f.getD i 0 * (x ^ i * (c * x + y) ^ (n - i))) (n + 1) := by
  rw [trans, hev_ofFn]
  have h1 : sm (fun j => sm (fun i => f.getD i 0 * (c ^ (j - i) * (bin (n - i) (j - i) : Int))) (j + 1) * (x ^ j * y ^ (n - j))) (n + 1)
      = sm (fun j => sm (fun i => f.getD i 0 * (c ^ (j - i) * (bin (n - i) (j - i) : Int)) * (x ^ j * y ^ (n - j))) (j + 1)) (n + 1) :=
    sm_congr _ fun j _ => (sm_mulr _ _ _).symm
  rw [h1, sm_tri (fun i j => f.getD i 0 * (c ^ (j - i) * (bin (n - i) (j - i) : Int)) * (x ^ j * y ^ (n - j)))]
  refine sm_congr _ fun i hi => ?_
  have e : n + 1 - i = (n - i) + 1 := by omega
  rw [← bin_thm (c * x) y (n - i), e, ← sm_mul, ← sm_mul]
  refine sm_congr _ fun k hk => ?_
  have e1 : i + k - i = k := by omega
  have e2 : n - (i + k) = n - i - k := by omega
  rw [e1, e2, mul_pow', Int.pow_add]
  simp only [Int.mul_comm, Int.mul_left_comm, Int.mul_assoc]
theorem hev_deg {f : List Int} {n : Nat} (h : f.length ≤ n + 1) (x s : Int) : sm (fun i => f.getD i 0 * (x ^ i * s ^ (n - i))) (n + 1) = s ^ (n + 1 - f.length) * hev f x s := by
  rw [sm_more _ h (fun i h1 _ => by rw [List.getD_eq_getElem?_getD, List.getElem?_eq_none h1]; simp), hev_sm, ← sm_mul]
  refine sm_congr _ fun i hi => ?_
  have e : n - i = (n + 1 - f.length) + (f.length - 1 - i) := by omega
  rw [e, Int.pow_add]
  simp only [Int.mul_comm, Int.mul_left_comm, Int.mul_assoc]
theorem trans_hev' {f : List Int} {n : Nat} (h : f.length ≤ n + 1) (c x y : Int) : hev (trans f c n) x y = (c * x + y) ^ (n + 1 - f.length) * hev f x (c * x + y) := by
  rw [trans_hev, hev_deg h]
theorem trans_full {f : List Int} {n : Nat} (h : f.length = n + 1) (c x y : Int) : hev (trans f c n) x y = hev f x (c * x + y) := by
  rw [trans_hev' (by omega), h, Nat.sub_self, Int.pow_zero, Int.one_mul]
/-- Each value times a power. -/
def scaleP (b : Int) (n : Nat) (f : List Int) : List Int := (List.range (n + 1)).map fun j => f.getD j 0 * b ^ (n - j)
theorem scaleP_hev {f : List Int} {n : Nat} (h : f.length = n + 1) (b x y : Int) : hev (scaleP b n f) x y = hev f x (b * y) := by
  rw [scaleP, hev_ofFn, hev_sm, h]
  refine sm_congr _ fun j hj => ?_
  rw [Nat.add_sub_cancel, mul_pow']
  simp only [Int.mul_comm, Int.mul_left_comm, Int.mul_assoc]
end Go.Dg

namespace Go.Proofs.Ytnpclmmmngmdkaa
open Go.Vl Go.RowKit Go.Dg

theorem p2_add {x y : Int} {B : Nat} (hx : x.natAbs < 2 ^ B) (hy : y.natAbs < 2 ^ B) : (x + y).natAbs < 2 ^ (B + 1) := by
  rw [Nat.pow_succ]; generalize 2 ^ B = K at *; omega
theorem p2_mul {x y : Int} {B C : Nat} (hx : x.natAbs < 2 ^ B) (hy : y.natAbs < 2 ^ C) : (x * y).natAbs < 2 ^ (B + C) := by
  rw [Int.natAbs_mul, Nat.pow_add]; exact Nat.mul_lt_mul'' hx hy
theorem p2_neg {x : Int} {B : Nat} (hx : x.natAbs < 2 ^ B) : (-x).natAbs < 2 ^ B := by rw [Int.natAbs_neg]; exact hx
theorem mag_ok {x : Int} (h : x.natAbs < 2 ^ 65536) : (digs 256 x.natAbs).length ≤ 8192 := (digs_len_le (by decide) x.natAbs 8192).2 (p2_256 (k := 8192) h (by decide))
theorem outPV_ok {n : Int} (h : n.natAbs < 2 ^ 65536) : outPV n = .tup [wPV n, .int .i64 0] := by
  rw [outPV, if_neg (Nat.not_lt.2 (blen_le 65536 _ h))]
theorem p2_blen {x : Int} {B : Nat} (h : x.natAbs < 2 ^ B) : blen x.natAbs ≤ B := blen_le B _ h
/-- The bytes of an integer. -/
abbrev mB (x : Int) : ByteArray := ⟨(magL x.natAbs).toArray⟩
theorem mB_size {x : Int} (h : x.natAbs < 2 ^ 65536) : (mB x).size ≤ 100000 := by rw [magL_size]; have := mag_ok h; omega
theorem mB_valid {x : Int} (h : x.natAbs < 2 ^ 65536) : validB (decide (x < 0)) (mB x).data.toList = true := validB_magL x (mag_ok h)
theorem sv_magL (x : Int) : (bnum (mB x).data.toList) = x.natAbs := by
  have h := wnum_magL x
  unfold wnum at h
  have h2 := congrArg Int.natAbs h
  rwa [sv_abs] at h2
theorem wMul_i {x y : Int} (hx : x.natAbs < 2 ^ 65536) (hy : y.natAbs < 2 ^ 65536) : SoundAt Try.prog 56 [wPV x, wPV y] (outPV (x * y)) := by
  have h := wMul_v (decide (x < 0)) (decide (y < 0)) (mB x) (mB y) (mB_valid hx) (mB_valid hy) (mB_size hx) (mB_size hy)
  rwa [wnum_magL, wnum_magL] at h
theorem wAdd_i {x y : Int} (hx : x.natAbs < 2 ^ 65536) (hy : y.natAbs < 2 ^ 65536) : SoundAt Try.prog 57 [wPV x, wPV y] (outPV (x + y)) := by
  have h := wAdd_v (decide (x < 0)) (decide (y < 0)) (mB x) (mB y) (mB_valid hx) (mB_valid hy) (mB_size hx) (mB_size hy)
  rwa [wnum_magL, wnum_magL] at h
theorem wShift_i {x : Int} (n : Int) (hx : x.natAbs < 2 ^ 65536) (h1 : -65536 ≤ n) (h2 : n ≤ 65536) : SoundAt Try.prog 38 [wPV x, .int .i64 n] (outPV (shiftI x n)) := by
  have h := wShift_v (decide (x < 0)) (mB x) n (mB_valid hx) h1 h2 (mB_size hx)
  rwa [wnum_magL] at h
theorem wSign_i {x : Int} (hx : x.natAbs < 2 ^ 65536) : SoundAt Try.prog 34 [wPV x] (.int .i64 x.sign) := by
  have h := wSign_v (decide (x < 0)) (mB x) (mB_valid hx) (mB_size hx)
  rwa [wnum_magL] at h
theorem wLen_i {x : Int} (hx : x.natAbs < 2 ^ 65536) : SoundAt Try.prog 45 [wPV x] (.int .i64 (blen x.natAbs : Int)) := by
  have h := wLen_v (decide (x < 0)) (mB x) (mB_valid hx) (mB_size hx)
  rwa [sv_magL] at h
theorem wValid_i {x : Int} (hx : x.natAbs < 2 ^ 65536) : SoundAt Try.prog 44 [wPV x] (.bool true) := by
  have h := wvalid_v (decide (x < 0)) (mB x)
  rwa [mB_valid hx] at h
theorem mB_ne {x : Int} (h : x ≠ 0) : (mB x).data.toList ≠ [] := fun e => h ((magL_nil x).1 e)
theorem wRatio_i {x y : Int} (hx : x.natAbs < 2 ^ 65536) (hy : y.natAbs < 2 ^ 65536) (h0 : y ≠ 0) : SoundAt Try.prog 60 [wPV x, wPV y] (outQ (lowN x y) (lowD x y)) := by
  have h := wRatio_v (decide (x < 0)) (decide (y < 0)) (mB x) (mB y) (mB_valid hx) (mB_valid hy) (mB_ne h0) (mB_size hx) (mB_size hy)
  rwa [wnum_magL, wnum_magL] at h
theorem vRat_i {x y : Int} (hx : x.natAbs < 2 ^ 65536) (hy : y.natAbs < 2 ^ 65536) (h0 : 0 < y) : vRat (decide (x < 0)) (mB x) (decide (y < 0)) (mB y) = true := by
  unfold vRat
  rw [mB_valid hx, mB_valid hy, empty_eq (mB_ne (show y ≠ 0 by omega))]
  have : decide (y < 0) = false := by simp; omega
  rw [this]; rfl
theorem wCompareRatio_i {a b c d : Int} (ha : a.natAbs < 2 ^ 65536) (hb : b.natAbs < 2 ^ 65536) (hc : c.natAbs < 2 ^ 65536) (hd : d.natAbs < 2 ^ 65536) (b0 : 0 < b) (d0 : 0 < d) :
    SoundAt Try.prog 61 [ratPV a b, ratPV c d] (.tup [.int .i64 (a * d - c * b).sign, .int .i64 0]) := by
  have h := wCompareRatio_v (decide (a < 0)) (decide (b < 0)) (decide (c < 0)) (decide (d < 0)) (mB a) (mB b) (mB c) (mB d) (vRat_i ha hb b0) (vRat_i hc hd d0) (mB_size ha) (mB_size hb) (mB_size hc) (mB_size hd)
  rwa [wnum_magL, wnum_magL, wnum_magL, wnum_magL] at h
theorem wMulRatio_i {a b c d : Int} (ha : a.natAbs < 2 ^ 65536) (hb : b.natAbs < 2 ^ 65536) (hc : c.natAbs < 2 ^ 65536) (hd : d.natAbs < 2 ^ 65536) (b0 : 0 < b) (d0 : 0 < d) :
    SoundAt Try.prog 40 [ratPV a b, ratPV c d] (outQ (lowN (a * c) (b * d)) (lowD (a * c) (b * d))) := by
  have h := wMulRatio_v (decide (a < 0)) (decide (b < 0)) (decide (c < 0)) (decide (d < 0)) (mB a) (mB b) (mB c) (mB d) (vRat_i ha hb b0) (vRat_i hc hd d0) (mB_size ha) (mB_size hb) (mB_size hc) (mB_size hd)
  rwa [wnum_magL, wnum_magL, wnum_magL, wnum_magL] at h
theorem e9_p2 {x : Int} {B k : Nat} (h : x.natAbs < 2 ^ B) (hk : B ≤ 8 * k) : (digs E9 x.natAbs).length ≤ k := (small_ok x k (p2_256 h hk)).1
theorem d8_p2 {x : Int} {B k : Nat} (h : x.natAbs < 2 ^ B) (hk : B ≤ 8 * k) : (digs 256 x.natAbs).length ≤ k := (small_ok x k (p2_256 h hk)).2
theorem rto_i {x : Int} (h : x.natAbs < 2 ^ 8000000) : SoundAt Try.prog 25 [rI x] (wPV x) := rto_v x (e9_p2 h (by decide)) (Nat.le_trans (d8_p2 h (k := 1000000) (by decide)) (by decide))
theorem radd_i {x y : Int} (hx : x.natAbs < 2 ^ 7000000) (hy : y.natAbs < 2 ^ 7000000) : SoundAt Try.prog 26 [rI x, rI y] (rI (x + y)) :=
  radd_v x y (e9_sum (k := 1000000) (by decide) (p2_256 (k := 1000000) hx (by decide)) (p2_256 (k := 1000000) hy (by decide)))
theorem rsub_i {x y : Int} (hx : x.natAbs < 2 ^ 7000000) (hy : y.natAbs < 2 ^ 7000000) : SoundAt Try.prog 52 [rI x, rI y] (rI (x - y)) :=
  rsub_v x y (e9_sum (k := 1000000) (by decide) (p2_256 (k := 1000000) hx (by decide)) (p2_256 (k := 1000000) hy (by decide)))
theorem rmul_i {x y : Int} (hx : x.natAbs < 2 ^ 7000000) (hy : y.natAbs < 2 ^ 7000000) : SoundAt Try.prog 27 [rI x, rI y] (rI (x * y)) :=
  rmul_v x y (by have := e9_p2 hx (k := 1000000) (by decide); have := e9_p2 hy (k := 1000000) (by decide); omega)
end Go.Proofs.Ytnpclmmmngmdkaa

namespace Go.Proofs.Ytnpclmmmngmdkaa
open Go.Vl Go.RowKit Go.Dg

def wA (p : Bool × ByteArray) : PV := .agg [.bool p.1, .str p.2]
theorem wA_get (l : List (Bool × ByteArray)) (i : Nat) (h : i < l.length) : (l.map wA)[i]? = some (.agg [.bool l[i].1, .str l[i].2]) := by
  rw [List.getElem?_map, List.getElem?_eq_getElem h]; rfl
theorem ba_beq (a b : ByteArray) : (a == b) = (a.data == b.data) := rfl
theorem ba_self (b : ByteArray) : (b == b) = true := by rw [ba_beq]; exact beq_self_eq_true _
def wL (xs : List Int) : PV := .slc (xs.map wPV)
def rL (xs : List Int) : PV := .slc (xs.map rI)
def wnP (p : Bool × ByteArray) : Int := wnum p.1 p.2
theorem wPV_get (xs : List Int) (i : Nat) (h : i < xs.length) : (xs.map wPV)[i]? = some (.agg [.bool (decide (xs[i] < 0)), .str (mB xs[i])]) := by
  rw [List.getElem?_map, List.getElem?_eq_getElem h]; rfl
theorem rI_get (xs : List Int) (i : Nat) (h : i < xs.length) : (xs.map rI)[i]? = some (.agg [.bool (decide (xs[i] < 0)), di (digs E9 xs[i].natAbs)]) := by
  rw [List.getElem?_map, List.getElem?_eq_getElem h]; rfl
theorem wA_wPV {l : List (Bool × ByteArray)} (h : l.all (fun p => validB p.1 p.2.data.toList) = true) : l.map wA = (l.map wnP).map wPV := by
  rw [List.map_map]
  refine List.map_congr_left fun p hp => ?_
  exact (wPV_wnum p.1 p.2 (List.all_eq_true.1 h p hp)).symm
theorem wPV_okf (xs : List Int) : (((xs.map wPV).flatMap PV.cells).all PV.okCell) = true := by
  rw [List.all_flatMap, List.all_map, List.all_eq_true]; intro _ _; rfl
theorem rI_okf (xs : List Int) : (((xs.map rI).flatMap PV.cells).all PV.okCell) = true := by
  rw [List.all_flatMap, List.all_map, List.all_eq_true]; intro _ _; rfl
theorem all_snoc {α : Type} {p : α → Bool} {l : List α} {i : Nat} (hi : i < l.length) (h : (l.take i).all p = true) (hp : p l[i] = true) : (l.take (i + 1)).all p = true := by
  rw [List.take_add_one, List.all_append, h]; simp [hi, hp]
theorem all_not {α : Type} {p : α → Bool} {l : List α} {i : Nat} (hi : i < l.length) (hp : p l[i] = false) : l.all p = false := by
  rw [List.all_eq_false]; exact ⟨l[i], List.getElem_mem hi, by simp [hp]⟩
theorem take_snoc {α : Type} (l : List α) (i : Nat) (hi : i < l.length) : l.take (i + 1) = l.take i ++ [l[i]] := by rw [List.take_add_one]; simp [hi]
theorem ltT {i n : Nat} (h : i < n) : ((i : Int) < (n : Int)) = True := by simp only [eq_iff_iff, iff_true]; omega
theorem ltF {i n : Nat} (h : ¬ i < n) : ((i : Int) < (n : Int)) = False := by simp only [eq_iff_iff, iff_false]; omega
theorem leT {i n : Nat} (h : i ≤ n) : ((i : Int) ≤ (n : Int)) = True := by simp only [eq_iff_iff, iff_true]; omega
theorem leF {i n : Nat} (h : ¬ i ≤ n) : ((i : Int) ≤ (n : Int)) = False := by simp only [eq_iff_iff, iff_false]; omega
theorem nnT (i : Nat) : ((0 : Int) ≤ (i : Int)) = True := by simp
/-- A polynomial that is valid. -/
def topB (l : List (Bool × ByteArray)) : Bool := match l[l.length - 1]? with
  | some p => decide (0 < p.2.size)
  | none => true
def validL (l : List (Bool × ByteArray)) : Bool := l.all fun p => validB p.1 p.2.data.toList
def polyB (l : List (Bool × ByteArray)) : Bool := validL l && (decide (l.length ≤ 25) && topB l)
theorem topB_last {l : List (Bool × ByteArray)} (h : l.length - 1 < l.length) : topB l = decide (0 < (l[l.length - 1]'h).2.size) := by
  unfold topB; rw [List.getElem?_eq_getElem h]
theorem rPValid_v (l : List (Bool × ByteArray)) (hl : l.length ≤ 100000) : SoundAt Try.prog 8 [.slc (l.map wA)] (.bool (polyB l)) := by
  refine sound_go (tb := []) 35 [.tmp 2] [0, 2, 3, 7, 15] mixed Try.func8 rfl (by kernel_rfl) (by kernel_rfl) (by kernel_rfl) (by kernel_rfl) ?_
  simp -implicitDefEqProofs only [go_sem, Nat.reduceAdd, Nat.reduceMul, Nat.reduceEqDiff, Nat.reduceLT, Nat.reduceLeDiff, Nat.reduceSub, Nat.reduceBEq, reduceIte, reduceCtorEq, Int.reduceEq, Int.reduceNe, Nat.reduceBneDiff, Int.reduceLE, Int.reduceLT, Int.reduceToNat, Int.reduceAdd, Int.reduceSub, Int.reduceMul, Int.reduceNeg]
  refine g_loop mixed (fun i : { i : Nat // i ≤ l.length ∧ (l.take i).all (fun p => validB p.1 p.2.data.toList) = true } => St.of [(0, .slc (l.map wA)), (3, .int .i64 (i.1 : Int))] []) (fun i => l.length - i.1) ⟨0, Nat.zero_le _, rfl⟩ ?_ ?_
  · exact le_vars (by simp [varsLe, lkp, ren1, ren0])
  · rintro ⟨i, hi, hall⟩
    by_cases hA : i < l.length
    · have hA' := ltT hA
      have h0 := nnT i
      have hg := wA_get l i hA
      have hwk := wrap_add1 (a := i) (by omega)
      simp -implicitDefEqProofs only [go_sem, Nat.reduceAdd, Nat.reduceMul, Nat.reduceEqDiff, Nat.reduceLT, Nat.reduceLeDiff, Nat.reduceSub, Nat.reduceBEq, reduceIte, reduceCtorEq, Int.reduceEq, Int.reduceNe, Nat.reduceBneDiff, Int.reduceLE, Int.reduceLT, Int.reduceToNat, Int.reduceAdd, Int.reduceSub, Int.reduceMul, Int.reduceNeg, hA', h0, hg, Int.toNat_natCast, List.length_map]
      refine gcall_intro _ _ _ _ _ _ _ _ _ (rvalid_v l[i].1 l[i].2) ?_
      cases hs : validB l[i].1 l[i].2.data.toList with
      | true =>
        simp -implicitDefEqProofs only [go_sem, Nat.reduceAdd, Nat.reduceMul, Nat.reduceEqDiff, Nat.reduceLT, Nat.reduceLeDiff, Nat.reduceSub, Nat.reduceBEq, reduceIte, reduceCtorEq, Int.reduceEq, Int.reduceNe, Nat.reduceBneDiff, Int.reduceLE, Int.reduceLT, Int.reduceToNat, Int.reduceAdd, Int.reduceSub, Int.reduceMul, Int.reduceNeg, hwk]
        exact ⟨⟨i + 1, hA, all_snoc hA hall hs⟩, by simp only; omega, le_vars (by simp [varsLe, lkp, ren1, ren0])⟩
      | false =>
        have e : polyB l = false := by unfold polyB validL; rw [all_not hA hs]; rfl
        simp -implicitDefEqProofs only [go_sem, Nat.reduceAdd, Nat.reduceMul, Nat.reduceEqDiff, Nat.reduceLT, Nat.reduceLeDiff, Nat.reduceSub, Nat.reduceBEq, reduceIte, reduceCtorEq, Int.reduceEq, Int.reduceNe, Nat.reduceBneDiff, Int.reduceLE, Int.reduceLT, Int.reduceToNat, Int.reduceAdd, Int.reduceSub, Int.reduceMul, Int.reduceNeg, e]
    · have hA' := ltF hA
      rw [List.take_of_length_le (by omega)] at hall
      have e0 : polyB l = (decide (l.length ≤ 25) && topB l) := by unfold polyB validL; rw [hall, Bool.true_and]
      rw [e0]
      by_cases h25 : l.length ≤ 25
      · have h25' : ((l.length : Int) ≤ 25) = True := by simp only [eq_iff_iff, iff_true]; omega
        rw [decide_eq_true h25, Bool.true_and]
        by_cases hz : l.length = 0
        · have hz' : ((l.length : Int) == 0) = true := by rw [hz]; rfl
          have ht : topB l = true := by rw [List.length_eq_zero_iff.1 hz]; rfl
          repeat (first | (simp -implicitDefEqProofs only [go_sem, Nat.reduceAdd, Nat.reduceMul, Nat.reduceEqDiff, Nat.reduceLT, Nat.reduceLeDiff, Nat.reduceSub, Nat.reduceBEq, reduceIte, reduceCtorEq, Int.reduceEq, Int.reduceNe, Nat.reduceBneDiff, Int.reduceLE, Int.reduceLT, Int.reduceToNat, Int.reduceAdd, Int.reduceSub, Int.reduceMul, Int.reduceNeg, hA', h25', hz', ht, List.length_map]) | (with_reducible exact drawQ_true _ _ (by kernel_rfl)) | (with_reducible refine And.intro (drawQ_true _ _ (by kernel_rfl)) ?_))
        · have hz' : ((l.length : Int) == 0) = false := by simp only [beq_eq_false_iff_ne, ne_eq]; omega
          have hlt : l.length - 1 < l.length := by omega
          have hg := wA_get l (l.length - 1) hlt
          have hwm : IntKind.i64.wrap ((l.length : Int) - 1) = ((l.length - 1 : Nat) : Int) := by rw [wrap_i64 (by omega) (by omega)]; omega
          have h0 := nnT (l.length - 1)
          have ht := topB_last hlt
          have e5 : decide ((0 : Int) < ((l[l.length - 1].2.size : Nat) : Int)) = decide (0 < l[l.length - 1].2.size) := by simp only [decide_eq_decide]; omega
          repeat (first | (simp -implicitDefEqProofs only [go_sem, Nat.reduceAdd, Nat.reduceMul, Nat.reduceEqDiff, Nat.reduceLT, Nat.reduceLeDiff, Nat.reduceSub, Nat.reduceBEq, reduceIte, reduceCtorEq, Int.reduceEq, Int.reduceNe, Nat.reduceBneDiff, Int.reduceLE, Int.reduceLT, Int.reduceToNat, Int.reduceAdd, Int.reduceSub, Int.reduceMul, Int.reduceNeg, hA', h25', hz', ht, hwm, h0, hg, e5, List.length_map, Int.toNat_natCast]) | (with_reducible exact drawQ_true _ _ (by kernel_rfl)) | (with_reducible refine And.intro (drawQ_true _ _ (by kernel_rfl)) ?_))
      · have h25' : ((l.length : Int) ≤ 25) = False := by simp only [eq_iff_iff, iff_false]; omega
        rw [decide_eq_false h25, Bool.false_and]
        repeat (first | (simp -implicitDefEqProofs only [go_sem, Nat.reduceAdd, Nat.reduceMul, Nat.reduceEqDiff, Nat.reduceLT, Nat.reduceLeDiff, Nat.reduceSub, Nat.reduceBEq, reduceIte, reduceCtorEq, Int.reduceEq, Int.reduceNe, Nat.reduceBneDiff, Int.reduceLE, Int.reduceLT, Int.reduceToNat, Int.reduceAdd, Int.reduceSub, Int.reduceMul, Int.reduceNeg, hA', h25', List.length_map]) | (with_reducible exact drawQ_true _ _ (by kernel_rfl)) | (with_reducible refine And.intro (drawQ_true _ _ (by kernel_rfl)) ?_))
theorem pValid_v (l : List (Bool × ByteArray)) (hl : l.length ≤ 100000) (hs2 : ∀ p ∈ l, p.2.size ≤ 100000) : SoundAt Try.prog 21 [.slc (l.map wA)] (.bool (polyB l)) := by
  refine sound_go (tb := []) 33 [.tmp 2] [0, 2, 4, 5, 6, 7, 8, 13] mixed Try.func21 rfl (by kernel_rfl) (by kernel_rfl) (by kernel_rfl) (by kernel_rfl) ?_
  simp -implicitDefEqProofs only [go_sem, Nat.reduceAdd, Nat.reduceMul, Nat.reduceEqDiff, Nat.reduceLT, Nat.reduceLeDiff, Nat.reduceSub, Nat.reduceBEq, reduceIte, reduceCtorEq, Int.reduceEq, Int.reduceNe, Nat.reduceBneDiff, Int.reduceLE, Int.reduceLT, Int.reduceToNat, Int.reduceAdd, Int.reduceSub, Int.reduceMul, Int.reduceNeg, List.length_map]
  refine g_loop mixed (fun i : { i : Nat // i ≤ l.length ∧ (l.take i).all (fun p => validB p.1 p.2.data.toList) = true } => St.of [(0, .slc (l.map wA)), (5, .slc (l.map wA)), (6, .int .i64 (l.length : Int)), (7, .int .i64 (i.1 : Int))] []) (fun i => l.length - i.1) ⟨0, Nat.zero_le _, rfl⟩ ?_ ?_
  · exact le_vars (by simp [varsLe, lkp, ren1, ren0])
  · rintro ⟨i, hi, hall⟩
    by_cases hA : i < l.length
    · have hA' := ltT hA
      have h0 := nnT i
      have hg := wA_get l i hA
      have hwk := wrap_add1 (a := i) (by omega)
      simp -implicitDefEqProofs only [go_sem, Nat.reduceAdd, Nat.reduceMul, Nat.reduceEqDiff, Nat.reduceLT, Nat.reduceLeDiff, Nat.reduceSub, Nat.reduceBEq, reduceIte, reduceCtorEq, Int.reduceEq, Int.reduceNe, Nat.reduceBneDiff, Int.reduceLE, Int.reduceLT, Int.reduceToNat, Int.reduceAdd, Int.reduceSub, Int.reduceMul, Int.reduceNeg, hA', h0, hg, Int.toNat_natCast]
      refine gcall_intro _ _ _ _ _ _ _ _ _ (wvalid_v l[i].1 l[i].2) ?_
      cases hs : validB l[i].1 l[i].2.data.toList with
      | true =>
        simp -implicitDefEqProofs only [go_sem, Nat.reduceAdd, Nat.reduceMul, Nat.reduceEqDiff, Nat.reduceLT, Nat.reduceLeDiff, Nat.reduceSub, Nat.reduceBEq, reduceIte, reduceCtorEq, Int.reduceEq, Int.reduceNe, Nat.reduceBneDiff, Int.reduceLE, Int.reduceLT, Int.reduceToNat, Int.reduceAdd, Int.reduceSub, Int.reduceMul, Int.reduceNeg, hwk]
        exact ⟨⟨i + 1, hA, all_snoc hA hall hs⟩, by simp only; omega, le_vars (by simp [varsLe, lkp, ren1, ren0])⟩
      | false =>
        have e : polyB l = false := by unfold polyB validL; rw [all_not hA hs]; rfl
        simp -implicitDefEqProofs only [go_sem, Nat.reduceAdd, Nat.reduceMul, Nat.reduceEqDiff, Nat.reduceLT, Nat.reduceLeDiff, Nat.reduceSub, Nat.reduceBEq, reduceIte, reduceCtorEq, Int.reduceEq, Int.reduceNe, Nat.reduceBneDiff, Int.reduceLE, Int.reduceLT, Int.reduceToNat, Int.reduceAdd, Int.reduceSub, Int.reduceMul, Int.reduceNeg, e]
    · have hA' := ltF hA
      rw [List.take_of_length_le (by omega)] at hall
      have e0 : polyB l = (decide (l.length ≤ 25) && topB l) := by unfold polyB validL; rw [hall, Bool.true_and]
      rw [e0]
      by_cases h25 : l.length ≤ 25
      · have h25' : ((l.length : Int) ≤ 25) = True := by simp only [eq_iff_iff, iff_true]; omega
        rw [decide_eq_true h25, Bool.true_and]
        by_cases hz : l.length = 0
        · have hz' : ((l.length : Int) == 0) = true := by rw [hz]; rfl
          have ht : topB l = true := by rw [List.length_eq_zero_iff.1 hz]; rfl
          repeat (first | (simp -implicitDefEqProofs only [go_sem, Nat.reduceAdd, Nat.reduceMul, Nat.reduceEqDiff, Nat.reduceLT, Nat.reduceLeDiff, Nat.reduceSub, Nat.reduceBEq, reduceIte, reduceCtorEq, Int.reduceEq, Int.reduceNe, Nat.reduceBneDiff, Int.reduceLE, Int.reduceLT, Int.reduceToNat, Int.reduceAdd, Int.reduceSub, Int.reduceMul, Int.reduceNeg, hA', h25', hz', ht, List.length_map]) | (with_reducible exact drawQ_true _ _ (by kernel_rfl)) | (with_reducible refine And.intro (drawQ_true _ _ (by kernel_rfl)) ?_))
        · have hz' : ((l.length : Int) == 0) = false := by simp only [beq_eq_false_iff_ne, ne_eq]; omega
          have hlt : l.length - 1 < l.length := by omega
          have hg := wA_get l (l.length - 1) hlt
          have hwm : IntKind.i64.wrap ((l.length : Int) - 1) = ((l.length - 1 : Nat) : Int) := by rw [wrap_i64 (by omega) (by omega)]; omega
          have h0 := nnT (l.length - 1)
          have hv := List.all_eq_true.1 hall _ (List.getElem_mem hlt)
          have hsg := wSign_v l[l.length - 1].1 l[l.length - 1].2 hv (hs2 _ (List.getElem_mem hlt))
          have e5 : ((wnum l[l.length - 1].1 l[l.length - 1].2).sign != 0) = topB l := by
            rw [topB_last hlt, bne, Bool.eq_iff_iff]
            simp only [Bool.not_eq_true', beq_eq_false_iff_ne, ne_eq, Int.sign_eq_zero_iff_zero, decide_eq_true_eq]
            rw [ba_size]
            constructor
            · intro h
              refine Nat.pos_of_ne_zero fun e => h ?_
              exact wnum_nil (List.length_eq_zero_iff.1 e)
            · intro h
              exact wnum_ne hv (fun e => by rw [e] at h; exact absurd h (by decide))
          repeat (first | (simp -implicitDefEqProofs only [go_sem, Nat.reduceAdd, Nat.reduceMul, Nat.reduceEqDiff, Nat.reduceLT, Nat.reduceLeDiff, Nat.reduceSub, Nat.reduceBEq, reduceIte, reduceCtorEq, Int.reduceEq, Int.reduceNe, Nat.reduceBneDiff, Int.reduceLE, Int.reduceLT, Int.reduceToNat, Int.reduceAdd, Int.reduceSub, Int.reduceMul, Int.reduceNeg, hA', h25', hz', hwm, h0, hg, e5, List.length_map, Int.toNat_natCast]) | ((with_reducible refine gcall_eq (hsg) ?_ ?_ ?_); (with_reducible rfl); rfl) | (with_reducible exact drawQ_true _ _ (by kernel_rfl)) | (with_reducible refine And.intro (drawQ_true _ _ (by kernel_rfl)) ?_))
      · have h25' : ((l.length : Int) ≤ 25) = False := by simp only [eq_iff_iff, iff_false]; omega
        rw [decide_eq_false h25, Bool.false_and]
        repeat (first | (simp -implicitDefEqProofs only [go_sem, Nat.reduceAdd, Nat.reduceMul, Nat.reduceEqDiff, Nat.reduceLT, Nat.reduceLeDiff, Nat.reduceSub, Nat.reduceBEq, reduceIte, reduceCtorEq, Int.reduceEq, Int.reduceNe, Nat.reduceBneDiff, Int.reduceLE, Int.reduceLT, Int.reduceToNat, Int.reduceAdd, Int.reduceSub, Int.reduceMul, Int.reduceNeg, hA', h25', List.length_map]) | (with_reducible exact drawQ_true _ _ (by kernel_rfl)) | (with_reducible refine And.intro (drawQ_true _ _ (by kernel_rfl)) ?_))
/-- Equal lists are the same. -/
theorem rSame_v (xs : List Int) (hl : xs.length ≤ 1000000) : SoundAt Try.prog 9 [wL xs, wL xs] (.bool true) := by
  have b1 : ∀ b : Bool, (b == b) = true := fun b => by cases b <;> rfl
  have n1 : ((xs.length : Int) != (xs.length : Int)) = false := by simp
  refine sound_go (tb := []) 26 [.tmp 4] [0, 1, 4, 5, 10, 14, 25] mixed Try.func9 rfl (by kernel_rfl) (by kernel_rfl) (by kernel_rfl) (by kernel_rfl) ?_
  simp -implicitDefEqProofs only [go_sem, Nat.reduceAdd, Nat.reduceMul, Nat.reduceEqDiff, Nat.reduceLT, Nat.reduceLeDiff, Nat.reduceSub, Nat.reduceBEq, reduceIte, reduceCtorEq, Int.reduceEq, Int.reduceNe, Nat.reduceBneDiff, Int.reduceLE, Int.reduceLT, Int.reduceToNat, Int.reduceAdd, Int.reduceSub, Int.reduceMul, Int.reduceNeg, wL, List.length_map, n1]
  refine g_loop mixed (fun i : { i : Nat // i ≤ xs.length } => St.of [(0, wL xs), (1, wL xs), (5, .int .i64 (i.1 : Int))] []) (fun i => xs.length - i.1) ⟨0, Nat.zero_le _⟩ ?_ ?_
  · exact le_vars (by simp [varsLe, lkp, ren1, ren0, wL])
  · rintro ⟨i, hi⟩
    by_cases hA : i < xs.length
    · have hA' := ltT hA
      have h0 := nnT i
      have hg := wPV_get xs i hA
      have hwk := wrap_add1 (a := i) (by omega)
      simp -implicitDefEqProofs only [go_sem, Nat.reduceAdd, Nat.reduceMul, Nat.reduceEqDiff, Nat.reduceLT, Nat.reduceLeDiff, Nat.reduceSub, Nat.reduceBEq, reduceIte, reduceCtorEq, Int.reduceEq, Int.reduceNe, Nat.reduceBneDiff, Int.reduceLE, Int.reduceLT, Int.reduceToNat, Int.reduceAdd, Int.reduceSub, Int.reduceMul, Int.reduceNeg, wL, List.length_map, hA', h0, hg, Int.toNat_natCast, b1, ba_self, hwk]
      exact ⟨drawQ_true _ _ (by kernel_rfl), ⟨i + 1, hA⟩, by simp only; omega, le_vars (by simp [varsLe, lkp, ren1, ren0, wL])⟩
    · have hA' := ltF hA
      simp -implicitDefEqProofs only [go_sem, Nat.reduceAdd, Nat.reduceMul, Nat.reduceEqDiff, Nat.reduceLT, Nat.reduceLeDiff, Nat.reduceSub, Nat.reduceBEq, reduceIte, reduceCtorEq, Int.reduceEq, Int.reduceNe, Nat.reduceBneDiff, Int.reduceLE, Int.reduceLT, Int.reduceToNat, Int.reduceAdd, Int.reduceSub, Int.reduceMul, Int.reduceNeg, wL, List.length_map, hA']
theorem rPFrom_v (l : List (Bool × ByteArray)) (hl : l.length ≤ 1000000) (hs : ∀ p ∈ l, p.2.size ≤ 1000000) : SoundAt Try.prog 12 [.slc (l.map wA)] (rL (l.map wnP)) := by
  refine sound_go (tb := []) 20 [.tmp 2] [0, 2, 3, 4, 8] mixed Try.func12 rfl (by kernel_rfl) (by kernel_rfl) (by kernel_rfl) (by kernel_rfl) ?_
  simp -implicitDefEqProofs only [go_sem, Nat.reduceAdd, Nat.reduceMul, Nat.reduceEqDiff, Nat.reduceLT, Nat.reduceLeDiff, Nat.reduceSub, Nat.reduceBEq, reduceIte, reduceCtorEq, Int.reduceEq, Int.reduceNe, Nat.reduceBneDiff, Int.reduceLE, Int.reduceLT, Int.reduceToNat, Int.reduceAdd, Int.reduceSub, Int.reduceMul, Int.reduceNeg]
  refine g_loop mixed (fun i : { i : Nat // i ≤ l.length } => St.of [(0, .slc (l.map wA)), (3, .bs 7 2 0 i.1), (4, .int .i64 (i.1 : Int))]
    [(7, { els := ((l.take i.1).map wnP).map rI, esz := 2, ety := 63, fro := 0, live := true, arr := true })]) (fun i => l.length - i.1) ⟨0, Nat.zero_le _⟩ ?_ ?_
  · refine le_nil1 3 7 2 63 rfl rfl rfl (by decide) [(7, 7)] rfl ?_ ?_
    · simp [varsLe, lkp, ren1, ren0]
    · simp [boxesLe, lkp, Box.renames]
  · rintro ⟨i, hi⟩
    have hlen : (((l.take i).map wnP).map rI).length = i := by simp; omega
    by_cases hA : i < l.length
    · have hA' := ltT hA
      have h0 := nnT i
      have hg := wA_get l i hA
      have hwk := wrap_add1 (a := i) (by omega)
      have q1 : (i == i) = true := beq_self_eq_true i
      have q2 : ((i + 1) * 32 ≤ 140737488355328) = True := by simp only [eq_iff_iff, iff_true]; omega
      have q3 : (i + 1 ≤ maxLen) = True := by simp only [eq_iff_iff, iff_true]; unfold maxLen; omega
      have hf : SoundAt Try.prog 30 [.agg [.bool l[i].1, .str l[i].2]] (rI (wnP l[i])) := rfrom_v l[i].1 l[i].2 (hs _ (List.getElem_mem hA))
      have htk : ((l.take (i + 1)).map wnP).map rI = ((l.take i).map wnP).map rI ++ [rI (wnP l[i])] := by rw [take_snoc l i hA, List.map_append, List.map_append]; rfl
      simp -implicitDefEqProofs only [go_sem, Nat.reduceAdd, Nat.reduceMul, Nat.reduceEqDiff, Nat.reduceLT, Nat.reduceLeDiff, Nat.reduceSub, Nat.reduceBEq, reduceIte, reduceCtorEq, Int.reduceEq, Int.reduceNe, Nat.reduceBneDiff, Int.reduceLE, Int.reduceLT, Int.reduceToNat, Int.reduceAdd, Int.reduceSub, Int.reduceMul, Int.reduceNeg, hA', h0, hg, Int.toNat_natCast, List.length_map]
      refine gcall_intro _ _ _ _ _ _ _ _ _ hf ?_
      simp -implicitDefEqProofs only [go_sem, Nat.reduceAdd, Nat.reduceMul, Nat.reduceEqDiff, Nat.reduceLT, Nat.reduceLeDiff, Nat.reduceSub, Nat.reduceBEq, reduceIte, reduceCtorEq, Int.reduceEq, Int.reduceNe, Nat.reduceBneDiff, Int.reduceLE, Int.reduceLT, Int.reduceToNat, Int.reduceAdd, Int.reduceSub, Int.reduceMul, Int.reduceNeg, rI, di, hlen, q1, q2, q3, rI_okf, hwk]
      refine ⟨⟨i + 1, hA⟩, by simp only; omega, le_of (θ := [(7, 507)]) rfl ?_ ?_⟩
      · simp [varsLe, lkp, ren1, ren0]
      · simp only [htk]
        simp [boxesLe, lkp, Box.renames, rI, di]
    · have hA' := ltF hA
      have e1 : (((l.take i).map wnP).map rI).take i = (l.map wnP).map rI := by
        rw [List.take_of_length_le (by omega), List.take_of_length_le (by omega)]
      simp -implicitDefEqProofs only [go_sem, Nat.reduceAdd, Nat.reduceMul, Nat.reduceEqDiff, Nat.reduceLT, Nat.reduceLeDiff, Nat.reduceSub, Nat.reduceBEq, reduceIte, reduceCtorEq, Int.reduceEq, Int.reduceNe, Nat.reduceBneDiff, Int.reduceLE, Int.reduceLT, Int.reduceToNat, Int.reduceAdd, Int.reduceSub, Int.reduceMul, Int.reduceNeg, hA', hlen, e1, rL, List.length_map]
end Go.Proofs.Ytnpclmmmngmdkaa

namespace Go.Dg

/-- The first j of N values; 0 for the others. -/
def upto (F : Nat → Int) (N j : Nat) : List Int := (List.range N).map fun m => if m < j then F m else 0
theorem upto_length (F : Nat → Int) (N j : Nat) : (upto F N j).length = N := by simp [upto]
theorem upto_zero (F : Nat → Int) (N : Nat) : upto F N 0 = List.replicate N 0 := by
  refine List.ext_getElem? fun i => ?_
  simp only [upto, List.getElem?_map, List.getElem?_replicate, Nat.not_lt_zero, if_false]
  by_cases h : i < N
  · simp [h]
  · simp [h]
theorem upto_get (F : Nat → Int) (N j i : Nat) (h : i < N) : (upto F N j)[i]? = some (if i < j then F i else 0) := by
  simp [upto, h]
theorem upto_set (F : Nat → Int) (N j : Nat) (h : j < N) : (upto F N j).set j (F j) = upto F N (j + 1) := by
  refine List.ext_getElem? fun i => ?_
  rw [List.getElem?_set]
  by_cases hi : i < N
  · rw [upto_get _ _ _ _ hi, upto_get _ _ _ _ hi, upto_length]
    by_cases e : j = i
    · subst e; simp [h]
    · rw [if_neg e]
      congr 1
      by_cases h1 : i < j
      · rw [if_pos h1, if_pos (by omega)]
      · rw [if_neg h1, if_neg (by omega)]
  · have e1 : (upto F N j)[i]? = none := List.getElem?_eq_none (by rw [upto_length]; omega)
    have e2 : (upto F N (j + 1))[i]? = none := List.getElem?_eq_none (by rw [upto_length]; omega)
    rw [e1, e2, if_neg (by omega)]
theorem upto_set0 (F : Nat → Int) (N j : Nat) : (upto F N j).set j 0 = upto F N j := by
  refine List.ext_getElem? fun i => ?_
  rw [List.getElem?_set]
  by_cases e : j = i
  · subst e
    by_cases hi : j < N
    · rw [if_pos rfl, upto_length, if_pos hi, upto_get _ _ _ _ hi, if_neg (Nat.lt_irrefl _)]
    · rw [if_pos rfl, upto_length, if_neg hi, List.getElem?_eq_none (by rw [upto_length]; omega)]
  · rw [if_neg e]
theorem upto_full (F : Nat → Int) (N j : Nat) (h : N ≤ j) : upto F N j = (List.range N).map F := by
  refine List.map_congr_left fun m hm => ?_
  rw [if_pos (Nat.lt_of_lt_of_le (List.mem_range.1 hm) h)]
theorem sm_abs {f : Nat → Int} {C : Nat} : ∀ (m : Nat), (∀ i, i < m → (f i).natAbs ≤ C) → (sm f m).natAbs ≤ m * C
  | 0, _ => by simp [sm]
  | m + 1, h => by
    have h1 := sm_abs m (fun i hi => h i (by omega))
    have h2 := h m (Nat.lt_succ_self m)
    rw [sm, Nat.succ_mul]
    omega
theorem getD_abs {xs : List Int} {B : Nat} (h : ∀ x ∈ xs, x.natAbs < 2 ^ B) (i : Nat) : (xs.getD i 0).natAbs < 2 ^ B := by
  rw [List.getD_eq_getElem?_getD]
  cases e : xs[i]? with
  | none => exact Nat.pow_pos (by decide)
  | some x => exact h x (List.mem_of_getElem? e)
/-- A sum of products with binomials is not much greater. -/
theorem sm_bin_lt {g : Nat → Int} {B n m : Nat} (hn : n ≤ 24) (hm : m ≤ 25) (h : ∀ i, i < m → (g i).natAbs ≤ 2 ^ B * 2 ^ n) : (sm g m).natAbs < 2 ^ (B + 29) := by
  have h1 := sm_abs m h
  have h2 : m * (2 ^ B * 2 ^ n) ≤ 25 * (2 ^ B * 2 ^ 24) := Nat.mul_le_mul hm (Nat.mul_le_mul_left _ (Nat.pow_le_pow_right (by decide) hn))
  have hp : 0 < 2 ^ B := Nat.pow_pos (by decide)
  rw [Nat.pow_add]
  generalize 2 ^ B = K at *
  have e : (2 : Nat) ^ 24 = 16777216 := rfl
  have e2 : (2 : Nat) ^ 29 = 536870912 := rfl
  rw [e] at h2
  rw [e2]
  omega
theorem mul_bin_le {x : Int} {B n k : Nat} (h : x.natAbs < 2 ^ B) : (x * (bin n k : Int)).natAbs ≤ 2 ^ B * 2 ^ n := by
  rw [Int.natAbs_mul, Int.natAbs_natCast]
  exact Nat.mul_le_mul (Nat.le_of_lt h) (bin_le_pow n k)
theorem bin_stepN {n k : Nat} (h : k ≤ n) : bin n k * (n - k) = bin n (k + 1) * (k + 1) := by
  have h1 := bin_step n k
  have e : ((n - k : Nat) : Int) = (n : Int) - (k : Int) := by omega
  rw [← e] at h1
  have h2 : ((bin n (k + 1) * (k + 1) : Nat) : Int) = ((bin n k * (n - k) : Nat) : Int) := by rw [Int.natCast_mul, Int.natCast_mul, ← h1]; rfl
  omega
theorem bin_absorb (m j : Nat) : bin (m + 1) (j + 1) * (j + 1) = bin m j * (m + 1) := by
  by_cases h : j ≤ m
  · have h1 := bin_stepN h
    rw [bin, Nat.add_mul, ← h1, ← Nat.mul_add]
    congr 1; omega
  · rw [bin_lt (by omega), bin_lt (by omega), Nat.zero_mul, Nat.zero_mul]
/-- Bits of the greatest. -/
def bitsF (bl : Nat → Nat) (xs : List Int) : Nat := xs.foldl (fun n x => if n < bl x.natAbs then bl x.natAbs else n) 0
theorem bitsF_snoc (bl : Nat → Nat) (xs : List Int) (x : Int) : bitsF bl (xs ++ [x]) = if bitsF bl xs < bl x.natAbs then bl x.natAbs else bitsF bl xs := by
  rw [bitsF, List.foldl_append]; rfl
theorem foldl_max_le (bl : Nat → Nat) (C : Nat) : ∀ (xs : List Int) (a : Nat), a ≤ C → (∀ x ∈ xs, bl x.natAbs ≤ C) → xs.foldl (fun n x => if n < bl x.natAbs then bl x.natAbs else n) a ≤ C
  | [], a, ha, _ => ha
  | x :: xs, a, ha, h => by
    rw [List.foldl_cons]
    refine foldl_max_le bl C xs _ ?_ fun y hy => h y (by simp [hy])
    split
    · exact h x (by simp)
    · exact ha
theorem bitsF_le {bl : Nat → Nat} {xs : List Int} {C : Nat} (h : ∀ x ∈ xs, bl x.natAbs ≤ C) : bitsF bl xs ≤ C := foldl_max_le bl C xs 0 (Nat.zero_le _) h
theorem foldl_max_ge (bl : Nat → Nat) : ∀ (xs : List Int) (a : Nat), a ≤ xs.foldl (fun n x => if n < bl x.natAbs then bl x.natAbs else n) a ∧ ∀ x ∈ xs, bl x.natAbs ≤ xs.foldl (fun n x => if n < bl x.natAbs then bl x.natAbs else n) a
  | [], a => ⟨Nat.le_refl _, by simp⟩
  | x :: xs, a => by
    rw [List.foldl_cons]
    obtain ⟨h1, h2⟩ := foldl_max_ge bl xs (if a < bl x.natAbs then bl x.natAbs else a)
    refine ⟨Nat.le_trans ?_ h1, fun y hy => ?_⟩
    · split <;> omega
    · rcases List.mem_cons.1 hy with rfl | hy
      · refine Nat.le_trans ?_ h1
        split <;> omega
      · exact h2 y hy
theorem bitsF_ge {bl : Nat → Nat} {xs : List Int} {x : Int} (h : x ∈ xs) : bl x.natAbs ≤ bitsF bl xs := (foldl_max_ge bl xs 0).2 x h
end Go.Dg

namespace Go.Proofs.Ytnpclmmmngmdkaa
open Go.Vl Go.RowKit Go.Dg

/-- At most 8 or 26 integers of at most 8 bytes. -/
def smallB (l : List (Bool × ByteArray)) : Bool := (l.all fun p => decide (p.2.size ≤ 8)) && (decide (l.length ≤ 8) || ((l.length : Int) == 26))
theorem small_v (l : List (Bool × ByteArray)) (hl : l.length ≤ maxLen) : SoundAt Try.prog 5 [.slc (l.map wA)] (.bool (smallB l)) := by
  unfold maxLen at hl
  refine sound_go (tb := []) 24 [.tmp 2] [0, 2, 4, 5, 6, 7, 8, 14] mixed Try.func5 rfl (by kernel_rfl) (by kernel_rfl) (by kernel_rfl) (by kernel_rfl) ?_
  simp -implicitDefEqProofs only [go_sem, Nat.reduceAdd, Nat.reduceMul, Nat.reduceEqDiff, Nat.reduceLT, Nat.reduceLeDiff, Nat.reduceSub, Nat.reduceBEq, reduceIte, reduceCtorEq, Int.reduceEq, Int.reduceNe, Nat.reduceBneDiff, Int.reduceLE, Int.reduceLT, Int.reduceToNat, Int.reduceAdd, Int.reduceSub, Int.reduceMul, Int.reduceNeg, List.length_map]
  refine g_loop mixed (fun i : { i : Nat // i ≤ l.length ∧ (l.take i).all (fun p => decide (p.2.size ≤ 8)) = true } => St.of [(0, .slc (l.map wA)), (5, .slc (l.map wA)), (6, .int .i64 (l.length : Int)), (7, .int .i64 (i.1 : Int))] []) (fun i => l.length - i.1) ⟨0, Nat.zero_le _, rfl⟩ ?_ ?_
  · exact le_vars (by simp [varsLe, lkp, ren1, ren0])
  · rintro ⟨i, hi, hall⟩
    by_cases hA : i < l.length
    · have hA' := ltT hA
      have h0 := nnT i
      have hg := wA_get l i hA
      have hwk := wrap_add1 (a := i) (by omega)
      by_cases hs : l[i].2.size ≤ 8
      · have hs' : ((8 : Int) < (l[i].2.size : Int)) = False := by simp only [eq_iff_iff, iff_false]; omega
        simp -implicitDefEqProofs only [go_sem, Nat.reduceAdd, Nat.reduceMul, Nat.reduceEqDiff, Nat.reduceLT, Nat.reduceLeDiff, Nat.reduceSub, Nat.reduceBEq, reduceIte, reduceCtorEq, Int.reduceEq, Int.reduceNe, Nat.reduceBneDiff, Int.reduceLE, Int.reduceLT, Int.reduceToNat, Int.reduceAdd, Int.reduceSub, Int.reduceMul, Int.reduceNeg, hA', h0, hg, Int.toNat_natCast, hs', hwk]
        exact ⟨⟨i + 1, hA, all_snoc hA hall (by simp [hs])⟩, by simp only; omega, le_vars (by simp [varsLe, lkp, ren1, ren0])⟩
      · have hs' : ((8 : Int) < (l[i].2.size : Int)) = True := by simp only [eq_iff_iff, iff_true]; omega
        have e : smallB l = false := by unfold smallB; rw [all_not (p := fun p => decide (p.2.size ≤ 8)) hA (by simp only [decide_eq_false_iff_not]; exact hs)]; rfl
        simp -implicitDefEqProofs only [go_sem, Nat.reduceAdd, Nat.reduceMul, Nat.reduceEqDiff, Nat.reduceLT, Nat.reduceLeDiff, Nat.reduceSub, Nat.reduceBEq, reduceIte, reduceCtorEq, Int.reduceEq, Int.reduceNe, Nat.reduceBneDiff, Int.reduceLE, Int.reduceLT, Int.reduceToNat, Int.reduceAdd, Int.reduceSub, Int.reduceMul, Int.reduceNeg, hA', h0, hg, Int.toNat_natCast, hs', e]
    · have hA' := ltF hA
      rw [List.take_of_length_le (by omega)] at hall
      have e0 : smallB l = (decide (l.length ≤ 8) || ((l.length : Int) == 26)) := by unfold smallB; rw [hall, Bool.true_and]
      rw [e0]
      by_cases h8 : l.length ≤ 8
      · have h8' : ((l.length : Int) ≤ 8) = True := by simp only [eq_iff_iff, iff_true]; omega
        rw [decide_eq_true h8, Bool.true_or]
        repeat (first | (simp -implicitDefEqProofs only [go_sem, Nat.reduceAdd, Nat.reduceMul, Nat.reduceEqDiff, Nat.reduceLT, Nat.reduceLeDiff, Nat.reduceSub, Nat.reduceBEq, reduceIte, reduceCtorEq, Int.reduceEq, Int.reduceNe, Nat.reduceBneDiff, Int.reduceLE, Int.reduceLT, Int.reduceToNat, Int.reduceAdd, Int.reduceSub, Int.reduceMul, Int.reduceNeg, hA', h8', List.length_map]) | (with_reducible exact drawQ_true _ _ (by kernel_rfl)) | (with_reducible refine And.intro (drawQ_true _ _ (by kernel_rfl)) ?_))
      · have h8' : ((l.length : Int) ≤ 8) = False := by simp only [eq_iff_iff, iff_false]; omega
        rw [decide_eq_false h8, Bool.false_or]
        repeat (first | (simp -implicitDefEqProofs only [go_sem, Nat.reduceAdd, Nat.reduceMul, Nat.reduceEqDiff, Nat.reduceLT, Nat.reduceLeDiff, Nat.reduceSub, Nat.reduceBEq, reduceIte, reduceCtorEq, Int.reduceEq, Int.reduceNe, Nat.reduceBneDiff, Int.reduceLE, Int.reduceLT, Int.reduceToNat, Int.reduceAdd, Int.reduceSub, Int.reduceMul, Int.reduceNeg, hA', h8', List.length_map]) | (with_reducible exact drawQ_true _ _ (by kernel_rfl)) | (with_reducible refine And.intro (drawQ_true _ _ (by kernel_rfl)) ?_))
theorem size_v (xs : List Int) (hl : xs.length ≤ 1000000) (hx : ∀ x ∈ xs, x.natAbs < 2 ^ 65536) : SoundAt Try.prog 22 [wL xs] (.int .i64 (bitsF blen xs : Int)) := by
  refine sound_go (tb := []) 18 [.tmp 2] [0, 2, 3, 5, 6, 7, 8, 9] mixed Try.func22 rfl (by kernel_rfl) (by kernel_rfl) (by kernel_rfl) (by kernel_rfl) ?_
  simp -implicitDefEqProofs only [go_sem, Nat.reduceAdd, Nat.reduceMul, Nat.reduceEqDiff, Nat.reduceLT, Nat.reduceLeDiff, Nat.reduceSub, Nat.reduceBEq, reduceIte, reduceCtorEq, Int.reduceEq, Int.reduceNe, Nat.reduceBneDiff, Int.reduceLE, Int.reduceLT, Int.reduceToNat, Int.reduceAdd, Int.reduceSub, Int.reduceMul, Int.reduceNeg, wL, List.length_map]
  refine g_loop mixed (fun i : { i : Nat // i ≤ xs.length } => St.of [(3, .int .i64 (bitsF blen (xs.take i.1) : Int)), (6, wL xs), (7, .int .i64 (xs.length : Int)), (8, .int .i64 (i.1 : Int))] []) (fun i => xs.length - i.1) ⟨0, Nat.zero_le _⟩ ?_ ?_
  · exact le_vars (by simp [varsLe, lkp, ren1, ren0, wL, bitsF])
  · rintro ⟨i, hi⟩
    by_cases hA : i < xs.length
    · have hA' := ltT hA
      have h0 := nnT i
      have hg := wPV_get xs i hA
      have hwk := wrap_add1 (a := i) (by omega)
      have hL := wLen_i (hx _ (List.getElem_mem hA))
      have e := bitsF_snoc blen (xs.take i) xs[i]
      rw [← take_snoc xs i hA] at e
      by_cases hlt : bitsF blen (xs.take i) < blen xs[i].natAbs
      · rw [if_pos hlt] at e
        have hlt' := ltT hlt
        repeat (first | (simp -implicitDefEqProofs only [go_sem, Nat.reduceAdd, Nat.reduceMul, Nat.reduceEqDiff, Nat.reduceLT, Nat.reduceLeDiff, Nat.reduceSub, Nat.reduceBEq, reduceIte, reduceCtorEq, Int.reduceEq, Int.reduceNe, Nat.reduceBneDiff, Int.reduceLE, Int.reduceLT, Int.reduceToNat, Int.reduceAdd, Int.reduceSub, Int.reduceMul, Int.reduceNeg, wL, hA', h0, hg, Int.toNat_natCast, hwk, hlt']) | ((with_reducible refine gcall_eq (hL) ?_ ?_ ?_); (with_reducible rfl); rfl) | (with_reducible exact drawQ_true _ _ (by kernel_rfl)) | (with_reducible refine And.intro (drawQ_true _ _ (by kernel_rfl)) ?_))
        refine ⟨⟨i + 1, hA⟩, by simp only; omega, le_vars (by simp [varsLe, lkp, ren1, ren0, wL, e])⟩
      · rw [if_neg hlt] at e
        have hlt' := ltF hlt
        repeat (first | (simp -implicitDefEqProofs only [go_sem, Nat.reduceAdd, Nat.reduceMul, Nat.reduceEqDiff, Nat.reduceLT, Nat.reduceLeDiff, Nat.reduceSub, Nat.reduceBEq, reduceIte, reduceCtorEq, Int.reduceEq, Int.reduceNe, Nat.reduceBneDiff, Int.reduceLE, Int.reduceLT, Int.reduceToNat, Int.reduceAdd, Int.reduceSub, Int.reduceMul, Int.reduceNeg, wL, hA', h0, hg, Int.toNat_natCast, hwk, hlt']) | ((with_reducible refine gcall_eq (hL) ?_ ?_ ?_); (with_reducible rfl); rfl) | (with_reducible exact drawQ_true _ _ (by kernel_rfl)) | (with_reducible refine And.intro (drawQ_true _ _ (by kernel_rfl)) ?_))
        refine ⟨⟨i + 1, hA⟩, by simp only; omega, le_vars (by simp [varsLe, lkp, ren1, ren0, wL, e])⟩
    · have hA' := ltF hA
      rw [List.take_of_length_le (show xs.length ≤ i by omega)]
      simp -implicitDefEqProofs only [go_sem, Nat.reduceAdd, Nat.reduceMul, Nat.reduceEqDiff, Nat.reduceLT, Nat.reduceLeDiff, Nat.reduceSub, Nat.reduceBEq, reduceIte, reduceCtorEq, Int.reduceEq, Int.reduceNe, Nat.reduceBneDiff, Int.reduceLE, Int.reduceLT, Int.reduceToNat, Int.reduceAdd, Int.reduceSub, Int.reduceMul, Int.reduceNeg, wL, hA']
theorem wrap_sub {a b : Nat} (h : b ≤ a) (ha : a < 9223372036854775808) : IntKind.i64.wrap ((a : Int) - (b : Int)) = ((a - b : Nat) : Int) := by rw [wrap_i64 (by omega) (by omega)]; omega
theorem ne0 (a : Nat) : (((a + 1 : Nat) : Int) = 0) = False := by simp only [eq_iff_iff, iff_false]; omega
theorem bin_bound {n i m : Nat} (hn : n ≤ 50) (hm : m ≤ 50) : bin n i * m < 9223372036854775808 := by
  have h1 := bin_le_pow n i
  have h2 : 2 ^ n ≤ 2 ^ 50 := Nat.pow_le_pow_right (by decide) hn
  have h3 : bin n i * m ≤ 2 ^ 50 * 50 := Nat.mul_le_mul (Nat.le_trans h1 h2) hm
  have e : (2 : Nat) ^ 50 * 50 = 56294995342131200 := rfl
  omega
theorem ways_v (n k : Nat) (hk : k ≤ n) (hn : n ≤ 50) : SoundAt Try.prog 32 [.int .i64 (n : Int), .int .i64 (k : Int)] (.int .i64 (bin n k : Int)) := by
  refine sound_go (tb := []) 21 [.tmp 4] [0, 1, 4, 5, 6, 7, 8, 9] mixed Try.func32 rfl (by kernel_rfl) (by kernel_rfl) (by kernel_rfl) (by kernel_rfl) ?_
  simp -implicitDefEqProofs only [go_sem, Nat.reduceAdd, Nat.reduceMul, Nat.reduceEqDiff, Nat.reduceLT, Nat.reduceLeDiff, Nat.reduceSub, Nat.reduceBEq, reduceIte, reduceCtorEq, Int.reduceEq, Int.reduceNe, Nat.reduceBneDiff, Int.reduceLE, Int.reduceLT, Int.reduceToNat, Int.reduceAdd, Int.reduceSub, Int.reduceMul, Int.reduceNeg]
  refine g_loop mixed (fun i : { i : Nat // i ≤ k } => St.of [(0, .int .i64 (n : Int)), (5, .int .i64 (bin n i.1 : Int)), (7, .int .i64 (k : Int)), (8, .int .i64 (i.1 : Int))] []) (fun i => k - i.1) ⟨0, Nat.zero_le _⟩ ?_ ?_
  · exact le_vars (by simp [varsLe, lkp, ren1, ren0, bin_zero])
  · rintro ⟨i, hi⟩
    by_cases hA : i < k
    · have hA' := ltT hA
      have hwk := wrap_add1 (a := i) (by omega)
      have w1 := wrap_sub (a := n) (b := i) (by omega) (by omega)
      have hb := bin_bound (n := n) (i := i) (m := n - i) hn (by omega)
      have w2 : IntKind.i64.wrap ((bin n i : Int) * ((n - i : Nat) : Int)) = ((bin n i * (n - i) : Nat) : Int) := by rw [← Int.natCast_mul]; exact wrapn hb
      have e : bin n i * (n - i) / (i + 1) = bin n (i + 1) := by rw [bin_stepN (by omega), Nat.mul_div_cancel _ (Nat.succ_pos i)]
      have t := tdivN (bin n i * (n - i)) (i + 1)
      rw [e] at t
      have hz := ne0 i
      have w3 : IntKind.i64.wrap (bin n (i + 1) : Int) = (bin n (i + 1) : Int) := wrapn (by have := bin_bound (n := n) (i := i + 1) (m := 1) hn (by decide); omega)
      simp -implicitDefEqProofs only [go_sem, Nat.reduceAdd, Nat.reduceMul, Nat.reduceEqDiff, Nat.reduceLT, Nat.reduceLeDiff, Nat.reduceSub, Nat.reduceBEq, reduceIte, reduceCtorEq, Int.reduceEq, Int.reduceNe, Nat.reduceBneDiff, Int.reduceLE, Int.reduceLT, Int.reduceToNat, Int.reduceAdd, Int.reduceSub, Int.reduceMul, Int.reduceNeg, hA', hwk, w1, w2, hz, t, w3]
      exact ⟨⟨i + 1, hA⟩, by simp only; omega, le_vars (by simp [varsLe, lkp, ren1, ren0])⟩
    · have hA' := ltF hA
      obtain rfl : i = k := by omega
      simp -implicitDefEqProofs only [go_sem, Nat.reduceAdd, Nat.reduceMul, Nat.reduceEqDiff, Nat.reduceLT, Nat.reduceLeDiff, Nat.reduceSub, Nat.reduceBEq, reduceIte, reduceCtorEq, Int.reduceEq, Int.reduceNe, Nat.reduceBneDiff, Int.reduceLE, Int.reduceLT, Int.reduceToNat, Int.reduceAdd, Int.reduceSub, Int.reduceMul, Int.reduceNeg, hA']
theorem rways_v (n k : Nat) (hk : k ≤ n) (hn : n ≤ 50) : SoundAt Try.prog 29 [.int .i64 (n : Int), .int .i64 (k : Int)] (.int .i64 (bin n k : Int)) := by
  have g1 : ((k : Int) < 0) = False := by simp only [eq_iff_iff, iff_false]; omega
  have g2 : ((n : Int) < (k : Int)) = False := by simp only [eq_iff_iff, iff_false]; omega
  by_cases h0 : k = 0
  · subst h0
    have g3 : (((0 : Nat) : Int) == 0) = true := rfl
    refine sound_go (tb := []) 36 [.tmp 4] [0, 1, 4, 5, 6, 13, 20, 23] mixed Try.func29 rfl (by kernel_rfl) (by kernel_rfl) (by kernel_rfl) (by kernel_rfl) ?_
    repeat (first | (simp -implicitDefEqProofs only [go_sem, Nat.reduceAdd, Nat.reduceMul, Nat.reduceEqDiff, Nat.reduceLT, Nat.reduceLeDiff, Nat.reduceSub, Nat.reduceBEq, reduceIte, reduceCtorEq, Int.reduceEq, Int.reduceNe, Nat.reduceBneDiff, Int.reduceLE, Int.reduceLT, Int.reduceToNat, Int.reduceAdd, Int.reduceSub, Int.reduceMul, Int.reduceNeg, g1, g2, g3, bin_zero]) | (with_reducible exact drawQ_true _ _ (by kernel_rfl)) | (with_reducible refine And.intro (drawQ_true _ _ (by kernel_rfl)) ?_))
    rfl
  have g3 : ((k : Int) == 0) = false := by simp only [beq_eq_false_iff_ne, ne_eq]; omega
  by_cases hkn : k = n
  · subst hkn
    have g4 : ((k : Int) == (k : Int)) = true := beq_self_eq_true _
    refine sound_go (tb := []) 36 [.tmp 4] [0, 1, 4, 5, 6, 13, 20, 23] mixed Try.func29 rfl (by kernel_rfl) (by kernel_rfl) (by kernel_rfl) (by kernel_rfl) ?_
    repeat (first | (simp -implicitDefEqProofs only [go_sem, Nat.reduceAdd, Nat.reduceMul, Nat.reduceEqDiff, Nat.reduceLT, Nat.reduceLeDiff, Nat.reduceSub, Nat.reduceBEq, reduceIte, reduceCtorEq, Int.reduceEq, Int.reduceNe, Nat.reduceBneDiff, Int.reduceLE, Int.reduceLT, Int.reduceToNat, Int.reduceAdd, Int.reduceSub, Int.reduceMul, Int.reduceNeg, g1, g2, g3, g4, bin_self]) | (with_reducible exact drawQ_true _ _ (by kernel_rfl)) | (with_reducible refine And.intro (drawQ_true _ _ (by kernel_rfl)) ?_))
    rfl
  have g4 : ((k : Int) == (n : Int)) = false := by simp only [beq_eq_false_iff_ne, ne_eq]; omega
  refine sound_go (tb := []) 36 [.tmp 4] [0, 1, 4, 5, 6, 13, 20, 23] mixed Try.func29 rfl (by kernel_rfl) (by kernel_rfl) (by kernel_rfl) (by kernel_rfl) ?_
  repeat (first | (simp -implicitDefEqProofs only [go_sem, Nat.reduceAdd, Nat.reduceMul, Nat.reduceEqDiff, Nat.reduceLT, Nat.reduceLeDiff, Nat.reduceSub, Nat.reduceBEq, reduceIte, reduceCtorEq, Int.reduceEq, Int.reduceNe, Nat.reduceBneDiff, Int.reduceLE, Int.reduceLT, Int.reduceToNat, Int.reduceAdd, Int.reduceSub, Int.reduceMul, Int.reduceNeg, g1, g2, g3, g4]) | (with_reducible exact drawQ_true _ _ (by kernel_rfl)) | (with_reducible refine And.intro (drawQ_true _ _ (by kernel_rfl)) ?_))
  refine g_loop mixed (fun i : { i : Nat // i ≤ k } => St.of [(0, .int .i64 (n : Int)), (1, .int .i64 (k : Int)), (5, .int .i64 (bin (n - k + i.1) i.1 : Int)), (6, .int .i64 ((i.1 + 1 : Nat) : Int))] []) (fun i => k - i.1) ⟨0, Nat.zero_le _⟩ ?_ ?_
  · exact le_vars (by simp [varsLe, lkp, ren1, ren0, bin_zero])
  · rintro ⟨i, hi⟩
    by_cases hA : i < k
    · have hA' : (((i + 1 : Nat) : Int) ≤ (k : Int)) = True := by simp only [eq_iff_iff, iff_true]; omega
      have hwk := wrap_add1 (a := i + 1) (by omega)
      have w0 := wrap_sub (a := n) (b := k) (by omega) (by omega)
      have w1 : IntKind.i64.wrap (((n - k : Nat) : Int) + ((i + 1 : Nat) : Int)) = ((n - k + i + 1 : Nat) : Int) := by rw [wrap_i64 (by omega) (by omega)]; omega
      have hb := bin_bound (n := n - k + i) (i := i) (m := n - k + i + 1) (by omega) (by omega)
      have w2 : IntKind.i64.wrap ((bin (n - k + i) i : Int) * ((n - k + i + 1 : Nat) : Int)) = ((bin (n - k + i) i * (n - k + i + 1) : Nat) : Int) := by rw [← Int.natCast_mul]; exact wrapn hb
      have e : bin (n - k + i) i * (n - k + i + 1) / (i + 1) = bin (n - k + i + 1) (i + 1) := by rw [← bin_absorb, Nat.mul_div_cancel _ (Nat.succ_pos i)]
      have t := tdivN (bin (n - k + i) i * (n - k + i + 1)) (i + 1)
      rw [e] at t
      have hz := ne0 i
      have w3 : IntKind.i64.wrap (bin (n - k + i + 1) (i + 1) : Int) = (bin (n - k + i + 1) (i + 1) : Int) := wrapn (by have := bin_bound (n := n - k + i + 1) (i := i + 1) (m := 1) (by omega) (by decide); omega)
      simp -implicitDefEqProofs only [go_sem, Nat.reduceAdd, Nat.reduceMul, Nat.reduceEqDiff, Nat.reduceLT, Nat.reduceLeDiff, Nat.reduceSub, Nat.reduceBEq, reduceIte, reduceCtorEq, Int.reduceEq, Int.reduceNe, Nat.reduceBneDiff, Int.reduceLE, Int.reduceLT, Int.reduceToNat, Int.reduceAdd, Int.reduceSub, Int.reduceMul, Int.reduceNeg, hA', hwk, w0, w1, w2, hz, t, w3]
      exact ⟨⟨i + 1, hA⟩, by simp only; omega, le_vars (by simp [varsLe, lkp, ren1, ren0]; rfl)⟩
    · have hA' : (((i + 1 : Nat) : Int) ≤ (k : Int)) = False := by simp only [eq_iff_iff, iff_false]; omega
      obtain rfl : i = k := by omega
      have e : n - i + i = n := by omega
      simp -implicitDefEqProofs only [go_sem, Nat.reduceAdd, Nat.reduceMul, Nat.reduceEqDiff, Nat.reduceLT, Nat.reduceLeDiff, Nat.reduceSub, Nat.reduceBEq, reduceIte, reduceCtorEq, Int.reduceEq, Int.reduceNe, Nat.reduceBneDiff, Int.reduceLE, Int.reduceLT, Int.reduceToNat, Int.reduceAdd, Int.reduceSub, Int.reduceMul, Int.reduceNeg, hA', e]
theorem plus_v (s w b : Int) (b1 : -9223372036854775808 ≤ b) (b2 : b ≤ 9223372036854775807) (hs : s.natAbs < 2 ^ 65536) (hw : w.natAbs < 2 ^ 65536) (hm : (w * b).natAbs < 2 ^ 65536) (hr : (s + w * b).natAbs < 2 ^ 65536) :
    SoundAt Try.prog 33 [wPV s, wPV w, .int .i64 b] (wPV (s + w * b)) := by
  have h1 := wOf_v b b1 b2
  have h2 := wMul_i hw (y := b) (p2_16 (B := 64) (by have : (2 : Nat) ^ 64 = 18446744073709551616 := rfl; omega) (by decide))
  rw [outPV_ok hm] at h2
  have h3 := wAdd_i hs hm
  rw [outPV_ok hr] at h3
  generalize w * b = M at *
  generalize s + M = R at *
  refine sound_go (tb := []) 21 [.cell 6 40] [0, 1, 2, 3, 4, 6] mixed Try.func33 rfl (by kernel_rfl) (by kernel_rfl) (by kernel_rfl) (by kernel_rfl) ?_
  repeat (first | (simp -implicitDefEqProofs only [go_sem, Nat.reduceAdd, Nat.reduceMul, Nat.reduceEqDiff, Nat.reduceLT, Nat.reduceLeDiff, Nat.reduceSub, Nat.reduceBEq, reduceIte, reduceCtorEq, Int.reduceEq, Int.reduceNe, Nat.reduceBneDiff, Int.reduceLE, Int.reduceLT, Int.reduceToNat, Int.reduceAdd, Int.reduceSub, Int.reduceMul, Int.reduceNeg, wPV]) | ((with_reducible refine gcall_eq (h1) ?_ ?_ ?_); (with_reducible rfl); rfl) | ((with_reducible refine gcall_eq (h2) ?_ ?_ ?_); (with_reducible rfl); rfl) | ((with_reducible refine gcall_eq (h3) ?_ ?_ ?_); (with_reducible rfl); rfl) | (with_reducible exact drawQ_true _ _ (by kernel_rfl)) | (with_reducible refine And.intro (drawQ_true _ _ (by kernel_rfl)) ?_))
end Go.Proofs.Ytnpclmmmngmdkaa
