/-
  Dv, FN7, FN9, FN10, FN11, By, FN12 (merged for the claim).
-/
import Derived.Test.YtnpclmmmngmdkaaGreatFN6
import Derived.Test.YtnpclmmmngmdkaaGreatFP3
set_option linter.unusedSimpArgs false
set_option linter.unusedVariables false
namespace Go.Dg

theorem bd_trans {xs : List Int} {B n : Nat} {c : Int} (hc : c.natAbs = 1) (hn : n ≤ 24) (hx : bd B xs) : bd (B + 29) (trans xs c n) := by
  intro y hy
  obtain ⟨j, hj, rfl⟩ := List.mem_map.1 hy
  refine sm_bin_lt hn (by have := List.mem_range.1 hj; omega) fun i _ => ?_
  rw [Int.natAbs_mul, Int.natAbs_mul, Int.natAbs_pow, hc, Nat.one_pow, Nat.one_mul]
  exact Nat.mul_le_mul (Nat.le_of_lt (bd_get hx i)) (Nat.le_trans (bin_le_pow _ _) (Nat.pow_le_pow_right (by decide) (by omega)))
theorem bd_reverse {B : Nat} {p : List Int} (h : bd B p) : bd B p.reverse := fun x hx => h x (List.mem_reverse.1 hx)
theorem bd_leftH {xs : List Int} {B n : Nat} (hn : n ≤ 24) (hx : bd B xs) : bd (B + 29 + n) (leftH xs n) := by
  intro y hy
  obtain ⟨j, hj, rfl⟩ := List.mem_map.1 hy
  have h1 := bd_get (bd_trans (c := 1) rfl hn hx) j
  have h2 : ((2 : Int) ^ (n - j)).natAbs ≤ 2 ^ n := by
    rw [Int.natAbs_pow]
    exact Nat.pow_le_pow_right (by decide) (Nat.sub_le _ _)
  rw [Int.natAbs_mul, Nat.pow_add]
  exact Nat.lt_of_le_of_lt (Nat.mul_le_mul_left _ h2) (Nat.mul_lt_mul_of_pos_right h1 (Nat.pow_pos (by decide)))
theorem bd_rightH {xs : List Int} {B n : Nat} (hn : n ≤ 24) (hx : bd B xs) : bd (B + 29 + n) (rightH xs n) := bd_reverse (bd_leftH hn (bd_reverse hx))
/-- Sums that grow row by row: behind i rows and k columns of row i. -/
def rowsF (t : Nat → Nat → Int) (n i k : Nat) : List Int := (List.range (n + 1)).map fun m => if m < i then sm (t m) (m + 1) else if m < i + k then sm (t m) (i + 1) else sm (t m) i
theorem rowsF_length (t : Nat → Nat → Int) (n i k : Nat) : (rowsF t n i k).length = n + 1 := by simp [rowsF]
theorem rowsF_get (t : Nat → Nat → Int) (n i k m : Nat) (h : m < n + 1) : (rowsF t n i k)[m]? = some (if m < i then sm (t m) (m + 1) else if m < i + k then sm (t m) (i + 1) else sm (t m) i) := by simp [rowsF, h]
theorem rowsF_zero (t : Nat → Nat → Int) (n : Nat) : rowsF t n 0 0 = List.replicate (n + 1) 0 := by
  refine List.ext_getElem? fun m => ?_
  by_cases h : m < n + 1
  · rw [rowsF_get _ _ _ _ _ h]; simp [h, sm]
  · rw [List.getElem?_eq_none (by rw [rowsF_length]; omega), List.getElem?_eq_none (by simp; omega)]
theorem rowsF_set (t : Nat → Nat → Int) (n i k : Nat) (h : i + k < n + 1) : (rowsF t n i k).set (i + k) (sm (t (i + k)) (i + 1)) = rowsF t n i (k + 1) := by
  refine List.ext_getElem? fun m => ?_
  rw [List.getElem?_set, rowsF_length]
  by_cases hm : m < n + 1
  · rw [rowsF_get _ _ _ _ _ hm, rowsF_get _ _ _ _ _ hm]
    by_cases e : i + k = m
    · subst e
      rw [if_pos rfl, if_pos h, if_neg (by omega), if_pos (by omega)]
    · rw [if_neg e]
      congr 1
      by_cases h1 : m < i
      · rw [if_pos h1, if_pos h1]
      · rw [if_neg h1, if_neg h1]
        by_cases h2 : m < i + k
        · rw [if_pos h2, if_pos (by omega)]
        · rw [if_neg h2, if_neg (by omega)]
  · rw [if_neg (by omega), List.getElem?_eq_none (by rw [rowsF_length]; omega), List.getElem?_eq_none (by rw [rowsF_length]; omega)]
theorem rowsF_next (t : Nat → Nat → Int) (n i k : Nat) (h : n + 1 ≤ i + k) : rowsF t n i k = rowsF t n (i + 1) 0 := by
  refine List.map_congr_left fun m hm => ?_
  have hm' := List.mem_range.1 hm
  by_cases h1 : m < i
  · rw [if_pos h1, if_pos (by omega)]
  · rw [if_neg h1, if_pos (by omega)]
    by_cases h2 : m < i + 1
    · obtain rfl : m = i := by omega
      rw [if_pos (Nat.lt_succ_self _)]
    · rw [if_neg h2, if_neg (by omega)]
theorem rowsF_done (t : Nat → Nat → Int) (n k : Nat) : rowsF t n (n + 1) k = (List.range (n + 1)).map fun m => sm (t m) (m + 1) := by
  refine List.map_congr_left fun m hm => ?_
  rw [if_pos (List.mem_range.1 hm)]
/-- The terms of the polynomial of a form. -/
def pterm (xs : List Int) (n m i : Nat) : Int := xs.getD i 0 * ((-1) ^ (m - i) * (bin (n - i) (m - i) : Int))
theorem pterm_done (xs : List Int) (n k : Nat) : rowsF (pterm xs n) n (n + 1) k = trans xs (-1) n := rowsF_done _ _ _
theorem pterm_abs {xs : List Int} {B n : Nat} (hx : bd B xs) (m i : Nat) : (pterm xs n m i).natAbs ≤ 2 ^ B * 2 ^ n := by
  rw [pterm, Int.natAbs_mul, Int.natAbs_mul, Int.natAbs_pow, show (-1 : Int).natAbs = 1 from rfl, Nat.one_pow, Nat.one_mul]
  exact Nat.mul_le_mul (Nat.le_of_lt (bd_get hx i)) (Nat.le_trans (bin_le_pow _ _) (Nat.pow_le_pow_right (by decide) (by omega)))
theorem neg1_even {k : Nat} (h : k % 2 = 0) : (-1 : Int) ^ k = 1 := by
  obtain ⟨a, rfl⟩ : ∃ a, k = 2 * a := ⟨k / 2, by omega⟩
  rw [Int.pow_mul, show (-1 : Int) ^ 2 = 1 from rfl, Int.one_pow]
theorem neg1_odd {k : Nat} (h : k % 2 = 1) : (-1 : Int) ^ k = -1 := by
  obtain ⟨a, rfl⟩ : ∃ a, k = 2 * a + 1 := ⟨k / 2, by omega⟩
  rw [Int.pow_succ, neg1_even (by omega), Int.one_mul]
end Go.Dg

namespace Go.Proofs.YtnpclmmmngmdkaaGreat
open Go.Vl Go.RowKit Go.Dg

theorem formB_of {l : List (Bool × ByteArray)} (h : formB l = true) : validL l = true ∧ 1 ≤ l.length ∧ l.length ≤ 25 := by
  unfold formB at h
  simp only [Bool.and_eq_true, decide_eq_true_eq] at h
  exact ⟨h.1, h.2.1, h.2.2⟩
end Go.Proofs.YtnpclmmmngmdkaaGreat

namespace Go.Proofs.YtnpclmmmngmdkaaGreat
open Go.Vl Go.RowKit Go.Dg

theorem gN_pos {x y : Int} (h : 0 < y) : gN x y = ((Nat.gcd x.natAbs y.natAbs : Nat) : Int) ∧ 0 < gN x y := by
  have h1 := Nat.gcd_pos_of_pos_right x.natAbs (show 0 < y.natAbs by omega)
  have h2 : gN x y = ((Nat.gcd x.natAbs y.natAbs : Nat) : Int) := by unfold gN; rw [if_neg (by omega)]
  exact ⟨h2, by rw [h2]; omega⟩
theorem low_mul {x y : Int} (h : 0 < y) : lowN x y * gN x y = x ∧ lowD x y * gN x y = y := by
  obtain ⟨e, _⟩ := gN_pos (x := x) h
  have d1 : gN x y ∣ x := by rw [e]; exact Int.ofNat_dvd_left.2 (Nat.gcd_dvd_left _ _)
  have d2 : gN x y ∣ y := by rw [e]; exact Int.ofNat_dvd_left.2 (Nat.gcd_dvd_right _ _)
  exact ⟨Int.ediv_mul_cancel d1, Int.ediv_mul_cancel d2⟩
theorem lowD_pos {x y : Int} (h : 0 < y) : 0 < lowD x y := by
  obtain ⟨_, h1⟩ := gN_pos (x := x) h
  obtain ⟨_, h2⟩ := low_mul (x := x) h
  rw [← h2] at h
  exact Int.pos_of_mul_pos_left h (by omega)
theorem low_cross {x y : Int} (h : 0 < y) : lowN x y * y = x * lowD x y := by
  obtain ⟨h1, h2⟩ := low_mul (x := x) h
  generalize lowN x y = a at *
  generalize lowD x y = b at *
  generalize gN x y = g at *
  subst h1; subst h2
  rw [Int.mul_comm b g, Int.mul_assoc]
theorem low_abs {x y : Int} (h : 0 < y) : (lowN x y).natAbs ≤ x.natAbs ∧ (lowD x y).natAbs ≤ y.natAbs := by
  obtain ⟨h1, h2⟩ := low_mul (x := x) h
  obtain ⟨_, hg⟩ := gN_pos (x := x) h
  generalize lowN x y = a at *
  generalize lowD x y = b at *
  generalize gN x y = g at *
  subst h1; subst h2
  have : 1 ≤ g.natAbs := by omega
  rw [Int.natAbs_mul, Int.natAbs_mul]
  exact ⟨Nat.le_mul_of_pos_right _ this, Nat.le_mul_of_pos_right _ this⟩
theorem big_small {x y : Int} (hx : x.natAbs < 2 ^ 65536) (hy : y.natAbs < 2 ^ 65536) : big x y = false := by
  unfold big
  have h1 := p2_blen hx
  have h2 := p2_blen hy
  rw [decide_eq_false (by omega), decide_eq_false (by omega)]; rfl
/-- The best of two ratios: the least, or the greatest one; the first one of equal ones. A ratio without a denominator is none. -/
def bstep (g : Bool) (b r : Int × Int) : Int × Int := if b.2 = 0 ∨ (if g = true then b.1 * r.2 < r.1 * b.2 else r.1 * b.2 < b.1 * r.2) then r else b
def bestF (g : Bool) (l : List (Int × Int)) : Int × Int := l.foldl (bstep g) (0, 0)
theorem bestF_snoc (g : Bool) (l : List (Int × Int)) (r : Int × Int) : bestF g (l ++ [r]) = bstep g (bestF g l) r := by unfold bestF; rw [List.foldl_append]; rfl
theorem ite_or' {α : Type} (c : Prop) [Decidable c] (a b : α) : (if c then a else b) = b ∨ (if c then a else b) = a := by by_cases h : c <;> simp [h]
theorem bstep_mem (g : Bool) (b r : Int × Int) : bstep g b r = b ∨ bstep g b r = r := ite_or' _ _ _
theorem fold_mem (g : Bool) : ∀ (l : List (Int × Int)) (b : Int × Int), l.foldl (bstep g) b = b ∨ l.foldl (bstep g) b ∈ l
  | [], b => .inl rfl
  | r :: l, b => by
    rw [List.foldl_cons]
    rcases fold_mem g l (bstep g b r) with h | h
    · rw [h]
      rcases bstep_mem g b r with e | e
      · exact .inl e
      · rw [e]; exact .inr (List.mem_cons_self ..)
    · exact .inr (List.mem_cons_of_mem _ h)
theorem bestF_mem (g : Bool) (l : List (Int × Int)) : bestF g l = (0, 0) ∨ bestF g l ∈ l := fold_mem g l (0, 0)
/-- The coefficients of a form, in lowest terms. -/
def coefs (f : List Int) : List (Int × Int) := (List.range f.length).map fun j => (lowN (f.getD j 0) (bin (f.length - 1) j : Int), lowD (f.getD j 0) (bin (f.length - 1) j : Int))
theorem coefs_length (f : List Int) : (coefs f).length = f.length := by simp [coefs]
theorem coefs_get {f : List Int} {j : Nat} (h : j < f.length) : (coefs f)[j]'(by rw [coefs_length]; exact h) = (lowN f[j] (bin (f.length - 1) j : Int), lowD f[j] (bin (f.length - 1) j : Int)) := by
  simp only [coefs, List.getElem_map, List.getElem_range, getD_lt h]
theorem coefs_snoc {f : List Int} {j : Nat} (h : j < f.length) : (coefs f).take (j + 1) = (coefs f).take j ++ [(lowN f[j] (bin (f.length - 1) j : Int), lowD f[j] (bin (f.length - 1) j : Int))] := by
  rw [take_snoc (coefs f) j (by rw [coefs_length]; exact h), coefs_get h]
theorem bin_posI {n j : Nat} (h : j ≤ n) : (0 : Int) < (bin n j : Int) := by have := bin_pos h; omega
theorem coefs_ok {f : List Int} {B : Nat} (hn : f.length ≤ 25) (hf : bd B f) : ∀ r ∈ coefs f, r.1.natAbs < 2 ^ B ∧ r.2.natAbs < 2 ^ 25 ∧ 0 < r.2 := by
  intro r hr
  obtain ⟨j, hj, rfl⟩ := List.mem_map.1 hr
  have hj' := List.mem_range.1 hj
  have hp := bin_posI (n := f.length - 1) (j := j) (by omega)
  have hb := bin_i64 (n := f.length - 1) (k := j) (by omega)
  have h1 := low_abs (x := f.getD j 0) hp
  refine ⟨Nat.lt_of_le_of_lt h1.1 (bd_get hf j), Nat.lt_of_le_of_lt h1.2 ?_, lowD_pos hp⟩
  rw [Int.natAbs_natCast]
  have : (2 : Nat) ^ 25 = 33554432 := rfl
  omega
def okR (B : Nat) (r : Int × Int) : Prop := r.1.natAbs < 2 ^ B ∧ r.2.natAbs < 2 ^ 25 ∧ 0 ≤ r.2
theorem okR_best {g : Bool} {B : Nat} {l : List (Int × Int)} (h : ∀ r ∈ l, r.1.natAbs < 2 ^ B ∧ r.2.natAbs < 2 ^ 25 ∧ 0 < r.2) : okR B (bestF g l) := by
  rcases bestF_mem g l with e | e
  · rw [e]; exact ⟨Nat.pow_pos (by decide), Nat.pow_pos (by decide), Int.le_refl _⟩
  · exact ⟨(h _ e).1, (h _ e).2.1, Int.le_of_lt (h _ e).2.2⟩
theorem step_pos {g : Bool} {b r : Int × Int} (hr : 0 < r.2) : 0 < (bstep g b r).2 ∨ (bstep g b r).2 = b.2 ∧ b.2 ≠ 0 := by
  by_cases h : b.2 = 0
  · unfold bstep
    rw [if_pos (.inl h)]; exact .inl hr
  · rcases bstep_mem g b r with e | e
    · exact .inr ⟨by rw [e], h⟩
    · rw [e]; exact .inl hr
theorem best_pos {g : Bool} {l : List (Int × Int)} (h : ∀ r ∈ l, 0 < r.2) (hl : l ≠ []) : 0 < (bestF g l).2 := by
  have key : ∀ (l : List (Int × Int)) (b : Int × Int), 0 < b.2 → (∀ r ∈ l, 0 < r.2) → 0 < (l.foldl (bstep g) b).2 := by
    intro l
    induction l with
    | nil => intro b hb _; exact hb
    | cons r l ih =>
      intro b hb hr
      rw [List.foldl_cons]
      refine ih _ ?_ fun x hx => hr x (List.mem_cons_of_mem _ hx)
      rcases step_pos (g := g) (b := b) (hr r (List.mem_cons_self ..)) with h1 | h1
      · exact h1
      · rw [h1.1]; exact hb
  match l, hl with
  | r :: l, _ =>
    unfold bestF
    rw [List.foldl_cons]
    have e : bstep g (0, 0) r = r := by unfold bstep; rw [if_pos (.inl rfl)]
    rw [e]
    exact key l r (h r (List.mem_cons_self ..)) fun x hx => h x (List.mem_cons_of_mem _ hx)
theorem ratPV_00 : ratPV 0 0 = .agg [.bool false, .str ⟨#[]⟩, .bool false, .str ⟨#[]⟩] := by unfold ratPV; rw [show magL (0 : Int).natAbs = [] from (magL_nil 0).2 rfl]; rfl
theorem vRat_zero : vRat (decide ((0 : Int) < 0)) (mB 0) (decide ((0 : Int) < 0)) (mB 0) = false := by
  have e : (mB 0).data.toList = [] := (magL_nil 0).2 rfl
  unfold vRat
  rw [e]; simp
/-- One comparison of the calls: the order, or 0 for a ratio that is none. -/
def cmpB (r b : Int × Int) : Int := if b.2 = 0 then 0 else (r.1 * b.2 - b.1 * r.2).sign
def cmpE (b : Int × Int) : Int := if b.2 = 0 then 2 else 0
theorem cmp_v (r b : Int × Int) (hr : r.1.natAbs < 2 ^ 65536 ∧ r.2.natAbs < 2 ^ 65536 ∧ 0 < r.2) (hb : b = (0, 0) ∨ b.1.natAbs < 2 ^ 65536 ∧ b.2.natAbs < 2 ^ 65536 ∧ 0 < b.2) :
    SoundAt Tryz.prog 85 [ratPV r.1 r.2, ratPV b.1 b.2] (.tup [.int .i64 (cmpB r b), .int .i64 (cmpE b)]) := by
  rcases hb with rfl | hb
  · exact wCompareRatio_no _ _ _ _ (mB r.1) (mB r.2) (mB 0) (mB 0) (by rw [vRat_zero, Bool.and_false]) (mB_size hr.2.1) (by rw [show (mB 0).size = 0 from by rw [ba_size, show (mB 0).data.toList = [] from (magL_nil 0).2 rfl]; rfl]; decide)
  · have h := wCompareRatio_i hr.1 hr.2.1 hb.1 hb.2.1 hr.2.2 hb.2.2
    unfold cmpB cmpE
    rw [if_neg (by omega), if_neg (by omega)]
    exact h
end Go.Proofs.YtnpclmmmngmdkaaGreat

namespace Go.Proofs.YtnpclmmmngmdkaaGreat
open Go.Vl Go.RowKit Go.Dg

def rats (g : Bool) (l : List (Int × Int)) : PV := ratPV (bestF g l).1 (bestF g l).2
theorem rats_nil (g : Bool) : rats g [] = .agg [.bool false, .str ⟨#[]⟩, .bool false, .str ⟨#[]⟩] := ratPV_00
theorem wL_get (fs : List (List Int)) (i : Nat) (h : i < fs.length) : (fs.map wL)[i]? = some (.slc (fs[i].map wPV)) := by rw [List.getElem?_map, List.getElem?_eq_getElem h]; rfl
theorem flat_snoc (fs : List (List Int)) (i : Nat) (h : i < fs.length) : (fs.take (i + 1)).flatMap coefs = (fs.take i).flatMap coefs ++ coefs fs[i] := by
  rw [take_snoc fs i h, List.flatMap_append, List.flatMap_singleton]
set_option maxHeartbeats 4000000 in
theorem least_v (fs : List (List Int)) (g : Bool) (n B : Nat) (hn : n ≤ 24) (hl : fs.length ≤ 1000000) (hf : ∀ f ∈ fs, f.length = n + 1 ∧ bd B f) (hB : B ≤ 65536) :
    SoundAt Tryz.prog 44 [.slc (fs.map wL), .bool g] (rats g (fs.flatMap coefs)) := by
  have hok : ∀ i, ∀ r ∈ (fs.take i).flatMap coefs, r.1.natAbs < 2 ^ B ∧ r.2.natAbs < 2 ^ 25 ∧ 0 < r.2 := by
    intro i r hr
    obtain ⟨f, hf1, hf2⟩ := List.mem_flatMap.1 hr
    obtain ⟨h1, h2⟩ := hf f (List.mem_of_mem_take hf1)
    exact coefs_ok (by omega) h2 r hf2
  have zm : ((-1 : Int) != 0) = true := rfl
  have zz : ((0 : Int) != 0) = false := rfl
  have z1 : ((1 : Int) != 0) = true := rfl
  refine sound_go (tb := []) 63 [.cell 4 32] [0, 1, 4, 5, 6, 7, 8, 9, 10, 12, 14, 15, 16, 17, 21, 22, 23, 24, 58] mixed Tryz.func44 rfl (by kernel_rfl) (by kernel_rfl) (by kernel_rfl) (by kernel_rfl) ?_
  simp -implicitDefEqProofs only [go_sem, Nat.reduceAdd, Nat.reduceMul, Nat.reduceEqDiff, Nat.reduceLT, Nat.reduceLeDiff, Nat.reduceSub, Nat.reduceBEq, reduceIte, reduceCtorEq, Int.reduceEq, Int.reduceNe, Nat.reduceBneDiff, Int.reduceLE, Int.reduceLT, Int.reduceToNat, Int.reduceAdd, Int.reduceSub, Int.reduceMul, Int.reduceNeg, List.length_map]
  rw [← rats_nil g]
  refine g_loop mixed (fun k : { k : Nat // k ≤ fs.length } => St.of [(1, .bool g), (4, .bp 0 4 0 0), (5, .bp 100 4 0 0), (14, .slc (fs.map wL)), (15, .int .i64 (fs.length : Int)), (16, .int .i64 (k.1 : Int))]
    [(0, { els := [rats g []], esz := 4, ety := 32, fro := 0, live := true, arr := false }), (100, { els := [rats g ((fs.take k.1).flatMap coefs)], esz := 4, ety := 32, fro := 0, live := true, arr := false })]) (fun k => fs.length - k.1) ⟨0, Nat.zero_le _⟩ ?_ ?_
  · refine le_of (θ := [(0, 0), (100, 100)]) rfl ?_ ?_
    · simp [varsLe, lkp, ren1, ren0, wL]
    · refine ⟨⟨rfl, rfl, rfl, rfl, rfl, .inr ⟨rfl, _, _, rfl, rfl, rfl, rfl⟩⟩, ⟨rfl, rfl, rfl, rfl, rfl, .inr ⟨rfl, _, _, rfl, rfl, rfl, rfl⟩⟩, trivial⟩
  · rintro ⟨k, hk⟩
    by_cases hA : k < fs.length
    · have hA' := ltT hA
      have hnk := nnT k
      have hgf := wL_get fs k hA
      obtain ⟨hfl, hfb⟩ := hf _ (List.getElem_mem hA)
      have hwk := wrap_add1 (a := k) (by omega)
      have hfs := flat_snoc fs k hA
      have hokk := hok (k + 1)
      rw [hfs] at hokk
      have hne : k ≠ 0 → (fs.take k).flatMap coefs ≠ [] := by
        intro h0 e
        have h1 : 0 < fs.length := by omega
        have h2 := List.flatMap_eq_nil_iff.1 e fs[0] (List.mem_take_iff_getElem.2 ⟨0, by omega, rfl⟩)
        have h3 := coefs_length fs[0]
        rw [h2, (hf _ (List.getElem_mem h1)).1] at h3
        cases h3
      repeat (first | (simp -implicitDefEqProofs only [go_sem, Nat.reduceAdd, Nat.reduceMul, Nat.reduceEqDiff, Nat.reduceLT, Nat.reduceLeDiff, Nat.reduceSub, Nat.reduceBEq, reduceIte, reduceCtorEq, Int.reduceEq, Int.reduceNe, Nat.reduceBneDiff, Int.reduceLE, Int.reduceLT, Int.reduceToNat, Int.reduceAdd, Int.reduceSub, Int.reduceMul, Int.reduceNeg, hA', hnk, hgf, Int.toNat_natCast, List.length_map]) | (with_reducible exact drawQ_true _ _ (by kernel_rfl)) | (with_reducible refine And.intro (drawQ_true _ _ (by kernel_rfl)) ?_))
      generalize fs[k] = f at *
      generalize hQ : (fs.take k).flatMap coefs = Q at *
      refine g_loop mixed (fun j : { j : Nat // j ≤ f.length } => St.of [(1, .bool g), (4, .bp 0 4 0 0), (5, .bp 100 4 0 0), (6, .int .i64 (k : Int)), (7, wL f), (14, .slc (fs.map wL)), (15, .int .i64 (fs.length : Int)), (16, .int .i64 (k : Int)), (21, wL f), (22, .int .i64 (f.length : Int)), (23, .int .i64 (j.1 : Int))]
        [(0, { els := [rats g []], esz := 4, ety := 32, fro := 0, live := true, arr := false }), (100, { els := [rats g (Q ++ (coefs f).take j.1)], esz := 4, ety := 32, fro := 0, live := true, arr := false })]) (fun j => f.length - j.1) ⟨0, Nat.zero_le _⟩ ?_ ?_
      · refine le_of (θ := [(0, 0), (100, 100)]) rfl ?_ ?_
        · simp [varsLe, lkp, ren1, ren0, wL]
        · simp only [List.take_zero, List.append_nil]
          refine ⟨⟨rfl, rfl, rfl, rfl, rfl, .inr ⟨rfl, _, _, rfl, rfl, rfl, rfl⟩⟩, ⟨rfl, rfl, rfl, rfl, rfl, .inr ⟨rfl, _, _, rfl, rfl, rfl, rfl⟩⟩, trivial⟩
      · rintro ⟨j, hj⟩
        by_cases hJ : j < f.length
        · have hJ' := ltT hJ
          have hnj := nnT j
          have hgx := wPV_get f j hJ
          have hwj := wrap_add1 (a := j) (by omega)
          have w1 : IntKind.i64.wrap ((f.length : Int) - 1) = (n : Int) := by rw [wrap_i64 (by omega) (by omega)]; omega
          have w2 : IntKind.i64.wrap ((k : Int) + (j : Int)) = ((k + j : Nat) : Int) := by rw [wrap_i64 (by omega) (by omega)]; omega
          have hwy := ways_v n j (by omega) (by omega)
          have hb := bin_i64 (n := n) (k := j) hn
          have hp := bin_posI (n := n) (j := j) (by omega)
          have hof := wOf_v (bin n j : Int) (by omega) (by omega)
          have hxb : f[j].natAbs < 2 ^ 65536 := p2_16 (hfb _ (List.getElem_mem hJ)) hB
          have hcb : (bin n j : Int).natAbs < 2 ^ 65536 := p2_16 (B := 25) (by rw [Int.natAbs_natCast]; have : (2 : Nat) ^ 25 = 33554432 := rfl; omega) (by decide)
          have hra := wRatio_i hxb hcb (by omega)
          have hsn := coefs_snoc (f := f) hJ
          have hr : lowN f[j] (bin (f.length - 1) j : Int) = lowN f[j] (bin n j : Int) ∧ lowD f[j] (bin (f.length - 1) j : Int) = lowD f[j] (bin n j : Int) := by rw [show f.length - 1 = n by omega]; exact ⟨rfl, rfl⟩
          rw [hr.1, hr.2] at hsn
          have hmem : (lowN f[j] (bin n j : Int), lowD f[j] (bin n j : Int)) ∈ Q ++ coefs f := List.mem_append_right _ (List.mem_of_mem_take (by rw [hsn]; exact List.mem_append_right _ (List.mem_singleton.2 rfl)))
          have hrk := hokk _ hmem
          rw [outQ_f (big_small (p2_16 hrk.1 hB) (p2_16 hrk.2.1 (by decide)))] at hra
          have hokq : ∀ r ∈ Q ++ (coefs f).take j, r.1.natAbs < 2 ^ B ∧ r.2.natAbs < 2 ^ 25 ∧ 0 < r.2 := fun r hr => hokk r (by
            rcases List.mem_append.1 hr with h | h
            · exact List.mem_append_left _ h
            · exact List.mem_append_right _ (List.mem_of_mem_take h))
          have hbest := okR_best (g := g) hokq
          have hstep := bestF_snoc g (Q ++ (coefs f).take j) (lowN f[j] (bin n j : Int), lowD f[j] (bin n j : Int))
          rw [List.append_assoc, ← hsn] at hstep
          have hcmp := cmp_v (lowN f[j] (bin n j : Int), lowD f[j] (bin n j : Int)) (bestF g (Q ++ (coefs f).take j)) ⟨p2_16 hrk.1 hB, p2_16 hrk.2.1 (by decide), hrk.2.2⟩ (by
            rcases bestF_mem g (Q ++ (coefs f).take j) with e | e
            · exact .inl e
            · have := hokq _ e
              exact .inr ⟨p2_16 this.1 hB, p2_16 this.2.1 (by decide), this.2.2⟩)
          have hrat : rats g (Q ++ (coefs f).take (j + 1)) = ratPV (bstep g (bestF g (Q ++ (coefs f).take j)) (lowN f[j] (bin n j : Int), lowD f[j] (bin n j : Int))).1 (bstep g (bestF g (Q ++ (coefs f).take j)) (lowN f[j] (bin n j : Int), lowD f[j] (bin n j : Int))).2 := by rw [rats, hstep]
          have hrat0 : rats g (Q ++ (coefs f).take j) = ratPV (bestF g (Q ++ (coefs f).take j)).1 (bestF g (Q ++ (coefs f).take j)).2 := rfl
          have hpos : k + j ≠ 0 → 0 < (bestF g (Q ++ (coefs f).take j)).2 := by
            intro h0
            refine best_pos (fun r hr => (hokq r hr).2.2) ?_
            intro e
            obtain ⟨e1, e2⟩ := List.append_eq_nil_iff.1 e
            by_cases hk0 : k = 0
            · have := congrArg List.length e2
              rw [List.length_take, coefs_length] at this
              simp only [List.length_nil] at this
              omega
            · exact hne hk0 e1
          have hzero : k + j = 0 → bestF g (Q ++ (coefs f).take j) = (0, 0) := by
            intro h0
            obtain ⟨rfl, rfl⟩ : k = 0 ∧ j = 0 := by omega
            rw [← hQ]; rfl
          simp only
          rw [hrat0]
          have fin : ∀ b, rats g (Q ++ (coefs f).take (j + 1)) = b → b = rats g (Q ++ (coefs f).take (j + 1)) := fun b h => h.symm
          generalize hR1 : rats g (Q ++ (coefs f).take (j + 1)) = R1 at *
          generalize bestF g (Q ++ (coefs f).take j) = b at *
          generalize lowN f[j] (bin n j : Int) = x at *
          generalize lowD f[j] (bin n j : Int) = y at *
          generalize (bin n j : Int) = c at *
          by_cases h0 : k + j = 0
          · have z0 : (((k + j : Nat) : Int) == 0) = true := by rw [h0]; rfl
            have hb0 := hzero h0
            subst hb0
            have hR : R1 = ratPV x y := by rw [hrat]; unfold bstep; rw [if_pos (.inl rfl)]
            rw [show cmpB (x, y) (0, 0) = 0 from rfl, show cmpE (0, 0) = 2 from rfl] at hcmp
            repeat (first | (simp -implicitDefEqProofs only [go_sem, Nat.reduceAdd, Nat.reduceMul, Nat.reduceEqDiff, Nat.reduceLT, Nat.reduceLeDiff, Nat.reduceSub, Nat.reduceBEq, reduceIte, reduceCtorEq, Int.reduceEq, Int.reduceNe, Nat.reduceBneDiff, Int.reduceLE, Int.reduceLT, Int.reduceToNat, Int.reduceAdd, Int.reduceSub, Int.reduceMul, Int.reduceNeg, wL, wPV, ratPV, hJ', hnj, hgx, w1, w2, hwj, z0, zm, zz, z1, List.length_map, Int.toNat_natCast]) | ((with_reducible refine gcall_eq (hwy) ?_ ?_ ?_); (with_reducible rfl); rfl) | ((with_reducible refine gcall_eq (hof) ?_ ?_ ?_); (with_reducible rfl); rfl) | ((with_reducible refine gcall_eq (hra) ?_ ?_ ?_); (with_reducible rfl); rfl) | ((with_reducible refine gcall_eq (hcmp) ?_ ?_ ?_); (with_reducible rfl); rfl) | (with_reducible exact drawQ_true _ _ (by kernel_rfl)) | (with_reducible refine And.intro (drawQ_true _ _ (by kernel_rfl)) ?_))
            refine ⟨⟨j + 1, hJ⟩, by simp only; omega, le_of (θ := [(0, 0), (100, 100)]) rfl ?_ ?_⟩
            · simp [varsLe, lkp, ren1, ren0, wL]
            · simp only [hR1, hR]
              refine ⟨⟨rfl, rfl, rfl, rfl, rfl, .inr ⟨rfl, _, _, rfl, rfl, rfl, rfl⟩⟩, ⟨rfl, rfl, rfl, rfl, rfl, .inr ⟨rfl, _, _, rfl, rfl, rfl, rfl⟩⟩, trivial⟩
          · have z0 : (((k + j : Nat) : Int) == 0) = false := by simp only [beq_eq_false_iff_ne, ne_eq]; omega
            have hbp := hpos h0
            rw [show cmpE b = 0 from if_neg (by omega), show cmpB (x, y) b = (x * b.2 - b.1 * y).sign from if_neg (by omega)] at hcmp
            have hbs : bstep g b (x, y) = if (if g = true then b.1 * y < x * b.2 else x * b.2 < b.1 * y) then (x, y) else b := by
              unfold bstep
              simp only [show ¬ b.2 = 0 by omega, false_or]
            rw [hbs] at hrat
            rcases Int.lt_trichotomy (x * b.2) (b.1 * y) with hs | hs | hs
            · rw [show (x * b.2 - b.1 * y).sign = -1 from Int.sign_eq_neg_one_of_neg (by omega)] at hcmp
              cases g with
              | false =>
                have hR : R1 = ratPV x y := by rw [hrat]; simp [hs]
                repeat (first | (simp -implicitDefEqProofs only [go_sem, Nat.reduceAdd, Nat.reduceMul, Nat.reduceEqDiff, Nat.reduceLT, Nat.reduceLeDiff, Nat.reduceSub, Nat.reduceBEq, reduceIte, reduceCtorEq, Int.reduceEq, Int.reduceNe, Nat.reduceBneDiff, Int.reduceLE, Int.reduceLT, Int.reduceToNat, Int.reduceAdd, Int.reduceSub, Int.reduceMul, Int.reduceNeg, wL, wPV, ratPV, hJ', hnj, hgx, w1, w2, hwj, z0, zm, zz, z1, List.length_map, Int.toNat_natCast]) | ((with_reducible refine gcall_eq (hwy) ?_ ?_ ?_); (with_reducible rfl); rfl) | ((with_reducible refine gcall_eq (hof) ?_ ?_ ?_); (with_reducible rfl); rfl) | ((with_reducible refine gcall_eq (hra) ?_ ?_ ?_); (with_reducible rfl); rfl) | ((with_reducible refine gcall_eq (hcmp) ?_ ?_ ?_); (with_reducible rfl); rfl) | (with_reducible exact drawQ_true _ _ (by kernel_rfl)) | (with_reducible refine And.intro (drawQ_true _ _ (by kernel_rfl)) ?_))
                refine ⟨⟨j + 1, hJ⟩, by simp only; omega, le_of (θ := [(0, 0), (100, 100)]) rfl ?_ ?_⟩
                · simp [varsLe, lkp, ren1, ren0, wL]
                · simp only [hR1, hR]
                  refine ⟨⟨rfl, rfl, rfl, rfl, rfl, .inr ⟨rfl, _, _, rfl, rfl, rfl, rfl⟩⟩, ⟨rfl, rfl, rfl, rfl, rfl, .inr ⟨rfl, _, _, rfl, rfl, rfl, rfl⟩⟩, trivial⟩
              | true =>
                have hR : R1 = ratPV b.1 b.2 := by rw [hrat]; simp [show ¬ b.1 * y < x * b.2 by omega]
                repeat (first | (simp -implicitDefEqProofs only [go_sem, Nat.reduceAdd, Nat.reduceMul, Nat.reduceEqDiff, Nat.reduceLT, Nat.reduceLeDiff, Nat.reduceSub, Nat.reduceBEq, reduceIte, reduceCtorEq, Int.reduceEq, Int.reduceNe, Nat.reduceBneDiff, Int.reduceLE, Int.reduceLT, Int.reduceToNat, Int.reduceAdd, Int.reduceSub, Int.reduceMul, Int.reduceNeg, wL, wPV, ratPV, hJ', hnj, hgx, w1, w2, hwj, z0, zm, zz, z1, List.length_map, Int.toNat_natCast]) | ((with_reducible refine gcall_eq (hwy) ?_ ?_ ?_); (with_reducible rfl); rfl) | ((with_reducible refine gcall_eq (hof) ?_ ?_ ?_); (with_reducible rfl); rfl) | ((with_reducible refine gcall_eq (hra) ?_ ?_ ?_); (with_reducible rfl); rfl) | ((with_reducible refine gcall_eq (hcmp) ?_ ?_ ?_); (with_reducible rfl); rfl) | (with_reducible exact drawQ_true _ _ (by kernel_rfl)) | (with_reducible refine And.intro (drawQ_true _ _ (by kernel_rfl)) ?_))
                refine ⟨⟨j + 1, hJ⟩, by simp only; omega, le_of (θ := [(0, 0), (100, 100)]) rfl ?_ ?_⟩
                · simp [varsLe, lkp, ren1, ren0, wL]
                · simp only [hR1, hR]
                  refine ⟨⟨rfl, rfl, rfl, rfl, rfl, .inr ⟨rfl, _, _, rfl, rfl, rfl, rfl⟩⟩, ⟨rfl, rfl, rfl, rfl, rfl, .inr ⟨rfl, _, _, rfl, rfl, rfl, rfl⟩⟩, trivial⟩
            · rw [show (x * b.2 - b.1 * y).sign = 0 from by rw [hs, Int.sub_self]; rfl] at hcmp
              cases g with
              | false =>
                have hR : R1 = ratPV b.1 b.2 := by rw [hrat]; simp [show ¬ x * b.2 < b.1 * y by omega]
                repeat (first | (simp -implicitDefEqProofs only [go_sem, Nat.reduceAdd, Nat.reduceMul, Nat.reduceEqDiff, Nat.reduceLT, Nat.reduceLeDiff, Nat.reduceSub, Nat.reduceBEq, reduceIte, reduceCtorEq, Int.reduceEq, Int.reduceNe, Nat.reduceBneDiff, Int.reduceLE, Int.reduceLT, Int.reduceToNat, Int.reduceAdd, Int.reduceSub, Int.reduceMul, Int.reduceNeg, wL, wPV, ratPV, hJ', hnj, hgx, w1, w2, hwj, z0, zm, zz, z1, List.length_map, Int.toNat_natCast]) | ((with_reducible refine gcall_eq (hwy) ?_ ?_ ?_); (with_reducible rfl); rfl) | ((with_reducible refine gcall_eq (hof) ?_ ?_ ?_); (with_reducible rfl); rfl) | ((with_reducible refine gcall_eq (hra) ?_ ?_ ?_); (with_reducible rfl); rfl) | ((with_reducible refine gcall_eq (hcmp) ?_ ?_ ?_); (with_reducible rfl); rfl) | (with_reducible exact drawQ_true _ _ (by kernel_rfl)) | (with_reducible refine And.intro (drawQ_true _ _ (by kernel_rfl)) ?_))
                refine ⟨⟨j + 1, hJ⟩, by simp only; omega, le_of (θ := [(0, 0), (100, 100)]) rfl ?_ ?_⟩
                · simp [varsLe, lkp, ren1, ren0, wL]
                · simp only [hR1, hR]
                  refine ⟨⟨rfl, rfl, rfl, rfl, rfl, .inr ⟨rfl, _, _, rfl, rfl, rfl, rfl⟩⟩, ⟨rfl, rfl, rfl, rfl, rfl, .inr ⟨rfl, _, _, rfl, rfl, rfl, rfl⟩⟩, trivial⟩
              | true =>
                have hR : R1 = ratPV b.1 b.2 := by rw [hrat]; simp [show ¬ b.1 * y < x * b.2 by omega]
                repeat (first | (simp -implicitDefEqProofs only [go_sem, Nat.reduceAdd, Nat.reduceMul, Nat.reduceEqDiff, Nat.reduceLT, Nat.reduceLeDiff, Nat.reduceSub, Nat.reduceBEq, reduceIte, reduceCtorEq, Int.reduceEq, Int.reduceNe, Nat.reduceBneDiff, Int.reduceLE, Int.reduceLT, Int.reduceToNat, Int.reduceAdd, Int.reduceSub, Int.reduceMul, Int.reduceNeg, wL, wPV, ratPV, hJ', hnj, hgx, w1, w2, hwj, z0, zm, zz, z1, List.length_map, Int.toNat_natCast]) | ((with_reducible refine gcall_eq (hwy) ?_ ?_ ?_); (with_reducible rfl); rfl) | ((with_reducible refine gcall_eq (hof) ?_ ?_ ?_); (with_reducible rfl); rfl) | ((with_reducible refine gcall_eq (hra) ?_ ?_ ?_); (with_reducible rfl); rfl) | ((with_reducible refine gcall_eq (hcmp) ?_ ?_ ?_); (with_reducible rfl); rfl) | (with_reducible exact drawQ_true _ _ (by kernel_rfl)) | (with_reducible refine And.intro (drawQ_true _ _ (by kernel_rfl)) ?_))
                refine ⟨⟨j + 1, hJ⟩, by simp only; omega, le_of (θ := [(0, 0), (100, 100)]) rfl ?_ ?_⟩
                · simp [varsLe, lkp, ren1, ren0, wL]
                · simp only [hR1, hR]
                  refine ⟨⟨rfl, rfl, rfl, rfl, rfl, .inr ⟨rfl, _, _, rfl, rfl, rfl, rfl⟩⟩, ⟨rfl, rfl, rfl, rfl, rfl, .inr ⟨rfl, _, _, rfl, rfl, rfl, rfl⟩⟩, trivial⟩
            · rw [show (x * b.2 - b.1 * y).sign = 1 from Int.sign_eq_one_of_pos (by omega)] at hcmp
              cases g with
              | false =>
                have hR : R1 = ratPV b.1 b.2 := by rw [hrat]; simp [show ¬ x * b.2 < b.1 * y by omega]
                repeat (first | (simp -implicitDefEqProofs only [go_sem, Nat.reduceAdd, Nat.reduceMul, Nat.reduceEqDiff, Nat.reduceLT, Nat.reduceLeDiff, Nat.reduceSub, Nat.reduceBEq, reduceIte, reduceCtorEq, Int.reduceEq, Int.reduceNe, Nat.reduceBneDiff, Int.reduceLE, Int.reduceLT, Int.reduceToNat, Int.reduceAdd, Int.reduceSub, Int.reduceMul, Int.reduceNeg, wL, wPV, ratPV, hJ', hnj, hgx, w1, w2, hwj, z0, zm, zz, z1, List.length_map, Int.toNat_natCast]) | ((with_reducible refine gcall_eq (hwy) ?_ ?_ ?_); (with_reducible rfl); rfl) | ((with_reducible refine gcall_eq (hof) ?_ ?_ ?_); (with_reducible rfl); rfl) | ((with_reducible refine gcall_eq (hra) ?_ ?_ ?_); (with_reducible rfl); rfl) | ((with_reducible refine gcall_eq (hcmp) ?_ ?_ ?_); (with_reducible rfl); rfl) | (with_reducible exact drawQ_true _ _ (by kernel_rfl)) | (with_reducible refine And.intro (drawQ_true _ _ (by kernel_rfl)) ?_))
                refine ⟨⟨j + 1, hJ⟩, by simp only; omega, le_of (θ := [(0, 0), (100, 100)]) rfl ?_ ?_⟩
                · simp [varsLe, lkp, ren1, ren0, wL]
                · simp only [hR1, hR]
                  refine ⟨⟨rfl, rfl, rfl, rfl, rfl, .inr ⟨rfl, _, _, rfl, rfl, rfl, rfl⟩⟩, ⟨rfl, rfl, rfl, rfl, rfl, .inr ⟨rfl, _, _, rfl, rfl, rfl, rfl⟩⟩, trivial⟩
              | true =>
                have hR : R1 = ratPV x y := by rw [hrat]; simp [hs]
                repeat (first | (simp -implicitDefEqProofs only [go_sem, Nat.reduceAdd, Nat.reduceMul, Nat.reduceEqDiff, Nat.reduceLT, Nat.reduceLeDiff, Nat.reduceSub, Nat.reduceBEq, reduceIte, reduceCtorEq, Int.reduceEq, Int.reduceNe, Nat.reduceBneDiff, Int.reduceLE, Int.reduceLT, Int.reduceToNat, Int.reduceAdd, Int.reduceSub, Int.reduceMul, Int.reduceNeg, wL, wPV, ratPV, hJ', hnj, hgx, w1, w2, hwj, z0, zm, zz, z1, List.length_map, Int.toNat_natCast]) | ((with_reducible refine gcall_eq (hwy) ?_ ?_ ?_); (with_reducible rfl); rfl) | ((with_reducible refine gcall_eq (hof) ?_ ?_ ?_); (with_reducible rfl); rfl) | ((with_reducible refine gcall_eq (hra) ?_ ?_ ?_); (with_reducible rfl); rfl) | ((with_reducible refine gcall_eq (hcmp) ?_ ?_ ?_); (with_reducible rfl); rfl) | (with_reducible exact drawQ_true _ _ (by kernel_rfl)) | (with_reducible refine And.intro (drawQ_true _ _ (by kernel_rfl)) ?_))
                refine ⟨⟨j + 1, hJ⟩, by simp only; omega, le_of (θ := [(0, 0), (100, 100)]) rfl ?_ ?_⟩
                · simp [varsLe, lkp, ren1, ren0, wL]
                · simp only [hR1, hR]
                  refine ⟨⟨rfl, rfl, rfl, rfl, rfl, .inr ⟨rfl, _, _, rfl, rfl, rfl, rfl⟩⟩, ⟨rfl, rfl, rfl, rfl, rfl, .inr ⟨rfl, _, _, rfl, rfl, rfl, rfl⟩⟩, trivial⟩
        · have hJ' := ltF hJ
          have e : (coefs f).take j = coefs f := List.take_of_length_le (by rw [coefs_length]; omega)
          simp only [e, ← hfs]
          repeat (first | (simp -implicitDefEqProofs only [go_sem, Nat.reduceAdd, Nat.reduceMul, Nat.reduceEqDiff, Nat.reduceLT, Nat.reduceLeDiff, Nat.reduceSub, Nat.reduceBEq, reduceIte, reduceCtorEq, Int.reduceEq, Int.reduceNe, Nat.reduceBneDiff, Int.reduceLE, Int.reduceLT, Int.reduceToNat, Int.reduceAdd, Int.reduceSub, Int.reduceMul, Int.reduceNeg, wL, hJ', hwk]) | (with_reducible exact drawQ_true _ _ (by kernel_rfl)) | (with_reducible refine And.intro (drawQ_true _ _ (by kernel_rfl)) ?_))
          refine ⟨⟨k + 1, hA⟩, by simp only; omega, le_of (θ := [(0, 0), (100, 100)]) rfl ?_ ?_⟩
          · simp [varsLe, lkp, ren1, ren0]
          · refine ⟨⟨rfl, rfl, rfl, rfl, rfl, .inr ⟨rfl, _, _, rfl, rfl, rfl, rfl⟩⟩, ⟨rfl, rfl, rfl, rfl, rfl, .inr ⟨rfl, _, _, rfl, rfl, rfl, rfl⟩⟩, trivial⟩
    · have hA' := ltF hA
      have e : fs.take k = fs := List.take_of_length_le (by omega)
      simp only [e]
      repeat (first | (simp -implicitDefEqProofs only [go_sem, Nat.reduceAdd, Nat.reduceMul, Nat.reduceEqDiff, Nat.reduceLT, Nat.reduceLeDiff, Nat.reduceSub, Nat.reduceBEq, reduceIte, reduceCtorEq, Int.reduceEq, Int.reduceNe, Nat.reduceBneDiff, Int.reduceLE, Int.reduceLT, Int.reduceToNat, Int.reduceAdd, Int.reduceSub, Int.reduceMul, Int.reduceNeg, hA', rats, ratPV]) | (with_reducible exact drawQ_true _ _ (by kernel_rfl)) | (with_reducible refine And.intro (drawQ_true _ _ (by kernel_rfl)) ?_))
end Go.Proofs.YtnpclmmmngmdkaaGreat

namespace Go.Proofs.YtnpclmmmngmdkaaGreat
open Go.Vl Go.RowKit Go.Dg

theorem Bounds_v (l : List (Bool × ByteArray)) (n B : Nat) (hn : l.length = n + 1) (h : formB l = true) (hx : ∀ x ∈ l.map wnP, x.natAbs < 2 ^ B) (hB : B + 30 ≤ 65536) :
    SoundAt Tryz.prog 11 [.slc (l.map wA)] (.tup [rats false (coefs (l.map wnP)), rats true (coefs (l.map wnP)), .int .i64 0]) := by
  obtain ⟨hval, h1, h25⟩ := formB_of h
  have hv := valid_v l (Nat.le_trans h25 (by decide))
  rw [h] at hv
  rw [wA_wPV hval] at hv ⊢
  have hxl : (l.map wnP).length = n + 1 := by rw [List.length_map]; exact hn
  have hn24 : n ≤ 24 := by omega
  generalize l.map wnP = xs at *
  have hsz := size_v xs (by omega) fun x hx' => p2_16 (hx x hx') (by omega)
  have hle : bitsF blen xs ≤ B := bitsF_le fun x hx' => p2_blen (hx x hx')
  have w3 : IntKind.i64.wrap ((bitsF blen xs : Int) + 30) = ((bitsF blen xs + 30 : Nat) : Int) := by rw [wrap_i64 (by omega) (by omega)]; omega
  have g4 : ((65536 : Int) < ((bitsF blen xs + 30 : Nat) : Int)) = False := by simp only [eq_iff_iff, iff_false]; omega
  have l1 := least_v [xs] false n B hn24 (by simp) (fun f hf => by rw [List.mem_singleton] at hf; subst hf; exact ⟨hxl, hx⟩) (by omega)
  have l2 := least_v [xs] true n B hn24 (by simp) (fun f hf => by rw [List.mem_singleton] at hf; subst hf; exact ⟨hxl, hx⟩) (by omega)
  rw [List.flatMap_singleton] at l1 l2
  unfold rats ratPV at l1 l2 ⊢
  simp only [List.map_cons, List.map_nil] at l1 l2
  generalize bestF false (coefs xs) = b1 at *
  generalize bestF true (coefs xs) = b2 at *
  generalize bitsF blen xs = bb at *
  unfold wL at *
  refine sound_go (tb := []) 26 [.cell 2 32, .cell 3 32, .tmp 4] [0, 2, 3, 4, 5, 7, 13] mixed Tryz.func11 rfl (by kernel_rfl) (by kernel_rfl) (by kernel_rfl) (by kernel_rfl) ?_
  repeat (first | (simp -implicitDefEqProofs only [go_sem, Nat.reduceAdd, Nat.reduceMul, Nat.reduceEqDiff, Nat.reduceLT, Nat.reduceLeDiff, Nat.reduceSub, Nat.reduceBEq, reduceIte, reduceCtorEq, Int.reduceEq, Int.reduceNe, Nat.reduceBneDiff, Int.reduceLE, Int.reduceLT, Int.reduceToNat, Int.reduceAdd, Int.reduceSub, Int.reduceMul, Int.reduceNeg, w3, g4, List.length_map]) | ((with_reducible refine gcall_eq (hv) ?_ ?_ ?_); (with_reducible rfl); rfl) | ((with_reducible refine gcall_eq (hsz) ?_ ?_ ?_); (with_reducible rfl); rfl) | ((with_reducible refine gcall_eq (l1) ?_ ?_ ?_); (with_reducible rfl); rfl) | ((with_reducible refine gcall_eq (l2) ?_ ?_ ?_); (with_reducible rfl); rfl) | (with_reducible exact drawQ_true _ _ (by kernel_rfl)) | (with_reducible refine And.intro (drawQ_true _ _ (by kernel_rfl)) ?_))
end Go.Proofs.YtnpclmmmngmdkaaGreat

namespace Go.Vl
open Go.RowKit

theorem le_esc {st : St} {t b esz off len : Nat} {B : Box} (ht : st.var t = some (.bs b esz off len)) (hB : st.box b = some B) (ha : B.arr = true) (he : B.esz = esz) (hn : off + len ≤ B.els.length) :
    Le st ((st.setBox b { B with fro := max B.fro (off + len), live := B.live && true }).setVar t (.slc ((B.els.drop off).take len))) := by
  rintro C a w ⟨ρ, im, h⟩
  obtain ⟨x, hx, hr⟩ := slc_of_bs h (h.var t _ ht) hB ha he hn
  have h1 := h.hold hx hB hn true (.inl rfl)
  refine ⟨ρ, _, h1.root, h1.nt, h1.dfr, h1.imc, ?_, h1.rho, h1.box, h1.inj⟩
  intro t' v' hv'
  simp only [St.setVar, upd] at hv'
  split at hv'
  · rename_i e
    cases hv'
    subst e
    exact .ext _ _ hr
  · exact h1.var t' v' hv'
theorem le_escG {vs : List (Nat × PV)} {bs : List (Nat × Box)} {o : List (List PV)} {y : Yl} (t : Nat) {b esz off len : Nat} {B : Box} (ht : lkp vs t = some (.bs b esz off len)) (hB : lkp bs b = some B)
    (ha : B.arr = true) (he : B.esz = esz) (hn : off + len ≤ B.els.length) :
    Le (St.ofG vs bs o y) (St.ofG ((t, .slc ((B.els.drop off).take len)) :: vs) ((b, { B with fro := max B.fro (off + len), live := B.live && true }) :: bs) o y) := le_esc (st := St.ofG vs bs o y) ht hB ha he hn
end Go.Vl

namespace Go.Proofs.YtnpclmmmngmdkaaGreat
open Go.Vl Go.RowKit Go.Dg

theorem polyB_of {l : List (Bool × ByteArray)} (h : polyB l = true) : validL l = true ∧ l.length ≤ 25 := by
  unfold polyB at h
  simp only [Bool.and_eq_true, decide_eq_true_eq] at h
  exact ⟨h.1, h.2.1⟩
theorem check_v (l : List (Bool × ByteArray)) (n d : Nat) (hs : ∀ p ∈ l, p.2.size ≤ 100000) (hp : polyB l = true) (hn : n = l.length - 1) (hd : d ≤ 8) (hx : ∀ x ∈ l.map wnP, x.natAbs < 2 ^ 65536) :
    SoundAt Tryz.prog 59 [.slc (l.map wA), .int .i64 (d : Int)] (.int .i64 (if 65536 < bitsF blen (l.map wnP) + n * d + 60 then 7 else 0)) := by
  obtain ⟨hval, h25⟩ := polyB_of hp
  have hv := pValid_v l (by omega) hs
  rw [hp] at hv
  rw [wA_wPV hval] at hv ⊢
  have hxl : (l.map wnP).length = l.length := List.length_map _
  rw [← hxl] at h25 hn
  generalize l.map wnP = xs at *
  have hsz := size_v xs (by omega) hx
  have hle : bitsF blen xs ≤ 65536 := bitsF_le fun x hx' => p2_blen (hx x hx')
  have g1 : ((d : Int) < 0) = False := eq_false (by omega)
  have g2 : ((8 : Int) < (d : Int)) = False := eq_false (by omega)
  have hnd : n * d ≤ 24 * 8 := Nat.mul_le_mul (by omega) hd
  generalize bitsF blen xs = bb at *
  unfold wL at hsz
  by_cases h1 : 1 < xs.length
  · have w1 : IntKind.i64.wrap ((xs.length : Int) - 1) = (n : Int) := by rw [wrap_i64 (by omega) (by omega)]; omega
    have c1 : ((0 : Int) < (n : Int)) = True := eq_true (by omega)
    have w2 : IntKind.i64.wrap ((n : Int) * (d : Int)) = ((n * d : Nat) : Int) := by rw [← Int.natCast_mul]; exact wrapn (by omega)
    have w3 : IntKind.i64.wrap ((bb : Int) + ((n * d : Nat) : Int)) = ((bb + n * d : Nat) : Int) := by rw [wrap_i64 (by omega) (by omega)]; omega
    have w4 : IntKind.i64.wrap (((bb + n * d : Nat) : Int) + 60) = ((bb + n * d + 60 : Nat) : Int) := by rw [wrap_i64 (by omega) (by omega)]; omega
    by_cases hF : 65536 < bb + n * d + 60
    · have g4 : ((65536 : Int) < ((bb + n * d + 60 : Nat) : Int)) = True := eq_true (by omega)
      rw [if_pos hF]
      refine sound_go (tb := []) 29 [.tmp 4] [0, 1, 4, 5, 17] mixed Tryz.func59 rfl (by kernel_rfl) (by kernel_rfl) (by kernel_rfl) (by kernel_rfl) ?_
      repeat (first | (simp -implicitDefEqProofs only [go_sem, Nat.reduceAdd, Nat.reduceMul, Nat.reduceEqDiff, Nat.reduceLT, Nat.reduceLeDiff, Nat.reduceSub, Nat.reduceBEq, reduceIte, reduceCtorEq, Int.reduceEq, Int.reduceNe, Nat.reduceBneDiff, Int.reduceLE, Int.reduceLT, Int.reduceToNat, Int.reduceAdd, Int.reduceSub, Int.reduceMul, Int.reduceNeg, g1, g2, w1, c1, w2, w3, w4, g4, List.length_map]) | ((with_reducible refine gcall_eq (hv) ?_ ?_ ?_); (with_reducible rfl); rfl) | ((with_reducible refine gcall_eq (hsz) ?_ ?_ ?_); (with_reducible rfl); rfl) | (with_reducible exact drawQ_true _ _ (by kernel_rfl)) | (with_reducible refine And.intro (drawQ_true _ _ (by kernel_rfl)) ?_))
    · have g4 : ((65536 : Int) < ((bb + n * d + 60 : Nat) : Int)) = False := eq_false (by omega)
      rw [if_neg hF]
      refine sound_go (tb := []) 29 [.tmp 4] [0, 1, 4, 5, 17] mixed Tryz.func59 rfl (by kernel_rfl) (by kernel_rfl) (by kernel_rfl) (by kernel_rfl) ?_
      repeat (first | (simp -implicitDefEqProofs only [go_sem, Nat.reduceAdd, Nat.reduceMul, Nat.reduceEqDiff, Nat.reduceLT, Nat.reduceLeDiff, Nat.reduceSub, Nat.reduceBEq, reduceIte, reduceCtorEq, Int.reduceEq, Int.reduceNe, Nat.reduceBneDiff, Int.reduceLE, Int.reduceLT, Int.reduceToNat, Int.reduceAdd, Int.reduceSub, Int.reduceMul, Int.reduceNeg, g1, g2, w1, c1, w2, w3, w4, g4, List.length_map]) | ((with_reducible refine gcall_eq (hv) ?_ ?_ ?_); (with_reducible rfl); rfl) | ((with_reducible refine gcall_eq (hsz) ?_ ?_ ?_); (with_reducible rfl); rfl) | (with_reducible exact drawQ_true _ _ (by kernel_rfl)) | (with_reducible refine And.intro (drawQ_true _ _ (by kernel_rfl)) ?_))
  · have w1 : IntKind.i64.wrap ((xs.length : Int) - 1) = (xs.length : Int) - 1 := wrap_i64 (by omega) (by omega)
    have c1 : ((0 : Int) < (xs.length : Int) - 1) = False := eq_false (by omega)
    obtain rfl : n = 0 := by omega
    have w2 : IntKind.i64.wrap (0 * (d : Int)) = 0 := by rw [Int.zero_mul]; rfl
    have w3 : IntKind.i64.wrap ((bb : Int) + 0) = (bb : Int) := by rw [Int.add_zero]; exact wrapn (by omega)
    have w4 : IntKind.i64.wrap ((bb : Int) + 60) = ((bb + 60 : Nat) : Int) := by rw [wrap_i64 (by omega) (by omega)]; omega
    rw [Nat.zero_mul, Nat.add_zero]
    by_cases hF : 65536 < bb + 60
    · have g4 : ((65536 : Int) < ((bb + 60 : Nat) : Int)) = True := eq_true (by omega)
      rw [if_pos hF]
      refine sound_go (tb := []) 29 [.tmp 4] [0, 1, 4, 5, 17] mixed Tryz.func59 rfl (by kernel_rfl) (by kernel_rfl) (by kernel_rfl) (by kernel_rfl) ?_
      repeat (first | (simp -implicitDefEqProofs only [go_sem, Nat.reduceAdd, Nat.reduceMul, Nat.reduceEqDiff, Nat.reduceLT, Nat.reduceLeDiff, Nat.reduceSub, Nat.reduceBEq, reduceIte, reduceCtorEq, Int.reduceEq, Int.reduceNe, Nat.reduceBneDiff, Int.reduceLE, Int.reduceLT, Int.reduceToNat, Int.reduceAdd, Int.reduceSub, Int.reduceMul, Int.reduceNeg, g1, g2, w1, c1, w2, w3, w4, g4, List.length_map]) | ((with_reducible refine gcall_eq (hv) ?_ ?_ ?_); (with_reducible rfl); rfl) | ((with_reducible refine gcall_eq (hsz) ?_ ?_ ?_); (with_reducible rfl); rfl) | (with_reducible exact drawQ_true _ _ (by kernel_rfl)) | (with_reducible refine And.intro (drawQ_true _ _ (by kernel_rfl)) ?_))
    · have g4 : ((65536 : Int) < ((bb + 60 : Nat) : Int)) = False := eq_false (by omega)
      rw [if_neg hF]
      refine sound_go (tb := []) 29 [.tmp 4] [0, 1, 4, 5, 17] mixed Tryz.func59 rfl (by kernel_rfl) (by kernel_rfl) (by kernel_rfl) (by kernel_rfl) ?_
      repeat (first | (simp -implicitDefEqProofs only [go_sem, Nat.reduceAdd, Nat.reduceMul, Nat.reduceEqDiff, Nat.reduceLT, Nat.reduceLeDiff, Nat.reduceSub, Nat.reduceBEq, reduceIte, reduceCtorEq, Int.reduceEq, Int.reduceNe, Nat.reduceBneDiff, Int.reduceLE, Int.reduceLT, Int.reduceToNat, Int.reduceAdd, Int.reduceSub, Int.reduceMul, Int.reduceNeg, g1, g2, w1, c1, w2, w3, w4, g4, List.length_map]) | ((with_reducible refine gcall_eq (hv) ?_ ?_ ?_); (with_reducible rfl); rfl) | ((with_reducible refine gcall_eq (hsz) ?_ ?_ ?_); (with_reducible rfl); rfl) | (with_reducible exact drawQ_true _ _ (by kernel_rfl)) | (with_reducible refine And.intro (drawQ_true _ _ (by kernel_rfl)) ?_))
/-- Whether some halvings show that a form is at least 0. -/
def nonnegB (f : List Int) : Bool := f.all fun x => decide (0 ≤ x)
def shownF (n : Nat) : Nat → List Int → Bool
  | 0, f => nonnegB f
  | d + 1, f => nonnegB f || (shownF n d (leftH f n) && shownF n d (rightH f n))
def pairI (x : Int) : Bool × ByteArray := (decide (x < 0), mB x)
theorem pairI_wA (xs : List Int) : (xs.map pairI).map wA = xs.map wPV := by rw [List.map_map]; rfl
theorem wnum_pairI (x : Int) : wnum (pairI x).1 (pairI x).2 = x := wnum_magL x
theorem shown1_v (x : Int) (hx : x.natAbs < 2 ^ 65536) : SoundAt Tryz.prog 103 [.agg [.bool (decide (x < 0)), .str (mB x)]] (.bool (decide (x < 0))) := by
  have h := wSign_i hx
  by_cases h0 : x < 0
  · have g1 : (x.sign < 0) = True := eq_true (by rw [Int.sign_eq_neg_one_of_neg h0]; decide)
    simp only [h0, decide_true]
    simp only [h0, decide_true, wPV] at h
    refine sound_go (tb := []) 6 [.tmp 2] [0, 1, 2] mixed Tryz.func103 rfl (by kernel_rfl) (by kernel_rfl) (by kernel_rfl) (by kernel_rfl) ?_
    repeat (first | (simp -implicitDefEqProofs only [go_sem, Nat.reduceAdd, Nat.reduceMul, Nat.reduceEqDiff, Nat.reduceLT, Nat.reduceLeDiff, Nat.reduceSub, Nat.reduceBEq, reduceIte, reduceCtorEq, Int.reduceEq, Int.reduceNe, Nat.reduceBneDiff, Int.reduceLE, Int.reduceLT, Int.reduceToNat, Int.reduceAdd, Int.reduceSub, Int.reduceMul, Int.reduceNeg, g1]) | ((with_reducible refine gcall_eq (h) ?_ ?_ ?_); (with_reducible rfl); rfl) | (with_reducible exact drawQ_true _ _ (by kernel_rfl)) | (with_reducible refine And.intro (drawQ_true _ _ (by kernel_rfl)) ?_))
  · have g1 : (x.sign < 0) = False := eq_false (by intro h; exact h0 (Int.sign_neg_iff.1 h))
    simp only [h0, decide_false]
    simp only [h0, decide_false, wPV] at h
    refine sound_go (tb := []) 6 [.tmp 2] [0, 1, 2] mixed Tryz.func103 rfl (by kernel_rfl) (by kernel_rfl) (by kernel_rfl) (by kernel_rfl) ?_
    repeat (first | (simp -implicitDefEqProofs only [go_sem, Nat.reduceAdd, Nat.reduceMul, Nat.reduceEqDiff, Nat.reduceLT, Nat.reduceLeDiff, Nat.reduceSub, Nat.reduceBEq, reduceIte, reduceCtorEq, Int.reduceEq, Int.reduceNe, Nat.reduceBneDiff, Int.reduceLE, Int.reduceLT, Int.reduceToNat, Int.reduceAdd, Int.reduceSub, Int.reduceMul, Int.reduceNeg, g1]) | ((with_reducible refine gcall_eq (h) ?_ ?_ ?_); (with_reducible rfl); rfl) | (with_reducible exact drawQ_true _ _ (by kernel_rfl)) | (with_reducible refine And.intro (drawQ_true _ _ (by kernel_rfl)) ?_))
theorem containsS_v (f : List Int) (hl : f.length ≤ 1000000) (hf : ∀ x ∈ f, x.natAbs < 2 ^ 65536) : SoundAt Tryz.prog 76 [.slc (f.map wPV), .fn 103 [] []] (.bool (!nonnegB f)) := by
  have h := contains_v (f.map pairI) (by simpa using hl) 103 (fun q => decide (wnum q.1 q.2 < 0)) (fun q hq => by
    obtain ⟨x, hx, rfl⟩ := List.mem_map.1 hq
    have := shown1_v x (hf x hx)
    simp only [wnum_pairI]
    exact this)
  rw [pairI_wA] at h
  have e : (f.map pairI).any (fun q => decide (wnum q.1 q.2 < 0)) = !nonnegB f := by
    unfold nonnegB
    rw [List.any_map, List.not_all_eq_any_not]
    congr 1
    funext x
    simp only [Function.comp_apply, wnum_pairI]
    by_cases hx : x < 0
    · rw [decide_eq_true hx, decide_eq_false (by omega)]; rfl
    · rw [decide_eq_false hx, decide_eq_true (by omega)]; rfl
  rwa [e] at h
theorem shown_v (n : Nat) (hn : n ≤ 24) : ∀ (d : Nat) (f : List Int) (B : Nat), f.length = n + 1 → bd B f → B + 60 * d + 60 ≤ 60000 → SoundAt Tryz.prog 67 [wL f, .int .i64 (d : Int)] (.bool (shownF n d f)) := by
  intro d
  induction d with
  | zero =>
    intro f B hl hf hB
    have hc := containsS_v f (by omega) fun x hx => p2_16 (hf x hx) (by omega)
    have z0 : (((0 : Nat) : Int) == 0) = true := rfl
    rw [shownF]
    cases hb : nonnegB f with
    | true =>
      rw [hb] at hc
      refine sound_go (tb := []) 27 [.tmp 4] [0, 1, 4, 5, 6, 9, 11] mixed Tryz.func67 rfl (by kernel_rfl) (by kernel_rfl) (by kernel_rfl) (by kernel_rfl) ?_
      repeat (first | (simp -implicitDefEqProofs only [go_sem, Nat.reduceAdd, Nat.reduceMul, Nat.reduceEqDiff, Nat.reduceLT, Nat.reduceLeDiff, Nat.reduceSub, Nat.reduceBEq, reduceIte, reduceCtorEq, Int.reduceEq, Int.reduceNe, Nat.reduceBneDiff, Int.reduceLE, Int.reduceLT, Int.reduceToNat, Int.reduceAdd, Int.reduceSub, Int.reduceMul, Int.reduceNeg, wL, z0]) | ((with_reducible refine gcall_eq (hc) ?_ ?_ ?_); (with_reducible rfl); rfl) | (with_reducible exact drawQ_true _ _ (by kernel_rfl)) | (with_reducible refine And.intro (drawQ_true _ _ (by kernel_rfl)) ?_))
    | false =>
      rw [hb] at hc
      refine sound_go (tb := []) 27 [.tmp 4] [0, 1, 4, 5, 6, 9, 11] mixed Tryz.func67 rfl (by kernel_rfl) (by kernel_rfl) (by kernel_rfl) (by kernel_rfl) ?_
      repeat (first | (simp -implicitDefEqProofs only [go_sem, Nat.reduceAdd, Nat.reduceMul, Nat.reduceEqDiff, Nat.reduceLT, Nat.reduceLeDiff, Nat.reduceSub, Nat.reduceBEq, reduceIte, reduceCtorEq, Int.reduceEq, Int.reduceNe, Nat.reduceBneDiff, Int.reduceLE, Int.reduceLT, Int.reduceToNat, Int.reduceAdd, Int.reduceSub, Int.reduceMul, Int.reduceNeg, wL, z0]) | ((with_reducible refine gcall_eq (hc) ?_ ?_ ?_); (with_reducible rfl); rfl) | (with_reducible exact drawQ_true _ _ (by kernel_rfl)) | (with_reducible refine And.intro (drawQ_true _ _ (by kernel_rfl)) ?_))
  | succ d ih =>
    intro f B hl hf hB
    have hc := containsS_v f (by omega) fun x hx => p2_16 (hf x hx) (by omega)
    have z0 : (((d + 1 : Nat) : Int) == 0) = false := by simp only [beq_eq_false_iff_ne, ne_eq]; omega
    have w1 : IntKind.i64.wrap (((d + 1 : Nat) : Int) - 1) = (d : Int) := by rw [wrap_i64 (by omega) (by omega)]; omega
    rw [shownF]
    cases hb : nonnegB f with
    | true =>
      rw [hb] at hc
      refine sound_go (tb := []) 27 [.tmp 4] [0, 1, 4, 5, 6, 9, 11] mixed Tryz.func67 rfl (by kernel_rfl) (by kernel_rfl) (by kernel_rfl) (by kernel_rfl) ?_
      repeat (first | (simp -implicitDefEqProofs only [go_sem, Nat.reduceAdd, Nat.reduceMul, Nat.reduceEqDiff, Nat.reduceLT, Nat.reduceLeDiff, Nat.reduceSub, Nat.reduceBEq, reduceIte, reduceCtorEq, Int.reduceEq, Int.reduceNe, Nat.reduceBneDiff, Int.reduceLE, Int.reduceLT, Int.reduceToNat, Int.reduceAdd, Int.reduceSub, Int.reduceMul, Int.reduceNeg, wL, z0]) | ((with_reducible refine gcall_eq (hc) ?_ ?_ ?_); (with_reducible rfl); rfl) | (with_reducible exact drawQ_true _ _ (by kernel_rfl)) | (with_reducible refine And.intro (drawQ_true _ _ (by kernel_rfl)) ?_))
    | false =>
      rw [hb] at hc
      have hh := halves_v f n B hn hl (by omega) hf
      have i1 := ih (leftH f n) (B + 29 + n) (leftH_length f n) (bd_leftH hn hf) (by omega)
      have i2 := ih (rightH f n) (B + 29 + n) (rightH_length f n) (bd_rightH hn hf) (by omega)
      clear ih
      rw [Bool.false_or]
      generalize leftH f n = L at *
      generalize rightH f n = R at *
      unfold wL at *
      cases hL : shownF n d L with
      | false =>
        rw [hL] at i1
        refine sound_go (tb := []) 27 [.tmp 4] [0, 1, 4, 5, 6, 9, 11] mixed Tryz.func67 rfl (by kernel_rfl) (by kernel_rfl) (by kernel_rfl) (by kernel_rfl) ?_
        repeat (first | (simp -implicitDefEqProofs only [go_sem, Nat.reduceAdd, Nat.reduceMul, Nat.reduceEqDiff, Nat.reduceLT, Nat.reduceLeDiff, Nat.reduceSub, Nat.reduceBEq, reduceIte, reduceCtorEq, Int.reduceEq, Int.reduceNe, Nat.reduceBneDiff, Int.reduceLE, Int.reduceLT, Int.reduceToNat, Int.reduceAdd, Int.reduceSub, Int.reduceMul, Int.reduceNeg, z0, w1]) | ((with_reducible refine gcall_eq (hc) ?_ ?_ ?_); (with_reducible rfl); rfl) | ((with_reducible refine gcall_eq (hh) ?_ ?_ ?_); (with_reducible rfl); rfl) | ((with_reducible refine gcall_eq (i1) ?_ ?_ ?_); (with_reducible rfl); rfl) | ((with_reducible refine gcall_eq (i2) ?_ ?_ ?_); (with_reducible rfl); rfl) | (with_reducible exact drawQ_true _ _ (by kernel_rfl)) | (with_reducible refine And.intro (drawQ_true _ _ (by kernel_rfl)) ?_))
      | true =>
        rw [hL] at i1
        generalize shownF n d R = r at *
        refine sound_go (tb := []) 27 [.tmp 4] [0, 1, 4, 5, 6, 9, 11] mixed Tryz.func67 rfl (by kernel_rfl) (by kernel_rfl) (by kernel_rfl) (by kernel_rfl) ?_
        repeat (first | (simp -implicitDefEqProofs only [go_sem, Nat.reduceAdd, Nat.reduceMul, Nat.reduceEqDiff, Nat.reduceLT, Nat.reduceLeDiff, Nat.reduceSub, Nat.reduceBEq, reduceIte, reduceCtorEq, Int.reduceEq, Int.reduceNe, Nat.reduceBneDiff, Int.reduceLE, Int.reduceLT, Int.reduceToNat, Int.reduceAdd, Int.reduceSub, Int.reduceMul, Int.reduceNeg, z0, w1]) | ((with_reducible refine gcall_eq (hc) ?_ ?_ ?_); (with_reducible rfl); rfl) | ((with_reducible refine gcall_eq (hh) ?_ ?_ ?_); (with_reducible rfl); rfl) | ((with_reducible refine gcall_eq (i1) ?_ ?_ ?_); (with_reducible rfl); rfl) | ((with_reducible refine gcall_eq (i2) ?_ ?_ ?_); (with_reducible rfl); rfl) | (with_reducible exact drawQ_true _ _ (by kernel_rfl)) | (with_reducible refine And.intro (drawQ_true _ _ (by kernel_rfl)) ?_))
end Go.Proofs.YtnpclmmmngmdkaaGreat
