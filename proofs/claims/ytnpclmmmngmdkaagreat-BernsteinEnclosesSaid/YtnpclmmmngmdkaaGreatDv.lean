/-
  FK3, FN6, Dv (merged for the claim).
-/
import Derived.Test.YtnpclmmmngmdkaaGreatFN4
import Derived.Test.YtnpclmmmngmdkaaGreatFN5
set_option linter.unusedSimpArgs false
set_option linter.unusedVariables false
namespace Go.Proofs.YtnpclmmmngmdkaaGreat
open Go.Vl Go.RowKit Go.Dg

/-! ### wide integers as values that are worked out -/
noncomputable def frcBy {α : Type} (l : List UInt8) (K : List UInt8 → α) : α := frcL (fun c K => frcN c.toNat fun n => K (UInt8.ofNat n)) l K
theorem frcBy_eq {α : Type} (l : List UInt8) (K : List UInt8 → α) : frcBy l K = K l := frcL_eq (fun v K => by rw [frcN_eq]; simp) l K
def byF : Nat → Nat → List UInt8 → List UInt8
  | 0, _, acc => acc
  | f + 1, m, acc => if m = 0 then acc else byF f (m / 256) (UInt8.ofNat (m % 256) :: acc)
theorem byF_eq : ∀ (f m : Nat) (acc : List UInt8), m < 256 ^ f → byF f m acc = magL m ++ acc
  | 0, m, acc, h => by
    obtain rfl : m = 0 := by simpa using h
    simp [byF, magL, digs_zero]
  | f + 1, m, acc, h => by
    rw [byF]
    split
    · rename_i h0; subst h0; simp [magL, digs_zero]
    · rename_i h0
      rw [byF_eq f (m / 256) _ (by rw [Nat.pow_succ] at h; omega)]
      have e : magL m = magL (m / 256) ++ [UInt8.ofNat (m % 256)] := by
        unfold magL
        rw [digs_succ (by decide) h0, List.reverse_cons, List.map_append]; rfl
      rw [e, List.append_assoc]; rfl
noncomputable def encK (z : Int) (K : PV → Option PV) : Option PV := frcI z fun z => match decide (z.natAbs < 256 ^ 40) with
  | true => frcBy (byF 40 z.natAbs []) fun l => frcB (decide (z < 0)) fun b => K (.agg [.bool b, .str ⟨l.toArray⟩])
  | false => none
theorem encK_eq {z : Int} {K : PV → Option PV} {r : PV} (h : encK z K = some r) : K (wPV z) = some r ∧ z.natAbs < 2 ^ 65536 := by
  unfold encK at h
  rw [frcI_eq] at h
  split at h
  · rename_i hd
    have hlt : z.natAbs < 256 ^ 40 := by simpa using hd
    rw [frcBy_eq, frcB_eq, byF_eq _ _ _ hlt, List.append_nil] at h
    exact ⟨h, p256_16 (k := 40) hlt (by decide)⟩
  · cases h
noncomputable def encR (x y : Int) (K : PV → Option PV) : Option PV := frcI x fun x => frcI y fun y => match decide (x.natAbs < 256 ^ 40) && decide (y.natAbs < 256 ^ 40) with
  | true => frcBy (byF 40 x.natAbs []) fun l => frcB (decide (x < 0)) fun b => frcBy (byF 40 y.natAbs []) fun m => frcB (decide (y < 0)) fun c => K (.agg [.bool b, .str ⟨l.toArray⟩, .bool c, .str ⟨m.toArray⟩])
  | false => none
theorem encR_eq {x y : Int} {K : PV → Option PV} {r : PV} (h : encR x y K = some r) : K (ratPV x y) = some r ∧ x.natAbs < 256 ^ 40 ∧ y.natAbs < 256 ^ 40 := by
  unfold encR at h
  rw [frcI_eq, frcI_eq] at h
  split at h
  · rename_i hd
    simp only [Bool.and_eq_true, decide_eq_true_eq] at hd
    rw [frcBy_eq, frcB_eq, frcBy_eq, frcB_eq, byF_eq _ _ _ hd.1, byF_eq _ _ _ hd.2, List.append_nil, List.append_nil] at h
    exact ⟨h, hd⟩
  · cases h
def decK : PV → Option Int
  | .agg [.bool n, .str s] => match validB n s.data.toList with
    | true => some (wnum n s)
    | false => none
  | _ => none
theorem validB_size {n : Bool} {s : ByteArray} (h : validB n s.data.toList = true) : s.size ≤ 8192 := by
  rw [ba_size]
  cases hl : s.data.toList with
  | nil => simp
  | cons c r =>
    rw [hl] at h
    simp only [validB, Bool.and_eq_true, decide_eq_true_eq] at h
    simpa using h.1
theorem wnum_ok {n : Bool} {s : ByteArray} (h : validB n s.data.toList = true) : (wnum n s).natAbs < 2 ^ 65536 := by
  have h1 := wnum_lt n s 8192 (validB_size h)
  exact p256_16 (k := 8192) h1 (by decide)
theorem decK_eq {v : PV} {x : Int} (h : decK v = some x) : v = wPV x ∧ x.natAbs < 2 ^ 65536 := by
  unfold decK at h
  split at h
  · rename_i n s
    split at h
    · rename_i hv
      cases h
      exact ⟨(wPV_wnum n s hv).symm, wnum_ok hv⟩
    · cases h
  · cases h
def decR : PV → Option (Int × Int)
  | .agg [.bool n, .str s, .bool m, .str t] => match vRat n s m t with
    | true => some (wnum n s, wnum m t)
    | false => none
  | _ => none
theorem decR_eq {v : PV} {x y : Int} (h : decR v = some (x, y)) : v = ratPV x y ∧ x.natAbs < 2 ^ 65536 ∧ y.natAbs < 2 ^ 65536 ∧ 0 < y := by
  unfold decR at h
  split at h
  · rename_i n s m t
    split at h
    · rename_i hv
      cases h
      obtain ⟨p1, p2, p3, p4⟩ := vRat_parts hv
      have e1 := wPV_wnum n s p1
      have e2 := wPV_wnum m t p2
      simp only [wPV, PV.agg.injEq, List.cons.injEq, PV.bool.injEq, PV.str.injEq, and_true] at e1 e2
      refine ⟨?_, wnum_ok p1, wnum_ok p2, ?_⟩
      · unfold ratPV; rw [e1.1, e1.2, e2.1, e2.2]
      · have := bnum_pos p2 p4
        subst p3
        unfold wnum sv; simp; omega
    · cases h
  · cases h
/-- The number of bits, by trial. -/
def blK (m : Nat) : Option Nat := match decide (m = 0) with
  | true => some 0
  | false => match decide (2 ^ Nat.log2 m ≤ m) && decide (m < 2 ^ (Nat.log2 m + 1)) with
    | true => some (Nat.log2 m + 1)
    | false => none
theorem blK_eq {m k : Nat} (h : blK m = some k) : blen m = k := by
  unfold blK at h
  split at h
  · rename_i h0
    cases h
    have : m = 0 := by simpa using h0
    rw [this, blen_zero]
  · split at h
    · rename_i h1
      simp only [Bool.and_eq_true, decide_eq_true_eq] at h1
      cases h
      have a := blen_gt _ _ h1.1
      have b := blen_le _ _ h1.2
      omega
    · cases h
/-! ### the table -/
noncomputable def eOf : List PV → Option PV
  | [.int .i64 n] => match decide (-9223372036854775808 ≤ n) && decide (n ≤ 9223372036854775807) with
    | true => encK n some
    | false => none
  | _ => none
noncomputable def eBin (op : Int → Int → Int) : List PV → Option PV
  | [a, b] => match decK a, decK b with
    | some x, some y => encK (op x y) fun v => some (.tup [v, .int .i64 0])
    | _, _ => none
  | _ => none
noncomputable def eShift : List PV → Option PV
  | [a, .int .i64 n] => match decK a, decide (-65536 ≤ n) && decide (n ≤ 65536) with
    | some x, true => encK (shiftI x n) fun v => some (.tup [v, .int .i64 0])
    | _, _ => none
  | _ => none
noncomputable def eRatio : List PV → Option PV
  | [a, b] => match decK a, decK b with
    | some x, some y => match decide (y = 0) with
      | false => encR (lowN x y) (lowD x y) fun v => some (.tup [v, .int .i64 0])
      | true => none
    | _, _ => none
  | _ => none
noncomputable def eMulR : List PV → Option PV
  | [a, b] => match decR a, decR b with
    | some (x, y), some (z, w) => encR (lowN (x * z) (y * w)) (lowD (x * z) (y * w)) fun v => some (.tup [v, .int .i64 0])
    | _, _ => none
  | _ => none
noncomputable def eCmpR : List PV → Option PV
  | [.agg [.bool n1, .str s1, .bool m1, .str t1], .agg [.bool n2, .str s2, .bool m2, .str t2]] => match decide (t1.size ≤ 100000) && decide (t2.size ≤ 100000), vRat n1 s1 m1 t1 && vRat n2 s2 m2 t2 with
    | true, false => some (.tup [.int .i64 0, .int .i64 2])
    | true, true => frcI (wnum n1 s1 * wnum m2 t2 - wnum n2 s2 * wnum m1 t1).sign fun z => some (.tup [.int .i64 z, .int .i64 0])
    | _, _ => none
  | _ => none
noncomputable def eLen : List PV → Option PV
  | [a] => match decK a with
    | some x => match blK x.natAbs with
      | some k => some (.int .i64 (k : Int))
      | none => none
    | none => none
  | _ => none
noncomputable def eSign : List PV → Option PV
  | [a] => match decK a with
    | some x => frcI x.sign fun z => some (.int .i64 z)
    | none => none
  | _ => none
def eValid : List PV → Option PV
  | [.agg [.bool n, .str s]] => some (.bool (validB n s.data.toList))
  | _ => none
theorem eOf_s (args : List PV) (r : PV) (h : eOf args = some r) : SoundAt Tryz.prog 62 args r := by
  unfold eOf at h
  split at h
  · split at h
    · rename_i n _ hd
      simp only [Bool.and_eq_true, decide_eq_true_eq] at hd
      obtain ⟨h1, _⟩ := encK_eq h
      cases h1
      exact wOf_v n hd.1 hd.2
    · cases h
  · cases h
theorem eMul_s (args : List PV) (r : PV) (h : eBin (· * ·) args = some r) : SoundAt Tryz.prog 80 args r := by
  unfold eBin at h
  split at h
  · split at h
    · rename_i a b _ _ x y h1 h2
      obtain ⟨rfl, hx⟩ := decK_eq h1
      obtain ⟨rfl, hy⟩ := decK_eq h2
      obtain ⟨h3, h4⟩ := encK_eq h
      cases h3
      have := wMul_i hx hy
      rwa [outPV_ok h4] at this
    · cases h
  · cases h
theorem eAdd_s (args : List PV) (r : PV) (h : eBin (· + ·) args = some r) : SoundAt Tryz.prog 81 args r := by
  unfold eBin at h
  split at h
  · split at h
    · rename_i a b _ _ x y h1 h2
      obtain ⟨rfl, hx⟩ := decK_eq h1
      obtain ⟨rfl, hy⟩ := decK_eq h2
      obtain ⟨h3, h4⟩ := encK_eq h
      cases h3
      have := wAdd_i hx hy
      rwa [outPV_ok h4] at this
    · cases h
  · cases h
theorem eShift_s (args : List PV) (r : PV) (h : eShift args = some r) : SoundAt Tryz.prog 61 args r := by
  unfold eShift at h
  split at h
  · split at h
    · rename_i a n _ _ x h1 h2
      obtain ⟨rfl, hx⟩ := decK_eq h1
      simp only [Bool.and_eq_true, decide_eq_true_eq] at h2
      obtain ⟨h3, h4⟩ := encK_eq h
      cases h3
      have := wShift_i n hx h2.1 h2.2
      rwa [outPV_ok h4] at this
    · cases h
  · cases h
theorem notBig {x y : Int} (hx : x.natAbs < 256 ^ 40) (hy : y.natAbs < 256 ^ 40) : big x y = false := by
  have h1 := blen_of256 (k := 40) hx
  have h2 := blen_of256 (k := 40) hy
  simp only [big, Bool.or_eq_false_iff, decide_eq_false_iff_not]; omega
theorem eRatio_s (args : List PV) (r : PV) (h : eRatio args = some r) : SoundAt Tryz.prog 84 args r := by
  unfold eRatio at h
  split at h
  · split at h
    · rename_i a b _ _ x y h1 h2
      split at h
      · rename_i h0
        obtain ⟨rfl, hx⟩ := decK_eq h1
        obtain ⟨rfl, hy⟩ := decK_eq h2
        obtain ⟨h3, h4, h5⟩ := encR_eq h
        cases h3
        have := wRatio_i hx hy (by simpa using h0)
        rwa [outQ_f (notBig h4 h5)] at this
      · cases h
    · cases h
  · cases h
theorem eMulR_s (args : List PV) (r : PV) (h : eMulR args = some r) : SoundAt Tryz.prog 63 args r := by
  unfold eMulR at h
  split at h
  · split at h
    · rename_i a b _ _ x y z w h1 h2
      obtain ⟨rfl, hx, hy, y0⟩ := decR_eq h1
      obtain ⟨rfl, hz, hw, w0⟩ := decR_eq h2
      obtain ⟨h3, h4, h5⟩ := encR_eq h
      cases h3
      have := wMulRatio_i hx hy hz hw y0 w0
      rwa [outQ_f (notBig h4 h5)] at this
    · cases h
  · cases h
theorem vRat_size {n : Bool} {s : ByteArray} {m : Bool} {t : ByteArray} (h : vRat n s m t = true) : s.size ≤ 100000 := by
  have := validB_size (vRat_parts h).1; omega
theorem eCmpR_s (args : List PV) (r : PV) (h : eCmpR args = some r) : SoundAt Tryz.prog 85 args r := by
  unfold eCmpR at h
  split at h
  · rename_i n1 s1 m1 t1 n2 s2 m2 t2
    split at h
    · rename_i h1 h2
      simp only [Bool.and_eq_true, decide_eq_true_eq] at h1
      cases h
      exact wCompareRatio_no n1 m1 n2 m2 s1 t1 s2 t2 h2 h1.1 h1.2
    · rename_i h1 h2
      simp only [Bool.and_eq_true, decide_eq_true_eq] at h1
      rw [frcI_eq] at h
      cases h
      rw [Bool.and_eq_true] at h2
      exact wCompareRatio_v n1 m1 n2 m2 s1 t1 s2 t2 h2.1 h2.2 (vRat_size h2.1) h1.1 (vRat_size h2.2) h1.2
    · cases h
  · cases h
theorem eLen_s (args : List PV) (r : PV) (h : eLen args = some r) : SoundAt Tryz.prog 79 args r := by
  unfold eLen at h
  split at h
  · split at h
    · rename_i x h1
      split at h
      · rename_i k h2
        obtain ⟨rfl, hx⟩ := decK_eq h1
        cases h
        have := wLen_i hx
        rwa [blK_eq h2] at this
      · cases h
    · cases h
  · cases h
theorem eSign_s (args : List PV) (r : PV) (h : eSign args = some r) : SoundAt Tryz.prog 43 args r := by
  unfold eSign at h
  split at h
  · split at h
    · rename_i x h1
      obtain ⟨rfl, hx⟩ := decK_eq h1
      rw [frcI_eq] at h
      cases h
      exact wSign_i hx
    · cases h
  · cases h
theorem eValid_s (args : List PV) (r : PV) (h : eValid args = some r) : SoundAt Tryz.prog 78 args r := by
  unfold eValid at h
  split at h
  · cases h; exact wvalid_v _ _
  · cases h
def decIs : List PV → Option (List Int)
  | [] => some []
  | .int .i64 n :: r => match decide (-9223372036854775808 ≤ n) && decide (n ≤ 9223372036854775807), decIs r with
    | true, some l => some (n :: l)
    | _, _ => none
  | _ => none
theorem decIs_eq : ∀ {vs : List PV} {l : List Int}, decIs vs = some l → vs = l.map (PV.int .i64) ∧ ∀ x ∈ l, -9223372036854775808 ≤ x ∧ x ≤ 9223372036854775807
  | [], l, h => by cases h; exact ⟨rfl, by simp⟩
  | v :: vs, l, h => by
    unfold decIs at h
    split at h
    · rename_i heq; cases heq
    · rename_i n r heq
      cases heq
      split at h
      · rename_i m h1 h2
        cases h
        simp only [Bool.and_eq_true, decide_eq_true_eq] at h1
        obtain ⟨e, h3⟩ := decIs_eq h2
        exact ⟨by rw [e]; rfl, fun x hx => by
          rcases List.mem_cons.1 hx with rfl | hx
          · exact h1
          · exact h3 x hx⟩
      · cases h
    · cases h
def decWs : List PV → Option (List Int)
  | [] => some []
  | v :: r => match decK v, decWs r with
    | some x, some l => some (x :: l)
    | _, _ => none
theorem decWs_eq : ∀ {vs : List PV} {l : List Int}, decWs vs = some l → vs = l.map wPV
  | [], l, h => by cases h; rfl
  | v :: vs, l, h => by
    unfold decWs at h
    split at h
    · rename_i x m h1 h2
      cases h
      rw [(decK_eq h1).1, decWs_eq h2]; rfl
    · cases h
noncomputable def encL : List Int → (List PV → Option PV) → Option PV
  | [], K => K []
  | x :: r, K => encK x fun v => encL r fun vs => K (v :: vs)
theorem encL_eq : ∀ {xs : List Int} {K : List PV → Option PV} {r : PV}, encL xs K = some r → K (xs.map wPV) = some r
  | [], _, _, h => h
  | x :: xs, K, r, h => encL_eq (K := fun vs => K (wPV x :: vs)) (encK_eq h).1
noncomputable def eLl : List PV → Option PV
  | [.slc es] => match decIs es with
    | some l => match Nat.ble l.length 1000 with
      | true => encL l fun vs => some (.slc vs)
      | false => none
    | none => none
  | _ => none
noncomputable def eLp : List PV → Option PV
  | [.slc es] => match decIs es with
    | some l => match Nat.ble l.length 1000 with
      | true => encL (trimI l) fun vs => some (.slc vs)
      | false => none
    | none => none
  | _ => none
noncomputable def eLq : List PV → Option PV
  | [.int .i64 n, .int .i64 d] => match decide (-9223372036854775808 ≤ n) && decide (n ≤ 9223372036854775807), decide (-9223372036854775808 ≤ d) && decide (d ≤ 9223372036854775807) with
    | true, true => encR n d some
    | _, _ => none
  | _ => none
noncomputable def eWays : List PV → Option PV
  | [.int .i64 (.ofNat n), .int .i64 (.ofNat k)] => match Nat.ble k n && Nat.ble n 50 with
    | true => frcN (bin n k) fun b => some (.int .i64 (b : Int))
    | false => none
  | _ => none
noncomputable def ePlus : List PV → Option PV
  | [a, b, .int .i64 k] => match decK a, decK b, decide (-9223372036854775808 ≤ k) && decide (k ≤ 9223372036854775807) with
    | some s, some w, true => match decide ((w * k).natAbs < 256 ^ 40) with
      | true => encK (s + w * k) some
      | false => none
    | _, _, _ => none
  | _ => none
noncomputable def eSame : List PV → Option PV
  | [.slc us, .slc vs] => match decWs us, decWs vs with
    | some xs, some ys => match decide (xs = ys) && Nat.ble xs.length 1000 with
      | true => some (.bool true)
      | false => none
    | _, _ => none
  | _ => none
def allS (xs : List Int) : Bool := xs.all fun x => decide (x.natAbs < 2 ^ 200)
theorem allS_eq {xs : List Int} (h : allS xs = true) : ∀ x ∈ xs, x.natAbs < 2 ^ 200 := fun x hx => by
  have := List.all_eq_true.1 h x hx
  simpa using this
noncomputable def eFm : List PV → Option PV
  | [.slc us, .int .i64 (.ofNat n)] => match decWs us with
    | some xs => match Nat.ble n 24 && Nat.ble xs.length 1000 && allS xs with
      | true => encL (Dg.trans xs 1 n) fun vs => some (.slc vs)
      | false => none
    | none => none
  | _ => none
noncomputable def eHv : List PV → Option PV
  | [.slc us] => match decWs us with
    | some xs => match Nat.ble xs.length 25 && Nat.ble 1 xs.length && allS xs with
      | true => encL (leftH xs (xs.length - 1)) fun l => encL (rightH xs (xs.length - 1)) fun r => some (.tup [.slc l, .slc r])
      | false => none
    | none => none
  | _ => none
theorem eFm_s (args : List PV) (r : PV) (h : eFm args = some r) : SoundAt Tryz.prog 60 args r := by
  unfold eFm at h
  split at h
  · split at h
    · rename_i xs h1
      split at h
      · rename_i h2
        simp only [Bool.and_eq_true] at h2
        have := encL_eq h
        cases this
        rw [decWs_eq h1]
        exact of_v xs _ 200 (Nat.le_of_ble_eq_true h2.1.1) (Nat.le_of_ble_eq_true h2.1.2) (by decide) (allS_eq h2.2)
      · cases h
    · cases h
  · cases h
theorem eHv_s (args : List PV) (r : PV) (h : eHv args = some r) : SoundAt Tryz.prog 55 args r := by
  unfold eHv at h
  split at h
  · split at h
    · rename_i xs h1
      split at h
      · rename_i h2
        simp only [Bool.and_eq_true] at h2
        have h3 := Nat.le_of_ble_eq_true h2.1.1
        have h4 := Nat.le_of_ble_eq_true h2.1.2
        have := encL_eq (encL_eq h)
        cases this
        rw [decWs_eq h1]
        exact halves_v xs (xs.length - 1) 200 (by omega) (by omega) (by omega) (allS_eq h2.2)
      · cases h
    · cases h
  · cases h
theorem eLl_s (args : List PV) (r : PV) (h : eLl args = some r) : SoundAt Tryz.prog 37 args r := by
  unfold eLl at h
  split at h
  · split at h
    · rename_i l hd
      obtain ⟨rfl, hb⟩ := decIs_eq hd
      split at h
      · rename_i hl
        have := encL_eq h
        cases this
        exact ll_v l (Nat.le_of_ble_eq_true hl) hb
      · cases h
    · cases h
  · cases h
theorem eLp_s (args : List PV) (r : PV) (h : eLp args = some r) : SoundAt Tryz.prog 36 args r := by
  unfold eLp at h
  split at h
  · split at h
    · rename_i l hd
      obtain ⟨rfl, hb⟩ := decIs_eq hd
      split at h
      · rename_i hl
        have := encL_eq h
        cases this
        exact lp_v l (Nat.le_of_ble_eq_true hl) hb
      · cases h
    · cases h
  · cases h
theorem eLq_s (args : List PV) (r : PV) (h : eLq args = some r) : SoundAt Tryz.prog 38 args r := by
  unfold eLq at h
  split at h
  · split at h
    · rename_i n d _ _ h1 h2
      simp only [Bool.and_eq_true, decide_eq_true_eq] at h1 h2
      obtain ⟨h3, _⟩ := encR_eq h
      cases h3
      exact lq_v n d h1.1 h1.2 h2.1 h2.2
    · cases h
  · cases h
theorem eWays_s (args : List PV) (r : PV) (h : eWays args = some r) : SoundAt Tryz.prog 41 args r := by
  unfold eWays at h
  split at h
  · split at h
    · rename_i n k _ h1
      simp only [Bool.and_eq_true] at h1
      rw [frcN_eq] at h
      cases h
      exact ways_v n k (Nat.le_of_ble_eq_true h1.1) (Nat.le_of_ble_eq_true h1.2)
    · cases h
  · cases h
theorem ePlus_s (args : List PV) (r : PV) (h : ePlus args = some r) : SoundAt Tryz.prog 42 args r := by
  unfold ePlus at h
  split at h
  · split at h
    · rename_i k _ _ _ s w h1 h2 h3
      obtain ⟨rfl, hs⟩ := decK_eq h1
      obtain ⟨rfl, hw⟩ := decK_eq h2
      simp only [Bool.and_eq_true, decide_eq_true_eq] at h3
      split at h
      · rename_i h4
        obtain ⟨h5, h6⟩ := encK_eq h
        cases h5
        exact plus_v s w k h3.1 h3.2 hs hw (p256_16 (k := 40) (by simpa using h4) (by decide)) h6
      · cases h
    · cases h
  · cases h
theorem eSame_s (args : List PV) (r : PV) (h : eSame args = some r) : SoundAt Tryz.prog 16 args r := by
  unfold eSame at h
  split at h
  · split at h
    · rename_i xs ys h1 h2
      split at h
      · rename_i h3
        simp only [Bool.and_eq_true, decide_eq_true_eq] at h3
        obtain ⟨rfl, h4⟩ := h3
        cases h
        rw [decWs_eq h1, decWs_eq h2]
        exact rSame_v xs (Nat.le_trans (Nat.le_of_ble_eq_true h4) (by decide))
      · cases h
    · cases h
  · cases h
noncomputable def tabL : List (Nat × (List PV → Option PV)) := [(62, eOf), (80, eBin (· * ·)), (81, eBin (· + ·)), (61, eShift), (84, eRatio), (63, eMulR), (85, eCmpR), (79, eLen), (43, eSign), (78, eValid),
  (37, eLl), (36, eLp), (38, eLq), (41, eWays), (42, ePlus), (16, eSame), (60, eFm), (55, eHv)]
noncomputable def tabF (f : FuncId) (args : List PV) : Option PV := match lkp tabL f with
  | some g => g args
  | none => none
theorem tabF_sound (f : FuncId) (args : List PV) (r : PV) (h : tabF f args = some r) : SoundAt Tryz.prog f args r := by
  unfold tabF at h
  split at h
  · rename_i g hg
    have hm := lkp_mem hg
    simp only [tabL, List.mem_cons, Prod.mk.injEq, List.not_mem_nil, or_false] at hm
    rcases hm with ⟨rfl, rfl⟩ | ⟨rfl, rfl⟩ | ⟨rfl, rfl⟩ | ⟨rfl, rfl⟩ | ⟨rfl, rfl⟩ | ⟨rfl, rfl⟩ | ⟨rfl, rfl⟩ | ⟨rfl, rfl⟩ | ⟨rfl, rfl⟩ | ⟨rfl, rfl⟩ | ⟨rfl, rfl⟩ | ⟨rfl, rfl⟩ | ⟨rfl, rfl⟩ | ⟨rfl, rfl⟩ | ⟨rfl, rfl⟩ | ⟨rfl, rfl⟩ | ⟨rfl, rfl⟩ | ⟨rfl, rfl⟩
    · exact eOf_s _ _ h
    · exact eMul_s _ _ h
    · exact eAdd_s _ _ h
    · exact eShift_s _ _ h
    · exact eRatio_s _ _ h
    · exact eMulR_s _ _ h
    · exact eCmpR_s _ _ h
    · exact eLen_s _ _ h
    · exact eSign_s _ _ h
    · exact eValid_s _ _ h
    · exact eLl_s _ _ h
    · exact eLp_s _ _ h
    · exact eLq_s _ _ h
    · exact eWays_s _ _ h
    · exact ePlus_s _ _ h
    · exact eSame_s _ _ h
    · exact eFm_s _ _ h
    · exact eHv_s _ _ h
  · cases h
theorem known_v : SoundAt Tryz.prog 9 [] (.bool true) := evF_sound mixed tabF_sound 2000 40 _ _ _ (by kernel_rfl)
end Go.Proofs.YtnpclmmmngmdkaaGreat

namespace Go.Proofs.YtnpclmmmngmdkaaGreat
open Go.Vl Go.RowKit Go.Dg

/-- A list that is a form. -/
def formB (l : List (Bool × ByteArray)) : Bool := validL l && (decide (1 ≤ l.length) && decide (l.length ≤ 25))
theorem rFValid_v (l : List (Bool × ByteArray)) (hl : l.length ≤ maxLen) : SoundAt Tryz.prog 12 [.slc (l.map wA)] (.bool (formB l)) := by
  unfold maxLen at hl
  refine sound_go (tb := []) 24 [.tmp 2] [0, 2, 3, 7, 15] mixed Tryz.func12 rfl (by kernel_rfl) (by kernel_rfl) (by kernel_rfl) (by kernel_rfl) ?_
  simp -implicitDefEqProofs only [go_sem, Nat.reduceAdd, Nat.reduceMul, Nat.reduceEqDiff, Nat.reduceLT, Nat.reduceLeDiff, Nat.reduceSub, Nat.reduceBEq, reduceIte, reduceCtorEq, Int.reduceEq, Int.reduceNe, Nat.reduceBneDiff, Int.reduceLE, Int.reduceLT, Int.reduceToNat, Int.reduceAdd, Int.reduceSub, Int.reduceMul, Int.reduceNeg]
  refine g_loop mixed (fun i : { i : Nat // i ≤ l.length ∧ (l.take i).all (fun p => validB p.1 p.2.data.toList) = true } => St.of [(0, .slc (l.map wA)), (3, .int .i64 (i.1 : Int))] []) (fun i => l.length - i.1) ⟨0, Nat.zero_le _, rfl⟩ ?_ ?_
  · exact le_vars (by simp [varsLe, lkp, ren1, ren0])
  · rintro ⟨i, hi, hall⟩
    by_cases hA : i < l.length
    · have hA' := ltT hA
      have h0 := nnT i
      have hg := wA_get l i hA
      have hwk := wrap_add1 (a := i) (by omega)
      have hv := rvalid_v l[i].1 l[i].2
      cases hs : validB l[i].1 l[i].2.data.toList with
      | true =>
        rw [hs] at hv
        repeat (first | (simp -implicitDefEqProofs only [go_sem, Nat.reduceAdd, Nat.reduceMul, Nat.reduceEqDiff, Nat.reduceLT, Nat.reduceLeDiff, Nat.reduceSub, Nat.reduceBEq, reduceIte, reduceCtorEq, Int.reduceEq, Int.reduceNe, Nat.reduceBneDiff, Int.reduceLE, Int.reduceLT, Int.reduceToNat, Int.reduceAdd, Int.reduceSub, Int.reduceMul, Int.reduceNeg, hA', h0, hg, Int.toNat_natCast, List.length_map, hwk]) | ((with_reducible refine gcall_eq (hv) ?_ ?_ ?_); (with_reducible rfl); rfl) | (with_reducible exact drawQ_true _ _ (by kernel_rfl)) | (with_reducible refine And.intro (drawQ_true _ _ (by kernel_rfl)) ?_))
        exact ⟨⟨i + 1, hA, all_snoc hA hall hs⟩, by simp only; omega, le_vars (by simp [varsLe, lkp, ren1, ren0])⟩
      | false =>
        rw [hs] at hv
        have e : formB l = false := by unfold formB validL; rw [all_not hA hs]; rfl
        repeat (first | (simp -implicitDefEqProofs only [go_sem, Nat.reduceAdd, Nat.reduceMul, Nat.reduceEqDiff, Nat.reduceLT, Nat.reduceLeDiff, Nat.reduceSub, Nat.reduceBEq, reduceIte, reduceCtorEq, Int.reduceEq, Int.reduceNe, Nat.reduceBneDiff, Int.reduceLE, Int.reduceLT, Int.reduceToNat, Int.reduceAdd, Int.reduceSub, Int.reduceMul, Int.reduceNeg, hA', h0, hg, Int.toNat_natCast, List.length_map, e]) | ((with_reducible refine gcall_eq (hv) ?_ ?_ ?_); (with_reducible rfl); rfl) | (with_reducible exact drawQ_true _ _ (by kernel_rfl)) | (with_reducible refine And.intro (drawQ_true _ _ (by kernel_rfl)) ?_))
    · have hA' := ltF hA
      rw [List.take_of_length_le (by omega)] at hall
      have e0 : formB l = (decide (1 ≤ l.length) && decide (l.length ≤ 25)) := by unfold formB validL; rw [hall, Bool.true_and]
      rw [e0]
      by_cases h1 : 1 ≤ l.length
      · have h1' : ((1 : Int) ≤ (l.length : Int)) = True := by simp only [eq_iff_iff, iff_true]; omega
        have e5 : decide ((l.length : Int) ≤ 25) = decide (l.length ≤ 25) := by simp only [decide_eq_decide]; omega
        rw [decide_eq_true h1, Bool.true_and]
        repeat (first | (simp -implicitDefEqProofs only [go_sem, Nat.reduceAdd, Nat.reduceMul, Nat.reduceEqDiff, Nat.reduceLT, Nat.reduceLeDiff, Nat.reduceSub, Nat.reduceBEq, reduceIte, reduceCtorEq, Int.reduceEq, Int.reduceNe, Nat.reduceBneDiff, Int.reduceLE, Int.reduceLT, Int.reduceToNat, Int.reduceAdd, Int.reduceSub, Int.reduceMul, Int.reduceNeg, hA', h1', e5, List.length_map]) | (with_reducible exact drawQ_true _ _ (by kernel_rfl)) | (with_reducible refine And.intro (drawQ_true _ _ (by kernel_rfl)) ?_))
      · have h1' : ((1 : Int) ≤ (l.length : Int)) = False := by simp only [eq_iff_iff, iff_false]; omega
        rw [decide_eq_false h1, Bool.false_and]
        repeat (first | (simp -implicitDefEqProofs only [go_sem, Nat.reduceAdd, Nat.reduceMul, Nat.reduceEqDiff, Nat.reduceLT, Nat.reduceLeDiff, Nat.reduceSub, Nat.reduceBEq, reduceIte, reduceCtorEq, Int.reduceEq, Int.reduceNe, Nat.reduceBneDiff, Int.reduceLE, Int.reduceLT, Int.reduceToNat, Int.reduceAdd, Int.reduceSub, Int.reduceMul, Int.reduceNeg, hA', h1', List.length_map]) | (with_reducible exact drawQ_true _ _ (by kernel_rfl)) | (with_reducible refine And.intro (drawQ_true _ _ (by kernel_rfl)) ?_))
theorem index_v (l : List (Bool × ByteArray)) (hl : l.length ≤ 1000000) (g : FuncId) (p : Bool × ByteArray → Bool) (hp : ∀ x ∈ l, SoundAt Tryz.prog g [.agg [.bool x.1, .str x.2]] (.bool (p x))) :
    ∃ k : Int, SoundAt Tryz.prog 104 [.slc (l.map wA), .fn g [] []] (.int .i64 k) ∧ decide (0 ≤ k) = l.any p := by
  cases hf : l.findIdx? p with
  | none =>
    rw [List.findIdx?_eq_none_iff] at hf
    refine ⟨-1, ?_, ?_⟩
    · refine sound_go (tb := []) 19 [.tmp 4] [0, 1, 4, 5, 7, 8, 9, 16] mixed Tryz.func104 rfl (by kernel_rfl) (by kernel_rfl) (by kernel_rfl) (by kernel_rfl) ?_
      simp -implicitDefEqProofs only [go_sem, Nat.reduceAdd, Nat.reduceMul, Nat.reduceEqDiff, Nat.reduceLT, Nat.reduceLeDiff, Nat.reduceSub, Nat.reduceBEq, reduceIte, reduceCtorEq, Int.reduceEq, Int.reduceNe, Nat.reduceBneDiff, Int.reduceLE, Int.reduceLT, Int.reduceToNat, Int.reduceAdd, Int.reduceSub, Int.reduceMul, Int.reduceNeg, List.length_map]
      refine g_loop mixed (fun i : { i : Nat // i ≤ l.length } => St.of [(0, .slc (l.map wA)), (1, .fn g [] []), (7, .int .i64 (l.length : Int)), (8, .int .i64 (i.1 : Int))] []) (fun i => l.length - i.1) ⟨0, Nat.zero_le _⟩ ?_ ?_
      · exact le_vars (by simp [varsLe, lkp, ren1, ren0, ren0L])
      · rintro ⟨i, hi⟩
        by_cases hA : i < l.length
        · have hA' := ltT hA
          have h0 := nnT i
          have hg := wA_get l i hA
          have hwk := wrap_add1 (a := i) (by omega)
          have hv := hp _ (List.getElem_mem hA)
          rw [hf _ (List.getElem_mem hA)] at hv
          repeat (first | (simp -implicitDefEqProofs only [go_sem, Nat.reduceAdd, Nat.reduceMul, Nat.reduceEqDiff, Nat.reduceLT, Nat.reduceLeDiff, Nat.reduceSub, Nat.reduceBEq, reduceIte, reduceCtorEq, Int.reduceEq, Int.reduceNe, Nat.reduceBneDiff, Int.reduceLE, Int.reduceLT, Int.reduceToNat, Int.reduceAdd, Int.reduceSub, Int.reduceMul, Int.reduceNeg, hA', h0, hg, Int.toNat_natCast, hwk]) | ((with_reducible refine gcall_eq (hv) ?_ ?_ ?_); (with_reducible rfl); rfl) | (with_reducible exact drawQ_true _ _ (by kernel_rfl)) | (with_reducible refine And.intro (drawQ_true _ _ (by kernel_rfl)) ?_))
          exact ⟨⟨i + 1, hA⟩, by simp only; omega, le_vars (by simp [varsLe, lkp, ren1, ren0, ren0L])⟩
        · have hA' := ltF hA
          repeat (first | (simp -implicitDefEqProofs only [go_sem, Nat.reduceAdd, Nat.reduceMul, Nat.reduceEqDiff, Nat.reduceLT, Nat.reduceLeDiff, Nat.reduceSub, Nat.reduceBEq, reduceIte, reduceCtorEq, Int.reduceEq, Int.reduceNe, Nat.reduceBneDiff, Int.reduceLE, Int.reduceLT, Int.reduceToNat, Int.reduceAdd, Int.reduceSub, Int.reduceMul, Int.reduceNeg, hA']) | (with_reducible exact drawQ_true _ _ (by kernel_rfl)) | (with_reducible refine And.intro (drawQ_true _ _ (by kernel_rfl)) ?_))
    · have : l.any p = false := by rw [List.any_eq_false]; intro x hx; rw [hf x hx]; decide
      rw [this]; rfl
  | some k =>
    obtain ⟨hk, hpk, hbef⟩ := List.findIdx?_eq_some_iff_getElem.1 hf
    refine ⟨(k : Int), ?_, ?_⟩
    · refine sound_go (tb := []) 19 [.tmp 4] [0, 1, 4, 5, 7, 8, 9, 16] mixed Tryz.func104 rfl (by kernel_rfl) (by kernel_rfl) (by kernel_rfl) (by kernel_rfl) ?_
      simp -implicitDefEqProofs only [go_sem, Nat.reduceAdd, Nat.reduceMul, Nat.reduceEqDiff, Nat.reduceLT, Nat.reduceLeDiff, Nat.reduceSub, Nat.reduceBEq, reduceIte, reduceCtorEq, Int.reduceEq, Int.reduceNe, Nat.reduceBneDiff, Int.reduceLE, Int.reduceLT, Int.reduceToNat, Int.reduceAdd, Int.reduceSub, Int.reduceMul, Int.reduceNeg, List.length_map]
      refine g_loop mixed (fun i : { i : Nat // i ≤ k } => St.of [(0, .slc (l.map wA)), (1, .fn g [] []), (7, .int .i64 (l.length : Int)), (8, .int .i64 (i.1 : Int))] []) (fun i => l.length - i.1) ⟨0, Nat.zero_le _⟩ ?_ ?_
      · exact le_vars (by simp [varsLe, lkp, ren1, ren0, ren0L])
      · rintro ⟨i, hi⟩
        have hA : i < l.length := by omega
        have hA' := ltT hA
        have h0 := nnT i
        have hg := wA_get l i hA
        have hwk := wrap_add1 (a := i) (by omega)
        have hv := hp _ (List.getElem_mem hA)
        by_cases hik : i < k
        · have hn := hbef i hik
          rw [show p l[i] = false from by simpa using hn] at hv
          repeat (first | (simp -implicitDefEqProofs only [go_sem, Nat.reduceAdd, Nat.reduceMul, Nat.reduceEqDiff, Nat.reduceLT, Nat.reduceLeDiff, Nat.reduceSub, Nat.reduceBEq, reduceIte, reduceCtorEq, Int.reduceEq, Int.reduceNe, Nat.reduceBneDiff, Int.reduceLE, Int.reduceLT, Int.reduceToNat, Int.reduceAdd, Int.reduceSub, Int.reduceMul, Int.reduceNeg, hA', h0, hg, Int.toNat_natCast, hwk]) | ((with_reducible refine gcall_eq (hv) ?_ ?_ ?_); (with_reducible rfl); rfl) | (with_reducible exact drawQ_true _ _ (by kernel_rfl)) | (with_reducible refine And.intro (drawQ_true _ _ (by kernel_rfl)) ?_))
          exact ⟨⟨i + 1, hik⟩, by simp only; omega, le_vars (by simp [varsLe, lkp, ren1, ren0, ren0L])⟩
        · obtain rfl : i = k := by omega
          rw [hpk] at hv
          repeat (first | (simp -implicitDefEqProofs only [go_sem, Nat.reduceAdd, Nat.reduceMul, Nat.reduceEqDiff, Nat.reduceLT, Nat.reduceLeDiff, Nat.reduceSub, Nat.reduceBEq, reduceIte, reduceCtorEq, Int.reduceEq, Int.reduceNe, Nat.reduceBneDiff, Int.reduceLE, Int.reduceLT, Int.reduceToNat, Int.reduceAdd, Int.reduceSub, Int.reduceMul, Int.reduceNeg, hA', h0, hg, Int.toNat_natCast]) | ((with_reducible refine gcall_eq (hv) ?_ ?_ ?_); (with_reducible rfl); rfl) | (with_reducible exact drawQ_true _ _ (by kernel_rfl)) | (with_reducible refine And.intro (drawQ_true _ _ (by kernel_rfl)) ?_))
    · have : l.any p = true := by rw [List.any_eq_true]; exact ⟨l[k], List.getElem_mem hk, hpk⟩
      rw [this]; simp
theorem contains_v (l : List (Bool × ByteArray)) (hl : l.length ≤ 1000000) (g : FuncId) (p : Bool × ByteArray → Bool) (hp : ∀ x ∈ l, SoundAt Tryz.prog g [.agg [.bool x.1, .str x.2]] (.bool (p x))) :
    SoundAt Tryz.prog 76 [.slc (l.map wA), .fn g [] []] (.bool (l.any p)) := by
  obtain ⟨k, hs, hk⟩ := index_v l hl g p hp
  rw [← hk]
  refine sound_go (tb := []) 9 [.tmp 4] [0, 1, 4] mixed Tryz.func76 rfl (by kernel_rfl) (by kernel_rfl) (by kernel_rfl) (by kernel_rfl) ?_
  repeat (first | (simp -implicitDefEqProofs only [go_sem, Nat.reduceAdd, Nat.reduceMul, Nat.reduceEqDiff, Nat.reduceLT, Nat.reduceLeDiff, Nat.reduceSub, Nat.reduceBEq, reduceIte, reduceCtorEq, Int.reduceEq, Int.reduceNe, Nat.reduceBneDiff, Int.reduceLE, Int.reduceLT, Int.reduceToNat, Int.reduceAdd, Int.reduceSub, Int.reduceMul, Int.reduceNeg]) | ((with_reducible refine gcall_eq (hs) ?_ ?_ ?_); (with_reducible rfl); rfl) | (with_reducible exact drawQ_true _ _ (by kernel_rfl)) | (with_reducible refine And.intro (drawQ_true _ _ (by kernel_rfl)) ?_))
theorem valid1_v (x : Bool × ByteArray) : SoundAt Tryz.prog 77 [.agg [.bool x.1, .str x.2]] (.bool (!validB x.1 x.2.data.toList)) := by
  have h := wvalid_v x.1 x.2
  refine sound_go (tb := []) 6 [.tmp 2] [0, 1, 2] mixed Tryz.func77 rfl (by kernel_rfl) (by kernel_rfl) (by kernel_rfl) (by kernel_rfl) ?_
  repeat (first | (simp -implicitDefEqProofs only [go_sem, Nat.reduceAdd, Nat.reduceMul, Nat.reduceEqDiff, Nat.reduceLT, Nat.reduceLeDiff, Nat.reduceSub, Nat.reduceBEq, reduceIte, reduceCtorEq, Int.reduceEq, Int.reduceNe, Nat.reduceBneDiff, Int.reduceLE, Int.reduceLT, Int.reduceToNat, Int.reduceAdd, Int.reduceSub, Int.reduceMul, Int.reduceNeg]) | ((with_reducible refine gcall_eq (h) ?_ ?_ ?_); (with_reducible rfl); rfl) | (with_reducible exact drawQ_true _ _ (by kernel_rfl)) | (with_reducible refine And.intro (drawQ_true _ _ (by kernel_rfl)) ?_))
theorem valid_v (l : List (Bool × ByteArray)) (hl : l.length ≤ maxLen) : SoundAt Tryz.prog 39 [.slc (l.map wA)] (.bool (formB l)) := by
  unfold maxLen at hl
  by_cases h1 : 1 ≤ l.length
  · have h1' : ((1 : Int) ≤ (l.length : Int)) = True := by simp only [eq_iff_iff, iff_true]; omega
    by_cases h2 : l.length ≤ 25
    · have h2' : ((l.length : Int) ≤ 25) = True := by simp only [eq_iff_iff, iff_true]; omega
      have hc := contains_v l (by omega) 77 (fun x => !validB x.1 x.2.data.toList) (fun x _ => valid1_v x)
      have e : (!l.any fun x => !validB x.1 x.2.data.toList) = formB l := by
        unfold formB validL
        rw [decide_eq_true h1, decide_eq_true h2, Bool.and_true, Bool.and_true, List.any_eq_not_all_not]
        simp
      refine sound_go (tb := []) 16 [.tmp 2] [0, 2] mixed Tryz.func39 rfl (by kernel_rfl) (by kernel_rfl) (by kernel_rfl) (by kernel_rfl) ?_
      repeat (first | (simp -implicitDefEqProofs only [go_sem, Nat.reduceAdd, Nat.reduceMul, Nat.reduceEqDiff, Nat.reduceLT, Nat.reduceLeDiff, Nat.reduceSub, Nat.reduceBEq, reduceIte, reduceCtorEq, Int.reduceEq, Int.reduceNe, Nat.reduceBneDiff, Int.reduceLE, Int.reduceLT, Int.reduceToNat, Int.reduceAdd, Int.reduceSub, Int.reduceMul, Int.reduceNeg, h1', h2', e, List.length_map]) | ((with_reducible refine gcall_eq (hc) ?_ ?_ ?_); (with_reducible rfl); rfl) | (with_reducible exact drawQ_true _ _ (by kernel_rfl)) | (with_reducible refine And.intro (drawQ_true _ _ (by kernel_rfl)) ?_))
    · have h2' : ((l.length : Int) ≤ 25) = False := by simp only [eq_iff_iff, iff_false]; omega
      have e : formB l = false := by unfold formB; rw [decide_eq_false h2, Bool.and_false, Bool.and_false]
      rw [e]
      refine sound_go (tb := []) 16 [.tmp 2] [0, 2] mixed Tryz.func39 rfl (by kernel_rfl) (by kernel_rfl) (by kernel_rfl) (by kernel_rfl) ?_
      repeat (first | (simp -implicitDefEqProofs only [go_sem, Nat.reduceAdd, Nat.reduceMul, Nat.reduceEqDiff, Nat.reduceLT, Nat.reduceLeDiff, Nat.reduceSub, Nat.reduceBEq, reduceIte, reduceCtorEq, Int.reduceEq, Int.reduceNe, Nat.reduceBneDiff, Int.reduceLE, Int.reduceLT, Int.reduceToNat, Int.reduceAdd, Int.reduceSub, Int.reduceMul, Int.reduceNeg, h1', h2', List.length_map]) | (with_reducible exact drawQ_true _ _ (by kernel_rfl)) | (with_reducible refine And.intro (drawQ_true _ _ (by kernel_rfl)) ?_))
  · have h1' : ((1 : Int) ≤ (l.length : Int)) = False := by simp only [eq_iff_iff, iff_false]; omega
    have e : formB l = false := by unfold formB; rw [decide_eq_false h1, Bool.false_and, Bool.and_false]
    rw [e]
    refine sound_go (tb := []) 16 [.tmp 2] [0, 2] mixed Tryz.func39 rfl (by kernel_rfl) (by kernel_rfl) (by kernel_rfl) (by kernel_rfl) ?_
    repeat (first | (simp -implicitDefEqProofs only [go_sem, Nat.reduceAdd, Nat.reduceMul, Nat.reduceEqDiff, Nat.reduceLT, Nat.reduceLeDiff, Nat.reduceSub, Nat.reduceBEq, reduceIte, reduceCtorEq, Int.reduceEq, Int.reduceNe, Nat.reduceBneDiff, Int.reduceLE, Int.reduceLT, Int.reduceToNat, Int.reduceAdd, Int.reduceSub, Int.reduceMul, Int.reduceNeg, h1', List.length_map]) | (with_reducible exact drawQ_true _ _ (by kernel_rfl)) | (with_reducible refine And.intro (drawQ_true _ _ (by kernel_rfl)) ?_))
theorem rFFrom_v (l : List (Bool × ByteArray)) (hl : l.length ≤ 1000000) (hs : ∀ p ∈ l, p.2.size ≤ 1000000) : SoundAt Tryz.prog 14 [.slc (l.map wA)] (rL (l.map wnP)) := by
  refine sound_go (tb := []) 20 [.tmp 2] [0, 2, 3, 4, 8] mixed Tryz.func14 rfl (by kernel_rfl) (by kernel_rfl) (by kernel_rfl) (by kernel_rfl) ?_
  simp -implicitDefEqProofs only [go_sem, Nat.reduceAdd, Nat.reduceMul, Nat.reduceEqDiff, Nat.reduceLT, Nat.reduceLeDiff, Nat.reduceSub, Nat.reduceBEq, reduceIte, reduceCtorEq, Int.reduceEq, Int.reduceNe, Nat.reduceBneDiff, Int.reduceLE, Int.reduceLT, Int.reduceToNat, Int.reduceAdd, Int.reduceSub, Int.reduceMul, Int.reduceNeg]
  refine g_loop mixed (fun i : { i : Nat // i ≤ l.length } => St.of [(0, .slc (l.map wA)), (3, .bs 7 2 0 i.1), (4, .int .i64 (i.1 : Int))]
    [(7, { els := ((l.take i.1).map wnP).map rI, esz := 2, ety := 37, fro := 0, live := true, arr := true })]) (fun i => l.length - i.1) ⟨0, Nat.zero_le _⟩ ?_ ?_
  · refine le_nil1 3 7 2 37 rfl rfl rfl (by decide) [(7, 7)] rfl ?_ ?_
    · simp [varsLe, lkp, ren1, ren0]
    · simp [boxesLe, lkp, Box.renames]
  · rintro ⟨i, hi⟩
    have hlen : (((l.take i).map wnP).map rI).length = i := by simp; omega
    by_cases hA : i < l.length
    · have hA' := ltT hA
      have h0 := nnT i
      have hg := wA_get l i hA
      have hwk := wrap_add1 (a := i) (by omega)
      have q1 : (i == i) = true := beq_self_eq_true i
      have q2 : ((i + 1) * 32 ≤ 140737488355328) = True := by simp only [eq_iff_iff, iff_true]; omega
      have q3 : (i + 1 ≤ maxLen) = True := by simp only [eq_iff_iff, iff_true]; unfold maxLen; omega
      have hf : SoundAt Tryz.prog 48 [.agg [.bool l[i].1, .str l[i].2]] (rI (wnP l[i])) := rfrom_v l[i].1 l[i].2 (hs _ (List.getElem_mem hA))
      have htk : ((l.take (i + 1)).map wnP).map rI = ((l.take i).map wnP).map rI ++ [rI (wnP l[i])] := by rw [take_snoc l i hA, List.map_append, List.map_append]; rfl
      repeat (first | (simp -implicitDefEqProofs only [go_sem, Nat.reduceAdd, Nat.reduceMul, Nat.reduceEqDiff, Nat.reduceLT, Nat.reduceLeDiff, Nat.reduceSub, Nat.reduceBEq, reduceIte, reduceCtorEq, Int.reduceEq, Int.reduceNe, Nat.reduceBneDiff, Int.reduceLE, Int.reduceLT, Int.reduceToNat, Int.reduceAdd, Int.reduceSub, Int.reduceMul, Int.reduceNeg, rI, di, hA', h0, hg, Int.toNat_natCast, List.length_map, hlen, q1, q2, q3, rI_okf, hwk]) | ((with_reducible refine gcall_eq (hf) ?_ ?_ ?_); (with_reducible rfl); rfl) | (with_reducible exact drawQ_true _ _ (by kernel_rfl)) | (with_reducible refine And.intro (drawQ_true _ _ (by kernel_rfl)) ?_))
      refine ⟨⟨i + 1, hA⟩, by simp only; omega, le_of (θ := [(7, 507)]) rfl ?_ ?_⟩
      · simp [varsLe, lkp, ren1, ren0]
      · exact ⟨⟨rfl, rfl, rfl, rfl, rfl, .inl ⟨rfl, htk.symm⟩⟩, trivial⟩
    · have hA' := ltF hA
      have e1 : (((l.take i).map wnP).map rI).take i = (l.map wnP).map rI := by
        rw [List.take_of_length_le (by omega), List.take_of_length_le (show l.length ≤ i by omega)]
      repeat (first | (simp -implicitDefEqProofs only [go_sem, Nat.reduceAdd, Nat.reduceMul, Nat.reduceEqDiff, Nat.reduceLT, Nat.reduceLeDiff, Nat.reduceSub, Nat.reduceBEq, reduceIte, reduceCtorEq, Int.reduceEq, Int.reduceNe, Nat.reduceBneDiff, Int.reduceLE, Int.reduceLT, Int.reduceToNat, Int.reduceAdd, Int.reduceSub, Int.reduceMul, Int.reduceNeg, hA', hlen, e1, rL, List.length_map]) | (with_reducible exact drawQ_true _ _ (by kernel_rfl)) | (with_reducible refine And.intro (drawQ_true _ _ (by kernel_rfl)) ?_))
theorem rFPow_v (p : List Int) (n : Nat) (hn : n ≤ 30) (hl : p.length ≤ 1 + 1) (hp : bd 1 p) : SoundAt Tryz.prog 53 [rL p, .int .i64 (n : Int)] (rL (pPow p n)) := by
  have h1 := rNums_v [1] (by decide) one_bd
  unfold intsL at h1
  have e0 : trimI [1] = pPow p 0 := rfl
  rw [e0] at h1
  refine sound_go (tb := []) 18 [.tmp 4] [0, 1, 4, 5, 6, 11] mixed Tryz.func53 rfl (by kernel_rfl) (by kernel_rfl) (by kernel_rfl) (by kernel_rfl) ?_
  repeat (first | (simp -implicitDefEqProofs only [go_sem, Nat.reduceAdd, Nat.reduceMul, Nat.reduceEqDiff, Nat.reduceLT, Nat.reduceLeDiff, Nat.reduceSub, Nat.reduceBEq, reduceIte, reduceCtorEq, Int.reduceEq, Int.reduceNe, Nat.reduceBneDiff, Int.reduceLE, Int.reduceLT, Int.reduceToNat, Int.reduceAdd, Int.reduceSub, Int.reduceMul, Int.reduceNeg, rL, List.map_cons, List.map_nil]) | ((with_reducible refine gcall_eq (h1) ?_ ?_ ?_); (with_reducible rfl); rfl) | (with_reducible exact drawQ_true _ _ (by kernel_rfl)) | (with_reducible refine And.intro (drawQ_true _ _ (by kernel_rfl)) ?_))
  refine g_loop mixed (fun i : { i : Nat // i ≤ n } => St.of [(0, rL p), (1, .int .i64 (n : Int)), (5, rL (pPow p i.1)), (6, .int .i64 (i.1 : Int))] []) (fun i => n - i.1) ⟨0, Nat.zero_le _⟩ ?_ ?_
  · exact le_vars (by simp [varsLe, lkp, ren1, ren0, rL])
  · rintro ⟨i, hi⟩
    by_cases hA : i < n
    · have hA' := ltT hA
      have hwk := wrap_add1 (a := i) (by omega)
      have h2 := bd_pPow (m := 1) hp hl i (by omega)
      have h3 := pPow_length (m := 1) hl i
      have hm := rPMul_v (pPow p i) p 300 (by decide) (bd_mono h2 (by omega)) (bd_mono hp (by decide)) (by omega)
      have e : pMul (pPow p i) p = pPow p (i + 1) := rfl
      rw [e] at hm
      generalize hX : pPow p (i + 1) = Y at *
      generalize pPow p i = Z at *
      unfold rL at *
      repeat (first | (simp -implicitDefEqProofs only [go_sem, Nat.reduceAdd, Nat.reduceMul, Nat.reduceEqDiff, Nat.reduceLT, Nat.reduceLeDiff, Nat.reduceSub, Nat.reduceBEq, reduceIte, reduceCtorEq, Int.reduceEq, Int.reduceNe, Nat.reduceBneDiff, Int.reduceLE, Int.reduceLT, Int.reduceToNat, Int.reduceAdd, Int.reduceSub, Int.reduceMul, Int.reduceNeg, hA', hwk]) | ((with_reducible refine gcall_eq (hm) ?_ ?_ ?_); (with_reducible rfl); rfl) | (with_reducible exact drawQ_true _ _ (by kernel_rfl)) | (with_reducible refine And.intro (drawQ_true _ _ (by kernel_rfl)) ?_))
      refine ⟨⟨i + 1, hA⟩, by simp only; omega, le_vars ?_⟩
      simp only [hX]
      simp [varsLe, lkp, ren1, ren0]
    · have hA' := ltF hA
      obtain rfl : i = n := by omega
      repeat (first | (simp -implicitDefEqProofs only [go_sem, Nat.reduceAdd, Nat.reduceMul, Nat.reduceEqDiff, Nat.reduceLT, Nat.reduceLeDiff, Nat.reduceSub, Nat.reduceBEq, reduceIte, reduceCtorEq, Int.reduceEq, Int.reduceNe, Nat.reduceBneDiff, Int.reduceLE, Int.reduceLT, Int.reduceToNat, Int.reduceAdd, Int.reduceSub, Int.reduceMul, Int.reduceNeg, rL, hA']) | (with_reducible exact drawQ_true _ _ (by kernel_rfl)) | (with_reducible refine And.intro (drawQ_true _ _ (by kernel_rfl)) ?_))
theorem rFPoly_v (f : List Int) (n B : Nat) (hn : n ≤ 24) (hl : f.length = n + 1) (hB : B ≤ 100000) (hf : bd B f) : SoundAt Tryz.prog 18 [rL f] (rL (polyS f n (n + 1))) := by
  have c1 := rNums_v [0, 1] (by decide) (by simp)
  have c2 := rNums_v [1, -1] (by decide) (by simp)
  unfold intsL at c1 c2
  have w0 : IntKind.i64.wrap (((n + 1 : Nat) : Int) - 1) = (n : Int) := by rw [wrap_i64 (by omega) (by omega)]; omega
  refine sound_go (tb := []) 33 [.tmp 2] [0, 2, 3, 4, 5, 11] mixed Tryz.func18 rfl (by kernel_rfl) (by kernel_rfl) (by kernel_rfl) (by kernel_rfl) ?_
  repeat (first | (simp -implicitDefEqProofs only [go_sem, Nat.reduceAdd, Nat.reduceMul, Nat.reduceEqDiff, Nat.reduceLT, Nat.reduceLeDiff, Nat.reduceSub, Nat.reduceBEq, reduceIte, reduceCtorEq, Int.reduceEq, Int.reduceNe, Nat.reduceBneDiff, Int.reduceLE, Int.reduceLT, Int.reduceToNat, Int.reduceAdd, Int.reduceSub, Int.reduceMul, Int.reduceNeg, rL, List.length_map, hl, w0]) | (with_reducible exact drawQ_true _ _ (by kernel_rfl)) | (with_reducible refine And.intro (drawQ_true _ _ (by kernel_rfl)) ?_))
  refine g_loop mixed (fun j : { j : Nat // j ≤ n + 1 } => St.of [(0, rL f), (3, rL (polyS f n j.1)), (4, .int .i64 (n : Int)), (5, .int .i64 (j.1 : Int))] []) (fun j => n + 1 - j.1) ⟨0, Nat.zero_le _⟩ ?_ ?_
  · refine Le.trans (le_slc0G 3 rfl) (le_vars ?_)
    simp [varsLe, lkp, ren1, ren0, rL, polyS]
  · rintro ⟨j, hj⟩
    by_cases hA : j < n + 1
    · have hA' := leT (show j ≤ n by omega)
      have h0 := nnT j
      have hjf : j < f.length := by omega
      have hg := rI_get f j hjf
      have hwk := wrap_add1 (a := j) (by omega)
      have w2 := wrap_sub (a := n) (b := j) (by omega) (by omega)
      have b1 := bd_pair (B := 1) (a := 0) (b := 1) (by decide) (by decide)
      have b2 := bd_pair (B := 1) (a := 1) (b := -1) (by decide) (by decide)
      have p1 := rFPow_v (trimI [0, 1]) j (by omega) (trimI_pair_len 0 1) b1
      have p2 := rFPow_v (trimI [1, -1]) (n - j) (by omega) (trimI_pair_len 1 (-1)) b2
      have h1 := bd_pPow (B := 1) (m := 1) b1 (trimI_pair_len 0 1) j (by omega)
      have h2 := bd_pPow (B := 1) (m := 1) b2 (trimI_pair_len 1 (-1)) (n - j) (by omega)
      have l1 := pPow_length (m := 1) (trimI_pair_len 0 1) j
      have l2 := pPow_length (m := 1) (trimI_pair_len 1 (-1)) (n - j)
      have mu := rPMul_v (pPow (trimI [0, 1]) j) (pPow (trimI [1, -1]) (n - j)) 193 (by decide) (bd_mono h1 (by omega)) (bd_mono h2 (by omega)) (by omega)
      have h3 := bd_pMul (bd_mono h1 (show (1 + 7) * j + 1 ≤ 193 by omega)) (bd_mono h2 (show (1 + 7) * (n - j) + 1 ≤ 193 by omega)) (by omega)
      have l3 := pMul_length (pPow (trimI [0, 1]) j) (pPow (trimI [1, -1]) (n - j))
      have sc := rPScale_v (pMul (pPow (trimI [0, 1]) j) (pPow (trimI [1, -1]) (n - j))) f[j] (400 + B) (by omega) (bd_mono h3 (by omega)) (p2_mono (hf _ (List.getElem_mem hjf)) (by omega)) (by omega)
      have h4 := bd_pScale h3 (hf _ (List.getElem_mem hjf))
      have l4 := pScale_length (pMul (pPow (trimI [0, 1]) j) (pPow (trimI [1, -1]) (n - j))) f[j]
      have hS := bd_polyS hf hn j (by omega)
      have hSl := polyS_len f n j (by omega)
      have ad := rPAdd_v (polyS f n j) (pScale (pMul (pPow (trimI [0, 1]) j) (pPow (trimI [1, -1]) (n - j))) f[j]) (400 + B + j) (by omega) hS (bd_mono h4 (by omega)) (by omega) (by omega)
      have e1 : pAdd (polyS f n j) (pScale (pMul (pPow (trimI [0, 1]) j) (pPow (trimI [1, -1]) (n - j))) f[j]) = polyS f n (j + 1) := by rw [polyS, getD_lt hjf]
      rw [e1] at ad
      generalize hY : polyS f n (j + 1) = Y at *
      generalize polyS f n j = S at *
      generalize pScale (pMul (pPow (trimI [0, 1]) j) (pPow (trimI [1, -1]) (n - j))) f[j] = Q at *
      generalize pMul (pPow (trimI [0, 1]) j) (pPow (trimI [1, -1]) (n - j)) = M at *
      generalize pPow (trimI [0, 1]) j = P1 at *
      generalize pPow (trimI [1, -1]) (n - j) = P2 at *
      generalize trimI [0, 1] = T1 at *
      generalize trimI [1, -1] = T2 at *
      unfold rL at *
      repeat (first | (simp -implicitDefEqProofs only [go_sem, Nat.reduceAdd, Nat.reduceMul, Nat.reduceEqDiff, Nat.reduceLT, Nat.reduceLeDiff, Nat.reduceSub, Nat.reduceBEq, reduceIte, reduceCtorEq, Int.reduceEq, Int.reduceNe, Nat.reduceBneDiff, Int.reduceLE, Int.reduceLT, Int.reduceToNat, Int.reduceAdd, Int.reduceSub, Int.reduceMul, Int.reduceNeg, rI, di, List.map_cons, List.map_nil, List.length_map, hA', h0, hg, hwk, w2, Int.toNat_natCast]) | ((with_reducible refine gcall_eq (c1) ?_ ?_ ?_); (with_reducible rfl); rfl) | ((with_reducible refine gcall_eq (c2) ?_ ?_ ?_); (with_reducible rfl); rfl) | ((with_reducible refine gcall_eq (p1) ?_ ?_ ?_); (with_reducible rfl); rfl) | ((with_reducible refine gcall_eq (p2) ?_ ?_ ?_); (with_reducible rfl); rfl) | ((with_reducible refine gcall_eq (mu) ?_ ?_ ?_); (with_reducible rfl); rfl) | ((with_reducible refine gcall_eq (sc) ?_ ?_ ?_); (with_reducible rfl); rfl) | ((with_reducible refine gcall_eq (ad) ?_ ?_ ?_); (with_reducible rfl); rfl) | (with_reducible exact drawQ_true _ _ (by kernel_rfl)) | (with_reducible refine And.intro (drawQ_true _ _ (by kernel_rfl)) ?_))
      refine ⟨⟨j + 1, by omega⟩, by simp only; omega, le_vars ?_⟩
      simp only [hY]
      simp [varsLe, lkp, ren1, ren0]
    · have hA' := leF (show ¬ j ≤ n by omega)
      obtain rfl : j = n + 1 := by omega
      repeat (first | (simp -implicitDefEqProofs only [go_sem, Nat.reduceAdd, Nat.reduceMul, Nat.reduceEqDiff, Nat.reduceLT, Nat.reduceLeDiff, Nat.reduceSub, Nat.reduceBEq, reduceIte, reduceCtorEq, Int.reduceEq, Int.reduceNe, Nat.reduceBneDiff, Int.reduceLE, Int.reduceLT, Int.reduceToNat, Int.reduceAdd, Int.reduceSub, Int.reduceMul, Int.reduceNeg, rL, hA']) | (with_reducible exact drawQ_true _ _ (by kernel_rfl)) | (with_reducible refine And.intro (drawQ_true _ _ (by kernel_rfl)) ?_))
theorem pow2_abs (k : Nat) : ((2 : Int) ^ k).natAbs < 2 ^ (k + 1) := by
  rw [Int.natAbs_pow]; exact Nat.pow_lt_pow_right (by decide) (Nat.lt_succ_self _)
set_option maxHeartbeats 4000000 in
theorem rHalves_v (f : List Int) (n B : Nat) (hn : n ≤ 24) (hl : f.length = n + 1) (hB : B ≤ 4000) (hf : bd B f) : SoundAt Tryz.prog 20 [rL f] (.tup [rL (leftH f n), rL (rightH f n)]) := by
  have hpo := rFPoly_v f n B hn hl (by omega) hf
  have hPb := bd_polyS hf hn (n + 1) (Nat.le_refl _)
  have hPl := polyS_length hl
  obtain ⟨eL, lL⟩ := halfP_left hl
  obtain ⟨eR, lR⟩ := halfP_right hl
  have n0 := rnum_v 0 (by decide) (by decide)
  have n1 := rnum_v 1 (by decide) (by decide)
  have n2 := rnum_v 2 (by decide) (by decide)
  have w0 : IntKind.i64.wrap (((n + 1 : Nat) : Int) - 1) = (n : Int) := by rw [wrap_i64 (by omega) (by omega)]; omega
  have q0 : (0 : Int).natAbs < 2 ^ 1 := by decide
  have q1 : (1 : Int).natAbs < 2 ^ 1 := by decide
  have q2 : (2 : Int).natAbs < 2 ^ 2 := by decide
  unfold halfP at eL lL eR lR
  generalize polyS f n (n + 1) = P at *
  have hc0 := rCompose_v P 0 1 2 (400 + B + (n + 1)) (by omega) hPb (p2_mono q0 (by omega)) (p2_mono q1 (by omega)) (p2_mono q2 (by omega)) (by omega)
  have hc1 := rCompose_v P 1 1 2 (400 + B + (n + 1)) (by omega) hPb (p2_mono q1 (by omega)) (p2_mono q1 (by omega)) (p2_mono q2 (by omega)) (by omega)
  have b0 := bd_compS hPb q0 q1 q2 (by omega) P.length (Nat.le_refl _)
  have b1 := bd_compS hPb q1 q1 q2 (by omega) P.length (Nat.le_refl _)
  have l0 := compS_length P 0 1 2 P.length
  have l1 := compS_length P 1 1 2 P.length
  obtain ⟨k, hk⟩ : ∃ k : Nat, k = n - (P.length - 1) := ⟨_, rfl⟩
  rw [← hk] at eL lL eR lR
  have hpw := rpower_v k (by omega)
  have hpk := pow2_abs k
  have s0 := rPScale_v (compS P 0 1 2 P.length) (2 ^ k) (B + 1000) (by omega) (bd_mono b0 (by omega)) (p2_mono hpk (by omega)) (by omega)
  have s1 := rPScale_v (compS P 1 1 2 P.length) (2 ^ k) (B + 1000) (by omega) (bd_mono b1 (by omega)) (p2_mono hpk (by omega)) (by omega)
  have h0 := bd_pScale b0 hpk
  have h1 := bd_pScale b1 hpk
  have f0 := rForm_v (pScale (compS P 0 1 2 P.length) (2 ^ k)) n (B + 1000) hn lL (by omega) (bd_mono h0 (by omega))
  have f1 := rForm_v (pScale (compS P 1 1 2 P.length) (2 ^ k)) n (B + 1000) hn lR (by omega) (bd_mono h1 (by omega))
  rw [eL] at f0
  rw [eR] at f1
  have w1 : IntKind.i64.wrap ((P.length : Int) - 1) = (P.length : Int) - 1 := wrap_i64 (by omega) (by omega)
  by_cases hc : 1 < P.length
  · have c1 : ((0 : Int) < (P.length : Int) - 1) = True := by simp only [eq_iff_iff, iff_true]; omega
    have w2 : IntKind.i64.wrap ((n : Int) - ((P.length : Int) - 1)) = (k : Int) := by rw [wrap_i64 (by omega) (by omega)]; omega
    generalize pScale (compS P 0 1 2 P.length) (2 ^ k) = S0 at *
    generalize pScale (compS P 1 1 2 P.length) (2 ^ k) = S1 at *
    generalize compS P 0 1 2 P.length = C0 at *
    generalize compS P 1 1 2 P.length = C1 at *
    generalize (2 : Int) ^ k = K at *
    unfold rL at *
    refine sound_go (tb := []) 41 [.tmp 2, .tmp 3] [0, 2, 3, 4, 5, 6, 7, 8] mixed Tryz.func20 rfl (by kernel_rfl) (by kernel_rfl) (by kernel_rfl) (by kernel_rfl) ?_
    repeat (first | (simp -implicitDefEqProofs only [go_sem, Nat.reduceAdd, Nat.reduceMul, Nat.reduceEqDiff, Nat.reduceLT, Nat.reduceLeDiff, Nat.reduceSub, Nat.reduceBEq, reduceIte, reduceCtorEq, Int.reduceEq, Int.reduceNe, Nat.reduceBneDiff, Int.reduceLE, Int.reduceLT, Int.reduceToNat, Int.reduceAdd, Int.reduceSub, Int.reduceMul, Int.reduceNeg, rI, di, List.length_map, hl, w0, w1, w2, c1]) | ((with_reducible refine gcall_eq (hpo) ?_ ?_ ?_); (with_reducible rfl); rfl) | ((with_reducible refine gcall_eq (hpw) ?_ ?_ ?_); (with_reducible rfl); rfl) | ((with_reducible refine gcall_eq (n0) ?_ ?_ ?_); (with_reducible rfl); rfl) | ((with_reducible refine gcall_eq (n1) ?_ ?_ ?_); (with_reducible rfl); rfl) | ((with_reducible refine gcall_eq (n2) ?_ ?_ ?_); (with_reducible rfl); rfl) | ((with_reducible refine gcall_eq (hc0) ?_ ?_ ?_); (with_reducible rfl); rfl) | ((with_reducible refine gcall_eq (hc1) ?_ ?_ ?_); (with_reducible rfl); rfl) | ((with_reducible refine gcall_eq (s0) ?_ ?_ ?_); (with_reducible rfl); rfl) | ((with_reducible refine gcall_eq (s1) ?_ ?_ ?_); (with_reducible rfl); rfl) | ((with_reducible refine gcall_eq (f0) ?_ ?_ ?_); (with_reducible rfl); rfl) | ((with_reducible refine gcall_eq (f1) ?_ ?_ ?_); (with_reducible rfl); rfl) | (with_reducible exact drawQ_true _ _ (by kernel_rfl)) | (with_reducible refine And.intro (drawQ_true _ _ (by kernel_rfl)) ?_))
  · have c1 : ((0 : Int) < (P.length : Int) - 1) = False := by simp only [eq_iff_iff, iff_false]; omega
    have w2 : IntKind.i64.wrap ((n : Int) - 0) = (k : Int) := by rw [wrap_i64 (by omega) (by omega)]; omega
    generalize pScale (compS P 0 1 2 P.length) (2 ^ k) = S0 at *
    generalize pScale (compS P 1 1 2 P.length) (2 ^ k) = S1 at *
    generalize compS P 0 1 2 P.length = C0 at *
    generalize compS P 1 1 2 P.length = C1 at *
    generalize (2 : Int) ^ k = K at *
    unfold rL at *
    refine sound_go (tb := []) 41 [.tmp 2, .tmp 3] [0, 2, 3, 4, 5, 6, 7, 8] mixed Tryz.func20 rfl (by kernel_rfl) (by kernel_rfl) (by kernel_rfl) (by kernel_rfl) ?_
    repeat (first | (simp -implicitDefEqProofs only [go_sem, Nat.reduceAdd, Nat.reduceMul, Nat.reduceEqDiff, Nat.reduceLT, Nat.reduceLeDiff, Nat.reduceSub, Nat.reduceBEq, reduceIte, reduceCtorEq, Int.reduceEq, Int.reduceNe, Nat.reduceBneDiff, Int.reduceLE, Int.reduceLT, Int.reduceToNat, Int.reduceAdd, Int.reduceSub, Int.reduceMul, Int.reduceNeg, rI, di, List.length_map, hl, w0, w1, w2, c1]) | ((with_reducible refine gcall_eq (hpo) ?_ ?_ ?_); (with_reducible rfl); rfl) | ((with_reducible refine gcall_eq (hpw) ?_ ?_ ?_); (with_reducible rfl); rfl) | ((with_reducible refine gcall_eq (n0) ?_ ?_ ?_); (with_reducible rfl); rfl) | ((with_reducible refine gcall_eq (n1) ?_ ?_ ?_); (with_reducible rfl); rfl) | ((with_reducible refine gcall_eq (n2) ?_ ?_ ?_); (with_reducible rfl); rfl) | ((with_reducible refine gcall_eq (hc0) ?_ ?_ ?_); (with_reducible rfl); rfl) | ((with_reducible refine gcall_eq (hc1) ?_ ?_ ?_); (with_reducible rfl); rfl) | ((with_reducible refine gcall_eq (s0) ?_ ?_ ?_); (with_reducible rfl); rfl) | ((with_reducible refine gcall_eq (s1) ?_ ?_ ?_); (with_reducible rfl); rfl) | ((with_reducible refine gcall_eq (f0) ?_ ?_ ?_); (with_reducible rfl); rfl) | ((with_reducible refine gcall_eq (f1) ?_ ?_ ?_); (with_reducible rfl); rfl) | (with_reducible exact drawQ_true _ _ (by kernel_rfl)) | (with_reducible refine And.intro (drawQ_true _ _ (by kernel_rfl)) ?_))
end Go.Proofs.YtnpclmmmngmdkaaGreat

namespace Go.Dg

theorem bd_trans {xs : List Int} {B n : Nat} {c : Int} (hc : c.natAbs = 1) (hn : n ≤ 24) (hx : bd B xs) : bd (B + 29) (trans xs c n) := by
  intro y hy
  obtain ⟨j, hj, rfl⟩ := List.mem_map.1 hy
  refine sm_bin_lt hn (by have := List.mem_range.1 hj; omega) fun i _ => ?_
  rw [Int.natAbs_mul, Int.natAbs_mul, Int.natAbs_pow, hc, Nat.one_pow, Nat.one_mul]
  exact Nat.mul_le_mul (Nat.le_of_lt (bd_get hx i)) (Nat.le_trans (bin_le_pow _ _) (Nat.pow_le_pow_right (by decide) (by omega)))
theorem bd_reverse {B : Nat} {p : List Int} (h : bd B p) : bd B p.reverse := fun x hx => h x (List.mem_reverse.1 hx)
theorem bd_leftH {xs : List Int} {B n : Nat} (hn : n ≤ 24) (hx : bd B xs) : bd (B + 29 + n) (leftH xs n) := by
  intro y hy
  obtain ⟨j, hj, rfl⟩ := List.mem_map.1 hy
  have h1 := bd_get (bd_trans (c := 1) rfl hn hx) j
  have h2 : ((2 : Int) ^ (n - j)).natAbs ≤ 2 ^ n := by
    rw [Int.natAbs_pow]
    exact Nat.pow_le_pow_right (by decide) (Nat.sub_le _ _)
  rw [Int.natAbs_mul, Nat.pow_add]
  exact Nat.lt_of_le_of_lt (Nat.mul_le_mul_left _ h2) (Nat.mul_lt_mul_of_pos_right h1 (Nat.pow_pos (by decide)))
theorem bd_rightH {xs : List Int} {B n : Nat} (hn : n ≤ 24) (hx : bd B xs) : bd (B + 29 + n) (rightH xs n) := bd_reverse (bd_leftH hn (bd_reverse hx))
/-- Sums that grow row by row: behind i rows and k columns of row i. -/
def rowsF (t : Nat → Nat → Int) (n i k : Nat) : List Int := (List.range (n + 1)).map fun m => if m < i then sm (t m) (m + 1) else if m < i + k then sm (t m) (i + 1) else sm (t m) i
theorem rowsF_length (t : Nat → Nat → Int) (n i k : Nat) : (rowsF t n i k).length = n + 1 := by simp [rowsF]
theorem rowsF_get (t : Nat → Nat → Int) (n i k m : Nat) (h : m < n + 1) : (rowsF t n i k)[m]? = some (if m < i then sm (t m) (m + 1) else if m < i + k then sm (t m) (i + 1) else sm (t m) i) := by simp [rowsF, h]
theorem rowsF_zero (t : Nat → Nat → Int) (n : Nat) : rowsF t n 0 0 = List.replicate (n + 1) 0 := by
  refine List.ext_getElem? fun m => ?_
  by_cases h : m < n + 1
  · rw [rowsF_get _ _ _ _ _ h]; simp [h, sm]
  · rw [List.getElem?_eq_none (by rw [rowsF_length]; omega), List.getElem?_eq_none (by simp; omega)]
theorem rowsF_set (t : Nat → Nat → Int) (n i k : Nat) (h : i + k < n + 1) : (rowsF t n i k).set (i + k) (sm (t (i + k)) (i + 1)) = rowsF t n i (k + 1) := by
  refine List.ext_getElem? fun m => ?_
  rw [List.getElem?_set, rowsF_length]
  by_cases hm : m < n + 1
  · rw [rowsF_get _ _ _ _ _ hm, rowsF_get _ _ _ _ _ hm]
    by_cases e : i + k = m
    · subst e
      rw [if_pos rfl, if_pos h, if_neg (by omega), if_pos (by omega)]
    · rw [if_neg e]
      congr 1
      by_cases h1 : m < i
      · rw [if_pos h1, if_pos h1]
      · rw [if_neg h1, if_neg h1]
        by_cases h2 : m < i + k
        · rw [if_pos h2, if_pos (by omega)]
        · rw [if_neg h2, if_neg (by omega)]
  · rw [if_neg (by omega), List.getElem?_eq_none (by rw [rowsF_length]; omega), List.getElem?_eq_none (by rw [rowsF_length]; omega)]
theorem rowsF_next (t : Nat → Nat → Int) (n i k : Nat) (h : n + 1 ≤ i + k) : rowsF t n i k = rowsF t n (i + 1) 0 := by
  refine List.map_congr_left fun m hm => ?_
  have hm' := List.mem_range.1 hm
  by_cases h1 : m < i
  · rw [if_pos h1, if_pos (by omega)]
  · rw [if_neg h1, if_pos (by omega)]
    by_cases h2 : m < i + 1
    · obtain rfl : m = i := by omega
      rw [if_pos (Nat.lt_succ_self _)]
    · rw [if_neg h2, if_neg (by omega)]
theorem rowsF_done (t : Nat → Nat → Int) (n k : Nat) : rowsF t n (n + 1) k = (List.range (n + 1)).map fun m => sm (t m) (m + 1) := by
  refine List.map_congr_left fun m hm => ?_
  rw [if_pos (List.mem_range.1 hm)]
/-- The terms of the polynomial of a form. -/
def pterm (xs : List Int) (n m i : Nat) : Int := xs.getD i 0 * ((-1) ^ (m - i) * (bin (n - i) (m - i) : Int))
theorem pterm_done (xs : List Int) (n k : Nat) : rowsF (pterm xs n) n (n + 1) k = trans xs (-1) n := rowsF_done _ _ _
theorem pterm_abs {xs : List Int} {B n : Nat} (hx : bd B xs) (m i : Nat) : (pterm xs n m i).natAbs ≤ 2 ^ B * 2 ^ n := by
  rw [pterm, Int.natAbs_mul, Int.natAbs_mul, Int.natAbs_pow, show (-1 : Int).natAbs = 1 from rfl, Nat.one_pow, Nat.one_mul]
  exact Nat.mul_le_mul (Nat.le_of_lt (bd_get hx i)) (Nat.le_trans (bin_le_pow _ _) (Nat.pow_le_pow_right (by decide) (by omega)))
theorem neg1_even {k : Nat} (h : k % 2 = 0) : (-1 : Int) ^ k = 1 := by
  obtain ⟨a, rfl⟩ : ∃ a, k = 2 * a := ⟨k / 2, by omega⟩
  rw [Int.pow_mul, show (-1 : Int) ^ 2 = 1 from rfl, Int.one_pow]
theorem neg1_odd {k : Nat} (h : k % 2 = 1) : (-1 : Int) ^ k = -1 := by
  obtain ⟨a, rfl⟩ : ∃ a, k = 2 * a + 1 := ⟨k / 2, by omega⟩
  rw [Int.pow_succ, neg1_even (by omega), Int.one_mul]
end Go.Dg
