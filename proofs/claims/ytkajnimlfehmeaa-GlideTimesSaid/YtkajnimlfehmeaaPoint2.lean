import Derived.Test.YtkajnimlfehmeaaPoint
import Derived.Deep.RegionHeld3
set_option linter.unusedSimpArgs false
set_option linter.unusedVariables false
namespace Go.Proofs.Ytkajnimlfehmeaa
open Go.RowKit Go.Sky

def ptB (x y z : Int) : Bool := inB 1048576 x && inB 1048576 y && inB 1048576 z

set_option maxRecDepth 100000 in
set_option maxHeartbeats 400000 in
theorem r15_Point_any (x y z : Int) (w : World) : Calls Try.prog 22 #[.agg #[.int .i64 x, .int .i64 y, .int .i64 z]] w (RB (ptB x y z) w) := by
  unfold ptB
  cases hx : inB 1048576 x
  · go_enter Try.func22, Try.ntmps22
    go_wp2_with (go_at_call 40; refine (part_any _ _).mono ?_; rintro e w' ⟨rfl, rfl⟩)
    go_ret
    exact ⟨rfl, (Below.refl _ _).alloc (Nat.le_refl _) _⟩
  · cases hy : inB 1048576 y
    · go_enter Try.func22, Try.ntmps22
      go_wp2_with (go_at_call 40; refine (part_any _ _).mono ?_; rintro e w' ⟨rfl, rfl⟩)
      go_ret
      exact ⟨rfl, (Below.refl _ _).alloc (Nat.le_refl _) _⟩
    · go_enter Try.func22, Try.ntmps22
      go_wp2_with (go_at_call 40; refine (part_any _ _).mono ?_; rintro e w' ⟨rfl, rfl⟩)
      go_ret
      exact ⟨rfl, (Below.refl _ _).alloc (Nat.le_refl _) _⟩

set_option maxRecDepth 100000 in
set_option maxHeartbeats 400000 in
theorem v_Point_any (x y z : Int) (w : World) : Calls Try.prog 27 #[.agg #[.int .i64 x, .int .i64 y, .int .i64 z]] w (RB (ptB x y z) w) := by
  go_enter Try.func27, Try.ntmps27
  go_wp2_with fail
  have h := Sl.of_block (lo := 0) (sz := 1) (n := 3) (c := 3) (row_new (w.alloc (.cells #[.int .i64 x, .int .i64 y, .int .i64 z] 23)) (.cells #[.int .i64 x, .int .i64 y, .int .i64 z] 3)) rfl (Nat.le_refl _) (by decide) (Nat.zero_le _) (Nat.lt_succ_self _)
  refine (inside_any 1048576 [x, y, z] _ 3 3 _ 0 (by decide) (by decide) ?_).mono ?_
  · simpa [Ints, iv] using h
  · rintro e w' ⟨rfl, rfl⟩
    go_wp2_with fail
    go_ret
    exact ⟨by simp [ptB, Bool.and_assoc], ((Below.refl _ _).alloc (Nat.le_refl _) _).alloc (by simp) _⟩

def tmB (t u : Int) : Bool := decide (0 ≤ t ∧ t < u ∧ u ≤ 3600000)
theorem tmB_iff {t u : Int} : tmB t u = true ↔ 0 ≤ t ∧ t < u ∧ u ≤ 3600000 := by simp [tmB]

set_option maxRecDepth 100000 in
set_option maxHeartbeats 400000 in
theorem r15_times_any (t u : Int) (w : World) : Calls Try.prog 23 #[.int .i64 t, .int .i64 u] w (RB0 (tmB t u) w) := by
  by_cases h0 : 0 ≤ t
  · by_cases h1 : t < u
    · by_cases h2 : u ≤ 3600000
      · have h : tmB t u = true := tmB_iff.2 ⟨h0, h1, h2⟩
        rw [h]; clear h
        go_enter Try.func23, Try.ntmps23
        go_wp2
        go_ret
        exact ⟨rfl, rfl⟩
      · have h : tmB t u = false := by simp [tmB, h0, h1]; omega
        have h3 : decide (u ≤ 3600000) = false := by simpa using h2
        rw [h]; clear h h2
        go_enter Try.func23, Try.ntmps23
        go_wp2
        go_ret
        exact ⟨rfl, rfl⟩
    · have h : tmB t u = false := by simp [tmB, h1]
      have h3 : decide (t < u) = false := by simpa using h1
      rw [h]; clear h h1
      go_enter Try.func23, Try.ntmps23
      go_wp2
      go_ret
      exact ⟨rfl, rfl⟩
  · have h : tmB t u = false := by simp [tmB, h0]
    have h3 : decide (0 ≤ t) = false := by simpa using h0
    rw [h]; clear h h0
    go_enter Try.func23, Try.ntmps23
    go_wp2
    go_ret
    exact ⟨rfl, rfl⟩

def vaB (ax ay az bx by_ bz t u : Int) : Bool := ptB ax ay az && ptB bx by_ bz && tmB t u

set_option maxRecDepth 100000 in
set_option maxHeartbeats 400000 in
theorem g_valid_any (ax ay az bx by_ bz t u : Int) (w : World) :
    Calls Try.prog 29 #[.agg #[.int .i64 ax, .int .i64 ay, .int .i64 az], .agg #[.int .i64 bx, .int .i64 by_, .int .i64 bz], .int .i64 t, .int .i64 u] w (RB (vaB ax ay az bx by_ bz t u) w) := by
  unfold vaB
  cases ha : ptB ax ay az
  · go_enter Try.func29, Try.ntmps29
    go_wp2_with fail
    refine (v_Point_any _ _ _ _).mono ?_
    rintro e w' ⟨rfl, hb⟩
    rw [ha]
    go_wp2_with fail
    go_ret
    exact ⟨rfl, (((Below.refl _ _).alloc (Nat.le_refl _) _).alloc (by simp) _).trans (hb.mono (by simp; omega))⟩
  · cases hb : ptB bx by_ bz
    · go_enter Try.func29, Try.ntmps29
      go_wp2_with fail
      refine (v_Point_any _ _ _ _).mono ?_
      rintro e w1 ⟨rfl, hb1⟩
      rw [ha]
      have hd1 := row_call (row_new (w.alloc (.cells #[.int .i64 ax, .int .i64 ay, .int .i64 az] 23)) (.cells #[.int .i64 bx, .int .i64 by_, .int .i64 bz] 23)) hb1
      have hy1 := row_cell hd1 0
      have hy2 := row_cell hd1 1
      have hy3 := row_cell hd1 2
      simp at hy1 hy2 hy3
      clear hd1
      go_wp2_with fail
      refine (v_Point_any _ _ _ _).mono ?_
      rintro e w2 ⟨rfl, hb2⟩
      rw [hb]
      go_wp2_with fail
      go_ret
      have h1 := hb1.size
      exact ⟨rfl, ((((Below.refl _ _).alloc (Nat.le_refl _) _).alloc (by simp) _).trans (hb1.mono (by simp; omega))).trans (hb2.mono (by simp at h1; omega))⟩
    · by_cases h0 : 0 ≤ t
      · by_cases h1 : t < u
        · by_cases h2 : u ≤ 3600000
          · rw [tmB_iff.2 ⟨h0, h1, h2⟩]
            go_enter Try.func29, Try.ntmps29
            go_wp2_with fail
            refine (v_Point_any _ _ _ _).mono ?_
            rintro e w1 ⟨rfl, hb1⟩
            rw [ha]
            have hd1 := row_call (row_new (w.alloc (.cells #[.int .i64 ax, .int .i64 ay, .int .i64 az] 23)) (.cells #[.int .i64 bx, .int .i64 by_, .int .i64 bz] 23)) hb1
            have hy1 := row_cell hd1 0
            have hy2 := row_cell hd1 1
            have hy3 := row_cell hd1 2
            simp at hy1 hy2 hy3
            clear hd1
            go_wp2_with fail
            refine (v_Point_any _ _ _ _).mono ?_
            rintro e w2 ⟨rfl, hb2⟩
            rw [hb]
            go_wp2_with fail
            go_ret
            have h1 := hb1.size
            exact ⟨rfl, ((((Below.refl _ _).alloc (Nat.le_refl _) _).alloc (by simp) _).trans (hb1.mono (by simp; omega))).trans (hb2.mono (by simp at h1; omega))⟩
          · have h : tmB t u = false := by simp [tmB, h0, h1]; omega
            have h3 : decide (u ≤ 3600000) = false := by simpa using h2
            rw [h]; clear h h2
            go_enter Try.func29, Try.ntmps29
            go_wp2_with fail
            refine (v_Point_any _ _ _ _).mono ?_
            rintro e w1 ⟨rfl, hb1⟩
            rw [ha]
            have hd1 := row_call (row_new (w.alloc (.cells #[.int .i64 ax, .int .i64 ay, .int .i64 az] 23)) (.cells #[.int .i64 bx, .int .i64 by_, .int .i64 bz] 23)) hb1
            have hy1 := row_cell hd1 0
            have hy2 := row_cell hd1 1
            have hy3 := row_cell hd1 2
            simp at hy1 hy2 hy3
            clear hd1
            go_wp2_with fail
            refine (v_Point_any _ _ _ _).mono ?_
            rintro e w2 ⟨rfl, hb2⟩
            rw [hb]
            go_wp2_with fail
            go_ret
            have h1 := hb1.size
            exact ⟨rfl, ((((Below.refl _ _).alloc (Nat.le_refl _) _).alloc (by simp) _).trans (hb1.mono (by simp; omega))).trans (hb2.mono (by simp at h1; omega))⟩
        · have h : tmB t u = false := by simp [tmB, h1]
          have h3 : decide (t < u) = false := by simpa using h1
          rw [h]; clear h h1
          go_enter Try.func29, Try.ntmps29
          go_wp2_with fail
          refine (v_Point_any _ _ _ _).mono ?_
          rintro e w1 ⟨rfl, hb1⟩
          rw [ha]
          have hd1 := row_call (row_new (w.alloc (.cells #[.int .i64 ax, .int .i64 ay, .int .i64 az] 23)) (.cells #[.int .i64 bx, .int .i64 by_, .int .i64 bz] 23)) hb1
          have hy1 := row_cell hd1 0
          have hy2 := row_cell hd1 1
          have hy3 := row_cell hd1 2
          simp at hy1 hy2 hy3
          clear hd1
          go_wp2_with fail
          refine (v_Point_any _ _ _ _).mono ?_
          rintro e w2 ⟨rfl, hb2⟩
          rw [hb]
          go_wp2_with fail
          go_ret
          have h1 := hb1.size
          exact ⟨rfl, ((((Below.refl _ _).alloc (Nat.le_refl _) _).alloc (by simp) _).trans (hb1.mono (by simp; omega))).trans (hb2.mono (by simp at h1; omega))⟩
      · have h : tmB t u = false := by simp [tmB, h0]
        have h3 : decide (0 ≤ t) = false := by simpa using h0
        rw [h]; clear h h0
        go_enter Try.func29, Try.ntmps29
        go_wp2_with fail
        refine (v_Point_any _ _ _ _).mono ?_
        rintro e w1 ⟨rfl, hb1⟩
        rw [ha]
        have hd1 := row_call (row_new (w.alloc (.cells #[.int .i64 ax, .int .i64 ay, .int .i64 az] 23)) (.cells #[.int .i64 bx, .int .i64 by_, .int .i64 bz] 23)) hb1
        have hy1 := row_cell hd1 0
        have hy2 := row_cell hd1 1
        have hy3 := row_cell hd1 2
        simp at hy1 hy2 hy3
        clear hd1
        go_wp2_with fail
        refine (v_Point_any _ _ _ _).mono ?_
        rintro e w2 ⟨rfl, hb2⟩
        rw [hb]
        go_wp2_with fail
        go_ret
        have h1 := hb1.size
        exact ⟨rfl, ((((Below.refl _ _).alloc (Nat.le_refl _) _).alloc (by simp) _).trans (hb1.mono (by simp; omega))).trans (hb2.mono (by simp at h1; omega))⟩

def R2 (v : Value) (n : Int) (w : World) (e : Ending) (w' : World) : Prop := e = .returned (.tuple #[v, .int .i64 n]) ∧ Below w.heap.size w w'
end Go.Proofs.Ytkajnimlfehmeaa
