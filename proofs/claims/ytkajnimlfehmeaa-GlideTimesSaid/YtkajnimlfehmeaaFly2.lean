/-
  Contract of the reference's Fly.
-/
import Derived.Test.YtkajnimlfehmeaaFly
set_option linter.unusedSimpArgs false
set_option linter.unusedVariables false
namespace Go.Proofs.Ytkajnimlfehmeaa
open Go.RowKit Go.Sky

set_option maxRecDepth 100000 in
set_option maxHeartbeats 400000 in
theorem r15_Fly_any (ax ay az bx by_ bz t u k : Int) (w : World) (hk0 : 0 ≤ k) (hk2 : k ≤ 2) :
    Calls Try.prog 10 #[.agg #[.int .i64 ax, .int .i64 ay, .int .i64 az], .agg #[.int .i64 bx, .int .i64 by_, .int .i64 bz], .int .i64 t, .int .i64 u, .int .i64 k] w
      (RPath w (flyP ax ay az bx by_ bz t u (2 - k)).1 (flyP ax ay az bx by_ bz t u (2 - k)).2) := by
  have hc1 := row_alloc (row_new w (.cells #[.int .i64 ax, .int .i64 ay, .int .i64 az] 23)) (.cells #[.int .i64 bx, .int .i64 by_, .int .i64 bz] 23)
  have hd1 := row_new (w.alloc (.cells #[.int .i64 ax, .int .i64 ay, .int .i64 az] 23)) (.cells #[.int .i64 bx, .int .i64 by_, .int .i64 bz] 23)
  simp only [World.size_alloc] at hd1
  have hB0 : Below w.heap.size w ((w.alloc (.cells #[.int .i64 ax, .int .i64 ay, .int .i64 az] 23)).alloc (.cells #[.int .i64 bx, .int .i64 by_, .int .i64 bz] 23)) := ((Below.refl _ _).alloc (Nat.le_refl _) _).alloc (by simp) _
  cases ha : ptB ax ay az
  · have hf : flyP ax ay az bx by_ bz t u (2 - k) = ([], 2) := by simp [flyP, vaB, ha]
    rw [hf]
    clear hf hc1 hd1
    go_enter Try.func10, Try.ntmps10
    go_wp2_with fail
    refine (r15_Point_any _ _ _ _).mono ?_
    rintro e w1 ⟨rfl, hb⟩
    rw [ha]
    go_wp2_with fail
    go_ret2
    exact ⟨none, 0, 0, rfl, PathV.nil _ _ _, hB0.trans (hb.mono (by simp; omega))⟩
  · cases hb : ptB bx by_ bz
    · have hf : flyP ax ay az bx by_ bz t u (2 - k) = ([], 2) := by simp [flyP, vaB, hb]
      rw [hf]
      clear hf hc1
      go_enter Try.func10, Try.ntmps10
      go_wp2_with fail
      refine (r15_Point_any _ _ _ _).mono ?_
      rintro e w1 ⟨rfl, hb1⟩
      rw [ha]
      have hB1 := hB0.trans (hb1.mono (by simp; omega))
      replace hd1 := row_call hd1 hb1
      clear hb1 hB0
      have hy1 := row_cell hd1 0
      have hy2 := row_cell hd1 1
      have hy3 := row_cell hd1 2
      simp at hy1 hy2 hy3
      clear hd1
      go_wp2_with fail
      refine (r15_Point_any _ _ _ _).mono ?_
      rintro e w2 ⟨rfl, hb2⟩
      rw [hb]
      go_wp2_with fail
      go_ret2
      exact ⟨none, 0, 0, rfl, PathV.nil _ _ _, hB1.trans (hb2.mono hB1.size)⟩
    · cases ht : tmB t u
      · have hf : flyP ax ay az bx by_ bz t u (2 - k) = ([], 2) := by simp [flyP, vaB, ht]
        rw [hf]
        clear hf hc1
        go_enter Try.func10, Try.ntmps10
        go_wp2_with fail
        refine (r15_Point_any _ _ _ _).mono ?_
        rintro e w1 ⟨rfl, hb1⟩
        rw [ha]
        have hB1 := hB0.trans (hb1.mono (by simp; omega))
        replace hd1 := row_call hd1 hb1
        clear hb1 hB0
        have hy1 := row_cell hd1 0
        have hy2 := row_cell hd1 1
        have hy3 := row_cell hd1 2
        simp at hy1 hy2 hy3
        clear hd1
        go_wp2_with fail
        refine (r15_Point_any _ _ _ _).mono ?_
        rintro e w2 ⟨rfl, hb2⟩
        rw [hb]
        go_wp2_with fail
        refine (r15_times_any _ _ _).mono ?_
        rintro e w3 ⟨rfl, rfl⟩
        rw [ht]
        go_wp2_with fail
        go_ret2
        exact ⟨none, 0, 0, rfl, PathV.nil _ _ _, hB1.trans (hb2.mono hB1.size)⟩
      · have hf : flyP ax ay az bx by_ bz t u (2 - k) = ([legS ⟨ax, ay, az⟩ ⟨bx, by_, bz⟩ t u (2 - k)], 0) := by simp [flyP, vaB, ha, hb, ht]
        rw [hf]
        clear hf
        obtain ⟨a1, a2, a3⟩ := ptB_small ha
        obtain ⟨b1, b2, b3⟩ := ptB_small hb
        go_enter Try.func10, Try.ntmps10
        go_wp2_with fail
        refine (r15_Point_any _ _ _ _).mono ?_
        rintro e w1 ⟨rfl, hb1⟩
        rw [ha]
        have hB1 := hB0.trans (hb1.mono (by simp; omega))
        replace hc1 := row_call hc1 hb1
        replace hd1 := row_call hd1 hb1
        clear hb1 hB0
        have hy1 := row_cell hd1 0
        have hy2 := row_cell hd1 1
        have hy3 := row_cell hd1 2
        simp at hy1 hy2 hy3
        go_wp2_with fail
        refine (r15_Point_any _ _ _ _).mono ?_
        rintro e w2 ⟨rfl, hb2⟩
        rw [hb]
        have hB2 := hB1.trans (hb2.mono hB1.size)
        replace hc1 := row_call hc1 hb2
        replace hd1 := row_call hd1 hb2
        clear hy1 hy2 hy3 hb2
        have hx1 := row_cell hc1 0
        have hx2 := row_cell hc1 1
        have hx3 := row_cell hc1 2
        have hy1 := row_cell hd1 0
        have hy2 := row_cell hd1 1
        have hy3 := row_cell hd1 2
        simp at hx1 hx2 hx3 hy1 hy2 hy3
        clear hc1 hd1
        go_wp2_with fail
        refine (r15_times_any _ _ _).mono ?_
        rintro e w3 ⟨rfl, rfl⟩
        rw [ht]
        go_wp2_with fail
        refine (r15_Leg_any _ _ _ _ _ _ _ _ _ _ hk0 hk2 a1 a2 a3 b1 b2 b3).mono ?_
        rintro e w4 ⟨cs, rfl, hs, hb4⟩
        obtain ⟨v0, v1, v2, v3, v4, v5, rfl⟩ : ∃ v0 v1 v2 v3 v4 v5, cs = #[v0, v1, v2, v3, v4, v5] := by obtain ⟨_, _, _, _, _, _, _, _, _, rfl, _⟩ := hs; exact ⟨_, _, _, _, _, _, rfl⟩
        have hB4 := hB2.trans (hb4.mono hB2.size)
        go_wp2_with fail
        go_ret2
        refine ⟨_, 1, 1, rfl, ?_, hB4.alloc hB4.size _⟩
        have := PathV.one (e := 56) hs.seg hb4.size (Nat.le_refl _)
        exact this.weak hB2.size (by simp)

end Go.Proofs.Ytkajnimlfehmeaa
