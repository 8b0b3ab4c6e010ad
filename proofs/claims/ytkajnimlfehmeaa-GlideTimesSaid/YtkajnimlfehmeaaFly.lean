/-
  Contracts of glide.fly, Glide, Line and Hover, and of the reference's Leg and Fly.
-/
import Derived.Test.YtkajnimlfehmeaaGlideB
import Derived.Test.YtkajnimlfehmeaaSame
set_option linter.unusedSimpArgs false
set_option linter.unusedVariables false
namespace Go.Proofs.Ytkajnimlfehmeaa
open Go.RowKit Go.Sky

theorem ptB_small {x y z : Int} (h : ptB x y z = true) : (-2097152 ≤ x ∧ x ≤ 2097152) ∧ (-2097152 ≤ y ∧ y ≤ 2097152) ∧ (-2097152 ≤ z ∧ z ≤ 2097152) := by
  simp only [ptB, Bool.and_eq_true, inB_iff] at h
  omega

/-- What fly hands back. -/
def flyP (ax ay az bx by_ bz t u k : Int) : List Seg × Int := if vaB ax ay az bx by_ bz t u = true then ([legS ⟨ax, ay, az⟩ ⟨bx, by_, bz⟩ t u k], 0) else ([], 2)

set_option maxRecDepth 100000 in
set_option maxHeartbeats 400000 in
theorem fly_any (ax ay az bx by_ bz t u k : Int) (w : World) (hk0 : 0 ≤ k) (hk2 : k ≤ 2) :
    Calls Try.prog 21 #[.agg #[.int .i64 ax, .int .i64 ay, .int .i64 az], .agg #[.int .i64 bx, .int .i64 by_, .int .i64 bz], .int .i64 t, .int .i64 u, .int .i64 k] w
      (RPath w (flyP ax ay az bx by_ bz t u k).1 (flyP ax ay az bx by_ bz t u k).2) := by
  have hc1 := row_alloc (row_new w (.cells #[.int .i64 ax, .int .i64 ay, .int .i64 az] 23)) (.cells #[.int .i64 bx, .int .i64 by_, .int .i64 bz] 23)
  have hd1 := row_new (w.alloc (.cells #[.int .i64 ax, .int .i64 ay, .int .i64 az] 23)) (.cells #[.int .i64 bx, .int .i64 by_, .int .i64 bz] 23)
  simp only [World.size_alloc] at hd1
  have hB0 : Below w.heap.size w ((w.alloc (.cells #[.int .i64 ax, .int .i64 ay, .int .i64 az] 23)).alloc (.cells #[.int .i64 bx, .int .i64 by_, .int .i64 bz] 23)) := ((Below.refl _ _).alloc (Nat.le_refl _) _).alloc (by simp) _
  cases hv : vaB ax ay az bx by_ bz t u
  · have hf : flyP ax ay az bx by_ bz t u k = ([], 2) := by simp [flyP, hv]
    rw [hf]
    clear hf hc1 hd1
    go_enter Try.func21, Try.ntmps21
    go_wp2_with fail
    refine (g_valid_any _ _ _ _ _ _ _ _ _).mono ?_
    rintro e w1 ⟨rfl, hb⟩
    rw [hv]
    go_wp2_with fail
    go_ret2
    exact ⟨none, 0, 0, rfl, PathV.nil _ _ _, hB0.trans (hb.mono (by simp; omega))⟩
  · have hf : flyP ax ay az bx by_ bz t u k = ([legS ⟨ax, ay, az⟩ ⟨bx, by_, bz⟩ t u k], 0) := by simp [flyP, hv]
    rw [hf]
    clear hf
    obtain ⟨ha, hb⟩ : ptB ax ay az = true ∧ ptB bx by_ bz = true := by simp only [vaB, Bool.and_eq_true] at hv; exact hv.1
    obtain ⟨a1, a2, a3⟩ := ptB_small ha
    obtain ⟨b1, b2, b3⟩ := ptB_small hb
    clear ha hb
    go_enter Try.func21, Try.ntmps21
    go_wp2_with fail
    refine (g_valid_any _ _ _ _ _ _ _ _ _).mono ?_
    rintro e w1 ⟨rfl, hb⟩
    rw [hv]
    have hB1 := hB0.trans (hb.mono (by simp; omega))
    replace hc1 := row_call hc1 hb
    replace hd1 := row_call hd1 hb
    clear hb hB0
    have hx1 := row_cell hc1 0
    have hx2 := row_cell hc1 1
    have hx3 := row_cell hc1 2
    have hy1 := row_cell hd1 0
    have hy2 := row_cell hd1 1
    have hy3 := row_cell hd1 2
    simp at hx1 hx2 hx3 hy1 hy2 hy3
    clear hc1 hd1
    go_wp2_with fail
    refine (leg_any _ _ _ _ _ _ _ _ _ _ hk0 hk2 a1 a2 a3 b1 b2 b3).mono ?_
    rintro e w2 ⟨cs, rfl, hs, hb⟩
    obtain ⟨v0, v1, v2, v3, v4, v5, rfl⟩ : ∃ v0 v1 v2 v3 v4 v5, cs = #[v0, v1, v2, v3, v4, v5] := by obtain ⟨_, _, _, _, _, _, _, _, _, rfl, _⟩ := hs; exact ⟨_, _, _, _, _, _, rfl⟩
    have hB2 := hB1.trans (hb.mono hB1.size)
    go_wp2_with fail
    go_ret2
    refine ⟨_, 1, 1, rfl, ?_, hB2.alloc hB2.size _⟩
    have := PathV.one (e := 56) hs.seg hb.size (Nat.le_refl _)
    exact this.weak hB1.size (by simp)


set_option maxRecDepth 100000 in
set_option maxHeartbeats 400000 in
theorem Glide_any (ax ay az bx by_ bz t u : Int) (w : World) :
    Calls Try.prog 7 #[.agg #[.int .i64 ax, .int .i64 ay, .int .i64 az], .agg #[.int .i64 bx, .int .i64 by_, .int .i64 bz], .int .i64 t, .int .i64 u] w
      (RPath w (flyP ax ay az bx by_ bz t u 2).1 (flyP ax ay az bx by_ bz t u 2).2) := by
  have hB0 : Below w.heap.size w ((w.alloc (.cells #[.int .i64 ax, .int .i64 ay, .int .i64 az] 23)).alloc (.cells #[.int .i64 bx, .int .i64 by_, .int .i64 bz] 23)) := ((Below.refl _ _).alloc (Nat.le_refl _) _).alloc (by simp) _
  go_enter Try.func7, Try.ntmps7
  go_wp2_with fail
  refine (fly_any ax ay az bx by_ bz t u 2 _ (by decide) (by decide)).mono ?_
  rintro e w1 ⟨A, n, c, rfl, hp, hb⟩
  go_wp2_with fail
  go_ret2
  exact ⟨A, n, c, rfl, hp.weak (by simp; omega) (Nat.le_refl _), hB0.trans (hb.mono (by simp; omega))⟩

set_option maxRecDepth 100000 in
set_option maxHeartbeats 400000 in
theorem Line_any (ax ay az bx by_ bz t u : Int) (w : World) :
    Calls Try.prog 8 #[.agg #[.int .i64 ax, .int .i64 ay, .int .i64 az], .agg #[.int .i64 bx, .int .i64 by_, .int .i64 bz], .int .i64 t, .int .i64 u] w
      (RPath w (flyP ax ay az bx by_ bz t u 1).1 (flyP ax ay az bx by_ bz t u 1).2) := by
  have hB0 : Below w.heap.size w ((w.alloc (.cells #[.int .i64 ax, .int .i64 ay, .int .i64 az] 23)).alloc (.cells #[.int .i64 bx, .int .i64 by_, .int .i64 bz] 23)) := ((Below.refl _ _).alloc (Nat.le_refl _) _).alloc (by simp) _
  go_enter Try.func8, Try.ntmps8
  go_wp2_with fail
  refine (fly_any ax ay az bx by_ bz t u 1 _ (by decide) (by decide)).mono ?_
  rintro e w1 ⟨A, n, c, rfl, hp, hb⟩
  go_wp2_with fail
  go_ret2
  exact ⟨A, n, c, rfl, hp.weak (by simp; omega) (Nat.le_refl _), hB0.trans (hb.mono (by simp; omega))⟩

set_option maxRecDepth 100000 in
set_option maxHeartbeats 400000 in
theorem Hover_any (ax ay az t u : Int) (w : World) :
    Calls Try.prog 9 #[.agg #[.int .i64 ax, .int .i64 ay, .int .i64 az], .int .i64 t, .int .i64 u] w
      (RPath w (flyP ax ay az ax ay az t u 0).1 (flyP ax ay az ax ay az t u 0).2) := by
  have hB0 : Below w.heap.size w (w.alloc (.cells #[.int .i64 ax, .int .i64 ay, .int .i64 az] 23)) := (Below.refl _ _).alloc (Nat.le_refl _) _
  go_enter Try.func9, Try.ntmps9
  go_wp2_with fail
  refine (fly_any ax ay az ax ay az t u 0 _ (by decide) (by decide)).mono ?_
  rintro e w1 ⟨A, n, c, rfl, hp, hb⟩
  go_wp2_with fail
  go_ret2
  exact ⟨A, n, c, rfl, hp.weak (by simp) (Nat.le_refl _), hB0.trans (hb.mono (by simp))⟩

/-! ### The reference. -/
set_option maxRecDepth 100000 in
set_option maxHeartbeats 400000 in
theorem r15_terms_any (a b k : Int) (w : World) (ha : -2097152 ≤ a ∧ a ≤ 2097152) (hb : -2097152 ≤ b ∧ b ≤ 2097152) (hk0 : 0 ≤ k) (hk2 : k ≤ 2) :
    Calls Try.prog 41 #[.int .i64 a, .int .i64 b, .int .i64 k] w (RInts w (termsL a b (rowL (2 - k)))) := by
  by_cases hab : a = b
  · subst hab
    have e0 : (a - a == 0) = true := by simp
    go_enter Try.func41, Try.ntmps41
    go_wp2_with fail
    go_ret
    refine ⟨_, _, _, rfl, ?_, (Below.refl _ _).alloc (Nat.le_refl _) _⟩
    simpa [iv, termsL] using Ow.new w 3 1 #[.int .i64 a] 1 rfl (by decide) (Nat.le_refl _)
  · have hd : b - a ≠ 0 := by omega
    have e0 : (b - a == 0) = false := by simpa using hd
    have e0' : (a == b) = false := by simpa using hab
    have hd2 : -4194304 ≤ b - a ∧ b - a ≤ 4194304 := by omega
    have hk : k = 0 ∨ k = 1 ∨ k = 2 := by omega
    rcases hk with rfl | rfl | rfl
    · go_enter Try.func41, Try.ntmps41
      go_wp2_with fail
      go_ret
      refine ⟨_, _, _, rfl, ?_, (Below.refl _ _).alloc (Nat.le_refl _) _⟩
      have := Ow.new w 3 1 #[.int .i64 a, .int .i64 0, .int .i64 0, .int .i64 (10 * (b - a)), .int .i64 (-15 * (b - a)), .int .i64 (6 * (b - a))] 6 rfl (by decide) (Nat.le_refl _)
      simpa [iv, termsL, rowL, hab] using this
    · go_enter Try.func41, Try.ntmps41
      go_wp2_with fail
      go_ret
      refine ⟨_, _, _, rfl, ?_, (Below.refl _ _).alloc (Nat.le_refl _) _⟩
      have := Ow.new w 3 1 #[.int .i64 a, .int .i64 (b - a)] 2 rfl (by decide) (Nat.le_refl _)
      simpa [iv, termsL, rowL, hab] using this
    · go_enter Try.func41, Try.ntmps41
      go_wp2_with fail
      go_ret
      refine ⟨_, _, _, rfl, ?_, (Below.refl _ _).alloc (Nat.le_refl _) _⟩
      simpa [iv, termsL, rowL, hab] using Ow.new w 3 1 #[.int .i64 a] 1 rfl (by decide) (Nat.le_refl _)


set_option maxRecDepth 100000 in
set_option maxHeartbeats 400000 in
theorem r15_Leg_any (ax ay az bx by_ bz t u k : Int) (w : World) (hk0 : 0 ≤ k) (hk2 : k ≤ 2)
   (ha1 : -2097152 ≤ ax ∧ ax ≤ 2097152) (ha2 : -2097152 ≤ ay ∧ ay ≤ 2097152) (ha3 : -2097152 ≤ az ∧ az ≤ 2097152)
   (hb1 : -2097152 ≤ bx ∧ bx ≤ 2097152) (hb2 : -2097152 ≤ by_ ∧ by_ ≤ 2097152) (hb3 : -2097152 ≤ bz ∧ bz ≤ 2097152) :
    Calls Try.prog 24 #[.agg #[.int .i64 ax, .int .i64 ay, .int .i64 az], .agg #[.int .i64 bx, .int .i64 by_, .int .i64 bz], .int .i64 t, .int .i64 u, .int .i64 k] w (RSeg w (legS ⟨ax, ay, az⟩ ⟨bx, by_, bz⟩ t u (2 - k))) := by
  have hc1 := row_alloc (row_alloc (row_new w (.cells #[.int .i64 ax, .int .i64 ay, .int .i64 az] 23)) (.cells #[.int .i64 bx, .int .i64 by_, .int .i64 bz] 23)) (.cells #[.int .i64 0, .int .i64 0, .int .i64 0, .slice none 0 0, .slice none 0 0, .slice none 0 0] 56)
  have hd1 := row_alloc (row_new (w.alloc (.cells #[.int .i64 ax, .int .i64 ay, .int .i64 az] 23)) (.cells #[.int .i64 bx, .int .i64 by_, .int .i64 bz] 23)) (.cells #[.int .i64 0, .int .i64 0, .int .i64 0, .slice none 0 0, .slice none 0 0, .slice none 0 0] 56)
  have hR := row_new ((w.alloc (.cells #[.int .i64 ax, .int .i64 ay, .int .i64 az] 23)).alloc (.cells #[.int .i64 bx, .int .i64 by_, .int .i64 bz] 23)) (.cells #[.int .i64 0, .int .i64 0, .int .i64 0, .slice none 0 0, .slice none 0 0, .slice none 0 0] 56)
  simp only [World.size_alloc] at hd1 hR
  have hB1 : Below w.heap.size w (((w.alloc (.cells #[.int .i64 ax, .int .i64 ay, .int .i64 az] 23)).alloc (.cells #[.int .i64 bx, .int .i64 by_, .int .i64 bz] 23)).alloc (.cells #[.int .i64 0, .int .i64 0, .int .i64 0, .slice none 0 0, .slice none 0 0, .slice none 0 0] 56)) :=
    (((Below.refl _ _).alloc (Nat.le_refl _) _).alloc (by simp) _).alloc (by simp; omega) _
  have hs : w.heap.size + 1 + 1 + 1 ≤ (((w.alloc (.cells #[.int .i64 ax, .int .i64 ay, .int .i64 az] 23)).alloc (.cells #[.int .i64 bx, .int .i64 by_, .int .i64 bz] 23)).alloc (.cells #[.int .i64 0, .int .i64 0, .int .i64 0, .slice none 0 0, .slice none 0 0, .slice none 0 0] 56)).heap.size := by simp
  go_enter Try.func24, Try.ntmps24
  go_wp2_with fail
  generalize ((w.alloc (.cells #[.int .i64 ax, .int .i64 ay, .int .i64 az] 23)).alloc (.cells #[.int .i64 bx, .int .i64 by_, .int .i64 bz] 23)).alloc (.cells #[.int .i64 0, .int .i64 0, .int .i64 0, .slice none 0 0, .slice none 0 0, .slice none 0 0] 56) = w1 at hc1 hd1 hR hB1 hs ⊢
  have hx1 := row_cell hc1 0
  have hx2 := row_cell hc1 1
  have hx3 := row_cell hc1 2
  have hy1 := row_cell hd1 0
  have hy2 := row_cell hd1 1
  have hy3 := row_cell hd1 2
  simp only [List.getElem?_toArray, List.getElem?_cons_zero, List.getElem?_cons_succ] at hx1 hx2 hx3 hy1 hy2 hy3
  clear hc1 hd1
  have hne1 : w.heap.size ≠ w.heap.size + 1 + 1 := by omega
  have hne2 : w.heap.size + 1 ≠ w.heap.size + 1 + 1 := by omega
  have HR : Hid (w1.drew.heap[w.heap.size + 1 + 1]? = _) := hR; clear hR
  have hG := Gr.drew0 (w.heap.size + 1 + 1) w1
  go_region_held3 (fun w' => (w'.cell? ⟨w.heap.size, 0, none⟩ = some (.int .i64 ax) ∧ w'.cell? ⟨w.heap.size, 1, none⟩ = some (.int .i64 ay) ∧ w'.cell? ⟨w.heap.size, 2, none⟩ = some (.int .i64 az) ∧ w'.cell? ⟨w.heap.size + 1, 0, none⟩ = some (.int .i64 bx) ∧ w'.cell? ⟨w.heap.size + 1, 1, none⟩ = some (.int .i64 by_) ∧ w'.cell? ⟨w.heap.size + 1, 2, none⟩ = some (.int .i64 bz) ∧ Gr (w.heap.size + 1 + 1) w1 w'))
    (first | with_reducible exact ⟨hG.cell hne1 hx1, hG.cell hne1 hx2, hG.cell hne1 hx3, hG.cell hne2 hy1, hG.cell hne2 hy2, hG.cell hne2 hy3, hG⟩ | with_reducible exact ⟨(Gr.set6 hG).cell hne1 hx1, (Gr.set6 hG).cell hne1 hx2, (Gr.set6 hG).cell hne1 hx3, (Gr.set6 hG).cell hne2 hy1, (Gr.set6 hG).cell hne2 hy2, (Gr.set6 hG).cell hne2 hy3, Gr.set6 hG⟩)
    (first
     | (go_at_call_of 41 (Value.int .i64 az); refine (r15_terms_any _ _ _ _ ?_ ?_ hk0 hk2).mono ?_; assumption; assumption; (rintro e w2 ⟨A3, n3, c3, rfl, hI3, hb3'⟩); replace hG := hG.call hb3'; replace HR := hide (row_call HR.out hb3'); obtain ⟨⟨q0, q1, q2, q3, q4, q5⟩, qf⟩ := row6 HR.out)
     | (go_at_call_of 41 (Value.int .i64 ay); refine (r15_terms_any _ _ _ _ ?_ ?_ hk0 hk2).mono ?_; assumption; assumption; (rintro e w2 ⟨A2, n2, c2, rfl, hI2, hb2'⟩); replace hG := hG.call hb2'; replace HR := hide (row_call HR.out hb2'))
     | (go_at_call_of 41 (Value.int .i64 ax); refine (r15_terms_any _ _ _ _ ?_ ?_ hk0 hk2).mono ?_; assumption; assumption; (rintro e w2 ⟨A1, n1, c1, rfl, hI1, hb1'⟩); replace hG := hG.call hb1'; replace HR := hide (row_call HR.out hb1')))
  go_wp2_with fail
  refine bodyPost_ret (results_row rfl rfl (row_set6 HR.out) Try.underlying56 rfl (by kernel_rfl)) rfl ?_
  replace hG := Gr.set6 (u0 := .int .i64 t) (u1 := .int .i64 u) (u2 := .int .i64 1) (u3 := .slice A1 n1 c1) (u4 := .slice A2 n2 c2) (u5 := .slice A3 n3 c3) hG
  refine ⟨_, rfl, ⟨A1, n1, c1, A2, n2, c2, A3, n3, c3, rfl, ?_, ?_, ?_⟩, hB1.trans (hG.below (by omega) (by omega))⟩
  · have h1 := hb2'.size
    have h2 := hb3'.size
    exact Ow.set6 ((hI1.below hb2' (Nat.le_refl _)).below hb3' (Nat.le_refl _)) (by simp; omega) (by simp; omega)
  · have h1 := hI2
    have h2 := hb3'.size
    have h3 := hb2'.size
    have h4 := hb1'.size
    simp only [World.size_drew] at h4
    exact Ow.set6 (hI2.below hb3' (Nat.le_refl _)) (by omega) (by omega)
  · have h3 := hb2'.size
    have h4 := hb1'.size
    simp only [World.size_drew] at h4
    exact Ow.set6 hI3 (by omega) (by omega)
end Go.Proofs.Ytkajnimlfehmeaa
