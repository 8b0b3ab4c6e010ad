import Derived.Test.YtkajnimlfehmeaaGlideA
import Derived.Deep.RegionHeld3
set_option linter.unusedSimpArgs false
set_option linter.unusedVariables false
namespace Go.Proofs.Ytkajnimlfehmeaa
open Go.RowKit Go.Sky

def legS (a b : V3) (t u : Int) (k : Int) : Seg := { frm := t, til := u, over := 1, X := termsL a.x b.x (rowL k), Y := termsL a.y b.y (rowL k), Z := termsL a.z b.z (rowL k) }

theorem rowL_le (k : Int) : ∀ f ∈ rowL k, -100 ≤ f ∧ f ≤ 100 := by
  intro f hf
  unfold rowL at hf
  split at hf
  · simp at hf; omega
  · split at hf
    · simp at hf; omega
    · simp at hf
theorem rowL_len (k : Int) : (rowL k).length ≤ 16 := by
  unfold rowL
  split
  · simp
  · split <;> simp

set_option maxRecDepth 100000 in
set_option maxHeartbeats 400000 in
theorem leg_any (ax ay az bx by_ bz t u k : Int) (w : World) (hk0 : 0 ≤ k) (hk2 : k ≤ 2)
   (ha1 : -2097152 ≤ ax ∧ ax ≤ 2097152) (ha2 : -2097152 ≤ ay ∧ ay ≤ 2097152) (ha3 : -2097152 ≤ az ∧ az ≤ 2097152)
   (hb1 : -2097152 ≤ bx ∧ bx ≤ 2097152) (hb2 : -2097152 ≤ by_ ∧ by_ ≤ 2097152) (hb3 : -2097152 ≤ bz ∧ bz ≤ 2097152) :
    Calls Try.prog 39 #[.agg #[.int .i64 ax, .int .i64 ay, .int .i64 az], .agg #[.int .i64 bx, .int .i64 by_, .int .i64 bz], .int .i64 t, .int .i64 u, .int .i64 k] w (RSeg w (legS ⟨ax, ay, az⟩ ⟨bx, by_, bz⟩ t u k)) := by
  have hr := rowL_le k
  have hn := rowL_len k
  go_enter Try.func39, Try.ntmps39
  go_wp2_with fail
  have hc1 := row_alloc (row_alloc (row_new w (.cells #[.int .i64 ax, .int .i64 ay, .int .i64 az] 23)) (.cells #[.int .i64 bx, .int .i64 by_, .int .i64 bz] 23)) (.cells #[.int .i64 0, .int .i64 0, .int .i64 0, .slice none 0 0, .slice none 0 0, .slice none 0 0] 56)
  have hd1 := row_alloc (row_new (w.alloc (.cells #[.int .i64 ax, .int .i64 ay, .int .i64 az] 23)) (.cells #[.int .i64 bx, .int .i64 by_, .int .i64 bz] 23)) (.cells #[.int .i64 0, .int .i64 0, .int .i64 0, .slice none 0 0, .slice none 0 0, .slice none 0 0] 56)
  have hR := row_new ((w.alloc (.cells #[.int .i64 ax, .int .i64 ay, .int .i64 az] 23)).alloc (.cells #[.int .i64 bx, .int .i64 by_, .int .i64 bz] 23)) (.cells #[.int .i64 0, .int .i64 0, .int .i64 0, .slice none 0 0, .slice none 0 0, .slice none 0 0] 56)
  simp only [World.size_alloc] at hd1 hR
  have hB0 : Below w.heap.size w (((w.alloc (.cells #[.int .i64 ax, .int .i64 ay, .int .i64 az] 23)).alloc (.cells #[.int .i64 bx, .int .i64 by_, .int .i64 bz] 23)).alloc (.cells #[.int .i64 0, .int .i64 0, .int .i64 0, .slice none 0 0, .slice none 0 0, .slice none 0 0] 56)) :=
    (((Below.refl _ _).alloc (Nat.le_refl _) _).alloc (by simp) _).alloc (by simp; omega) _
  refine (rows_any _).mono ?_
  rintro e w1 ⟨B, rfl, hrow, hb⟩
  obtain ⟨A, n, c, hlk, hI⟩ := hrow k hk0 hk2
  replace hc1 := row_call hc1 hb
  replace hd1 := row_call hd1 hb
  replace hR := row_call hR hb
  have hB1 := hB0.trans (hb.mono (by simp; omega))
  have hs := hb.size
  simp only [World.size_alloc] at hs hI
  clear hrow hb hB0
  rw [hI.len] at hn
  have hx1 := row_cell hc1 0
  have hx2 := row_cell hc1 1
  have hx3 := row_cell hc1 2
  have hy1 := row_cell hd1 0
  have hy2 := row_cell hd1 1
  have hy3 := row_cell hd1 2
  simp only [List.getElem?_toArray, List.getElem?_cons_zero, List.getElem?_cons_succ] at hx1 hx2 hx3 hy1 hy2 hy3
  clear hc1 hd1
  have hne1 : w.heap.size ≠ w.heap.size + 1 + 1 := by omega
  have hne2 : w.heap.size + 1 ≠ w.heap.size + 1 + 1 := by omega
  go_wp2_with fail
  clear hlk
  have HR : Hid (w1.drew.heap[w.heap.size + 1 + 1]? = _) := hR; clear hR
  have hG := Gr.drew0 (w.heap.size + 1 + 1) w1
  go_region_held3 (fun w' => (w'.cell? ⟨w.heap.size, 0, none⟩ = some (.int .i64 ax) ∧ w'.cell? ⟨w.heap.size, 1, none⟩ = some (.int .i64 ay) ∧ w'.cell? ⟨w.heap.size, 2, none⟩ = some (.int .i64 az) ∧ w'.cell? ⟨w.heap.size + 1, 0, none⟩ = some (.int .i64 bx) ∧ w'.cell? ⟨w.heap.size + 1, 1, none⟩ = some (.int .i64 by_) ∧ w'.cell? ⟨w.heap.size + 1, 2, none⟩ = some (.int .i64 bz) ∧ Gr (w.heap.size + 1 + 1) w1 w'))
    (first | with_reducible exact ⟨hG.cell hne1 hx1, hG.cell hne1 hx2, hG.cell hne1 hx3, hG.cell hne2 hy1, hG.cell hne2 hy2, hG.cell hne2 hy3, hG⟩ | with_reducible exact ⟨(Gr.set6 hG).cell hne1 hx1, (Gr.set6 hG).cell hne1 hx2, (Gr.set6 hG).cell hne1 hx3, (Gr.set6 hG).cell hne2 hy1, (Gr.set6 hG).cell hne2 hy2, (Gr.set6 hG).cell hne2 hy3, Gr.set6 hG⟩)
    (first
     | (go_at_call_of 56 (Value.int .i64 az); have hIc := Gr.ints hG hI (Or.inl (Nat.lt_succ_self _)) (Nat.le_refl _); refine (terms_any _ _ A n c (rowL k) _ _ hIc ?_ ?_ hn hr).mono ?_; assumption; assumption; (rintro e w2 ⟨A3, n3, c3, rfl, hI3, hb3'⟩); replace hG := hG.call hb3'; replace HR := hide (row_call HR.out hb3'); obtain ⟨⟨q0, q1, q2, q3, q4, q5⟩, qf⟩ := row6 HR.out)
     | (go_at_call_of 56 (Value.int .i64 ay); have hIc := Gr.ints hG hI (Or.inl (Nat.lt_succ_self _)) (Nat.le_refl _); refine (terms_any _ _ A n c (rowL k) _ _ hIc ?_ ?_ hn hr).mono ?_; assumption; assumption; (rintro e w2 ⟨A2, n2, c2, rfl, hI2, hb2'⟩); replace hG := hG.call hb2'; replace HR := hide (row_call HR.out hb2'))
     | (go_at_call_of 56 (Value.int .i64 ax); have hIc := Gr.ints hG hI (Or.inl (Nat.lt_succ_self _)) (Nat.le_refl _); refine (terms_any _ _ A n c (rowL k) _ _ hIc ?_ ?_ hn hr).mono ?_; assumption; assumption; (rintro e w2 ⟨A1, n1, c1, rfl, hI1, hb1'⟩); replace hG := hG.call hb1'; replace HR := hide (row_call HR.out hb1')))
  go_wp2_with fail
  refine bodyPost_ret (results_row rfl rfl (row_set6 HR.out) Try.underlying56 rfl (by kernel_rfl)) rfl ?_
  replace hG := Gr.set6 (u0 := .int .i64 t) (u1 := .int .i64 u) (u2 := .int .i64 1) (u3 := .slice A1 n1 c1) (u4 := .slice A2 n2 c2) (u5 := .slice A3 n3 c3) hG
  refine ⟨_, rfl, ⟨A1, n1, c1, A2, n2, c2, A3, n3, c3, rfl, ?_, ?_, ?_⟩, hB1.trans (hG.below (by omega) (by omega))⟩
  · have h1 := hb2'.size
    have h2 := hb3'.size
    exact Ow.set6 ((hI1.below hb2' (Nat.le_refl _)).below hb3' (Nat.le_refl _)) (by simp; omega) (by simp; omega)
  · have h1 := hI2
    have h2 := hb3'.size
    have h3 := hb2'.size
    have h4 := hb1'.size
    simp only [World.size_drew] at h4
    exact Ow.set6 (hI2.below hb3' (Nat.le_refl _)) (by omega) (by omega)
  · have h3 := hb2'.size
    have h4 := hb1'.size
    simp only [World.size_drew] at h4
    exact Ow.set6 hI3 (by omega) (by omega)
end Go.Proofs.Ytkajnimlfehmeaa
