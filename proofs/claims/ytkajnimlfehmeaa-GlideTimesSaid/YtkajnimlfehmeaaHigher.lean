/-
  What an arc hands back; the reference's Higher.
-/
import Derived.Test.YtkajnimlfehmeaaTourRef
set_option linter.unusedSimpArgs false
set_option linter.unusedVariables false
namespace Go.Proofs.Ytkajnimlfehmeaa
open Go.RowKit Go.Sky
attribute [local go_sem] Oper.semAt_some

def arcB (ax ay az bx by_ bz rise t u : Int) : Bool := decide (4 * ((u - t).tdiv 4) = u - t) && (decide (-2097152 ≤ rise) && decide (rise ≤ 2097152)) && (ptB ax ay (az + rise) && ptB bx by_ (bz + rise))
/-- What Arc hands back. -/
def arcP (ax ay az bx by_ bz rise t u : Int) : List Seg × Int :=
  if vaB ax ay az bx by_ bz t u = false then ([], 2) else if arcB ax ay az bx by_ bz rise t u = false then ([], 3) else
    (legsL [⟨ax, ay, az⟩, ⟨ax, ay, az + rise⟩, ⟨bx, by_, bz + rise⟩, ⟨bx, by_, bz⟩] [t, t + (u - t).tdiv 4, u - (u - t).tdiv 4, u], 0)

/-- A point's height turned. -/
def RHi (w : World) (x y z r : Int) (e : Ending) (w' : World) : Prop := ∃ zz b, e = .returned (.tuple #[.agg #[.int .i64 x, .int .i64 y, .int .i64 zz], .bool b]) ∧ Below w.heap.size w w' ∧
  b = (decide (-2097152 ≤ r) && decide (r ≤ 2097152) && ptB x y (z + r)) ∧ (b = true → zz = z + r)

set_option maxRecDepth 100000 in
set_option maxHeartbeats 400000 in
theorem r15_Higher_any (x y z r : Int) (w : World) (hz : -2097152 ≤ z ∧ z ≤ 2097152) :
    Calls Try.prog 30 #[.agg #[.int .i64 x, .int .i64 y, .int .i64 z], .int .i64 r] w (RHi w x y z r) := by
  refine (callsIn_wide (n := 10)).1 ?_
  refine callsIn_of_wp Try.func30 rfl trivial ?_ rfl
  simp only [Try.ntmps30, List.size_toArray, List.length_cons, List.length_nil, Nat.reduceAdd, Nat.reduceSub, Array.replicate_succ, Array.replicate_zero, List.push_toArray, List.append_toArray, List.nil_append, List.cons_append]
  have hc1 := row_alloc (row_new w (.cells #[.int .i64 x, .int .i64 y, .int .i64 z] 23)) (.cells #[.int .i64 0, .int .i64 0, .int .i64 0] 23)
  have hR := row_new (w.alloc (.cells #[.int .i64 x, .int .i64 y, .int .i64 z] 23)) (.cells #[.int .i64 0, .int .i64 0, .int .i64 0] 23)
  simp only [World.size_alloc] at hR
  have hB1 : Below w.heap.size w ((w.alloc (.cells #[.int .i64 x, .int .i64 y, .int .i64 z] 23)).alloc (.cells #[.int .i64 0, .int .i64 0, .int .i64 0] 23)) :=
    ((Below.refl _ _).alloc (Nat.le_refl _) _).alloc (by simp) _
  by_cases h1 : -2097152 ≤ r
  · by_cases h2 : r ≤ 2097152
    · have h2' : decide (2097152 < r) = false := by simp; omega
      have h1' : decide (r < -2097152) = false := by simp; omega
      have hzr : IntKind.i64.wrap (z + r) = z + r := IntWalk.i64_in _ (by omega)
      gi_wp2_with fail
      have hc2 := row_alloc (row_new w (.cells #[.int .i64 x, .int .i64 y, .int .i64 (z + r)] 23)) (.cells #[.int .i64 0, .int .i64 0, .int .i64 0] 23)
      have hR2 := row_new (w.alloc (.cells #[.int .i64 x, .int .i64 y, .int .i64 (z + r)] 23)) (.cells #[.int .i64 0, .int .i64 0, .int .i64 0] 23)
      simp only [World.size_alloc] at hR2
      have hB2 : Below w.heap.size w ((w.alloc (.cells #[.int .i64 x, .int .i64 y, .int .i64 (z + r)] 23)).alloc (.cells #[.int .i64 0, .int .i64 0, .int .i64 0] 23)) :=
        ((Below.refl _ _).alloc (Nat.le_refl _) _).alloc (by simp) _
      clear hc1 hR hB1
      generalize (w.alloc (.cells #[.int .i64 x, .int .i64 y, .int .i64 (z + r)] 23)).alloc (.cells #[.int .i64 0, .int .i64 0, .int .i64 0] 23) = w1 at hc2 hR2 hB2 ⊢
      have hsz := hB2.size
      have hS : w1.drew.cell? ⟨w.heap.size, 0, none⟩ = some (.int .i64 x) ∧ w1.drew.cell? ⟨w.heap.size, 1, none⟩ = some (.int .i64 y) ∧ w1.drew.cell? ⟨w.heap.size, 2, none⟩ = some (.int .i64 (z + r)) := ⟨row_cell hc2 0, row_cell hc2 1, row_cell hc2 2⟩
      refine region_anyS (S := fun W => W.cell? ⟨w.heap.size, 0, none⟩ = some (.int .i64 x) ∧ W.cell? ⟨w.heap.size, 1, none⟩ = some (.int .i64 y) ∧ W.cell? ⟨w.heap.size, 2, none⟩ = some (.int .i64 (z + r))) (by kernel_rfl) ?_
      simp only [List.size_toArray, List.length_cons, List.length_nil, Nat.reduceAdd, Array.replicate_succ, Array.replicate_zero, List.push_toArray, List.nil_append, List.cons_append]
      refine anyS_take2 (i := 0) (v := ?_) (calm_wide _) rfl (by kernel_rfl) (by kernel_rfl) (by kernel_rfl) (fun _ _ _ hh => hh) hS (fun _ => by kernel_rfl) (by kernel_rfl) ?_ ?_
      rotate_left
      · intro w ⟨s1, s2, s3⟩
        go_simp
        try rfl
      simp only [Act.put, List.setIfInBounds_toArray, List.set_cons_zero, List.set_cons_succ]
      refine anyS_take2 (i := 1) (v := ?_) (calm_wide _) rfl (by kernel_rfl) (by kernel_rfl) (by kernel_rfl) (fun _ _ _ hh => hh) hS (fun _ => by kernel_rfl) (by kernel_rfl) ?_ ?_
      rotate_left
      · intro w ⟨s1, s2, s3⟩
        go_simp
        try rfl
      simp only [Act.put, List.setIfInBounds_toArray, List.set_cons_zero, List.set_cons_succ]
      refine anyS_one2 (i := 2) rfl (by kernel_rfl) (by kernel_rfl) (fun K hK => ?_)
      go_simp
      refine ⟨trivial, callsIn_wide.2 ((r15_Point_any _ _ _ _).mono ?_)⟩
      rintro e w2 ⟨rfl, hb⟩
      have hS2 : _ ∧ _ ∧ _ := ⟨keep_cell hb hS.1, keep_cell hb hS.2.1, keep_cell hb hS.2.2⟩
      replace hR2 := row_call (show w1.drew.heap[w.heap.size + 1]? = _ from hR2) hb
      have hB3 : Below w.heap.size w w2 := hB2.drew.trans (hb.mono hsz)
      refine hK _ _ hS2 ?_
      replace hS := hS2
      clear hK K hS2 hb hc2 hB2
      refine anyS_one2 (i := 3) rfl (by kernel_rfl) (by kernel_rfl) (fun K hK => ?_)
      have q0 := row_cell hR2 0
      have q1 := row_cell hR2 1
      have q2 := row_cell hR2 2
      have qf := row_free hR2
      simp at q0 q1 q2
      go_simp
      have hR3 := row_set (row_set (row_set hR2 0 (.int .i64 x)) 1 (.int .i64 y)) 2 (.int .i64 (z + r))
      have hb3 : Below (w.heap.size + 1) w2 (((w2.setCell ⟨w.heap.size + 1, 0, none⟩ (.int .i64 x)).setCell ⟨w.heap.size + 1, 1, none⟩ (.int .i64 y)).setCell ⟨w.heap.size + 1, 2, none⟩ (.int .i64 (z + r))) :=
        (((Below.refl _ _).setCell (by simp) _).setCell (by simp) _).setCell (by simp) _
      have hS3 : _ ∧ _ ∧ _ := ⟨(hb3.cell (by simp)).trans hS.1, (hb3.cell (by simp)).trans hS.2.1, (hb3.cell (by simp)).trans hS.2.2⟩
      have hB4 := hB3.trans (hb3.mono (Nat.le_succ _))
      refine hK _ _ hS3 ?_
      clear hK K q0 q1 q2 qf
      generalize ((w2.setCell ⟨w.heap.size + 1, 0, none⟩ (.int .i64 x)).setCell ⟨w.heap.size + 1, 1, none⟩ (.int .i64 y)).setCell ⟨w.heap.size + 1, 2, none⟩ (.int .i64 (z + r)) = w3 at hR3 hS3 hB4 ⊢
      refine anyS_one2 (i := 4) rfl (by kernel_rfl) (by kernel_rfl) (fun K hK => ?_)
      go_simp
      refine hK _ _ hS3 ?_
      clear hK K
      refine anyS_done (by kernel_rfl) ?_ _
      gi_wp2_with fail
      refine bodyPost_ret (results_row_tmp rfl rfl hR3 Try.underlying23 rfl (by kernel_rfl)) rfl ?_
      exact ⟨z + r, ptB x y (z + r), rfl, hB4, by simp [h1, h2], fun _ => rfl⟩
    · have h2' : decide (2097152 < r) = true := by simp; omega
      have h1' : decide (r < -2097152) = false := by simp; omega
      have hRR := row_new (w.alloc (.cells #[.int .i64 x, .int .i64 y, .int .i64 z] 23)) (.cells #[.int .i64 x, .int .i64 y, .int .i64 z] 23)
      simp only [World.size_alloc] at hRR
      gi_wp2_with fail
      refine bodyPost_ret (results_row_tmp rfl rfl hRR Try.underlying23 rfl (by kernel_rfl)) rfl ?_
      exact ⟨z, false, rfl, ((Below.refl _ _).alloc (Nat.le_refl _) _).alloc (by simp) _, by simp; intro _ h; omega, by simp⟩
  · have h1' : decide (r < -2097152) = true := by simp; omega
    have hRR := row_new (w.alloc (.cells #[.int .i64 x, .int .i64 y, .int .i64 z] 23)) (.cells #[.int .i64 x, .int .i64 y, .int .i64 z] 23)
    simp only [World.size_alloc] at hRR
    gi_wp2_with fail
    refine bodyPost_ret (results_row_tmp rfl rfl hRR Try.underlying23 rfl (by kernel_rfl)) rfl ?_
    exact ⟨z, false, rfl, ((Below.refl _ _).alloc (Nat.le_refl _) _).alloc (by simp) _, by simp; intro h; omega, by simp⟩
end Go.Proofs.Ytkajnimlfehmeaa
