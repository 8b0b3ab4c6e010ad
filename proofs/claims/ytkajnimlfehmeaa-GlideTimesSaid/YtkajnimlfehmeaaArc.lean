/-
  Contract of glide.Arc.
-/
import Derived.Test.YtkajnimlfehmeaaHigher
set_option linter.unusedSimpArgs false
set_option linter.unusedVariables false
namespace Go.Proofs.Ytkajnimlfehmeaa
open Go.RowKit Go.Sky
attribute [local go_sem] Oper.semAt_some

theorem arc_tour {ax ay az bx by_ bz r t u : Int} (hv : vaB ax ay az bx by_ bz t u = true) (ha : arcB ax ay az bx by_ bz r t u = true) :
    tourP [⟨ax, ay, az⟩, ⟨ax, ay, az + r⟩, ⟨bx, by_, bz + r⟩, ⟨bx, by_, bz⟩] [t, t + (u - t).tdiv 4, u - (u - t).tdiv 4, u] = (legsL [⟨ax, ay, az⟩, ⟨ax, ay, az + r⟩, ⟨bx, by_, bz + r⟩, ⟨bx, by_, bz⟩] [t, t + (u - t).tdiv 4, u - (u - t).tdiv 4, u], 0) := by
  simp only [vaB, Bool.and_eq_true] at hv
  simp only [arcB, Bool.and_eq_true, decide_eq_true_eq] at ha
  obtain ⟨⟨h1, h2⟩, h3⟩ := hv
  obtain ⟨⟨h4, h5, h6⟩, h7, h8⟩ := ha
  obtain ⟨t1, t2, t3⟩ := tmB_iff.1 h3
  generalize (u - t).tdiv 4 = q at *
  have hok : okB [⟨ax, ay, az⟩, ⟨ax, ay, az + r⟩, ⟨bx, by_, bz + r⟩, ⟨bx, by_, bz⟩] [t, t + q, u - q, u] = true := by
    rw [okB, List.all_eq_true]
    intro i hi
    have hi : i < 4 := by simpa using hi
    have hi : i = 0 ∨ i = 1 ∨ i = 2 ∨ i = 3 := by omega
    rcases hi with rfl | rfl | rfl | rfl
    · simp [okI, prevT, h1]; omega
    · simp [okI, prevT, h7]; omega
    · simp [okI, prevT, h8]; omega
    · simp [okI, prevT, h2]; omega
  rw [tourP, if_neg (by simp), if_neg (by rw [hok]; simp), if_neg (by simp)]
theorem row_set3 {w : World} {g : Nat} {t : TypeId} {v0 v1 v2 u0 u1 u2 : Value} (h : w.heap[g]? = some (.cells #[v0, v1, v2] t (0, 0))) :
    (((w.setCell ⟨g, 0, none⟩ u0).setCell ⟨g, 1, none⟩ u1).setCell ⟨g, 2, none⟩ u2).heap[g]? = some (.cells #[u0, u1, u2] t (0, 0)) := by
  simpa using row_set (row_set (row_set h 0 u0) 1 u1) 2 u2
theorem other_set3 {w : World} {g k : Nat} {u0 u1 u2 : Value} {o : Obj} (hk : g ≠ k) (h : w.heap[k]? = some o) :
    (((w.setCell ⟨g, 0, none⟩ u0).setCell ⟨g, 1, none⟩ u1).setCell ⟨g, 2, none⟩ u2).heap[k]? = some o := by
  rw [Below.heap_setCell _ _ _ _ (by simpa using hk.symm), Below.heap_setCell _ _ _ _ (by simpa using hk.symm), Below.heap_setCell _ _ _ _ (by simpa using hk.symm)]
  exact h
theorem below_set3 {w : World} {n g : Nat} {u0 u1 u2 : Value} (hn : n ≤ g) : Below n w (((w.setCell ⟨g, 0, none⟩ u0).setCell ⟨g, 1, none⟩ u1).setCell ⟨g, 2, none⟩ u2) :=
  (((Below.refl _ _).setCell hn _).setCell hn _).setCell hn _

set_option maxRecDepth 100000 in
set_option maxHeartbeats 400000 in
theorem Arc_any (ax ay az bx by_ bz r t u : Int) (w : World) :
    Calls Try.prog 16 #[.agg #[.int .i64 ax, .int .i64 ay, .int .i64 az], .agg #[.int .i64 bx, .int .i64 by_, .int .i64 bz], .int .i64 r, .int .i64 t, .int .i64 u] w
      (RPath w (arcP ax ay az bx by_ bz r t u).1 (arcP ax ay az bx by_ bz r t u).2) := by
  have hc1 := row_alloc (row_new w (.cells #[.int .i64 ax, .int .i64 ay, .int .i64 az] 23)) (.cells #[.int .i64 bx, .int .i64 by_, .int .i64 bz] 23)
  have hd1 := row_new (w.alloc (.cells #[.int .i64 ax, .int .i64 ay, .int .i64 az] 23)) (.cells #[.int .i64 bx, .int .i64 by_, .int .i64 bz] 23)
  simp only [World.size_alloc] at hd1
  have hB0 : Below w.heap.size w ((w.alloc (.cells #[.int .i64 ax, .int .i64 ay, .int .i64 az] 23)).alloc (.cells #[.int .i64 bx, .int .i64 by_, .int .i64 bz] 23)) := ((Below.refl _ _).alloc (Nat.le_refl _) _).alloc (by simp) _
  cases hv : vaB ax ay az bx by_ bz t u
  · have hf : arcP ax ay az bx by_ bz r t u = ([], 2) := by simp [arcP, hv]
    rw [hf]
    clear hf hc1 hd1
    go_enter Try.func16, Try.ntmps16
    go_wp2_with fail
    refine (g_valid_any _ _ _ _ _ _ _ _ _).mono ?_
    rintro e w1 ⟨rfl, hb⟩
    rw [hv]
    go_wp2_with fail
    go_ret2
    exact ⟨none, 0, 0, rfl, PathV.nil _ _ _, hB0.trans (hb.mono (by simp; omega))⟩
  · obtain ⟨⟨ha, hb⟩, ht⟩ : (ptB ax ay az = true ∧ ptB bx by_ bz = true) ∧ tmB t u = true := by simpa only [vaB, Bool.and_eq_true] using hv
    obtain ⟨a1, a2, a3⟩ := ptB_small ha
    obtain ⟨b1, b2, b3⟩ := ptB_small hb
    obtain ⟨t1, t2, t3⟩ := tmB_iff.1 ht
    have hq1 : 0 ≤ (u - t).tdiv 4 ∧ (u - t).tdiv 4 ≤ 900000 := by
      rw [Int.tdiv_eq_ediv_of_nonneg (by omega)]
      omega
    have hv' := hide hv
    clear ha hb ht
    by_cases h4 : 4 * (u - t).tdiv 4 = u - t
    · have h4' : (4 * (u - t).tdiv 4 != u - t) = false := by simpa using h4
      by_cases h1 : -2097152 ≤ r
      · by_cases h2 : r ≤ 2097152
        · have h1' : decide (r < -2097152) = false := by simp; omega
          have h2' : decide (2097152 < r) = false := by simp; omega
          go_enter Try.func16, Try.ntmps16
          go_wp2_with fail
          refine (g_valid_any _ _ _ _ _ _ _ _ _).mono ?_
          rintro e w1 ⟨rfl, hb⟩
          rw [hv'.out]
          have hB1 := hB0.trans (hb.mono (by simp; omega))
          replace hc1 := row_call hc1 hb
          replace hd1 := row_call hd1 hb
          have hsz := hb.size
          simp only [World.size_alloc] at hsz
          clear hb hB0 hv
          go_wp2_with fail
          refine wpIn_wide (n := 10).1 ?_
          have hS : w1.drew.cell? ⟨w.heap.size, 0, none⟩ = some (.int .i64 ax) ∧ w1.drew.cell? ⟨w.heap.size, 1, none⟩ = some (.int .i64 ay) ∧ w1.drew.cell? ⟨w.heap.size, 2, none⟩ = some (.int .i64 az) ∧
            w1.drew.cell? ⟨w.heap.size + 1, 0, none⟩ = some (.int .i64 bx) ∧ w1.drew.cell? ⟨w.heap.size + 1, 1, none⟩ = some (.int .i64 by_) ∧ w1.drew.cell? ⟨w.heap.size + 1, 2, none⟩ = some (.int .i64 bz) := ⟨row_cell hc1 0, row_cell hc1 1, row_cell hc1 2, row_cell hd1 0, row_cell hd1 1, row_cell hd1 2⟩
          refine region_opaque (fun W => W.cell? ⟨w.heap.size, 0, none⟩ = some (.int .i64 ax) ∧ W.cell? ⟨w.heap.size, 1, none⟩ = some (.int .i64 ay) ∧ W.cell? ⟨w.heap.size, 2, none⟩ = some (.int .i64 az) ∧
            W.cell? ⟨w.heap.size + 1, 0, none⟩ = some (.int .i64 bx) ∧ W.cell? ⟨w.heap.size + 1, 1, none⟩ = some (.int .i64 by_) ∧ W.cell? ⟨w.heap.size + 1, 2, none⟩ = some (.int .i64 bz))
            (fun a' w' => ∃ p q v15 v16 v17 v18 v19 v20 v21 v22 v23 v24 v25 v26 v27 v28 v29 v30 v31 v32 v33 v34 v35 v36 v37 v38, a' = { tmps := #[.agg #[.int .i64 ax, .int .i64 ay, .int .i64 az], .agg #[.int .i64 bx, .int .i64 by_, .int .i64 bz], .int .i64 r, .int .i64 t, .int .i64 u, .pointer (some ⟨w.heap.size, 0, none⟩), .pointer (some ⟨w.heap.size + 1, 0, none⟩), undef, undef, undef, .slice none 0 0, .int .i64 0, .int .i64 ((u - t).tdiv 4), .pointer (some ⟨p, 0, none⟩), .pointer (some ⟨q, 0, none⟩), v15, v16, v17, v18, v19, v20, v21, v22, v23, v24, v25, v26, v27, v28, v29, v30, v31, v32, v33, v34, v35, v36, v37, v38, .agg #[.int .i64 ax, .int .i64 ay, .int .i64 az], .agg #[.int .i64 bx, .int .i64 by_, .int .i64 bz], undef, undef, undef, undef, undef, undef, undef, undef, undef, undef, undef, undef, undef, undef, undef, undef, undef, undef, undef, undef, undef, undef, undef, undef, undef, undef, undef, undef, undef, undef, undef, undef, undef, undef, undef], defers := [] } ∧ p ≠ q ∧ w1.heap.size ≤ p ∧ w1.heap.size ≤ q ∧ w'.heap[p]? = some (.cells #[.int .i64 ax, .int .i64 ay, .int .i64 az] 23 (0, 0)) ∧ w'.heap[q]? = some (.cells #[.int .i64 bx, .int .i64 by_, .int .i64 bz] 23 (0, 0)) ∧ Below w1.heap.size w1 w')
            (by kernel_rfl) (fun c a d v w h => by cases d <;> exact h) (fun Q hQp hfin => ?reg) (fun a' w' hr => ?rest)
          case rest =>
            obtain ⟨p, q, v15, v16, v17, v18, v19, v20, v21, v22, v23, v24, v25, v26, v27, v28, v29, v30, v31, v32, v33, v34, v35, v36, v37, v38, rfl, hpq, hp, hq, r0, r1, hbE⟩ := hr
            have hA := row_call hc1 hbE
            have hBr := row_call hd1 hbE
            have hB2 := hB1.trans (hbE.mono (by omega))
            have q0 := row_cell r0 0
            have q1 := row_cell r0 1
            have q2 := row_cell r0 2
            have qf := row_free r0
            have p0 := row_cell r1 0
            have p1 := row_cell r1 1
            have p2 := row_cell r1 2
            have pf := row_free r1
            simp at q0 q1 q2 p0 p1 p2
            have z1 : IntKind.i64.wrap (az + r) = az + r := IntWalk.i64_in _ (by omega)
            have z2 : IntKind.i64.wrap (bz + r) = bz + r := IntWalk.i64_in _ (by omega)
            go_wp2_with fail
            have y0 : ((w'.setCell ⟨p, 2, none⟩ (.int .i64 (az + r))).setCell ⟨q, 2, none⟩ (.int .i64 (bz + r))).heap[p]? = some (.cells #[.int .i64 ax, .int .i64 ay, .int .i64 (az + r)] 23) := by
              rw [Below.heap_setCell _ _ _ _ (by simpa using hpq)]
              simpa using row_set r0 2 (.int .i64 (az + r))
            have y1 : ((w'.setCell ⟨p, 2, none⟩ (.int .i64 (az + r))).setCell ⟨q, 2, none⟩ (.int .i64 (bz + r))).heap[q]? = some (.cells #[.int .i64 bx, .int .i64 by_, .int .i64 (bz + r)] 23) := by
              have h : (w'.setCell ⟨p, 2, none⟩ (.int .i64 (az + r))).heap[q]? = some (.cells #[.int .i64 bx, .int .i64 by_, .int .i64 bz] 23) := by
                rw [Below.heap_setCell _ _ _ _ (by simpa using hpq.symm)]
                exact r1
              simpa using row_set h 2 (.int .i64 (bz + r))
            have hbF : Below w1.heap.size w' ((w'.setCell ⟨p, 2, none⟩ (.int .i64 (az + r))).setCell ⟨q, 2, none⟩ (.int .i64 (bz + r))) := ((Below.refl _ _).setCell hp _).setCell hq _
            refine (v_Point_any _ _ _ _).mono ?_
            rintro e w4 ⟨rfl, hb4⟩
            have hs2 := hB2.size
            have hA4 := row_call ((hbF.block w.heap.size (by omega)).trans hA) hb4
            have hB4 := row_call ((hbF.block (w.heap.size + 1) (by omega)).trans hBr) hb4
            have hB5 := (hB2.trans (hbF.mono (by omega))).trans (hb4.mono (by simp; omega))
            replace y0 := row_call y0 hb4
            replace y1 := row_call y1 hb4
            clear r0 r1 hA hBr q0 q1 q2 p0 p1 p2 qf pf hb4 hbF hbE hB2
            cases hx : ptB ax ay (az + r)
            · have hf : arcP ax ay az bx by_ bz r t u = ([], 3) := by
                rw [arcP, if_neg (by rw [hv'.out]; simp), if_pos]
                rw [arcB, hx]
                simp
              have Hf := hide hf
              clear hf
              go_wp2_with fail
              go_ret2
              rw [Hf.out]
              exact ⟨none, 0, 0, rfl, PathV.nil _ _ _, hB5⟩
            · have q0 := row_cell y1 0
              have q1 := row_cell y1 1
              have q2 := row_cell y1 2
              simp at q0 q1 q2
              go_wp2_with fail
              refine (v_Point_any _ _ _ _).mono ?_
              rintro e w5 ⟨rfl, hb5⟩
              have hB6 := hB5.trans (hb5.mono hB5.size)
              have hA5 := row_call hA4 hb5
              have hB5' := row_call hB4 hb5
              replace y0 := row_call y0 hb5
              replace y1 := row_call y1 hb5
              clear q0 q1 q2 hb5 hB5 hA4 hB4
              cases hy : ptB bx by_ (bz + r)
              · have hf : arcP ax ay az bx by_ bz r t u = ([], 3) := by
                  rw [arcP, if_neg (by rw [hv'.out]; simp), if_pos]
                  rw [arcB, hy]
                  simp
                have Hf := hide hf
                clear hf
                go_wp2_with fail
                go_ret2
                rw [Hf.out]
                exact ⟨none, 0, 0, rfl, PathV.nil _ _ _, hB6⟩
              · have ha' : arcB ax ay az bx by_ bz r t u = true := by simp [arcB, h4, h1, h2, hx, hy]
                have hT := arc_tour hv'.out ha'
                have hf : arcP ax ay az bx by_ bz r t u = tourP [⟨ax, ay, az⟩, ⟨ax, ay, az + r⟩, ⟨bx, by_, bz + r⟩, ⟨bx, by_, bz⟩] [t, t + (u - t).tdiv 4, u - (u - t).tdiv 4, u] := by
                  rw [arcP, if_neg (by rw [hv'.out]; simp), if_neg (by rw [ha']; simp), hT]
                have Hf := hide hf
                have Ha := hide ha'
                clear hf hT ha'
                have c0 := row_cell hA5 0
                have c1 := row_cell hA5 1
                have c2 := row_cell hA5 2
                have d0 := row_cell hB5' 0
                have d1 := row_cell hB5' 1
                have d2 := row_cell hB5' 2
                have q0 := row_cell y0 0
                have q1 := row_cell y0 1
                have q2 := row_cell y0 2
                have p0 := row_cell y1 0
                have p1 := row_cell y1 1
                have p2 := row_cell y1 2
                simp at c0 c1 c2 d0 d1 d2 p0 p1 p2 q0 q1 q2
                go_wp2_with fail
                have e0 := row_alloc (row_new w5 (.cells #[.int .i64 ax, .int .i64 ay, .int .i64 az, .int .i64 ax, .int .i64 ay, .int .i64 (az + r), .int .i64 bx, .int .i64 by_, .int .i64 (bz + r), .int .i64 bx, .int .i64 by_, .int .i64 bz] 23)) (.cells #[.int .i64 t, .int .i64 (t + (u - t).tdiv 4), .int .i64 (u - (u - t).tdiv 4), .int .i64 u] 3)
                have e1 := row_new (w5.alloc (.cells #[.int .i64 ax, .int .i64 ay, .int .i64 az, .int .i64 ax, .int .i64 ay, .int .i64 (az + r), .int .i64 bx, .int .i64 by_, .int .i64 (bz + r), .int .i64 bx, .int .i64 by_, .int .i64 bz] 23)) (.cells #[.int .i64 t, .int .i64 (t + (u - t).tdiv 4), .int .i64 (u - (u - t).tdiv 4), .int .i64 u] 3)
                simp only [World.size_alloc] at e1
                have hs6 := hB6.size
                have hB7 := (hB6.alloc hs6 (.cells #[.int .i64 ax, .int .i64 ay, .int .i64 az, .int .i64 ax, .int .i64 ay, .int .i64 (az + r), .int .i64 bx, .int .i64 by_, .int .i64 (bz + r), .int .i64 bx, .int .i64 by_, .int .i64 bz] 23)).alloc (by simp; omega) (.cells #[.int .i64 t, .int .i64 (t + (u - t).tdiv 4), .int .i64 (u - (u - t).tdiv 4), .int .i64 u] 3)
                have hV := Sl.of_block (lo := 0) (hi := w5.heap.size + 1 + 1) (n := 4) (c := 4) (sz := 3) e0 rfl (Nat.le_refl _) (by decide) (Nat.zero_le _) (by omega)
                have hI := Sl.of_block (lo := 0) (hi := w5.heap.size + 1 + 1) (n := 4) (c := 4) (sz := 1) e1 rfl (Nat.le_refl _) (by decide) (Nat.zero_le _) (by omega)
                refine (Tour_any 4 4 4 4 0 0 _ _ [⟨ax, ay, az⟩, ⟨ax, ay, az + r⟩, ⟨bx, by_, bz + r⟩, ⟨bx, by_, bz⟩] [t, t + (u - t).tdiv 4, u - (u - t).tdiv 4, u] _ ⟨rfl, ?_⟩ ?_).mono ?_
                · simp only [World.size_alloc]; exact hV
                · simp only [World.size_alloc]; exact hI
                · rintro e w6 ⟨A, n, c, rfl, hpv, hb6⟩
                  go_wp2_with fail
                  go_ret2
                  rw [Hf.out]
                  exact ⟨A, n, c, rfl, hpv.weak (by simp; omega) (Nat.le_refl _), hB7.trans (hb6.mono hB7.size)⟩
          case reg =>
            simp only [List.size_toArray, List.length_cons, List.length_nil, Nat.reduceAdd, Array.replicate_succ, Array.replicate_zero, List.push_toArray, List.nil_append, List.cons_append]
            refine anyS_take2 (i := 0) (v := ?_) (calm_wide _) rfl (by kernel_rfl) (by kernel_rfl) (by kernel_rfl) (fun _ _ _ h => hQp _ _ _ _ _ h) hS (fun _ => by kernel_rfl) (by kernel_rfl) ?_ ?_
            rotate_left
            · intro w ⟨s1, s2, s3, s4, s5, s6⟩
              go_simp
              try rfl
            simp only [Act.put, List.setIfInBounds_toArray, List.set_cons_zero, List.set_cons_succ]
            refine anyS_take2 (i := 1) (v := ?_) (calm_wide _) rfl (by kernel_rfl) (by kernel_rfl) (by kernel_rfl) (fun _ _ _ h => hQp _ _ _ _ _ h) hS (fun _ => by kernel_rfl) (by kernel_rfl) ?_ ?_
            rotate_left
            · intro w ⟨s1, s2, s3, s4, s5, s6⟩
              go_simp
              try rfl
            simp only [Act.put, List.setIfInBounds_toArray, List.set_cons_zero, List.set_cons_succ]
            refine anyS_two (i := 2) (j := 3) rfl rfl (by kernel_rfl) (by kernel_rfl) (by kernel_rfl) (fun K hK => ?_) (fun K hK => ?_)
            · go_simp
              have hbA : Below w1.heap.size w1 (w1.alloc (.cells #[.int .i64 0, .int .i64 0, .int .i64 0] 23)).drew := ((Below.refl _ _).alloc (Nat.le_refl _) _).drew
              have hSA : _ ∧ _ ∧ _ ∧ _ ∧ _ ∧ _ := ⟨keep_cell hbA hS.1, keep_cell hbA hS.2.1, keep_cell hbA hS.2.2.1, keep_cell hbA hS.2.2.2.1, keep_cell hbA hS.2.2.2.2.1, keep_cell hbA hS.2.2.2.2.2⟩
              refine hK _ _ hSA ?_
              clear hK K
              refine anyS_one2 (i := 3) rfl (by kernel_rfl) (by kernel_rfl) (fun K hK => ?_)
              go_simp
              have hbB : Below w1.heap.size w1 ((w1.alloc (.cells #[.int .i64 0, .int .i64 0, .int .i64 0] 23)).alloc (.cells #[.int .i64 0, .int .i64 0, .int .i64 0] 23)).drew := (((Below.refl _ _).alloc (Nat.le_refl _) _).alloc (by simp) _).drew
              have hSB : _ ∧ _ ∧ _ ∧ _ ∧ _ ∧ _ := ⟨keep_cell hbB hS.1, keep_cell hbB hS.2.1, keep_cell hbB hS.2.2.1, keep_cell hbB hS.2.2.2.1, keep_cell hbB hS.2.2.2.2.1, keep_cell hbB hS.2.2.2.2.2⟩
              have r0 : ((w1.alloc (.cells #[.int .i64 0, .int .i64 0, .int .i64 0] 23)).alloc (.cells #[.int .i64 0, .int .i64 0, .int .i64 0] 23)).drew.heap[w1.heap.size]? = _ := row_alloc (row_new w1 (.cells #[.int .i64 0, .int .i64 0, .int .i64 0] 23)) (.cells #[.int .i64 0, .int .i64 0, .int .i64 0] 23)
              have r1 : ((w1.alloc (.cells #[.int .i64 0, .int .i64 0, .int .i64 0] 23)).alloc (.cells #[.int .i64 0, .int .i64 0, .int .i64 0] 23)).drew.heap[w1.heap.size + 1]? = some (.cells #[.int .i64 0, .int .i64 0, .int .i64 0] 23) := by have h := row_new (w1.alloc (.cells #[.int .i64 0, .int .i64 0, .int .i64 0] 23)) (.cells #[.int .i64 0, .int .i64 0, .int .i64 0] 23); simp only [World.size_alloc] at h; exact h
              refine hK _ _ hSB ?_
              clear hK K hSA hbA
              generalize ((w1.alloc (.cells #[.int .i64 0, .int .i64 0, .int .i64 0] 23)).alloc (.cells #[.int .i64 0, .int .i64 0, .int .i64 0] 23)).drew = w3 at hbB hSB r0 r1 ⊢
              refine anyS_one2 (i := 4) rfl (by kernel_rfl) (by kernel_rfl) (fun K hK => ?_)
              have q0 := row_cell r0 0
              have q1 := row_cell r0 1
              have q2 := row_cell r0 2
              have qf := row_free r0
              have p0 := row_cell r1 0
              have p1 := row_cell r1 1
              have p2 := row_cell r1 2
              have pf := row_free r1
              simp at q0 q1 q2 p0 p1 p2
              go_simp
              have s0 := row_set3 (u0 := .int .i64 ax) (u1 := .int .i64 ay) (u2 := .int .i64 az) r0
              have s1 := other_set3 (u0 := .int .i64 ax) (u1 := .int .i64 ay) (u2 := .int .i64 az) (show w1.heap.size ≠ (w1.heap.size + 1) by omega) r1
              have hbC := below_set3 (w := w3) (u0 := .int .i64 ax) (u1 := .int .i64 ay) (u2 := .int .i64 az) (show w1.heap.size ≤ w1.heap.size by omega)
              have hlt : w.heap.size + 1 < w1.heap.size := by omega
              have hSC : _ ∧ _ ∧ _ ∧ _ ∧ _ ∧ _ := ⟨(hbC.cell (by simp; omega)).trans hSB.1, (hbC.cell (by simp; omega)).trans hSB.2.1, (hbC.cell (by simp; omega)).trans hSB.2.2.1, (hbC.cell (by simp; omega)).trans hSB.2.2.2.1, (hbC.cell (by simp; omega)).trans hSB.2.2.2.2.1, (hbC.cell (by simp; omega)).trans hSB.2.2.2.2.2⟩
              refine hK _ _ hSC ?_
              clear hK K q0 q1 q2 p0 p1 p2 qf pf
              generalize ((w3.setCell ⟨w1.heap.size, 0, none⟩ (.int .i64 ax)).setCell ⟨w1.heap.size, 1, none⟩ (.int .i64 ay)).setCell ⟨w1.heap.size, 2, none⟩ (.int .i64 az) = w4 at s0 s1 hbC hSC ⊢
              refine anyS_one2 (i := 5) rfl (by kernel_rfl) (by kernel_rfl) (fun K hK => ?_)
              have p0 := row_cell s1 0
              have p1 := row_cell s1 1
              have p2 := row_cell s1 2
              have pf := row_free s1
              simp at p0 p1 p2
              go_simp
              have z1 := row_set3 (u0 := .int .i64 bx) (u1 := .int .i64 by_) (u2 := .int .i64 bz) s1
              have z0 := other_set3 (u0 := .int .i64 bx) (u1 := .int .i64 by_) (u2 := .int .i64 bz) (show (w1.heap.size + 1) ≠ w1.heap.size by omega) s0
              have hbD := below_set3 (w := w4) (u0 := .int .i64 bx) (u1 := .int .i64 by_) (u2 := .int .i64 bz) (show w1.heap.size ≤ (w1.heap.size + 1) by omega)
              refine hK _ _ ⟨(hbD.cell (by simp; omega)).trans hSC.1, (hbD.cell (by simp; omega)).trans hSC.2.1, (hbD.cell (by simp; omega)).trans hSC.2.2.1, (hbD.cell (by simp; omega)).trans hSC.2.2.2.1, (hbD.cell (by simp; omega)).trans hSC.2.2.2.2.1, (hbD.cell (by simp; omega)).trans hSC.2.2.2.2.2⟩ ?_
              clear hK K
              exact anyS_done (by kernel_rfl) (hfin _ _ ⟨w1.heap.size, (w1.heap.size + 1), _, _, _, _, _, _, _, _, _, _, _, _, _, _, _, _, _, _, _, _, _, _, _, _, rfl, by omega, by omega, by omega, z0, z1, (hbB.trans hbC).trans hbD⟩) _
            · go_simp
              have hbA : Below w1.heap.size w1 (w1.alloc (.cells #[.int .i64 0, .int .i64 0, .int .i64 0] 23)).drew := ((Below.refl _ _).alloc (Nat.le_refl _) _).drew
              have hSA : _ ∧ _ ∧ _ ∧ _ ∧ _ ∧ _ := ⟨keep_cell hbA hS.1, keep_cell hbA hS.2.1, keep_cell hbA hS.2.2.1, keep_cell hbA hS.2.2.2.1, keep_cell hbA hS.2.2.2.2.1, keep_cell hbA hS.2.2.2.2.2⟩
              refine hK _ _ hSA ?_
              clear hK K
              refine anyS_one2 (i := 2) rfl (by kernel_rfl) (by kernel_rfl) (fun K hK => ?_)
              go_simp
              have hbB : Below w1.heap.size w1 ((w1.alloc (.cells #[.int .i64 0, .int .i64 0, .int .i64 0] 23)).alloc (.cells #[.int .i64 0, .int .i64 0, .int .i64 0] 23)).drew := (((Below.refl _ _).alloc (Nat.le_refl _) _).alloc (by simp) _).drew
              have hSB : _ ∧ _ ∧ _ ∧ _ ∧ _ ∧ _ := ⟨keep_cell hbB hS.1, keep_cell hbB hS.2.1, keep_cell hbB hS.2.2.1, keep_cell hbB hS.2.2.2.1, keep_cell hbB hS.2.2.2.2.1, keep_cell hbB hS.2.2.2.2.2⟩
              have r0 : ((w1.alloc (.cells #[.int .i64 0, .int .i64 0, .int .i64 0] 23)).alloc (.cells #[.int .i64 0, .int .i64 0, .int .i64 0] 23)).drew.heap[w1.heap.size]? = _ := row_alloc (row_new w1 (.cells #[.int .i64 0, .int .i64 0, .int .i64 0] 23)) (.cells #[.int .i64 0, .int .i64 0, .int .i64 0] 23)
              have r1 : ((w1.alloc (.cells #[.int .i64 0, .int .i64 0, .int .i64 0] 23)).alloc (.cells #[.int .i64 0, .int .i64 0, .int .i64 0] 23)).drew.heap[w1.heap.size + 1]? = some (.cells #[.int .i64 0, .int .i64 0, .int .i64 0] 23) := by have h := row_new (w1.alloc (.cells #[.int .i64 0, .int .i64 0, .int .i64 0] 23)) (.cells #[.int .i64 0, .int .i64 0, .int .i64 0] 23); simp only [World.size_alloc] at h; exact h
              refine hK _ _ hSB ?_
              clear hK K hSA hbA
              generalize ((w1.alloc (.cells #[.int .i64 0, .int .i64 0, .int .i64 0] 23)).alloc (.cells #[.int .i64 0, .int .i64 0, .int .i64 0] 23)).drew = w3 at hbB hSB r0 r1 ⊢
              refine anyS_one2 (i := 4) rfl (by kernel_rfl) (by kernel_rfl) (fun K hK => ?_)
              have q0 := row_cell r0 0
              have q1 := row_cell r0 1
              have q2 := row_cell r0 2
              have qf := row_free r0
              have p0 := row_cell r1 0
              have p1 := row_cell r1 1
              have p2 := row_cell r1 2
              have pf := row_free r1
              simp at q0 q1 q2 p0 p1 p2
              go_simp
              have s0 := row_set3 (u0 := .int .i64 ax) (u1 := .int .i64 ay) (u2 := .int .i64 az) r1
              have s1 := other_set3 (u0 := .int .i64 ax) (u1 := .int .i64 ay) (u2 := .int .i64 az) (show (w1.heap.size + 1) ≠ w1.heap.size by omega) r0
              have hbC := below_set3 (w := w3) (u0 := .int .i64 ax) (u1 := .int .i64 ay) (u2 := .int .i64 az) (show w1.heap.size ≤ (w1.heap.size + 1) by omega)
              have hlt : w.heap.size + 1 < w1.heap.size := by omega
              have hSC : _ ∧ _ ∧ _ ∧ _ ∧ _ ∧ _ := ⟨(hbC.cell (by simp; omega)).trans hSB.1, (hbC.cell (by simp; omega)).trans hSB.2.1, (hbC.cell (by simp; omega)).trans hSB.2.2.1, (hbC.cell (by simp; omega)).trans hSB.2.2.2.1, (hbC.cell (by simp; omega)).trans hSB.2.2.2.2.1, (hbC.cell (by simp; omega)).trans hSB.2.2.2.2.2⟩
              refine hK _ _ hSC ?_
              clear hK K q0 q1 q2 p0 p1 p2 qf pf
              generalize ((w3.setCell ⟨(w1.heap.size + 1), 0, none⟩ (.int .i64 ax)).setCell ⟨(w1.heap.size + 1), 1, none⟩ (.int .i64 ay)).setCell ⟨(w1.heap.size + 1), 2, none⟩ (.int .i64 az) = w4 at s0 s1 hbC hSC ⊢
              refine anyS_one2 (i := 5) rfl (by kernel_rfl) (by kernel_rfl) (fun K hK => ?_)
              have p0 := row_cell s1 0
              have p1 := row_cell s1 1
              have p2 := row_cell s1 2
              have pf := row_free s1
              simp at p0 p1 p2
              go_simp
              have z1 := row_set3 (u0 := .int .i64 bx) (u1 := .int .i64 by_) (u2 := .int .i64 bz) s1
              have z0 := other_set3 (u0 := .int .i64 bx) (u1 := .int .i64 by_) (u2 := .int .i64 bz) (show w1.heap.size ≠ (w1.heap.size + 1) by omega) s0
              have hbD := below_set3 (w := w4) (u0 := .int .i64 bx) (u1 := .int .i64 by_) (u2 := .int .i64 bz) (show w1.heap.size ≤ w1.heap.size by omega)
              refine hK _ _ ⟨(hbD.cell (by simp; omega)).trans hSC.1, (hbD.cell (by simp; omega)).trans hSC.2.1, (hbD.cell (by simp; omega)).trans hSC.2.2.1, (hbD.cell (by simp; omega)).trans hSC.2.2.2.1, (hbD.cell (by simp; omega)).trans hSC.2.2.2.2.1, (hbD.cell (by simp; omega)).trans hSC.2.2.2.2.2⟩ ?_
              clear hK K
              exact anyS_done (by kernel_rfl) (hfin _ _ ⟨(w1.heap.size + 1), w1.heap.size, _, _, _, _, _, _, _, _, _, _, _, _, _, _, _, _, _, _, _, _, _, _, _, _, rfl, by omega, by omega, by omega, z0, z1, (hbB.trans hbC).trans hbD⟩) _
        · have hf : arcP ax ay az bx by_ bz r t u = ([], 3) := by
            rw [arcP, if_neg (by rw [hv]; simp), if_pos]
            rw [arcB]
            simp [h2]
          have Hf := hide hf
          have h1' : decide (r < -2097152) = false := by simp; omega
          have h2' : decide (2097152 < r) = true := by simp; omega
          clear hv h1 h2 h4
          clear hf hc1 hd1
          go_enter Try.func16, Try.ntmps16
          go_wp2_with fail
          refine (g_valid_any _ _ _ _ _ _ _ _ _).mono ?_
          rintro e w1 ⟨rfl, hb⟩
          rw [hv'.out]
          go_wp2_with fail
          go_ret2
          rw [Hf.out]
          exact ⟨none, 0, 0, rfl, PathV.nil _ _ _, hB0.trans (hb.mono (by simp; omega))⟩
      · have hf : arcP ax ay az bx by_ bz r t u = ([], 3) := by
          rw [arcP, if_neg (by rw [hv]; simp), if_pos]
          rw [arcB]
          simp [h1]
        have Hf := hide hf
        have h1' : decide (r < -2097152) = true := by simp; omega
        clear hv h1 h4
        clear hf hc1 hd1
        go_enter Try.func16, Try.ntmps16
        go_wp2_with fail
        refine (g_valid_any _ _ _ _ _ _ _ _ _).mono ?_
        rintro e w1 ⟨rfl, hb⟩
        rw [hv'.out]
        go_wp2_with fail
        go_ret2
        rw [Hf.out]
        exact ⟨none, 0, 0, rfl, PathV.nil _ _ _, hB0.trans (hb.mono (by simp; omega))⟩
    · have hf : arcP ax ay az bx by_ bz r t u = ([], 3) := by
        rw [arcP, if_neg (by rw [hv]; simp), if_pos]
        rw [arcB]
        simp [h4]
      have Hf := hide hf
      have h4' : (4 * (u - t).tdiv 4 != u - t) = true := by simpa using h4
      clear hv h4
      clear hf hc1 hd1
      go_enter Try.func16, Try.ntmps16
      go_wp2_with fail
      refine (g_valid_any _ _ _ _ _ _ _ _ _).mono ?_
      rintro e w1 ⟨rfl, hb⟩
      rw [hv'.out]
      go_wp2_with fail
      go_ret2
      rw [Hf.out]
      exact ⟨none, 0, 0, rfl, PathV.nil _ _ _, hB0.trans (hb.mono (by simp; omega))⟩
end Go.Proofs.Ytkajnimlfehmeaa
