/-
  Contract of the reference's Tour.
-/
import Derived.Test.YtkajnimlfehmeaaTour
import Derived.Test.YtkajnimlfehmeaaSkyB
set_option linter.unusedSimpArgs false
set_option linter.unusedVariables false
namespace Go.Proofs.Ytkajnimlfehmeaa
open Go.RowKit Go.Sky
attribute [local go_sem] Oper.semAt_some

set_option maxRecDepth 100000 in
set_option maxHeartbeats 4000000 in
theorem r15_Tour_any (nP cP nT cT lo lo' : Nat) (AP AT : Option Addr) (ps : List V3) (ts : List Int) (w : World) (hP : Vecs w lo w.heap.size AP nP cP ps) (hT : Ints w lo' w.heap.size AT nT cT ts) :
    Calls Try.prog 15 #[.slice AP nP cP, .slice AT nT cT] w (RPath w (tourP ps ts).1 (tourP ps ts).2) := by
  have hlP := hP.len_le
  have hlT := hT.len_le
  refine (callsIn_wide (n := 10)).1 ?_
  refine callsIn_of_wp Try.func15 rfl trivial ?_ rfl
  simp only [Try.ntmps15, List.size_toArray, List.length_cons, List.length_nil, Nat.reduceAdd, Nat.reduceSub, Array.replicate_succ, Array.replicate_zero, List.push_toArray, List.append_toArray, List.nil_append, List.cons_append]
  by_cases h2 : nP < 2
  · have hf : tourP ps ts = ([], 2) := by rw [tourP, if_pos (.inl (by rw [hP.1]; exact h2))]
    rw [hf]
    have h2' : decide ((nP : Int) < 2) = true := by simp; omega
    gi_wp2_with fail
    go_ret2
    exact ⟨none, 0, 0, rfl, PathV.nil _ _ _, Below.refl _ _⟩
  · have h2' : decide ((nP : Int) < 2) = false := by simp; omega
    by_cases hPT : nP = nT
    · have h3 : ((nP : Int) != nT) = false := by simp; omega
      have HP := hide hPT
      have hn2 : 2 ≤ nP := by omega
      clear hPT h2
      gi_wp2_with fail
      gi_loopw [6] (fun i wr => ∃ k : Nat, k ≤ nP ∧ i = .int .i64 k ∧ Hid ((List.range k).all (okI ps ts) = true) ∧ Hid (-1 ≤ prevT ts k) ∧ Below w.heap.size w wr) (fun i _ => nP - (intOf i).toNat)
      case atStart => exact ⟨0, Nat.zero_le _, rfl, rfl, Int.le_refl _, Below.refl _ _⟩
      case round =>
        obtain ⟨k, hk, rfl, hall, hprev, hbl⟩ := hrel
        by_cases hlt : k < nP
        · have hlt' : decide ((k : Int) < nP) = true := by simp; omega
          obtain ⟨pb, po, rfl, hpl, hpb, hpc⟩ := hP.at_ (by omega)
          obtain ⟨tb, to_, rfl, htb, htc⟩ := hT.at_ (by have := HP.out; omega)
          obtain ⟨a1, a2, a3⟩ := hpc k (by omega)
          have t1 := htc k (by have := HP.out; omega)
          have t0 := htc (k - 1) (by have := HP.out; omega)
          replace a1 := (hbl.cell (p := ⟨pb, _, none⟩) hpb).trans a1
          replace a2 := (hbl.cell (p := ⟨pb, _, none⟩) hpb).trans a2
          replace a3 := (hbl.cell (p := ⟨pb, _, none⟩) hpb).trans a3
          replace t1 := (hbl.cell (p := ⟨tb, _, none⟩) htb).trans t1
          replace t0 := (hbl.cell (p := ⟨tb, _, none⟩) htb).trans t0
          clear hpc htc
          have Hs : Hid ((List.range (k + 1)).all (okI ps ts) = okI ps ts k) := by
            show _ = _
            rw [List.range_succ, List.all_append, hall.out]
            simp
          have Hno : Hid (okI ps ts k = false → tourP ps ts = ([], 2)) := by
            intro h
            rw [tourP, if_neg, if_pos]
            · rw [okB, List.all_eq_false]
              exact ⟨k, by rw [List.mem_range, hP.1]; omega, by rw [h]; simp⟩
            · rw [hP.1, hT.len]; have := HP.out; omega
          have Hok : Hid (okI ps ts k = (ptB (ps.getD k ⟨0, 0, 0⟩).x (ps.getD k ⟨0, 0, 0⟩).y (ps.getD k ⟨0, 0, 0⟩).z && (decide (prevT ts k < ts.getD k 0) && decide (ts.getD k 0 ≤ 3600000)))) := rfl
          have Hnx : Hid (prevT ts (k + 1) = ts.getD k 0) := rfl
          have Hp0 : Hid (prevT ts k = if k = 0 then -1 else ts.getD (k - 1) 0) := rfl
          generalize (ps.getD k ⟨0, 0, 0⟩).x = ax at a1 Hok
          generalize (ps.getD k ⟨0, 0, 0⟩).y = ay at a2 Hok
          generalize (ps.getD k ⟨0, 0, 0⟩).z = az at a3 Hok
          generalize ts.getD k 0 = t at t1 Hok Hnx
          generalize ts.getD (k - 1) 0 = u at t0 Hp0
          generalize prevT ts k = lst at Hok Hp0 hprev
          generalize okI ps ts k = okk at Hok Hs Hno
          have i1 : (0 : Int) ≤ k := by omega
          have i2 : (k : Int) < nP := by omega
          have i3 : (k : Int) < nT := by have := HP.out; omega
          have w1 : IntKind.i64.wrap (k : Int) = k := IntWalk.i64_in _ (by omega)
          gi_wp2_with fail
          refine region_opaque (fun W => W.cell? ⟨pb, po + k * 3, none⟩ = some (.int .i64 ax) ∧ W.cell? ⟨pb, po + k * 3 + 1, none⟩ = some (.int .i64 ay) ∧ W.cell? ⟨pb, po + k * 3 + 2, none⟩ = some (.int .i64 az) ∧
            W.cell? ⟨tb, to_ + k, none⟩ = some (.int .i64 t) ∧ W.cell? ⟨tb, to_ + (k - 1), none⟩ = some (.int .i64 u))
            (fun a' w' => ∃ v25 v26 v27 v28 v29 v30 v31 v32 v33 v34 v35 v36 v37 v38 v39 v40 v41 v42 v43 v44 v45 v46 v47 v48 v49 v50 v51 v52 v53 v54 v55 v56 v57 v58 v59 vb, a' = { tmps := #[.slice (some ⟨pb, po, none⟩) nP cP, .slice (some ⟨tb, to_, none⟩) nT cT, undef, undef, u4, u5, .int .i64 (k : Int), undef, undef, .slice (some ⟨pb, po, none⟩) nP cP, .int .i64 (nP : Int), .bool false, .bool false, .slice (some ⟨pb, po, none⟩) nP cP, .int .i64 (nP : Int), .slice (some ⟨tb, to_, none⟩) nT cT, .int .i64 (nT : Int), .bool false, .bool false, .int .i64 (k : Int), .slice (some ⟨pb, po, none⟩) nP cP, .int .i64 (nP : Int), .bool true, u23, u24, v25, v26, v27, v28, v29, v30, v31, v32, v33, v34, v35, v36, v37, v38, v39, v40, v41, v42, v43, v44, v45, v46, v47, v48, v49, v50, v51, v52, v53, v54, v55, v56, v57, v58, v59, .bool vb, undef, undef, undef, undef, undef, undef, undef, undef, undef, undef, undef, undef, undef, undef, undef, undef, undef, undef, undef, undef, undef, undef, undef, undef, undef, undef, undef, undef, undef, undef, undef, undef], defers := [] } ∧ vb = !okk ∧ Below w.heap.size w w')
            (by kernel_rfl) (fun c a d v w h => by cases d <;> exact h) (fun Q hQp hfin => ?reg) (fun a' w' hr => ?rest)
          case rest =>
            obtain ⟨v25, v26, v27, v28, v29, v30, v31, v32, v33, v34, v35, v36, v37, v38, v39, v40, v41, v42, v43, v44, v45, v46, v47, v48, v49, v50, v51, v52, v53, v54, v55, v56, v57, v58, v59, vb, rfl, hvb, hbl2⟩ := hr
            cases okk <;> simp only [Bool.not_false, Bool.not_true] at hvb <;> subst hvb
            · gi_wp2_with fail
              go_ret2
              rw [Hno.out (by first | rfl | trivial)]
              exact ⟨none, 0, 0, rfl, PathV.nil _ _ _, hbl2⟩
            · gi_wp2_with fail
              go_roundw
              case rel => exact ⟨k + 1, by omega, by go_num, by show _ = _; rw [Hs.out], by show _ ≤ _; rw [Hnx.out]; have h := Hok.out; have hp := hprev.out; simp at h; omega, hbl2⟩
              case measure => simp [intOf]; omega
          case reg =>
          have hS : wr.drew.cell? ⟨pb, po + k * 3, none⟩ = some (.int .i64 ax) ∧ wr.drew.cell? ⟨pb, po + k * 3 + 1, none⟩ = some (.int .i64 ay) ∧ wr.drew.cell? ⟨pb, po + k * 3 + 2, none⟩ = some (.int .i64 az) ∧
              wr.drew.cell? ⟨tb, to_ + k, none⟩ = some (.int .i64 t) ∧ wr.drew.cell? ⟨tb, to_ + (k - 1), none⟩ = some (.int .i64 u) := ⟨a1, a2, a3, t1, t0⟩
          simp only [List.size_toArray, List.length_cons, List.length_nil, Nat.reduceAdd, Array.replicate_succ, Array.replicate_zero, List.push_toArray, List.nil_append, List.cons_append]
          refine anyS_take2 (i := 0) (v := ?_) (calm_wide _) rfl (by kernel_rfl) (by kernel_rfl) (by kernel_rfl) (fun _ _ _ h => hQp _ _ _ _ _ h) hS (fun _ => by kernel_rfl) (by kernel_rfl) ?_ ?_
          rotate_left
          · intro w ⟨s1, s2, s3, s4, s5⟩
            go_simp
            try rfl
          simp only [Act.put, List.setIfInBounds_toArray, List.set_cons_zero, List.set_cons_succ]
          refine anyS_take2 (i := 1) (v := ?_) (calm_wide _) rfl (by kernel_rfl) (by kernel_rfl) (by kernel_rfl) (fun _ _ _ h => hQp _ _ _ _ _ h) hS (fun _ => by kernel_rfl) (by kernel_rfl) ?_ ?_
          rotate_left
          · intro w ⟨s1, s2, s3, s4, s5⟩
            go_simp
            try rfl
          simp only [Act.put, List.setIfInBounds_toArray, List.set_cons_zero, List.set_cons_succ]
          refine anyS_take2 (i := 2) (v := ?_) (calm_wide _) rfl (by kernel_rfl) (by kernel_rfl) (by kernel_rfl) (fun _ _ _ h => hQp _ _ _ _ _ h) hS (fun _ => by kernel_rfl) (by kernel_rfl) ?_ ?_
          rotate_left
          · intro w ⟨s1, s2, s3, s4, s5⟩
            go_simp
            try rfl
          simp only [Act.put, List.setIfInBounds_toArray, List.set_cons_zero, List.set_cons_succ]
          refine anyS_take2 (i := 3) (v := ?_) (calm_wide _) rfl (by kernel_rfl) (by kernel_rfl) (by kernel_rfl) (fun _ _ _ h => hQp _ _ _ _ _ h) hS (fun _ => by kernel_rfl) (by kernel_rfl) ?_ ?_
          rotate_left
          · intro w ⟨s1, s2, s3, s4, s5⟩
            go_simp
            try rfl
          simp only [Act.put, List.setIfInBounds_toArray, List.set_cons_zero, List.set_cons_succ]
          refine anyS_one (i := 4) rfl (by kernel_rfl) (fun K hK => ?_)
          go_simp
          refine ⟨trivial, callsIn_wide.2 ((r15_Point_any _ _ _ _).mono ?_)⟩
          rintro e w2 ⟨rfl, hb⟩
          have hS2 : _ ∧ _ ∧ _ ∧ _ ∧ _ := ⟨keep_cell hb hS.1, keep_cell hb hS.2.1, keep_cell hb hS.2.2.1, keep_cell hb hS.2.2.2.1, keep_cell hb hS.2.2.2.2⟩
          have hbl2 := (hbl.drew).trans (hb.mono hbl.size)
          refine hK _ _ hS2 ?_
          replace hS := hS2
          clear hK K hS2 hb
          by_cases hq : ptB ax ay az = true
          · by_cases hq1 : t < 0
            · have Hfin : Hid (okk = false) := by
                show _ = _
                have hp := hprev.out
                rw [Hok.out]
                simp
                intro _ h
                omega
              have hq1' : decide (t < 0) = true := by simpa using hq1
              rw [hq]
              clear hq hq1
              refine anyS_take2 (i := 5) (v := ?_) (calm_wide _) rfl (by kernel_rfl) (by kernel_rfl) (by kernel_rfl) (fun _ _ _ h => hQp _ _ _ _ _ h) hS (fun _ => by kernel_rfl) (by kernel_rfl) ?_ ?_
              rotate_left
              · intro w ⟨s1, s2, s3, s4, s5⟩
                go_simp
                try rfl
              simp only [Act.put, List.setIfInBounds_toArray, List.set_cons_zero, List.set_cons_succ]
              refine anyS_take2 (i := 6) (v := ?_) (calm_wide _) rfl (by kernel_rfl) (by kernel_rfl) (by kernel_rfl) (fun _ _ _ h => hQp _ _ _ _ _ h) hS (fun _ => by kernel_rfl) (by kernel_rfl) ?_ ?_
              rotate_left
              · intro w ⟨s1, s2, s3, s4, s5⟩
                go_simp
                try rfl
              simp only [Act.put, List.setIfInBounds_toArray, List.set_cons_zero, List.set_cons_succ]
              refine anyS_take2 (i := 7) (v := ?_) (calm_wide _) rfl (by kernel_rfl) (by kernel_rfl) (by kernel_rfl) (fun _ _ _ h => hQp _ _ _ _ _ h) hS (fun _ => by kernel_rfl) (by kernel_rfl) ?_ ?_
              rotate_left
              · intro w ⟨s1, s2, s3, s4, s5⟩
                go_simp
                try rfl
              simp only [Act.put, List.setIfInBounds_toArray, List.set_cons_zero, List.set_cons_succ]
              refine anyS_take2 (i := 8) (v := ?_) (calm_wide _) rfl (by kernel_rfl) (by kernel_rfl) (by kernel_rfl) (fun _ _ _ h => hQp _ _ _ _ _ h) hS (fun _ => by kernel_rfl) (by kernel_rfl) ?_ ?_
              rotate_left
              · intro w ⟨s1, s2, s3, s4, s5⟩
                go_simp
                try rfl
              simp only [Act.put, List.setIfInBounds_toArray, List.set_cons_zero, List.set_cons_succ]
              refine anyS_take2 (i := 9) (v := ?_) (calm_wide _) rfl (by kernel_rfl) (by kernel_rfl) (by kernel_rfl) (fun _ _ _ h => hQp _ _ _ _ _ h) hS (fun _ => by kernel_rfl) (by kernel_rfl) ?_ ?_
              rotate_left
              · intro w ⟨s1, s2, s3, s4, s5⟩
                go_simp
                try rfl
              simp only [Act.put, List.setIfInBounds_toArray, List.set_cons_zero, List.set_cons_succ]
              refine anyS_take2 (i := 10) (v := ?_) (calm_wide _) rfl (by kernel_rfl) (by kernel_rfl) (by kernel_rfl) (fun _ _ _ h => hQp _ _ _ _ _ h) hS (fun _ => by kernel_rfl) (by kernel_rfl) ?_ ?_
              rotate_left
              · intro w ⟨s1, s2, s3, s4, s5⟩
                go_simp
                try rfl
              simp only [Act.put, List.setIfInBounds_toArray, List.set_cons_zero, List.set_cons_succ]
              refine anyS_take2 (i := 11) (v := ?_) (calm_wide _) rfl (by kernel_rfl) (by kernel_rfl) (by kernel_rfl) (fun _ _ _ h => hQp _ _ _ _ _ h) hS (fun _ => by kernel_rfl) (by kernel_rfl) ?_ ?_
              rotate_left
              · intro w ⟨s1, s2, s3, s4, s5⟩
                go_simp
                try rfl
              simp only [Act.put, List.setIfInBounds_toArray, List.set_cons_zero, List.set_cons_succ]
              refine anyS_take2 (i := 12) (v := ?_) (calm_wide _) rfl (by kernel_rfl) (by kernel_rfl) (by kernel_rfl) (fun _ _ _ h => hQp _ _ _ _ _ h) hS (fun _ => by kernel_rfl) (by kernel_rfl) ?_ ?_
              rotate_left
              · intro w ⟨s1, s2, s3, s4, s5⟩
                go_simp
                try rfl
              simp only [Act.put, List.setIfInBounds_toArray, List.set_cons_zero, List.set_cons_succ]
              refine anyS_take2 (i := 13) (v := ?_) (calm_wide _) rfl (by kernel_rfl) (by kernel_rfl) (by kernel_rfl) (fun _ _ _ h => hQp _ _ _ _ _ h) hS (fun _ => by kernel_rfl) (by kernel_rfl) ?_ ?_
              rotate_left
              · intro w ⟨s1, s2, s3, s4, s5⟩
                go_simp
                try rfl
              simp only [Act.put, List.setIfInBounds_toArray, List.set_cons_zero, List.set_cons_succ]
              refine anyS_skip (i := 14) (calm_wide _) rfl (by kernel_rfl) (by kernel_rfl) (by kernel_rfl) (fun _ _ _ h => hQp _ _ _ _ _ h) hS (fun _ => by kernel_rfl) (by kernel_rfl) ?_
              simp only [Act.put, List.setIfInBounds_toArray, List.set_cons_zero, List.set_cons_succ]
              refine anyS_skip (i := 15) (calm_wide _) rfl (by kernel_rfl) (by kernel_rfl) (by kernel_rfl) (fun _ _ _ h => hQp _ _ _ _ _ h) hS (fun _ => by kernel_rfl) (by kernel_rfl) ?_
              simp only [Act.put, List.setIfInBounds_toArray, List.set_cons_zero, List.set_cons_succ]
              refine anyS_skip (i := 16) (calm_wide _) rfl (by kernel_rfl) (by kernel_rfl) (by kernel_rfl) (fun _ _ _ h => hQp _ _ _ _ _ h) hS (fun _ => by kernel_rfl) (by kernel_rfl) ?_
              simp only [Act.put, List.setIfInBounds_toArray, List.set_cons_zero, List.set_cons_succ]
              refine anyS_skip (i := 17) (calm_wide _) rfl (by kernel_rfl) (by kernel_rfl) (by kernel_rfl) (fun _ _ _ h => hQp _ _ _ _ _ h) hS (fun _ => by kernel_rfl) (by kernel_rfl) ?_
              simp only [Act.put, List.setIfInBounds_toArray, List.set_cons_zero, List.set_cons_succ]
              refine anyS_skip (i := 18) (calm_wide _) rfl (by kernel_rfl) (by kernel_rfl) (by kernel_rfl) (fun _ _ _ h => hQp _ _ _ _ _ h) hS (fun _ => by kernel_rfl) (by kernel_rfl) ?_
              simp only [Act.put, List.setIfInBounds_toArray, List.set_cons_zero, List.set_cons_succ]
              refine anyS_take2 (i := 19) (v := ?_) (calm_wide _) rfl (by kernel_rfl) (by kernel_rfl) (by kernel_rfl) (fun _ _ _ h => hQp _ _ _ _ _ h) hS (fun _ => by kernel_rfl) (by kernel_rfl) ?_ ?_
              rotate_left
              · intro w ⟨s1, s2, s3, s4, s5⟩
                go_simp
                try rfl
              simp only [Act.put, List.setIfInBounds_toArray, List.set_cons_zero, List.set_cons_succ]
              refine anyS_take2 (i := 20) (v := ?_) (calm_wide _) rfl (by kernel_rfl) (by kernel_rfl) (by kernel_rfl) (fun _ _ _ h => hQp _ _ _ _ _ h) hS (fun _ => by kernel_rfl) (by kernel_rfl) ?_ ?_
              rotate_left
              · intro w ⟨s1, s2, s3, s4, s5⟩
                go_simp
                try rfl
              simp only [Act.put, List.setIfInBounds_toArray, List.set_cons_zero, List.set_cons_succ]
              refine anyS_skip (i := 21) (calm_wide _) rfl (by kernel_rfl) (by kernel_rfl) (by kernel_rfl) (fun _ _ _ h => hQp _ _ _ _ _ h) hS (fun _ => by kernel_rfl) (by kernel_rfl) ?_
              simp only [Act.put, List.setIfInBounds_toArray, List.set_cons_zero, List.set_cons_succ]
              refine anyS_skip (i := 22) (calm_wide _) rfl (by kernel_rfl) (by kernel_rfl) (by kernel_rfl) (fun _ _ _ h => hQp _ _ _ _ _ h) hS (fun _ => by kernel_rfl) (by kernel_rfl) ?_
              simp only [Act.put, List.setIfInBounds_toArray, List.set_cons_zero, List.set_cons_succ]
              refine anyS_skip (i := 23) (calm_wide _) rfl (by kernel_rfl) (by kernel_rfl) (by kernel_rfl) (fun _ _ _ h => hQp _ _ _ _ _ h) hS (fun _ => by kernel_rfl) (by kernel_rfl) ?_
              simp only [Act.put, List.setIfInBounds_toArray, List.set_cons_zero, List.set_cons_succ]
              refine anyS_skip (i := 24) (calm_wide _) rfl (by kernel_rfl) (by kernel_rfl) (by kernel_rfl) (fun _ _ _ h => hQp _ _ _ _ _ h) hS (fun _ => by kernel_rfl) (by kernel_rfl) ?_
              simp only [Act.put, List.setIfInBounds_toArray, List.set_cons_zero, List.set_cons_succ]
              refine anyS_skip (i := 25) (calm_wide _) rfl (by kernel_rfl) (by kernel_rfl) (by kernel_rfl) (fun _ _ _ h => hQp _ _ _ _ _ h) hS (fun _ => by kernel_rfl) (by kernel_rfl) ?_
              simp only [Act.put, List.setIfInBounds_toArray, List.set_cons_zero, List.set_cons_succ]
              refine anyS_skip (i := 26) (calm_wide _) rfl (by kernel_rfl) (by kernel_rfl) (by kernel_rfl) (fun _ _ _ h => hQp _ _ _ _ _ h) hS (fun _ => by kernel_rfl) (by kernel_rfl) ?_
              simp only [Act.put, List.setIfInBounds_toArray, List.set_cons_zero, List.set_cons_succ]
              refine anyS_skip (i := 27) (calm_wide _) rfl (by kernel_rfl) (by kernel_rfl) (by kernel_rfl) (fun _ _ _ h => hQp _ _ _ _ _ h) hS (fun _ => by kernel_rfl) (by kernel_rfl) ?_
              simp only [Act.put, List.setIfInBounds_toArray, List.set_cons_zero, List.set_cons_succ]
              refine anyS_skip (i := 28) (calm_wide _) rfl (by kernel_rfl) (by kernel_rfl) (by kernel_rfl) (fun _ _ _ h => hQp _ _ _ _ _ h) hS (fun _ => by kernel_rfl) (by kernel_rfl) ?_
              simp only [Act.put, List.setIfInBounds_toArray, List.set_cons_zero, List.set_cons_succ]
              refine anyS_skip (i := 29) (calm_wide _) rfl (by kernel_rfl) (by kernel_rfl) (by kernel_rfl) (fun _ _ _ h => hQp _ _ _ _ _ h) hS (fun _ => by kernel_rfl) (by kernel_rfl) ?_
              simp only [Act.put, List.setIfInBounds_toArray, List.set_cons_zero, List.set_cons_succ]
              refine anyS_skip (i := 30) (calm_wide _) rfl (by kernel_rfl) (by kernel_rfl) (by kernel_rfl) (fun _ _ _ h => hQp _ _ _ _ _ h) hS (fun _ => by kernel_rfl) (by kernel_rfl) ?_
              simp only [Act.put, List.setIfInBounds_toArray, List.set_cons_zero, List.set_cons_succ]
              refine anyS_skip (i := 31) (calm_wide _) rfl (by kernel_rfl) (by kernel_rfl) (by kernel_rfl) (fun _ _ _ h => hQp _ _ _ _ _ h) hS (fun _ => by kernel_rfl) (by kernel_rfl) ?_
              simp only [Act.put, List.setIfInBounds_toArray, List.set_cons_zero, List.set_cons_succ]
              refine anyS_skip (i := 32) (calm_wide _) rfl (by kernel_rfl) (by kernel_rfl) (by kernel_rfl) (fun _ _ _ h => hQp _ _ _ _ _ h) hS (fun _ => by kernel_rfl) (by kernel_rfl) ?_
              simp only [Act.put, List.setIfInBounds_toArray, List.set_cons_zero, List.set_cons_succ]
              refine anyS_skip (i := 33) (calm_wide _) rfl (by kernel_rfl) (by kernel_rfl) (by kernel_rfl) (fun _ _ _ h => hQp _ _ _ _ _ h) hS (fun _ => by kernel_rfl) (by kernel_rfl) ?_
              simp only [Act.put, List.setIfInBounds_toArray, List.set_cons_zero, List.set_cons_succ]
              refine anyS_skip (i := 34) (calm_wide _) rfl (by kernel_rfl) (by kernel_rfl) (by kernel_rfl) (fun _ _ _ h => hQp _ _ _ _ _ h) hS (fun _ => by kernel_rfl) (by kernel_rfl) ?_
              simp only [Act.put, List.setIfInBounds_toArray, List.set_cons_zero, List.set_cons_succ]
              refine anyS_take2 (i := 35) (v := ?_) (calm_wide _) rfl (by kernel_rfl) (by kernel_rfl) (by kernel_rfl) (fun _ _ _ h => hQp _ _ _ _ _ h) hS (fun _ => by kernel_rfl) (by kernel_rfl) ?_ ?_
              rotate_left
              · intro w ⟨s1, s2, s3, s4, s5⟩
                go_simp
                try rfl
              simp only [Act.put, List.setIfInBounds_toArray, List.set_cons_zero, List.set_cons_succ]
              exact anyS_done (by kernel_rfl) (hfin _ _ ⟨_, _, _, _, _, _, _, _, _, _, _, _, _, _, _, _, _, _, _, _, _, _, _, _, _, _, _, _, _, _, _, _, _, _, _, _, rfl, by rw [Hfin.out]; rfl, hbl2⟩) _
            · have hq1' : decide (t < 0) = false := by simpa using hq1
              by_cases hq2 : 3600000 < t
              · have Hfin : Hid (okk = false) := by
                  show _ = _
                  rw [Hok.out]
                  simp
                  intro _ h
                  omega
                have hq2' : decide (3600000 < t) = true := by simpa using hq2
                rw [hq]
                clear hq hq1 hq2
                refine anyS_take2 (i := 5) (v := ?_) (calm_wide _) rfl (by kernel_rfl) (by kernel_rfl) (by kernel_rfl) (fun _ _ _ h => hQp _ _ _ _ _ h) hS (fun _ => by kernel_rfl) (by kernel_rfl) ?_ ?_
                rotate_left
                · intro w ⟨s1, s2, s3, s4, s5⟩
                  go_simp
                  try rfl
                simp only [Act.put, List.setIfInBounds_toArray, List.set_cons_zero, List.set_cons_succ]
                refine anyS_take2 (i := 6) (v := ?_) (calm_wide _) rfl (by kernel_rfl) (by kernel_rfl) (by kernel_rfl) (fun _ _ _ h => hQp _ _ _ _ _ h) hS (fun _ => by kernel_rfl) (by kernel_rfl) ?_ ?_
                rotate_left
                · intro w ⟨s1, s2, s3, s4, s5⟩
                  go_simp
                  try rfl
                simp only [Act.put, List.setIfInBounds_toArray, List.set_cons_zero, List.set_cons_succ]
                refine anyS_take2 (i := 7) (v := ?_) (calm_wide _) rfl (by kernel_rfl) (by kernel_rfl) (by kernel_rfl) (fun _ _ _ h => hQp _ _ _ _ _ h) hS (fun _ => by kernel_rfl) (by kernel_rfl) ?_ ?_
                rotate_left
                · intro w ⟨s1, s2, s3, s4, s5⟩
                  go_simp
                  try rfl
                simp only [Act.put, List.setIfInBounds_toArray, List.set_cons_zero, List.set_cons_succ]
                refine anyS_take2 (i := 8) (v := ?_) (calm_wide _) rfl (by kernel_rfl) (by kernel_rfl) (by kernel_rfl) (fun _ _ _ h => hQp _ _ _ _ _ h) hS (fun _ => by kernel_rfl) (by kernel_rfl) ?_ ?_
                rotate_left
                · intro w ⟨s1, s2, s3, s4, s5⟩
                  go_simp
                  try rfl
                simp only [Act.put, List.setIfInBounds_toArray, List.set_cons_zero, List.set_cons_succ]
                refine anyS_take2 (i := 9) (v := ?_) (calm_wide _) rfl (by kernel_rfl) (by kernel_rfl) (by kernel_rfl) (fun _ _ _ h => hQp _ _ _ _ _ h) hS (fun _ => by kernel_rfl) (by kernel_rfl) ?_ ?_
                rotate_left
                · intro w ⟨s1, s2, s3, s4, s5⟩
                  go_simp
                  try rfl
                simp only [Act.put, List.setIfInBounds_toArray, List.set_cons_zero, List.set_cons_succ]
                refine anyS_take2 (i := 10) (v := ?_) (calm_wide _) rfl (by kernel_rfl) (by kernel_rfl) (by kernel_rfl) (fun _ _ _ h => hQp _ _ _ _ _ h) hS (fun _ => by kernel_rfl) (by kernel_rfl) ?_ ?_
                rotate_left
                · intro w ⟨s1, s2, s3, s4, s5⟩
                  go_simp
                  try rfl
                simp only [Act.put, List.setIfInBounds_toArray, List.set_cons_zero, List.set_cons_succ]
                refine anyS_take2 (i := 11) (v := ?_) (calm_wide _) rfl (by kernel_rfl) (by kernel_rfl) (by kernel_rfl) (fun _ _ _ h => hQp _ _ _ _ _ h) hS (fun _ => by kernel_rfl) (by kernel_rfl) ?_ ?_
                rotate_left
                · intro w ⟨s1, s2, s3, s4, s5⟩
                  go_simp
                  try rfl
                simp only [Act.put, List.setIfInBounds_toArray, List.set_cons_zero, List.set_cons_succ]
                refine anyS_take2 (i := 12) (v := ?_) (calm_wide _) rfl (by kernel_rfl) (by kernel_rfl) (by kernel_rfl) (fun _ _ _ h => hQp _ _ _ _ _ h) hS (fun _ => by kernel_rfl) (by kernel_rfl) ?_ ?_
                rotate_left
                · intro w ⟨s1, s2, s3, s4, s5⟩
                  go_simp
                  try rfl
                simp only [Act.put, List.setIfInBounds_toArray, List.set_cons_zero, List.set_cons_succ]
                refine anyS_take2 (i := 13) (v := ?_) (calm_wide _) rfl (by kernel_rfl) (by kernel_rfl) (by kernel_rfl) (fun _ _ _ h => hQp _ _ _ _ _ h) hS (fun _ => by kernel_rfl) (by kernel_rfl) ?_ ?_
                rotate_left
                · intro w ⟨s1, s2, s3, s4, s5⟩
                  go_simp
                  try rfl
                simp only [Act.put, List.setIfInBounds_toArray, List.set_cons_zero, List.set_cons_succ]
                refine anyS_take2 (i := 14) (v := ?_) (calm_wide _) rfl (by kernel_rfl) (by kernel_rfl) (by kernel_rfl) (fun _ _ _ h => hQp _ _ _ _ _ h) hS (fun _ => by kernel_rfl) (by kernel_rfl) ?_ ?_
                rotate_left
                · intro w ⟨s1, s2, s3, s4, s5⟩
                  go_simp
                  try rfl
                simp only [Act.put, List.setIfInBounds_toArray, List.set_cons_zero, List.set_cons_succ]
                refine anyS_take2 (i := 15) (v := ?_) (calm_wide _) rfl (by kernel_rfl) (by kernel_rfl) (by kernel_rfl) (fun _ _ _ h => hQp _ _ _ _ _ h) hS (fun _ => by kernel_rfl) (by kernel_rfl) ?_ ?_
                rotate_left
                · intro w ⟨s1, s2, s3, s4, s5⟩
                  go_simp
                  try rfl
                simp only [Act.put, List.setIfInBounds_toArray, List.set_cons_zero, List.set_cons_succ]
                refine anyS_take2 (i := 16) (v := ?_) (calm_wide _) rfl (by kernel_rfl) (by kernel_rfl) (by kernel_rfl) (fun _ _ _ h => hQp _ _ _ _ _ h) hS (fun _ => by kernel_rfl) (by kernel_rfl) ?_ ?_
                rotate_left
                · intro w ⟨s1, s2, s3, s4, s5⟩
                  go_simp
                  try rfl
                simp only [Act.put, List.setIfInBounds_toArray, List.set_cons_zero, List.set_cons_succ]
                refine anyS_take2 (i := 17) (v := ?_) (calm_wide _) rfl (by kernel_rfl) (by kernel_rfl) (by kernel_rfl) (fun _ _ _ h => hQp _ _ _ _ _ h) hS (fun _ => by kernel_rfl) (by kernel_rfl) ?_ ?_
                rotate_left
                · intro w ⟨s1, s2, s3, s4, s5⟩
                  go_simp
                  try rfl
                simp only [Act.put, List.setIfInBounds_toArray, List.set_cons_zero, List.set_cons_succ]
                refine anyS_take2 (i := 18) (v := ?_) (calm_wide _) rfl (by kernel_rfl) (by kernel_rfl) (by kernel_rfl) (fun _ _ _ h => hQp _ _ _ _ _ h) hS (fun _ => by kernel_rfl) (by kernel_rfl) ?_ ?_
                rotate_left
                · intro w ⟨s1, s2, s3, s4, s5⟩
                  go_simp
                  try rfl
                simp only [Act.put, List.setIfInBounds_toArray, List.set_cons_zero, List.set_cons_succ]
                refine anyS_take2 (i := 19) (v := ?_) (calm_wide _) rfl (by kernel_rfl) (by kernel_rfl) (by kernel_rfl) (fun _ _ _ h => hQp _ _ _ _ _ h) hS (fun _ => by kernel_rfl) (by kernel_rfl) ?_ ?_
                rotate_left
                · intro w ⟨s1, s2, s3, s4, s5⟩
                  go_simp
                  try rfl
                simp only [Act.put, List.setIfInBounds_toArray, List.set_cons_zero, List.set_cons_succ]
                refine anyS_take2 (i := 20) (v := ?_) (calm_wide _) rfl (by kernel_rfl) (by kernel_rfl) (by kernel_rfl) (fun _ _ _ h => hQp _ _ _ _ _ h) hS (fun _ => by kernel_rfl) (by kernel_rfl) ?_ ?_
                rotate_left
                · intro w ⟨s1, s2, s3, s4, s5⟩
                  go_simp
                  try rfl
                simp only [Act.put, List.setIfInBounds_toArray, List.set_cons_zero, List.set_cons_succ]
                refine anyS_skip (i := 21) (calm_wide _) rfl (by kernel_rfl) (by kernel_rfl) (by kernel_rfl) (fun _ _ _ h => hQp _ _ _ _ _ h) hS (fun _ => by kernel_rfl) (by kernel_rfl) ?_
                simp only [Act.put, List.setIfInBounds_toArray, List.set_cons_zero, List.set_cons_succ]
                refine anyS_skip (i := 22) (calm_wide _) rfl (by kernel_rfl) (by kernel_rfl) (by kernel_rfl) (fun _ _ _ h => hQp _ _ _ _ _ h) hS (fun _ => by kernel_rfl) (by kernel_rfl) ?_
                simp only [Act.put, List.setIfInBounds_toArray, List.set_cons_zero, List.set_cons_succ]
                refine anyS_skip (i := 23) (calm_wide _) rfl (by kernel_rfl) (by kernel_rfl) (by kernel_rfl) (fun _ _ _ h => hQp _ _ _ _ _ h) hS (fun _ => by kernel_rfl) (by kernel_rfl) ?_
                simp only [Act.put, List.setIfInBounds_toArray, List.set_cons_zero, List.set_cons_succ]
                refine anyS_skip (i := 24) (calm_wide _) rfl (by kernel_rfl) (by kernel_rfl) (by kernel_rfl) (fun _ _ _ h => hQp _ _ _ _ _ h) hS (fun _ => by kernel_rfl) (by kernel_rfl) ?_
                simp only [Act.put, List.setIfInBounds_toArray, List.set_cons_zero, List.set_cons_succ]
                refine anyS_skip (i := 25) (calm_wide _) rfl (by kernel_rfl) (by kernel_rfl) (by kernel_rfl) (fun _ _ _ h => hQp _ _ _ _ _ h) hS (fun _ => by kernel_rfl) (by kernel_rfl) ?_
                simp only [Act.put, List.setIfInBounds_toArray, List.set_cons_zero, List.set_cons_succ]
                refine anyS_skip (i := 26) (calm_wide _) rfl (by kernel_rfl) (by kernel_rfl) (by kernel_rfl) (fun _ _ _ h => hQp _ _ _ _ _ h) hS (fun _ => by kernel_rfl) (by kernel_rfl) ?_
                simp only [Act.put, List.setIfInBounds_toArray, List.set_cons_zero, List.set_cons_succ]
                refine anyS_skip (i := 27) (calm_wide _) rfl (by kernel_rfl) (by kernel_rfl) (by kernel_rfl) (fun _ _ _ h => hQp _ _ _ _ _ h) hS (fun _ => by kernel_rfl) (by kernel_rfl) ?_
                simp only [Act.put, List.setIfInBounds_toArray, List.set_cons_zero, List.set_cons_succ]
                refine anyS_skip (i := 28) (calm_wide _) rfl (by kernel_rfl) (by kernel_rfl) (by kernel_rfl) (fun _ _ _ h => hQp _ _ _ _ _ h) hS (fun _ => by kernel_rfl) (by kernel_rfl) ?_
                simp only [Act.put, List.setIfInBounds_toArray, List.set_cons_zero, List.set_cons_succ]
                refine anyS_skip (i := 29) (calm_wide _) rfl (by kernel_rfl) (by kernel_rfl) (by kernel_rfl) (fun _ _ _ h => hQp _ _ _ _ _ h) hS (fun _ => by kernel_rfl) (by kernel_rfl) ?_
                simp only [Act.put, List.setIfInBounds_toArray, List.set_cons_zero, List.set_cons_succ]
                refine anyS_skip (i := 30) (calm_wide _) rfl (by kernel_rfl) (by kernel_rfl) (by kernel_rfl) (fun _ _ _ h => hQp _ _ _ _ _ h) hS (fun _ => by kernel_rfl) (by kernel_rfl) ?_
                simp only [Act.put, List.setIfInBounds_toArray, List.set_cons_zero, List.set_cons_succ]
                refine anyS_skip (i := 31) (calm_wide _) rfl (by kernel_rfl) (by kernel_rfl) (by kernel_rfl) (fun _ _ _ h => hQp _ _ _ _ _ h) hS (fun _ => by kernel_rfl) (by kernel_rfl) ?_
                simp only [Act.put, List.setIfInBounds_toArray, List.set_cons_zero, List.set_cons_succ]
                refine anyS_skip (i := 32) (calm_wide _) rfl (by kernel_rfl) (by kernel_rfl) (by kernel_rfl) (fun _ _ _ h => hQp _ _ _ _ _ h) hS (fun _ => by kernel_rfl) (by kernel_rfl) ?_
                simp only [Act.put, List.setIfInBounds_toArray, List.set_cons_zero, List.set_cons_succ]
                refine anyS_skip (i := 33) (calm_wide _) rfl (by kernel_rfl) (by kernel_rfl) (by kernel_rfl) (fun _ _ _ h => hQp _ _ _ _ _ h) hS (fun _ => by kernel_rfl) (by kernel_rfl) ?_
                simp only [Act.put, List.setIfInBounds_toArray, List.set_cons_zero, List.set_cons_succ]
                refine anyS_skip (i := 34) (calm_wide _) rfl (by kernel_rfl) (by kernel_rfl) (by kernel_rfl) (fun _ _ _ h => hQp _ _ _ _ _ h) hS (fun _ => by kernel_rfl) (by kernel_rfl) ?_
                simp only [Act.put, List.setIfInBounds_toArray, List.set_cons_zero, List.set_cons_succ]
                refine anyS_take2 (i := 35) (v := ?_) (calm_wide _) rfl (by kernel_rfl) (by kernel_rfl) (by kernel_rfl) (fun _ _ _ h => hQp _ _ _ _ _ h) hS (fun _ => by kernel_rfl) (by kernel_rfl) ?_ ?_
                rotate_left
                · intro w ⟨s1, s2, s3, s4, s5⟩
                  go_simp
                  try rfl
                simp only [Act.put, List.setIfInBounds_toArray, List.set_cons_zero, List.set_cons_succ]
                exact anyS_done (by kernel_rfl) (hfin _ _ ⟨_, _, _, _, _, _, _, _, _, _, _, _, _, _, _, _, _, _, _, _, _, _, _, _, _, _, _, _, _, _, _, _, _, _, _, _, rfl, by rw [Hfin.out]; rfl, hbl2⟩) _
              · have hq2' : decide (3600000 < t) = false := by simpa using hq2
                by_cases hk0 : k = 0
                · have j1 : decide (0 < k) = false := by simp; omega
                  have Hfin : Hid (okk = true) := by
                    show _ = _
                    have hp := Hp0.out
                    rw [if_pos hk0] at hp
                    subst hp
                    rw [Hok.out, hq]
                    simp
                    omega
                  rw [hq]
                  have Hq1 := hide hq1
                  clear hq hq1 hq2 hk0
                  refine anyS_take2 (i := 5) (v := ?_) (calm_wide _) rfl (by kernel_rfl) (by kernel_rfl) (by kernel_rfl) (fun _ _ _ h => hQp _ _ _ _ _ h) hS (fun _ => by kernel_rfl) (by kernel_rfl) ?_ ?_
                  rotate_left
                  · intro w ⟨s1, s2, s3, s4, s5⟩
                    go_simp
                    try rfl
                  simp only [Act.put, List.setIfInBounds_toArray, List.set_cons_zero, List.set_cons_succ]
                  refine anyS_take2 (i := 6) (v := ?_) (calm_wide _) rfl (by kernel_rfl) (by kernel_rfl) (by kernel_rfl) (fun _ _ _ h => hQp _ _ _ _ _ h) hS (fun _ => by kernel_rfl) (by kernel_rfl) ?_ ?_
                  rotate_left
                  · intro w ⟨s1, s2, s3, s4, s5⟩
                    go_simp
                    try rfl
                  simp only [Act.put, List.setIfInBounds_toArray, List.set_cons_zero, List.set_cons_succ]
                  refine anyS_take2 (i := 7) (v := ?_) (calm_wide _) rfl (by kernel_rfl) (by kernel_rfl) (by kernel_rfl) (fun _ _ _ h => hQp _ _ _ _ _ h) hS (fun _ => by kernel_rfl) (by kernel_rfl) ?_ ?_
                  rotate_left
                  · intro w ⟨s1, s2, s3, s4, s5⟩
                    go_simp
                    try rfl
                  simp only [Act.put, List.setIfInBounds_toArray, List.set_cons_zero, List.set_cons_succ]
                  refine anyS_take2 (i := 8) (v := ?_) (calm_wide _) rfl (by kernel_rfl) (by kernel_rfl) (by kernel_rfl) (fun _ _ _ h => hQp _ _ _ _ _ h) hS (fun _ => by kernel_rfl) (by kernel_rfl) ?_ ?_
                  rotate_left
                  · intro w ⟨s1, s2, s3, s4, s5⟩
                    go_simp
                    try rfl
                  simp only [Act.put, List.setIfInBounds_toArray, List.set_cons_zero, List.set_cons_succ]
                  refine anyS_take2 (i := 9) (v := ?_) (calm_wide _) rfl (by kernel_rfl) (by kernel_rfl) (by kernel_rfl) (fun _ _ _ h => hQp _ _ _ _ _ h) hS (fun _ => by kernel_rfl) (by kernel_rfl) ?_ ?_
                  rotate_left
                  · intro w ⟨s1, s2, s3, s4, s5⟩
                    go_simp
                    try rfl
                  simp only [Act.put, List.setIfInBounds_toArray, List.set_cons_zero, List.set_cons_succ]
                  refine anyS_take2 (i := 10) (v := ?_) (calm_wide _) rfl (by kernel_rfl) (by kernel_rfl) (by kernel_rfl) (fun _ _ _ h => hQp _ _ _ _ _ h) hS (fun _ => by kernel_rfl) (by kernel_rfl) ?_ ?_
                  rotate_left
                  · intro w ⟨s1, s2, s3, s4, s5⟩
                    go_simp
                    try rfl
                  simp only [Act.put, List.setIfInBounds_toArray, List.set_cons_zero, List.set_cons_succ]
                  refine anyS_take2 (i := 11) (v := ?_) (calm_wide _) rfl (by kernel_rfl) (by kernel_rfl) (by kernel_rfl) (fun _ _ _ h => hQp _ _ _ _ _ h) hS (fun _ => by kernel_rfl) (by kernel_rfl) ?_ ?_
                  rotate_left
                  · intro w ⟨s1, s2, s3, s4, s5⟩
                    go_simp
                    try rfl
                  simp only [Act.put, List.setIfInBounds_toArray, List.set_cons_zero, List.set_cons_succ]
                  refine anyS_take2 (i := 12) (v := ?_) (calm_wide _) rfl (by kernel_rfl) (by kernel_rfl) (by kernel_rfl) (fun _ _ _ h => hQp _ _ _ _ _ h) hS (fun _ => by kernel_rfl) (by kernel_rfl) ?_ ?_
                  rotate_left
                  · intro w ⟨s1, s2, s3, s4, s5⟩
                    go_simp
                    try rfl
                  simp only [Act.put, List.setIfInBounds_toArray, List.set_cons_zero, List.set_cons_succ]
                  refine anyS_take2 (i := 13) (v := ?_) (calm_wide _) rfl (by kernel_rfl) (by kernel_rfl) (by kernel_rfl) (fun _ _ _ h => hQp _ _ _ _ _ h) hS (fun _ => by kernel_rfl) (by kernel_rfl) ?_ ?_
                  rotate_left
                  · intro w ⟨s1, s2, s3, s4, s5⟩
                    go_simp
                    try rfl
                  simp only [Act.put, List.setIfInBounds_toArray, List.set_cons_zero, List.set_cons_succ]
                  refine anyS_take2 (i := 14) (v := ?_) (calm_wide _) rfl (by kernel_rfl) (by kernel_rfl) (by kernel_rfl) (fun _ _ _ h => hQp _ _ _ _ _ h) hS (fun _ => by kernel_rfl) (by kernel_rfl) ?_ ?_
                  rotate_left
                  · intro w ⟨s1, s2, s3, s4, s5⟩
                    go_simp
                    try rfl
                  simp only [Act.put, List.setIfInBounds_toArray, List.set_cons_zero, List.set_cons_succ]
                  refine anyS_take2 (i := 15) (v := ?_) (calm_wide _) rfl (by kernel_rfl) (by kernel_rfl) (by kernel_rfl) (fun _ _ _ h => hQp _ _ _ _ _ h) hS (fun _ => by kernel_rfl) (by kernel_rfl) ?_ ?_
                  rotate_left
                  · intro w ⟨s1, s2, s3, s4, s5⟩
                    go_simp
                    try rfl
                  simp only [Act.put, List.setIfInBounds_toArray, List.set_cons_zero, List.set_cons_succ]
                  refine anyS_take2 (i := 16) (v := ?_) (calm_wide _) rfl (by kernel_rfl) (by kernel_rfl) (by kernel_rfl) (fun _ _ _ h => hQp _ _ _ _ _ h) hS (fun _ => by kernel_rfl) (by kernel_rfl) ?_ ?_
                  rotate_left
                  · intro w ⟨s1, s2, s3, s4, s5⟩
                    go_simp
                    try rfl
                  simp only [Act.put, List.setIfInBounds_toArray, List.set_cons_zero, List.set_cons_succ]
                  refine anyS_take2 (i := 17) (v := ?_) (calm_wide _) rfl (by kernel_rfl) (by kernel_rfl) (by kernel_rfl) (fun _ _ _ h => hQp _ _ _ _ _ h) hS (fun _ => by kernel_rfl) (by kernel_rfl) ?_ ?_
                  rotate_left
                  · intro w ⟨s1, s2, s3, s4, s5⟩
                    go_simp
                    try rfl
                  simp only [Act.put, List.setIfInBounds_toArray, List.set_cons_zero, List.set_cons_succ]
                  refine anyS_take2 (i := 18) (v := ?_) (calm_wide _) rfl (by kernel_rfl) (by kernel_rfl) (by kernel_rfl) (fun _ _ _ h => hQp _ _ _ _ _ h) hS (fun _ => by kernel_rfl) (by kernel_rfl) ?_ ?_
                  rotate_left
                  · intro w ⟨s1, s2, s3, s4, s5⟩
                    go_simp
                    try rfl
                  simp only [Act.put, List.setIfInBounds_toArray, List.set_cons_zero, List.set_cons_succ]
                  refine anyS_take2 (i := 19) (v := ?_) (calm_wide _) rfl (by kernel_rfl) (by kernel_rfl) (by kernel_rfl) (fun _ _ _ h => hQp _ _ _ _ _ h) hS (fun _ => by kernel_rfl) (by kernel_rfl) ?_ ?_
                  rotate_left
                  · intro w ⟨s1, s2, s3, s4, s5⟩
                    go_simp
                    try rfl
                  simp only [Act.put, List.setIfInBounds_toArray, List.set_cons_zero, List.set_cons_succ]
                  refine anyS_take2 (i := 20) (v := ?_) (calm_wide _) rfl (by kernel_rfl) (by kernel_rfl) (by kernel_rfl) (fun _ _ _ h => hQp _ _ _ _ _ h) hS (fun _ => by kernel_rfl) (by kernel_rfl) ?_ ?_
                  rotate_left
                  · intro w ⟨s1, s2, s3, s4, s5⟩
                    go_simp
                    try rfl
                  simp only [Act.put, List.setIfInBounds_toArray, List.set_cons_zero, List.set_cons_succ]
                  refine anyS_take2 (i := 21) (v := ?_) (calm_wide _) rfl (by kernel_rfl) (by kernel_rfl) (by kernel_rfl) (fun _ _ _ h => hQp _ _ _ _ _ h) hS (fun _ => by kernel_rfl) (by kernel_rfl) ?_ ?_
                  rotate_left
                  · intro w ⟨s1, s2, s3, s4, s5⟩
                    go_simp
                    try rfl
                  simp only [Act.put, List.setIfInBounds_toArray, List.set_cons_zero, List.set_cons_succ]
                  refine anyS_take2 (i := 22) (v := ?_) (calm_wide _) rfl (by kernel_rfl) (by kernel_rfl) (by kernel_rfl) (fun _ _ _ h => hQp _ _ _ _ _ h) hS (fun _ => by kernel_rfl) (by kernel_rfl) ?_ ?_
                  rotate_left
                  · intro w ⟨s1, s2, s3, s4, s5⟩
                    go_simp
                    try rfl
                  simp only [Act.put, List.setIfInBounds_toArray, List.set_cons_zero, List.set_cons_succ]
                  refine anyS_take2 (i := 23) (v := ?_) (calm_wide _) rfl (by kernel_rfl) (by kernel_rfl) (by kernel_rfl) (fun _ _ _ h => hQp _ _ _ _ _ h) hS (fun _ => by kernel_rfl) (by kernel_rfl) ?_ ?_
                  rotate_left
                  · intro w ⟨s1, s2, s3, s4, s5⟩
                    go_simp
                    try rfl
                  simp only [Act.put, List.setIfInBounds_toArray, List.set_cons_zero, List.set_cons_succ]
                  refine anyS_skip (i := 24) (calm_wide _) rfl (by kernel_rfl) (by kernel_rfl) (by kernel_rfl) (fun _ _ _ h => hQp _ _ _ _ _ h) hS (fun _ => by kernel_rfl) (by kernel_rfl) ?_
                  simp only [Act.put, List.setIfInBounds_toArray, List.set_cons_zero, List.set_cons_succ]
                  refine anyS_skip (i := 25) (calm_wide _) rfl (by kernel_rfl) (by kernel_rfl) (by kernel_rfl) (fun _ _ _ h => hQp _ _ _ _ _ h) hS (fun _ => by kernel_rfl) (by kernel_rfl) ?_
                  simp only [Act.put, List.setIfInBounds_toArray, List.set_cons_zero, List.set_cons_succ]
                  refine anyS_skip (i := 26) (calm_wide _) rfl (by kernel_rfl) (by kernel_rfl) (by kernel_rfl) (fun _ _ _ h => hQp _ _ _ _ _ h) hS (fun _ => by kernel_rfl) (by kernel_rfl) ?_
                  simp only [Act.put, List.setIfInBounds_toArray, List.set_cons_zero, List.set_cons_succ]
                  refine anyS_skip (i := 27) (calm_wide _) rfl (by kernel_rfl) (by kernel_rfl) (by kernel_rfl) (fun _ _ _ h => hQp _ _ _ _ _ h) hS (fun _ => by kernel_rfl) (by kernel_rfl) ?_
                  simp only [Act.put, List.setIfInBounds_toArray, List.set_cons_zero, List.set_cons_succ]
                  refine anyS_skip (i := 28) (calm_wide _) rfl (by kernel_rfl) (by kernel_rfl) (by kernel_rfl) (fun _ _ _ h => hQp _ _ _ _ _ h) hS (fun _ => by kernel_rfl) (by kernel_rfl) ?_
                  simp only [Act.put, List.setIfInBounds_toArray, List.set_cons_zero, List.set_cons_succ]
                  refine anyS_skip (i := 29) (calm_wide _) rfl (by kernel_rfl) (by kernel_rfl) (by kernel_rfl) (fun _ _ _ h => hQp _ _ _ _ _ h) hS (fun _ => by kernel_rfl) (by kernel_rfl) ?_
                  simp only [Act.put, List.setIfInBounds_toArray, List.set_cons_zero, List.set_cons_succ]
                  refine anyS_skip (i := 30) (calm_wide _) rfl (by kernel_rfl) (by kernel_rfl) (by kernel_rfl) (fun _ _ _ h => hQp _ _ _ _ _ h) hS (fun _ => by kernel_rfl) (by kernel_rfl) ?_
                  simp only [Act.put, List.setIfInBounds_toArray, List.set_cons_zero, List.set_cons_succ]
                  refine anyS_skip (i := 31) (calm_wide _) rfl (by kernel_rfl) (by kernel_rfl) (by kernel_rfl) (fun _ _ _ h => hQp _ _ _ _ _ h) hS (fun _ => by kernel_rfl) (by kernel_rfl) ?_
                  simp only [Act.put, List.setIfInBounds_toArray, List.set_cons_zero, List.set_cons_succ]
                  refine anyS_skip (i := 32) (calm_wide _) rfl (by kernel_rfl) (by kernel_rfl) (by kernel_rfl) (fun _ _ _ h => hQp _ _ _ _ _ h) hS (fun _ => by kernel_rfl) (by kernel_rfl) ?_
                  simp only [Act.put, List.setIfInBounds_toArray, List.set_cons_zero, List.set_cons_succ]
                  refine anyS_skip (i := 33) (calm_wide _) rfl (by kernel_rfl) (by kernel_rfl) (by kernel_rfl) (fun _ _ _ h => hQp _ _ _ _ _ h) hS (fun _ => by kernel_rfl) (by kernel_rfl) ?_
                  simp only [Act.put, List.setIfInBounds_toArray, List.set_cons_zero, List.set_cons_succ]
                  refine anyS_take2 (i := 34) (v := ?_) (calm_wide _) rfl (by kernel_rfl) (by kernel_rfl) (by kernel_rfl) (fun _ _ _ h => hQp _ _ _ _ _ h) hS (fun _ => by kernel_rfl) (by kernel_rfl) ?_ ?_
                  rotate_left
                  · intro w ⟨s1, s2, s3, s4, s5⟩
                    go_simp
                    try rfl
                  simp only [Act.put, List.setIfInBounds_toArray, List.set_cons_zero, List.set_cons_succ]
                  refine anyS_take2 (i := 35) (v := ?_) (calm_wide _) rfl (by kernel_rfl) (by kernel_rfl) (by kernel_rfl) (fun _ _ _ h => hQp _ _ _ _ _ h) hS (fun _ => by kernel_rfl) (by kernel_rfl) ?_ ?_
                  rotate_left
                  · intro w ⟨s1, s2, s3, s4, s5⟩
                    go_simp
                    try rfl
                  simp only [Act.put, List.setIfInBounds_toArray, List.set_cons_zero, List.set_cons_succ]
                  exact anyS_done (by kernel_rfl) (hfin _ _ ⟨_, _, _, _, _, _, _, _, _, _, _, _, _, _, _, _, _, _, _, _, _, _, _, _, _, _, _, _, _, _, _, _, _, _, _, _, rfl, by rw [Hfin.out]; rfl, hbl2⟩) _
                · have j1 : decide (0 < k) = true := by simp; omega
                  have j2 : IntKind.i64.wrap ((k : Int) - 1) = (k : Int) - 1 := IntWalk.i64_in _ (by omega)
                  have j3 : ((k : Int) - 1).toNat = k - 1 := by omega
                  have j4 : (1 : Int) ≤ (k : Int) := by omega
                  have j5 : (k : Int) - 1 < nT := by omega
                  by_cases hq3 : t ≤ u
                  · have hq3' : decide (t ≤ u) = true := by simpa using hq3
                    have Hfin : Hid (okk = false) := by
                      show _ = _
                      have hp := Hp0.out
                      rw [if_neg hk0] at hp
                      subst hp
                      rw [Hok.out]
                      simp
                      intro _ h
                      omega
                    rw [hq]
                    clear hq hq1 hq2 hk0
                    refine anyS_take2 (i := 5) (v := ?_) (calm_wide _) rfl (by kernel_rfl) (by kernel_rfl) (by kernel_rfl) (fun _ _ _ h => hQp _ _ _ _ _ h) hS (fun _ => by kernel_rfl) (by kernel_rfl) ?_ ?_
                    rotate_left
                    · intro w ⟨s1, s2, s3, s4, s5⟩
                      go_simp
                      try rfl
                    simp only [Act.put, List.setIfInBounds_toArray, List.set_cons_zero, List.set_cons_succ]
                    refine anyS_take2 (i := 6) (v := ?_) (calm_wide _) rfl (by kernel_rfl) (by kernel_rfl) (by kernel_rfl) (fun _ _ _ h => hQp _ _ _ _ _ h) hS (fun _ => by kernel_rfl) (by kernel_rfl) ?_ ?_
                    rotate_left
                    · intro w ⟨s1, s2, s3, s4, s5⟩
                      go_simp
                      try rfl
                    simp only [Act.put, List.setIfInBounds_toArray, List.set_cons_zero, List.set_cons_succ]
                    refine anyS_take2 (i := 7) (v := ?_) (calm_wide _) rfl (by kernel_rfl) (by kernel_rfl) (by kernel_rfl) (fun _ _ _ h => hQp _ _ _ _ _ h) hS (fun _ => by kernel_rfl) (by kernel_rfl) ?_ ?_
                    rotate_left
                    · intro w ⟨s1, s2, s3, s4, s5⟩
                      go_simp
                      try rfl
                    simp only [Act.put, List.setIfInBounds_toArray, List.set_cons_zero, List.set_cons_succ]
                    refine anyS_take2 (i := 8) (v := ?_) (calm_wide _) rfl (by kernel_rfl) (by kernel_rfl) (by kernel_rfl) (fun _ _ _ h => hQp _ _ _ _ _ h) hS (fun _ => by kernel_rfl) (by kernel_rfl) ?_ ?_
                    rotate_left
                    · intro w ⟨s1, s2, s3, s4, s5⟩
                      go_simp
                      try rfl
                    simp only [Act.put, List.setIfInBounds_toArray, List.set_cons_zero, List.set_cons_succ]
                    refine anyS_take2 (i := 9) (v := ?_) (calm_wide _) rfl (by kernel_rfl) (by kernel_rfl) (by kernel_rfl) (fun _ _ _ h => hQp _ _ _ _ _ h) hS (fun _ => by kernel_rfl) (by kernel_rfl) ?_ ?_
                    rotate_left
                    · intro w ⟨s1, s2, s3, s4, s5⟩
                      go_simp
                      try rfl
                    simp only [Act.put, List.setIfInBounds_toArray, List.set_cons_zero, List.set_cons_succ]
                    refine anyS_take2 (i := 10) (v := ?_) (calm_wide _) rfl (by kernel_rfl) (by kernel_rfl) (by kernel_rfl) (fun _ _ _ h => hQp _ _ _ _ _ h) hS (fun _ => by kernel_rfl) (by kernel_rfl) ?_ ?_
                    rotate_left
                    · intro w ⟨s1, s2, s3, s4, s5⟩
                      go_simp
                      try rfl
                    simp only [Act.put, List.setIfInBounds_toArray, List.set_cons_zero, List.set_cons_succ]
                    refine anyS_take2 (i := 11) (v := ?_) (calm_wide _) rfl (by kernel_rfl) (by kernel_rfl) (by kernel_rfl) (fun _ _ _ h => hQp _ _ _ _ _ h) hS (fun _ => by kernel_rfl) (by kernel_rfl) ?_ ?_
                    rotate_left
                    · intro w ⟨s1, s2, s3, s4, s5⟩
                      go_simp
                      try rfl
                    simp only [Act.put, List.setIfInBounds_toArray, List.set_cons_zero, List.set_cons_succ]
                    refine anyS_take2 (i := 12) (v := ?_) (calm_wide _) rfl (by kernel_rfl) (by kernel_rfl) (by kernel_rfl) (fun _ _ _ h => hQp _ _ _ _ _ h) hS (fun _ => by kernel_rfl) (by kernel_rfl) ?_ ?_
                    rotate_left
                    · intro w ⟨s1, s2, s3, s4, s5⟩
                      go_simp
                      try rfl
                    simp only [Act.put, List.setIfInBounds_toArray, List.set_cons_zero, List.set_cons_succ]
                    refine anyS_take2 (i := 13) (v := ?_) (calm_wide _) rfl (by kernel_rfl) (by kernel_rfl) (by kernel_rfl) (fun _ _ _ h => hQp _ _ _ _ _ h) hS (fun _ => by kernel_rfl) (by kernel_rfl) ?_ ?_
                    rotate_left
                    · intro w ⟨s1, s2, s3, s4, s5⟩
                      go_simp
                      try rfl
                    simp only [Act.put, List.setIfInBounds_toArray, List.set_cons_zero, List.set_cons_succ]
                    refine anyS_take2 (i := 14) (v := ?_) (calm_wide _) rfl (by kernel_rfl) (by kernel_rfl) (by kernel_rfl) (fun _ _ _ h => hQp _ _ _ _ _ h) hS (fun _ => by kernel_rfl) (by kernel_rfl) ?_ ?_
                    rotate_left
                    · intro w ⟨s1, s2, s3, s4, s5⟩
                      go_simp
                      try rfl
                    simp only [Act.put, List.setIfInBounds_toArray, List.set_cons_zero, List.set_cons_succ]
                    refine anyS_take2 (i := 15) (v := ?_) (calm_wide _) rfl (by kernel_rfl) (by kernel_rfl) (by kernel_rfl) (fun _ _ _ h => hQp _ _ _ _ _ h) hS (fun _ => by kernel_rfl) (by kernel_rfl) ?_ ?_
                    rotate_left
                    · intro w ⟨s1, s2, s3, s4, s5⟩
                      go_simp
                      try rfl
                    simp only [Act.put, List.setIfInBounds_toArray, List.set_cons_zero, List.set_cons_succ]
                    refine anyS_take2 (i := 16) (v := ?_) (calm_wide _) rfl (by kernel_rfl) (by kernel_rfl) (by kernel_rfl) (fun _ _ _ h => hQp _ _ _ _ _ h) hS (fun _ => by kernel_rfl) (by kernel_rfl) ?_ ?_
                    rotate_left
                    · intro w ⟨s1, s2, s3, s4, s5⟩
                      go_simp
                      try rfl
                    simp only [Act.put, List.setIfInBounds_toArray, List.set_cons_zero, List.set_cons_succ]
                    refine anyS_take2 (i := 17) (v := ?_) (calm_wide _) rfl (by kernel_rfl) (by kernel_rfl) (by kernel_rfl) (fun _ _ _ h => hQp _ _ _ _ _ h) hS (fun _ => by kernel_rfl) (by kernel_rfl) ?_ ?_
                    rotate_left
                    · intro w ⟨s1, s2, s3, s4, s5⟩
                      go_simp
                      try rfl
                    simp only [Act.put, List.setIfInBounds_toArray, List.set_cons_zero, List.set_cons_succ]
                    refine anyS_take2 (i := 18) (v := ?_) (calm_wide _) rfl (by kernel_rfl) (by kernel_rfl) (by kernel_rfl) (fun _ _ _ h => hQp _ _ _ _ _ h) hS (fun _ => by kernel_rfl) (by kernel_rfl) ?_ ?_
                    rotate_left
                    · intro w ⟨s1, s2, s3, s4, s5⟩
                      go_simp
                      try rfl
                    simp only [Act.put, List.setIfInBounds_toArray, List.set_cons_zero, List.set_cons_succ]
                    refine anyS_take2 (i := 19) (v := ?_) (calm_wide _) rfl (by kernel_rfl) (by kernel_rfl) (by kernel_rfl) (fun _ _ _ h => hQp _ _ _ _ _ h) hS (fun _ => by kernel_rfl) (by kernel_rfl) ?_ ?_
                    rotate_left
                    · intro w ⟨s1, s2, s3, s4, s5⟩
                      go_simp
                      try rfl
                    simp only [Act.put, List.setIfInBounds_toArray, List.set_cons_zero, List.set_cons_succ]
                    refine anyS_take2 (i := 20) (v := ?_) (calm_wide _) rfl (by kernel_rfl) (by kernel_rfl) (by kernel_rfl) (fun _ _ _ h => hQp _ _ _ _ _ h) hS (fun _ => by kernel_rfl) (by kernel_rfl) ?_ ?_
                    rotate_left
                    · intro w ⟨s1, s2, s3, s4, s5⟩
                      go_simp
                      try rfl
                    simp only [Act.put, List.setIfInBounds_toArray, List.set_cons_zero, List.set_cons_succ]
                    refine anyS_take2 (i := 21) (v := ?_) (calm_wide _) rfl (by kernel_rfl) (by kernel_rfl) (by kernel_rfl) (fun _ _ _ h => hQp _ _ _ _ _ h) hS (fun _ => by kernel_rfl) (by kernel_rfl) ?_ ?_
                    rotate_left
                    · intro w ⟨s1, s2, s3, s4, s5⟩
                      go_simp
                      try rfl
                    simp only [Act.put, List.setIfInBounds_toArray, List.set_cons_zero, List.set_cons_succ]
                    refine anyS_take2 (i := 22) (v := ?_) (calm_wide _) rfl (by kernel_rfl) (by kernel_rfl) (by kernel_rfl) (fun _ _ _ h => hQp _ _ _ _ _ h) hS (fun _ => by kernel_rfl) (by kernel_rfl) ?_ ?_
                    rotate_left
                    · intro w ⟨s1, s2, s3, s4, s5⟩
                      go_simp
                      try rfl
                    simp only [Act.put, List.setIfInBounds_toArray, List.set_cons_zero, List.set_cons_succ]
                    refine anyS_take2 (i := 23) (v := ?_) (calm_wide _) rfl (by kernel_rfl) (by kernel_rfl) (by kernel_rfl) (fun _ _ _ h => hQp _ _ _ _ _ h) hS (fun _ => by kernel_rfl) (by kernel_rfl) ?_ ?_
                    rotate_left
                    · intro w ⟨s1, s2, s3, s4, s5⟩
                      go_simp
                      try rfl
                    simp only [Act.put, List.setIfInBounds_toArray, List.set_cons_zero, List.set_cons_succ]
                    refine anyS_take2 (i := 24) (v := ?_) (calm_wide _) rfl (by kernel_rfl) (by kernel_rfl) (by kernel_rfl) (fun _ _ _ h => hQp _ _ _ _ _ h) hS (fun _ => by kernel_rfl) (by kernel_rfl) ?_ ?_
                    rotate_left
                    · intro w ⟨s1, s2, s3, s4, s5⟩
                      go_simp
                      try rfl
                    simp only [Act.put, List.setIfInBounds_toArray, List.set_cons_zero, List.set_cons_succ]
                    refine anyS_take2 (i := 25) (v := ?_) (calm_wide _) rfl (by kernel_rfl) (by kernel_rfl) (by kernel_rfl) (fun _ _ _ h => hQp _ _ _ _ _ h) hS (fun _ => by kernel_rfl) (by kernel_rfl) ?_ ?_
                    rotate_left
                    · intro w ⟨s1, s2, s3, s4, s5⟩
                      go_simp
                      try rfl
                    simp only [Act.put, List.setIfInBounds_toArray, List.set_cons_zero, List.set_cons_succ]
                    refine anyS_take2 (i := 26) (v := ?_) (calm_wide _) rfl (by kernel_rfl) (by kernel_rfl) (by kernel_rfl) (fun _ _ _ h => hQp _ _ _ _ _ h) hS (fun _ => by kernel_rfl) (by kernel_rfl) ?_ ?_
                    rotate_left
                    · intro w ⟨s1, s2, s3, s4, s5⟩
                      go_simp
                      try rfl
                    simp only [Act.put, List.setIfInBounds_toArray, List.set_cons_zero, List.set_cons_succ]
                    refine anyS_take2 (i := 27) (v := ?_) (calm_wide _) rfl (by kernel_rfl) (by kernel_rfl) (by kernel_rfl) (fun _ _ _ h => hQp _ _ _ _ _ h) hS (fun _ => by kernel_rfl) (by kernel_rfl) ?_ ?_
                    rotate_left
                    · intro w ⟨s1, s2, s3, s4, s5⟩
                      go_simp
                      try rfl
                    simp only [Act.put, List.setIfInBounds_toArray, List.set_cons_zero, List.set_cons_succ]
                    refine anyS_take2 (i := 28) (v := ?_) (calm_wide _) rfl (by kernel_rfl) (by kernel_rfl) (by kernel_rfl) (fun _ _ _ h => hQp _ _ _ _ _ h) hS (fun _ => by kernel_rfl) (by kernel_rfl) ?_ ?_
                    rotate_left
                    · intro w ⟨s1, s2, s3, s4, s5⟩
                      go_simp
                      try rfl
                    simp only [Act.put, List.setIfInBounds_toArray, List.set_cons_zero, List.set_cons_succ]
                    refine anyS_take2 (i := 29) (v := ?_) (calm_wide _) rfl (by kernel_rfl) (by kernel_rfl) (by kernel_rfl) (fun _ _ _ h => hQp _ _ _ _ _ h) hS (fun _ => by kernel_rfl) (by kernel_rfl) ?_ ?_
                    rotate_left
                    · intro w ⟨s1, s2, s3, s4, s5⟩
                      go_simp
                      try rfl
                    simp only [Act.put, List.setIfInBounds_toArray, List.set_cons_zero, List.set_cons_succ]
                    refine anyS_take2 (i := 30) (v := ?_) (calm_wide _) rfl (by kernel_rfl) (by kernel_rfl) (by kernel_rfl) (fun _ _ _ h => hQp _ _ _ _ _ h) hS (fun _ => by kernel_rfl) (by kernel_rfl) ?_ ?_
                    rotate_left
                    · intro w ⟨s1, s2, s3, s4, s5⟩
                      go_simp
                      try rfl
                    simp only [Act.put, List.setIfInBounds_toArray, List.set_cons_zero, List.set_cons_succ]
                    refine anyS_take2 (i := 31) (v := ?_) (calm_wide _) rfl (by kernel_rfl) (by kernel_rfl) (by kernel_rfl) (fun _ _ _ h => hQp _ _ _ _ _ h) hS (fun _ => by kernel_rfl) (by kernel_rfl) ?_ ?_
                    rotate_left
                    · intro w ⟨s1, s2, s3, s4, s5⟩
                      go_simp
                      try rfl
                    simp only [Act.put, List.setIfInBounds_toArray, List.set_cons_zero, List.set_cons_succ]
                    refine anyS_take2 (i := 32) (v := ?_) (calm_wide _) rfl (by kernel_rfl) (by kernel_rfl) (by kernel_rfl) (fun _ _ _ h => hQp _ _ _ _ _ h) hS (fun _ => by kernel_rfl) (by kernel_rfl) ?_ ?_
                    rotate_left
                    · intro w ⟨s1, s2, s3, s4, s5⟩
                      go_simp
                      try rfl
                    simp only [Act.put, List.setIfInBounds_toArray, List.set_cons_zero, List.set_cons_succ]
                    refine anyS_take2 (i := 33) (v := ?_) (calm_wide _) rfl (by kernel_rfl) (by kernel_rfl) (by kernel_rfl) (fun _ _ _ h => hQp _ _ _ _ _ h) hS (fun _ => by kernel_rfl) (by kernel_rfl) ?_ ?_
                    rotate_left
                    · intro w ⟨s1, s2, s3, s4, s5⟩
                      go_simp
                      try rfl
                    simp only [Act.put, List.setIfInBounds_toArray, List.set_cons_zero, List.set_cons_succ]
                    refine anyS_take2 (i := 34) (v := ?_) (calm_wide _) rfl (by kernel_rfl) (by kernel_rfl) (by kernel_rfl) (fun _ _ _ h => hQp _ _ _ _ _ h) hS (fun _ => by kernel_rfl) (by kernel_rfl) ?_ ?_
                    rotate_left
                    · intro w ⟨s1, s2, s3, s4, s5⟩
                      go_simp
                      try rfl
                    simp only [Act.put, List.setIfInBounds_toArray, List.set_cons_zero, List.set_cons_succ]
                    refine anyS_take2 (i := 35) (v := ?_) (calm_wide _) rfl (by kernel_rfl) (by kernel_rfl) (by kernel_rfl) (fun _ _ _ h => hQp _ _ _ _ _ h) hS (fun _ => by kernel_rfl) (by kernel_rfl) ?_ ?_
                    rotate_left
                    · intro w ⟨s1, s2, s3, s4, s5⟩
                      go_simp
                      try rfl
                    simp only [Act.put, List.setIfInBounds_toArray, List.set_cons_zero, List.set_cons_succ]
                    exact anyS_done (by kernel_rfl) (hfin _ _ ⟨_, _, _, _, _, _, _, _, _, _, _, _, _, _, _, _, _, _, _, _, _, _, _, _, _, _, _, _, _, _, _, _, _, _, _, _, rfl, by rw [Hfin.out]; rfl, hbl2⟩) _
                  · have hq3' : decide (t ≤ u) = false := by simpa using hq3
                    have Hfin : Hid (okk = true) := by
                      show _ = _
                      have hp := Hp0.out
                      rw [if_neg hk0] at hp
                      subst hp
                      rw [Hok.out, hq]
                      simp
                      omega
                    rw [hq]
                    have Hq1 := hide hq1
                    clear hq hq1 hq2 hk0 hq3
                    refine anyS_take2 (i := 5) (v := ?_) (calm_wide _) rfl (by kernel_rfl) (by kernel_rfl) (by kernel_rfl) (fun _ _ _ h => hQp _ _ _ _ _ h) hS (fun _ => by kernel_rfl) (by kernel_rfl) ?_ ?_
                    rotate_left
                    · intro w ⟨s1, s2, s3, s4, s5⟩
                      go_simp
                      try rfl
                    simp only [Act.put, List.setIfInBounds_toArray, List.set_cons_zero, List.set_cons_succ]
                    refine anyS_take2 (i := 6) (v := ?_) (calm_wide _) rfl (by kernel_rfl) (by kernel_rfl) (by kernel_rfl) (fun _ _ _ h => hQp _ _ _ _ _ h) hS (fun _ => by kernel_rfl) (by kernel_rfl) ?_ ?_
                    rotate_left
                    · intro w ⟨s1, s2, s3, s4, s5⟩
                      go_simp
                      try rfl
                    simp only [Act.put, List.setIfInBounds_toArray, List.set_cons_zero, List.set_cons_succ]
                    refine anyS_take2 (i := 7) (v := ?_) (calm_wide _) rfl (by kernel_rfl) (by kernel_rfl) (by kernel_rfl) (fun _ _ _ h => hQp _ _ _ _ _ h) hS (fun _ => by kernel_rfl) (by kernel_rfl) ?_ ?_
                    rotate_left
                    · intro w ⟨s1, s2, s3, s4, s5⟩
                      go_simp
                      try rfl
                    simp only [Act.put, List.setIfInBounds_toArray, List.set_cons_zero, List.set_cons_succ]
                    refine anyS_take2 (i := 8) (v := ?_) (calm_wide _) rfl (by kernel_rfl) (by kernel_rfl) (by kernel_rfl) (fun _ _ _ h => hQp _ _ _ _ _ h) hS (fun _ => by kernel_rfl) (by kernel_rfl) ?_ ?_
                    rotate_left
                    · intro w ⟨s1, s2, s3, s4, s5⟩
                      go_simp
                      try rfl
                    simp only [Act.put, List.setIfInBounds_toArray, List.set_cons_zero, List.set_cons_succ]
                    refine anyS_take2 (i := 9) (v := ?_) (calm_wide _) rfl (by kernel_rfl) (by kernel_rfl) (by kernel_rfl) (fun _ _ _ h => hQp _ _ _ _ _ h) hS (fun _ => by kernel_rfl) (by kernel_rfl) ?_ ?_
                    rotate_left
                    · intro w ⟨s1, s2, s3, s4, s5⟩
                      go_simp
                      try rfl
                    simp only [Act.put, List.setIfInBounds_toArray, List.set_cons_zero, List.set_cons_succ]
                    refine anyS_take2 (i := 10) (v := ?_) (calm_wide _) rfl (by kernel_rfl) (by kernel_rfl) (by kernel_rfl) (fun _ _ _ h => hQp _ _ _ _ _ h) hS (fun _ => by kernel_rfl) (by kernel_rfl) ?_ ?_
                    rotate_left
                    · intro w ⟨s1, s2, s3, s4, s5⟩
                      go_simp
                      try rfl
                    simp only [Act.put, List.setIfInBounds_toArray, List.set_cons_zero, List.set_cons_succ]
                    refine anyS_take2 (i := 11) (v := ?_) (calm_wide _) rfl (by kernel_rfl) (by kernel_rfl) (by kernel_rfl) (fun _ _ _ h => hQp _ _ _ _ _ h) hS (fun _ => by kernel_rfl) (by kernel_rfl) ?_ ?_
                    rotate_left
                    · intro w ⟨s1, s2, s3, s4, s5⟩
                      go_simp
                      try rfl
                    simp only [Act.put, List.setIfInBounds_toArray, List.set_cons_zero, List.set_cons_succ]
                    refine anyS_take2 (i := 12) (v := ?_) (calm_wide _) rfl (by kernel_rfl) (by kernel_rfl) (by kernel_rfl) (fun _ _ _ h => hQp _ _ _ _ _ h) hS (fun _ => by kernel_rfl) (by kernel_rfl) ?_ ?_
                    rotate_left
                    · intro w ⟨s1, s2, s3, s4, s5⟩
                      go_simp
                      try rfl
                    simp only [Act.put, List.setIfInBounds_toArray, List.set_cons_zero, List.set_cons_succ]
                    refine anyS_take2 (i := 13) (v := ?_) (calm_wide _) rfl (by kernel_rfl) (by kernel_rfl) (by kernel_rfl) (fun _ _ _ h => hQp _ _ _ _ _ h) hS (fun _ => by kernel_rfl) (by kernel_rfl) ?_ ?_
                    rotate_left
                    · intro w ⟨s1, s2, s3, s4, s5⟩
                      go_simp
                      try rfl
                    simp only [Act.put, List.setIfInBounds_toArray, List.set_cons_zero, List.set_cons_succ]
                    refine anyS_take2 (i := 14) (v := ?_) (calm_wide _) rfl (by kernel_rfl) (by kernel_rfl) (by kernel_rfl) (fun _ _ _ h => hQp _ _ _ _ _ h) hS (fun _ => by kernel_rfl) (by kernel_rfl) ?_ ?_
                    rotate_left
                    · intro w ⟨s1, s2, s3, s4, s5⟩
                      go_simp
                      try rfl
                    simp only [Act.put, List.setIfInBounds_toArray, List.set_cons_zero, List.set_cons_succ]
                    refine anyS_take2 (i := 15) (v := ?_) (calm_wide _) rfl (by kernel_rfl) (by kernel_rfl) (by kernel_rfl) (fun _ _ _ h => hQp _ _ _ _ _ h) hS (fun _ => by kernel_rfl) (by kernel_rfl) ?_ ?_
                    rotate_left
                    · intro w ⟨s1, s2, s3, s4, s5⟩
                      go_simp
                      try rfl
                    simp only [Act.put, List.setIfInBounds_toArray, List.set_cons_zero, List.set_cons_succ]
                    refine anyS_take2 (i := 16) (v := ?_) (calm_wide _) rfl (by kernel_rfl) (by kernel_rfl) (by kernel_rfl) (fun _ _ _ h => hQp _ _ _ _ _ h) hS (fun _ => by kernel_rfl) (by kernel_rfl) ?_ ?_
                    rotate_left
                    · intro w ⟨s1, s2, s3, s4, s5⟩
                      go_simp
                      try rfl
                    simp only [Act.put, List.setIfInBounds_toArray, List.set_cons_zero, List.set_cons_succ]
                    refine anyS_take2 (i := 17) (v := ?_) (calm_wide _) rfl (by kernel_rfl) (by kernel_rfl) (by kernel_rfl) (fun _ _ _ h => hQp _ _ _ _ _ h) hS (fun _ => by kernel_rfl) (by kernel_rfl) ?_ ?_
                    rotate_left
                    · intro w ⟨s1, s2, s3, s4, s5⟩
                      go_simp
                      try rfl
                    simp only [Act.put, List.setIfInBounds_toArray, List.set_cons_zero, List.set_cons_succ]
                    refine anyS_take2 (i := 18) (v := ?_) (calm_wide _) rfl (by kernel_rfl) (by kernel_rfl) (by kernel_rfl) (fun _ _ _ h => hQp _ _ _ _ _ h) hS (fun _ => by kernel_rfl) (by kernel_rfl) ?_ ?_
                    rotate_left
                    · intro w ⟨s1, s2, s3, s4, s5⟩
                      go_simp
                      try rfl
                    simp only [Act.put, List.setIfInBounds_toArray, List.set_cons_zero, List.set_cons_succ]
                    refine anyS_take2 (i := 19) (v := ?_) (calm_wide _) rfl (by kernel_rfl) (by kernel_rfl) (by kernel_rfl) (fun _ _ _ h => hQp _ _ _ _ _ h) hS (fun _ => by kernel_rfl) (by kernel_rfl) ?_ ?_
                    rotate_left
                    · intro w ⟨s1, s2, s3, s4, s5⟩
                      go_simp
                      try rfl
                    simp only [Act.put, List.setIfInBounds_toArray, List.set_cons_zero, List.set_cons_succ]
                    refine anyS_take2 (i := 20) (v := ?_) (calm_wide _) rfl (by kernel_rfl) (by kernel_rfl) (by kernel_rfl) (fun _ _ _ h => hQp _ _ _ _ _ h) hS (fun _ => by kernel_rfl) (by kernel_rfl) ?_ ?_
                    rotate_left
                    · intro w ⟨s1, s2, s3, s4, s5⟩
                      go_simp
                      try rfl
                    simp only [Act.put, List.setIfInBounds_toArray, List.set_cons_zero, List.set_cons_succ]
                    refine anyS_take2 (i := 21) (v := ?_) (calm_wide _) rfl (by kernel_rfl) (by kernel_rfl) (by kernel_rfl) (fun _ _ _ h => hQp _ _ _ _ _ h) hS (fun _ => by kernel_rfl) (by kernel_rfl) ?_ ?_
                    rotate_left
                    · intro w ⟨s1, s2, s3, s4, s5⟩
                      go_simp
                      try rfl
                    simp only [Act.put, List.setIfInBounds_toArray, List.set_cons_zero, List.set_cons_succ]
                    refine anyS_take2 (i := 22) (v := ?_) (calm_wide _) rfl (by kernel_rfl) (by kernel_rfl) (by kernel_rfl) (fun _ _ _ h => hQp _ _ _ _ _ h) hS (fun _ => by kernel_rfl) (by kernel_rfl) ?_ ?_
                    rotate_left
                    · intro w ⟨s1, s2, s3, s4, s5⟩
                      go_simp
                      try rfl
                    simp only [Act.put, List.setIfInBounds_toArray, List.set_cons_zero, List.set_cons_succ]
                    refine anyS_take2 (i := 23) (v := ?_) (calm_wide _) rfl (by kernel_rfl) (by kernel_rfl) (by kernel_rfl) (fun _ _ _ h => hQp _ _ _ _ _ h) hS (fun _ => by kernel_rfl) (by kernel_rfl) ?_ ?_
                    rotate_left
                    · intro w ⟨s1, s2, s3, s4, s5⟩
                      go_simp
                      try rfl
                    simp only [Act.put, List.setIfInBounds_toArray, List.set_cons_zero, List.set_cons_succ]
                    refine anyS_take2 (i := 24) (v := ?_) (calm_wide _) rfl (by kernel_rfl) (by kernel_rfl) (by kernel_rfl) (fun _ _ _ h => hQp _ _ _ _ _ h) hS (fun _ => by kernel_rfl) (by kernel_rfl) ?_ ?_
                    rotate_left
                    · intro w ⟨s1, s2, s3, s4, s5⟩
                      go_simp
                      try rfl
                    simp only [Act.put, List.setIfInBounds_toArray, List.set_cons_zero, List.set_cons_succ]
                    refine anyS_take2 (i := 25) (v := ?_) (calm_wide _) rfl (by kernel_rfl) (by kernel_rfl) (by kernel_rfl) (fun _ _ _ h => hQp _ _ _ _ _ h) hS (fun _ => by kernel_rfl) (by kernel_rfl) ?_ ?_
                    rotate_left
                    · intro w ⟨s1, s2, s3, s4, s5⟩
                      go_simp
                      try rfl
                    simp only [Act.put, List.setIfInBounds_toArray, List.set_cons_zero, List.set_cons_succ]
                    refine anyS_take2 (i := 26) (v := ?_) (calm_wide _) rfl (by kernel_rfl) (by kernel_rfl) (by kernel_rfl) (fun _ _ _ h => hQp _ _ _ _ _ h) hS (fun _ => by kernel_rfl) (by kernel_rfl) ?_ ?_
                    rotate_left
                    · intro w ⟨s1, s2, s3, s4, s5⟩
                      go_simp
                      try rfl
                    simp only [Act.put, List.setIfInBounds_toArray, List.set_cons_zero, List.set_cons_succ]
                    refine anyS_take2 (i := 27) (v := ?_) (calm_wide _) rfl (by kernel_rfl) (by kernel_rfl) (by kernel_rfl) (fun _ _ _ h => hQp _ _ _ _ _ h) hS (fun _ => by kernel_rfl) (by kernel_rfl) ?_ ?_
                    rotate_left
                    · intro w ⟨s1, s2, s3, s4, s5⟩
                      go_simp
                      try rfl
                    simp only [Act.put, List.setIfInBounds_toArray, List.set_cons_zero, List.set_cons_succ]
                    refine anyS_take2 (i := 28) (v := ?_) (calm_wide _) rfl (by kernel_rfl) (by kernel_rfl) (by kernel_rfl) (fun _ _ _ h => hQp _ _ _ _ _ h) hS (fun _ => by kernel_rfl) (by kernel_rfl) ?_ ?_
                    rotate_left
                    · intro w ⟨s1, s2, s3, s4, s5⟩
                      go_simp
                      try rfl
                    simp only [Act.put, List.setIfInBounds_toArray, List.set_cons_zero, List.set_cons_succ]
                    refine anyS_take2 (i := 29) (v := ?_) (calm_wide _) rfl (by kernel_rfl) (by kernel_rfl) (by kernel_rfl) (fun _ _ _ h => hQp _ _ _ _ _ h) hS (fun _ => by kernel_rfl) (by kernel_rfl) ?_ ?_
                    rotate_left
                    · intro w ⟨s1, s2, s3, s4, s5⟩
                      go_simp
                      try rfl
                    simp only [Act.put, List.setIfInBounds_toArray, List.set_cons_zero, List.set_cons_succ]
                    refine anyS_take2 (i := 30) (v := ?_) (calm_wide _) rfl (by kernel_rfl) (by kernel_rfl) (by kernel_rfl) (fun _ _ _ h => hQp _ _ _ _ _ h) hS (fun _ => by kernel_rfl) (by kernel_rfl) ?_ ?_
                    rotate_left
                    · intro w ⟨s1, s2, s3, s4, s5⟩
                      go_simp
                      try rfl
                    simp only [Act.put, List.setIfInBounds_toArray, List.set_cons_zero, List.set_cons_succ]
                    refine anyS_take2 (i := 31) (v := ?_) (calm_wide _) rfl (by kernel_rfl) (by kernel_rfl) (by kernel_rfl) (fun _ _ _ h => hQp _ _ _ _ _ h) hS (fun _ => by kernel_rfl) (by kernel_rfl) ?_ ?_
                    rotate_left
                    · intro w ⟨s1, s2, s3, s4, s5⟩
                      go_simp
                      try rfl
                    simp only [Act.put, List.setIfInBounds_toArray, List.set_cons_zero, List.set_cons_succ]
                    refine anyS_take2 (i := 32) (v := ?_) (calm_wide _) rfl (by kernel_rfl) (by kernel_rfl) (by kernel_rfl) (fun _ _ _ h => hQp _ _ _ _ _ h) hS (fun _ => by kernel_rfl) (by kernel_rfl) ?_ ?_
                    rotate_left
                    · intro w ⟨s1, s2, s3, s4, s5⟩
                      go_simp
                      try rfl
                    simp only [Act.put, List.setIfInBounds_toArray, List.set_cons_zero, List.set_cons_succ]
                    refine anyS_take2 (i := 33) (v := ?_) (calm_wide _) rfl (by kernel_rfl) (by kernel_rfl) (by kernel_rfl) (fun _ _ _ h => hQp _ _ _ _ _ h) hS (fun _ => by kernel_rfl) (by kernel_rfl) ?_ ?_
                    rotate_left
                    · intro w ⟨s1, s2, s3, s4, s5⟩
                      go_simp
                      try rfl
                    simp only [Act.put, List.setIfInBounds_toArray, List.set_cons_zero, List.set_cons_succ]
                    refine anyS_take2 (i := 34) (v := ?_) (calm_wide _) rfl (by kernel_rfl) (by kernel_rfl) (by kernel_rfl) (fun _ _ _ h => hQp _ _ _ _ _ h) hS (fun _ => by kernel_rfl) (by kernel_rfl) ?_ ?_
                    rotate_left
                    · intro w ⟨s1, s2, s3, s4, s5⟩
                      go_simp
                      try rfl
                    simp only [Act.put, List.setIfInBounds_toArray, List.set_cons_zero, List.set_cons_succ]
                    refine anyS_take2 (i := 35) (v := ?_) (calm_wide _) rfl (by kernel_rfl) (by kernel_rfl) (by kernel_rfl) (fun _ _ _ h => hQp _ _ _ _ _ h) hS (fun _ => by kernel_rfl) (by kernel_rfl) ?_ ?_
                    rotate_left
                    · intro w ⟨s1, s2, s3, s4, s5⟩
                      go_simp
                      try rfl
                    simp only [Act.put, List.setIfInBounds_toArray, List.set_cons_zero, List.set_cons_succ]
                    exact anyS_done (by kernel_rfl) (hfin _ _ ⟨_, _, _, _, _, _, _, _, _, _, _, _, _, _, _, _, _, _, _, _, _, _, _, _, _, _, _, _, _, _, _, _, _, _, _, _, rfl, by rw [Hfin.out]; rfl, hbl2⟩) _
          · replace hq : ptB ax ay az = false := by simpa using hq
            have Hfin : Hid (okk = false) := by show _ = _; rw [Hok.out, hq]; rfl
            rw [hq]
            clear hq
            refine anyS_take2 (i := 5) (v := ?_) (calm_wide _) rfl (by kernel_rfl) (by kernel_rfl) (by kernel_rfl) (fun _ _ _ h => hQp _ _ _ _ _ h) hS (fun _ => by kernel_rfl) (by kernel_rfl) ?_ ?_
            rotate_left
            · intro w ⟨s1, s2, s3, s4, s5⟩
              go_simp
              try rfl
            simp only [Act.put, List.setIfInBounds_toArray, List.set_cons_zero, List.set_cons_succ]
            refine anyS_take2 (i := 6) (v := ?_) (calm_wide _) rfl (by kernel_rfl) (by kernel_rfl) (by kernel_rfl) (fun _ _ _ h => hQp _ _ _ _ _ h) hS (fun _ => by kernel_rfl) (by kernel_rfl) ?_ ?_
            rotate_left
            · intro w ⟨s1, s2, s3, s4, s5⟩
              go_simp
              try rfl
            simp only [Act.put, List.setIfInBounds_toArray, List.set_cons_zero, List.set_cons_succ]
            refine anyS_skip (i := 7) (calm_wide _) rfl (by kernel_rfl) (by kernel_rfl) (by kernel_rfl) (fun _ _ _ h => hQp _ _ _ _ _ h) hS (fun _ => by kernel_rfl) (by kernel_rfl) ?_
            simp only [Act.put, List.setIfInBounds_toArray, List.set_cons_zero, List.set_cons_succ]
            refine anyS_skip (i := 8) (calm_wide _) rfl (by kernel_rfl) (by kernel_rfl) (by kernel_rfl) (fun _ _ _ h => hQp _ _ _ _ _ h) hS (fun _ => by kernel_rfl) (by kernel_rfl) ?_
            simp only [Act.put, List.setIfInBounds_toArray, List.set_cons_zero, List.set_cons_succ]
            refine anyS_skip (i := 9) (calm_wide _) rfl (by kernel_rfl) (by kernel_rfl) (by kernel_rfl) (fun _ _ _ h => hQp _ _ _ _ _ h) hS (fun _ => by kernel_rfl) (by kernel_rfl) ?_
            simp only [Act.put, List.setIfInBounds_toArray, List.set_cons_zero, List.set_cons_succ]
            refine anyS_skip (i := 10) (calm_wide _) rfl (by kernel_rfl) (by kernel_rfl) (by kernel_rfl) (fun _ _ _ h => hQp _ _ _ _ _ h) hS (fun _ => by kernel_rfl) (by kernel_rfl) ?_
            simp only [Act.put, List.setIfInBounds_toArray, List.set_cons_zero, List.set_cons_succ]
            refine anyS_skip (i := 11) (calm_wide _) rfl (by kernel_rfl) (by kernel_rfl) (by kernel_rfl) (fun _ _ _ h => hQp _ _ _ _ _ h) hS (fun _ => by kernel_rfl) (by kernel_rfl) ?_
            simp only [Act.put, List.setIfInBounds_toArray, List.set_cons_zero, List.set_cons_succ]
            refine anyS_take2 (i := 12) (v := ?_) (calm_wide _) rfl (by kernel_rfl) (by kernel_rfl) (by kernel_rfl) (fun _ _ _ h => hQp _ _ _ _ _ h) hS (fun _ => by kernel_rfl) (by kernel_rfl) ?_ ?_
            rotate_left
            · intro w ⟨s1, s2, s3, s4, s5⟩
              go_simp
              try rfl
            simp only [Act.put, List.setIfInBounds_toArray, List.set_cons_zero, List.set_cons_succ]
            refine anyS_take2 (i := 13) (v := ?_) (calm_wide _) rfl (by kernel_rfl) (by kernel_rfl) (by kernel_rfl) (fun _ _ _ h => hQp _ _ _ _ _ h) hS (fun _ => by kernel_rfl) (by kernel_rfl) ?_ ?_
            rotate_left
            · intro w ⟨s1, s2, s3, s4, s5⟩
              go_simp
              try rfl
            simp only [Act.put, List.setIfInBounds_toArray, List.set_cons_zero, List.set_cons_succ]
            refine anyS_skip (i := 14) (calm_wide _) rfl (by kernel_rfl) (by kernel_rfl) (by kernel_rfl) (fun _ _ _ h => hQp _ _ _ _ _ h) hS (fun _ => by kernel_rfl) (by kernel_rfl) ?_
            simp only [Act.put, List.setIfInBounds_toArray, List.set_cons_zero, List.set_cons_succ]
            refine anyS_skip (i := 15) (calm_wide _) rfl (by kernel_rfl) (by kernel_rfl) (by kernel_rfl) (fun _ _ _ h => hQp _ _ _ _ _ h) hS (fun _ => by kernel_rfl) (by kernel_rfl) ?_
            simp only [Act.put, List.setIfInBounds_toArray, List.set_cons_zero, List.set_cons_succ]
            refine anyS_skip (i := 16) (calm_wide _) rfl (by kernel_rfl) (by kernel_rfl) (by kernel_rfl) (fun _ _ _ h => hQp _ _ _ _ _ h) hS (fun _ => by kernel_rfl) (by kernel_rfl) ?_
            simp only [Act.put, List.setIfInBounds_toArray, List.set_cons_zero, List.set_cons_succ]
            refine anyS_skip (i := 17) (calm_wide _) rfl (by kernel_rfl) (by kernel_rfl) (by kernel_rfl) (fun _ _ _ h => hQp _ _ _ _ _ h) hS (fun _ => by kernel_rfl) (by kernel_rfl) ?_
            simp only [Act.put, List.setIfInBounds_toArray, List.set_cons_zero, List.set_cons_succ]
            refine anyS_skip (i := 18) (calm_wide _) rfl (by kernel_rfl) (by kernel_rfl) (by kernel_rfl) (fun _ _ _ h => hQp _ _ _ _ _ h) hS (fun _ => by kernel_rfl) (by kernel_rfl) ?_
            simp only [Act.put, List.setIfInBounds_toArray, List.set_cons_zero, List.set_cons_succ]
            refine anyS_take2 (i := 19) (v := ?_) (calm_wide _) rfl (by kernel_rfl) (by kernel_rfl) (by kernel_rfl) (fun _ _ _ h => hQp _ _ _ _ _ h) hS (fun _ => by kernel_rfl) (by kernel_rfl) ?_ ?_
            rotate_left
            · intro w ⟨s1, s2, s3, s4, s5⟩
              go_simp
              try rfl
            simp only [Act.put, List.setIfInBounds_toArray, List.set_cons_zero, List.set_cons_succ]
            refine anyS_take2 (i := 20) (v := ?_) (calm_wide _) rfl (by kernel_rfl) (by kernel_rfl) (by kernel_rfl) (fun _ _ _ h => hQp _ _ _ _ _ h) hS (fun _ => by kernel_rfl) (by kernel_rfl) ?_ ?_
            rotate_left
            · intro w ⟨s1, s2, s3, s4, s5⟩
              go_simp
              try rfl
            simp only [Act.put, List.setIfInBounds_toArray, List.set_cons_zero, List.set_cons_succ]
            refine anyS_skip (i := 21) (calm_wide _) rfl (by kernel_rfl) (by kernel_rfl) (by kernel_rfl) (fun _ _ _ h => hQp _ _ _ _ _ h) hS (fun _ => by kernel_rfl) (by kernel_rfl) ?_
            simp only [Act.put, List.setIfInBounds_toArray, List.set_cons_zero, List.set_cons_succ]
            refine anyS_skip (i := 22) (calm_wide _) rfl (by kernel_rfl) (by kernel_rfl) (by kernel_rfl) (fun _ _ _ h => hQp _ _ _ _ _ h) hS (fun _ => by kernel_rfl) (by kernel_rfl) ?_
            simp only [Act.put, List.setIfInBounds_toArray, List.set_cons_zero, List.set_cons_succ]
            refine anyS_skip (i := 23) (calm_wide _) rfl (by kernel_rfl) (by kernel_rfl) (by kernel_rfl) (fun _ _ _ h => hQp _ _ _ _ _ h) hS (fun _ => by kernel_rfl) (by kernel_rfl) ?_
            simp only [Act.put, List.setIfInBounds_toArray, List.set_cons_zero, List.set_cons_succ]
            refine anyS_skip (i := 24) (calm_wide _) rfl (by kernel_rfl) (by kernel_rfl) (by kernel_rfl) (fun _ _ _ h => hQp _ _ _ _ _ h) hS (fun _ => by kernel_rfl) (by kernel_rfl) ?_
            simp only [Act.put, List.setIfInBounds_toArray, List.set_cons_zero, List.set_cons_succ]
            refine anyS_skip (i := 25) (calm_wide _) rfl (by kernel_rfl) (by kernel_rfl) (by kernel_rfl) (fun _ _ _ h => hQp _ _ _ _ _ h) hS (fun _ => by kernel_rfl) (by kernel_rfl) ?_
            simp only [Act.put, List.setIfInBounds_toArray, List.set_cons_zero, List.set_cons_succ]
            refine anyS_skip (i := 26) (calm_wide _) rfl (by kernel_rfl) (by kernel_rfl) (by kernel_rfl) (fun _ _ _ h => hQp _ _ _ _ _ h) hS (fun _ => by kernel_rfl) (by kernel_rfl) ?_
            simp only [Act.put, List.setIfInBounds_toArray, List.set_cons_zero, List.set_cons_succ]
            refine anyS_skip (i := 27) (calm_wide _) rfl (by kernel_rfl) (by kernel_rfl) (by kernel_rfl) (fun _ _ _ h => hQp _ _ _ _ _ h) hS (fun _ => by kernel_rfl) (by kernel_rfl) ?_
            simp only [Act.put, List.setIfInBounds_toArray, List.set_cons_zero, List.set_cons_succ]
            refine anyS_skip (i := 28) (calm_wide _) rfl (by kernel_rfl) (by kernel_rfl) (by kernel_rfl) (fun _ _ _ h => hQp _ _ _ _ _ h) hS (fun _ => by kernel_rfl) (by kernel_rfl) ?_
            simp only [Act.put, List.setIfInBounds_toArray, List.set_cons_zero, List.set_cons_succ]
            refine anyS_skip (i := 29) (calm_wide _) rfl (by kernel_rfl) (by kernel_rfl) (by kernel_rfl) (fun _ _ _ h => hQp _ _ _ _ _ h) hS (fun _ => by kernel_rfl) (by kernel_rfl) ?_
            simp only [Act.put, List.setIfInBounds_toArray, List.set_cons_zero, List.set_cons_succ]
            refine anyS_skip (i := 30) (calm_wide _) rfl (by kernel_rfl) (by kernel_rfl) (by kernel_rfl) (fun _ _ _ h => hQp _ _ _ _ _ h) hS (fun _ => by kernel_rfl) (by kernel_rfl) ?_
            simp only [Act.put, List.setIfInBounds_toArray, List.set_cons_zero, List.set_cons_succ]
            refine anyS_skip (i := 31) (calm_wide _) rfl (by kernel_rfl) (by kernel_rfl) (by kernel_rfl) (fun _ _ _ h => hQp _ _ _ _ _ h) hS (fun _ => by kernel_rfl) (by kernel_rfl) ?_
            simp only [Act.put, List.setIfInBounds_toArray, List.set_cons_zero, List.set_cons_succ]
            refine anyS_skip (i := 32) (calm_wide _) rfl (by kernel_rfl) (by kernel_rfl) (by kernel_rfl) (fun _ _ _ h => hQp _ _ _ _ _ h) hS (fun _ => by kernel_rfl) (by kernel_rfl) ?_
            simp only [Act.put, List.setIfInBounds_toArray, List.set_cons_zero, List.set_cons_succ]
            refine anyS_skip (i := 33) (calm_wide _) rfl (by kernel_rfl) (by kernel_rfl) (by kernel_rfl) (fun _ _ _ h => hQp _ _ _ _ _ h) hS (fun _ => by kernel_rfl) (by kernel_rfl) ?_
            simp only [Act.put, List.setIfInBounds_toArray, List.set_cons_zero, List.set_cons_succ]
            refine anyS_skip (i := 34) (calm_wide _) rfl (by kernel_rfl) (by kernel_rfl) (by kernel_rfl) (fun _ _ _ h => hQp _ _ _ _ _ h) hS (fun _ => by kernel_rfl) (by kernel_rfl) ?_
            simp only [Act.put, List.setIfInBounds_toArray, List.set_cons_zero, List.set_cons_succ]
            refine anyS_take2 (i := 35) (v := ?_) (calm_wide _) rfl (by kernel_rfl) (by kernel_rfl) (by kernel_rfl) (fun _ _ _ h => hQp _ _ _ _ _ h) hS (fun _ => by kernel_rfl) (by kernel_rfl) ?_ ?_
            rotate_left
            · intro w ⟨s1, s2, s3, s4, s5⟩
              go_simp
              try rfl
            simp only [Act.put, List.setIfInBounds_toArray, List.set_cons_zero, List.set_cons_succ]
            exact anyS_done (by kernel_rfl) (hfin _ _ ⟨_, _, _, _, _, _, _, _, _, _, _, _, _, _, _, _, _, _, _, _, _, _, _, _, _, _, _, _, _, _, _, _, _, _, _, _, rfl, by rw [Hfin.out]; rfl, hbl2⟩) _
        · have hlt' : decide ((k : Int) < nP) = false := by simp; omega
          have hok : okB ps ts = true := by
            have h1 := hall.out
            rw [okB, hP.1, show nP = k by omega]
            exact h1
          by_cases h257 : 257 < nP
          · have hf : tourP ps ts = ([], 7) := by rw [tourP, if_neg (by rw [hP.1, hT.len]; have := HP.out; omega), if_neg (by rw [hok]; simp), if_pos (by rw [hP.1]; exact h257)]
            have Hf := hide hf
            have h257' : decide ((257 : Int) < nP) = true := by simp; omega
            clear hok hf
            gi_wp2_with fail
            go_ret2
            rw [Hf.out]
            exact ⟨none, 0, 0, rfl, PathV.nil _ _ _, hbl⟩
          · have hf : tourP ps ts = (legsL ps ts, 0) := by rw [tourP, if_neg (by rw [hP.1, hT.len]; have := HP.out; omega), if_neg (by rw [hok]; simp), if_neg (by rw [hP.1]; exact h257)]
            have Hf := hide hf
            have h257' : decide ((257 : Int) < nP) = false := by simp; omega
            clear hf
            have hsm : ∀ k, k < nP → (-2097152 ≤ (ps.getD k ⟨0, 0, 0⟩).x ∧ (ps.getD k ⟨0, 0, 0⟩).x ≤ 2097152) ∧ (-2097152 ≤ (ps.getD k ⟨0, 0, 0⟩).y ∧ (ps.getD k ⟨0, 0, 0⟩).y ≤ 2097152) ∧ (-2097152 ≤ (ps.getD k ⟨0, 0, 0⟩).z ∧ (ps.getD k ⟨0, 0, 0⟩).z ≤ 2097152) := by
              intro i hi
              rw [okB, List.all_eq_true] at hok
              have h := hok i (List.mem_range.2 (by rw [hP.1]; exact hi))
              simp only [okI, Bool.and_eq_true] at h
              exact ptB_small h.1
            have Hsm := hide hsm
            have hlen := legsL_len ps ts
            rw [hP.1] at hlen
            have Hlen := hide hlen
            clear hok hsm hlen
            gi_wp2_with fail
            gi_loopw [7, 8] (fun v i wr => ∃ (j : Nat) (pre : List (Array Value)), j + 1 ≤ nP ∧ i = .int .i64 ((j : Int) + 1) ∧ pre.length = j ∧ (∀ x ∈ pre, x.size = 6) ∧ Ow wr w.heap.size 56 6 v (pre.flatMap Array.toList) ∧ LegAll w.heap.size (legsL ps ts) pre wr ∧ Below w.heap.size w wr)
              (fun _ i _ => nP + 1 - (intOf i).toNat)
            case atStart => exact ⟨0, [], by omega, rfl, rfl, fun x hx => (by cases hx), Ow.nil _ _ _ _, fun i s hi => absurd hi (Nat.not_lt_zero _), hbl⟩
            case round =>
              obtain ⟨j, pre, hj, rfl, hpre, h6, hown, hla, hW1⟩ := hrel
              obtain ⟨A0, n0, c0, rfl, hsl⟩ := hown.sl
              by_cases hlt2 : j + 1 < nP
              · have hlt2' : decide ((j : Int) + 1 < nP) = true := by simp; omega
                have Hp := hide hpre; clear hpre
                obtain ⟨pb, po, rfl, hpl, hpb, hpc⟩ := hP.at_ (by omega)
                obtain ⟨tb, to_, rfl, htb, htc⟩ := hT.at_ (by have := HP.out; omega)
                obtain ⟨a1, a2, a3⟩ := hpc j (by omega)
                obtain ⟨b1, b2, b3⟩ := hpc (j + 1) hlt2
                have t1 := htc j (by have := HP.out; omega)
                have t2 := htc (j + 1) (by have := HP.out; omega)
                obtain ⟨m1, m2, m3⟩ := Hsm.out j (by omega)
                obtain ⟨o1, o2, o3⟩ := Hsm.out (j + 1) hlt2
                replace a1 := (hW1.cell (p := ⟨pb, _, none⟩) hpb).trans a1
                replace a2 := (hW1.cell (p := ⟨pb, _, none⟩) hpb).trans a2
                replace a3 := (hW1.cell (p := ⟨pb, _, none⟩) hpb).trans a3
                replace b1 := (hW1.cell (p := ⟨pb, _, none⟩) hpb).trans b1
                replace b2 := (hW1.cell (p := ⟨pb, _, none⟩) hpb).trans b2
                replace b3 := (hW1.cell (p := ⟨pb, _, none⟩) hpb).trans b3
                replace t1 := (hW1.cell (p := ⟨tb, _, none⟩) htb).trans t1
                replace t2 := (hW1.cell (p := ⟨tb, _, none⟩) htb).trans t2
                clear hpc htc
                have i1 : (0 : Int) ≤ j := by omega
                have i2 : (j : Int) < nP := by omega
                have i3 : (j : Int) + 1 < nP := by omega
                have i4 : (j : Int) < nT := by have := HP.out; omega
                have w1 : IntKind.i64.wrap (j : Int) = j := IntWalk.i64_in _ (by omega)
                have w2 : ((j : Int) + 1).toNat = j + 1 := by omega
                have w3 : (0 : Int) ≤ (j : Int) + 1 := by omega
                have i5 : (j : Int) + 1 < nT := by have := HP.out; omega
                obtain ⟨ax, hax⟩ : ∃ x, x = (ps.getD j ⟨0, 0, 0⟩).x := ⟨_, rfl⟩
                obtain ⟨ay, hay⟩ : ∃ x, x = (ps.getD j ⟨0, 0, 0⟩).y := ⟨_, rfl⟩
                obtain ⟨az, haz⟩ : ∃ x, x = (ps.getD j ⟨0, 0, 0⟩).z := ⟨_, rfl⟩
                obtain ⟨bx, hbx⟩ : ∃ x, x = (ps.getD (j + 1) ⟨0, 0, 0⟩).x := ⟨_, rfl⟩
                obtain ⟨by_, hby⟩ : ∃ x, x = (ps.getD (j + 1) ⟨0, 0, 0⟩).y := ⟨_, rfl⟩
                obtain ⟨bz, hbz⟩ : ∃ x, x = (ps.getD (j + 1) ⟨0, 0, 0⟩).z := ⟨_, rfl⟩
                obtain ⟨t, ht⟩ : ∃ x, x = ts.getD j 0 := ⟨_, rfl⟩
                obtain ⟨u, hu⟩ : ∃ x, x = ts.getD (j + 1) 0 := ⟨_, rfl⟩
                rw [← hax] at m1; rw [← hay] at m2; rw [← haz] at m3; rw [← hbx] at o1; rw [← hby] at o2; rw [← hbz] at o3
                rw [← hax] at a1; rw [← hay] at a2; rw [← haz] at a3; rw [← hbx] at b1; rw [← hby] at b2; rw [← hbz] at b3; rw [← ht] at t1; rw [← hu] at t2
                have Hax := hide hax; have Hay := hide hay; have Haz := hide haz; have Hbx := hide hbx; have Hby := hide hby; have Hbz := hide hbz; have Ht := hide ht; have Hu := hide hu
                clear hax hay haz hbx hby hbz ht hu
                gi_wp2_with fail
                have hS : wr.drew.cell? ⟨pb, po + j * 3, none⟩ = some (.int .i64 ax) ∧ wr.drew.cell? ⟨pb, po + j * 3 + 1, none⟩ = some (.int .i64 ay) ∧ wr.drew.cell? ⟨pb, po + j * 3 + 2, none⟩ = some (.int .i64 az) ∧
                  wr.drew.cell? ⟨pb, po + (j + 1) * 3, none⟩ = some (.int .i64 bx) ∧ wr.drew.cell? ⟨pb, po + (j + 1) * 3 + 1, none⟩ = some (.int .i64 by_) ∧ wr.drew.cell? ⟨pb, po + (j + 1) * 3 + 2, none⟩ = some (.int .i64 bz) ∧
                  wr.drew.cell? ⟨tb, to_ + j, none⟩ = some (.int .i64 t) ∧ wr.drew.cell? ⟨tb, to_ + (j + 1), none⟩ = some (.int .i64 u) := ⟨a1, a2, a3, b1, b2, b3, t1, t2⟩
                refine region_anyS (S := fun W =>
                  W.cell? ⟨pb, po + j * 3, none⟩ = some (.int .i64 ax) ∧ W.cell? ⟨pb, po + j * 3 + 1, none⟩ = some (.int .i64 ay) ∧ W.cell? ⟨pb, po + j * 3 + 2, none⟩ = some (.int .i64 az) ∧
                  W.cell? ⟨pb, po + (j + 1) * 3, none⟩ = some (.int .i64 bx) ∧ W.cell? ⟨pb, po + (j + 1) * 3 + 1, none⟩ = some (.int .i64 by_) ∧ W.cell? ⟨pb, po + (j + 1) * 3 + 2, none⟩ = some (.int .i64 bz) ∧
                  W.cell? ⟨tb, to_ + j, none⟩ = some (.int .i64 t) ∧ W.cell? ⟨tb, to_ + (j + 1), none⟩ = some (.int .i64 u)) (by kernel_rfl) ?_
                simp only [List.size_toArray, List.length_cons, List.length_nil, Nat.reduceAdd, Array.replicate_succ, Array.replicate_zero, List.push_toArray, List.nil_append, List.cons_append]
                refine anyS_take2 (i := 0) (v := ?_) (calm_wide _) rfl (by kernel_rfl) (by kernel_rfl) (by kernel_rfl) (fun _ _ _ hh => hh) hS (fun _ => by kernel_rfl) (by kernel_rfl) ?_ ?_
                rotate_left
                · intro w ⟨s1, s2, s3, s4, s5, s6, s7, s8⟩
                  go_simp
                  try rfl
                simp only [Act.put, List.setIfInBounds_toArray, List.set_cons_zero, List.set_cons_succ]
                refine anyS_take2 (i := 1) (v := ?_) (calm_wide _) rfl (by kernel_rfl) (by kernel_rfl) (by kernel_rfl) (fun _ _ _ hh => hh) hS (fun _ => by kernel_rfl) (by kernel_rfl) ?_ ?_
                rotate_left
                · intro w ⟨s1, s2, s3, s4, s5, s6, s7, s8⟩
                  go_simp
                  try rfl
                simp only [Act.put, List.setIfInBounds_toArray, List.set_cons_zero, List.set_cons_succ]
                refine anyS_take2 (i := 2) (v := ?_) (calm_wide _) rfl (by kernel_rfl) (by kernel_rfl) (by kernel_rfl) (fun _ _ _ hh => hh) hS (fun _ => by kernel_rfl) (by kernel_rfl) ?_ ?_
                rotate_left
                · intro w ⟨s1, s2, s3, s4, s5, s6, s7, s8⟩
                  go_simp
                  try rfl
                simp only [Act.put, List.setIfInBounds_toArray, List.set_cons_zero, List.set_cons_succ]
                refine anyS_take2 (i := 3) (v := ?_) (calm_wide _) rfl (by kernel_rfl) (by kernel_rfl) (by kernel_rfl) (fun _ _ _ hh => hh) hS (fun _ => by kernel_rfl) (by kernel_rfl) ?_ ?_
                rotate_left
                · intro w ⟨s1, s2, s3, s4, s5, s6, s7, s8⟩
                  go_simp
                  try rfl
                simp only [Act.put, List.setIfInBounds_toArray, List.set_cons_zero, List.set_cons_succ]
                refine anyS_take2 (i := 4) (v := ?_) (calm_wide _) rfl (by kernel_rfl) (by kernel_rfl) (by kernel_rfl) (fun _ _ _ hh => hh) hS (fun _ => by kernel_rfl) (by kernel_rfl) ?_ ?_
                rotate_left
                · intro w ⟨s1, s2, s3, s4, s5, s6, s7, s8⟩
                  go_simp
                  try rfl
                simp only [Act.put, List.setIfInBounds_toArray, List.set_cons_zero, List.set_cons_succ]
                refine anyS_take2 (i := 5) (v := ?_) (calm_wide _) rfl (by kernel_rfl) (by kernel_rfl) (by kernel_rfl) (fun _ _ _ hh => hh) hS (fun _ => by kernel_rfl) (by kernel_rfl) ?_ ?_
                rotate_left
                · intro w ⟨s1, s2, s3, s4, s5, s6, s7, s8⟩
                  go_simp
                  try rfl
                simp only [Act.put, List.setIfInBounds_toArray, List.set_cons_zero, List.set_cons_succ]
                refine anyS_take2 (i := 6) (v := ?_) (calm_wide _) rfl (by kernel_rfl) (by kernel_rfl) (by kernel_rfl) (fun _ _ _ hh => hh) hS (fun _ => by kernel_rfl) (by kernel_rfl) ?_ ?_
                rotate_left
                · intro w ⟨s1, s2, s3, s4, s5, s6, s7, s8⟩
                  go_simp
                  try rfl
                simp only [Act.put, List.setIfInBounds_toArray, List.set_cons_zero, List.set_cons_succ]
                refine anyS_take2 (i := 7) (v := ?_) (calm_wide _) rfl (by kernel_rfl) (by kernel_rfl) (by kernel_rfl) (fun _ _ _ hh => hh) hS (fun _ => by kernel_rfl) (by kernel_rfl) ?_ ?_
                rotate_left
                · intro w ⟨s1, s2, s3, s4, s5, s6, s7, s8⟩
                  go_simp
                  try rfl
                simp only [Act.put, List.setIfInBounds_toArray, List.set_cons_zero, List.set_cons_succ]
                refine anyS_take2 (i := 8) (v := ?_) (calm_wide _) rfl (by kernel_rfl) (by kernel_rfl) (by kernel_rfl) (fun _ _ _ hh => hh) hS (fun _ => by kernel_rfl) (by kernel_rfl) ?_ ?_
                rotate_left
                · intro w ⟨s1, s2, s3, s4, s5, s6, s7, s8⟩
                  go_simp
                  try rfl
                simp only [Act.put, List.setIfInBounds_toArray, List.set_cons_zero, List.set_cons_succ]
                refine anyS_take2 (i := 9) (v := ?_) (calm_wide _) rfl (by kernel_rfl) (by kernel_rfl) (by kernel_rfl) (fun _ _ _ hh => hh) hS (fun _ => by kernel_rfl) (by kernel_rfl) ?_ ?_
                rotate_left
                · intro w ⟨s1, s2, s3, s4, s5, s6, s7, s8⟩
                  go_simp
                  try rfl
                simp only [Act.put, List.setIfInBounds_toArray, List.set_cons_zero, List.set_cons_succ]
                refine anyS_take2 (i := 10) (v := ?_) (calm_wide _) rfl (by kernel_rfl) (by kernel_rfl) (by kernel_rfl) (fun _ _ _ hh => hh) hS (fun _ => by kernel_rfl) (by kernel_rfl) ?_ ?_
                rotate_left
                · intro w ⟨s1, s2, s3, s4, s5, s6, s7, s8⟩
                  go_simp
                  try rfl
                simp only [Act.put, List.setIfInBounds_toArray, List.set_cons_zero, List.set_cons_succ]
                refine anyS_take2 (i := 11) (v := ?_) (calm_wide _) rfl (by kernel_rfl) (by kernel_rfl) (by kernel_rfl) (fun _ _ _ hh => hh) hS (fun _ => by kernel_rfl) (by kernel_rfl) ?_ ?_
                rotate_left
                · intro w ⟨s1, s2, s3, s4, s5, s6, s7, s8⟩
                  go_simp
                  try rfl
                simp only [Act.put, List.setIfInBounds_toArray, List.set_cons_zero, List.set_cons_succ]
                refine anyS_take2 (i := 12) (v := ?_) (calm_wide _) rfl (by kernel_rfl) (by kernel_rfl) (by kernel_rfl) (fun _ _ _ hh => hh) hS (fun _ => by kernel_rfl) (by kernel_rfl) ?_ ?_
                rotate_left
                · intro w ⟨s1, s2, s3, s4, s5, s6, s7, s8⟩
                  go_simp
                  try rfl
                simp only [Act.put, List.setIfInBounds_toArray, List.set_cons_zero, List.set_cons_succ]
                refine anyS_take2 (i := 13) (v := ?_) (calm_wide _) rfl (by kernel_rfl) (by kernel_rfl) (by kernel_rfl) (fun _ _ _ hh => hh) hS (fun _ => by kernel_rfl) (by kernel_rfl) ?_ ?_
                rotate_left
                · intro w ⟨s1, s2, s3, s4, s5, s6, s7, s8⟩
                  go_simp
                  try rfl
                simp only [Act.put, List.setIfInBounds_toArray, List.set_cons_zero, List.set_cons_succ]
                refine anyS_take2 (i := 14) (v := ?_) (calm_wide _) rfl (by kernel_rfl) (by kernel_rfl) (by kernel_rfl) (fun _ _ _ hh => hh) hS (fun _ => by kernel_rfl) (by kernel_rfl) ?_ ?_
                rotate_left
                · intro w ⟨s1, s2, s3, s4, s5, s6, s7, s8⟩
                  go_simp
                  try rfl
                simp only [Act.put, List.setIfInBounds_toArray, List.set_cons_zero, List.set_cons_succ]
                refine anyS_take2 (i := 15) (v := ?_) (calm_wide _) rfl (by kernel_rfl) (by kernel_rfl) (by kernel_rfl) (fun _ _ _ hh => hh) hS (fun _ => by kernel_rfl) (by kernel_rfl) ?_ ?_
                rotate_left
                · intro w ⟨s1, s2, s3, s4, s5, s6, s7, s8⟩
                  go_simp
                  try rfl
                simp only [Act.put, List.setIfInBounds_toArray, List.set_cons_zero, List.set_cons_succ]
                refine anyS_take2 (i := 16) (v := ?_) (calm_wide _) rfl (by kernel_rfl) (by kernel_rfl) (by kernel_rfl) (fun _ _ _ hh => hh) hS (fun _ => by kernel_rfl) (by kernel_rfl) ?_ ?_
                rotate_left
                · intro w ⟨s1, s2, s3, s4, s5, s6, s7, s8⟩
                  go_simp
                  try rfl
                simp only [Act.put, List.setIfInBounds_toArray, List.set_cons_zero, List.set_cons_succ]
                refine anyS_take2 (i := 17) (v := ?_) (calm_wide _) rfl (by kernel_rfl) (by kernel_rfl) (by kernel_rfl) (fun _ _ _ hh => hh) hS (fun _ => by kernel_rfl) (by kernel_rfl) ?_ ?_
                rotate_left
                · intro w ⟨s1, s2, s3, s4, s5, s6, s7, s8⟩
                  go_simp
                  try rfl
                simp only [Act.put, List.setIfInBounds_toArray, List.set_cons_zero, List.set_cons_succ]
                refine anyS_take2 (i := 18) (v := ?_) (calm_wide _) rfl (by kernel_rfl) (by kernel_rfl) (by kernel_rfl) (fun _ _ _ hh => hh) hS (fun _ => by kernel_rfl) (by kernel_rfl) ?_ ?_
                rotate_left
                · intro w ⟨s1, s2, s3, s4, s5, s6, s7, s8⟩
                  go_simp
                  try rfl
                simp only [Act.put, List.setIfInBounds_toArray, List.set_cons_zero, List.set_cons_succ]
                refine anyS_one2 (i := 19) rfl (by kernel_rfl) (by kernel_rfl) (fun K hK => ?_)
                go_simp
                refine ⟨trivial, callsIn_wide.2 ((r15_Leg_any ax ay az bx by_ bz t u 0 _ (by decide) (by decide) m1 m2 m3 o1 o2 o3).mono ?_)⟩
                rintro e w2 ⟨cs, rfl, hs, hb⟩
                obtain ⟨v0, v1, v2, v3, v4, v5, rfl⟩ : ∃ v0 v1 v2 v3 v4 v5, cs = #[v0, v1, v2, v3, v4, v5] := by obtain ⟨_, _, _, _, _, _, _, _, _, rfl, _⟩ := hs; exact ⟨_, _, _, _, _, _, rfl⟩
                have hone : ∀ u ∈ [v0, v1, v2, v3, v4, v5], u.oneCell' = true := by
                  obtain ⟨_, _, _, _, _, _, _, _, _, h, _⟩ := hs
                  simp only [Array.mk.injEq, List.cons.injEq] at h
                  obtain ⟨rfl, rfl, rfl, rfl, rfl, rfl, _⟩ := h
                  simp [Value.oneCell']
                have hS2 : _ ∧ _ ∧ _ ∧ _ ∧ _ ∧ _ ∧ _ ∧ _ := ⟨keep_cell hb hS.1, keep_cell hb hS.2.1, keep_cell hb hS.2.2.1, keep_cell hb hS.2.2.2.1, keep_cell hb hS.2.2.2.2.1, keep_cell hb hS.2.2.2.2.2.1, keep_cell hb hS.2.2.2.2.2.2.1, keep_cell hb hS.2.2.2.2.2.2.2⟩
                have hwr := hW1.size
                have hW2 : Below w.heap.size w w2 := hW1.drew.trans (hb.mono hwr)
                have hown2 : Ow w2 w.heap.size 56 6 (.slice A0 n0 c0) (pre.flatMap Array.toList) := hown.drew.below hb (Nat.le_refl _)
                have hseg : (legsL ps ts)[pre.length]? = some (legS ⟨ax, ay, az⟩ ⟨bx, by_, bz⟩ t u 2) := by
                  rw [Hp.out, legsL_get ps ts j (by rw [hP.1]; omega), Hax.out, Hay.out, Haz.out, Hbx.out, Hby.out, Hbz.out, Ht.out, Hu.out]
                have hfact : LegFact w.heap.size (legsL ps ts) pre #[v0, v1, v2, v3, v4, v5] w2 := ⟨_, hseg, hs.weak hwr⟩
                have hla2 : LegAll w.heap.size (legsL ps ts) pre w2 := fun i s hi h => by
                  obtain ⟨c, h1, h2⟩ := hla i s hi h
                  exact ⟨c, h1, (h2.below (Below.drew (Below.refl _ _)) (Nat.le_refl _)).below hb (Nat.le_refl _)⟩
                have hla3 := hla2.snoc hfact
                have hw2 := hW2.size
                clear hseg hfact hla2 hla hown hW1 hwr hb hs
                refine hK _ _ hS2 ?_
                replace hS := hS2
                clear hK K hS2
                refine anyS_one2 (i := 20) rfl (by kernel_rfl) (by kernel_rfl) (fun K hK => ?_)
                go_simp
                have hal : Below w2.heap.size w2 (w2.alloc (.cells #[v0, v1, v2, v3, v4, v5] 56)) := (Below.refl _ _).alloc (Nat.le_refl _) _
                have hS3 : _ ∧ _ ∧ _ ∧ _ ∧ _ ∧ _ ∧ _ ∧ _ := ⟨keep_cell hal hS.1, keep_cell hal hS.2.1, keep_cell hal hS.2.2.1, keep_cell hal hS.2.2.2.1, keep_cell hal hS.2.2.2.2.1, keep_cell hal hS.2.2.2.2.2.1, keep_cell hal hS.2.2.2.2.2.2.1, keep_cell hal hS.2.2.2.2.2.2.2⟩
                refine hK _ _ hS3 ?_
                clear hK K
                refine anyS_one2 (i := 21) rfl (by kernel_rfl) (by kernel_rfl) (fun K hK => ?_)
                have hpl2 : pre.length < 257 := by rw [Hp.out]; omega
                have hfl : (pre.flatMap Array.toList).length ≤ 6 * 257 := by
                  have := flat6_len pre h6
                  omega
                refine opIn_app _ _ 25 rfl el_segs (by decide) w.heap.size (.slice A0 n0 c0) (pre.flatMap Array.toList) rfl (hown2.alloc _) w2.heap.size 1 1 [v0, v1, v2, v3, v4, v5] rfl rfl (cells_new w2 #[v0, v1, v2, v3, v4, v5] 56) hone ?b1 ?b2 ((pre ++ [#[v0, v1, v2, v3, v4, v5]]).flatMap Array.toList) ?b3 ?_
                case b1 => simp only [List.length_cons, List.length_nil]; omega
                case b2 => simp; omega
                case b3 => simp
                intro A n c w3 hown3 hgr
                have hkb : KeepB w.heap.size 25 56 _ w3 := Ow.grown_keepB (hown2.alloc _) hgr (Nat.le_refl _) (by simp; omega)
                have hW3 : Below w.heap.size w w3 := (hW2.alloc hw2 _).trans hkb.1
                have hla4 : LegAll w.heap.size (legsL ps ts) (pre ++ [#[v0, v1, v2, v3, v4, v5]]) w3 := fun i s hi h => by
                  obtain ⟨c, h1, h2⟩ := hla3 i s hi h
                  exact ⟨c, h1, (h2.below hal (Nat.le_refl _)).keepB hkb (by decide) (by decide)⟩
                have hS4 : _ ∧ _ ∧ _ ∧ _ ∧ _ ∧ _ ∧ _ ∧ _ := ⟨(hkb.1.cell hpb).trans hS3.1, (hkb.1.cell hpb).trans hS3.2.1, (hkb.1.cell hpb).trans hS3.2.2.1, (hkb.1.cell hpb).trans hS3.2.2.2.1, (hkb.1.cell hpb).trans hS3.2.2.2.2.1, (hkb.1.cell hpb).trans hS3.2.2.2.2.2.1, (hkb.1.cell htb).trans hS3.2.2.2.2.2.2.1, (hkb.1.cell htb).trans hS3.2.2.2.2.2.2.2⟩
                have h6' : ∀ x ∈ pre ++ [#[v0, v1, v2, v3, v4, v5]], x.size = 6 := fun x hx => by
                  rcases List.mem_append.1 hx with hx | hx
                  · exact h6 x hx
                  · obtain rfl := List.mem_singleton.1 hx; rfl
                clear hla3 hkb hgr hS3 hal hown2 hS h6
                refine hK _ _ hS4 ?_
                clear hK K
                refine anyS_one2 (i := 22) rfl (by kernel_rfl) (by kernel_rfl) (fun K hK => ?_)
                go_simp
                refine hK _ _ hS4 ?_
                clear hK K
                refine anyS_done (by kernel_rfl) ?_ _
                gi_wp2_with fail
                go_roundw
                case rel => exact ⟨j + 1, pre ++ [#[v0, v1, v2, v3, v4, v5]], by omega, by go_num, by simp [Hp.out], h6', hown3, hla4, hW3⟩
                case measure => simp [intOf]; omega
              · have hlt2' : decide ((j : Int) + 1 < nP) = false := by simp; omega
                gi_wp2_with fail
                go_ret2
                rw [Hf.out]
                have hsz6 := flat6_len pre h6
                have hn : pre.length = n0 := by have h1 := hsl.2.2.1; omega
                have hn' : (legsL ps ts).length = n0 := by have h3 := Hlen.out; omega
                refine ⟨A0, n0, c0, rfl, ⟨hn', fun i => pre.getD i #[], ?_, fun i s hs => ?_⟩, hW1⟩
                · rw [← hn, flat_range, hn]
                  exact hown.slice
                · have hs' : (legsL ps ts)[i]? = some s := hs
                  have hlt := (List.getElem?_eq_some_iff.1 hs').1
                  obtain ⟨cs, h1, h2⟩ := hla i s (by omega) hs'
                  have e1 : pre.getD i #[] = cs := by rw [List.getD_eq_getElem?_getD, h1]; rfl
                  simp only [e1]
                  exact h2.seg
    · have hf : tourP ps ts = ([], 2) := by rw [tourP, if_pos (.inr (by rw [hP.1, hT.len]; exact hPT))]
      rw [hf]
      have h3 : ((nP : Int) != nT) = true := by simp; omega
      gi_wp2_with fail
      go_ret2
      exact ⟨none, 0, 0, rfl, PathV.nil _ _ _, Below.refl _ _⟩

end Go.Proofs.Ytkajnimlfehmeaa
