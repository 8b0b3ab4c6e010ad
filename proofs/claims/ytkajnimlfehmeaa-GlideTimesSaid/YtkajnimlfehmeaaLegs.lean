import Derived.Test.YtkajnimlfehmeaaSkyRange
import Derived.Test.YtkajnimlfehmeaaFly
set_option linter.unusedSimpArgs false
set_option linter.unusedVariables false
namespace Go.Proofs.Ytkajnimlfehmeaa
open Go.RowKit Go.Sky
attribute [local go_sem] Oper.semAt_some
theorem calm_wide (ops : Array Oper) : Plain0 Fence.wide ops := fun _ _ _ _ => Oper.semAt_none _ _

theorem keep_cell {w w' : World} {p : Addr} {v : Value} (hb : Below w.heap.size w w') (h : w.cell? p = some v) : w'.cell? p = some v := (hb.cell (World.block_lt_of_cell? w p h)).trans h
/-- The glides of a tour. -/
def legsL (ps : List V3) (ts : List Int) : List Seg := (List.range (ps.length - 1)).map fun i => legS (ps.getD i ⟨0, 0, 0⟩) (ps.getD (i + 1) ⟨0, 0, 0⟩) (ts.getD i 0) (ts.getD (i + 1) 0) 2
theorem legsL_len (ps : List V3) (ts : List Int) : (legsL ps ts).length = ps.length - 1 := by simp [legsL]
theorem legsL_get (ps : List V3) (ts : List Int) (i : Nat) (h : i + 1 < ps.length) : (legsL ps ts)[i]? = some (legS (ps.getD i ⟨0, 0, 0⟩) (ps.getD (i + 1) ⟨0, 0, 0⟩) (ts.getD i 0) (ts.getD (i + 1) 0) 2) := by
  rw [legsL, List.getElem?_map, List.getElem?_range (by omega)]
  rfl
/-- The value handed to yield in round pre.length reads as that glide. -/
def LegFact (base : Nat) (segs : List Seg) (pre : List (Array Value)) (x : Array Value) (W : World) : Prop := ∃ s, segs[pre.length]? = some s ∧ SegO W base x s
def LegAll (base : Nat) (segs : List Seg) (xs : List (Array Value)) (W : World) : Prop := ∀ i s, i < xs.length → segs[i]? = some s → ∃ cs, xs[i]? = some cs ∧ SegO W base cs s
def LegsDone (base : Nat) (segs : List Seg) (xs : List (Array Value)) (W : World) : Prop := xs.length = segs.length ∧ LegAll base segs xs W
theorem LegAll.snoc {base : Nat} {segs : List Seg} {pre : List (Array Value)} {x : Array Value} {W : World} (h : LegAll base segs pre W) (hx : LegFact base segs pre x W) : LegAll base segs (pre ++ [x]) W := by
  intro i s hi hs
  by_cases hlt : i < pre.length
  · obtain ⟨cs, h1, h2⟩ := h i s hlt hs
    exact ⟨cs, by rw [List.getElem?_append_left hlt]; exact h1, h2⟩
  · obtain rfl : i = pre.length := by simp at hi; omega
    obtain ⟨s', h1, h2⟩ := hx
    rw [h1] at hs
    injection hs with hs
    subst hs
    exact ⟨x, by simp, h2⟩

set_option maxRecDepth 100000 in
set_option maxHeartbeats 1000000 in
theorem legs1_seq (B1 B2 n₀ nP cP nT cT lo lo' base : Nat) (AP AT : Option Addr) (ps : List V3) (ts : List Int) (w0 : World) (hP : Vecs w0 lo n₀ AP nP cP ps) (hT : Ints w0 lo' n₀ AT nT cT ts) (hPT : nP = nT) (hn1 : 1 ≤ nP)
    (hsm : ∀ k, k < nP → (-2097152 ≤ (ps.getD k ⟨0, 0, 0⟩).x ∧ (ps.getD k ⟨0, 0, 0⟩).x ≤ 2097152) ∧ (-2097152 ≤ (ps.getD k ⟨0, 0, 0⟩).y ∧ (ps.getD k ⟨0, 0, 0⟩).y ≤ 2097152) ∧ (-2097152 ≤ (ps.getD k ⟨0, 0, 0⟩).z ∧ (ps.getD k ⟨0, 0, 0⟩).z ≤ 2097152)) (n : Nat)
    (w : World) (hw0 : Below n₀ w0 w) (hn₀ : n₀ ≤ w.heap.size) (hbase : base ≤ w.heap.size)
    (hB1w : w.heap[B1]? = some (.cells #[.slice AP nP cP] 35 (0, 0))) (hB2w : w.heap[B2]? = some (.cells #[.slice AT nT cT] 36 (0, 0))) :
    SeqF n Try.prog 44 #[.pointer (some ⟨B1, 0, none⟩), .pointer (some ⟨B2, 0, none⟩)] (fun cs : Array Value => #[.agg cs]) (LegFact base (legsL ps ts)) (KeepB n₀ 25 56) (LegsDone base (legsL ps ts)) w := by
  intro l J W hWw hJ hY h0
  have hW : Below n₀ w0 W := hw0.trans (hWw.mono hn₀)
  have hB1 := row_call hB1w hWw
  have hB2 := row_call hB2w hWw
  have hbW : base ≤ W.heap.size := Nat.le_trans hbase hWw.size
  have hnW : n₀ ≤ W.heap.size := Nat.le_trans hn₀ hWw.size
  clear hw0 hWw hB1w hB2w hbase hn₀
  have hlen := legsL_len ps ts
  rw [hP.1] at hlen
  have Hlen := hide hlen; clear hlen
  have hc1 := row_cell hB1 0
  have hc2 := row_cell hB2 0
  simp at hc1 hc2
  have hlP := hP.len_le
  refine callsIn_of_wp Try.func44 rfl trivial ?_ rfl
  simp only [Try.ntmps44, List.size_toArray, List.length_cons, List.length_nil, Nat.reduceAdd, Nat.reduceSub, Array.replicate_succ, Array.replicate_zero, List.push_toArray, List.append_toArray, List.nil_append, List.cons_append]
  gi_wp2
  gi_loopw [4] (fun i wr => ∃ (j : Nat) (pre : List (Array Value)), j + 1 ≤ nP ∧ i = .int .i64 ((j : Int) + 1) ∧ pre.length = j ∧ J pre wr ∧ Below n₀ w0 wr ∧ W.heap.size ≤ wr.heap.size ∧ LegAll base (legsL ps ts) pre wr ∧
      wr.heap[B1]? = some (.cells #[.slice AP nP cP] 35 (0, 0)) ∧ wr.heap[B2]? = some (.cells #[.slice AT nT cT] 36 (0, 0)))
    (fun i _ => nP + 1 - (intOf i).toNat)
  case atStart => exact ⟨0, [], by omega, rfl, rfl, h0, hW, Nat.le_refl _, fun i s hi => absurd hi (Nat.not_lt_zero _), hB1, hB2⟩
  case round =>
    obtain ⟨j, pre, hj, rfl, hpre, hJ1, hW1, hsz, hall, hB1', hB2'⟩ := hrel
    replace hc1 := row_cell hB1' 0
    replace hc2 := row_cell hB2' 0
    simp at hc1 hc2
    by_cases hlt : j + 1 < nP
    · have hlt' : decide ((j : Int) + 1 < nP) = true := by simp; omega
      have Hp := hide hpre; clear hpre
      have HP := hide hPT; clear hPT
      obtain ⟨pb, po, rfl, hpl, hpb, hpc⟩ := hP.at_ (by omega)
      obtain ⟨tb, to_, rfl, htb, htc⟩ := hT.at_ (by have := HP.out; omega)
      obtain ⟨a1, a2, a3⟩ := hpc j (by omega)
      obtain ⟨b1, b2, b3⟩ := hpc (j + 1) hlt
      have t1 := htc j (by have := HP.out; omega)
      have t2 := htc (j + 1) (by have := HP.out; omega)
      obtain ⟨m1, m2, m3⟩ := hsm j (by omega)
      obtain ⟨o1, o2, o3⟩ := hsm (j + 1) hlt
      replace a1 := (hW1.cell (p := ⟨pb, _, none⟩) hpb).trans a1
      replace a2 := (hW1.cell (p := ⟨pb, _, none⟩) hpb).trans a2
      replace a3 := (hW1.cell (p := ⟨pb, _, none⟩) hpb).trans a3
      replace b1 := (hW1.cell (p := ⟨pb, _, none⟩) hpb).trans b1
      replace b2 := (hW1.cell (p := ⟨pb, _, none⟩) hpb).trans b2
      replace b3 := (hW1.cell (p := ⟨pb, _, none⟩) hpb).trans b3
      replace t1 := (hW1.cell (p := ⟨tb, _, none⟩) htb).trans t1
      replace t2 := (hW1.cell (p := ⟨tb, _, none⟩) htb).trans t2
      clear hpc htc
      have i1 : (0 : Int) ≤ j := by omega
      have i2 : (j : Int) < nP := by omega
      have i3 : (j : Int) + 1 < nP := by omega
      have i4 : (j : Int) < nT := by have := HP.out; omega
      have w1 : IntKind.i64.wrap (j : Int) = j := IntWalk.i64_in _ (by omega)
      have w2 : ((j : Int) + 1).toNat = j + 1 := by omega
      have w3 : (0 : Int) ≤ (j : Int) + 1 := by omega
      have i5 : (j : Int) + 1 < nT := by have := HP.out; omega
      obtain ⟨ax, hax⟩ : ∃ x, x = (ps.getD j ⟨0, 0, 0⟩).x := ⟨_, rfl⟩
      obtain ⟨ay, hay⟩ : ∃ x, x = (ps.getD j ⟨0, 0, 0⟩).y := ⟨_, rfl⟩
      obtain ⟨az, haz⟩ : ∃ x, x = (ps.getD j ⟨0, 0, 0⟩).z := ⟨_, rfl⟩
      obtain ⟨bx, hbx⟩ : ∃ x, x = (ps.getD (j + 1) ⟨0, 0, 0⟩).x := ⟨_, rfl⟩
      obtain ⟨by_, hby⟩ : ∃ x, x = (ps.getD (j + 1) ⟨0, 0, 0⟩).y := ⟨_, rfl⟩
      obtain ⟨bz, hbz⟩ : ∃ x, x = (ps.getD (j + 1) ⟨0, 0, 0⟩).z := ⟨_, rfl⟩
      obtain ⟨t, ht⟩ : ∃ x, x = ts.getD j 0 := ⟨_, rfl⟩
      obtain ⟨u, hu⟩ : ∃ x, x = ts.getD (j + 1) 0 := ⟨_, rfl⟩
      rw [← hax] at m1; rw [← hay] at m2; rw [← haz] at m3; rw [← hbx] at o1; rw [← hby] at o2; rw [← hbz] at o3
      rw [← hax] at a1; rw [← hay] at a2; rw [← haz] at a3; rw [← hbx] at b1; rw [← hby] at b2; rw [← hbz] at b3; rw [← ht] at t1; rw [← hu] at t2
      have Hax := hide hax; have Hay := hide hay; have Haz := hide haz; have Hbx := hide hbx; have Hby := hide hby; have Hbz := hide hbz; have Ht := hide ht; have Hu := hide hu
      clear hax hay haz hbx hby hbz ht hu
      gi_wp2_with fail
      have hS : wr.drew.cell? ⟨B1, 0, none⟩ = some (.slice (some ⟨pb, po, none⟩) nP cP) ∧ wr.drew.cell? ⟨B2, 0, none⟩ = some (.slice (some ⟨tb, to_, none⟩) nT cT) ∧
        wr.drew.cell? ⟨pb, po + j * 3, none⟩ = some (.int .i64 ax) ∧ wr.drew.cell? ⟨pb, po + j * 3 + 1, none⟩ = some (.int .i64 ay) ∧ wr.drew.cell? ⟨pb, po + j * 3 + 2, none⟩ = some (.int .i64 az) ∧
        wr.drew.cell? ⟨pb, po + (j + 1) * 3, none⟩ = some (.int .i64 bx) ∧ wr.drew.cell? ⟨pb, po + (j + 1) * 3 + 1, none⟩ = some (.int .i64 by_) ∧ wr.drew.cell? ⟨pb, po + (j + 1) * 3 + 2, none⟩ = some (.int .i64 bz) ∧
        wr.drew.cell? ⟨tb, to_ + j, none⟩ = some (.int .i64 t) ∧ wr.drew.cell? ⟨tb, to_ + (j + 1), none⟩ = some (.int .i64 u) := ⟨hc1, hc2, a1, a2, a3, b1, b2, b3, t1, t2⟩
      refine region_anyS (S := fun W => W.cell? ⟨B1, 0, none⟩ = some (.slice (some ⟨pb, po, none⟩) nP cP) ∧ W.cell? ⟨B2, 0, none⟩ = some (.slice (some ⟨tb, to_, none⟩) nT cT) ∧
        W.cell? ⟨pb, po + j * 3, none⟩ = some (.int .i64 ax) ∧ W.cell? ⟨pb, po + j * 3 + 1, none⟩ = some (.int .i64 ay) ∧ W.cell? ⟨pb, po + j * 3 + 2, none⟩ = some (.int .i64 az) ∧
        W.cell? ⟨pb, po + (j + 1) * 3, none⟩ = some (.int .i64 bx) ∧ W.cell? ⟨pb, po + (j + 1) * 3 + 1, none⟩ = some (.int .i64 by_) ∧ W.cell? ⟨pb, po + (j + 1) * 3 + 2, none⟩ = some (.int .i64 bz) ∧
        W.cell? ⟨tb, to_ + j, none⟩ = some (.int .i64 t) ∧ W.cell? ⟨tb, to_ + (j + 1), none⟩ = some (.int .i64 u)) (by kernel_rfl) ?_
      refine anyS_take (i := 0) (v := ?_) (calm_wide _) rfl (by kernel_rfl) (by kernel_rfl) (by kernel_rfl) (fun _ _ _ h => h) hS (fun _ => by kernel_rfl) (by kernel_rfl) ?_ ?_
      rotate_left
      · intro w ⟨s1, s2, s3, s4, s5, s6, s7, s8, s9, s10⟩
        go_simp
        try rfl
      simp only [Act.put, List.setIfInBounds_toArray, List.set_cons_zero, List.set_cons_succ]
      refine anyS_take (i := 1) (v := ?_) (calm_wide _) rfl (by kernel_rfl) (by kernel_rfl) (by kernel_rfl) (fun _ _ _ h => h) hS (fun _ => by kernel_rfl) (by kernel_rfl) ?_ ?_
      rotate_left
      · intro w ⟨s1, s2, s3, s4, s5, s6, s7, s8, s9, s10⟩
        go_simp
        try rfl
      simp only [Act.put, List.setIfInBounds_toArray, List.set_cons_zero, List.set_cons_succ]
      refine anyS_take (i := 2) (v := ?_) (calm_wide _) rfl (by kernel_rfl) (by kernel_rfl) (by kernel_rfl) (fun _ _ _ h => h) hS (fun _ => by kernel_rfl) (by kernel_rfl) ?_ ?_
      rotate_left
      · intro w ⟨s1, s2, s3, s4, s5, s6, s7, s8, s9, s10⟩
        go_simp
        try rfl
      simp only [Act.put, List.setIfInBounds_toArray, List.set_cons_zero, List.set_cons_succ]
      refine anyS_take (i := 3) (v := ?_) (calm_wide _) rfl (by kernel_rfl) (by kernel_rfl) (by kernel_rfl) (fun _ _ _ h => h) hS (fun _ => by kernel_rfl) (by kernel_rfl) ?_ ?_
      rotate_left
      · intro w ⟨s1, s2, s3, s4, s5, s6, s7, s8, s9, s10⟩
        go_simp
        try rfl
      simp only [Act.put, List.setIfInBounds_toArray, List.set_cons_zero, List.set_cons_succ]
      refine anyS_take (i := 4) (v := ?_) (calm_wide _) rfl (by kernel_rfl) (by kernel_rfl) (by kernel_rfl) (fun _ _ _ h => h) hS (fun _ => by kernel_rfl) (by kernel_rfl) ?_ ?_
      rotate_left
      · intro w ⟨s1, s2, s3, s4, s5, s6, s7, s8, s9, s10⟩
        go_simp
        try rfl
      simp only [Act.put, List.setIfInBounds_toArray, List.set_cons_zero, List.set_cons_succ]
      refine anyS_take (i := 5) (v := ?_) (calm_wide _) rfl (by kernel_rfl) (by kernel_rfl) (by kernel_rfl) (fun _ _ _ h => h) hS (fun _ => by kernel_rfl) (by kernel_rfl) ?_ ?_
      rotate_left
      · intro w ⟨s1, s2, s3, s4, s5, s6, s7, s8, s9, s10⟩
        go_simp
        try rfl
      simp only [Act.put, List.setIfInBounds_toArray, List.set_cons_zero, List.set_cons_succ]
      refine anyS_take (i := 6) (v := ?_) (calm_wide _) rfl (by kernel_rfl) (by kernel_rfl) (by kernel_rfl) (fun _ _ _ h => h) hS (fun _ => by kernel_rfl) (by kernel_rfl) ?_ ?_
      rotate_left
      · intro w ⟨s1, s2, s3, s4, s5, s6, s7, s8, s9, s10⟩
        go_simp
        try rfl
      simp only [Act.put, List.setIfInBounds_toArray, List.set_cons_zero, List.set_cons_succ]
      refine anyS_take (i := 7) (v := ?_) (calm_wide _) rfl (by kernel_rfl) (by kernel_rfl) (by kernel_rfl) (fun _ _ _ h => h) hS (fun _ => by kernel_rfl) (by kernel_rfl) ?_ ?_
      rotate_left
      · intro w ⟨s1, s2, s3, s4, s5, s6, s7, s8, s9, s10⟩
        go_simp
        try rfl
      simp only [Act.put, List.setIfInBounds_toArray, List.set_cons_zero, List.set_cons_succ]
      refine anyS_take (i := 8) (v := ?_) (calm_wide _) rfl (by kernel_rfl) (by kernel_rfl) (by kernel_rfl) (fun _ _ _ h => h) hS (fun _ => by kernel_rfl) (by kernel_rfl) ?_ ?_
      rotate_left
      · intro w ⟨s1, s2, s3, s4, s5, s6, s7, s8, s9, s10⟩
        go_simp
        try rfl
      simp only [Act.put, List.setIfInBounds_toArray, List.set_cons_zero, List.set_cons_succ]
      refine anyS_take (i := 9) (v := ?_) (calm_wide _) rfl (by kernel_rfl) (by kernel_rfl) (by kernel_rfl) (fun _ _ _ h => h) hS (fun _ => by kernel_rfl) (by kernel_rfl) ?_ ?_
      rotate_left
      · intro w ⟨s1, s2, s3, s4, s5, s6, s7, s8, s9, s10⟩
        go_simp
        try rfl
      simp only [Act.put, List.setIfInBounds_toArray, List.set_cons_zero, List.set_cons_succ]
      refine anyS_take (i := 10) (v := ?_) (calm_wide _) rfl (by kernel_rfl) (by kernel_rfl) (by kernel_rfl) (fun _ _ _ h => h) hS (fun _ => by kernel_rfl) (by kernel_rfl) ?_ ?_
      rotate_left
      · intro w ⟨s1, s2, s3, s4, s5, s6, s7, s8, s9, s10⟩
        go_simp
        try rfl
      simp only [Act.put, List.setIfInBounds_toArray, List.set_cons_zero, List.set_cons_succ]
      refine anyS_take (i := 11) (v := ?_) (calm_wide _) rfl (by kernel_rfl) (by kernel_rfl) (by kernel_rfl) (fun _ _ _ h => h) hS (fun _ => by kernel_rfl) (by kernel_rfl) ?_ ?_
      rotate_left
      · intro w ⟨s1, s2, s3, s4, s5, s6, s7, s8, s9, s10⟩
        go_simp
        try rfl
      simp only [Act.put, List.setIfInBounds_toArray, List.set_cons_zero, List.set_cons_succ]
      refine anyS_take (i := 12) (v := ?_) (calm_wide _) rfl (by kernel_rfl) (by kernel_rfl) (by kernel_rfl) (fun _ _ _ h => h) hS (fun _ => by kernel_rfl) (by kernel_rfl) ?_ ?_
      rotate_left
      · intro w ⟨s1, s2, s3, s4, s5, s6, s7, s8, s9, s10⟩
        go_simp
        try rfl
      simp only [Act.put, List.setIfInBounds_toArray, List.set_cons_zero, List.set_cons_succ]
      refine anyS_take (i := 13) (v := ?_) (calm_wide _) rfl (by kernel_rfl) (by kernel_rfl) (by kernel_rfl) (fun _ _ _ h => h) hS (fun _ => by kernel_rfl) (by kernel_rfl) ?_ ?_
      rotate_left
      · intro w ⟨s1, s2, s3, s4, s5, s6, s7, s8, s9, s10⟩
        go_simp
        try rfl
      simp only [Act.put, List.setIfInBounds_toArray, List.set_cons_zero, List.set_cons_succ]
      refine anyS_take (i := 14) (v := ?_) (calm_wide _) rfl (by kernel_rfl) (by kernel_rfl) (by kernel_rfl) (fun _ _ _ h => h) hS (fun _ => by kernel_rfl) (by kernel_rfl) ?_ ?_
      rotate_left
      · intro w ⟨s1, s2, s3, s4, s5, s6, s7, s8, s9, s10⟩
        go_simp
        try rfl
      simp only [Act.put, List.setIfInBounds_toArray, List.set_cons_zero, List.set_cons_succ]
      refine anyS_take (i := 15) (v := ?_) (calm_wide _) rfl (by kernel_rfl) (by kernel_rfl) (by kernel_rfl) (fun _ _ _ h => h) hS (fun _ => by kernel_rfl) (by kernel_rfl) ?_ ?_
      rotate_left
      · intro w ⟨s1, s2, s3, s4, s5, s6, s7, s8, s9, s10⟩
        go_simp
        try rfl
      simp only [Act.put, List.setIfInBounds_toArray, List.set_cons_zero, List.set_cons_succ]
      refine anyS_take (i := 16) (v := ?_) (calm_wide _) rfl (by kernel_rfl) (by kernel_rfl) (by kernel_rfl) (fun _ _ _ h => h) hS (fun _ => by kernel_rfl) (by kernel_rfl) ?_ ?_
      rotate_left
      · intro w ⟨s1, s2, s3, s4, s5, s6, s7, s8, s9, s10⟩
        go_simp
        try rfl
      simp only [Act.put, List.setIfInBounds_toArray, List.set_cons_zero, List.set_cons_succ]
      refine anyS_take (i := 17) (v := ?_) (calm_wide _) rfl (by kernel_rfl) (by kernel_rfl) (by kernel_rfl) (fun _ _ _ h => h) hS (fun _ => by kernel_rfl) (by kernel_rfl) ?_ ?_
      rotate_left
      · intro w ⟨s1, s2, s3, s4, s5, s6, s7, s8, s9, s10⟩
        go_simp
        try rfl
      simp only [Act.put, List.setIfInBounds_toArray, List.set_cons_zero, List.set_cons_succ]
      refine anyS_take (i := 18) (v := ?_) (calm_wide _) rfl (by kernel_rfl) (by kernel_rfl) (by kernel_rfl) (fun _ _ _ h => h) hS (fun _ => by kernel_rfl) (by kernel_rfl) ?_ ?_
      rotate_left
      · intro w ⟨s1, s2, s3, s4, s5, s6, s7, s8, s9, s10⟩
        go_simp
        try rfl
      simp only [Act.put, List.setIfInBounds_toArray, List.set_cons_zero, List.set_cons_succ]
      refine anyS_one (i := 19) rfl (by kernel_rfl) (fun K hK => ?_)
      go_simp
      refine ⟨trivial, fun h => by simp [Fence.wide] at h, callsIn_wide.2 ((leg_any ax ay az bx by_ bz t u 2 _ (by decide) (by decide) m1 m2 m3 o1 o2 o3).mono ?_)⟩
      rintro e w2 ⟨cs, rfl, hs, hb⟩
      have hS2 : _ ∧ _ ∧ _ ∧ _ ∧ _ ∧ _ ∧ _ ∧ _ ∧ _ ∧ _ := ⟨keep_cell hb hS.1, keep_cell hb hS.2.1, keep_cell hb hS.2.2.1, keep_cell hb hS.2.2.2.1, keep_cell hb hS.2.2.2.2.1, keep_cell hb hS.2.2.2.2.2.1, keep_cell hb hS.2.2.2.2.2.2.1, keep_cell hb hS.2.2.2.2.2.2.2.1, keep_cell hb hS.2.2.2.2.2.2.2.2.1, keep_cell hb hS.2.2.2.2.2.2.2.2.2⟩
      have hJ2 := hJ _ _ _ (hJ _ _ wr.drew hJ1 (Below.drew (Below.refl _ _))) hb
      have hseg : (legsL ps ts)[pre.length]? = some (legS ⟨ax, ay, az⟩ ⟨bx, by_, bz⟩ t u 2) := by
        rw [Hp.out, legsL_get ps ts j (by rw [hP.1]; omega), Hax.out, Hay.out, Haz.out, Hbx.out, Hby.out, Hbz.out, Ht.out, Hu.out]
      have hfact : LegFact base (legsL ps ts) pre cs w2 := ⟨_, hseg, hs.weak (by have h := hsz; simp only [World.size_drew]; omega)⟩
      have hall2 : LegAll base (legsL ps ts) pre w2 := fun i s hi h => by
        obtain ⟨c, h1, h2⟩ := hall i s hi h
        exact ⟨c, h1, (h2.below (Below.drew (Below.refl _ _)) (Nat.le_refl _)).below hb (Nat.le_refl _)⟩
      have hall3 := hall2.snoc hfact
      obtain ⟨fn, tmps, assign, body, hy, hR⟩ := hY pre cs w2 hJ2 hfact
      have hr1 := row_call (show wr.drew.heap[B1]? = _ from hB1') hb
      have hr2 := row_call (show wr.drew.heap[B2]? = _ from hB2') hb
      have hW2 : Below n₀ w0 w2 := (hW1.drew).trans (hb.mono (by simp only [World.size_drew]; omega))
      have hsz2 := Nat.le_trans hsz hb.size
      clear hseg hfact hall2 hJ2 hall hJ1 hW1 hsz hB1' hB2' hb hs
      refine hK _ _ hS2 ?_
      clear hK K
      refine anyS_one (i := 20) rfl (by kernel_rfl) (fun K hK => ?_)
      go_simp
      refine ⟨fun h => by simp [Fence.wide] at h, hR.mono ?_⟩
      rintro e w3 ⟨rfl, hJ3, hk3⟩
      have hr1' := hk3.2 _ _ _ _ hr1 (by decide) (by decide)
      have hr2' := hk3.2 _ _ _ _ hr2 (by decide) (by decide)
      have hS3 : _ ∧ _ ∧ _ ∧ _ ∧ _ ∧ _ ∧ _ ∧ _ ∧ _ ∧ _ := ⟨row_cell hr1' 0, row_cell hr2' 0, (hk3.1.cell hpb).trans hS2.2.2.1, (hk3.1.cell hpb).trans hS2.2.2.2.1, (hk3.1.cell hpb).trans hS2.2.2.2.2.1, (hk3.1.cell hpb).trans hS2.2.2.2.2.2.1,
        (hk3.1.cell hpb).trans hS2.2.2.2.2.2.2.1, (hk3.1.cell hpb).trans hS2.2.2.2.2.2.2.2.1, (hk3.1.cell htb).trans hS2.2.2.2.2.2.2.2.2.1, (hk3.1.cell htb).trans hS2.2.2.2.2.2.2.2.2.2⟩
      have hall4 : LegAll base (legsL ps ts) (pre ++ [cs]) w3 := fun i s hi h => by
        obtain ⟨c, h1, h2⟩ := hall3 i s hi h
        exact ⟨c, h1, h2.keepB hk3 (by decide) (by decide)⟩
      refine hK _ _ hS3 ?_
      clear hK K
      refine anyS_one (i := 21) rfl (by kernel_rfl) (fun K hK => ?_)
      go_simp
      refine hK _ _ hS3 ?_
      clear hK K
      refine anyS_done (by kernel_rfl) ?_ _
      gi_wp2_with fail
      go_roundw
      case rel => exact ⟨j + 1, pre ++ [cs], by omega, by go_num, by simp [Hp.out], hJ3, hW2.trans hk3.1, Nat.le_trans hsz2 hk3.1.size, hall4, hr1', hr2'⟩
      case measure => simp [intOf]; omega
    · have hlt' : decide ((j : Int) + 1 < nP) = false := by simp; omega
      gi_wp2_with fail
      go_end0
      exact ⟨⟨_, rfl⟩, pre, hJ1, by rw [hpre, Hlen.out]; omega, hall⟩
end Go.Proofs.Ytkajnimlfehmeaa
