import Derived.Test.YtkajnimlfehmeaaPoint2
import Derived.Deep.QuietTactic
import Derived.Deep.RegionHeld3
import Derived.WalkSmall
set_option linter.unusedSimpArgs false
set_option linter.unusedVariables false
namespace Go.Proofs.Ytkajnimlfehmeaa
open Go.RowKit Go.Sky

set_option maxRecDepth 100000 in
set_option maxHeartbeats 400000 in
theorem sameInts_true (xs : List Int) (A A' : Option Addr) (n c n' c' : Nat) (w : World) (lo lo' : Nat) (hA : Ints w lo w.heap.size A n c xs) (hB : Ints w lo' w.heap.size A' n' c' xs) :
    Calls Try.prog 42 #[.slice A n c, .slice A' n' c'] w (RB true w) := by
  have hl := hA.len_le
  obtain rfl : n' = n := by rw [← hA.len, ← hB.len]
  go_enter Try.func42, Try.ntmps42
  go_wp2_with fail
  go_loopw [5] (fun i wr => ∃ k : Nat, k ≤ n' ∧ i = .int .i64 k ∧ Below w.heap.size w wr) (fun i _ => n' - (intOf i).toNat)
  case atStart => exact ⟨0, Nat.zero_le _, rfl, Below.refl _ _⟩
  case round =>
    obtain ⟨k, hk, rfl, hbl⟩ := hrel
    by_cases hlt : k < n'
    · obtain ⟨bb, off, rfl, hbB, hcell⟩ := hA.at_ (by omega)
      obtain ⟨bb', off', rfl, hbB', hcell'⟩ := hB.at_ (by omega)
      have hck := (hbl.cell (p := ⟨bb, off + k, none⟩) hbB).trans (hcell k hlt)
      have hck' := (hbl.cell (p := ⟨bb', off' + k, none⟩) hbB').trans (hcell' k hlt)
      clear hcell hcell'
      generalize xs.getD k 0 = f at hck hck'
      have hk1 : (0 : Int) ≤ k := by omega
      have hk2 : (k : Int) < n' := by omega
      go_wp2_with fail
      go_quiet (fail)
      go_wp2_with fail
      go_roundw
      case rel => exact ⟨k + 1, by omega, by go_num, below_drewN hbl _⟩
      case measure => simp [intOf]; omega
    · go_wp2_with fail
      go_ret
      exact ⟨rfl, hbl⟩

set_option maxRecDepth 100000 in
set_option maxHeartbeats 400000 in
theorem SameSegment_true (s : Seg) (cs cs' : Array Value) (w : World) (lo lo' : Nat) (hA : SegC w lo w.heap.size cs s) (hB : SegC w lo' w.heap.size cs' s) :
    Calls Try.prog 25 #[.agg cs, .agg cs'] w (RB true w) := by
  obtain ⟨A1, n1, c1, A2, n2, c2, A3, n3, c3, rfl, x1, x2, x3⟩ := hA
  obtain ⟨B1, m1, d1, B2, m2, d2, B3, m3, d3, rfl, y1, y2, y3⟩ := hB
  have hr1 := row_alloc (row_new w (.cells #[.int .i64 s.frm, .int .i64 s.til, .int .i64 s.over, .slice A1 n1 c1, .slice A2 n2 c2, .slice A3 n3 c3] 56)) (.cells #[.int .i64 s.frm, .int .i64 s.til, .int .i64 s.over, .slice B1 m1 d1, .slice B2 m2 d2, .slice B3 m3 d3] 56)
  have hr2 := row_new (w.alloc (.cells #[.int .i64 s.frm, .int .i64 s.til, .int .i64 s.over, .slice A1 n1 c1, .slice A2 n2 c2, .slice A3 n3 c3] 56)) (.cells #[.int .i64 s.frm, .int .i64 s.til, .int .i64 s.over, .slice B1 m1 d1, .slice B2 m2 d2, .slice B3 m3 d3] 56)
  simp only [World.size_alloc] at hr2
  have hB0 : Below w.heap.size w ((w.alloc (.cells #[.int .i64 s.frm, .int .i64 s.til, .int .i64 s.over, .slice A1 n1 c1, .slice A2 n2 c2, .slice A3 n3 c3] 56)).alloc (.cells #[.int .i64 s.frm, .int .i64 s.til, .int .i64 s.over, .slice B1 m1 d1, .slice B2 m2 d2, .slice B3 m3 d3] 56)) := ((Below.refl _ _).alloc (Nat.le_refl _) _).alloc (by simp) _
  go_enter Try.func25, Try.ntmps25
  go_wp2_with fail
  refine (sameInts_true s.X _ _ _ _ _ _ _ lo lo' ((x1.below hB0 (Nat.le_refl _)).weak (Nat.le_refl _) (by simp; omega)) ((y1.below hB0 (Nat.le_refl _)).weak (Nat.le_refl _) (by simp; omega))).mono ?_
  rintro e w1 ⟨rfl, hb⟩
  have hB1 := hB0.trans (hb.mono (by simp; omega))
  replace hr1 := row_call hr1 hb
  replace hr2 := row_call hr2 hb
  clear hb hB0
  have hq1 := row_cell hr1 4
  have hq2 := row_cell hr1 5
  have hq3 := row_cell hr2 4
  have hq4 := row_cell hr2 5
  simp at hq1 hq2 hq3 hq4
  go_wp2_with fail
  refine (sameInts_true s.Y _ _ _ _ _ _ _ lo lo' ((x2.below hB1 (Nat.le_refl _)).weak (Nat.le_refl _) hB1.size) ((y2.below hB1 (Nat.le_refl _)).weak (Nat.le_refl _) hB1.size)).mono ?_
  rintro e w2 ⟨rfl, hb⟩
  have hB2 := hB1.trans (hb.mono hB1.size)
  replace hr1 := row_call hr1 hb
  replace hr2 := row_call hr2 hb
  clear hb hq1 hq2 hq3 hq4 hB1
  have hq2 := row_cell hr1 5
  have hq4 := row_cell hr2 5
  simp at hq2 hq4
  go_wp2_with fail
  refine (sameInts_true s.Z _ _ _ _ _ _ _ lo lo' ((x3.below hB2 (Nat.le_refl _)).weak (Nat.le_refl _) hB2.size) ((y3.below hB2 (Nat.le_refl _)).weak (Nat.le_refl _) hB2.size)).mono ?_
  rintro e w3 ⟨rfl, hb⟩
  have hB3 := hB2.trans (hb.mono hB2.size)
  clear hb hB2
  go_wp2_with fail
  go_ret
  exact ⟨rfl, hB3⟩

set_option maxRecDepth 100000 in
set_option maxHeartbeats 400000 in
theorem Same_true (p : List Seg) (A A' : Option Addr) (n c n' c' : Nat) (w : World) (lo lo' : Nat) (hA : PathV w lo w.heap.size A n c p) (hB : PathV w lo' w.heap.size A' n' c' p) :
    Calls Try.prog 11 #[.slice A n c, .slice A' n' c'] w (RB true w) := by
  have hl := hA.len_le
  obtain rfl : n' = n := by rw [← hA.1, ← hB.1]
  go_enter Try.func11, Try.ntmps11
  go_wp2_with fail
  go_loopw [5] (fun i wr => ∃ k : Nat, k ≤ n' ∧ i = .int .i64 k ∧ Below w.heap.size w wr) (fun i _ => n' - (intOf i).toNat)
  case atStart => exact ⟨0, Nat.zero_le _, rfl, Below.refl _ _⟩
  case round =>
    obtain ⟨k, hk, rfl, hbl⟩ := hrel
    by_cases hlt : k < n'
    · obtain ⟨bb, off, v0, v1, v2, v3, v4, v5, s, rfl, hl1, hbB, hs1, hseg, c0, c1, c2, c3, c4, c5⟩ := hA.row hbl.drew (Nat.le_refl _) hlt
      obtain ⟨bb', off', u0, u1, u2, u3, u4, u5, s', rfl, hl2, hbB', hs2, hseg', d0, d1, d2, d3, d4, d5⟩ := hB.row hbl.drew (Nat.le_refl _) hlt
      obtain rfl : s' = s := by rw [hs1] at hs2; injection hs2 with h; exact h.symm
      clear hs1 hs2
      have hk1 : (0 : Int) ≤ k := by omega
      have hk2 : (k : Int) < n' := by omega
      go_wp2_with fail
      go_region_held3 (fun w' => (w'.cell? ⟨bb, off + k * 6, none⟩ = some v0 ∧ w'.cell? ⟨bb, off + k * 6 + 1, none⟩ = some v1 ∧ w'.cell? ⟨bb, off + k * 6 + 2, none⟩ = some v2 ∧ w'.cell? ⟨bb, off + k * 6 + 3, none⟩ = some v3 ∧ w'.cell? ⟨bb, off + k * 6 + 4, none⟩ = some v4 ∧ w'.cell? ⟨bb, off + k * 6 + 5, none⟩ = some v5 ∧ w'.cell? ⟨bb', off' + k * 6, none⟩ = some u0 ∧ w'.cell? ⟨bb', off' + k * 6 + 1, none⟩ = some u1 ∧ w'.cell? ⟨bb', off' + k * 6 + 2, none⟩ = some u2 ∧ w'.cell? ⟨bb', off' + k * 6 + 3, none⟩ = some u3 ∧ w'.cell? ⟨bb', off' + k * 6 + 4, none⟩ = some u4 ∧ w'.cell? ⟨bb', off' + k * 6 + 5, none⟩ = some u5))
        (first | exact ⟨c0, c1, c2, c3, c4, c5, d0, d1, d2, d3, d4, d5⟩ | (have hz := hbl.size; exact ⟨(hb1.cell (by simp; omega)).trans c0, (hb1.cell (by simp; omega)).trans c1, (hb1.cell (by simp; omega)).trans c2, (hb1.cell (by simp; omega)).trans c3, (hb1.cell (by simp; omega)).trans c4, (hb1.cell (by simp; omega)).trans c5, (hb1.cell (by simp; omega)).trans d0, (hb1.cell (by simp; omega)).trans d1, (hb1.cell (by simp; omega)).trans d2, (hb1.cell (by simp; omega)).trans d3, (hb1.cell (by simp; omega)).trans d4, (hb1.cell (by simp; omega)).trans d5⟩))
        (first | (go_at_call 25; refine (SameSegment_true _ _ _ _ lo lo' (hseg.weak (Nat.le_refl _) hbl.size) (hseg'.weak (Nat.le_refl _) hbl.size)).mono ?_; (rintro e w1 ⟨rfl, hb1⟩)))
      have hb2 := hbl.trans ((Below.drew (Below.refl w.heap.size wr)).trans (hb1.mono hbl.size))
      go_wp2_with fail
      go_roundw
      case rel => exact ⟨k + 1, by omega, by go_num, hb2⟩
      case measure => simp [intOf]; omega
    · go_wp2_with fail
      go_ret
      exact ⟨rfl, hbl⟩
end Go.Proofs.Ytkajnimlfehmeaa
