import Derived.Test.YtkajnimlfehmeaaSkyA
set_option linter.unusedSimpArgs false
set_option linter.unusedVariables false
namespace Go.Proofs.Ytkajnimlfehmeaa
open Go.RowKit Go.Sky

/-- What part, Point and the times say, as Bools that simp does not lay open. -/
def inB (m n : Int) : Bool := decide (-m ≤ n ∧ n ≤ m)
theorem inB_iff {m n : Int} : inB m n = true ↔ -m ≤ n ∧ n ≤ m := by simp [inB]
theorem inB_not {m n : Int} : inB m n = false ↔ n < -m ∨ m < n := by simp [inB]; omega

/-- A call that hands back a Bool and turns nothing that was there. -/
def RB (b : Bool) (w : World) (e : Ending) (w' : World) : Prop := e = .returned (.bool b) ∧ Below w.heap.size w w'
/-- .. and leaves the world alone. -/
def RB0 (b : Bool) (w : World) (e : Ending) (w' : World) : Prop := e = .returned (.bool b) ∧ w = w'

theorem part_any (n : Int) (w : World) : Calls Try.prog 40 #[.int .i64 n] w (RB0 (inB 1048576 n) w) := by
  by_cases h1 : -1048576 ≤ n
  · by_cases h2 : n ≤ 1048576
    · have h : inB 1048576 n = true := inB_iff.2 ⟨h1, h2⟩
      rw [h]; clear h
      go_enter Try.func40, Try.ntmps40
      go_wp2
      go_ret
      exact ⟨rfl, rfl⟩
    · have h : inB 1048576 n = false := inB_not.2 (by omega)
      rw [h]; clear h
      have h3 : decide (n ≤ 1048576) = false := by simpa using h2
      clear h2
      go_enter Try.func40, Try.ntmps40
      go_wp2
      go_ret
      exact ⟨rfl, rfl⟩
  · have h : inB 1048576 n = false := inB_not.2 (by omega)
    rw [h]; clear h
    have h3 : decide (-1048576 ≤ n) = false := by simpa using h1
    clear h1
    go_enter Try.func40, Try.ntmps40
    go_wp2
    go_ret
    exact ⟨rfl, rfl⟩

set_option maxRecDepth 100000 in
set_option maxHeartbeats 400000 in
theorem inside_any (m : Int) (xs : List Int) (A : Option Addr) (n cp : Nat) (w : World) (lo : Nat) (hm : 0 ≤ m) (hm2 : m ≤ 4611686018427387904) (hA : Ints w lo w.heap.size A n cp xs) :
    Calls Try.prog 43 #[.int .i64 m, .slice A n cp] w (RB0 (xs.all (inB m)) w) := by
  have hl := hA.len_le
  have Hl := hide hA.len
  go_enter Try.func43, Try.ntmps43
  go_wp2_with fail
  go_loop [9] (fun i => ∃ k : Nat, k ≤ n ∧ i = .int .i64 k ∧ Hid ((xs.take k).all (inB m) = true)) (fun i => n - (intOf i).toNat)
  case atStart => exact ⟨0, Nat.zero_le _, rfl, rfl⟩
  case round =>
    obtain ⟨k, hk, rfl, hall⟩ := hrel
    by_cases hlt : k < n
    · obtain ⟨bb, off, rfl, hbB, hcell⟩ := hA.at_ (by omega)
      have hck := hcell k hlt
      clear hcell
      have Hs : Hid ((xs.take (k + 1)).all (inB m) = inB m (xs.getD k 0)) := by
        have hl := Hl.out
        have := hall.out
        show _ = _
        rw [List.take_succ_eq_append_getElem (by omega), List.all_append, this, List.getD_eq_getElem?_getD, List.getElem?_eq_getElem (by omega)]
        simp
      have Hf : Hid (inB m (xs.getD k 0) = false → xs.all (inB m) = false) := by
        have hl := Hl.out
        intro h
        rw [List.getD_eq_getElem?_getD, List.getElem?_eq_getElem (by omega)] at h
        rw [List.all_eq_false]
        exact ⟨_, List.getElem_mem _, by simpa using h⟩
      generalize xs.getD k 0 = f at hck Hs Hf
      by_cases h1 : f < -m
      · have h1' : decide (f < -m) = true := by simpa using h1
        go_wp2_with fail
        go_ret
        exact ⟨by rw [Hf.out (inB_not.2 (.inl h1))]; rfl, rfl⟩
      · have h1' : decide (f < -m) = false := by simpa using h1
        by_cases h2 : m < f
        · have h2' : decide (m < f) = true := by simpa using h2
          go_wp2_with fail
          go_ret
          exact ⟨by rw [Hf.out (inB_not.2 (.inr h2))]; rfl, rfl⟩
        · have h2' : decide (m < f) = false := by simpa using h2
          go_wp2_with fail
          go_round
          case rel => exact ⟨k + 1, by omega, by go_num, by show _ = _; rw [Hs.out]; exact inB_iff.2 ⟨by omega, by omega⟩⟩
          case measure => simp [intOf]; omega
    · go_wp2_with fail
      go_ret
      have hl := Hl.out
      have := hall.out
      rw [List.take_of_length_le (by omega)] at this
      exact ⟨by rw [this]; rfl, rfl⟩
end Go.Proofs.Ytkajnimlfehmeaa
