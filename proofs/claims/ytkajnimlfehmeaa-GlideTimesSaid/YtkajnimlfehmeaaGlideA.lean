/-
  Contracts of the functions of package glide that make one segment: rows, terms.
-/
import Derived.Test.YtkajnimlfehmeaaSkyA
set_option linter.unusedSimpArgs false
set_option linter.unusedVariables false
namespace Go.Proofs.Ytkajnimlfehmeaa
open Go.RowKit Go.Sky

def termsL (a b : Int) (row : List Int) : List Int := if a = b then [a] else a :: row.map (fun f => f * (b - a))
theorem el_ints : Elem Try.prog 36 3 1 8 (.int .i64 0) := .mk' Try.underlying36 (by kernel_rfl) (by decide) rfl

set_option maxRecDepth 100000 in
set_option maxHeartbeats 400000 in
theorem terms_any (a b : Int) (A : Option Addr) (n c : Nat) (row : List Int) (w : World) (lo : Nat) (hA : Ints w lo w.heap.size A n c row)
    (ha : -2097152 ≤ a ∧ a ≤ 2097152) (hb : -2097152 ≤ b ∧ b ≤ 2097152) (hn : n ≤ 16) (hr : ∀ f ∈ row, -100 ≤ f ∧ f ≤ 100) :
    Calls Try.prog 56 #[.int .i64 a, .int .i64 b, .slice A n c] w (RInts w (termsL a b row)) := by
  have hlen := hA.len
  by_cases hab : a = b
  · subst hab
    have e0 : (a != a) = false := by simp
    go_enter Try.func56, Try.ntmps56
    go_wp2_with fail
    go_ret
    refine ⟨_, _, _, rfl, ?_, (Below.refl _ _).alloc (Nat.le_refl _) _⟩
    simpa [iv, termsL] using Ow.new w 3 1 #[.int .i64 a] 1 rfl (by decide) (Nat.le_refl _)
  · have e0 : (a != b) = true := by simpa using hab
    have hd : -4194304 ≤ b - a ∧ b - a ≤ 4194304 := by omega
    have hfin : termsL a b row = a :: row.map (fun f => f * (b - a)) := by simp [termsL, hab]
    have Hfin := hide hfin; clear hfin
    have Hl := hide hlen; clear hlen hab
    obtain ⟨ys, Hys⟩ : ∃ ys : Nat → List Int, Hid (∀ k, ys k = a :: (row.take k).map (fun f => f * (b - a))) := ⟨_, fun _ => rfl⟩
    go_enter Try.func56, Try.ntmps56
    go_wp2_with fail
    go_loopw [7, 17] (fun v i wr => ∃ k : Nat, k ≤ n ∧ i = .int .i64 k ∧ Ow wr w.heap.size 3 1 v (iv (ys k)) ∧ Below w.heap.size w wr)
      (fun _ i _ => n - (intOf i).toNat)
    case atStart =>
      refine ⟨0, Nat.zero_le _, rfl, ?_, (Below.refl _ _).alloc (Nat.le_refl _) _⟩
      simpa [Hys.out, iv] using Ow.new w 3 1 #[.int .i64 a] 1 rfl (by decide) (Nat.le_refl _)
    case round =>
      obtain ⟨k, hk, rfl, hown, hbl⟩ := hrel
      by_cases hlt : k < n
      · obtain ⟨bb, off, rfl, hbB, hcell⟩ := hA.at_ (by omega)
        have hck := (hbl.cell (p := ⟨bb, off + k, none⟩) hbB).trans (hcell k hlt)
        have hf : -100 ≤ row.getD k 0 ∧ row.getD k 0 ≤ 100 := by
          have hl := Hl.out
          rw [List.getD_eq_getElem?_getD, List.getElem?_eq_getElem (by omega)]
          exact hr _ (List.getElem_mem _)
        have hsn : ys (k + 1) = ys k ++ [row.getD k 0 * (b - a)] := by
          have hl := Hl.out
          rw [Hys.out, Hys.out, List.take_succ_eq_append_getElem (by omega), List.map_append, List.getD_eq_getElem?_getD, List.getElem?_eq_getElem (by omega)]
          rfl
        have hlk : (ys k).length ≤ 17 := by rw [Hys.out]; simp; omega
        clear hcell hr
        generalize row.getD k 0 = f at hck hf hsn
        have Hsn := hide hsn; clear hsn
        have hp : -419430400 ≤ f * (b - a) ∧ f * (b - a) ≤ 419430400 := by
          have h1 : (f * (b - a)).natAbs ≤ 100 * 4194304 := by
            rw [Int.natAbs_mul]; exact Nat.mul_le_mul (by omega) (by omega)
          omega
        go_wp2_with (at_builtin; refine wpList_app rfl _ _ 36 rfl el_ints (by decide) w.heap.size _ _ rfl (hown.alloc _) _ 1 1 _ _ [.int .i64 (f * (b - a))] rfl (Sl.one _ _ _) (by simp [Value.oneCell']) (by rw [iv_len]; simp; omega) (by have := hbl.size; simp; omega) (iv (ys (k + 1))) (by rw [Hsn.out, iv_snoc]) ?_; intro v' w1 hown1 hb1)
        go_roundw
        case rel => exact ⟨k + 1, by omega, by go_num, hown1, (hbl.alloc hbl.size _).trans hb1⟩
        case measure => simp [intOf]; omega
      · go_wp2_with fail
        go_ret
        obtain ⟨A', n', c', rfl, hs⟩ := hown.sl
        refine ⟨A', n', c', rfl, ?_, hbl⟩
        have hl := Hl.out
        have : ys k = termsL a b row := by rw [Hfin.out, Hys.out, List.take_of_length_le (by omega)]
        rw [← this]
        exact hown

theorem put1 (w : World) (v : Value) : Sem.run Try.prog (Instr.mapUpdate 91 (Value.map (some w.heap.size)) (Value.int IntKind.i64 0) v) (w.alloc (Obj.map #[] 0))
  = .ok () (w.alloc (Obj.map #[{ key := .int .i64 0, val := v, born := 0}] 1)) := by
  rw [Sky.run_mapPut Try.underlying91 Try.underlying52 _ _ #[] 0 (heap_alloc_new w _) _ (by decide) _ (by simp [Instr.findNow]), Sky.setBlock_new]
  rfl
theorem put2 (w : World) (o : Obj) (v v0 : Value) : Sem.run Try.prog (Instr.mapUpdate 91 (Value.map (some w.heap.size)) (Value.int IntKind.i64 1) v) ((w.alloc (Obj.map #[{ key := .int .i64 0, val := v0, born := 0}] 1)).alloc o)
  = .ok () ((w.alloc (Obj.map #[{ key := .int .i64 0, val := v0, born := 0}, { key := .int .i64 1, val := v, born := 1}] 2)).alloc o) := by
  rw [Sky.run_mapPut Try.underlying91 Try.underlying52 _ _ #[{ key := .int .i64 0, val := v0, born := 0}] 1 ((Below.heap_alloc _ _ _ (by simp)).trans (heap_alloc_new w _)) _ (by decide) _ (by simp [Instr.findNow, Instr.sameNow]), Sky.setBlock_old _ _ (by simp), Sky.setBlock_new]
  rfl
theorem put3 (w : World) (o o2 : Obj) (v v0 v1 : Value) : Sem.run Try.prog (Instr.mapUpdate 91 (Value.map (some w.heap.size)) (Value.int IntKind.i64 2) v) (((w.alloc (Obj.map #[{ key := .int .i64 0, val := v0, born := 0}, { key := .int .i64 1, val := v1, born := 1}] 2)).alloc o).alloc o2)
  = .ok () (((w.alloc (Obj.map #[{ key := .int .i64 0, val := v0, born := 0}, { key := .int .i64 1, val := v1, born := 1}, { key := .int .i64 2, val := v, born := 2}] 3)).alloc o).alloc o2) := by
  rw [Sky.run_mapPut Try.underlying91 Try.underlying52 _ _ #[{ key := .int .i64 0, val := v0, born := 0}, { key := .int .i64 1, val := v1, born := 1}] 2 ((Below.heap_alloc _ _ _ (by simp; omega)).trans ((Below.heap_alloc _ _ _ (by simp)).trans (heap_alloc_new w _))) _ (by decide) _ (by simp [Instr.findNow, Instr.sameNow]), Sky.setBlock_old _ _ (by simp; omega), Sky.setBlock_old _ _ (by simp), Sky.setBlock_new]
  rfl

/-- The map that 'rows' makes, at block b of w: for the key k a slice that reads as rowL k. -/
def rowL (k : Int) : List Int := if k = 1 then [1] else if k = 2 then [0, 0, 10, -15, 6] else []
def RowsAt (w : World) (lo b : Nat) : Prop := ∀ k : Int, 0 ≤ k → k ≤ 2 → ∃ A n c, Sem.run Try.prog (Instr.lookup 91 (.map (some b)) (.int .i64 k) false) w = .ok (.slice A n c) w ∧ Ints w lo w.heap.size A n c (rowL k)
def RRows (w : World) (e : Ending) (w' : World) : Prop := ∃ b, e = .returned (.map (some b)) ∧ RowsAt w' w.heap.size b ∧ Below w.heap.size w w'

set_option maxRecDepth 100000 in
theorem rows_any (w : World) : Calls Try.prog 55 #[] w (RRows w) := by
  have hmm := @run_makeMap Try.prog
  have p1 := put1
  have p2 := put2
  have p3 := put3
  go_enter Try.func55, Try.ntmps55
  go_wp2
  go_ret
  refine ⟨w.heap.size, rfl, ?_, ((((Below.refl _ _).alloc (Nat.le_refl _) _).alloc (by simp) _).alloc (by simp; omega) _)⟩
  have hm : ∀ (o o1 o2 : Obj), (((w.alloc o).alloc o1).alloc o2).heap[w.heap.size]? = some o := fun o o1 o2 =>
    (Below.heap_alloc _ _ _ (by simp; omega)).trans ((Below.heap_alloc _ _ _ (by simp)).trans (heap_alloc_new w _))
  have h1 : ∀ (o o1 o2 : Obj), (((w.alloc o).alloc o1).alloc o2).heap[w.heap.size + 1]? = some o1 := fun o o1 o2 => by
    have := heap_alloc_new (w.alloc o) o1
    rw [World.size_alloc] at this
    exact (Below.heap_alloc _ _ _ (by simp)).trans this
  have h2 : ∀ (o o1 o2 : Obj), (((w.alloc o).alloc o1).alloc o2).heap[w.heap.size + 2]? = some o2 := fun o o1 o2 => by
    have := heap_alloc_new ((w.alloc o).alloc o1) o2
    rw [World.size_alloc, World.size_alloc] at this
    exact this
  intro k hk0 hk2
  have hk : k = 0 ∨ k = 1 ∨ k = 2 := by omega
  rcases hk with rfl | rfl | rfl
  · exact ⟨none, 0, 0, Sky.run_mapGet Try.underlying91 Try.underlying52 _ _ _ 3 (hm _ _ _) _ (by decide) 0 (.slice none 0 0) (by simp [Instr.findNow, Instr.sameNow]), by simpa [rowL, Ints, iv] using Sl.nil _ _ _ _⟩
  · exact ⟨some ⟨w.heap.size + 1, 0, none⟩, 1, 1, Sky.run_mapGet Try.underlying91 Try.underlying52 _ _ _ 3 (hm _ _ _) _ (by decide) 1 (.slice (some ⟨w.heap.size + 1, 0, none⟩) 1 1) (by simp [Instr.findNow, Instr.sameNow]), by simpa [rowL, Ints, iv] using Sl.of_block (sz := 1) (h1 _ _ _) rfl (Nat.le_refl _) (by decide) (by omega) (by simp)⟩
  · exact ⟨some ⟨w.heap.size + 2, 0, none⟩, 5, 5, Sky.run_mapGet Try.underlying91 Try.underlying52 _ _ _ 3 (hm _ _ _) _ (by decide) 2 (.slice (some ⟨w.heap.size + 2, 0, none⟩) 5 5) (by simp [Instr.findNow, Instr.sameNow]), by simpa [rowL, Ints, iv] using Sl.of_block (sz := 1) (h2 _ _ _) rfl (Nat.le_refl _) (by decide) (by omega) (by simp)⟩
end Go.Proofs.Ytkajnimlfehmeaa
