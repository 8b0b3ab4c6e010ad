/-
  Contracts of the first road, as contracts of values (glide).
-/
import Derived.Test.YtkajnimlfehmeaaGTy
import Derived.Test.YtkajnimlfehmeaaArc
import Derived.Test.YtkajnimlfehmeaaTourRef
import Derived.Test.YtkajnimlfehmeaaFly2
set_option linter.unusedSimpArgs false
set_option linter.unusedVariables false
namespace Go.Proofs.Ytkajnimlfehmeaa
open Go.Vl Go.RowKit

def ints (l : List Int) : PV := .slc (l.map (.int .i64))
def segCells (s : Sky.Seg) : List PV := [.int .i64 s.frm, .int .i64 s.til, .int .i64 s.over, ints s.X, ints s.Y, ints s.Z]
def segPV (s : Sky.Seg) : PV := .agg (segCells s)
def pathPV (p : List Sky.Seg) : PV := .slc (p.map segPV)

def flat0V : PV → Option Value
  | .int k n => some (.int k n)
  | .bool b => some (.bool b)
  | _ => none
def flat0L : List PV → Option (List Value)
  | [] => some []
  | v :: vs => match flat0V v, flat0L vs with
    | some x, some xs => some (x :: xs)
    | _, _ => none
def flatV : PV → Option Value
  | .agg cs => (flat0L cs).map fun l => .agg l.toArray
  | v => flat0V v
def flatL : List PV → Option (List Value)
  | [] => some []
  | v :: vs => match flatV v, flatL vs with
    | some x, some xs => some (x :: xs)
    | _, _ => none
theorem flat0V_rep {w : World} {im : Im} {v : PV} {u x : Value} (h : Rep w im v u) (hf : flat0V v = some x) : u = x := by
  cases h <;> simp [flat0V] at hf <;> exact hf
theorem flat0L_rep {w : World} {im : Im} : ∀ {vs : List PV} {us xs : List Value}, RepL w im vs us → flat0L vs = some xs → us = xs
  | [], _, _, h, hf => by cases h; simp [flat0L] at hf; exact hf.symm ▸ rfl
  | v :: vs, _, xs, h, hf => by
    cases h with
    | cons _ u _ us h t =>
      simp only [flat0L] at hf
      split at hf
      · rename_i x y e1 e2
        cases hf
        rw [flat0V_rep h e1, flat0L_rep t e2]
      · cases hf
theorem flatV_rep {w : World} {im : Im} {v : PV} {u x : Value} (h : Rep w im v u) (hf : flatV v = some x) : u = x := by
  cases v with
  | agg cs =>
    cases h with
    | agg _ vs h =>
      simp only [flatV, Option.map_eq_some_iff] at hf
      obtain ⟨l, e1, rfl⟩ := hf
      rw [flat0L_rep h e1]
  | _ => exact flat0V_rep h hf
theorem flatL_rep {w : World} {im : Im} : ∀ {vs : List PV} {us xs : List Value}, RepL w im vs us → flatL vs = some xs → us = xs
  | [], _, _, h, hf => by cases h; simp [flatL] at hf; exact hf.symm ▸ rfl
  | v :: vs, _, xs, h, hf => by
    cases h with
    | cons _ u _ us h t =>
      simp only [flatL] at hf
      split at hf
      · rename_i x y e1 e2
        cases hf
        rw [flatV_rep h e1, flatL_rep t e2]
      · cases hf

section
variable {w : World} {im : Im} {lo hi n c : Nat} {A : Option Addr}
theorem repL_ints : ∀ (xs : List Int), RepL w im ((xs.map (PV.int .i64)).flatMap PV.cells) (Sky.iv xs)
  | [] => .nil
  | x :: xs => by
    have := repL_ints xs
    exact .cons _ _ _ _ (.int _ _) this
theorem rep_empty (hm : c ≤ maxLen) : Rep w im (.slc []) (.slice A 0 c) := by
  cases A with
  | none => exact .slcNil c hm
  | some p => exact .slcE p c hm
theorem rep_ints {xs : List Int} (h : Sky.Ints w lo hi A n c xs) (hi' : ∀ g j u, lo ≤ g → w.cell? ⟨g, j, none⟩ = some u → im g j) : Rep w im (ints xs) (.slice A n c) := by
  obtain ⟨h1, h2, h3, h4⟩ := h
  have hlen : xs.length = n := by simpa [Sky.iv] using h3
  rcases Nat.eq_zero_or_pos n with rfl | hn
  · have : xs = [] := List.length_eq_zero_iff.1 hlen
    subst this
    exact rep_empty h2
  · obtain ⟨b, off, rfl, hl, hh, hc⟩ := h4 hn
    have hg : ∀ j, j < (Sky.iv xs).length → ∃ u, (Sky.iv xs)[j]? = some u ∧ w.cell? ⟨b, off + j, none⟩ = some u := fun j hj => ⟨_, List.getElem?_eq_getElem hj, hc j _ (List.getElem?_eq_getElem hj)⟩
    refine .slc _ b off n c 1 (Sky.iv xs) (by simpa using hlen) (by omega) (by simp [PV.cells]) (fun j hj => ?_) (fun j hj => ?_) (repL_ints xs) h1
    · obtain ⟨u, _, e⟩ := hg j hj; exact hi' _ _ u hl e
    · obtain ⟨u, e1, e2⟩ := hg j hj; rw [e1, e2]
theorem rep_seg {cs : Array Value} {s : Sky.Seg} (h : Sky.SegC w lo hi cs s) (hi' : ∀ g j u, lo ≤ g → w.cell? ⟨g, j, none⟩ = some u → im g j) : RepL w im (segCells s) cs.toList := by
  obtain ⟨A1, n1, c1, A2, n2, c2, A3, n3, c3, rfl, h1, h2, h3⟩ := h
  exact .cons _ _ _ _ (.int _ _) (.cons _ _ _ _ (.int _ _) (.cons _ _ _ _ (.int _ _) (.cons _ _ _ _ (rep_ints h1 hi') (.cons _ _ _ _ (rep_ints h2 hi') (.cons _ _ _ _ (rep_ints h3 hi') .nil)))))
theorem rep_path {p : List Sky.Seg} (h : Sky.PathV w lo hi A n c p) (hi' : ∀ g j u, lo ≤ g → w.cell? ⟨g, j, none⟩ = some u → im g j) : Rep w im (pathPV p) (.slice A n c) := by
  obtain ⟨h0, css, ⟨h1, h2, h3, h4⟩, h5⟩ := h
  have key : ∀ k, k ≤ n → RepL w im (((p.take k).map segPV).flatMap PV.cells) ((List.range k).flatMap fun i => (css i).toList) := by
    intro k
    induction k with
    | zero => intro _; simpa using RepL.nil
    | succ k ih =>
      intro hk
      have hp : p[k]? = some p[k] := List.getElem?_eq_getElem (by omega)
      rw [List.take_add_one, hp, List.range_succ]
      simp only [Option.toList_some, List.map_append, List.map_cons, List.map_nil, List.flatMap_append, List.flatMap_cons, List.flatMap_nil, List.append_nil]
      exact (ih (by omega)).append (rep_seg (h5 k _ hp) hi')
  have hall := key n (Nat.le_refl _)
  rw [List.take_of_length_le (by omega)] at hall
  rcases Nat.eq_zero_or_pos n with rfl | hn
  · have : p = [] := List.length_eq_zero_iff.1 h0
    subst this
    exact rep_empty h2
  · obtain ⟨b, off, rfl, hl, hh, hc⟩ := h4 hn
    generalize ((List.range n).flatMap fun i => (css i).toList) = vs at *
    have hg : ∀ j, j < vs.length → ∃ u, vs[j]? = some u ∧ w.cell? ⟨b, off + j, none⟩ = some u := fun j hj => ⟨_, List.getElem?_eq_getElem hj, hc j _ (List.getElem?_eq_getElem hj)⟩
    refine .slc _ b off n c 6 vs (by simpa using h0) (by omega) (by simp [segPV, segCells, PV.cells]) (fun j hj => ?_) (fun j hj => ?_) hall h1
    · obtain ⟨u, _, e⟩ := hg j hj; exact hi' _ _ u hl e
    · obtain ⟨u, e1, e2⟩ := hg j hj; rw [e1, e2]
end

theorem sound_path {f : FuncId} {args : List PV} {us : List Value} {p : List Sky.Seg} {er : Int} (hc : callable Try.prog f = true) (hu : flatL args = some us) (h : ∀ w, Calls Try.prog f us.toArray w (Sky.RPath w p er)) :
    SoundAt Try.prog f args (.tup [pathPV p, .int .i64 er]) := by
  refine ⟨hc, fun w im vs hr _ => ?_⟩
  rw [flatL_rep hr hu]
  refine (h w).mono ?_
  rintro e w' ⟨A, n, c, rfl, h1, h2⟩
  refine ⟨_, rfl, h2, .tup _ [_, _] (.cons _ _ _ _ (rep_path h1 fun g j u hg hu => .inr ⟨hg, u, hu⟩) (.cons _ _ _ _ (.int _ _) .nil))⟩

def vecPV (x y z : Int) : PV := .agg [.int .i64 x, .int .i64 y, .int .i64 z]

theorem Glide_v (ax ay az bx by_ bz t u : Int) : SoundAt Try.prog 7 [vecPV ax ay az, vecPV bx by_ bz, .int .i64 t, .int .i64 u] (.tup [pathPV (flyP ax ay az bx by_ bz t u 2).1, .int .i64 (flyP ax ay az bx by_ bz t u 2).2]) :=
  sound_path (by kernel_rfl) rfl fun w => Glide_any ax ay az bx by_ bz t u w
theorem Line_v (ax ay az bx by_ bz t u : Int) : SoundAt Try.prog 8 [vecPV ax ay az, vecPV bx by_ bz, .int .i64 t, .int .i64 u] (.tup [pathPV (flyP ax ay az bx by_ bz t u 1).1, .int .i64 (flyP ax ay az bx by_ bz t u 1).2]) :=
  sound_path (by kernel_rfl) rfl fun w => Line_any ax ay az bx by_ bz t u w
theorem Hover_v (ax ay az t u : Int) : SoundAt Try.prog 9 [vecPV ax ay az, .int .i64 t, .int .i64 u] (.tup [pathPV (flyP ax ay az ax ay az t u 0).1, .int .i64 (flyP ax ay az ax ay az t u 0).2]) :=
  sound_path (by kernel_rfl) rfl fun w => Hover_any ax ay az t u w
theorem Fly_v (ax ay az bx by_ bz t u k : Int) (h0 : 0 ≤ k) (h2 : k ≤ 2) : SoundAt Try.prog 10 [vecPV ax ay az, vecPV bx by_ bz, .int .i64 t, .int .i64 u, .int .i64 k] (.tup [pathPV (flyP ax ay az bx by_ bz t u (2 - k)).1, .int .i64 (flyP ax ay az bx by_ bz t u (2 - k)).2]) :=
  sound_path (by kernel_rfl) rfl fun w => r15_Fly_any ax ay az bx by_ bz t u k w h0 h2
theorem Arc_v (ax ay az bx by_ bz r t u : Int) : SoundAt Try.prog 16 [vecPV ax ay az, vecPV bx by_ bz, .int .i64 r, .int .i64 t, .int .i64 u] (.tup [pathPV (arcP ax ay az bx by_ bz r t u).1, .int .i64 (arcP ax ay az bx by_ bz r t u).2]) :=
  sound_path (by kernel_rfl) rfl fun w => Arc_any ax ay az bx by_ bz r t u w

def v3PV (v : Sky.V3) : PV := vecPV v.x v.y v.z
theorem repL_ints_inv {w : World} {im : Im} : ∀ {xs : List Int} {us : List Value}, RepL w im ((xs.map (PV.int .i64)).flatMap PV.cells) us → us = Sky.iv xs
  | [], _, h => by cases h; rfl
  | x :: xs, us, h => by
    cases h with
    | cons _ u _ us h t =>
      cases h
      rw [repL_ints_inv t]; rfl
theorem ints_rep {w : World} {im : Im} {xs : List Int} {u : Value} (h : Rep w im (ints xs) u) (hx : ∀ g j, im g j → ∃ u, w.cell? ⟨g, j, none⟩ = some u) : ∃ A n c, u = .slice A n c ∧ Sky.Ints w 0 w.heap.size A n c xs := by
  generalize hv : ints xs = v at h
  have nil0 : ∀ (A : Option Addr) (c : Nat), c ≤ maxLen → Sky.Ints w 0 w.heap.size A 0 c [] := fun A c hm => ⟨Nat.zero_le _, hm, rfl, fun h => absurd h (by omega)⟩
  cases h <;> simp [ints] at hv
  · rename_i c hm; subst hv; exact ⟨_, _, _, rfl, nil0 _ _ hm⟩
  · rename_i p c hm; subst hv; exact ⟨_, _, _, rfl, nil0 _ _ hm⟩
  · rename_i es g off len cap sz vs hn hm hz h1 h2 hr hcap
    subst hv
    have := repL_ints_inv hr
    subst this
    simp at hn
    refine ⟨_, _, _, rfl, hcap, ?_, by simp [Sky.iv, hn], fun hp => ⟨g, off, rfl, Nat.zero_le _, ?_, fun j u hu => ?_⟩⟩
    · exact hm
    · obtain ⟨u, hu⟩ := hx g off (by simpa using h1 0 (by simp [Sky.iv]; omega))
      exact World.block_lt_of_cell? w _ hu
    · have hj : j < (Sky.iv xs).length := (List.getElem?_eq_some_iff.1 hu).1
      rw [h2 j hj, hu]

theorem repL_v3_inv {w : World} {im : Im} : ∀ {xs : List Sky.V3} {us : List Value}, RepL w im ((xs.map v3PV).flatMap PV.cells) us → us = xs.flatMap fun v => v.cells.toList
  | [], _, h => by cases h; rfl
  | x :: xs, us, h => by
    cases h with
    | cons _ u _ us h t =>
      cases h
      cases t with
      | cons _ u _ us h t =>
      cases h
      cases t with
      | cons _ u _ us h t =>
      cases h
      rw [repL_v3_inv t]; rfl
theorem v3_flat (xs : List Sky.V3) : (xs.flatMap fun v => v.cells.toList) = (List.range xs.length).flatMap fun i => (xs.getD i ⟨0, 0, 0⟩).cells.toList := by
  have h : xs = (List.range xs.length).map fun i => xs.getD i ⟨0, 0, 0⟩ := by
    apply List.ext_getElem
    · simp
    · intro i h1 h2; simp [h1]
  conv => lhs; rw [h]
  rw [List.flatMap_map]
theorem vecs_rep {w : World} {im : Im} {xs : List Sky.V3} {u : Value} (h : Rep w im (.slc (xs.map v3PV)) u) (hx : ∀ g j, im g j → ∃ u, w.cell? ⟨g, j, none⟩ = some u) : ∃ A n c, u = .slice A n c ∧ Sky.Vecs w 0 w.heap.size A n c xs := by
  generalize hv : PV.slc (xs.map v3PV) = v at h
  have nil0 : ∀ (A : Option Addr) (c : Nat), c ≤ maxLen → Sky.Vecs w 0 w.heap.size A 0 c [] := fun A c hm => ⟨rfl, Nat.zero_le _, hm, rfl, fun h => absurd h (by omega)⟩
  cases h <;> simp at hv
  · rename_i c hm; subst hv; exact ⟨_, _, _, rfl, nil0 _ _ hm⟩
  · rename_i p c hm; subst hv; exact ⟨_, _, _, rfl, nil0 _ _ hm⟩
  · rename_i es g off len cap sz vs hn hm hz h1 h2 hr hcap
    subst hv
    have := repL_v3_inv hr
    subst this
    simp at hn
    have hl : (xs.flatMap fun v => v.cells.toList).length = len * 3 := by
      rw [← hn]
      clear hr h1 h2 hz hn
      induction xs with
      | nil => rfl
      | cons x xs ih => simp only [List.flatMap_cons, List.length_append, ih, List.length_cons]; simp [Sky.V3.cells]; omega
    subst hn
    refine ⟨_, _, _, rfl, rfl, hcap, hm, ?_, fun hp => ⟨g, off, rfl, Nat.zero_le _, ?_, fun j u hu => ?_⟩⟩
    · rw [← v3_flat]; exact hl
    · obtain ⟨u, hu⟩ := hx g off (by simpa using h1 0 (by omega))
      exact World.block_lt_of_cell? w _ hu
    · rw [← v3_flat] at hu
      have hj : j < (xs.flatMap fun v => v.cells.toList).length := (List.getElem?_eq_some_iff.1 hu).1
      rw [h2 j hj, hu]
theorem sound_tour {f : FuncId} {ps : List Sky.V3} {ts : List Int} {p : List Sky.Seg} {er : Int} (hc : callable Try.prog f = true)
    (h : ∀ (nP cP nT cT lo lo' : Nat) (AP AT : Option Addr) (w : World) (hP : Sky.Vecs w lo w.heap.size AP nP cP ps) (hT : Sky.Ints w lo' w.heap.size AT nT cT ts), Calls Try.prog f #[.slice AP nP cP, .slice AT nT cT] w (Sky.RPath w p er)) :
    SoundAt Try.prog f [.slc (ps.map v3PV), ints ts] (.tup [pathPV p, .int .i64 er]) := by
  refine ⟨hc, fun w im vs hr hx => ?_⟩
  cases hr with
  | cons _ u1 _ us h1 t =>
  cases t with
  | cons _ u2 _ us h2 t =>
  cases t
  obtain ⟨A, n, c, rfl, hP⟩ := vecs_rep h1 hx
  obtain ⟨A', n', c', rfl, hT⟩ := ints_rep h2 hx
  refine (h _ _ _ _ _ _ _ _ w hP hT).mono ?_
  rintro e w' ⟨A, n, c, rfl, h1, h2⟩
  refine ⟨_, rfl, h2, .tup _ [_, _] (.cons _ _ _ _ (rep_path h1 fun g j u hg hu => .inr ⟨hg, u, hu⟩) (.cons _ _ _ _ (.int _ _) .nil))⟩
theorem Tour_v (ps : List Sky.V3) (ts : List Int) : SoundAt Try.prog 14 [.slc (ps.map v3PV), ints ts] (.tup [pathPV (tourP ps ts).1, .int .i64 (tourP ps ts).2]) :=
  sound_tour (by kernel_rfl) fun nP cP nT cT lo lo' AP AT w hP hT => Tour_any nP cP nT cT lo lo' AP AT ps ts w hP hT
theorem rTour_v (ps : List Sky.V3) (ts : List Int) : SoundAt Try.prog 15 [.slc (ps.map v3PV), ints ts] (.tup [pathPV (tourP ps ts).1, .int .i64 (tourP ps ts).2]) :=
  sound_tour (by kernel_rfl) fun nP cP nT cT lo lo' AP AT w hP hT => r15_Tour_any nP cP nT cT lo lo' AP AT ps ts w hP hT
end Go.Proofs.Ytkajnimlfehmeaa
