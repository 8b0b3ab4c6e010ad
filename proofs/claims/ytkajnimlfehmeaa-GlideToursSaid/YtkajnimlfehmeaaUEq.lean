/-
  Equality of structs, cell by cell.
-/
import Derived.Test.YtkajnimlfehmeaaUB
set_option linter.unusedSimpArgs false
set_option linter.unusedVariables false
namespace Go.Vl
open Go.RowKit

def shFields (P : Program) (rec : TypeId → Option (List Nat)) : List Field → Nat → Option (List Nat)
  | [], _ => some []
  | f :: fs, off => if f.name = "_" then none else if f.offset = off then (match rec f.type with
      | none => none
      | some sh => if P.cellsOf f.type = sh.length ∧ (P.info? f.type).isSome = true ∧ sh ≠ [] then (match shFields P rec fs (off + sh.length) with
        | some r => some (sh ++ r)
        | none => none) else none) else none
/-- The kinds of a type's cells, where it can be compared cell by cell. -/
def eqShape (P : Program) : Nat → TypeId → Option (List Nat)
  | 0, _ => none
  | d + 1, t => match P.underlying t with
    | some .bool => some [0]
    | some (.int _) => some [1]
    | some .string => some [2]
    | some (.struct fs) => if P.stoodInHeld t = true then none else shFields P (eqShape P d) fs.toList 0
    | _ => none
def eqCells : List Nat → List PV → List PV → Option Bool
  | [], [], [] => some true
  | 0 :: s, .bool a :: xs, .bool b :: ys => (eqCells s xs ys).map fun r => (a == b) && r
  | 1 :: s, .int k a :: xs, .int k' b :: ys => if k = k' then (eqCells s xs ys).map fun r => (a == b) && r else none
  | 2 :: s, .str a :: xs, .str b :: ys => (eqCells s xs ys).map fun r => (a == b) && r
  | _, _, _ => none

theorem eqCells_length : ∀ {s : List Nat} {xs ys : List PV} {b : Bool}, eqCells s xs ys = some b → xs.length = s.length ∧ ys.length = s.length
  | [], xs, ys, b, h => by
    unfold eqCells at h
    split at h <;> first | exact ⟨rfl, rfl⟩ | (rename_i e; cases e) | cases h
  | k :: s, xs, ys, b, h => by
    unfold eqCells at h
    split at h
    · rename_i e; cases e
    · rename_i e; cases e
      obtain ⟨r, hr, _⟩ := Option.map_eq_some_iff.1 h
      have := eqCells_length hr; simp [this]
    · rename_i e; cases e
      split at h
      · obtain ⟨r, hr, _⟩ := Option.map_eq_some_iff.1 h
        have := eqCells_length hr; simp [this]
      · cases h
    · rename_i e; cases e
      obtain ⟨r, hr, _⟩ := Option.map_eq_some_iff.1 h
      have := eqCells_length hr; simp [this]
    · cases h
theorem eqCells_append : ∀ {s r : List Nat} {xs ys : List PV} {b : Bool}, eqCells (s ++ r) xs ys = some b →
    ∃ b1 b2, eqCells s (xs.take s.length) (ys.take s.length) = some b1 ∧ eqCells r (xs.drop s.length) (ys.drop s.length) = some b2 ∧ b = (b1 && b2)
  | [], r, xs, ys, b, h => ⟨true, b, by simp [eqCells], by simpa using h, by simp⟩
  | k :: s, r, xs, ys, b, h => by
    rw [List.cons_append] at h
    unfold eqCells at h
    split at h
    · rename_i e; cases e
    · rename_i e; cases e
      obtain ⟨c, hc, rfl⟩ := Option.map_eq_some_iff.1 h
      obtain ⟨b1, b2, h1, h2, rfl⟩ := eqCells_append hc
      exact ⟨_, b2, (by rw [List.length_cons, List.take_succ_cons, List.take_succ_cons, eqCells, h1]; first | rfl | (rw [if_pos rfl]; rfl)), by simpa using h2, by simp [Bool.and_assoc]⟩
    · rename_i e; cases e
      split at h
      · rename_i hk; subst hk
        obtain ⟨c, hc, rfl⟩ := Option.map_eq_some_iff.1 h
        obtain ⟨b1, b2, h1, h2, rfl⟩ := eqCells_append hc
        exact ⟨_, b2, (by rw [List.length_cons, List.take_succ_cons, List.take_succ_cons, eqCells, h1]; first | rfl | (rw [if_pos rfl]; rfl)), by simpa using h2, by simp [Bool.and_assoc]⟩
      · cases h
    · rename_i e; cases e
      obtain ⟨c, hc, rfl⟩ := Option.map_eq_some_iff.1 h
      obtain ⟨b1, b2, h1, h2, rfl⟩ := eqCells_append hc
      exact ⟨_, b2, (by rw [List.length_cons, List.take_succ_cons, List.take_succ_cons, eqCells, h1]; first | rfl | (rw [if_pos rfl]; rfl)), by simpa using h2, by simp [Bool.and_assoc]⟩
    · cases h

theorem eqCells_nil {a c : List PV} {b : Bool} (h : eqCells [] a c = some b) : b = true := by
  cases a <;> cases c <;> simp_all [eqCells]
/-- Cells in the world, as cells of values: one cell, or a struct's. -/
def Whole (us : List Value) (v : Value) : Prop := us = [v] ∨ v = .agg us.toArray

section
variable {P : Program} {w : World} {im : Im} {ρ : Rho}

theorem part_whole {t : TypeId} {us : List Value} {off : Nat} {i : TypeInfo} (hi : P.info? t = some i) (hu : (P.underlying t).isSome = true) (hl : off + i.size ≤ us.length)
    (hsz : (match P.underlying t with | some (.struct _) | some (.array _ _) => true | _ => false) = false → i.size = 1) :
    ∃ v, (part t us.toArray off).run P w = .ok v w ∧ ((match P.underlying t with | some (.struct _) | some (.array _ _) => true | _ => false) = true → v = .agg ((us.drop off).take i.size).toArray) ∧
      ((match P.underlying t with | some (.struct _) | some (.array _ _) => true | _ => false) = false → (us.drop off).take i.size = [v]) := by
  obtain ⟨d, hd⟩ := Option.isSome_iff_exists.1 hu
  have hs : (sizeOf t).run P w = .ok i.size w := by simp [sizeOf, typeInfo, hi]
  have hag : ∀ b, (isAgg t).run P w = .ok b w ↔ b = (match P.underlying t with | some (.struct _) | some (.array _ _) => true | _ => false) := by
    intro b
    rw [hd]
    cases d <;> simp [isAgg, run_underlying hd] <;> exact eq_comm
  cases hb : (match P.underlying t with | some (.struct _) | some (.array _ _) => true | _ => false) with
  | true =>
    refine ⟨.agg ((us.drop off).take i.size).toArray, ?_, fun _ => rfl, fun h => by cases h⟩
    have := (hag true).2 hb.symm
    simp only [part, Sem.run_bind, this, Result.andThen_ok, if_true, hs, Sem.run_pure]
    congr 2
    apply Array.ext'
    simp [List.extract_eq_take_drop]
  | false =>
    have h1 := hsz hb
    have hlt : off < us.length := by omega
    refine ⟨us[off], ?_, fun h => (by cases h), fun _ => ?_⟩
    · have := (hag false).2 hb.symm
      simp [part, this, hlt]
    · rw [h1]; simp [List.take_one, List.head?_drop, hlt]

theorem equalIn_cells : ∀ (d : Nat) (t : TypeId) (sh : List Nat) (xs ys : List PV) (us vs : List Value) (x y : Value) (b : Bool), eqShape P d t = some sh → eqCells sh xs ys = some b → LRL w im ρ xs us → LRL w im ρ ys vs →
    ((match P.underlying t with | some (.struct _) | some (.array _ _) => true | _ => false) = true → x = .agg us.toArray ∧ y = .agg vs.toArray) →
    ((match P.underlying t with | some (.struct _) | some (.array _ _) => true | _ => false) = false → us = [x] ∧ vs = [y]) → (Op.equalIn d t x y).run P w = .ok b w
  | 0, _, _, _, _, _, _, _, _, _, h, _, _, _, _, _ => by cases h
  | d + 1, t, sh, xs, ys, us, vs, x, y, b, hsh, hc, hx, hy, hagg, hone => by
    unfold eqShape at hsh
    have inv1 : ∀ {v : PV} {u : Value}, LRL w im ρ [v] [u] → LR w im ρ v u := fun h => by cases h with | cons _ _ _ _ h _ => exact h
    split at hsh
    · rename_i hu
      cases hsh
      obtain ⟨rfl, rfl⟩ := hone (by rw [hu])
      unfold eqCells at hc
      split at hc <;> first | (rename_i e; cases e; done) | skip
      · rename_i a xs' b' ys' e
        cases e
        obtain ⟨r, hr, rfl⟩ := Option.map_eq_some_iff.1 hc
        have hl := eqCells_length hr
        have e1 : xs' = [] := List.length_eq_zero_iff.1 hl.1
        have e2 : ys' = [] := List.length_eq_zero_iff.1 hl.2
        subst e1; subst e2
        simp [eqCells] at hr; subst hr
        cases inv1 hx with | ext _ _ h1 => cases h1; cases inv1 hy with | ext _ _ h2 => cases h2; simp [Op.equalIn, run_underlying hu]
      · cases hc
    · rename_i k hu
      cases hsh
      obtain ⟨rfl, rfl⟩ := hone (by rw [hu])
      unfold eqCells at hc
      split at hc <;> first | (rename_i e; cases e; done) | skip
      · rename_i k1 a xs' k2 b' ys' e
        cases e
        split at hc
        · rename_i hk; subst hk
          obtain ⟨r, hr, rfl⟩ := Option.map_eq_some_iff.1 hc
          have hl := eqCells_length hr
          have e1 : xs' = [] := List.length_eq_zero_iff.1 hl.1
          have e2 : ys' = [] := List.length_eq_zero_iff.1 hl.2
          subst e1; subst e2
          simp [eqCells] at hr; subst hr
          cases inv1 hx with | ext _ _ h1 => cases h1; cases inv1 hy with | ext _ _ h2 => cases h2; simp [Op.equalIn, run_underlying hu]
        · cases hc
      · cases hc
    · rename_i hu
      cases hsh
      obtain ⟨rfl, rfl⟩ := hone (by rw [hu])
      unfold eqCells at hc
      split at hc <;> first | (rename_i e; cases e; done) | skip
      · rename_i a xs' b' ys' e
        cases e
        obtain ⟨r, hr, rfl⟩ := Option.map_eq_some_iff.1 hc
        have hl := eqCells_length hr
        have e1 : xs' = [] := List.length_eq_zero_iff.1 hl.1
        have e2 : ys' = [] := List.length_eq_zero_iff.1 hl.2
        subst e1; subst e2
        simp [eqCells] at hr; subst hr
        cases inv1 hx with | ext _ _ h1 => cases h1; cases inv1 hy with | ext _ _ h2 => cases h2; simp [Op.equalIn, run_underlying hu]
      · cases hc
    · rename_i fs hu
      split at hsh
      · cases hsh
      rename_i hst
      have hst : P.stoodInHeld t = false := by simpa using hst
      obtain ⟨rfl, rfl⟩ := hagg (by rw [hu])
      simp only [Op.equalIn, Sem.run_bind, run_underlying hu, Result.andThen_ok]
      have key : ∀ (l : List Field) (off : Nat) (sh : List Nat) (b : Bool), shFields P (eqShape P d) l off = some sh → eqCells sh (xs.drop off) (ys.drop off) = some b → off ≤ xs.length → off ≤ ys.length →
          ((forIn l ((none : Option Bool), ()) fun (f : Field) (__s : Option Bool × Unit) =>
            if f.name = "_" then (pure (ForInStep.yield (none, ())) : Sem (ForInStep (Option Bool × Unit))) else do
              let x ← part f.type us.toArray f.offset
              let y ← part f.type vs.toArray f.offset
              let r ← Op.equalIn d f.type x y
              if r = false then pure (ForInStep.done (some false, ())) else pure (ForInStep.yield (none, ()))).run P w) = .ok (if b then none else some false, ()) w := by
        intro l
        induction l with
        | nil =>
          intro off sh b h1 h2 _ _
          simp [shFields] at h1
          subst h1
          have := eqCells_nil h2
          subst this
          simp
        | cons f fs ih =>
          intro off sh b h1 h2 hlx hly
          unfold shFields at h1
          split at h1
          · cases h1
          rename_i hname
          split at h1
          case isFalse => cases h1
          rename_i hoff
          subst hoff
          split at h1
          · cases h1
          rename_i sh1 hsh1
          split at h1
          case isFalse => cases h1
          rename_i hcell
          obtain ⟨hcell, hinfo, hne⟩ := hcell
          split at h1
          case h_2 => cases h1
          rename_i sh2 hsh2
          cases h1
          obtain ⟨b1, b2, k1, k2, rfl⟩ := eqCells_append h2
          obtain ⟨i, hi⟩ := Option.isSome_iff_exists.1 hinfo
          have hcs : i.size = sh1.length := by rw [← hcell]; simp [Program.cellsOf, hi]
          have kl := eqCells_length k1
          simp only [List.length_take, List.length_drop] at kl
          have hund : (P.underlying f.type).isSome = true := by
            cases d with
            | zero => cases hsh1
            | succ d =>
              unfold eqShape at hsh1
              split at hsh1 <;> first | (rename_i e; rw [e]; rfl) | cases hsh1
          have hag1 : (match P.underlying f.type with | some (.struct _) | some (.array _ _) => true | _ => false) = false → i.size = 1 := by
            intro hh
            cases d with
            | zero => cases hsh1
            | succ d =>
              unfold eqShape at hsh1
              split at hsh1
              · cases hsh1; exact hcs
              · cases hsh1; exact hcs
              · cases hsh1; exact hcs
              · rename_i e; rw [e] at hh; cases hh
              · cases hsh1
          have lx := hx.length
          have ly := hy.length
          obtain ⟨p1, q1, q2, q3⟩ := part_whole (P := P) (w := w) (us := us) (off := f.offset) hi hund (by omega) hag1
          obtain ⟨p2, r1, r2, r3⟩ := part_whole (P := P) (w := w) (us := vs) (off := f.offset) hi hund (by omega) hag1
          have heq := equalIn_cells d f.type sh1 ((xs.drop f.offset).take sh1.length) ((ys.drop f.offset).take sh1.length) ((us.drop f.offset).take i.size) ((vs.drop f.offset).take i.size) p1 p2 b1 hsh1 k1
            (by rw [hcs]; exact (hx.drop _).take _) (by rw [hcs]; exact (hy.drop _).take _) (fun hh => ⟨q2 hh, r2 hh⟩) (fun hh => ⟨q3 hh, r3 hh⟩)
          rw [List.forIn_cons]
          simp only [Sem.run_bind, hname, if_false, q1, r1, Result.andThen_ok, heq]
          cases b1 with
          | false => simp
          | true =>
            simp only [Bool.true_eq_false, if_false, Sem.run_pure, Result.andThen_ok, Bool.true_and]
            rw [List.drop_drop, List.drop_drop] at k2
            exact ih (f.offset + sh1.length) sh2 b2 hsh2 k2 (by omega) (by omega)
      have := key fs.toList 0 sh b hsh (by simpa using hc) (Nat.zero_le _) (Nat.zero_le _)
      rw [Array.forIn_toList] at this
      simp [hst]
      rw [this]
      cases b <;> simp
    · cases hsh
end
end Go.Vl
