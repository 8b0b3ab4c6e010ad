/-
  A law's arguments, as values; a law's row from a contract of values.
-/
import Derived.Test.YtkajnimlfehmeaaUQ
import Derived.ProofKit
set_option linter.unusedSimpArgs false
set_option linter.unusedVariables false
namespace Go.Vl
open Go.RowKit

inductive TT where
  | bool
  | int (k : IntKind)
  | str
  | slc (e : TT)
  | agg (fs : List TT)

mutual
def TT.size : TT → Nat
  | .agg fs => TT.sizes fs
  | .bool | .int _ | .str | .slc _ => 1
def TT.sizes : List TT → Nat
  | [] => 0
  | f :: fs => f.size + TT.sizes fs
end

mutual
def TT.fits (P : Program) : TT → TypeId → Bool
  | .bool, t => match P.underlying t with
    | some .bool => true
    | _ => false
  | .int k, t => match P.underlying t with
    | some (.int k') => decide (k' = k)
    | _ => false
  | .str, t => match P.underlying t with
    | some .string => true
    | _ => false
  | .slc e, t => match P.underlying t with
    | some (.slice te) => e.fits P te && Nat.beq (P.cellsOf te) e.size && Nat.ble 1 e.size
    | _ => false
  | .agg fs, t => match P.underlying t with
    | some (.struct xs) => TT.fitsL P fs xs.toList 0 && Nat.beq (P.cellsOf t) (TT.sizes fs)
    | _ => false
def TT.fitsL (P : Program) : List TT → List Field → Nat → Bool
  | [], [], _ => true
  | f :: fs, x :: xs, off => f.fits P x.type && Nat.beq x.offset off && Nat.beq (P.cellsOf x.type) f.size && TT.fitsL P fs xs (off + f.size)
  | _, _, _ => false
end

def TT.mk : TT → List PV → PV
  | .agg _, cs => .agg cs
  | _, cs => cs.headD .undef

mutual
def HasTT : TT → List PV → Prop
  | .bool, cs => ∃ b, cs = [.bool b]
  | .int k, cs => ∃ n, cs = [.int k n] ∧ (Lit.int k n).wf = true
  | .str, cs => ∃ s : ByteArray, cs = [.str s] ∧ s.size ≤ maxLen
  | .slc e, cs => ∃ ess : List (List PV), cs = [.slc (ess.map e.mk)] ∧ ess.length ≤ maxLen ∧ ∀ c ∈ ess, HasTT e c
  | .agg fs, cs => HasTTs fs cs
def HasTTs : List TT → List PV → Prop
  | [], cs => cs = []
  | f :: fs, cs => ∃ a b, cs = a ++ b ∧ HasTT f a ∧ HasTTs fs b
end

theorem mk_cells {e : TT} {c : List PV} (h : HasTT e c) : (e.mk c).cells = c := by
  cases e with
  | bool => simp only [HasTT] at h; obtain ⟨b, rfl⟩ := h; rfl
  | int k => simp only [HasTT] at h; obtain ⟨b, rfl, _⟩ := h; rfl
  | str => simp only [HasTT] at h; obtain ⟨b, rfl, _⟩ := h; rfl
  | slc e => simp only [HasTT] at h; obtain ⟨b, rfl, _⟩ := h; rfl
  | agg fs => rfl

mutual
theorem HasTT.length : ∀ {e : TT} {c : List PV}, HasTT e c → c.length = e.size
  | .bool, c, h => by simp only [HasTT] at h; obtain ⟨b, rfl⟩ := h; simp [TT.size]
  | .int k, c, h => by simp only [HasTT] at h; obtain ⟨b, rfl, _⟩ := h; simp [TT.size]
  | .str, c, h => by simp only [HasTT] at h; obtain ⟨b, rfl, _⟩ := h; simp [TT.size]
  | .slc e, c, h => by simp only [HasTT] at h; obtain ⟨b, rfl, _⟩ := h; simp [TT.size]
  | .agg fs, c, h => by simp only [HasTT] at h; simp only [TT.size]; exact HasTTs.length h
theorem HasTTs.length : ∀ {fs : List TT} {c : List PV}, HasTTs fs c → c.length = TT.sizes fs
  | [], c, h => by simp only [HasTTs] at h; subst h; simp [TT.sizes]
  | f :: fs, c, h => by
    simp only [HasTTs] at h
    obtain ⟨a, b, rfl, h1, h2⟩ := h
    simp only [TT.sizes, List.length_append, h1.length, h2.length]
end

/-- Every cell that is there is to stay. -/
def exIm (w : World) : Im := fun g j => ∃ u, w.cell? ⟨g, j, none⟩ = some u

section
variable {H : Type} {enc : TypeId × Value → H} {P : Program} {w : World} {base : Nat} {held : Bool}

theorem rep_nothing {im : Im} {A : Option Addr} {c : Nat} (hm : c ≤ maxLen) : Rep w im (.slc []) (.slice A 0 c) := by
  cases A with
  | none => exact .slcNil c hm
  | some p => exact .slcE p c hm

mutual
theorem trod_rep : ∀ (tt : TT) (t : TypeId) (fuel : Nat) (cs : List Value) (x : DataW H × List MemPlace), tt.fits P t = true → DataW.trod enc P w base (fun _ => true) held fuel t cs = some x →
    ∃ pvs, RepL w (exIm w) pvs cs ∧ HasTT tt pvs
  | .bool, t, fuel, cs, x, hf, h => by
    simp only [TT.fits] at hf
    split at hf
    · rename_i ht
      obtain ⟨b, rfl, _⟩ := DataW.trod_bool ht h
      exact ⟨[.bool b], .cons _ _ _ _ (.bool b) .nil, by simp [HasTT]⟩
    · cases hf
  | .int k, t, fuel, cs, x, hf, h => by
    simp only [TT.fits] at hf
    split at hf
    · rename_i k' ht
      have hk : k' = k := of_decide_eq_true hf
      subst hk
      obtain ⟨n, rfl, _, hw⟩ := DataW.trod_int ht h
      exact ⟨[.int k' n], .cons _ _ _ _ (.int _ n) .nil, by simp [HasTT, hw]⟩
    · cases hf
  | .str, t, fuel, cs, x, hf, h => by
    simp only [TT.fits] at hf
    split at hf
    · rename_i ht
      obtain ⟨s, rfl, _, hs⟩ := DataW.trod_string ht h
      exact ⟨[.str s], .cons _ _ _ _ (.str s) .nil, by simp only [HasTT]; exact ⟨s, rfl, hs⟩⟩
    · cases hf
  | .slc e, t, fuel, cs, x, hf, h => by
    simp only [TT.fits] at hf
    split at hf
    · rename_i te ht
      simp only [Bool.and_eq_true] at hf
      obtain ⟨⟨hf1, hf2⟩, hf3⟩ := hf
      have hsz := Nat.eq_of_beq_eq_true hf2
      have hpos := Nat.le_of_ble_eq_true hf3
      rcases DataW.trod_slice ht h with ⟨rfl, _⟩ | ⟨a, len, cap, elems, rest, n, _, rfl, _, _, hl, hm, hlen, hel, _, _⟩
      · exact ⟨[.slc []], .cons _ _ _ _ (.slcNil 0 (Nat.zero_le _)) .nil, by simp only [HasTT]; exact ⟨[], rfl, Nat.zero_le _, by simp⟩⟩
      · rcases Nat.eq_zero_or_pos len with rfl | hpl
        · exact ⟨[.slc []], .cons _ _ _ _ (rep_nothing hm) .nil, by simp only [HasTT]; exact ⟨[], rfl, Nat.zero_le _, by simp⟩⟩
        · have each : ∀ i, i < len → ∃ ci pi, w.cells? base (a.add (i * e.size)) e.size = some ci ∧ RepL w (exIm w) pi ci ∧ HasTT e pi := by
            intro i hi
            have hi' := hel i hi
            rw [hsz] at hi'
            have hs : elems[i]? = some elems[i] := List.getElem?_eq_getElem (by omega)
            rw [hs, Option.bind_eq_some_iff] at hi'
            obtain ⟨ci, h1, h2⟩ := hi'
            obtain ⟨pi, h3, h4⟩ := trod_rep e te n ci _ hf1 h2
            exact ⟨ci, pi, h1, h3, h4⟩
          obtain ⟨g, off, rfl⟩ : ∃ g off, a = ⟨g, off, none⟩ := by
            obtain ⟨c0, p0, h1, h2, h3⟩ := each 0 hpl
            obtain ⟨_, hl0, hc0⟩ := World.cells?_some h1
            have h00 := hc0 0 (by omega)
            have : c0[0]? = some c0[0] := List.getElem?_eq_getElem (by omega)
            rw [this] at h00
            have hsp := World.cell?_spot h00
            simp [Addr.add] at hsp
            obtain ⟨g, off, sp⟩ := a
            simp at hsp
            subst hsp
            exact ⟨g, off, rfl⟩
          have hadd : ∀ j, (⟨g, off, none⟩ : Addr).add j = ⟨g, off + j, none⟩ := fun j => by unfold Addr.add; split <;> simp_all
          have build : ∀ k, k ≤ len → ∃ (ess : List (List PV)) (vs : List Value), ess.length = k ∧ vs.length = k * e.size ∧ RepL w (exIm w) ((ess.map e.mk).flatMap PV.cells) vs ∧ (∀ j, j < vs.length → w.cell? ⟨g, off + j, none⟩ = vs[j]?) ∧ ∀ c ∈ ess, HasTT e c := by
            intro k
            induction k with
            | zero => intro _; exact ⟨[], [], rfl, by simp, .nil, by simp, by simp⟩
            | succ k ih =>
              intro hk
              obtain ⟨ess, vs, e1, e2, e3, e4, e5⟩ := ih (by omega)
              obtain ⟨ci, pi, h1, h2, h3⟩ := each k hk
              obtain ⟨_, hl0, hc0⟩ := World.cells?_some h1
              refine ⟨ess ++ [pi], vs ++ ci, by simp [e1], by simp [e2, hl0, Nat.succ_mul], ?_, ?_, ?_⟩
              · simp only [List.map_append, List.map_cons, List.map_nil, List.flatMap_append, List.flatMap_cons, List.flatMap_nil, List.append_nil, mk_cells h3]
                exact e3.append h2
              · intro j hj
                by_cases hjv : j < vs.length
                · rw [List.getElem?_append_left hjv]; exact e4 j hjv
                · rw [List.getElem?_append_right (by omega)]
                  have hjc : j - vs.length < e.size := by simp at hj; omega
                  have := hc0 (j - vs.length) hjc
                  rw [hadd] at this
                  have hadd2 : (⟨g, off + k * e.size, none⟩ : Addr).add (j - vs.length) = ⟨g, off + k * e.size + (j - vs.length), none⟩ := by unfold Addr.add; split <;> simp_all
                  rw [hadd2] at this
                  rw [← this]
                  congr 2
                  omega
              · intro c hc
                rcases List.mem_append.1 hc with hc | hc
                · exact e5 c hc
                · simp at hc; subst hc; exact h3
          obtain ⟨ess, vs, e1, e2, e3, e4, e5⟩ := build len (Nat.le_refl _)
          refine ⟨[.slc (ess.map e.mk)], .cons _ _ _ _ ?_ .nil, by simp only [HasTT]; exact ⟨ess, rfl, by omega, e5⟩⟩
          refine .slc _ g off len cap e.size vs (by simpa using e1) (by omega) ?_ ?_ e4 e3 hl
          · intro x hx
            simp only [List.mem_map] at hx
            obtain ⟨c, hc, rfl⟩ := hx
            rw [mk_cells (e5 c hc)]
            exact (e5 c hc).length
          · intro j hj
            exact ⟨vs[j], by rw [e4 j hj, List.getElem?_eq_getElem hj]⟩
    · cases hf
  | .agg fs, t, fuel, cs, x, hf, h => by
    simp only [TT.fits] at hf
    split at hf
    · rename_i xs ht
      simp only [Bool.and_eq_true] at hf
      obtain ⟨hf1, hf2⟩ := hf
      obtain ⟨ys, n, rfl, _, hlen, hsz, hfl⟩ := DataW.trod_struct ht h
      have hall : ∀ (i : Nat) (f : Field), xs.toList[i]? = some f → ∃ y, DataW.trod enc P w base (fun _ => true) held n f.type ((cs.drop f.offset).take (P.cellsOf f.type)) = some y := by
        intro i f hi
        have hi' : xs[i]? = some f := by simpa using hi
        have := hfl i f hi'
        have hlt : i < ys.length := by rw [hsz]; exact (Array.getElem?_eq_some_iff.1 hi').1
        rw [List.getElem?_eq_getElem hlt] at this
        exact ⟨_, this⟩
      obtain ⟨pvs, h1, h2⟩ := trods_rep fs xs.toList 0 n cs hf1 hall (by rw [hlen, Nat.eq_of_beq_eq_true hf2]; simp)
      exact ⟨pvs, by simpa using h1, by simp only [HasTT]; exact h2⟩
    · cases hf
theorem trods_rep : ∀ (fs : List TT) (xs : List Field) (off n : Nat) (cs : List Value), TT.fitsL P fs xs off = true →
    (∀ (i : Nat) (f : Field), xs[i]? = some f → ∃ y, DataW.trod enc P w base (fun _ => true) held n f.type ((cs.drop f.offset).take (P.cellsOf f.type)) = some y) → cs.length = off + TT.sizes fs →
    ∃ pvs, RepL w (exIm w) pvs (cs.drop off) ∧ HasTTs fs pvs
  | [], [], off, n, cs, hf, h, hl => by
    simp only [TT.sizes] at hl
    refine ⟨[], ?_, by simp [HasTTs]⟩
    rw [List.drop_of_length_le (by omega)]
    exact .nil
  | [], _ :: _, _, _, _, hf, _, _ => by simp [TT.fitsL] at hf
  | _ :: _, [], _, _, _, hf, _, _ => by simp [TT.fitsL] at hf
  | f :: fs, x :: xs, off, n, cs, hf, h, hl => by
    simp only [TT.fitsL, Bool.and_eq_true] at hf
    obtain ⟨⟨⟨hf1, hf2⟩, hf3⟩, hf4⟩ := hf
    have e2 := Nat.eq_of_beq_eq_true hf2
    have e3 := Nat.eq_of_beq_eq_true hf3
    simp only [TT.sizes] at hl
    obtain ⟨y, hy⟩ := h 0 x (by simp)
    rw [e2, e3] at hy
    obtain ⟨a, h1, h2⟩ := trod_rep f x.type n _ y hf1 hy
    obtain ⟨b, h3, h4⟩ := trods_rep fs xs (off + f.size) n cs hf4 (fun i f hi => h (i + 1) f (by simpa using hi)) (by omega)
    refine ⟨a ++ b, ?_, by simp only [HasTTs]; exact ⟨a, b, rfl, h2, h4⟩⟩
    have : cs.drop off = (cs.drop off).take f.size ++ cs.drop (off + f.size) := by
      rw [← List.drop_drop, List.take_append_drop]
    rw [this]
    exact h1.append h3
end
end
end Go.Vl
