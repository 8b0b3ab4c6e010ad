/-
  UR, US, UV, GTy, GG1, GG2, GG3, GG4, UW (merged for the claim).
-/
import Derived.Test.YtkajnimlfehmeaaUQ
import Derived.ProofKit
import Derived.Attr
import Derived.Test.YtkajnimlfehmeaaProg
import Derived.Test.YtkajnimlfehmeaaArc
import Derived.Test.YtkajnimlfehmeaaTourRef
import Derived.Test.YtkajnimlfehmeaaFly2
set_option linter.unusedSimpArgs false
set_option linter.unusedVariables false
namespace Go.Vl
open Go.RowKit

inductive TT where
  | bool
  | int (k : IntKind)
  | str
  | slc (e : TT)
  | agg (fs : List TT)

mutual
def TT.size : TT → Nat
  | .agg fs => TT.sizes fs
  | .bool | .int _ | .str | .slc _ => 1
def TT.sizes : List TT → Nat
  | [] => 0
  | f :: fs => f.size + TT.sizes fs
end

mutual
def TT.fits (P : Program) : TT → TypeId → Bool
  | .bool, t => match P.underlying t with
    | some .bool => true
    | _ => false
  | .int k, t => match P.underlying t with
    | some (.int k') => decide (k' = k)
    | _ => false
  | .str, t => match P.underlying t with
    | some .string => true
    | _ => false
  | .slc e, t => match P.underlying t with
    | some (.slice te) => e.fits P te && Nat.beq (P.cellsOf te) e.size && Nat.ble 1 e.size
    | _ => false
  | .agg fs, t => match P.underlying t with
    | some (.struct xs) => TT.fitsL P fs xs.toList 0 && Nat.beq (P.cellsOf t) (TT.sizes fs)
    | _ => false
def TT.fitsL (P : Program) : List TT → List Field → Nat → Bool
  | [], [], _ => true
  | f :: fs, x :: xs, off => f.fits P x.type && Nat.beq x.offset off && Nat.beq (P.cellsOf x.type) f.size && TT.fitsL P fs xs (off + f.size)
  | _, _, _ => false
end

def TT.mk : TT → List PV → PV
  | .agg _, cs => .agg cs
  | _, cs => cs.headD .undef

mutual
def HasTT : TT → List PV → Prop
  | .bool, cs => ∃ b, cs = [.bool b]
  | .int k, cs => ∃ n, cs = [.int k n] ∧ (Lit.int k n).wf = true
  | .str, cs => ∃ s : ByteArray, cs = [.str s] ∧ s.size ≤ maxLen
  | .slc e, cs => ∃ ess : List (List PV), cs = [.slc (ess.map e.mk)] ∧ ess.length ≤ maxLen ∧ ∀ c ∈ ess, HasTT e c
  | .agg fs, cs => HasTTs fs cs
def HasTTs : List TT → List PV → Prop
  | [], cs => cs = []
  | f :: fs, cs => ∃ a b, cs = a ++ b ∧ HasTT f a ∧ HasTTs fs b
end

theorem mk_cells {e : TT} {c : List PV} (h : HasTT e c) : (e.mk c).cells = c := by
  cases e with
  | bool => simp only [HasTT] at h; obtain ⟨b, rfl⟩ := h; rfl
  | int k => simp only [HasTT] at h; obtain ⟨b, rfl, _⟩ := h; rfl
  | str => simp only [HasTT] at h; obtain ⟨b, rfl, _⟩ := h; rfl
  | slc e => simp only [HasTT] at h; obtain ⟨b, rfl, _⟩ := h; rfl
  | agg fs => rfl

mutual
theorem HasTT.length : ∀ {e : TT} {c : List PV}, HasTT e c → c.length = e.size
  | .bool, c, h => by simp only [HasTT] at h; obtain ⟨b, rfl⟩ := h; simp [TT.size]
  | .int k, c, h => by simp only [HasTT] at h; obtain ⟨b, rfl, _⟩ := h; simp [TT.size]
  | .str, c, h => by simp only [HasTT] at h; obtain ⟨b, rfl, _⟩ := h; simp [TT.size]
  | .slc e, c, h => by simp only [HasTT] at h; obtain ⟨b, rfl, _⟩ := h; simp [TT.size]
  | .agg fs, c, h => by simp only [HasTT] at h; simp only [TT.size]; exact HasTTs.length h
theorem HasTTs.length : ∀ {fs : List TT} {c : List PV}, HasTTs fs c → c.length = TT.sizes fs
  | [], c, h => by simp only [HasTTs] at h; subst h; simp [TT.sizes]
  | f :: fs, c, h => by
    simp only [HasTTs] at h
    obtain ⟨a, b, rfl, h1, h2⟩ := h
    simp only [TT.sizes, List.length_append, h1.length, h2.length]
end

/-- Every cell that is there is to stay. -/
def exIm (w : World) : Im := fun g j => ∃ u, w.cell? ⟨g, j, none⟩ = some u

section
variable {H : Type} {enc : TypeId × Value → H} {P : Program} {w : World} {base : Nat} {held : Bool}

theorem rep_nothing {im : Im} {A : Option Addr} {c : Nat} (hm : c ≤ maxLen) : Rep w im (.slc []) (.slice A 0 c) := by
  cases A with
  | none => exact .slcNil c hm
  | some p => exact .slcE p c hm

mutual
theorem trod_rep : ∀ (tt : TT) (t : TypeId) (fuel : Nat) (cs : List Value) (x : DataW H × List MemPlace), tt.fits P t = true → DataW.trod enc P w base (fun _ => true) held fuel t cs = some x →
    ∃ pvs, RepL w (exIm w) pvs cs ∧ HasTT tt pvs
  | .bool, t, fuel, cs, x, hf, h => by
    simp only [TT.fits] at hf
    split at hf
    · rename_i ht
      obtain ⟨b, rfl, _⟩ := DataW.trod_bool ht h
      exact ⟨[.bool b], .cons _ _ _ _ (.bool b) .nil, by simp [HasTT]⟩
    · cases hf
  | .int k, t, fuel, cs, x, hf, h => by
    simp only [TT.fits] at hf
    split at hf
    · rename_i k' ht
      have hk : k' = k := of_decide_eq_true hf
      subst hk
      obtain ⟨n, rfl, _, hw⟩ := DataW.trod_int ht h
      exact ⟨[.int k' n], .cons _ _ _ _ (.int _ n) .nil, by simp [HasTT, hw]⟩
    · cases hf
  | .str, t, fuel, cs, x, hf, h => by
    simp only [TT.fits] at hf
    split at hf
    · rename_i ht
      obtain ⟨s, rfl, _, hs⟩ := DataW.trod_string ht h
      exact ⟨[.str s], .cons _ _ _ _ (.str s) .nil, by simp only [HasTT]; exact ⟨s, rfl, hs⟩⟩
    · cases hf
  | .slc e, t, fuel, cs, x, hf, h => by
    simp only [TT.fits] at hf
    split at hf
    · rename_i te ht
      simp only [Bool.and_eq_true] at hf
      obtain ⟨⟨hf1, hf2⟩, hf3⟩ := hf
      have hsz := Nat.eq_of_beq_eq_true hf2
      have hpos := Nat.le_of_ble_eq_true hf3
      rcases DataW.trod_slice ht h with ⟨rfl, _⟩ | ⟨a, len, cap, elems, rest, n, _, rfl, _, _, hl, hm, hlen, hel, _, _⟩
      · exact ⟨[.slc []], .cons _ _ _ _ (.slcNil 0 (Nat.zero_le _)) .nil, by simp only [HasTT]; exact ⟨[], rfl, Nat.zero_le _, by simp⟩⟩
      · rcases Nat.eq_zero_or_pos len with rfl | hpl
        · exact ⟨[.slc []], .cons _ _ _ _ (rep_nothing hm) .nil, by simp only [HasTT]; exact ⟨[], rfl, Nat.zero_le _, by simp⟩⟩
        · have each : ∀ i, i < len → ∃ ci pi, w.cells? base (a.add (i * e.size)) e.size = some ci ∧ RepL w (exIm w) pi ci ∧ HasTT e pi := by
            intro i hi
            have hi' := hel i hi
            rw [hsz] at hi'
            have hs : elems[i]? = some elems[i] := List.getElem?_eq_getElem (by omega)
            rw [hs, Option.bind_eq_some_iff] at hi'
            obtain ⟨ci, h1, h2⟩ := hi'
            obtain ⟨pi, h3, h4⟩ := trod_rep e te n ci _ hf1 h2
            exact ⟨ci, pi, h1, h3, h4⟩
          obtain ⟨g, off, rfl⟩ : ∃ g off, a = ⟨g, off, none⟩ := by
            obtain ⟨c0, p0, h1, h2, h3⟩ := each 0 hpl
            obtain ⟨_, hl0, hc0⟩ := World.cells?_some h1
            have h00 := hc0 0 (by omega)
            have : c0[0]? = some c0[0] := List.getElem?_eq_getElem (by omega)
            rw [this] at h00
            have hsp := World.cell?_spot h00
            simp [Addr.add] at hsp
            obtain ⟨g, off, sp⟩ := a
            simp at hsp
            subst hsp
            exact ⟨g, off, rfl⟩
          have hadd : ∀ j, (⟨g, off, none⟩ : Addr).add j = ⟨g, off + j, none⟩ := fun j => by unfold Addr.add; split <;> simp_all
          have build : ∀ k, k ≤ len → ∃ (ess : List (List PV)) (vs : List Value), ess.length = k ∧ vs.length = k * e.size ∧ RepL w (exIm w) ((ess.map e.mk).flatMap PV.cells) vs ∧ (∀ j, j < vs.length → w.cell? ⟨g, off + j, none⟩ = vs[j]?) ∧ ∀ c ∈ ess, HasTT e c := by
            intro k
            induction k with
            | zero => intro _; exact ⟨[], [], rfl, by simp, .nil, by simp, by simp⟩
            | succ k ih =>
              intro hk
              obtain ⟨ess, vs, e1, e2, e3, e4, e5⟩ := ih (by omega)
              obtain ⟨ci, pi, h1, h2, h3⟩ := each k hk
              obtain ⟨_, hl0, hc0⟩ := World.cells?_some h1
              refine ⟨ess ++ [pi], vs ++ ci, by simp [e1], by simp [e2, hl0, Nat.succ_mul], ?_, ?_, ?_⟩
              · simp only [List.map_append, List.map_cons, List.map_nil, List.flatMap_append, List.flatMap_cons, List.flatMap_nil, List.append_nil, mk_cells h3]
                exact e3.append h2
              · intro j hj
                by_cases hjv : j < vs.length
                · rw [List.getElem?_append_left hjv]; exact e4 j hjv
                · rw [List.getElem?_append_right (by omega)]
                  have hjc : j - vs.length < e.size := by simp at hj; omega
                  have := hc0 (j - vs.length) hjc
                  rw [hadd] at this
                  have hadd2 : (⟨g, off + k * e.size, none⟩ : Addr).add (j - vs.length) = ⟨g, off + k * e.size + (j - vs.length), none⟩ := by unfold Addr.add; split <;> simp_all
                  rw [hadd2] at this
                  rw [← this]
                  congr 2
                  omega
              · intro c hc
                rcases List.mem_append.1 hc with hc | hc
                · exact e5 c hc
                · simp at hc; subst hc; exact h3
          obtain ⟨ess, vs, e1, e2, e3, e4, e5⟩ := build len (Nat.le_refl _)
          refine ⟨[.slc (ess.map e.mk)], .cons _ _ _ _ ?_ .nil, by simp only [HasTT]; exact ⟨ess, rfl, by omega, e5⟩⟩
          refine .slc _ g off len cap e.size vs (by simpa using e1) (by omega) ?_ ?_ e4 e3 hl
          · intro x hx
            simp only [List.mem_map] at hx
            obtain ⟨c, hc, rfl⟩ := hx
            rw [mk_cells (e5 c hc)]
            exact (e5 c hc).length
          · intro j hj
            exact ⟨vs[j], by rw [e4 j hj, List.getElem?_eq_getElem hj]⟩
    · cases hf
  | .agg fs, t, fuel, cs, x, hf, h => by
    simp only [TT.fits] at hf
    split at hf
    · rename_i xs ht
      simp only [Bool.and_eq_true] at hf
      obtain ⟨hf1, hf2⟩ := hf
      obtain ⟨ys, n, rfl, _, hlen, hsz, hfl⟩ := DataW.trod_struct ht h
      have hall : ∀ (i : Nat) (f : Field), xs.toList[i]? = some f → ∃ y, DataW.trod enc P w base (fun _ => true) held n f.type ((cs.drop f.offset).take (P.cellsOf f.type)) = some y := by
        intro i f hi
        have hi' : xs[i]? = some f := by simpa using hi
        have := hfl i f hi'
        have hlt : i < ys.length := by rw [hsz]; exact (Array.getElem?_eq_some_iff.1 hi').1
        rw [List.getElem?_eq_getElem hlt] at this
        exact ⟨_, this⟩
      obtain ⟨pvs, h1, h2⟩ := trods_rep fs xs.toList 0 n cs hf1 hall (by rw [hlen, Nat.eq_of_beq_eq_true hf2]; simp)
      exact ⟨pvs, by simpa using h1, by simp only [HasTT]; exact h2⟩
    · cases hf
theorem trods_rep : ∀ (fs : List TT) (xs : List Field) (off n : Nat) (cs : List Value), TT.fitsL P fs xs off = true →
    (∀ (i : Nat) (f : Field), xs[i]? = some f → ∃ y, DataW.trod enc P w base (fun _ => true) held n f.type ((cs.drop f.offset).take (P.cellsOf f.type)) = some y) → cs.length = off + TT.sizes fs →
    ∃ pvs, RepL w (exIm w) pvs (cs.drop off) ∧ HasTTs fs pvs
  | [], [], off, n, cs, hf, h, hl => by
    simp only [TT.sizes] at hl
    refine ⟨[], ?_, by simp [HasTTs]⟩
    rw [List.drop_of_length_le (by omega)]
    exact .nil
  | [], _ :: _, _, _, _, hf, _, _ => by simp [TT.fitsL] at hf
  | _ :: _, [], _, _, _, hf, _, _ => by simp [TT.fitsL] at hf
  | f :: fs, x :: xs, off, n, cs, hf, h, hl => by
    simp only [TT.fitsL, Bool.and_eq_true] at hf
    obtain ⟨⟨⟨hf1, hf2⟩, hf3⟩, hf4⟩ := hf
    have e2 := Nat.eq_of_beq_eq_true hf2
    have e3 := Nat.eq_of_beq_eq_true hf3
    simp only [TT.sizes] at hl
    obtain ⟨y, hy⟩ := h 0 x (by simp)
    rw [e2, e3] at hy
    obtain ⟨a, h1, h2⟩ := trod_rep f x.type n _ y hf1 hy
    obtain ⟨b, h3, h4⟩ := trods_rep fs xs (off + f.size) n cs hf4 (fun i f hi => h (i + 1) f (by simpa using hi)) (by omega)
    refine ⟨a ++ b, ?_, by simp only [HasTTs]; exact ⟨a, b, rfl, h2, h4⟩⟩
    have : cs.drop off = (cs.drop off).take f.size ++ cs.drop (off + f.size) := by
      rw [← List.drop_drop, List.take_append_drop]
    rw [this]
    exact h1.append h3
end
end
end Go.Vl

namespace Go.Vl
open Go.RowKit

section
variable {H : Type} {enc : TypeId × Value → H} {P : Program} {W W' : World}

/-- One argument. -/
theorem arg_rep {tt : TT} {t : TypeId} {v : Value} {d : DataW H} {ps : List MemPlace} {b : Nat} (hf : tt.fits P t = true) (hok : Value.okWide P W .any b t v) (h : DataW.Trod enc P W 0 (fun _ => true) true t v d ps) :
    ∃ cs, HasTT tt cs ∧ Rep W (exIm W) (tt.mk cs) v := by
  obtain ⟨fuel, h⟩ := h
  obtain ⟨pvs, h1, h2⟩ := trod_rep tt t fuel _ _ hf h
  refine ⟨pvs, h2, ?_⟩
  have single : v.cells = #[v] → (∀ fs, tt ≠ .agg fs) → Rep W (exIm W) (tt.mk pvs) v := by
    intro hv hn
    rw [hv] at h1
    have hl := h1.length
    match pvs, hl with
    | [p], _ =>
      cases h1 with
      | cons _ _ _ _ h t =>
        cases tt with
        | agg fs => exact absurd rfl (hn fs)
        | _ => exact h
  cases tt with
  | bool =>
    simp only [TT.fits] at hf
    split at hf
    · rename_i ht; obtain ⟨x, rfl⟩ := WideShapes.okWide_bool ht hok; exact single rfl (by simp)
    · cases hf
  | int k =>
    simp only [TT.fits] at hf
    split at hf
    · rename_i ht; obtain ⟨x, rfl⟩ := WideShapes.okWide_int ht hok; exact single rfl (by simp)
    · cases hf
  | str =>
    simp only [TT.fits] at hf
    split at hf
    · rename_i ht; obtain ⟨x, rfl⟩ := WideShapes.okWide_string ht hok; exact single rfl (by simp)
    · cases hf
  | slc e =>
    simp only [TT.fits] at hf
    split at hf
    · rename_i te ht; obtain ⟨x, y, z, rfl⟩ := WideShapes.okWide_slice ht hok; exact single rfl (by simp)
    · cases hf
  | agg fs =>
    simp only [TT.fits] at hf
    split at hf
    · rename_i xs ht
      obtain ⟨cs, rfl, _⟩ := WideShapes.okWide_struct ht hok
      have := Rep.agg pvs _ h1
      simp only [Value.cells, Array.toArray_toList] at this
      exact this
    · cases hf

/-- What a law takes: values of its parameters' shapes. -/
def HasArgs : List TT → List PV → Prop
  | [], vs => vs = []
  | t :: ts, vs => ∃ c rest, vs = t.mk c :: rest ∧ HasTT t c ∧ HasArgs ts rest
def fitsAll (P : Program) : List TT → List TypeId → Bool
  | [], [] => true
  | tt :: tts, t :: ts => tt.fits P t && fitsAll P tts ts
  | _, _ => false

theorem args_rep {b : Nat} : ∀ (tts : List TT) (ts : List TypeId) (vs : List Value) (ds : List (DataW H)) (ps : List MemPlace), fitsAll P tts ts = true → (∀ (j : Nat) t v, ts[j]? = some t → vs[j]? = some v → Value.okWide P W .any b t v) →
    DataW.TrodAll enc P W 0 (fun _ => true) true ts vs ds ps → ∃ pvs, HasArgs tts pvs ∧ RepL W (exIm W) pvs vs ∧ ds.length = tts.length
  | [], [], [], [], _, _, _, _ => ⟨[], rfl, .nil, rfl⟩
  | tt :: tts, t :: ts, v :: vs, d :: ds, ps, hf, hok, h => by
    simp only [fitsAll, Bool.and_eq_true] at hf
    obtain ⟨p, q, h1, h2, _⟩ := h
    obtain ⟨c, h3, h4⟩ := arg_rep hf.1 (hok 0 t v rfl rfl) h1
    obtain ⟨pvs, h5, h6, h7⟩ := args_rep tts ts vs ds q hf.2 (fun j t v e1 e2 => hok (j + 1) t v (by simpa using e1) (by simpa using e2)) h2
    exact ⟨tt.mk c :: pvs, ⟨c, pvs, rfl, h3, h5⟩, .cons _ _ _ _ h4 h6, by simp [h7]⟩
  | [], _ :: _, _, _, _, hf, _, _ => by simp [fitsAll] at hf
  | _ :: _, [], _, _, _, hf, _, _ => by simp [fitsAll] at hf
  | [], [], [], _ :: _, _, _, _, h => h.elim
  | [], [], _ :: _, _, _, _, _, h => h.elim
  | _ :: _, _ :: _, [], _, _, _, _, h => h.elim
  | _ :: _, _ :: _, _ :: _, [], _, _, _, h => h.elim

theorem trodAll_stays {sp : Nat → Bool} (hl : laidOutB P = true) (hb : Below W.heap.size W W') : ∀ (ts : List TypeId) (vs : List Value) (ds : List (DataW H)) (ps : List MemPlace), (∀ t ∈ ts, P.readableRec t = true ∧ t < P.types.size) →
    DataW.TrodAll enc P W 0 (fun _ => true) true ts vs ds ps → (∀ p ∈ ps, p.block < W.heap.size) → (∀ p ∈ ps, sp p.block = true) → DataW.TrodAll enc P W' 0 sp true ts vs ds ps
  | [], [], [], _, _, h, _, _ => h
  | t :: ts, v :: vs, d :: ds, ps, ht, ⟨p, q, h1, h2, e⟩, hlt, hs => by
    subst e
    refine ⟨p, q, ?_, trodAll_stays hl hb ts vs ds q (fun t h => ht t (List.mem_cons_of_mem _ h)) h2 (fun x hx => hlt x (List.mem_append_right _ hx)) (fun x hx => hs x (List.mem_append_right _ hx)), rfl⟩
    exact WideElems.Trod_stays hl (ht t (by simp)).1 (ht t (by simp)).2 h1 (fun x hx => hb.same (hlt x (List.mem_append_left _ hx))) (fun x hx => hs x (List.mem_append_left _ hx))
  | [], [], _ :: _, _, _, h, _, _ => h.elim
  | [], _ :: _, _, _, _, h, _, _ => h.elim
  | _ :: _, [], _, _, _, h, _, _ => h.elim
  | _ :: _, _ :: _, [], _, _, h, _, _ => h.elim

/-- A law that answers true and changes nothing that was there. -/
theorem post_of_law {fn : Func} {s : ChangeSpec} {apart fresh handsOn again : Bool} {args : Array Value} {ds gs : List (DataW H)} {before : List MemPlace} {tb : TypeId} (hl : laidOutB P = true) (hvars : s.vars = []) (hres : fn.resultTypes = #[tb])
    (hbool : P.underlying tb = some .bool) (hts : ∀ t ∈ fn.params.toList, P.readableRec t = true ∧ t < P.types.size) (hW : DataW.Whole enc P fn.params.toList s.vars apart W args.toList ds gs before)
    (hs : s.fn H (ds ++ gs) = { results := [.lit (.bool true)], args := ds }) (hb : Below W.heap.size W W') : s.post enc P fn apart fresh handsOn again W args (.bool true) W' := by
  have hlt := hW.lt
  have hW' := hW
  obtain ⟨p, q, hA, hV, rfl, hz, hn⟩ := hW
  rw [hvars] at hV
  obtain ⟨rfl, rfl⟩ := ChangeShapes.trodVars_none hV
  have hargs : ∀ sp : Nat → Bool, (∀ x ∈ p, sp x.block = true) → DataW.TrodAll enc P W' 0 sp true fn.params.toList args.toList ds p := fun sp hsp =>
    trodAll_stays hl hb _ _ _ _ hts hA (fun x hx => hlt x (by simpa using hx)) hsp
  have hres' : ∀ (b : Nat) (sp : Nat → Bool) (hd : Bool), DataW.TrodAll enc P W' b sp hd fn.resultTypes.toList ((Value.bool true).resultList fn.resultTypes.size) [.lit (.bool true)] [] := by
    intro b sp hd
    rw [hres]
    exact ChangeShapes.trodAll_mk1 (shut_bool hbool true)
  have hok : ∀ (j : Nat) (t : TypeId) (r : Value), fn.resultTypes[j]? = some t → ((Value.bool true).resultList fn.resultTypes.size)[j]? = some r → Value.okWide P W' .any 0 t r := ok_one hres rfl (okWide_bool_mk hbool true)
  have hvs : ∀ sp : Nat → Bool, DataW.TrodVars enc P W' sp s.vars [] [] := fun sp => by rw [hvars]; rfl
  refine ⟨ds, [], p ++ [], [], p, [], hW', ?_, ?_, ?_, ?_, fun _ => ⟨hok, [.lit (.bool true)] ++ ds, [], ([] ++ p) ++ [], ⟨[] ++ p, [], ?_, hvs _, rfl, ?_, ?_⟩, ?_⟩⟩
  · rw [hs]; exact hres' _ _ _
  · rw [hs]; exact hargs _ fun x hx => by simpa using hlt x (by simpa using hx)
  · rw [hs]; exact hvs _
  · exact World.keptBut_mono (fun _ f => f.elim) (hb.frame fun _ => False)
  · exact ChangeShapes.trodAll_append (hargs _ fun _ _ => rfl) (hres' _ _ _)
  · intro b off hp
    have hp' : MemPlace.cell b off ∈ p := by simpa using hp
    have := hz b off (by simpa using hp')
    have hlt' := hlt _ (show MemPlace.cell b off ∈ p ++ [] by simpa using hp')
    rw [← this]
    exact hb.frozen hlt'
  · intro ha
    have := hn ha
    simpa using this
  · intro x hx _
    simpa using hx

/-- A law, over all that it can be given. -/
theorem law_lifted {a : Assume} {C : Checked} {os : Os} {f : FuncId} {fn : Func} {s : ChangeSpec} {conds : List PathCond} {apart fresh handsOn again : Bool} {tb : TypeId} (tts : List TT)
    (own : ownKnob C.prog.godebug = none) (started : os.Started) (noInit : C.prog.inits.idxOf? f = none) (hfn : C.prog.funcs[f]? = some fn)
    (witness : ∃ (w : World) (tape : Tape) (i : Input), w.os = os ∧ (w.forCall tape i).Shaped C.prog ∧ i.vars = [] ∧ Input.okWide C.prog (w.forCall tape i) .any w.heap.size f i ∧
      s.pre6 enc C.prog fn conds apart (w.forCall tape i).memory i.args ∧ a.holds C.prog (lone (Frame.enter C.prog f i.args .normal) [] (w.forCall tape i)))
    (hl : laidOutB C.prog = true) (hvars : s.vars = []) (hres : fn.resultTypes = #[tb]) (hbool : C.prog.underlying tb = some .bool) (hts : (fn.params.toList.all fun t => C.prog.readableRec t && decide (t < C.prog.types.size)) = true)
    (hfit : fitsAll C.prog tts fn.params.toList = true) (hs : ∀ ds : List (DataW H), ds.length = tts.length → s.fn H ds = { results := [.lit (.bool true)], args := ds })
    (law : ∀ pvs, HasArgs tts pvs → SoundAt C.prog f pvs (.bool true)) :
    ReturnsInHanded a C os f .any (s.pre6 enc C.prog fn conds apart) (s.post enc C.prog fn apart fresh handsOn again) := by
  refine returnsInHanded_of_change own started noInit hfn witness ?_
  intro W base args ds gs before hval hW _ _
  have hW' := hW
  obtain ⟨p, q, hA, hV, rfl, hz, hn⟩ := hW
  rw [hvars] at hV
  obtain ⟨rfl, rfl⟩ := ChangeShapes.trodVars_none hV
  obtain ⟨pvs, h1, h2, h3⟩ := args_rep tts fn.params.toList args.toList ds p hfit (fun j t v e1 e2 => hval j t v (by simpa using e1) (by simpa using e2)) hA
  have hts' : ∀ t ∈ fn.params.toList, C.prog.readableRec t = true ∧ t < C.prog.types.size := by
    intro t ht
    have := List.all_eq_true.1 hts t ht
    simpa using this
  have hcall := (law pvs h1).2 W (exIm W) args.toList h2 (fun g j x => x)
  refine (by simpa using hcall : Calls C.prog f args W _).mono ?_
  rintro e W' ⟨v, rfl, hb, hr⟩
  have hv : v = .bool true := by cases hr; rfl
  subst hv
  exact ⟨_, rfl, post_of_law hl hvars hres hbool hts' hW' (by rw [List.append_nil]; exact hs ds h3) hb⟩
end
end Go.Vl

namespace Go.Vl
theorem rng_1 : List.range 1 = [0] := rfl
theorem rng_2 : List.range 2 = [0, 1] := rfl
theorem rng_3 : List.range 3 = [0, 1, 2] := rfl
theorem rng_4 : List.range 4 = [0, 1, 2, 3] := rfl
theorem rng_5 : List.range 5 = [0, 1, 2, 3, 4] := rfl
theorem rng_6 : List.range 6 = [0, 1, 2, 3, 4, 5] := rfl
theorem rng_7 : List.range 7 = [0, 1, 2, 3, 4, 5, 6] := rfl
theorem rng_8 : List.range 8 = [0, 1, 2, 3, 4, 5, 6, 7] := rfl
section
variable (cs : List PV) (b : Bool) (k : IntKind) (n : Int) (s : ByteArray) (e i o l : Nat) (f : FuncId) (a c : List PV)
theorem c_agg : (PV.agg cs).cells = cs := rfl
theorem c_bool : (PV.bool b).cells = [.bool b] := rfl
theorem c_int : (PV.int k n).cells = [.int k n] := rfl
theorem c_str : (PV.str s).cells = [.str s] := rfl
theorem c_nilS : PV.nilS.cells = [.nilS] := rfl
theorem c_nilF : PV.nilF.cells = [.nilF] := rfl
theorem c_slc : (PV.slc cs).cells = [.slc cs] := rfl
theorem c_tup : (PV.tup cs).cells = [.tup cs] := rfl
theorem c_rp : (PV.rp cs).cells = [.rp cs] := rfl
theorem c_bp : (PV.bp e i o l).cells = [.bp e i o l] := rfl
theorem c_bs : (PV.bs e i o l).cells = [.bs e i o l] := rfl
theorem c_fn : (PV.fn f a c).cells = [.fn f a c] := rfl
theorem k_agg : (PV.agg cs).okCell = false := rfl
theorem k_bool : (PV.bool b).okCell = true := rfl
theorem k_int : (PV.int k n).okCell = true := rfl
theorem k_str : (PV.str s).okCell = true := rfl
theorem k_nilS : PV.nilS.okCell = true := rfl
theorem k_nilF : PV.nilF.okCell = true := rfl
theorem k_slc : (PV.slc cs).okCell = true := rfl
theorem k_tup : (PV.tup cs).okCell = false := rfl
theorem k_rp : (PV.rp cs).okCell = true := rfl
theorem k_bp : (PV.bp e i o l).okCell = true := rfl
theorem k_bs : (PV.bs e i o l).okCell = true := rfl
theorem k_fn : (PV.fn f a c).okCell = true := rfl
end
attribute [go_sem] c_agg c_bool c_int c_str c_nilS c_nilF c_slc c_tup c_rp c_bp c_bs c_fn k_agg k_bool k_int k_str k_nilS k_nilF k_slc k_tup k_rp k_bp k_bs k_fn Int.toNat_natCast Int.toNat_zero Int.le_refl
theorem o_call0 (P : Program) (id : Nat) (bx : Bx) (fo : Operand) (xs0 : Array Operand) (ts : Array TypeId) (f : FuncId) (first cap args : List PV) : opVal P [] id (.call ⟨.value fo, xs0, ts⟩) (.fn f first cap :: args) bx =
    M.bind (escCL first) (fun x => .bind (esc1L args) fun y => .bind (escCL cap) fun z => .pure (.call f (x.1 ++ y.1 ++ z.1) (x.2 ++ y.2 ++ z.2))) bx := rfl
attribute [go_sem] o_call0
theorem toArr_none : (none : Option Operand).toArray = #[] := rfl
theorem toArr_some (x : Operand) : (some x).toArray = #[x] := rfl
attribute [go_sem] toArr_none toArr_some List.range_zero Nat.le_refl Nat.zero_le
attribute [go_sem] g_nil g_blk g_again g_skip g_label g_seq g_block g_exit gexit_blk gexit_code gexit_again gexit_nil
attribute [go_sem] g_ret g_cond gcond_true gcond_false g_region gops_nil gops_cons gwanted_false gwanted_true gvals_some gout_done gout_call
attribute [go_sem] gout_callB gout_yield gland_some drawQ_false vret_ret vret_normal backB_some o_move o_assign o_nilCheck_bp o_nilCheck_rp o_nilCheck_fn
attribute [go_sem] o_pick_t o_pick_f o_alloc o_box o_build o_buildSlice o_load_bp o_load_rp o_store o_bin o_not o_neg
attribute [go_sem] o_conv o_makeFunc o_makeSlice o_slice0 o_slice1 o_slice2 o_slice3 o_fieldAddr_bp o_fieldAddr_rp o_field o_indexAddr_bp o_indexAddr_rp
attribute [go_sem] o_indexAddr_bs o_indexAddr_slc o_index_agg o_index_str o_extract o_len o_append o_max o_min o_call o_lend o_copy
attribute [go_sem] o_clear o_yld b_add b_sub b_mul b_quo b_rem b_and b_or b_eql b_neq b_lss
attribute [go_sem] b_leq b_gtr b_geq b_shl b_shr b_str b_beq b_bne dstOk wantedPV guardTmp St.evs
attribute [go_sem] St.ev Op.operands Call.operands M.bind M.pure M.ofOpt M.ok M.soft M.hard of_put of_put_none of_var
attribute [go_sem] of_box of_setBox of_keep keepVars lkp constPV constCell constCells initVars effsOn_nil effsOn_cons Eff.on
attribute [go_sem] effAcc Eff.id Eff.hard resPV resCells resCell tupOf esc0 escL escC escCL esc1
attribute [go_sem] esc1L partPV Vl.newVar okCells    PV.putCells PV.one flatPV flat1 flat0 Box.soft
attribute [go_sem] List.toList_toArray List.getElem?_toArray List.getElem?_cons_zero List.getElem?_cons_succ Option.bind_some Option.map_some Option.bind_none Option.map_none List.map_cons List.map_nil List.append_nil List.nil_append
attribute [go_sem] List.cons_append decide_true decide_false if_true if_false true_and and_true Bool.and_true Bool.true_and Bool.and_self beq_self_eq_true List.all_cons
attribute [go_sem] List.all_nil List.length_cons List.length_nil Nat.zero_add Nat.add_zero Nat.zero_mul List.drop_zero List.contains_cons gt_iff_lt ge_iff_le Option.isNone_none Option.isNone_some
attribute [go_sem] Array.toList_empty Array.append_empty Array.empty_append List.size_toArray List.take_zero List.push_toArray List.append_toArray Option.isSome_some Option.isSome_none List.drop_succ_cons List.take_succ_cons List.take_nil
attribute [go_sem] List.drop_nil List.getElem_cons_zero List.getElem_cons_succ Nat.not_lt_zero Bool.false_eq_true Bool.true_eq_false not_true_eq_false not_false_eq_true if_neg Nat.lt_irrefl Bool.not_true Bool.not_false
attribute [go_sem] Bool.and_false Bool.false_and Bool.or_false Bool.or_true Bool.false_or Bool.true_or List.flatMap_cons List.flatMap_nil List.set_cons_zero List.set_cons_succ beq_true beq_false
attribute [go_sem] Bool.true_beq Bool.false_beq eq_self Bool.not_not ite_self ne_eq of_yld of_out of_yl slicePV boundsPV appendPV
attribute [go_sem] fillPV minMax shiftInt convM convPV isBytes copyPV clearPV Box.over eqCells lendCall lendL
attribute [go_sem] lend1 lentBoxes freeIds okMap rlk land landBoxes ren0 ren0L ren1 ren1L ren2
attribute [go_sem] flatB flatr flatr0 flatr1 flatc extCell Box.ext LENT YID List.zip_cons_cons List.zip_nil_left List.zip_nil_right
attribute [go_sem] rng_1 rng_2 rng_3 rng_4 rng_5 rng_6 rng_7 rng_8 Option.getD_some Option.getD_none

section
variable {vs vs' : List (Nat × PV)} {bs bs' : List (Nat × Box)} {o : List (List PV)} {y : Option (Nat × Nat)}
theorem le_nilG (t b esz : Nat) (ety : TypeId) (hbL : Nat.blt b LENT = true) (ht : lkp vs t = some .nilS) (hb : lkp bs b = none) (hz : 0 < esz) :
    Le (St.ofG vs bs o y) (St.ofG ((t, .bs b esz 0 0) :: vs) ((b, { els := [], esz := esz, ety := ety, fro := 0, live := true, arr := true }) :: bs) o y) := le_nil hbL ht hb hz
/-- A loop is come to with a slice that is nil. -/
theorem le_nil1 (t b esz : Nat) (ety : TypeId) (hbL : Nat.blt b LENT = true) (ht : lkp vs t = some .nilS) (hb : lkp bs b = none) (hz : 0 < esz) (θ : List (Nat × Nat)) (hθ : okTheta θ bs' = true)
    (hv : varsLe θ ((t, .bs b esz 0 0) :: vs) vs') (hbx : boxesLe θ ((b, { els := [], esz := esz, ety := ety, fro := 0, live := true, arr := true }) :: bs) bs') : Le (St.ofG vs bs o y) (St.ofG vs' bs' o y) :=
  (le_nilG t b esz ety hbL ht hb hz).trans (le_of hθ hv hbx)
end
end Go.Vl

namespace Go.Proofs.Ytkajnimlfehmeaa
open Go.Vl

theorem mixed : Try.prog.follows .mixedOrders = true := by kernel_rfl
theorem T_ok3 : tyOk Try.prog 3 = true := by kernel_rfl
theorem T_agg3 : tyAgg Try.prog 3 = false := by kernel_rfl
theorem T_isinfo3 : (Try.prog.info? 3).isSome = true := by kernel_rfl
theorem T_info3 : tyInfo Try.prog 3 = some (1, 8) := by kernel_rfl
theorem T_cells3 : Try.prog.cellsOf 3 = 1 := by kernel_rfl
theorem T_zero3 : zeroPV Try.prog 3 = some (PV.int IntKind.i64 0) := by kernel_rfl
theorem T_int3 : Try.prog.underlying 3 = some (.int .i64) := by kernel_rfl
theorem T_ok4 : tyOk Try.prog 4 = true := by kernel_rfl
theorem T_agg4 : tyAgg Try.prog 4 = false := by kernel_rfl
theorem T_isinfo4 : (Try.prog.info? 4).isSome = true := by kernel_rfl
theorem T_info4 : tyInfo Try.prog 4 = some (1, 1) := by kernel_rfl
theorem T_cells4 : Try.prog.cellsOf 4 = 1 := by kernel_rfl
theorem T_zero4 : zeroPV Try.prog 4 = some (PV.bool Bool.false) := by kernel_rfl
theorem T_bool4 : Try.prog.underlying 4 = some .bool := by kernel_rfl
theorem T_ok23 : tyOk Try.prog 23 = true := by kernel_rfl
theorem T_agg23 : tyAgg Try.prog 23 = true := by kernel_rfl
theorem T_isinfo23 : (Try.prog.info? 23).isSome = true := by kernel_rfl
theorem T_info23 : tyInfo Try.prog 23 = some (3, 24) := by kernel_rfl
theorem T_cells23 : Try.prog.cellsOf 23 = 3 := by kernel_rfl
theorem T_zero23 : zeroPV Try.prog 23 = some (PV.agg [PV.int IntKind.i64 0, PV.int IntKind.i64 0, PV.int IntKind.i64 0]) := by kernel_rfl
theorem T_build23 : buildable Try.prog 23 = true := by kernel_rfl
theorem T_f23_0 : tyField Try.prog 23 0 = some (0, 3, 1) := by kernel_rfl
theorem T_p23_0 : placePV Try.prog 23 0 = some (0, 1) := by kernel_rfl
theorem T_f23_1 : tyField Try.prog 23 1 = some (1, 3, 1) := by kernel_rfl
theorem T_p23_1 : placePV Try.prog 23 1 = some (1, 1) := by kernel_rfl
theorem T_f23_2 : tyField Try.prog 23 2 = some (2, 3, 1) := by kernel_rfl
theorem T_p23_2 : placePV Try.prog 23 2 = some (2, 1) := by kernel_rfl
theorem T_eqs23 : eqShapeS Try.prog 23 = some [1, 1, 1] := by kernel_rfl
theorem T_ok25 : tyOk Try.prog 25 = true := by kernel_rfl
theorem T_agg25 : tyAgg Try.prog 25 = false := by kernel_rfl
theorem T_isinfo25 : (Try.prog.info? 25).isSome = true := by kernel_rfl
theorem T_info25 : tyInfo Try.prog 25 = some (1, 24) := by kernel_rfl
theorem T_cells25 : Try.prog.cellsOf 25 = 1 := by kernel_rfl
theorem T_zero25 : zeroPV Try.prog 25 = some PV.nilS := by kernel_rfl
theorem T_elem25 : tyElem Try.prog 25 = some 56 := by kernel_rfl
theorem T_under25 : Try.prog.underlying 25 = some (.slice 56) := by kernel_rfl
theorem T_len25s (es : List PV) : lenPV Try.prog 25 (.slc es) = some (.int .i64 es.length) := by simp only [lenPV, T_under25]
theorem T_len25n  : lenPV Try.prog 25 .nilS = some (.int .i64 0) := by simp only [lenPV, T_under25]
theorem T_len25b (b e o n : Nat) : lenPV Try.prog 25 (.bs b e o n) = some (.int .i64 n) := by simp only [lenPV, T_under25]
theorem T_ok26 : tyOk Try.prog 26 = true := by kernel_rfl
theorem T_agg26 : tyAgg Try.prog 26 = false := by kernel_rfl
theorem T_isinfo26 : (Try.prog.info? 26).isSome = true := by kernel_rfl
theorem T_info26 : tyInfo Try.prog 26 = some (1, 8) := by kernel_rfl
theorem T_cells26 : Try.prog.cellsOf 26 = 1 := by kernel_rfl
theorem T_zero26 : zeroPV Try.prog 26 = some (PV.int IntKind.i64 0) := by kernel_rfl
theorem T_int26 : Try.prog.underlying 26 = some (.int .i64) := by kernel_rfl
theorem T_ok35 : tyOk Try.prog 35 = true := by kernel_rfl
theorem T_agg35 : tyAgg Try.prog 35 = false := by kernel_rfl
theorem T_isinfo35 : (Try.prog.info? 35).isSome = true := by kernel_rfl
theorem T_info35 : tyInfo Try.prog 35 = some (1, 24) := by kernel_rfl
theorem T_cells35 : Try.prog.cellsOf 35 = 1 := by kernel_rfl
theorem T_zero35 : zeroPV Try.prog 35 = some PV.nilS := by kernel_rfl
theorem T_elem35 : tyElem Try.prog 35 = some 23 := by kernel_rfl
theorem T_under35 : Try.prog.underlying 35 = some (.slice 23) := by kernel_rfl
theorem T_len35s (es : List PV) : lenPV Try.prog 35 (.slc es) = some (.int .i64 es.length) := by simp only [lenPV, T_under35]
theorem T_len35n  : lenPV Try.prog 35 .nilS = some (.int .i64 0) := by simp only [lenPV, T_under35]
theorem T_len35b (b e o n : Nat) : lenPV Try.prog 35 (.bs b e o n) = some (.int .i64 n) := by simp only [lenPV, T_under35]
theorem T_ok36 : tyOk Try.prog 36 = true := by kernel_rfl
theorem T_agg36 : tyAgg Try.prog 36 = false := by kernel_rfl
theorem T_isinfo36 : (Try.prog.info? 36).isSome = true := by kernel_rfl
theorem T_info36 : tyInfo Try.prog 36 = some (1, 24) := by kernel_rfl
theorem T_cells36 : Try.prog.cellsOf 36 = 1 := by kernel_rfl
theorem T_zero36 : zeroPV Try.prog 36 = some PV.nilS := by kernel_rfl
theorem T_elem36 : tyElem Try.prog 36 = some 3 := by kernel_rfl
theorem T_under36 : Try.prog.underlying 36 = some (.slice 3) := by kernel_rfl
theorem T_len36s (es : List PV) : lenPV Try.prog 36 (.slc es) = some (.int .i64 es.length) := by simp only [lenPV, T_under36]
theorem T_len36n  : lenPV Try.prog 36 .nilS = some (.int .i64 0) := by simp only [lenPV, T_under36]
theorem T_len36b (b e o n : Nat) : lenPV Try.prog 36 (.bs b e o n) = some (.int .i64 n) := by simp only [lenPV, T_under36]
theorem T_ok44 : tyOk Try.prog 44 = true := by kernel_rfl
theorem T_agg44 : tyAgg Try.prog 44 = true := by kernel_rfl
theorem T_isinfo44 : (Try.prog.info? 44).isSome = true := by kernel_rfl
theorem T_info44 : tyInfo Try.prog 44 = some (2, 16) := by kernel_rfl
theorem T_cells44 : Try.prog.cellsOf 44 = 2 := by kernel_rfl
theorem T_zero44 : zeroPV Try.prog 44 = some (PV.agg [PV.int IntKind.i64 0, PV.int IntKind.i64 0]) := by kernel_rfl
theorem T_build44 : buildable Try.prog 44 = true := by kernel_rfl
theorem T_f44_0 : tyField Try.prog 44 0 = some (0, 3, 1) := by kernel_rfl
theorem T_p44_0 : placePV Try.prog 44 0 = some (0, 1) := by kernel_rfl
theorem T_f44_1 : tyField Try.prog 44 1 = some (1, 3, 1) := by kernel_rfl
theorem T_p44_1 : placePV Try.prog 44 1 = some (1, 1) := by kernel_rfl
theorem T_eqs44 : eqShapeS Try.prog 44 = some [1, 1] := by kernel_rfl
theorem T_ok52 : tyOk Try.prog 52 = true := by kernel_rfl
theorem T_agg52 : tyAgg Try.prog 52 = false := by kernel_rfl
theorem T_isinfo52 : (Try.prog.info? 52).isSome = true := by kernel_rfl
theorem T_info52 : tyInfo Try.prog 52 = some (1, 8) := by kernel_rfl
theorem T_cells52 : Try.prog.cellsOf 52 = 1 := by kernel_rfl
theorem T_zero52 : zeroPV Try.prog 52 = some (PV.int IntKind.i64 0) := by kernel_rfl
theorem T_int52 : Try.prog.underlying 52 = some (.int .i64) := by kernel_rfl
theorem T_ok56 : tyOk Try.prog 56 = true := by kernel_rfl
theorem T_agg56 : tyAgg Try.prog 56 = true := by kernel_rfl
theorem T_isinfo56 : (Try.prog.info? 56).isSome = true := by kernel_rfl
theorem T_info56 : tyInfo Try.prog 56 = some (6, 96) := by kernel_rfl
theorem T_cells56 : Try.prog.cellsOf 56 = 6 := by kernel_rfl
theorem T_zero56 : zeroPV Try.prog 56 = some (PV.agg [PV.int IntKind.i64 0, PV.int IntKind.i64 0, PV.int IntKind.i64 0, PV.nilS, PV.nilS, PV.nilS]) := by kernel_rfl
theorem T_build56 : buildable Try.prog 56 = true := by kernel_rfl
theorem T_f56_0 : tyField Try.prog 56 0 = some (0, 3, 1) := by kernel_rfl
theorem T_p56_0 : placePV Try.prog 56 0 = some (0, 1) := by kernel_rfl
theorem T_f56_1 : tyField Try.prog 56 1 = some (1, 3, 1) := by kernel_rfl
theorem T_p56_1 : placePV Try.prog 56 1 = some (1, 1) := by kernel_rfl
theorem T_f56_2 : tyField Try.prog 56 2 = some (2, 3, 1) := by kernel_rfl
theorem T_p56_2 : placePV Try.prog 56 2 = some (2, 1) := by kernel_rfl
theorem T_f56_3 : tyField Try.prog 56 3 = some (3, 36, 1) := by kernel_rfl
theorem T_p56_3 : placePV Try.prog 56 3 = some (3, 1) := by kernel_rfl
theorem T_f56_4 : tyField Try.prog 56 4 = some (4, 36, 1) := by kernel_rfl
theorem T_p56_4 : placePV Try.prog 56 4 = some (4, 1) := by kernel_rfl
theorem T_f56_5 : tyField Try.prog 56 5 = some (5, 36, 1) := by kernel_rfl
theorem T_p56_5 : placePV Try.prog 56 5 = some (5, 1) := by kernel_rfl
theorem T_ok66 : tyOk Try.prog 66 = true := by kernel_rfl
theorem T_agg66 : tyAgg Try.prog 66 = false := by kernel_rfl
theorem T_isinfo66 : (Try.prog.info? 66).isSome = true := by kernel_rfl
theorem T_info66 : tyInfo Try.prog 66 = some (1, 8) := by kernel_rfl
theorem T_cells66 : Try.prog.cellsOf 66 = 1 := by kernel_rfl
theorem T_zero66 : zeroPV Try.prog 66 = some (PV.int IntKind.u64 0) := by kernel_rfl
theorem T_int66 : Try.prog.underlying 66 = some (.int .u64) := by kernel_rfl
theorem T_ok68 : tyOk Try.prog 68 = true := by kernel_rfl
theorem T_agg68 : tyAgg Try.prog 68 = true := by kernel_rfl
theorem T_isinfo68 : (Try.prog.info? 68).isSome = true := by kernel_rfl
theorem T_info68 : tyInfo Try.prog 68 = some (2, 16) := by kernel_rfl
theorem T_cells68 : Try.prog.cellsOf 68 = 2 := by kernel_rfl
theorem T_zero68 : zeroPV Try.prog 68 = some (PV.agg [PV.int IntKind.u64 0, PV.int IntKind.u64 0]) := by kernel_rfl
theorem T_build68 : buildable Try.prog 68 = true := by kernel_rfl
theorem T_f68_0 : tyField Try.prog 68 0 = some (0, 66, 1) := by kernel_rfl
theorem T_p68_0 : placePV Try.prog 68 0 = some (0, 1) := by kernel_rfl
theorem T_f68_1 : tyField Try.prog 68 1 = some (1, 66, 1) := by kernel_rfl
theorem T_p68_1 : placePV Try.prog 68 1 = some (1, 1) := by kernel_rfl
theorem T_eqs68 : eqShapeS Try.prog 68 = some [1, 1] := by kernel_rfl
theorem T_ok71 : tyOk Try.prog 71 = true := by kernel_rfl
theorem T_agg71 : tyAgg Try.prog 71 = false := by kernel_rfl
theorem T_isinfo71 : (Try.prog.info? 71).isSome = true := by kernel_rfl
theorem T_info71 : tyInfo Try.prog 71 = some (1, 8) := by kernel_rfl
theorem T_cells71 : Try.prog.cellsOf 71 = 1 := by kernel_rfl
theorem T_zero71 : zeroPV Try.prog 71 = some PV.nilF := by kernel_rfl
theorem T_ok74 : tyOk Try.prog 74 = true := by kernel_rfl
theorem T_agg74 : tyAgg Try.prog 74 = true := by kernel_rfl
theorem T_isinfo74 : (Try.prog.info? 74).isSome = true := by kernel_rfl
theorem T_info74 : tyInfo Try.prog 74 = some (2, 32) := by kernel_rfl
theorem T_cells74 : Try.prog.cellsOf 74 = 2 := by kernel_rfl
theorem T_zero74 : zeroPV Try.prog 74 = some (PV.agg [PV.bool Bool.false, PV.nilS]) := by kernel_rfl
theorem T_build74 : buildable Try.prog 74 = true := by kernel_rfl
theorem T_f74_0 : tyField Try.prog 74 0 = some (0, 4, 1) := by kernel_rfl
theorem T_p74_0 : placePV Try.prog 74 0 = some (0, 1) := by kernel_rfl
theorem T_f74_1 : tyField Try.prog 74 1 = some (1, 36, 1) := by kernel_rfl
theorem T_p74_1 : placePV Try.prog 74 1 = some (1, 1) := by kernel_rfl
theorem T_ok84 : tyOk Try.prog 84 = true := by kernel_rfl
theorem T_agg84 : tyAgg Try.prog 84 = false := by kernel_rfl
theorem T_isinfo84 : (Try.prog.info? 84).isSome = true := by kernel_rfl
theorem T_info84 : tyInfo Try.prog 84 = some (1, 8) := by kernel_rfl
theorem T_cells84 : Try.prog.cellsOf 84 = 1 := by kernel_rfl
theorem T_zero84 : zeroPV Try.prog 84 = some PV.nilF := by kernel_rfl
theorem T_ok91 : tyOk Try.prog 91 = true := by kernel_rfl
theorem T_agg91 : tyAgg Try.prog 91 = false := by kernel_rfl
theorem T_isinfo91 : (Try.prog.info? 91).isSome = true := by kernel_rfl
theorem T_info91 : tyInfo Try.prog 91 = some (1, 8) := by kernel_rfl
theorem T_cells91 : Try.prog.cellsOf 91 = 1 := by kernel_rfl
theorem T_ok97 : tyOk Try.prog 97 = true := by kernel_rfl
theorem T_agg97 : tyAgg Try.prog 97 = false := by kernel_rfl
theorem T_isinfo97 : (Try.prog.info? 97).isSome = true := by kernel_rfl
theorem T_info97 : tyInfo Try.prog 97 = some (1, 8) := by kernel_rfl
theorem T_cells97 : Try.prog.cellsOf 97 = 1 := by kernel_rfl
theorem T_zero97 : zeroPV Try.prog 97 = some (PV.int IntKind.u64 0) := by kernel_rfl
theorem T_int97 : Try.prog.underlying 97 = some (.int .u64) := by kernel_rfl
end Go.Proofs.Ytkajnimlfehmeaa

namespace Go.Proofs.Ytkajnimlfehmeaa
open Go.Vl Go.RowKit

def ints (l : List Int) : PV := .slc (l.map (.int .i64))
def segCells (s : Sky.Seg) : List PV := [.int .i64 s.frm, .int .i64 s.til, .int .i64 s.over, ints s.X, ints s.Y, ints s.Z]
def segPV (s : Sky.Seg) : PV := .agg (segCells s)
def pathPV (p : List Sky.Seg) : PV := .slc (p.map segPV)

def flat0V : PV → Option Value
  | .int k n => some (.int k n)
  | .bool b => some (.bool b)
  | _ => none
def flat0L : List PV → Option (List Value)
  | [] => some []
  | v :: vs => match flat0V v, flat0L vs with
    | some x, some xs => some (x :: xs)
    | _, _ => none
def flatV : PV → Option Value
  | .agg cs => (flat0L cs).map fun l => .agg l.toArray
  | v => flat0V v
def flatL : List PV → Option (List Value)
  | [] => some []
  | v :: vs => match flatV v, flatL vs with
    | some x, some xs => some (x :: xs)
    | _, _ => none
theorem flat0V_rep {w : World} {im : Im} {v : PV} {u x : Value} (h : Rep w im v u) (hf : flat0V v = some x) : u = x := by
  cases h <;> simp [flat0V] at hf <;> exact hf
theorem flat0L_rep {w : World} {im : Im} : ∀ {vs : List PV} {us xs : List Value}, RepL w im vs us → flat0L vs = some xs → us = xs
  | [], _, _, h, hf => by cases h; simp [flat0L] at hf; exact hf.symm ▸ rfl
  | v :: vs, _, xs, h, hf => by
    cases h with
    | cons _ u _ us h t =>
      simp only [flat0L] at hf
      split at hf
      · rename_i x y e1 e2
        cases hf
        rw [flat0V_rep h e1, flat0L_rep t e2]
      · cases hf
theorem flatV_rep {w : World} {im : Im} {v : PV} {u x : Value} (h : Rep w im v u) (hf : flatV v = some x) : u = x := by
  cases v with
  | agg cs =>
    cases h with
    | agg _ vs h =>
      simp only [flatV, Option.map_eq_some_iff] at hf
      obtain ⟨l, e1, rfl⟩ := hf
      rw [flat0L_rep h e1]
  | _ => exact flat0V_rep h hf
theorem flatL_rep {w : World} {im : Im} : ∀ {vs : List PV} {us xs : List Value}, RepL w im vs us → flatL vs = some xs → us = xs
  | [], _, _, h, hf => by cases h; simp [flatL] at hf; exact hf.symm ▸ rfl
  | v :: vs, _, xs, h, hf => by
    cases h with
    | cons _ u _ us h t =>
      simp only [flatL] at hf
      split at hf
      · rename_i x y e1 e2
        cases hf
        rw [flatV_rep h e1, flatL_rep t e2]
      · cases hf

section
variable {w : World} {im : Im} {lo hi n c : Nat} {A : Option Addr}
theorem repL_ints : ∀ (xs : List Int), RepL w im ((xs.map (PV.int .i64)).flatMap PV.cells) (Sky.iv xs)
  | [] => .nil
  | x :: xs => by
    have := repL_ints xs
    exact .cons _ _ _ _ (.int _ _) this
theorem rep_empty (hm : c ≤ maxLen) : Rep w im (.slc []) (.slice A 0 c) := by
  cases A with
  | none => exact .slcNil c hm
  | some p => exact .slcE p c hm
theorem rep_ints {xs : List Int} (h : Sky.Ints w lo hi A n c xs) (hi' : ∀ g j u, lo ≤ g → w.cell? ⟨g, j, none⟩ = some u → im g j) : Rep w im (ints xs) (.slice A n c) := by
  obtain ⟨h1, h2, h3, h4⟩ := h
  have hlen : xs.length = n := by simpa [Sky.iv] using h3
  rcases Nat.eq_zero_or_pos n with rfl | hn
  · have : xs = [] := List.length_eq_zero_iff.1 hlen
    subst this
    exact rep_empty h2
  · obtain ⟨b, off, rfl, hl, hh, hc⟩ := h4 hn
    have hg : ∀ j, j < (Sky.iv xs).length → ∃ u, (Sky.iv xs)[j]? = some u ∧ w.cell? ⟨b, off + j, none⟩ = some u := fun j hj => ⟨_, List.getElem?_eq_getElem hj, hc j _ (List.getElem?_eq_getElem hj)⟩
    refine .slc _ b off n c 1 (Sky.iv xs) (by simpa using hlen) (by omega) (by simp [PV.cells]) (fun j hj => ?_) (fun j hj => ?_) (repL_ints xs) h1
    · obtain ⟨u, _, e⟩ := hg j hj; exact hi' _ _ u hl e
    · obtain ⟨u, e1, e2⟩ := hg j hj; rw [e1, e2]
theorem rep_seg {cs : Array Value} {s : Sky.Seg} (h : Sky.SegC w lo hi cs s) (hi' : ∀ g j u, lo ≤ g → w.cell? ⟨g, j, none⟩ = some u → im g j) : RepL w im (segCells s) cs.toList := by
  obtain ⟨A1, n1, c1, A2, n2, c2, A3, n3, c3, rfl, h1, h2, h3⟩ := h
  exact .cons _ _ _ _ (.int _ _) (.cons _ _ _ _ (.int _ _) (.cons _ _ _ _ (.int _ _) (.cons _ _ _ _ (rep_ints h1 hi') (.cons _ _ _ _ (rep_ints h2 hi') (.cons _ _ _ _ (rep_ints h3 hi') .nil)))))
theorem rep_path {p : List Sky.Seg} (h : Sky.PathV w lo hi A n c p) (hi' : ∀ g j u, lo ≤ g → w.cell? ⟨g, j, none⟩ = some u → im g j) : Rep w im (pathPV p) (.slice A n c) := by
  obtain ⟨h0, css, ⟨h1, h2, h3, h4⟩, h5⟩ := h
  have key : ∀ k, k ≤ n → RepL w im (((p.take k).map segPV).flatMap PV.cells) ((List.range k).flatMap fun i => (css i).toList) := by
    intro k
    induction k with
    | zero => intro _; simpa using RepL.nil
    | succ k ih =>
      intro hk
      have hp : p[k]? = some p[k] := List.getElem?_eq_getElem (by omega)
      rw [List.take_add_one, hp, List.range_succ]
      simp only [Option.toList_some, List.map_append, List.map_cons, List.map_nil, List.flatMap_append, List.flatMap_cons, List.flatMap_nil, List.append_nil]
      exact (ih (by omega)).append (rep_seg (h5 k _ hp) hi')
  have hall := key n (Nat.le_refl _)
  rw [List.take_of_length_le (by omega)] at hall
  rcases Nat.eq_zero_or_pos n with rfl | hn
  · have : p = [] := List.length_eq_zero_iff.1 h0
    subst this
    exact rep_empty h2
  · obtain ⟨b, off, rfl, hl, hh, hc⟩ := h4 hn
    generalize ((List.range n).flatMap fun i => (css i).toList) = vs at *
    have hg : ∀ j, j < vs.length → ∃ u, vs[j]? = some u ∧ w.cell? ⟨b, off + j, none⟩ = some u := fun j hj => ⟨_, List.getElem?_eq_getElem hj, hc j _ (List.getElem?_eq_getElem hj)⟩
    refine .slc _ b off n c 6 vs (by simpa using h0) (by omega) (by simp [segPV, segCells, PV.cells]) (fun j hj => ?_) (fun j hj => ?_) hall h1
    · obtain ⟨u, _, e⟩ := hg j hj; exact hi' _ _ u hl e
    · obtain ⟨u, e1, e2⟩ := hg j hj; rw [e1, e2]
end

theorem sound_path {f : FuncId} {args : List PV} {us : List Value} {p : List Sky.Seg} {er : Int} (hc : callable Try.prog f = true) (hu : flatL args = some us) (h : ∀ w, Calls Try.prog f us.toArray w (Sky.RPath w p er)) :
    SoundAt Try.prog f args (.tup [pathPV p, .int .i64 er]) := by
  refine ⟨hc, fun w im vs hr _ => ?_⟩
  rw [flatL_rep hr hu]
  refine (h w).mono ?_
  rintro e w' ⟨A, n, c, rfl, h1, h2⟩
  refine ⟨_, rfl, h2, .tup _ [_, _] (.cons _ _ _ _ (rep_path h1 fun g j u hg hu => .inr ⟨hg, u, hu⟩) (.cons _ _ _ _ (.int _ _) .nil))⟩

def vecPV (x y z : Int) : PV := .agg [.int .i64 x, .int .i64 y, .int .i64 z]

theorem Glide_v (ax ay az bx by_ bz t u : Int) : SoundAt Try.prog 7 [vecPV ax ay az, vecPV bx by_ bz, .int .i64 t, .int .i64 u] (.tup [pathPV (flyP ax ay az bx by_ bz t u 2).1, .int .i64 (flyP ax ay az bx by_ bz t u 2).2]) :=
  sound_path (by kernel_rfl) rfl fun w => Glide_any ax ay az bx by_ bz t u w
theorem Line_v (ax ay az bx by_ bz t u : Int) : SoundAt Try.prog 8 [vecPV ax ay az, vecPV bx by_ bz, .int .i64 t, .int .i64 u] (.tup [pathPV (flyP ax ay az bx by_ bz t u 1).1, .int .i64 (flyP ax ay az bx by_ bz t u 1).2]) :=
  sound_path (by kernel_rfl) rfl fun w => Line_any ax ay az bx by_ bz t u w
theorem Hover_v (ax ay az t u : Int) : SoundAt Try.prog 9 [vecPV ax ay az, .int .i64 t, .int .i64 u] (.tup [pathPV (flyP ax ay az ax ay az t u 0).1, .int .i64 (flyP ax ay az ax ay az t u 0).2]) :=
  sound_path (by kernel_rfl) rfl fun w => Hover_any ax ay az t u w
theorem Fly_v (ax ay az bx by_ bz t u k : Int) (h0 : 0 ≤ k) (h2 : k ≤ 2) : SoundAt Try.prog 10 [vecPV ax ay az, vecPV bx by_ bz, .int .i64 t, .int .i64 u, .int .i64 k] (.tup [pathPV (flyP ax ay az bx by_ bz t u (2 - k)).1, .int .i64 (flyP ax ay az bx by_ bz t u (2 - k)).2]) :=
  sound_path (by kernel_rfl) rfl fun w => r15_Fly_any ax ay az bx by_ bz t u k w h0 h2
theorem Arc_v (ax ay az bx by_ bz r t u : Int) : SoundAt Try.prog 16 [vecPV ax ay az, vecPV bx by_ bz, .int .i64 r, .int .i64 t, .int .i64 u] (.tup [pathPV (arcP ax ay az bx by_ bz r t u).1, .int .i64 (arcP ax ay az bx by_ bz r t u).2]) :=
  sound_path (by kernel_rfl) rfl fun w => Arc_any ax ay az bx by_ bz r t u w

def v3PV (v : Sky.V3) : PV := vecPV v.x v.y v.z
theorem repL_ints_inv {w : World} {im : Im} : ∀ {xs : List Int} {us : List Value}, RepL w im ((xs.map (PV.int .i64)).flatMap PV.cells) us → us = Sky.iv xs
  | [], _, h => by cases h; rfl
  | x :: xs, us, h => by
    cases h with
    | cons _ u _ us h t =>
      cases h
      rw [repL_ints_inv t]; rfl
theorem ints_rep {w : World} {im : Im} {xs : List Int} {u : Value} (h : Rep w im (ints xs) u) (hx : ∀ g j, im g j → ∃ u, w.cell? ⟨g, j, none⟩ = some u) : ∃ A n c, u = .slice A n c ∧ Sky.Ints w 0 w.heap.size A n c xs := by
  generalize hv : ints xs = v at h
  have nil0 : ∀ (A : Option Addr) (c : Nat), c ≤ maxLen → Sky.Ints w 0 w.heap.size A 0 c [] := fun A c hm => ⟨Nat.zero_le _, hm, rfl, fun h => absurd h (by omega)⟩
  cases h <;> simp [ints] at hv
  · rename_i c hm; subst hv; exact ⟨_, _, _, rfl, nil0 _ _ hm⟩
  · rename_i p c hm; subst hv; exact ⟨_, _, _, rfl, nil0 _ _ hm⟩
  · rename_i es g off len cap sz vs hn hm hz h1 h2 hr hcap
    subst hv
    have := repL_ints_inv hr
    subst this
    simp at hn
    refine ⟨_, _, _, rfl, hcap, ?_, by simp [Sky.iv, hn], fun hp => ⟨g, off, rfl, Nat.zero_le _, ?_, fun j u hu => ?_⟩⟩
    · exact hm
    · obtain ⟨u, hu⟩ := hx g off (by simpa using h1 0 (by simp [Sky.iv]; omega))
      exact World.block_lt_of_cell? w _ hu
    · have hj : j < (Sky.iv xs).length := (List.getElem?_eq_some_iff.1 hu).1
      rw [h2 j hj, hu]

theorem repL_v3_inv {w : World} {im : Im} : ∀ {xs : List Sky.V3} {us : List Value}, RepL w im ((xs.map v3PV).flatMap PV.cells) us → us = xs.flatMap fun v => v.cells.toList
  | [], _, h => by cases h; rfl
  | x :: xs, us, h => by
    cases h with
    | cons _ u _ us h t =>
      cases h
      cases t with
      | cons _ u _ us h t =>
      cases h
      cases t with
      | cons _ u _ us h t =>
      cases h
      rw [repL_v3_inv t]; rfl
theorem v3_flat (xs : List Sky.V3) : (xs.flatMap fun v => v.cells.toList) = (List.range xs.length).flatMap fun i => (xs.getD i ⟨0, 0, 0⟩).cells.toList := by
  have h : xs = (List.range xs.length).map fun i => xs.getD i ⟨0, 0, 0⟩ := by
    apply List.ext_getElem
    · simp
    · intro i h1 h2; simp [h1]
  conv => lhs; rw [h]
  rw [List.flatMap_map]
theorem vecs_rep {w : World} {im : Im} {xs : List Sky.V3} {u : Value} (h : Rep w im (.slc (xs.map v3PV)) u) (hx : ∀ g j, im g j → ∃ u, w.cell? ⟨g, j, none⟩ = some u) : ∃ A n c, u = .slice A n c ∧ Sky.Vecs w 0 w.heap.size A n c xs := by
  generalize hv : PV.slc (xs.map v3PV) = v at h
  have nil0 : ∀ (A : Option Addr) (c : Nat), c ≤ maxLen → Sky.Vecs w 0 w.heap.size A 0 c [] := fun A c hm => ⟨rfl, Nat.zero_le _, hm, rfl, fun h => absurd h (by omega)⟩
  cases h <;> simp at hv
  · rename_i c hm; subst hv; exact ⟨_, _, _, rfl, nil0 _ _ hm⟩
  · rename_i p c hm; subst hv; exact ⟨_, _, _, rfl, nil0 _ _ hm⟩
  · rename_i es g off len cap sz vs hn hm hz h1 h2 hr hcap
    subst hv
    have := repL_v3_inv hr
    subst this
    simp at hn
    have hl : (xs.flatMap fun v => v.cells.toList).length = len * 3 := by
      rw [← hn]
      clear hr h1 h2 hz hn
      induction xs with
      | nil => rfl
      | cons x xs ih => simp only [List.flatMap_cons, List.length_append, ih, List.length_cons]; simp [Sky.V3.cells]; omega
    subst hn
    refine ⟨_, _, _, rfl, rfl, hcap, hm, ?_, fun hp => ⟨g, off, rfl, Nat.zero_le _, ?_, fun j u hu => ?_⟩⟩
    · rw [← v3_flat]; exact hl
    · obtain ⟨u, hu⟩ := hx g off (by simpa using h1 0 (by omega))
      exact World.block_lt_of_cell? w _ hu
    · rw [← v3_flat] at hu
      have hj : j < (xs.flatMap fun v => v.cells.toList).length := (List.getElem?_eq_some_iff.1 hu).1
      rw [h2 j hj, hu]
theorem sound_tour {f : FuncId} {ps : List Sky.V3} {ts : List Int} {p : List Sky.Seg} {er : Int} (hc : callable Try.prog f = true)
    (h : ∀ (nP cP nT cT lo lo' : Nat) (AP AT : Option Addr) (w : World) (hP : Sky.Vecs w lo w.heap.size AP nP cP ps) (hT : Sky.Ints w lo' w.heap.size AT nT cT ts), Calls Try.prog f #[.slice AP nP cP, .slice AT nT cT] w (Sky.RPath w p er)) :
    SoundAt Try.prog f [.slc (ps.map v3PV), ints ts] (.tup [pathPV p, .int .i64 er]) := by
  refine ⟨hc, fun w im vs hr hx => ?_⟩
  cases hr with
  | cons _ u1 _ us h1 t =>
  cases t with
  | cons _ u2 _ us h2 t =>
  cases t
  obtain ⟨A, n, c, rfl, hP⟩ := vecs_rep h1 hx
  obtain ⟨A', n', c', rfl, hT⟩ := ints_rep h2 hx
  refine (h _ _ _ _ _ _ _ _ w hP hT).mono ?_
  rintro e w' ⟨A, n, c, rfl, h1, h2⟩
  refine ⟨_, rfl, h2, .tup _ [_, _] (.cons _ _ _ _ (rep_path h1 fun g j u hg hu => .inr ⟨hg, u, hu⟩) (.cons _ _ _ _ (.int _ _) .nil))⟩
theorem Tour_v (ps : List Sky.V3) (ts : List Int) : SoundAt Try.prog 14 [.slc (ps.map v3PV), ints ts] (.tup [pathPV (tourP ps ts).1, .int .i64 (tourP ps ts).2]) :=
  sound_tour (by kernel_rfl) fun nP cP nT cT lo lo' AP AT w hP hT => Tour_any nP cP nT cT lo lo' AP AT ps ts w hP hT
theorem rTour_v (ps : List Sky.V3) (ts : List Int) : SoundAt Try.prog 15 [.slc (ps.map v3PV), ints ts] (.tup [pathPV (tourP ps ts).1, .int .i64 (tourP ps ts).2]) :=
  sound_tour (by kernel_rfl) fun nP cP nT cT lo lo' AP AT w hP hT => r15_Tour_any nP cP nT cT lo lo' AP AT ps ts w hP hT
end Go.Proofs.Ytkajnimlfehmeaa

namespace Go.Proofs.Ytkajnimlfehmeaa
open Go.Vl
theorem time_a : evF Try.prog noneKnown 1000 10 18 [vecPV 0 0 0, vecPV 1000 0 0, .agg [.int .i64 500, .int .i64 10000]] = some (.tup [.int .i64 3750, .int .i64 0]) := by kernel_rfl
theorem time_b : evF Try.prog noneKnown 1000 10 18 [vecPV 1 2 3, vecPV 1 2 3, .agg [.int .i64 500, .int .i64 10000]] = some (.tup [.int .i64 1, .int .i64 0]) := by kernel_rfl
end Go.Proofs.Ytkajnimlfehmeaa

namespace Go.Proofs.Ytkajnimlfehmeaa
open Go.Vl
def glideTable (f : FuncId) (args : List PV) : Option PV :=
  match args with
  | [.agg [.int .i64 ax, .int .i64 ay, .int .i64 az], .agg [.int .i64 bx, .int .i64 by_, .int .i64 bz], .int .i64 t, .int .i64 u] =>
    if f = 7 then some (.tup [pathPV (flyP ax ay az bx by_ bz t u 2).1, .int .i64 (flyP ax ay az bx by_ bz t u 2).2])
    else if f = 8 then some (.tup [pathPV (flyP ax ay az bx by_ bz t u 1).1, .int .i64 (flyP ax ay az bx by_ bz t u 1).2]) else none
  | [.agg [.int .i64 ax, .int .i64 ay, .int .i64 az], .int .i64 t, .int .i64 u] =>
    if f = 9 then some (.tup [pathPV (flyP ax ay az ax ay az t u 0).1, .int .i64 (flyP ax ay az ax ay az t u 0).2]) else none
  | [.agg [.int .i64 ax, .int .i64 ay, .int .i64 az], .agg [.int .i64 bx, .int .i64 by_, .int .i64 bz], .int .i64 r, .int .i64 t, .int .i64 u] =>
    if f = 16 then some (.tup [pathPV (arcP ax ay az bx by_ bz r t u).1, .int .i64 (arcP ax ay az bx by_ bz r t u).2]) else none
  | [.agg [.int .i64 ax, .int .i64 ay, .int .i64 az], .agg [.int .i64 bx, .int .i64 by_, .int .i64 bz], .agg [.int .i64 s, .int .i64 c]] =>
    if f = 18 then
      if ax = 0 ∧ ay = 0 ∧ az = 0 ∧ bx = 1000 ∧ by_ = 0 ∧ bz = 0 ∧ s = 500 ∧ c = 10000 then some (.tup [.int .i64 3750, .int .i64 0])
      else if ax = 1 ∧ ay = 2 ∧ az = 3 ∧ bx = 1 ∧ by_ = 2 ∧ bz = 3 ∧ s = 500 ∧ c = 10000 then some (.tup [.int .i64 1, .int .i64 0]) else none
    else none
  | _ => none
theorem glideTable_sound (f : FuncId) (args : List PV) (r : PV) (h : glideTable f args = some r) : SoundAt Try.prog f args r := by
  unfold glideTable at h
  split at h
  · split at h
    · rename_i e; cases h; subst e; exact Glide_v _ _ _ _ _ _ _ _
    · split at h
      · rename_i e; cases h; subst e; exact Line_v _ _ _ _ _ _ _ _
      · cases h
  · split at h
    · rename_i e; cases h; subst e; exact Hover_v _ _ _ _ _
    · cases h
  · split at h
    · rename_i e; cases h; subst e; exact Arc_v _ _ _ _ _ _ _ _ _
    · cases h
  · split at h
    · rename_i e
      split at h
      · rename_i e2; cases h; subst e
        obtain ⟨rfl, rfl, rfl, rfl, rfl, rfl, rfl, rfl⟩ := e2
        exact sound_run mixed _ _ time_a
      · split at h
        · rename_i e2; cases h; subst e
          obtain ⟨rfl, rfl, rfl, rfl, rfl, rfl, rfl, rfl⟩ := e2
          exact sound_run mixed _ _ time_b
        · cases h
    · cases h
  · cases h
theorem known_v : SoundAt Try.prog 12 [] (.bool true) := evF_sound mixed glideTable_sound 1000 10 _ _ _ (by kernel_rfl)
end Go.Proofs.Ytkajnimlfehmeaa

namespace Go.Proofs.Ytkajnimlfehmeaa
open Go.Vl

theorem sameInts_v (a : List Int) (ha : a.length ≤ maxLen) : SoundAt Try.prog 42 [ints a, ints a] (.bool true) := by
  refine sound_go (tb := []) 26 [.tmp 4] [0, 1, 4, 5, 10, 14, 25] mixed Try.func42 rfl (by kernel_rfl) (by kernel_rfl) (by kernel_rfl) (by kernel_rfl) ?_
  have hl' : ((a.length : Int) != (a.length : Int)) = false := by simp
  simp -implicitDefEqProofs only [go_sem, Nat.reduceAdd, Nat.reduceMul, Nat.reduceEqDiff, Nat.reduceLT, Nat.reduceLeDiff, Nat.reduceSub, Nat.reduceBEq, reduceIte, reduceCtorEq, Int.reduceEq, Int.reduceNe, Nat.reduceBneDiff, Int.reduceLE, Int.reduceLT, Int.reduceToNat, Int.reduceAdd, Int.reduceSub, Int.reduceMul, Int.reduceNeg, T_ok3, T_agg3, T_isinfo3, T_info3, T_cells3, T_zero3, T_int3, T_ok36, T_agg36, T_isinfo36, T_info36, T_cells36, T_zero36, T_elem36, T_under36, T_len36s, T_len36n, T_len36b, ints, hl', List.length_map]
  refine g_loop mixed (fun k : { k : Nat // k ≤ a.length } => St.of [(0, ints a), (1, ints a), (4, .bool false), (5, .int .i64 k.1)] []) (fun k => a.length - k.1) ⟨0, by simp⟩ ?_ ?_
  · exact le_vars (by simp [varsLe, lkp, ren1, ren0, ints])
  · rintro ⟨k, hk⟩
    by_cases hlt : k < a.length
    · have h1 : ((k : Int) < (a.length : Int)) = True := by simp; omega
      have h0 : (0 ≤ (k : Int)) = True := by simp
      have ea : (a.map (PV.int .i64))[k]? = some (.int .i64 a[k]) := by simp [hlt]
      have hne' : (a[k] != a[k]) = false := by simp
      simp -implicitDefEqProofs only [go_sem, Nat.reduceAdd, Nat.reduceMul, Nat.reduceEqDiff, Nat.reduceLT, Nat.reduceLeDiff, Nat.reduceSub, Nat.reduceBEq, reduceIte, reduceCtorEq, Int.reduceEq, Int.reduceNe, Nat.reduceBneDiff, Int.reduceLE, Int.reduceLT, Int.reduceToNat, Int.reduceAdd, Int.reduceSub, Int.reduceMul, Int.reduceNeg, T_ok3, T_agg3, T_isinfo3, T_info3, T_cells3, T_zero3, T_int3, T_ok36, T_agg36, T_isinfo36, T_info36, T_cells36, T_zero36, T_elem36, T_under36, T_len36s, T_len36n, T_len36b, ints, h1, h0, List.length_map, Int.toNat_natCast, ea, hne']
      refine ⟨drawQ_true _ _ (by kernel_rfl), ⟨k + 1, hlt⟩, by simp only; omega, ?_⟩
      rw [wrap_i64 (by omega) (by unfold maxLen at ha; omega)]
      exact le_vars (by simp [varsLe, lkp, ren1, ren0])
    · have h1 : ((k : Int) < (a.length : Int)) = False := by simp; omega
      simp -implicitDefEqProofs only [go_sem, Nat.reduceAdd, Nat.reduceMul, Nat.reduceEqDiff, Nat.reduceLT, Nat.reduceLeDiff, Nat.reduceSub, Nat.reduceBEq, reduceIte, reduceCtorEq, Int.reduceEq, Int.reduceNe, Nat.reduceBneDiff, Int.reduceLE, Int.reduceLT, Int.reduceToNat, Int.reduceAdd, Int.reduceSub, Int.reduceMul, Int.reduceNeg, T_ok3, T_agg3, T_isinfo3, T_info3, T_cells3, T_zero3, T_int3, T_ok36, T_agg36, T_isinfo36, T_info36, T_cells36, T_zero36, T_elem36, T_under36, T_len36s, T_len36n, T_len36b, ints, h1, List.length_map]

theorem sameSeg_v (s : Sky.Seg) (hx : s.X.length ≤ maxLen) (hy : s.Y.length ≤ maxLen) (hz : s.Z.length ≤ maxLen) : SoundAt Try.prog 25 [segPV s, segPV s] (.bool true) := by
  refine sound_go (tb := []) 45 [.tmp 4] [0, 1, 2, 3, 4] mixed Try.func25 rfl (by kernel_rfl) (by kernel_rfl) (by kernel_rfl) (by kernel_rfl) ?_
  simp -implicitDefEqProofs only [go_sem, Nat.reduceAdd, Nat.reduceMul, Nat.reduceEqDiff, Nat.reduceLT, Nat.reduceLeDiff, Nat.reduceSub, Nat.reduceBEq, reduceIte, reduceCtorEq, Int.reduceEq, Int.reduceNe, Nat.reduceBneDiff, Int.reduceLE, Int.reduceLT, Int.reduceToNat, Int.reduceAdd, Int.reduceSub, Int.reduceMul, Int.reduceNeg, T_ok3, T_agg3, T_isinfo3, T_info3, T_cells3, T_zero3, T_int3, T_ok36, T_agg36, T_isinfo36, T_info36, T_cells36, T_zero36, T_elem36, T_under36, T_len36s, T_len36n, T_len36b, T_ok56, T_agg56, T_isinfo56, T_info56, T_cells56, T_zero56, T_build56, T_f56_0, T_p56_0, T_f56_1, T_p56_1, T_f56_2, T_p56_2, T_f56_3, T_p56_3, T_f56_4, T_p56_4, T_f56_5, T_p56_5, segPV, segCells, ints, beq_self_eq_true]
  refine gcall_intro _ _ _ _ _ _ _ _ _ (sameInts_v s.X hx) ?_
  simp -implicitDefEqProofs only [go_sem, Nat.reduceAdd, Nat.reduceMul, Nat.reduceEqDiff, Nat.reduceLT, Nat.reduceLeDiff, Nat.reduceSub, Nat.reduceBEq, reduceIte, reduceCtorEq, Int.reduceEq, Int.reduceNe, Nat.reduceBneDiff, Int.reduceLE, Int.reduceLT, Int.reduceToNat, Int.reduceAdd, Int.reduceSub, Int.reduceMul, Int.reduceNeg, T_ok3, T_agg3, T_isinfo3, T_info3, T_cells3, T_zero3, T_int3, T_ok36, T_agg36, T_isinfo36, T_info36, T_cells36, T_zero36, T_elem36, T_under36, T_len36s, T_len36n, T_len36b, T_ok56, T_agg56, T_isinfo56, T_info56, T_cells56, T_zero56, T_build56, T_f56_0, T_p56_0, T_f56_1, T_p56_1, T_f56_2, T_p56_2, T_f56_3, T_p56_3, T_f56_4, T_p56_4, T_f56_5, T_p56_5]
  refine gcall_intro _ _ _ _ _ _ _ _ _ (sameInts_v s.Y hy) ?_
  simp -implicitDefEqProofs only [go_sem, Nat.reduceAdd, Nat.reduceMul, Nat.reduceEqDiff, Nat.reduceLT, Nat.reduceLeDiff, Nat.reduceSub, Nat.reduceBEq, reduceIte, reduceCtorEq, Int.reduceEq, Int.reduceNe, Nat.reduceBneDiff, Int.reduceLE, Int.reduceLT, Int.reduceToNat, Int.reduceAdd, Int.reduceSub, Int.reduceMul, Int.reduceNeg, T_ok3, T_agg3, T_isinfo3, T_info3, T_cells3, T_zero3, T_int3, T_ok36, T_agg36, T_isinfo36, T_info36, T_cells36, T_zero36, T_elem36, T_under36, T_len36s, T_len36n, T_len36b, T_ok56, T_agg56, T_isinfo56, T_info56, T_cells56, T_zero56, T_build56, T_f56_0, T_p56_0, T_f56_1, T_p56_1, T_f56_2, T_p56_2, T_f56_3, T_p56_3, T_f56_4, T_p56_4, T_f56_5, T_p56_5]
  refine gcall_intro _ _ _ _ _ _ _ _ _ (sameInts_v s.Z hz) ?_
  simp -implicitDefEqProofs only [go_sem, Nat.reduceAdd, Nat.reduceMul, Nat.reduceEqDiff, Nat.reduceLT, Nat.reduceLeDiff, Nat.reduceSub, Nat.reduceBEq, reduceIte, reduceCtorEq, Int.reduceEq, Int.reduceNe, Nat.reduceBneDiff, Int.reduceLE, Int.reduceLT, Int.reduceToNat, Int.reduceAdd, Int.reduceSub, Int.reduceMul, Int.reduceNeg, T_ok3, T_agg3, T_isinfo3, T_info3, T_cells3, T_zero3, T_int3, T_ok36, T_agg36, T_isinfo36, T_info36, T_cells36, T_zero36, T_elem36, T_under36, T_len36s, T_len36n, T_len36b, T_ok56, T_agg56, T_isinfo56, T_info56, T_cells56, T_zero56, T_build56, T_f56_0, T_p56_0, T_f56_1, T_p56_1, T_f56_2, T_p56_2, T_f56_3, T_p56_3, T_f56_4, T_p56_4, T_f56_5, T_p56_5]

/-- A path of which every coordinate has a length. -/
def fitSeg (s : Sky.Seg) : Prop := s.X.length ≤ maxLen ∧ s.Y.length ≤ maxLen ∧ s.Z.length ≤ maxLen
theorem same_v (p : List Sky.Seg) (hp : p.length ≤ maxLen) (hf : ∀ s ∈ p, fitSeg s) : SoundAt Try.prog 11 [pathPV p, pathPV p] (.bool true) := by
  refine sound_go (tb := []) 27 [.tmp 4] [0, 1, 4, 5, 10, 14, 26] mixed Try.func11 rfl (by kernel_rfl) (by kernel_rfl) (by kernel_rfl) (by kernel_rfl) ?_
  have hl' : ((p.length : Int) != (p.length : Int)) = false := by simp
  simp -implicitDefEqProofs only [go_sem, Nat.reduceAdd, Nat.reduceMul, Nat.reduceEqDiff, Nat.reduceLT, Nat.reduceLeDiff, Nat.reduceSub, Nat.reduceBEq, reduceIte, reduceCtorEq, Int.reduceEq, Int.reduceNe, Nat.reduceBneDiff, Int.reduceLE, Int.reduceLT, Int.reduceToNat, Int.reduceAdd, Int.reduceSub, Int.reduceMul, Int.reduceNeg, T_ok3, T_agg3, T_isinfo3, T_info3, T_cells3, T_zero3, T_int3, T_ok4, T_agg4, T_isinfo4, T_info4, T_cells4, T_zero4, T_bool4, T_ok25, T_agg25, T_isinfo25, T_info25, T_cells25, T_zero25, T_elem25, T_under25, T_len25s, T_len25n, T_len25b, T_ok36, T_agg36, T_isinfo36, T_info36, T_cells36, T_zero36, T_elem36, T_under36, T_len36s, T_len36n, T_len36b, T_ok56, T_agg56, T_isinfo56, T_info56, T_cells56, T_zero56, T_build56, T_f56_0, T_p56_0, T_f56_1, T_p56_1, T_f56_2, T_p56_2, T_f56_3, T_p56_3, T_f56_4, T_p56_4, T_f56_5, T_p56_5, pathPV, hl', List.length_map]
  refine g_loop mixed (fun k : { k : Nat // k ≤ p.length } => St.of [(0, pathPV p), (1, pathPV p), (4, .bool false), (5, .int .i64 k.1)] []) (fun k => p.length - k.1) ⟨0, by simp⟩ ?_ ?_
  · exact le_vars (by simp [varsLe, lkp, ren1, ren0, pathPV])
  · rintro ⟨k, hk⟩
    by_cases hlt : k < p.length
    · have h1 : ((k : Int) < (p.length : Int)) = True := by simp; omega
      have h0 : (0 ≤ (k : Int)) = True := by simp
      have ea : (p.map segPV)[k]? = some (.agg (segCells p[k])) := by simp [hlt, segPV]
      have hcl : (segCells p[k]).length = 6 := rfl
      have hct : (segCells p[k]).take 6 = segCells p[k] := rfl
      simp -implicitDefEqProofs only [go_sem, Nat.reduceAdd, Nat.reduceMul, Nat.reduceEqDiff, Nat.reduceLT, Nat.reduceLeDiff, Nat.reduceSub, Nat.reduceBEq, reduceIte, reduceCtorEq, Int.reduceEq, Int.reduceNe, Nat.reduceBneDiff, Int.reduceLE, Int.reduceLT, Int.reduceToNat, Int.reduceAdd, Int.reduceSub, Int.reduceMul, Int.reduceNeg, T_ok3, T_agg3, T_isinfo3, T_info3, T_cells3, T_zero3, T_int3, T_ok4, T_agg4, T_isinfo4, T_info4, T_cells4, T_zero4, T_bool4, T_ok25, T_agg25, T_isinfo25, T_info25, T_cells25, T_zero25, T_elem25, T_under25, T_len25s, T_len25n, T_len25b, T_ok36, T_agg36, T_isinfo36, T_info36, T_cells36, T_zero36, T_elem36, T_under36, T_len36s, T_len36n, T_len36b, T_ok56, T_agg56, T_isinfo56, T_info56, T_cells56, T_zero56, T_build56, T_f56_0, T_p56_0, T_f56_1, T_p56_1, T_f56_2, T_p56_2, T_f56_3, T_p56_3, T_f56_4, T_p56_4, T_f56_5, T_p56_5, pathPV, h1, h0, List.length_map, Int.toNat_natCast, ea, hcl, hct, List.drop_zero]
      obtain ⟨f1, f2, f3⟩ := hf p[k] (List.getElem_mem _)
      refine gcall_intro _ _ _ _ _ _ _ _ _ (sameSeg_v p[k] f1 f2 f3) ?_
      simp -implicitDefEqProofs only [go_sem, Nat.reduceAdd, Nat.reduceMul, Nat.reduceEqDiff, Nat.reduceLT, Nat.reduceLeDiff, Nat.reduceSub, Nat.reduceBEq, reduceIte, reduceCtorEq, Int.reduceEq, Int.reduceNe, Nat.reduceBneDiff, Int.reduceLE, Int.reduceLT, Int.reduceToNat, Int.reduceAdd, Int.reduceSub, Int.reduceMul, Int.reduceNeg, T_ok3, T_agg3, T_isinfo3, T_info3, T_cells3, T_zero3, T_int3, T_ok4, T_agg4, T_isinfo4, T_info4, T_cells4, T_zero4, T_bool4, T_ok25, T_agg25, T_isinfo25, T_info25, T_cells25, T_zero25, T_elem25, T_under25, T_len25s, T_len25n, T_len25b, T_ok36, T_agg36, T_isinfo36, T_info36, T_cells36, T_zero36, T_elem36, T_under36, T_len36s, T_len36n, T_len36b, T_ok56, T_agg56, T_isinfo56, T_info56, T_cells56, T_zero56, T_build56, T_f56_0, T_p56_0, T_f56_1, T_p56_1, T_f56_2, T_p56_2, T_f56_3, T_p56_3, T_f56_4, T_p56_4, T_f56_5, T_p56_5]
      refine ⟨drawQ_true _ _ (by kernel_rfl), ⟨k + 1, hlt⟩, by simp only; omega, ?_⟩
      rw [wrap_i64 (by omega) (by unfold maxLen at hp; omega)]
      exact le_vars (by simp [varsLe, lkp, ren1, ren0, pathPV])
    · have h1 : ((k : Int) < (p.length : Int)) = False := by simp; omega
      simp -implicitDefEqProofs only [go_sem, Nat.reduceAdd, Nat.reduceMul, Nat.reduceEqDiff, Nat.reduceLT, Nat.reduceLeDiff, Nat.reduceSub, Nat.reduceBEq, reduceIte, reduceCtorEq, Int.reduceEq, Int.reduceNe, Nat.reduceBneDiff, Int.reduceLE, Int.reduceLT, Int.reduceToNat, Int.reduceAdd, Int.reduceSub, Int.reduceMul, Int.reduceNeg, T_ok3, T_agg3, T_isinfo3, T_info3, T_cells3, T_zero3, T_int3, T_ok4, T_agg4, T_isinfo4, T_info4, T_cells4, T_zero4, T_bool4, T_ok25, T_agg25, T_isinfo25, T_info25, T_cells25, T_zero25, T_elem25, T_under25, T_len25s, T_len25n, T_len25b, T_ok36, T_agg36, T_isinfo36, T_info36, T_cells36, T_zero36, T_elem36, T_under36, T_len36s, T_len36n, T_len36b, T_ok56, T_agg56, T_isinfo56, T_info56, T_cells56, T_zero56, T_build56, T_f56_0, T_p56_0, T_f56_1, T_p56_1, T_f56_2, T_p56_2, T_f56_3, T_p56_3, T_f56_4, T_p56_4, T_f56_5, T_p56_5, pathPV, h1, List.length_map]
end Go.Proofs.Ytkajnimlfehmeaa

namespace Go.Vl
open Go.RowKit
theorem b_agge (P : Program) (t : TypeId) (xs ys : List PV) : binPV .eql t P (.agg xs) (.agg ys) = match eqShapeS P t with
    | some sh => match eqCells sh xs ys with
      | some b => some (.bool b)
      | none => none
    | none => none := by
  unfold binPV
  cases eqShapeS P t with
  | none => rfl
  | some sh => simp only; cases eqCells sh xs ys <;> rfl
theorem b_aggn (P : Program) (t : TypeId) (xs ys : List PV) : binPV .neq t P (.agg xs) (.agg ys) = match eqShapeS P t with
    | some sh => match eqCells sh xs ys with
      | some b => some (.bool !b)
      | none => none
    | none => none := by
  unfold binPV
  cases eqShapeS P t with
  | none => rfl
  | some sh => simp only; cases eqCells sh xs ys <;> rfl
attribute [go_sem] b_agge b_aggn
end Go.Vl
