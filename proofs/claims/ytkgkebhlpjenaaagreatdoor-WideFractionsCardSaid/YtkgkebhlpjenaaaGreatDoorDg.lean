/-
  UR, US, UV, ZTy, Dg (merged for the claim).
-/
import Derived.Test.YtkgkebhlpjenaaaGreatDoorUQ
import Derived.ProofKit
import Derived.Attr
import Derived.Test.YtkgkebhlpjenaaaGreatDoorProg
set_option linter.unusedSimpArgs false
set_option linter.unusedVariables false
namespace Go.Vl
open Go.RowKit

inductive TT where
  | bool
  | int (k : IntKind)
  | str
  | slc (e : TT)
  | agg (fs : List TT)

mutual
def TT.size : TT → Nat
  | .agg fs => TT.sizes fs
  | .bool | .int _ | .str | .slc _ => 1
def TT.sizes : List TT → Nat
  | [] => 0
  | f :: fs => f.size + TT.sizes fs
end

mutual
def TT.fits (P : Program) : TT → TypeId → Bool
  | .bool, t => match P.underlying t with
    | some .bool => true
    | _ => false
  | .int k, t => match P.underlying t with
    | some (.int k') => decide (k' = k)
    | _ => false
  | .str, t => match P.underlying t with
    | some .string => true
    | _ => false
  | .slc e, t => match P.underlying t with
    | some (.slice te) => e.fits P te && Nat.beq (P.cellsOf te) e.size && Nat.ble 1 e.size
    | _ => false
  | .agg fs, t => match P.underlying t with
    | some (.struct xs) => TT.fitsL P fs xs.toList 0 && Nat.beq (P.cellsOf t) (TT.sizes fs)
    | _ => false
def TT.fitsL (P : Program) : List TT → List Field → Nat → Bool
  | [], [], _ => true
  | f :: fs, x :: xs, off => f.fits P x.type && Nat.beq x.offset off && Nat.beq (P.cellsOf x.type) f.size && TT.fitsL P fs xs (off + f.size)
  | _, _, _ => false
end

def TT.mk : TT → List PV → PV
  | .agg _, cs => .agg cs
  | _, cs => cs.headD .undef

mutual
def HasTT : TT → List PV → Prop
  | .bool, cs => ∃ b, cs = [.bool b]
  | .int k, cs => ∃ n, cs = [.int k n] ∧ (Lit.int k n).wf = true
  | .str, cs => ∃ s : ByteArray, cs = [.str s] ∧ s.size ≤ maxLen
  | .slc e, cs => ∃ ess : List (List PV), cs = [.slc (ess.map e.mk)] ∧ ess.length ≤ maxLen ∧ ∀ c ∈ ess, HasTT e c
  | .agg fs, cs => HasTTs fs cs
def HasTTs : List TT → List PV → Prop
  | [], cs => cs = []
  | f :: fs, cs => ∃ a b, cs = a ++ b ∧ HasTT f a ∧ HasTTs fs b
end

theorem mk_cells {e : TT} {c : List PV} (h : HasTT e c) : (e.mk c).cells = c := by
  cases e with
  | bool => simp only [HasTT] at h; obtain ⟨b, rfl⟩ := h; rfl
  | int k => simp only [HasTT] at h; obtain ⟨b, rfl, _⟩ := h; rfl
  | str => simp only [HasTT] at h; obtain ⟨b, rfl, _⟩ := h; rfl
  | slc e => simp only [HasTT] at h; obtain ⟨b, rfl, _⟩ := h; rfl
  | agg fs => rfl

mutual
theorem HasTT.length : ∀ {e : TT} {c : List PV}, HasTT e c → c.length = e.size
  | .bool, c, h => by simp only [HasTT] at h; obtain ⟨b, rfl⟩ := h; simp [TT.size]
  | .int k, c, h => by simp only [HasTT] at h; obtain ⟨b, rfl, _⟩ := h; simp [TT.size]
  | .str, c, h => by simp only [HasTT] at h; obtain ⟨b, rfl, _⟩ := h; simp [TT.size]
  | .slc e, c, h => by simp only [HasTT] at h; obtain ⟨b, rfl, _⟩ := h; simp [TT.size]
  | .agg fs, c, h => by simp only [HasTT] at h; simp only [TT.size]; exact HasTTs.length h
theorem HasTTs.length : ∀ {fs : List TT} {c : List PV}, HasTTs fs c → c.length = TT.sizes fs
  | [], c, h => by simp only [HasTTs] at h; subst h; simp [TT.sizes]
  | f :: fs, c, h => by
    simp only [HasTTs] at h
    obtain ⟨a, b, rfl, h1, h2⟩ := h
    simp only [TT.sizes, List.length_append, h1.length, h2.length]
end

/-- Every cell that is there is to stay. -/
def exIm (w : World) : Im := fun g j => ∃ u, w.cell? ⟨g, j, none⟩ = some u

section
variable {H : Type} {enc : TypeId × Value → H} {P : Program} {w : World} {base : Nat} {held : Bool}

theorem rep_nothing {im : Im} {A : Option Addr} {c : Nat} (hm : c ≤ maxLen) : Rep w im (.slc []) (.slice A 0 c) := by
  cases A with
  | none => exact .slcNil c hm
  | some p => exact .slcE p c hm

mutual
theorem trod_rep : ∀ (tt : TT) (t : TypeId) (fuel : Nat) (cs : List Value) (x : DataW H × List MemPlace), tt.fits P t = true → DataW.trod enc P w base (fun _ => true) held fuel t cs = some x →
    ∃ pvs, RepL w (exIm w) pvs cs ∧ HasTT tt pvs
  | .bool, t, fuel, cs, x, hf, h => by
    simp only [TT.fits] at hf
    split at hf
    · rename_i ht
      obtain ⟨b, rfl, _⟩ := DataW.trod_bool ht h
      exact ⟨[.bool b], .cons _ _ _ _ (.bool b) .nil, by simp [HasTT]⟩
    · cases hf
  | .int k, t, fuel, cs, x, hf, h => by
    simp only [TT.fits] at hf
    split at hf
    · rename_i k' ht
      have hk : k' = k := of_decide_eq_true hf
      subst hk
      obtain ⟨n, rfl, _, hw⟩ := DataW.trod_int ht h
      exact ⟨[.int k' n], .cons _ _ _ _ (.int _ n) .nil, by simp [HasTT, hw]⟩
    · cases hf
  | .str, t, fuel, cs, x, hf, h => by
    simp only [TT.fits] at hf
    split at hf
    · rename_i ht
      obtain ⟨s, rfl, _, hs⟩ := DataW.trod_string ht h
      exact ⟨[.str s], .cons _ _ _ _ (.str s) .nil, by simp only [HasTT]; exact ⟨s, rfl, hs⟩⟩
    · cases hf
  | .slc e, t, fuel, cs, x, hf, h => by
    simp only [TT.fits] at hf
    split at hf
    · rename_i te ht
      simp only [Bool.and_eq_true] at hf
      obtain ⟨⟨hf1, hf2⟩, hf3⟩ := hf
      have hsz := Nat.eq_of_beq_eq_true hf2
      have hpos := Nat.le_of_ble_eq_true hf3
      rcases DataW.trod_slice ht h with ⟨rfl, _⟩ | ⟨a, len, cap, elems, rest, n, _, rfl, _, _, hl, hm, hlen, hel, _, _⟩
      · exact ⟨[.slc []], .cons _ _ _ _ (.slcNil 0 (Nat.zero_le _)) .nil, by simp only [HasTT]; exact ⟨[], rfl, Nat.zero_le _, by simp⟩⟩
      · rcases Nat.eq_zero_or_pos len with rfl | hpl
        · exact ⟨[.slc []], .cons _ _ _ _ (rep_nothing hm) .nil, by simp only [HasTT]; exact ⟨[], rfl, Nat.zero_le _, by simp⟩⟩
        · have each : ∀ i, i < len → ∃ ci pi, w.cells? base (a.add (i * e.size)) e.size = some ci ∧ RepL w (exIm w) pi ci ∧ HasTT e pi := by
            intro i hi
            have hi' := hel i hi
            rw [hsz] at hi'
            have hs : elems[i]? = some elems[i] := List.getElem?_eq_getElem (by omega)
            rw [hs, Option.bind_eq_some_iff] at hi'
            obtain ⟨ci, h1, h2⟩ := hi'
            obtain ⟨pi, h3, h4⟩ := trod_rep e te n ci _ hf1 h2
            exact ⟨ci, pi, h1, h3, h4⟩
          obtain ⟨g, off, rfl⟩ : ∃ g off, a = ⟨g, off, none⟩ := by
            obtain ⟨c0, p0, h1, h2, h3⟩ := each 0 hpl
            obtain ⟨_, hl0, hc0⟩ := World.cells?_some h1
            have h00 := hc0 0 (by omega)
            have : c0[0]? = some c0[0] := List.getElem?_eq_getElem (by omega)
            rw [this] at h00
            have hsp := World.cell?_spot h00
            simp [Addr.add] at hsp
            obtain ⟨g, off, sp⟩ := a
            simp at hsp
            subst hsp
            exact ⟨g, off, rfl⟩
          have hadd : ∀ j, (⟨g, off, none⟩ : Addr).add j = ⟨g, off + j, none⟩ := fun j => by unfold Addr.add; split <;> simp_all
          have build : ∀ k, k ≤ len → ∃ (ess : List (List PV)) (vs : List Value), ess.length = k ∧ vs.length = k * e.size ∧ RepL w (exIm w) ((ess.map e.mk).flatMap PV.cells) vs ∧ (∀ j, j < vs.length → w.cell? ⟨g, off + j, none⟩ = vs[j]?) ∧ ∀ c ∈ ess, HasTT e c := by
            intro k
            induction k with
            | zero => intro _; exact ⟨[], [], rfl, by simp, .nil, by simp, by simp⟩
            | succ k ih =>
              intro hk
              obtain ⟨ess, vs, e1, e2, e3, e4, e5⟩ := ih (by omega)
              obtain ⟨ci, pi, h1, h2, h3⟩ := each k hk
              obtain ⟨_, hl0, hc0⟩ := World.cells?_some h1
              refine ⟨ess ++ [pi], vs ++ ci, by simp [e1], by simp [e2, hl0, Nat.succ_mul], ?_, ?_, ?_⟩
              · simp only [List.map_append, List.map_cons, List.map_nil, List.flatMap_append, List.flatMap_cons, List.flatMap_nil, List.append_nil, mk_cells h3]
                exact e3.append h2
              · intro j hj
                by_cases hjv : j < vs.length
                · rw [List.getElem?_append_left hjv]; exact e4 j hjv
                · rw [List.getElem?_append_right (by omega)]
                  have hjc : j - vs.length < e.size := by simp at hj; omega
                  have := hc0 (j - vs.length) hjc
                  rw [hadd] at this
                  have hadd2 : (⟨g, off + k * e.size, none⟩ : Addr).add (j - vs.length) = ⟨g, off + k * e.size + (j - vs.length), none⟩ := by unfold Addr.add; split <;> simp_all
                  rw [hadd2] at this
                  rw [← this]
                  congr 2
                  omega
              · intro c hc
                rcases List.mem_append.1 hc with hc | hc
                · exact e5 c hc
                · simp at hc; subst hc; exact h3
          obtain ⟨ess, vs, e1, e2, e3, e4, e5⟩ := build len (Nat.le_refl _)
          refine ⟨[.slc (ess.map e.mk)], .cons _ _ _ _ ?_ .nil, by simp only [HasTT]; exact ⟨ess, rfl, by omega, e5⟩⟩
          refine .slc _ g off len cap e.size vs (by simpa using e1) (by omega) ?_ ?_ e4 e3 hl
          · intro x hx
            simp only [List.mem_map] at hx
            obtain ⟨c, hc, rfl⟩ := hx
            rw [mk_cells (e5 c hc)]
            exact (e5 c hc).length
          · intro j hj
            exact ⟨vs[j], by rw [e4 j hj, List.getElem?_eq_getElem hj]⟩
    · cases hf
  | .agg fs, t, fuel, cs, x, hf, h => by
    simp only [TT.fits] at hf
    split at hf
    · rename_i xs ht
      simp only [Bool.and_eq_true] at hf
      obtain ⟨hf1, hf2⟩ := hf
      obtain ⟨ys, n, rfl, _, hlen, hsz, hfl⟩ := DataW.trod_struct ht h
      have hall : ∀ (i : Nat) (f : Field), xs.toList[i]? = some f → ∃ y, DataW.trod enc P w base (fun _ => true) held n f.type ((cs.drop f.offset).take (P.cellsOf f.type)) = some y := by
        intro i f hi
        have hi' : xs[i]? = some f := by simpa using hi
        have := hfl i f hi'
        have hlt : i < ys.length := by rw [hsz]; exact (Array.getElem?_eq_some_iff.1 hi').1
        rw [List.getElem?_eq_getElem hlt] at this
        exact ⟨_, this⟩
      obtain ⟨pvs, h1, h2⟩ := trods_rep fs xs.toList 0 n cs hf1 hall (by rw [hlen, Nat.eq_of_beq_eq_true hf2]; simp)
      exact ⟨pvs, by simpa using h1, by simp only [HasTT]; exact h2⟩
    · cases hf
theorem trods_rep : ∀ (fs : List TT) (xs : List Field) (off n : Nat) (cs : List Value), TT.fitsL P fs xs off = true →
    (∀ (i : Nat) (f : Field), xs[i]? = some f → ∃ y, DataW.trod enc P w base (fun _ => true) held n f.type ((cs.drop f.offset).take (P.cellsOf f.type)) = some y) → cs.length = off + TT.sizes fs →
    ∃ pvs, RepL w (exIm w) pvs (cs.drop off) ∧ HasTTs fs pvs
  | [], [], off, n, cs, hf, h, hl => by
    simp only [TT.sizes] at hl
    refine ⟨[], ?_, by simp [HasTTs]⟩
    rw [List.drop_of_length_le (by omega)]
    exact .nil
  | [], _ :: _, _, _, _, hf, _, _ => by simp [TT.fitsL] at hf
  | _ :: _, [], _, _, _, hf, _, _ => by simp [TT.fitsL] at hf
  | f :: fs, x :: xs, off, n, cs, hf, h, hl => by
    simp only [TT.fitsL, Bool.and_eq_true] at hf
    obtain ⟨⟨⟨hf1, hf2⟩, hf3⟩, hf4⟩ := hf
    have e2 := Nat.eq_of_beq_eq_true hf2
    have e3 := Nat.eq_of_beq_eq_true hf3
    simp only [TT.sizes] at hl
    obtain ⟨y, hy⟩ := h 0 x (by simp)
    rw [e2, e3] at hy
    obtain ⟨a, h1, h2⟩ := trod_rep f x.type n _ y hf1 hy
    obtain ⟨b, h3, h4⟩ := trods_rep fs xs (off + f.size) n cs hf4 (fun i f hi => h (i + 1) f (by simpa using hi)) (by omega)
    refine ⟨a ++ b, ?_, by simp only [HasTTs]; exact ⟨a, b, rfl, h2, h4⟩⟩
    have : cs.drop off = (cs.drop off).take f.size ++ cs.drop (off + f.size) := by
      rw [← List.drop_drop, List.take_append_drop]
    rw [this]
    exact h1.append h3
end
end
end Go.Vl

namespace Go.Vl
open Go.RowKit

section
variable {H : Type} {enc : TypeId × Value → H} {P : Program} {W W' : World}

/-- One argument. -/
theorem arg_rep {tt : TT} {t : TypeId} {v : Value} {d : DataW H} {ps : List MemPlace} {b : Nat} (hf : tt.fits P t = true) (hok : Value.okWide P W .any b t v) (h : DataW.Trod enc P W 0 (fun _ => true) true t v d ps) :
    ∃ cs, HasTT tt cs ∧ Rep W (exIm W) (tt.mk cs) v := by
  obtain ⟨fuel, h⟩ := h
  obtain ⟨pvs, h1, h2⟩ := trod_rep tt t fuel _ _ hf h
  refine ⟨pvs, h2, ?_⟩
  have single : v.cells = #[v] → (∀ fs, tt ≠ .agg fs) → Rep W (exIm W) (tt.mk pvs) v := by
    intro hv hn
    rw [hv] at h1
    have hl := h1.length
    match pvs, hl with
    | [p], _ =>
      cases h1 with
      | cons _ _ _ _ h t =>
        cases tt with
        | agg fs => exact absurd rfl (hn fs)
        | _ => exact h
  cases tt with
  | bool =>
    simp only [TT.fits] at hf
    split at hf
    · rename_i ht; obtain ⟨x, rfl⟩ := WideShapes.okWide_bool ht hok; exact single rfl (by simp)
    · cases hf
  | int k =>
    simp only [TT.fits] at hf
    split at hf
    · rename_i ht; obtain ⟨x, rfl⟩ := WideShapes.okWide_int ht hok; exact single rfl (by simp)
    · cases hf
  | str =>
    simp only [TT.fits] at hf
    split at hf
    · rename_i ht; obtain ⟨x, rfl⟩ := WideShapes.okWide_string ht hok; exact single rfl (by simp)
    · cases hf
  | slc e =>
    simp only [TT.fits] at hf
    split at hf
    · rename_i te ht; obtain ⟨x, y, z, rfl⟩ := WideShapes.okWide_slice ht hok; exact single rfl (by simp)
    · cases hf
  | agg fs =>
    simp only [TT.fits] at hf
    split at hf
    · rename_i xs ht
      obtain ⟨cs, rfl, _⟩ := WideShapes.okWide_struct ht hok
      have := Rep.agg pvs _ h1
      simp only [Value.cells, Array.toArray_toList] at this
      exact this
    · cases hf

/-- What a law takes: values of its parameters' shapes. -/
def HasArgs : List TT → List PV → Prop
  | [], vs => vs = []
  | t :: ts, vs => ∃ c rest, vs = t.mk c :: rest ∧ HasTT t c ∧ HasArgs ts rest
def fitsAll (P : Program) : List TT → List TypeId → Bool
  | [], [] => true
  | tt :: tts, t :: ts => tt.fits P t && fitsAll P tts ts
  | _, _ => false

theorem args_rep {b : Nat} : ∀ (tts : List TT) (ts : List TypeId) (vs : List Value) (ds : List (DataW H)) (ps : List MemPlace), fitsAll P tts ts = true → (∀ (j : Nat) t v, ts[j]? = some t → vs[j]? = some v → Value.okWide P W .any b t v) →
    DataW.TrodAll enc P W 0 (fun _ => true) true ts vs ds ps → ∃ pvs, HasArgs tts pvs ∧ RepL W (exIm W) pvs vs ∧ ds.length = tts.length
  | [], [], [], [], _, _, _, _ => ⟨[], rfl, .nil, rfl⟩
  | tt :: tts, t :: ts, v :: vs, d :: ds, ps, hf, hok, h => by
    simp only [fitsAll, Bool.and_eq_true] at hf
    obtain ⟨p, q, h1, h2, _⟩ := h
    obtain ⟨c, h3, h4⟩ := arg_rep hf.1 (hok 0 t v rfl rfl) h1
    obtain ⟨pvs, h5, h6, h7⟩ := args_rep tts ts vs ds q hf.2 (fun j t v e1 e2 => hok (j + 1) t v (by simpa using e1) (by simpa using e2)) h2
    exact ⟨tt.mk c :: pvs, ⟨c, pvs, rfl, h3, h5⟩, .cons _ _ _ _ h4 h6, by simp [h7]⟩
  | [], _ :: _, _, _, _, hf, _, _ => by simp [fitsAll] at hf
  | _ :: _, [], _, _, _, hf, _, _ => by simp [fitsAll] at hf
  | [], [], [], _ :: _, _, _, _, h => h.elim
  | [], [], _ :: _, _, _, _, _, h => h.elim
  | _ :: _, _ :: _, [], _, _, _, _, h => h.elim
  | _ :: _, _ :: _, _ :: _, [], _, _, _, h => h.elim

theorem trodAll_stays {sp : Nat → Bool} (hl : laidOutB P = true) (hb : Below W.heap.size W W') : ∀ (ts : List TypeId) (vs : List Value) (ds : List (DataW H)) (ps : List MemPlace), (∀ t ∈ ts, P.readableRec t = true ∧ t < P.types.size) →
    DataW.TrodAll enc P W 0 (fun _ => true) true ts vs ds ps → (∀ p ∈ ps, p.block < W.heap.size) → (∀ p ∈ ps, sp p.block = true) → DataW.TrodAll enc P W' 0 sp true ts vs ds ps
  | [], [], [], _, _, h, _, _ => h
  | t :: ts, v :: vs, d :: ds, ps, ht, ⟨p, q, h1, h2, e⟩, hlt, hs => by
    subst e
    refine ⟨p, q, ?_, trodAll_stays hl hb ts vs ds q (fun t h => ht t (List.mem_cons_of_mem _ h)) h2 (fun x hx => hlt x (List.mem_append_right _ hx)) (fun x hx => hs x (List.mem_append_right _ hx)), rfl⟩
    exact WideElems.Trod_stays hl (ht t (by simp)).1 (ht t (by simp)).2 h1 (fun x hx => hb.same (hlt x (List.mem_append_left _ hx))) (fun x hx => hs x (List.mem_append_left _ hx))
  | [], [], _ :: _, _, _, h, _, _ => h.elim
  | [], _ :: _, _, _, _, h, _, _ => h.elim
  | _ :: _, [], _, _, _, h, _, _ => h.elim
  | _ :: _, _ :: _, [], _, _, h, _, _ => h.elim

/-- A law that answers true and changes nothing that was there. -/
theorem post_of_law {fn : Func} {s : ChangeSpec} {apart fresh handsOn again : Bool} {args : Array Value} {ds gs : List (DataW H)} {before : List MemPlace} {tb : TypeId} (hl : laidOutB P = true) (hvars : s.vars = []) (hres : fn.resultTypes = #[tb])
    (hbool : P.underlying tb = some .bool) (hts : ∀ t ∈ fn.params.toList, P.readableRec t = true ∧ t < P.types.size) (hW : DataW.Whole enc P fn.params.toList s.vars apart W args.toList ds gs before)
    (hs : s.fn H (ds ++ gs) = { results := [.lit (.bool true)], args := ds }) (hb : Below W.heap.size W W') : s.post enc P fn apart fresh handsOn again W args (.bool true) W' := by
  have hlt := hW.lt
  have hW' := hW
  obtain ⟨p, q, hA, hV, rfl, hz, hn⟩ := hW
  rw [hvars] at hV
  obtain ⟨rfl, rfl⟩ := ChangeShapes.trodVars_none hV
  have hargs : ∀ sp : Nat → Bool, (∀ x ∈ p, sp x.block = true) → DataW.TrodAll enc P W' 0 sp true fn.params.toList args.toList ds p := fun sp hsp =>
    trodAll_stays hl hb _ _ _ _ hts hA (fun x hx => hlt x (by simpa using hx)) hsp
  have hres' : ∀ (b : Nat) (sp : Nat → Bool) (hd : Bool), DataW.TrodAll enc P W' b sp hd fn.resultTypes.toList ((Value.bool true).resultList fn.resultTypes.size) [.lit (.bool true)] [] := by
    intro b sp hd
    rw [hres]
    exact ChangeShapes.trodAll_mk1 (shut_bool hbool true)
  have hok : ∀ (j : Nat) (t : TypeId) (r : Value), fn.resultTypes[j]? = some t → ((Value.bool true).resultList fn.resultTypes.size)[j]? = some r → Value.okWide P W' .any 0 t r := ok_one hres rfl (okWide_bool_mk hbool true)
  have hvs : ∀ sp : Nat → Bool, DataW.TrodVars enc P W' sp s.vars [] [] := fun sp => by rw [hvars]; rfl
  refine ⟨ds, [], p ++ [], [], p, [], hW', ?_, ?_, ?_, ?_, fun _ => ⟨hok, [.lit (.bool true)] ++ ds, [], ([] ++ p) ++ [], ⟨[] ++ p, [], ?_, hvs _, rfl, ?_, ?_⟩, ?_⟩⟩
  · rw [hs]; exact hres' _ _ _
  · rw [hs]; exact hargs _ fun x hx => by simpa using hlt x (by simpa using hx)
  · rw [hs]; exact hvs _
  · exact World.keptBut_mono (fun _ f => f.elim) (hb.frame fun _ => False)
  · exact ChangeShapes.trodAll_append (hargs _ fun _ _ => rfl) (hres' _ _ _)
  · intro b off hp
    have hp' : MemPlace.cell b off ∈ p := by simpa using hp
    have := hz b off (by simpa using hp')
    have hlt' := hlt _ (show MemPlace.cell b off ∈ p ++ [] by simpa using hp')
    rw [← this]
    exact hb.frozen hlt'
  · intro ha
    have := hn ha
    simpa using this
  · intro x hx _
    simpa using hx

/-- A law, over all that it can be given. -/
theorem law_lifted {a : Assume} {C : Checked} {os : Os} {f : FuncId} {fn : Func} {s : ChangeSpec} {conds : List PathCond} {apart fresh handsOn again : Bool} {tb : TypeId} (tts : List TT)
    (own : ownKnob C.prog.godebug = none) (started : os.Started) (noInit : C.prog.inits.idxOf? f = none) (hfn : C.prog.funcs[f]? = some fn)
    (witness : ∃ (w : World) (tape : Tape) (i : Input), w.os = os ∧ (w.forCall tape i).Shaped C.prog ∧ i.vars = [] ∧ Input.okWide C.prog (w.forCall tape i) .any w.heap.size f i ∧
      s.pre6 enc C.prog fn conds apart (w.forCall tape i).memory i.args ∧ a.holds C.prog (lone (Frame.enter C.prog f i.args .normal) [] (w.forCall tape i)))
    (hl : laidOutB C.prog = true) (hvars : s.vars = []) (hres : fn.resultTypes = #[tb]) (hbool : C.prog.underlying tb = some .bool) (hts : (fn.params.toList.all fun t => C.prog.readableRec t && decide (t < C.prog.types.size)) = true)
    (hfit : fitsAll C.prog tts fn.params.toList = true) (hs : ∀ ds : List (DataW H), ds.length = tts.length → s.fn H ds = { results := [.lit (.bool true)], args := ds })
    (hcl : callable C.prog f = true) (hnv : C.prog.globalNamed powName = none) (law : ∀ pvs, HasArgs tts pvs → SoundAt C.prog f pvs (.bool true)) :
    ReturnsInHanded a C os f .any (s.pre6 enc C.prog fn conds apart) (s.post enc C.prog fn apart fresh handsOn again) := by
  refine returnsInHanded_of_change own started noInit hfn witness ?_
  intro W base args ds gs before hval hW _ _
  have hW' := hW
  obtain ⟨p, q, hA, hV, rfl, hz, hn⟩ := hW
  rw [hvars] at hV
  obtain ⟨rfl, rfl⟩ := ChangeShapes.trodVars_none hV
  obtain ⟨pvs, h1, h2, h3⟩ := args_rep tts fn.params.toList args.toList ds p hfit (fun j t v e1 e2 => hval j t v (by simpa using e1) (by simpa using e2)) hA
  have hts' : ∀ t ∈ fn.params.toList, C.prog.readableRec t = true ∧ t < C.prog.types.size := by
    intro t ht
    have := List.all_eq_true.1 hts t ht
    simpa using this
  have hcall := ((law pvs h1).resolve_right (fun x => by rw [hcl] at x; cases x.1)).2 W (exIm W) args.toList W.heap.size (Nat.le_refl _) (fun g hg => by rw [hnv] at hg; cases hg) h2 (fun g j x => x)
  refine (by simpa using hcall : Calls C.prog f args W _).mono ?_
  rintro e W' ⟨v, rfl, hb, hr⟩
  have hv : v = .bool true := by cases hr; rfl
  subst hv
  exact ⟨_, rfl, post_of_law hl hvars hres hbool hts' hW' (by rw [List.append_nil]; exact hs ds h3) hb⟩
end
end Go.Vl

namespace Go.Vl
theorem rng_1 : List.range 1 = [0] := rfl
theorem rng_2 : List.range 2 = [0, 1] := rfl
theorem rng_3 : List.range 3 = [0, 1, 2] := rfl
theorem rng_4 : List.range 4 = [0, 1, 2, 3] := rfl
theorem rng_5 : List.range 5 = [0, 1, 2, 3, 4] := rfl
theorem rng_6 : List.range 6 = [0, 1, 2, 3, 4, 5] := rfl
theorem rng_7 : List.range 7 = [0, 1, 2, 3, 4, 5, 6] := rfl
theorem rng_8 : List.range 8 = [0, 1, 2, 3, 4, 5, 6, 7] := rfl
section
variable (cs : List PV) (b : Bool) (k : IntKind) (n : Int) (s : ByteArray) (e i o l : Nat) (f : FuncId) (a c : List PV)
theorem c_agg : (PV.agg cs).cells = cs := rfl
theorem c_bool : (PV.bool b).cells = [.bool b] := rfl
theorem c_int : (PV.int k n).cells = [.int k n] := rfl
theorem c_str : (PV.str s).cells = [.str s] := rfl
theorem c_nilS : PV.nilS.cells = [.nilS] := rfl
theorem c_nilF : PV.nilF.cells = [.nilF] := rfl
theorem c_nilI : PV.nilI.cells = [.nilI] := rfl
theorem c_slc : (PV.slc cs).cells = [.slc cs] := rfl
theorem c_tup : (PV.tup cs).cells = [.tup cs] := rfl
theorem c_rp : (PV.rp cs).cells = [.rp cs] := rfl
theorem c_bp : (PV.bp e i o l).cells = [.bp e i o l] := rfl
theorem c_bs : (PV.bs e i o l).cells = [.bs e i o l] := rfl
theorem c_fn : (PV.fn f a c).cells = [.fn f a c] := rfl
theorem k_agg : (PV.agg cs).okCell = false := rfl
theorem k_bool : (PV.bool b).okCell = true := rfl
theorem k_int : (PV.int k n).okCell = true := rfl
theorem k_str : (PV.str s).okCell = true := rfl
theorem k_nilS : PV.nilS.okCell = true := rfl
theorem k_nilF : PV.nilF.okCell = true := rfl
theorem k_nilI : PV.nilI.okCell = true := rfl
theorem k_slc : (PV.slc cs).okCell = true := rfl
theorem k_tup : (PV.tup cs).okCell = false := rfl
theorem k_rp : (PV.rp cs).okCell = true := rfl
theorem k_bp : (PV.bp e i o l).okCell = true := rfl
theorem k_bs : (PV.bs e i o l).okCell = true := rfl
theorem k_fn : (PV.fn f a c).okCell = true := rfl
end
attribute [go_sem] c_agg c_bool c_int c_str c_nilS c_nilF c_nilI c_slc c_tup c_rp c_bp c_bs c_fn k_agg k_bool k_int k_str k_nilS k_nilF k_nilI k_slc k_tup k_rp k_bp k_bs k_fn Int.toNat_natCast Int.toNat_zero Int.le_refl
theorem o_call0 (P : Program) (id : Nat) (bx : Bx) (fo : Operand) (xs0 : Array Operand) (ts : Array TypeId) (f : FuncId) (first cap args : List PV) : opVal P [] id (.call ⟨.value fo, xs0, ts⟩) (.fn f first cap :: args) bx =
    M.bind (escCL first) (fun x => .bind (esc1L args) fun y => .bind (escCL cap) fun z => .pure (.call f (x.1 ++ y.1 ++ z.1) (x.2 ++ y.2 ++ z.2))) bx := rfl
attribute [go_sem] o_call0
theorem toArr_none : (none : Option Operand).toArray = #[] := rfl
theorem toArr_some (x : Operand) : (some x).toArray = #[x] := rfl
attribute [go_sem] toArr_none toArr_some List.range_zero Nat.le_refl Nat.zero_le
attribute [go_sem] g_nil g_blk g_again g_skip g_label g_seq g_block g_exit gexit_blk gexit_code gexit_again gexit_nil
attribute [go_sem] g_ret g_cond gcond_true gcond_false g_region gops_nil gops_cons gwanted_false gwanted_true gvals_some gout_done gout_call
attribute [go_sem] gout_callB gout_yield gland_some drawQ_false vret_ret vret_normal backB_some o_move o_assign o_nilCheck_bp o_nilCheck_rp o_nilCheck_fn
attribute [go_sem] o_pick_t o_pick_f o_alloc o_box o_build o_buildSlice o_load_bp o_load_rp o_store o_bin o_not o_neg
attribute [go_sem] o_conv o_makeFunc o_makeSlice o_slice0 o_slice1 o_slice2 o_slice3 o_fieldAddr_bp o_fieldAddr_rp o_field o_indexAddr_bp o_indexAddr_rp
attribute [go_sem] o_indexAddr_bs o_indexAddr_slc o_index_agg o_index_str o_extract o_len o_append o_max o_min o_call o_lend o_copy
attribute [go_sem] o_clear o_yld b_add b_sub b_mul b_quo b_rem b_and b_or b_eql b_neq b_lss
attribute [go_sem] b_leq b_gtr b_geq b_shl b_shr b_str b_beq b_bne dstOk wantedPV guardTmp St.evs
attribute [go_sem] St.ev Op.operands Call.operands M.bind M.pure M.ofOpt M.ok M.soft M.hard of_put of_put_none of_var
attribute [go_sem] of_box of_setBox of_keep keepVars lkp constPV constCell constCells initVars effsOn_nil effsOn_cons Eff.on
attribute [go_sem] effAcc Eff.id Eff.hard resPV resCells resCell tupOf esc0 escL escC escCL esc1
attribute [go_sem] esc1L partPV Vl.newVar okCells    PV.putCells PV.one flatPV flat1 flat0 Box.soft
attribute [go_sem] List.toList_toArray List.getElem?_toArray List.getElem?_cons_zero List.getElem?_cons_succ Option.bind_some Option.map_some Option.bind_none Option.map_none List.map_cons List.map_nil List.append_nil List.nil_append
attribute [go_sem] List.cons_append decide_true decide_false if_true if_false true_and and_true Bool.and_true Bool.true_and Bool.and_self beq_self_eq_true List.all_cons
attribute [go_sem] List.all_nil List.length_cons List.length_nil Nat.zero_add Nat.add_zero Nat.zero_mul List.drop_zero List.contains_cons gt_iff_lt ge_iff_le Option.isNone_none Option.isNone_some
attribute [go_sem] Array.toList_empty Array.append_empty Array.empty_append List.size_toArray List.take_zero List.push_toArray List.append_toArray Option.isSome_some Option.isSome_none List.drop_succ_cons List.take_succ_cons List.take_nil
attribute [go_sem] List.drop_nil List.getElem_cons_zero List.getElem_cons_succ Nat.not_lt_zero Bool.false_eq_true Bool.true_eq_false not_true_eq_false not_false_eq_true if_neg Nat.lt_irrefl Bool.not_true Bool.not_false
attribute [go_sem] Bool.and_false Bool.false_and Bool.or_false Bool.or_true Bool.false_or Bool.true_or List.flatMap_cons List.flatMap_nil List.set_cons_zero List.set_cons_succ beq_true beq_false
attribute [go_sem] Bool.true_beq Bool.false_beq eq_self Bool.not_not ite_self ne_eq of_yld of_out of_yl slicePV boundsPV appendPV
attribute [go_sem] fillPV minMax shiftInt convM convPV isBytes copyPV clearPV Box.over eqCells lendCall lendL
attribute [go_sem] lend1 lentBoxes freeIds okMap rlk land landBoxes ren0 ren0L ren1 ren1L ren2
attribute [go_sem] flatB flatr flatr0 flatr1 flatc extCell Box.ext LENT YID List.zip_cons_cons List.zip_nil_left List.zip_nil_right
attribute [go_sem] b_nilnil b_slcnil b_bsnil nilCmp List.isEmpty_cons List.isEmpty_map
attribute [go_sem] rng_1 rng_2 rng_3 rng_4 rng_5 rng_6 rng_7 rng_8 Option.getD_some Option.getD_none

section
variable {vs vs' : List (Nat × PV)} {bs bs' : List (Nat × Box)} {o : List (List PV)} {y : Option (Nat × Nat)}
theorem le_nilG (t b esz : Nat) (ety : TypeId) (hbL : Nat.blt b LENT = true) (ht : lkp vs t = some .nilS) (hb : lkp bs b = none) (hz : 0 < esz) :
    Le (St.ofG vs bs o y) (St.ofG ((t, .bs b esz 0 0) :: vs) ((b, { els := [], esz := esz, ety := ety, fro := 0, live := true, arr := true }) :: bs) o y) := le_nil hbL ht hb hz
/-- A loop is come to with a slice that is nil. -/
theorem le_nil1 (t b esz : Nat) (ety : TypeId) (hbL : Nat.blt b LENT = true) (ht : lkp vs t = some .nilS) (hb : lkp bs b = none) (hz : 0 < esz) (θ : List (Nat × Nat)) (hθ : okTheta θ bs' = true)
    (hv : varsLe θ ((t, .bs b esz 0 0) :: vs) vs') (hbx : boxesLe θ ((b, { els := [], esz := esz, ety := ety, fro := 0, live := true, arr := true }) :: bs) bs') : Le (St.ofG vs bs o y) (St.ofG vs' bs' o y) :=
  (le_nilG t b esz ety hbL ht hb hz).trans (le_of hθ hv hbx)
end
end Go.Vl

namespace Go.Proofs.YtkgkebhlpjenaaaGreatDoor
open Go.Vl

theorem mixed : Tryz.prog.follows .mixedOrders = true := by kernel_rfl
theorem T_ok2 : tyOk Tryz.prog 2 = true := by kernel_rfl
theorem T_agg2 : tyAgg Tryz.prog 2 = false := by kernel_rfl
theorem T_isinfo2 : (Tryz.prog.info? 2).isSome = true := by kernel_rfl
theorem T_info2 : tyInfo Tryz.prog 2 = some (1, 8) := by kernel_rfl
theorem T_cells2 : Tryz.prog.cellsOf 2 = 1 := by kernel_rfl
theorem T_zero2 : zeroPV Tryz.prog 2 = some (PV.int IntKind.i64 0) := by kernel_rfl
theorem T_int2 : Tryz.prog.underlying 2 = some (.int .i64) := by kernel_rfl
theorem T_ok3 : tyOk Tryz.prog 3 = true := by kernel_rfl
theorem T_agg3 : tyAgg Tryz.prog 3 = false := by kernel_rfl
theorem T_isinfo3 : (Tryz.prog.info? 3).isSome = true := by kernel_rfl
theorem T_info3 : tyInfo Tryz.prog 3 = some (1, 8) := by kernel_rfl
theorem T_cells3 : Tryz.prog.cellsOf 3 = 1 := by kernel_rfl
theorem T_zero3 : zeroPV Tryz.prog 3 = some (PV.int IntKind.i64 0) := by kernel_rfl
theorem T_int3 : Tryz.prog.underlying 3 = some (.int .i64) := by kernel_rfl
theorem T_ok4 : tyOk Tryz.prog 4 = true := by kernel_rfl
theorem T_agg4 : tyAgg Tryz.prog 4 = false := by kernel_rfl
theorem T_isinfo4 : (Tryz.prog.info? 4).isSome = true := by kernel_rfl
theorem T_info4 : tyInfo Tryz.prog 4 = some (1, 1) := by kernel_rfl
theorem T_cells4 : Tryz.prog.cellsOf 4 = 1 := by kernel_rfl
theorem T_zero4 : zeroPV Tryz.prog 4 = some (PV.bool Bool.false) := by kernel_rfl
theorem T_bool4 : Tryz.prog.underlying 4 = some .bool := by kernel_rfl
theorem T_ok5 : tyOk Tryz.prog 5 = true := by kernel_rfl
theorem T_agg5 : tyAgg Tryz.prog 5 = false := by kernel_rfl
theorem T_isinfo5 : (Tryz.prog.info? 5).isSome = true := by kernel_rfl
theorem T_info5 : tyInfo Tryz.prog 5 = some (1, 1) := by kernel_rfl
theorem T_cells5 : Tryz.prog.cellsOf 5 = 1 := by kernel_rfl
theorem T_zero5 : zeroPV Tryz.prog 5 = some (PV.int IntKind.u8 0) := by kernel_rfl
theorem T_int5 : Tryz.prog.underlying 5 = some (.int .u8) := by kernel_rfl
theorem T_ok9 : tyOk Tryz.prog 9 = true := by kernel_rfl
theorem T_agg9 : tyAgg Tryz.prog 9 = false := by kernel_rfl
theorem T_isinfo9 : (Tryz.prog.info? 9).isSome = true := by kernel_rfl
theorem T_info9 : tyInfo Tryz.prog 9 = some (1, 16) := by kernel_rfl
theorem T_cells9 : Tryz.prog.cellsOf 9 = 1 := by kernel_rfl
theorem T_zero9 : zeroPV Tryz.prog 9 = some (PV.str { data := { toList := [] } }) := by kernel_rfl
theorem T_str9 : Tryz.prog.underlying 9 = some .string := by kernel_rfl
theorem T_len9t (s : ByteArray) : lenPV Tryz.prog 9 (.str s) = some (.int .i64 s.size) := by simp only [lenPV, T_str9]
theorem T_ok21 : tyOk Tryz.prog 21 = true := by kernel_rfl
theorem T_agg21 : tyAgg Tryz.prog 21 = false := by kernel_rfl
theorem T_isinfo21 : (Tryz.prog.info? 21).isSome = true := by kernel_rfl
theorem T_info21 : tyInfo Tryz.prog 21 = some (1, 4) := by kernel_rfl
theorem T_cells21 : Tryz.prog.cellsOf 21 = 1 := by kernel_rfl
theorem T_zero21 : zeroPV Tryz.prog 21 = some (PV.int IntKind.i32 0) := by kernel_rfl
theorem T_int21 : Tryz.prog.underlying 21 = some (.int .i32) := by kernel_rfl
theorem T_ok23 : tyOk Tryz.prog 23 = true := by kernel_rfl
theorem T_agg23 : tyAgg Tryz.prog 23 = true := by kernel_rfl
theorem T_isinfo23 : (Tryz.prog.info? 23).isSome = true := by kernel_rfl
theorem T_info23 : tyInfo Tryz.prog 23 = some (2, 24) := by kernel_rfl
theorem T_cells23 : Tryz.prog.cellsOf 23 = 2 := by kernel_rfl
theorem T_zero23 : zeroPV Tryz.prog 23 = some (PV.agg [PV.bool Bool.false, PV.str { data := { toList := [] } }]) := by kernel_rfl
theorem T_build23 : buildable Tryz.prog 23 = true := by kernel_rfl
theorem T_f23_0 : tyField Tryz.prog 23 0 = some (0, 4, 1) := by kernel_rfl
theorem T_p23_0 : placePV Tryz.prog 23 0 = some (0, 1) := by kernel_rfl
theorem T_f23_1 : tyField Tryz.prog 23 1 = some (1, 9, 1) := by kernel_rfl
theorem T_p23_1 : placePV Tryz.prog 23 1 = some (1, 1) := by kernel_rfl
theorem T_eqs23 : eqShapeS Tryz.prog 23 = some [0, 2] := by kernel_rfl
theorem T_ok26 : tyOk Tryz.prog 26 = true := by kernel_rfl
theorem T_agg26 : tyAgg Tryz.prog 26 = false := by kernel_rfl
theorem T_isinfo26 : (Tryz.prog.info? 26).isSome = true := by kernel_rfl
theorem T_info26 : tyInfo Tryz.prog 26 = some (1, 8) := by kernel_rfl
theorem T_cells26 : Tryz.prog.cellsOf 26 = 1 := by kernel_rfl
theorem T_zero26 : zeroPV Tryz.prog 26 = some (PV.int IntKind.i64 0) := by kernel_rfl
theorem T_int26 : Tryz.prog.underlying 26 = some (.int .i64) := by kernel_rfl
theorem T_ok29 : tyOk Tryz.prog 29 = true := by kernel_rfl
theorem T_agg29 : tyAgg Tryz.prog 29 = false := by kernel_rfl
theorem T_isinfo29 : (Tryz.prog.info? 29).isSome = true := by kernel_rfl
theorem T_info29 : tyInfo Tryz.prog 29 = some (1, 24) := by kernel_rfl
theorem T_cells29 : Tryz.prog.cellsOf 29 = 1 := by kernel_rfl
theorem T_zero29 : zeroPV Tryz.prog 29 = some PV.nilS := by kernel_rfl
theorem T_elem29 : tyElem Tryz.prog 29 = some 3 := by kernel_rfl
theorem T_under29 : Tryz.prog.underlying 29 = some (.slice 3) := by kernel_rfl
theorem T_len29s (es : List PV) : lenPV Tryz.prog 29 (.slc es) = some (.int .i64 es.length) := by simp only [lenPV, T_under29]
theorem T_len29n  : lenPV Tryz.prog 29 .nilS = some (.int .i64 0) := by simp only [lenPV, T_under29]
theorem T_len29b (b e o n : Nat) : lenPV Tryz.prog 29 (.bs b e o n) = some (.int .i64 n) := by simp only [lenPV, T_under29]
theorem T_ok31 : tyOk Tryz.prog 31 = true := by kernel_rfl
theorem T_agg31 : tyAgg Tryz.prog 31 = true := by kernel_rfl
theorem T_isinfo31 : (Tryz.prog.info? 31).isSome = true := by kernel_rfl
theorem T_info31 : tyInfo Tryz.prog 31 = some (2, 32) := by kernel_rfl
theorem T_cells31 : Tryz.prog.cellsOf 31 = 2 := by kernel_rfl
theorem T_zero31 : zeroPV Tryz.prog 31 = some (PV.agg [PV.bool Bool.false, PV.nilS]) := by kernel_rfl
theorem T_build31 : buildable Tryz.prog 31 = true := by kernel_rfl
theorem T_f31_0 : tyField Tryz.prog 31 0 = some (0, 4, 1) := by kernel_rfl
theorem T_p31_0 : placePV Tryz.prog 31 0 = some (0, 1) := by kernel_rfl
theorem T_f31_1 : tyField Tryz.prog 31 1 = some (1, 29, 1) := by kernel_rfl
theorem T_p31_1 : placePV Tryz.prog 31 1 = some (1, 1) := by kernel_rfl
theorem T_ok42 : tyOk Tryz.prog 42 = true := by kernel_rfl
theorem T_agg42 : tyAgg Tryz.prog 42 = true := by kernel_rfl
theorem T_isinfo42 : (Tryz.prog.info? 42).isSome = true := by kernel_rfl
theorem T_info42 : tyInfo Tryz.prog 42 = some (4, 48) := by kernel_rfl
theorem T_cells42 : Tryz.prog.cellsOf 42 = 4 := by kernel_rfl
theorem T_zero42 : zeroPV Tryz.prog 42 = some (PV.agg [PV.bool Bool.false, PV.str { data := { toList := [] } }, PV.bool Bool.false, PV.str { data := { toList := [] } }]) := by kernel_rfl
theorem T_build42 : buildable Tryz.prog 42 = true := by kernel_rfl
theorem T_f42_0 : tyField Tryz.prog 42 0 = some (0, 23, 2) := by kernel_rfl
theorem T_p42_0 : placePV Tryz.prog 42 0 = some (0, 2) := by kernel_rfl
theorem T_f42_1 : tyField Tryz.prog 42 1 = some (2, 23, 2) := by kernel_rfl
theorem T_p42_1 : placePV Tryz.prog 42 1 = some (2, 2) := by kernel_rfl
theorem T_eqs42 : eqShapeS Tryz.prog 42 = some [0, 2, 0, 2] := by kernel_rfl
theorem T_ok50 : tyOk Tryz.prog 50 = true := by kernel_rfl
theorem T_agg50 : tyAgg Tryz.prog 50 = true := by kernel_rfl
theorem T_isinfo50 : (Tryz.prog.info? 50).isSome = true := by kernel_rfl
theorem T_info50 : tyInfo Tryz.prog 50 = some (4, 64) := by kernel_rfl
theorem T_cells50 : Tryz.prog.cellsOf 50 = 4 := by kernel_rfl
theorem T_zero50 : zeroPV Tryz.prog 50 = some (PV.agg [PV.bool Bool.false, PV.nilS, PV.bool Bool.false, PV.nilS]) := by kernel_rfl
theorem T_build50 : buildable Tryz.prog 50 = true := by kernel_rfl
theorem T_f50_0 : tyField Tryz.prog 50 0 = some (0, 31, 2) := by kernel_rfl
theorem T_p50_0 : placePV Tryz.prog 50 0 = some (0, 2) := by kernel_rfl
theorem T_f50_1 : tyField Tryz.prog 50 1 = some (2, 31, 2) := by kernel_rfl
theorem T_p50_1 : placePV Tryz.prog 50 1 = some (2, 2) := by kernel_rfl
theorem T_ok74 : tyOk Tryz.prog 74 = true := by kernel_rfl
theorem T_agg74 : tyAgg Tryz.prog 74 = false := by kernel_rfl
theorem T_isinfo74 : (Tryz.prog.info? 74).isSome = true := by kernel_rfl
theorem T_info74 : tyInfo Tryz.prog 74 = some (1, 24) := by kernel_rfl
theorem T_cells74 : Tryz.prog.cellsOf 74 = 1 := by kernel_rfl
theorem T_zero74 : zeroPV Tryz.prog 74 = some PV.nilS := by kernel_rfl
theorem T_elem74 : tyElem Tryz.prog 74 = some 5 := by kernel_rfl
theorem T_under74 : Tryz.prog.underlying 74 = some (.slice 5) := by kernel_rfl
theorem T_len74s (es : List PV) : lenPV Tryz.prog 74 (.slc es) = some (.int .i64 es.length) := by simp only [lenPV, T_under74]
theorem T_len74n  : lenPV Tryz.prog 74 .nilS = some (.int .i64 0) := by simp only [lenPV, T_under74]
theorem T_len74b (b e o n : Nat) : lenPV Tryz.prog 74 (.bs b e o n) = some (.int .i64 n) := by simp only [lenPV, T_under74]
theorem T_ok79 : tyOk Tryz.prog 79 = true := by kernel_rfl
theorem T_agg79 : tyAgg Tryz.prog 79 = false := by kernel_rfl
theorem T_isinfo79 : (Tryz.prog.info? 79).isSome = true := by kernel_rfl
theorem T_info79 : tyInfo Tryz.prog 79 = some (1, 24) := by kernel_rfl
theorem T_cells79 : Tryz.prog.cellsOf 79 = 1 := by kernel_rfl
theorem T_zero79 : zeroPV Tryz.prog 79 = some PV.nilS := by kernel_rfl
theorem T_elem79 : tyElem Tryz.prog 79 = some 23 := by kernel_rfl
theorem T_under79 : Tryz.prog.underlying 79 = some (.slice 23) := by kernel_rfl
theorem T_len79s (es : List PV) : lenPV Tryz.prog 79 (.slc es) = some (.int .i64 es.length) := by simp only [lenPV, T_under79]
theorem T_len79n  : lenPV Tryz.prog 79 .nilS = some (.int .i64 0) := by simp only [lenPV, T_under79]
theorem T_len79b (b e o n : Nat) : lenPV Tryz.prog 79 (.bs b e o n) = some (.int .i64 n) := by simp only [lenPV, T_under79]
theorem T_ok84 : tyOk Tryz.prog 84 = true := by kernel_rfl
theorem T_agg84 : tyAgg Tryz.prog 84 = false := by kernel_rfl
theorem T_isinfo84 : (Tryz.prog.info? 84).isSome = true := by kernel_rfl
theorem T_info84 : tyInfo Tryz.prog 84 = some (1, 24) := by kernel_rfl
theorem T_cells84 : Tryz.prog.cellsOf 84 = 1 := by kernel_rfl
theorem T_zero84 : zeroPV Tryz.prog 84 = some PV.nilS := by kernel_rfl
theorem T_elem84 : tyElem Tryz.prog 84 = some 92 := by kernel_rfl
theorem T_under84 : Tryz.prog.underlying 84 = some (.slice 92) := by kernel_rfl
theorem T_len84s (es : List PV) : lenPV Tryz.prog 84 (.slc es) = some (.int .i64 es.length) := by simp only [lenPV, T_under84]
theorem T_len84n  : lenPV Tryz.prog 84 .nilS = some (.int .i64 0) := by simp only [lenPV, T_under84]
theorem T_len84b (b e o n : Nat) : lenPV Tryz.prog 84 (.bs b e o n) = some (.int .i64 n) := by simp only [lenPV, T_under84]
theorem T_ok86 : tyOk Tryz.prog 86 = true := by kernel_rfl
theorem T_agg86 : tyAgg Tryz.prog 86 = true := by kernel_rfl
theorem T_isinfo86 : (Tryz.prog.info? 86).isSome = true := by kernel_rfl
theorem T_info86 : tyInfo Tryz.prog 86 = some (2, 32) := by kernel_rfl
theorem T_cells86 : Tryz.prog.cellsOf 86 = 2 := by kernel_rfl
theorem T_zero86 : zeroPV Tryz.prog 86 = some (PV.agg [PV.bool Bool.false, PV.nilS]) := by kernel_rfl
theorem T_build86 : buildable Tryz.prog 86 = true := by kernel_rfl
theorem T_f86_0 : tyField Tryz.prog 86 0 = some (0, 4, 1) := by kernel_rfl
theorem T_p86_0 : placePV Tryz.prog 86 0 = some (0, 1) := by kernel_rfl
theorem T_f86_1 : tyField Tryz.prog 86 1 = some (1, 84, 1) := by kernel_rfl
theorem T_p86_1 : placePV Tryz.prog 86 1 = some (1, 1) := by kernel_rfl
theorem T_ok92 : tyOk Tryz.prog 92 = true := by kernel_rfl
theorem T_agg92 : tyAgg Tryz.prog 92 = false := by kernel_rfl
theorem T_isinfo92 : (Tryz.prog.info? 92).isSome = true := by kernel_rfl
theorem T_info92 : tyInfo Tryz.prog 92 = some (1, 8) := by kernel_rfl
theorem T_cells92 : Tryz.prog.cellsOf 92 = 1 := by kernel_rfl
theorem T_zero92 : zeroPV Tryz.prog 92 = some (PV.int IntKind.u64 0) := by kernel_rfl
theorem T_int92 : Tryz.prog.underlying 92 = some (.int .u64) := by kernel_rfl
theorem T_ok113 : tyOk Tryz.prog 113 = true := by kernel_rfl
theorem T_agg113 : tyAgg Tryz.prog 113 = false := by kernel_rfl
theorem T_isinfo113 : (Tryz.prog.info? 113).isSome = true := by kernel_rfl
theorem T_info113 : tyInfo Tryz.prog 113 = some (1, 24) := by kernel_rfl
theorem T_cells113 : Tryz.prog.cellsOf 113 = 1 := by kernel_rfl
theorem T_zero113 : zeroPV Tryz.prog 113 = some PV.nilS := by kernel_rfl
theorem T_elem113 : tyElem Tryz.prog 113 = some 9 := by kernel_rfl
theorem T_under113 : Tryz.prog.underlying 113 = some (.slice 9) := by kernel_rfl
theorem T_len113s (es : List PV) : lenPV Tryz.prog 113 (.slc es) = some (.int .i64 es.length) := by simp only [lenPV, T_under113]
theorem T_len113n  : lenPV Tryz.prog 113 .nilS = some (.int .i64 0) := by simp only [lenPV, T_under113]
theorem T_len113b (b e o n : Nat) : lenPV Tryz.prog 113 (.bs b e o n) = some (.int .i64 n) := by simp only [lenPV, T_under113]
theorem T_ok124 : tyOk Tryz.prog 124 = true := by kernel_rfl
theorem T_agg124 : tyAgg Tryz.prog 124 = false := by kernel_rfl
theorem T_isinfo124 : (Tryz.prog.info? 124).isSome = true := by kernel_rfl
theorem T_info124 : tyInfo Tryz.prog 124 = some (1, 16) := by kernel_rfl
theorem T_cells124 : Tryz.prog.cellsOf 124 = 1 := by kernel_rfl
theorem T_zero124 : zeroPV Tryz.prog 124 = some PV.nilI := by kernel_rfl
theorem T_ok136 : tyOk Tryz.prog 136 = true := by kernel_rfl
theorem T_agg136 : tyAgg Tryz.prog 136 = false := by kernel_rfl
theorem T_isinfo136 : (Tryz.prog.info? 136).isSome = true := by kernel_rfl
theorem T_info136 : tyInfo Tryz.prog 136 = some (1, 8) := by kernel_rfl
theorem T_cells136 : Tryz.prog.cellsOf 136 = 1 := by kernel_rfl
theorem T_zero136 : zeroPV Tryz.prog 136 = some (PV.int IntKind.u64 0) := by kernel_rfl
theorem T_int136 : Tryz.prog.underlying 136 = some (.int .u64) := by kernel_rfl
theorem T_ok140 : tyOk Tryz.prog 140 = true := by kernel_rfl
theorem T_agg140 : tyAgg Tryz.prog 140 = false := by kernel_rfl
theorem T_isinfo140 : (Tryz.prog.info? 140).isSome = true := by kernel_rfl
theorem T_info140 : tyInfo Tryz.prog 140 = some (1, 8) := by kernel_rfl
theorem T_cells140 : Tryz.prog.cellsOf 140 = 1 := by kernel_rfl
theorem T_ok142 : tyOk Tryz.prog 142 = true := by kernel_rfl
theorem T_agg142 : tyAgg Tryz.prog 142 = true := by kernel_rfl
theorem T_isinfo142 : (Tryz.prog.info? 142).isSome = true := by kernel_rfl
theorem T_info142 : tyInfo Tryz.prog 142 = some (2, 32) := by kernel_rfl
theorem T_cells142 : Tryz.prog.cellsOf 142 = 2 := by kernel_rfl
theorem T_build142 : buildable Tryz.prog 142 = true := by kernel_rfl
theorem T_f142_0 : tyField Tryz.prog 142 0 = some (0, 140, 1) := by kernel_rfl
theorem T_p142_0 : placePV Tryz.prog 142 0 = some (0, 1) := by kernel_rfl
theorem T_f142_1 : tyField Tryz.prog 142 1 = some (1, 74, 1) := by kernel_rfl
theorem T_p142_1 : placePV Tryz.prog 142 1 = some (1, 1) := by kernel_rfl
theorem T_ok148 : tyOk Tryz.prog 148 = true := by kernel_rfl
theorem T_agg148 : tyAgg Tryz.prog 148 = true := by kernel_rfl
theorem T_isinfo148 : (Tryz.prog.info? 148).isSome = true := by kernel_rfl
theorem T_info148 : tyInfo Tryz.prog 148 = some (24, 24) := by kernel_rfl
theorem T_cells148 : Tryz.prog.cellsOf 148 = 24 := by kernel_rfl
theorem T_zero148 : zeroPV Tryz.prog 148 = some (PV.agg [PV.int IntKind.u8 0, PV.int IntKind.u8 0, PV.int IntKind.u8 0, PV.int IntKind.u8 0, PV.int IntKind.u8 0, PV.int IntKind.u8 0, PV.int IntKind.u8 0, PV.int IntKind.u8 0, PV.int IntKind.u8 0, PV.int IntKind.u8 0, PV.int IntKind.u8 0, PV.int IntKind.u8 0, PV.int IntKind.u8 0, PV.int IntKind.u8 0, PV.int IntKind.u8 0, PV.int IntKind.u8 0, PV.int IntKind.u8 0, PV.int IntKind.u8 0, PV.int IntKind.u8 0, PV.int IntKind.u8 0, PV.int IntKind.u8 0, PV.int IntKind.u8 0, PV.int IntKind.u8 0, PV.int IntKind.u8 0]) := by kernel_rfl
theorem T_arr148 : tyArr Tryz.prog 148 = some (24, 5) := by kernel_rfl
theorem T_build148 : buildable Tryz.prog 148 = true := by kernel_rfl
theorem T_p148_0 : placePV Tryz.prog 148 0 = some (0, 1) := by kernel_rfl
theorem T_p148_1 : placePV Tryz.prog 148 1 = some (1, 1) := by kernel_rfl
theorem T_p148_2 : placePV Tryz.prog 148 2 = some (2, 1) := by kernel_rfl
theorem T_p148_3 : placePV Tryz.prog 148 3 = some (3, 1) := by kernel_rfl
theorem T_p148_4 : placePV Tryz.prog 148 4 = some (4, 1) := by kernel_rfl
theorem T_p148_5 : placePV Tryz.prog 148 5 = some (5, 1) := by kernel_rfl
theorem T_p148_6 : placePV Tryz.prog 148 6 = some (6, 1) := by kernel_rfl
theorem T_p148_7 : placePV Tryz.prog 148 7 = some (7, 1) := by kernel_rfl
theorem T_p148_8 : placePV Tryz.prog 148 8 = some (8, 1) := by kernel_rfl
theorem T_p148_9 : placePV Tryz.prog 148 9 = some (9, 1) := by kernel_rfl
theorem T_p148_10 : placePV Tryz.prog 148 10 = some (10, 1) := by kernel_rfl
theorem T_p148_11 : placePV Tryz.prog 148 11 = some (11, 1) := by kernel_rfl
theorem T_p148_12 : placePV Tryz.prog 148 12 = some (12, 1) := by kernel_rfl
theorem T_p148_13 : placePV Tryz.prog 148 13 = some (13, 1) := by kernel_rfl
theorem T_p148_14 : placePV Tryz.prog 148 14 = some (14, 1) := by kernel_rfl
theorem T_p148_15 : placePV Tryz.prog 148 15 = some (15, 1) := by kernel_rfl
theorem T_p148_16 : placePV Tryz.prog 148 16 = some (16, 1) := by kernel_rfl
theorem T_p148_17 : placePV Tryz.prog 148 17 = some (17, 1) := by kernel_rfl
theorem T_p148_18 : placePV Tryz.prog 148 18 = some (18, 1) := by kernel_rfl
theorem T_p148_19 : placePV Tryz.prog 148 19 = some (19, 1) := by kernel_rfl
theorem T_ok152 : tyOk Tryz.prog 152 = true := by kernel_rfl
theorem T_agg152 : tyAgg Tryz.prog 152 = false := by kernel_rfl
theorem T_isinfo152 : (Tryz.prog.info? 152).isSome = true := by kernel_rfl
theorem T_info152 : tyInfo Tryz.prog 152 = some (1, 4) := by kernel_rfl
theorem T_cells152 : Tryz.prog.cellsOf 152 = 1 := by kernel_rfl
theorem T_zero152 : zeroPV Tryz.prog 152 = some (PV.int IntKind.u32 0) := by kernel_rfl
theorem T_int152 : Tryz.prog.underlying 152 = some (.int .u32) := by kernel_rfl
theorem T_ok155 : tyOk Tryz.prog 155 = true := by kernel_rfl
theorem T_agg155 : tyAgg Tryz.prog 155 = false := by kernel_rfl
theorem T_isinfo155 : (Tryz.prog.info? 155).isSome = true := by kernel_rfl
theorem T_info155 : tyInfo Tryz.prog 155 = some (1, 8) := by kernel_rfl
theorem T_cells155 : Tryz.prog.cellsOf 155 = 1 := by kernel_rfl
theorem T_ok164 : tyOk Tryz.prog 164 = true := by kernel_rfl
theorem T_agg164 : tyAgg Tryz.prog 164 = true := by kernel_rfl
theorem T_isinfo164 : (Tryz.prog.info? 164).isSome = true := by kernel_rfl
theorem T_info164 : tyInfo Tryz.prog 164 = some (20, 160) := by kernel_rfl
theorem T_cells164 : Tryz.prog.cellsOf 164 = 20 := by kernel_rfl
theorem T_zero164 : zeroPV Tryz.prog 164 = some (PV.agg [PV.int IntKind.u64 0, PV.int IntKind.u64 0, PV.int IntKind.u64 0, PV.int IntKind.u64 0, PV.int IntKind.u64 0, PV.int IntKind.u64 0, PV.int IntKind.u64 0, PV.int IntKind.u64 0, PV.int IntKind.u64 0, PV.int IntKind.u64 0, PV.int IntKind.u64 0, PV.int IntKind.u64 0, PV.int IntKind.u64 0, PV.int IntKind.u64 0, PV.int IntKind.u64 0, PV.int IntKind.u64 0, PV.int IntKind.u64 0, PV.int IntKind.u64 0, PV.int IntKind.u64 0, PV.int IntKind.u64 0]) := by kernel_rfl
theorem T_arr164 : tyArr Tryz.prog 164 = some (20, 92) := by kernel_rfl
theorem T_build164 : buildable Tryz.prog 164 = true := by kernel_rfl
theorem T_p164_0 : placePV Tryz.prog 164 0 = some (0, 1) := by kernel_rfl
theorem T_p164_1 : placePV Tryz.prog 164 1 = some (1, 1) := by kernel_rfl
theorem T_p164_2 : placePV Tryz.prog 164 2 = some (2, 1) := by kernel_rfl
theorem T_p164_3 : placePV Tryz.prog 164 3 = some (3, 1) := by kernel_rfl
theorem T_p164_4 : placePV Tryz.prog 164 4 = some (4, 1) := by kernel_rfl
theorem T_p164_5 : placePV Tryz.prog 164 5 = some (5, 1) := by kernel_rfl
theorem T_p164_6 : placePV Tryz.prog 164 6 = some (6, 1) := by kernel_rfl
theorem T_p164_7 : placePV Tryz.prog 164 7 = some (7, 1) := by kernel_rfl
theorem T_p164_8 : placePV Tryz.prog 164 8 = some (8, 1) := by kernel_rfl
theorem T_p164_9 : placePV Tryz.prog 164 9 = some (9, 1) := by kernel_rfl
theorem T_p164_10 : placePV Tryz.prog 164 10 = some (10, 1) := by kernel_rfl
theorem T_p164_11 : placePV Tryz.prog 164 11 = some (11, 1) := by kernel_rfl
theorem T_p164_12 : placePV Tryz.prog 164 12 = some (12, 1) := by kernel_rfl
theorem T_p164_13 : placePV Tryz.prog 164 13 = some (13, 1) := by kernel_rfl
theorem T_p164_14 : placePV Tryz.prog 164 14 = some (14, 1) := by kernel_rfl
theorem T_p164_15 : placePV Tryz.prog 164 15 = some (15, 1) := by kernel_rfl
theorem T_p164_16 : placePV Tryz.prog 164 16 = some (16, 1) := by kernel_rfl
theorem T_p164_17 : placePV Tryz.prog 164 17 = some (17, 1) := by kernel_rfl
theorem T_p164_18 : placePV Tryz.prog 164 18 = some (18, 1) := by kernel_rfl
theorem T_p164_19 : placePV Tryz.prog 164 19 = some (19, 1) := by kernel_rfl
theorem T_ok165 : tyOk Tryz.prog 165 = true := by kernel_rfl
theorem T_agg165 : tyAgg Tryz.prog 165 = true := by kernel_rfl
theorem T_isinfo165 : (Tryz.prog.info? 165).isSome = true := by kernel_rfl
theorem T_info165 : tyInfo Tryz.prog 165 = some (65, 65) := by kernel_rfl
theorem T_cells165 : Tryz.prog.cellsOf 165 = 65 := by kernel_rfl
theorem T_zero165 : zeroPV Tryz.prog 165 = some (PV.agg [PV.int IntKind.u8 0, PV.int IntKind.u8 0, PV.int IntKind.u8 0, PV.int IntKind.u8 0, PV.int IntKind.u8 0, PV.int IntKind.u8 0, PV.int IntKind.u8 0, PV.int IntKind.u8 0, PV.int IntKind.u8 0, PV.int IntKind.u8 0, PV.int IntKind.u8 0, PV.int IntKind.u8 0, PV.int IntKind.u8 0, PV.int IntKind.u8 0, PV.int IntKind.u8 0, PV.int IntKind.u8 0, PV.int IntKind.u8 0, PV.int IntKind.u8 0, PV.int IntKind.u8 0, PV.int IntKind.u8 0, PV.int IntKind.u8 0, PV.int IntKind.u8 0, PV.int IntKind.u8 0, PV.int IntKind.u8 0, PV.int IntKind.u8 0, PV.int IntKind.u8 0, PV.int IntKind.u8 0, PV.int IntKind.u8 0, PV.int IntKind.u8 0, PV.int IntKind.u8 0, PV.int IntKind.u8 0, PV.int IntKind.u8 0, PV.int IntKind.u8 0, PV.int IntKind.u8 0, PV.int IntKind.u8 0, PV.int IntKind.u8 0, PV.int IntKind.u8 0, PV.int IntKind.u8 0, PV.int IntKind.u8 0, PV.int IntKind.u8 0, PV.int IntKind.u8 0, PV.int IntKind.u8 0, PV.int IntKind.u8 0, PV.int IntKind.u8 0, PV.int IntKind.u8 0, PV.int IntKind.u8 0, PV.int IntKind.u8 0, PV.int IntKind.u8 0, PV.int IntKind.u8 0, PV.int IntKind.u8 0, PV.int IntKind.u8 0, PV.int IntKind.u8 0, PV.int IntKind.u8 0, PV.int IntKind.u8 0, PV.int IntKind.u8 0, PV.int IntKind.u8 0, PV.int IntKind.u8 0, PV.int IntKind.u8 0, PV.int IntKind.u8 0, PV.int IntKind.u8 0, PV.int IntKind.u8 0, PV.int IntKind.u8 0, PV.int IntKind.u8 0, PV.int IntKind.u8 0, PV.int IntKind.u8 0]) := by kernel_rfl
theorem T_arr165 : tyArr Tryz.prog 165 = some (65, 5) := by kernel_rfl
theorem T_build165 : buildable Tryz.prog 165 = true := by kernel_rfl
theorem T_p165_0 : placePV Tryz.prog 165 0 = some (0, 1) := by kernel_rfl
theorem T_p165_1 : placePV Tryz.prog 165 1 = some (1, 1) := by kernel_rfl
theorem T_p165_2 : placePV Tryz.prog 165 2 = some (2, 1) := by kernel_rfl
theorem T_p165_3 : placePV Tryz.prog 165 3 = some (3, 1) := by kernel_rfl
theorem T_p165_4 : placePV Tryz.prog 165 4 = some (4, 1) := by kernel_rfl
theorem T_p165_5 : placePV Tryz.prog 165 5 = some (5, 1) := by kernel_rfl
theorem T_p165_6 : placePV Tryz.prog 165 6 = some (6, 1) := by kernel_rfl
theorem T_p165_7 : placePV Tryz.prog 165 7 = some (7, 1) := by kernel_rfl
theorem T_p165_8 : placePV Tryz.prog 165 8 = some (8, 1) := by kernel_rfl
theorem T_p165_9 : placePV Tryz.prog 165 9 = some (9, 1) := by kernel_rfl
theorem T_p165_10 : placePV Tryz.prog 165 10 = some (10, 1) := by kernel_rfl
theorem T_p165_11 : placePV Tryz.prog 165 11 = some (11, 1) := by kernel_rfl
theorem T_p165_12 : placePV Tryz.prog 165 12 = some (12, 1) := by kernel_rfl
theorem T_p165_13 : placePV Tryz.prog 165 13 = some (13, 1) := by kernel_rfl
theorem T_p165_14 : placePV Tryz.prog 165 14 = some (14, 1) := by kernel_rfl
theorem T_p165_15 : placePV Tryz.prog 165 15 = some (15, 1) := by kernel_rfl
theorem T_p165_16 : placePV Tryz.prog 165 16 = some (16, 1) := by kernel_rfl
theorem T_p165_17 : placePV Tryz.prog 165 17 = some (17, 1) := by kernel_rfl
theorem T_p165_18 : placePV Tryz.prog 165 18 = some (18, 1) := by kernel_rfl
theorem T_p165_19 : placePV Tryz.prog 165 19 = some (19, 1) := by kernel_rfl
theorem T_ok168 : tyOk Tryz.prog 168 = true := by kernel_rfl
theorem T_agg168 : tyAgg Tryz.prog 168 = false := by kernel_rfl
theorem T_isinfo168 : (Tryz.prog.info? 168).isSome = true := by kernel_rfl
theorem T_info168 : tyInfo Tryz.prog 168 = some (1, 8) := by kernel_rfl
theorem T_cells168 : Tryz.prog.cellsOf 168 = 1 := by kernel_rfl
theorem T_ok173 : tyOk Tryz.prog 173 = true := by kernel_rfl
theorem T_agg173 : tyAgg Tryz.prog 173 = true := by kernel_rfl
theorem T_isinfo173 : (Tryz.prog.info? 173).isSome = true := by kernel_rfl
theorem T_info173 : tyInfo Tryz.prog 173 = some (3, 48) := by kernel_rfl
theorem T_cells173 : Tryz.prog.cellsOf 173 = 3 := by kernel_rfl
theorem T_zero173 : zeroPV Tryz.prog 173 = some (PV.agg [PV.str { data := { toList := [] } }, PV.str { data := { toList := [] } }, PV.nilI]) := by kernel_rfl
theorem T_build173 : buildable Tryz.prog 173 = true := by kernel_rfl
theorem T_f173_0 : tyField Tryz.prog 173 0 = some (0, 9, 1) := by kernel_rfl
theorem T_p173_0 : placePV Tryz.prog 173 0 = some (0, 1) := by kernel_rfl
theorem T_f173_1 : tyField Tryz.prog 173 1 = some (1, 9, 1) := by kernel_rfl
theorem T_p173_1 : placePV Tryz.prog 173 1 = some (1, 1) := by kernel_rfl
theorem T_f173_2 : tyField Tryz.prog 173 2 = some (2, 124, 1) := by kernel_rfl
theorem T_p173_2 : placePV Tryz.prog 173 2 = some (2, 1) := by kernel_rfl
theorem T_ok178 : tyOk Tryz.prog 178 = true := by kernel_rfl
theorem T_agg178 : tyAgg Tryz.prog 178 = true := by kernel_rfl
theorem T_isinfo178 : (Tryz.prog.info? 178).isSome = true := by kernel_rfl
theorem T_info178 : tyInfo Tryz.prog 178 = some (1, 16) := by kernel_rfl
theorem T_cells178 : Tryz.prog.cellsOf 178 = 1 := by kernel_rfl
theorem T_zero178 : zeroPV Tryz.prog 178 = some (PV.agg [PV.str { data := { toList := [] } }]) := by kernel_rfl
theorem T_build178 : buildable Tryz.prog 178 = true := by kernel_rfl
theorem T_f178_0 : tyField Tryz.prog 178 0 = some (0, 9, 1) := by kernel_rfl
theorem T_p178_0 : placePV Tryz.prog 178 0 = some (0, 1) := by kernel_rfl
theorem T_eqs178 : eqShapeS Tryz.prog 178 = some [2] := by kernel_rfl
theorem T_ok179 : tyOk Tryz.prog 179 = true := by kernel_rfl
theorem T_agg179 : tyAgg Tryz.prog 179 = true := by kernel_rfl
theorem T_isinfo179 : (Tryz.prog.info? 179).isSome = true := by kernel_rfl
theorem T_info179 : tyInfo Tryz.prog 179 = some (32, 32) := by kernel_rfl
theorem T_cells179 : Tryz.prog.cellsOf 179 = 32 := by kernel_rfl
theorem T_zero179 : zeroPV Tryz.prog 179 = some (PV.agg [PV.int IntKind.u8 0, PV.int IntKind.u8 0, PV.int IntKind.u8 0, PV.int IntKind.u8 0, PV.int IntKind.u8 0, PV.int IntKind.u8 0, PV.int IntKind.u8 0, PV.int IntKind.u8 0, PV.int IntKind.u8 0, PV.int IntKind.u8 0, PV.int IntKind.u8 0, PV.int IntKind.u8 0, PV.int IntKind.u8 0, PV.int IntKind.u8 0, PV.int IntKind.u8 0, PV.int IntKind.u8 0, PV.int IntKind.u8 0, PV.int IntKind.u8 0, PV.int IntKind.u8 0, PV.int IntKind.u8 0, PV.int IntKind.u8 0, PV.int IntKind.u8 0, PV.int IntKind.u8 0, PV.int IntKind.u8 0, PV.int IntKind.u8 0, PV.int IntKind.u8 0, PV.int IntKind.u8 0, PV.int IntKind.u8 0, PV.int IntKind.u8 0, PV.int IntKind.u8 0, PV.int IntKind.u8 0, PV.int IntKind.u8 0]) := by kernel_rfl
theorem T_arr179 : tyArr Tryz.prog 179 = some (32, 5) := by kernel_rfl
theorem T_build179 : buildable Tryz.prog 179 = true := by kernel_rfl
theorem T_p179_0 : placePV Tryz.prog 179 0 = some (0, 1) := by kernel_rfl
theorem T_p179_1 : placePV Tryz.prog 179 1 = some (1, 1) := by kernel_rfl
theorem T_p179_2 : placePV Tryz.prog 179 2 = some (2, 1) := by kernel_rfl
theorem T_p179_3 : placePV Tryz.prog 179 3 = some (3, 1) := by kernel_rfl
theorem T_p179_4 : placePV Tryz.prog 179 4 = some (4, 1) := by kernel_rfl
theorem T_p179_5 : placePV Tryz.prog 179 5 = some (5, 1) := by kernel_rfl
theorem T_p179_6 : placePV Tryz.prog 179 6 = some (6, 1) := by kernel_rfl
theorem T_p179_7 : placePV Tryz.prog 179 7 = some (7, 1) := by kernel_rfl
theorem T_p179_8 : placePV Tryz.prog 179 8 = some (8, 1) := by kernel_rfl
theorem T_p179_9 : placePV Tryz.prog 179 9 = some (9, 1) := by kernel_rfl
theorem T_p179_10 : placePV Tryz.prog 179 10 = some (10, 1) := by kernel_rfl
theorem T_p179_11 : placePV Tryz.prog 179 11 = some (11, 1) := by kernel_rfl
theorem T_p179_12 : placePV Tryz.prog 179 12 = some (12, 1) := by kernel_rfl
theorem T_p179_13 : placePV Tryz.prog 179 13 = some (13, 1) := by kernel_rfl
theorem T_p179_14 : placePV Tryz.prog 179 14 = some (14, 1) := by kernel_rfl
theorem T_p179_15 : placePV Tryz.prog 179 15 = some (15, 1) := by kernel_rfl
theorem T_p179_16 : placePV Tryz.prog 179 16 = some (16, 1) := by kernel_rfl
theorem T_p179_17 : placePV Tryz.prog 179 17 = some (17, 1) := by kernel_rfl
theorem T_p179_18 : placePV Tryz.prog 179 18 = some (18, 1) := by kernel_rfl
theorem T_p179_19 : placePV Tryz.prog 179 19 = some (19, 1) := by kernel_rfl
theorem T_ok180 : tyOk Tryz.prog 180 = true := by kernel_rfl
theorem T_agg180 : tyAgg Tryz.prog 180 = true := by kernel_rfl
theorem T_isinfo180 : (Tryz.prog.info? 180).isSome = true := by kernel_rfl
theorem T_info180 : tyInfo Tryz.prog 180 = some (64, 64) := by kernel_rfl
theorem T_cells180 : Tryz.prog.cellsOf 180 = 64 := by kernel_rfl
theorem T_zero180 : zeroPV Tryz.prog 180 = some (PV.agg [PV.int IntKind.u8 0, PV.int IntKind.u8 0, PV.int IntKind.u8 0, PV.int IntKind.u8 0, PV.int IntKind.u8 0, PV.int IntKind.u8 0, PV.int IntKind.u8 0, PV.int IntKind.u8 0, PV.int IntKind.u8 0, PV.int IntKind.u8 0, PV.int IntKind.u8 0, PV.int IntKind.u8 0, PV.int IntKind.u8 0, PV.int IntKind.u8 0, PV.int IntKind.u8 0, PV.int IntKind.u8 0, PV.int IntKind.u8 0, PV.int IntKind.u8 0, PV.int IntKind.u8 0, PV.int IntKind.u8 0, PV.int IntKind.u8 0, PV.int IntKind.u8 0, PV.int IntKind.u8 0, PV.int IntKind.u8 0, PV.int IntKind.u8 0, PV.int IntKind.u8 0, PV.int IntKind.u8 0, PV.int IntKind.u8 0, PV.int IntKind.u8 0, PV.int IntKind.u8 0, PV.int IntKind.u8 0, PV.int IntKind.u8 0, PV.int IntKind.u8 0, PV.int IntKind.u8 0, PV.int IntKind.u8 0, PV.int IntKind.u8 0, PV.int IntKind.u8 0, PV.int IntKind.u8 0, PV.int IntKind.u8 0, PV.int IntKind.u8 0, PV.int IntKind.u8 0, PV.int IntKind.u8 0, PV.int IntKind.u8 0, PV.int IntKind.u8 0, PV.int IntKind.u8 0, PV.int IntKind.u8 0, PV.int IntKind.u8 0, PV.int IntKind.u8 0, PV.int IntKind.u8 0, PV.int IntKind.u8 0, PV.int IntKind.u8 0, PV.int IntKind.u8 0, PV.int IntKind.u8 0, PV.int IntKind.u8 0, PV.int IntKind.u8 0, PV.int IntKind.u8 0, PV.int IntKind.u8 0, PV.int IntKind.u8 0, PV.int IntKind.u8 0, PV.int IntKind.u8 0, PV.int IntKind.u8 0, PV.int IntKind.u8 0, PV.int IntKind.u8 0, PV.int IntKind.u8 0]) := by kernel_rfl
theorem T_arr180 : tyArr Tryz.prog 180 = some (64, 5) := by kernel_rfl
theorem T_build180 : buildable Tryz.prog 180 = true := by kernel_rfl
theorem T_p180_0 : placePV Tryz.prog 180 0 = some (0, 1) := by kernel_rfl
theorem T_p180_1 : placePV Tryz.prog 180 1 = some (1, 1) := by kernel_rfl
theorem T_p180_2 : placePV Tryz.prog 180 2 = some (2, 1) := by kernel_rfl
theorem T_p180_3 : placePV Tryz.prog 180 3 = some (3, 1) := by kernel_rfl
theorem T_p180_4 : placePV Tryz.prog 180 4 = some (4, 1) := by kernel_rfl
theorem T_p180_5 : placePV Tryz.prog 180 5 = some (5, 1) := by kernel_rfl
theorem T_p180_6 : placePV Tryz.prog 180 6 = some (6, 1) := by kernel_rfl
theorem T_p180_7 : placePV Tryz.prog 180 7 = some (7, 1) := by kernel_rfl
theorem T_p180_8 : placePV Tryz.prog 180 8 = some (8, 1) := by kernel_rfl
theorem T_p180_9 : placePV Tryz.prog 180 9 = some (9, 1) := by kernel_rfl
theorem T_p180_10 : placePV Tryz.prog 180 10 = some (10, 1) := by kernel_rfl
theorem T_p180_11 : placePV Tryz.prog 180 11 = some (11, 1) := by kernel_rfl
theorem T_p180_12 : placePV Tryz.prog 180 12 = some (12, 1) := by kernel_rfl
theorem T_p180_13 : placePV Tryz.prog 180 13 = some (13, 1) := by kernel_rfl
theorem T_p180_14 : placePV Tryz.prog 180 14 = some (14, 1) := by kernel_rfl
theorem T_p180_15 : placePV Tryz.prog 180 15 = some (15, 1) := by kernel_rfl
theorem T_p180_16 : placePV Tryz.prog 180 16 = some (16, 1) := by kernel_rfl
theorem T_p180_17 : placePV Tryz.prog 180 17 = some (17, 1) := by kernel_rfl
theorem T_p180_18 : placePV Tryz.prog 180 18 = some (18, 1) := by kernel_rfl
theorem T_p180_19 : placePV Tryz.prog 180 19 = some (19, 1) := by kernel_rfl
end Go.Proofs.YtkgkebhlpjenaaaGreatDoor

namespace Go.Dg

def digs (B n : Nat) : List Nat := if h : n = 0 ∨ B < 2 then [] else n % B :: digs B (n / B)
termination_by n
decreasing_by
  simp only [not_or, Nat.not_lt] at h
  exact Nat.div_lt_self (Nat.pos_of_ne_zero h.1) h.2

def val (B : Nat) : List Nat → Nat
  | [] => 0
  | d :: l => d + B * val B l

section
variable {B : Nat}
theorem digs_zero : digs B 0 = [] := by unfold digs; simp
theorem digs_succ (hB : 2 ≤ B) {n : Nat} (hn : n ≠ 0) : digs B n = n % B :: digs B (n / B) := by
  conv => lhs; unfold digs
  rw [dif_neg]
  simp only [not_or, Nat.not_lt]
  exact ⟨hn, hB⟩

theorem val_digs (hB : 2 ≤ B) (n : Nat) : val B (digs B n) = n := by
  induction n using Nat.strongRecOn with
  | _ n ih =>
    by_cases hn : n = 0
    · subst hn; rw [digs_zero]; rfl
    · rw [digs_succ hB hn]
      simp only [val]
      rw [ih _ (Nat.div_lt_self (Nat.pos_of_ne_zero hn) hB)]
      exact Nat.mod_add_div n B

theorem digs_get (hB : 2 ≤ B) (n k : Nat) : (digs B n)[k]? = if n / B ^ k = 0 then none else some (n / B ^ k % B) := by
  induction k generalizing n with
  | zero =>
    by_cases hn : n = 0
    · subst hn; simp [digs_zero]
    · rw [digs_succ hB hn]; simp [hn]
  | succ k ih =>
    by_cases hn : n = 0
    · subst hn; simp [digs_zero]
    · rw [digs_succ hB hn, List.getElem?_cons_succ, ih]
      have : n / B / B ^ k = n / B ^ (k + 1) := by rw [Nat.div_div_eq_div_mul, Nat.pow_succ, Nat.mul_comm]
      rw [this]

theorem digs_len (hB : 2 ≤ B) (n k : Nat) : k < (digs B n).length ↔ n / B ^ k ≠ 0 := by
  have := digs_get hB n k
  constructor
  · intro h hz
    rw [if_pos hz, List.getElem?_eq_none_iff] at this
    omega
  · intro h
    rw [if_neg h] at this
    exact (List.getElem?_eq_some_iff.1 this).1
theorem digs_len_le (hB : 2 ≤ B) (n k : Nat) : (digs B n).length ≤ k ↔ n < B ^ k := by
  have h := digs_len hB n k
  have hp : 0 < B ^ k := Nat.pow_pos (by omega)
  rw [← Nat.not_lt, h, Decidable.not_not, Nat.div_eq_zero_iff]
  omega
theorem lt_pow_len (hB : 2 ≤ B) (n : Nat) : n < B ^ (digs B n).length := (digs_len_le hB n _).1 (Nat.le_refl _)
theorem digs_get_lt (hB : 2 ≤ B) {n k : Nat} (h : k < (digs B n).length) : (digs B n)[k]? = some (n / B ^ k % B) := by
  rw [digs_get hB, if_neg ((digs_len hB n k).1 h)]
theorem digs_mem_lt (hB : 2 ≤ B) {n d : Nat} (h : d ∈ digs B n) : d < B := by
  obtain ⟨k, hk⟩ := List.mem_iff_getElem?.1 h
  rw [digs_get hB] at hk
  split at hk
  · cases hk
  · cases hk; exact Nat.mod_lt _ (by omega)
theorem digit_beyond (hB : 2 ≤ B) {n k : Nat} (h : (digs B n).length ≤ k) : n / B ^ k = 0 := by
  have := (digs_len_le hB n k).1 h
  exact Nat.div_eq_of_lt this
theorem digs_eq_nil (hB : 2 ≤ B) {n : Nat} : digs B n = [] ↔ n = 0 := by
  constructor
  · intro h; have := val_digs hB n; rw [h] at this; exact this.symm
  · rintro rfl; exact digs_zero

/-- The lowest digits. -/
def lows (B n i : Nat) : List Nat := (List.range i).map fun k => n / B ^ k % B
theorem lows_length (n i : Nat) : (lows B n i).length = i := by simp [lows]
theorem lows_succ (n i : Nat) : lows B n (i + 1) = lows B n i ++ [n / B ^ i % B] := by simp [lows, List.range_succ]
theorem lows_get (n i k : Nat) (h : k < i) : (lows B n i)[k]? = some (n / B ^ k % B) := by simp [lows, h]
theorem lows_cons (n i : Nat) : lows B n (i + 1) = n % B :: lows B (n / B) i := by
  simp only [lows, List.range_succ_eq_map, List.map_cons, Nat.pow_zero, Nat.div_one, List.map_map]
  congr 1
  apply List.map_congr_left
  intro k _
  simp only [Function.comp, Nat.succ_eq_add_one]
  rw [Nat.div_div_eq_div_mul, Nat.pow_succ, Nat.mul_comm]
theorem val_lows (hB : 0 < B) (n i : Nat) : val B (lows B n i) = n % B ^ i := by
  induction i generalizing n with
  | zero => simp [lows, val, Nat.mod_one]
  | succ i ih =>
    rw [lows_cons]
    simp only [val]
    rw [ih, Nat.pow_succ, Nat.mul_comm (B ^ i) B, Nat.mod_mul]
theorem lows_digs (hB : 2 ≤ B) (n : Nat) : lows B n (digs B n).length = digs B n := by
  apply List.ext_getElem?
  intro k
  by_cases hk : k < (digs B n).length
  · rw [lows_get _ _ _ hk, digs_get_lt hB hk]
  · rw [List.getElem?_eq_none (by rw [lows_length]; omega), List.getElem?_eq_none (by omega)]
theorem lows_congr (hB : 2 ≤ B) {n m i : Nat} (h : n % B ^ i = m % B ^ i) : lows B n i = lows B m i := by
  apply List.map_congr_left
  intro k hk
  have hk := List.mem_range.1 hk
  have key : ∀ n, n / B ^ k % B = (n % B ^ i) / B ^ k % B := by
    intro n
    have e : B ^ i = B ^ k * (B * B ^ (i - k - 1)) := by
      rw [← Nat.mul_assoc, ← Nat.pow_succ, ← Nat.pow_add]; congr 1; omega
    rw [e, Nat.mod_mul_right_div_self, Nat.mod_mul_right_mod]
  rw [key n, key m, h]

/-- Without the zeros at the end. -/
def trimZ (l : List Nat) : List Nat := (l.reverse.dropWhile (· == 0)).reverse
theorem trimZ_snoc_zero (l : List Nat) : trimZ (l ++ [0]) = trimZ l := by simp [trimZ]
theorem trimZ_snoc (l : List Nat) {d : Nat} (h : d ≠ 0) : trimZ (l ++ [d]) = l ++ [d] := by simp [trimZ, h]
theorem trimZ_nil : trimZ [] = [] := rfl

theorem val_append (l m : List Nat) : val B (l ++ m) = val B l + B ^ l.length * val B m := by
  induction l with
  | nil => simp [val]
  | cons d l ih =>
    simp only [List.cons_append, val, ih, List.length_cons, Nat.pow_succ]
    rw [Nat.mul_add, Nat.add_assoc, ← Nat.mul_assoc, Nat.mul_comm B (B ^ l.length)]
theorem val_lt (hB : 0 < B) {l : List Nat} (h : ∀ d ∈ l, d < B) : val B l < B ^ l.length := by
  induction l with
  | nil => simp [val]
  | cons d l ih =>
    have h1 := ih fun x hx => h x (by simp [hx])
    have h2 := h d (by simp)
    simp only [val, List.length_cons, Nat.pow_succ]
    have : B * val B l + B ≤ B * B ^ l.length := by rw [← Nat.mul_succ]; exact Nat.mul_le_mul_left _ h1
    rw [Nat.mul_comm (B ^ l.length)]
    omega
theorem lows_val (hB : 2 ≤ B) {l : List Nat} (h : ∀ d ∈ l, d < B) : lows B (val B l) l.length = l := by
  induction l with
  | nil => rfl
  | cons d l ih =>
    have h2 := h d (by simp)
    rw [List.length_cons, lows_cons]
    simp only [val]
    rw [Nat.add_mul_mod_self_left, Nat.mod_eq_of_lt h2, Nat.add_mul_div_left _ _ (by omega), Nat.div_eq_of_lt h2, Nat.zero_add, ih fun x hx => h x (by simp [hx])]
theorem trimZ_eq (hB : 2 ≤ B) (l : List Nat) (h : ∀ d ∈ l, d < B) : trimZ l = digs B (val B l) := by
  have key : ∀ n, ∀ l : List Nat, l.length = n → (∀ d ∈ l, d < B) → trimZ l = digs B (val B l) := by
    intro n
    induction n with
    | zero => intro l hl _; rw [List.length_eq_zero_iff.1 hl]; simp [trimZ_nil, val, digs_zero]
    | succ n ih =>
      intro l hl h
      have hne : l ≠ [] := by rintro rfl; simp at hl
      have hcut := List.dropLast_concat_getLast hne
      generalize l.dropLast = m at hcut
      generalize l.getLast hne = d at hcut
      subst hcut
      have hm : m.length = n := by simpa using hl
      have hmd : ∀ x ∈ m, x < B := fun x hx => h x (by simp [hx])
      by_cases hd : d = 0
      · subst hd
        rw [trimZ_snoc_zero, ih m hm hmd, val_append]
        simp [val]
      · rw [trimZ_snoc m hd]
        have hlen : (digs B (val B (m ++ [d]))).length = (m ++ [d]).length := by
          apply Nat.le_antisymm
          · exact (digs_len_le hB _ _).2 (val_lt (by omega) h)
          · have : (m ++ [d]).length = m.length + 1 := by simp
            rw [this]
            apply (digs_len hB _ _).2
            rw [val_append]
            simp only [val, Nat.mul_zero, Nat.add_zero]
            rw [Nat.add_mul_div_left _ _ (Nat.pow_pos (by omega))]
            exact fun e => hd (Nat.eq_zero_of_add_eq_zero_left e)
        have := lows_digs hB (val B (m ++ [d]))
        rw [hlen, lows_val hB h] at this
        exact this
  exact key l.length l rfl h
theorem trimZ_lows (hB : 2 ≤ B) (n i : Nat) : trimZ (lows B n i) = digs B (n % B ^ i) := by
  rw [trimZ_eq hB, val_lows (by omega)]
  intro d hd
  simp only [lows, List.mem_map] at hd
  obtain ⟨k, _, rfl⟩ := hd
  exact Nat.mod_lt _ (by omega)
theorem trimZ_digs (hB : 2 ≤ B) (n : Nat) : trimZ (digs B n) = digs B n := by
  rw [trimZ_eq hB _ fun d hd => digs_mem_lt hB hd, val_digs hB]
theorem trimZ_last {l : List Nat} (h : ∀ d, l.getLast? = some d → d ≠ 0) : trimZ l = l := by
  by_cases hne : l = []
  · subst hne; rfl
  · have hcut := List.dropLast_concat_getLast hne
    have hl : l.getLast? = some (l.getLast hne) := List.getLast?_eq_some_getLast hne
    have := h _ hl
    rw [← hcut]
    exact trimZ_snoc _ this
end
end Go.Dg
