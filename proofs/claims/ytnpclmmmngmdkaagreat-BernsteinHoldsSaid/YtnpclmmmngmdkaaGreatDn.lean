/-
  UR, US, UV, FTy, Dg, FA1, Dn (merged for the claim).
-/
import Derived.Test.YtnpclmmmngmdkaaGreatUQ
import Derived.ProofKit
import Derived.Attr
import Derived.Test.YtnpclmmmngmdkaaGreatProg
set_option linter.unusedSimpArgs false
set_option linter.unusedVariables false
namespace Go.Vl
open Go.RowKit

inductive TT where
  | bool
  | int (k : IntKind)
  | str
  | slc (e : TT)
  | agg (fs : List TT)

mutual
def TT.size : TT → Nat
  | .agg fs => TT.sizes fs
  | .bool | .int _ | .str | .slc _ => 1
def TT.sizes : List TT → Nat
  | [] => 0
  | f :: fs => f.size + TT.sizes fs
end

mutual
def TT.fits (P : Program) : TT → TypeId → Bool
  | .bool, t => match P.underlying t with
    | some .bool => true
    | _ => false
  | .int k, t => match P.underlying t with
    | some (.int k') => decide (k' = k)
    | _ => false
  | .str, t => match P.underlying t with
    | some .string => true
    | _ => false
  | .slc e, t => match P.underlying t with
    | some (.slice te) => e.fits P te && Nat.beq (P.cellsOf te) e.size && Nat.ble 1 e.size
    | _ => false
  | .agg fs, t => match P.underlying t with
    | some (.struct xs) => TT.fitsL P fs xs.toList 0 && Nat.beq (P.cellsOf t) (TT.sizes fs)
    | _ => false
def TT.fitsL (P : Program) : List TT → List Field → Nat → Bool
  | [], [], _ => true
  | f :: fs, x :: xs, off => f.fits P x.type && Nat.beq x.offset off && Nat.beq (P.cellsOf x.type) f.size && TT.fitsL P fs xs (off + f.size)
  | _, _, _ => false
end

def TT.mk : TT → List PV → PV
  | .agg _, cs => .agg cs
  | _, cs => cs.headD .undef

mutual
def HasTT : TT → List PV → Prop
  | .bool, cs => ∃ b, cs = [.bool b]
  | .int k, cs => ∃ n, cs = [.int k n] ∧ (Lit.int k n).wf = true
  | .str, cs => ∃ s : ByteArray, cs = [.str s] ∧ s.size ≤ maxLen
  | .slc e, cs => ∃ ess : List (List PV), cs = [.slc (ess.map e.mk)] ∧ ess.length ≤ maxLen ∧ ∀ c ∈ ess, HasTT e c
  | .agg fs, cs => HasTTs fs cs
def HasTTs : List TT → List PV → Prop
  | [], cs => cs = []
  | f :: fs, cs => ∃ a b, cs = a ++ b ∧ HasTT f a ∧ HasTTs fs b
end

theorem mk_cells {e : TT} {c : List PV} (h : HasTT e c) : (e.mk c).cells = c := by
  cases e with
  | bool => simp only [HasTT] at h; obtain ⟨b, rfl⟩ := h; rfl
  | int k => simp only [HasTT] at h; obtain ⟨b, rfl, _⟩ := h; rfl
  | str => simp only [HasTT] at h; obtain ⟨b, rfl, _⟩ := h; rfl
  | slc e => simp only [HasTT] at h; obtain ⟨b, rfl, _⟩ := h; rfl
  | agg fs => rfl

mutual
theorem HasTT.length : ∀ {e : TT} {c : List PV}, HasTT e c → c.length = e.size
  | .bool, c, h => by simp only [HasTT] at h; obtain ⟨b, rfl⟩ := h; simp [TT.size]
  | .int k, c, h => by simp only [HasTT] at h; obtain ⟨b, rfl, _⟩ := h; simp [TT.size]
  | .str, c, h => by simp only [HasTT] at h; obtain ⟨b, rfl, _⟩ := h; simp [TT.size]
  | .slc e, c, h => by simp only [HasTT] at h; obtain ⟨b, rfl, _⟩ := h; simp [TT.size]
  | .agg fs, c, h => by simp only [HasTT] at h; simp only [TT.size]; exact HasTTs.length h
theorem HasTTs.length : ∀ {fs : List TT} {c : List PV}, HasTTs fs c → c.length = TT.sizes fs
  | [], c, h => by simp only [HasTTs] at h; subst h; simp [TT.sizes]
  | f :: fs, c, h => by
    simp only [HasTTs] at h
    obtain ⟨a, b, rfl, h1, h2⟩ := h
    simp only [TT.sizes, List.length_append, h1.length, h2.length]
end

/-- Every cell that is there is to stay. -/
def exIm (w : World) : Im := fun g j => ∃ u, w.cell? ⟨g, j, none⟩ = some u

section
variable {H : Type} {enc : TypeId × Value → H} {P : Program} {w : World} {base : Nat} {held : Bool}

theorem rep_nothing {im : Im} {A : Option Addr} {c : Nat} (hm : c ≤ maxLen) : Rep w im (.slc []) (.slice A 0 c) := by
  cases A with
  | none => exact .slcNil c hm
  | some p => exact .slcE p c hm

mutual
theorem trod_rep : ∀ (tt : TT) (t : TypeId) (fuel : Nat) (cs : List Value) (x : DataW H × List MemPlace), tt.fits P t = true → DataW.trod enc P w base (fun _ => true) held fuel t cs = some x →
    ∃ pvs, RepL w (exIm w) pvs cs ∧ HasTT tt pvs
  | .bool, t, fuel, cs, x, hf, h => by
    simp only [TT.fits] at hf
    split at hf
    · rename_i ht
      obtain ⟨b, rfl, _⟩ := DataW.trod_bool ht h
      exact ⟨[.bool b], .cons _ _ _ _ (.bool b) .nil, by simp [HasTT]⟩
    · cases hf
  | .int k, t, fuel, cs, x, hf, h => by
    simp only [TT.fits] at hf
    split at hf
    · rename_i k' ht
      have hk : k' = k := of_decide_eq_true hf
      subst hk
      obtain ⟨n, rfl, _, hw⟩ := DataW.trod_int ht h
      exact ⟨[.int k' n], .cons _ _ _ _ (.int _ n) .nil, by simp [HasTT, hw]⟩
    · cases hf
  | .str, t, fuel, cs, x, hf, h => by
    simp only [TT.fits] at hf
    split at hf
    · rename_i ht
      obtain ⟨s, rfl, _, hs⟩ := DataW.trod_string ht h
      exact ⟨[.str s], .cons _ _ _ _ (.str s) .nil, by simp only [HasTT]; exact ⟨s, rfl, hs⟩⟩
    · cases hf
  | .slc e, t, fuel, cs, x, hf, h => by
    simp only [TT.fits] at hf
    split at hf
    · rename_i te ht
      simp only [Bool.and_eq_true] at hf
      obtain ⟨⟨hf1, hf2⟩, hf3⟩ := hf
      have hsz := Nat.eq_of_beq_eq_true hf2
      have hpos := Nat.le_of_ble_eq_true hf3
      rcases DataW.trod_slice ht h with ⟨rfl, _⟩ | ⟨a, len, cap, elems, rest, n, _, rfl, _, _, hl, hm, hlen, hel, _, _⟩
      · exact ⟨[.slc []], .cons _ _ _ _ (.slcNil 0 (Nat.zero_le _)) .nil, by simp only [HasTT]; exact ⟨[], rfl, Nat.zero_le _, by simp⟩⟩
      · rcases Nat.eq_zero_or_pos len with rfl | hpl
        · exact ⟨[.slc []], .cons _ _ _ _ (rep_nothing hm) .nil, by simp only [HasTT]; exact ⟨[], rfl, Nat.zero_le _, by simp⟩⟩
        · have each : ∀ i, i < len → ∃ ci pi, w.cells? base (a.add (i * e.size)) e.size = some ci ∧ RepL w (exIm w) pi ci ∧ HasTT e pi := by
            intro i hi
            have hi' := hel i hi
            rw [hsz] at hi'
            have hs : elems[i]? = some elems[i] := List.getElem?_eq_getElem (by omega)
            rw [hs, Option.bind_eq_some_iff] at hi'
            obtain ⟨ci, h1, h2⟩ := hi'
            obtain ⟨pi, h3, h4⟩ := trod_rep e te n ci _ hf1 h2
            exact ⟨ci, pi, h1, h3, h4⟩
          obtain ⟨g, off, rfl⟩ : ∃ g off, a = ⟨g, off, none⟩ := by
            obtain ⟨c0, p0, h1, h2, h3⟩ := each 0 hpl
            obtain ⟨_, hl0, hc0⟩ := World.cells?_some h1
            have h00 := hc0 0 (by omega)
            have : c0[0]? = some c0[0] := List.getElem?_eq_getElem (by omega)
            rw [this] at h00
            have hsp := World.cell?_spot h00
            simp [Addr.add] at hsp
            obtain ⟨g, off, sp⟩ := a
            simp at hsp
            subst hsp
            exact ⟨g, off, rfl⟩
          have hadd : ∀ j, (⟨g, off, none⟩ : Addr).add j = ⟨g, off + j, none⟩ := fun j => by unfold Addr.add; split <;> simp_all
          have build : ∀ k, k ≤ len → ∃ (ess : List (List PV)) (vs : List Value), ess.length = k ∧ vs.length = k * e.size ∧ RepL w (exIm w) ((ess.map e.mk).flatMap PV.cells) vs ∧ (∀ j, j < vs.length → w.cell? ⟨g, off + j, none⟩ = vs[j]?) ∧ ∀ c ∈ ess, HasTT e c := by
            intro k
            induction k with
            | zero => intro _; exact ⟨[], [], rfl, by simp, .nil, by simp, by simp⟩
            | succ k ih =>
              intro hk
              obtain ⟨ess, vs, e1, e2, e3, e4, e5⟩ := ih (by omega)
              obtain ⟨ci, pi, h1, h2, h3⟩ := each k hk
              obtain ⟨_, hl0, hc0⟩ := World.cells?_some h1
              refine ⟨ess ++ [pi], vs ++ ci, by simp [e1], by simp [e2, hl0, Nat.succ_mul], ?_, ?_, ?_⟩
              · simp only [List.map_append, List.map_cons, List.map_nil, List.flatMap_append, List.flatMap_cons, List.flatMap_nil, List.append_nil, mk_cells h3]
                exact e3.append h2
              · intro j hj
                by_cases hjv : j < vs.length
                · rw [List.getElem?_append_left hjv]; exact e4 j hjv
                · rw [List.getElem?_append_right (by omega)]
                  have hjc : j - vs.length < e.size := by simp at hj; omega
                  have := hc0 (j - vs.length) hjc
                  rw [hadd] at this
                  have hadd2 : (⟨g, off + k * e.size, none⟩ : Addr).add (j - vs.length) = ⟨g, off + k * e.size + (j - vs.length), none⟩ := by unfold Addr.add; split <;> simp_all
                  rw [hadd2] at this
                  rw [← this]
                  congr 2
                  omega
              · intro c hc
                rcases List.mem_append.1 hc with hc | hc
                · exact e5 c hc
                · simp at hc; subst hc; exact h3
          obtain ⟨ess, vs, e1, e2, e3, e4, e5⟩ := build len (Nat.le_refl _)
          refine ⟨[.slc (ess.map e.mk)], .cons _ _ _ _ ?_ .nil, by simp only [HasTT]; exact ⟨ess, rfl, by omega, e5⟩⟩
          refine .slc _ g off len cap e.size vs (by simpa using e1) (by omega) ?_ ?_ e4 e3 hl
          · intro x hx
            simp only [List.mem_map] at hx
            obtain ⟨c, hc, rfl⟩ := hx
            rw [mk_cells (e5 c hc)]
            exact (e5 c hc).length
          · intro j hj
            exact ⟨vs[j], by rw [e4 j hj, List.getElem?_eq_getElem hj]⟩
    · cases hf
  | .agg fs, t, fuel, cs, x, hf, h => by
    simp only [TT.fits] at hf
    split at hf
    · rename_i xs ht
      simp only [Bool.and_eq_true] at hf
      obtain ⟨hf1, hf2⟩ := hf
      obtain ⟨ys, n, rfl, _, hlen, hsz, hfl⟩ := DataW.trod_struct ht h
      have hall : ∀ (i : Nat) (f : Field), xs.toList[i]? = some f → ∃ y, DataW.trod enc P w base (fun _ => true) held n f.type ((cs.drop f.offset).take (P.cellsOf f.type)) = some y := by
        intro i f hi
        have hi' : xs[i]? = some f := by simpa using hi
        have := hfl i f hi'
        have hlt : i < ys.length := by rw [hsz]; exact (Array.getElem?_eq_some_iff.1 hi').1
        rw [List.getElem?_eq_getElem hlt] at this
        exact ⟨_, this⟩
      obtain ⟨pvs, h1, h2⟩ := trods_rep fs xs.toList 0 n cs hf1 hall (by rw [hlen, Nat.eq_of_beq_eq_true hf2]; simp)
      exact ⟨pvs, by simpa using h1, by simp only [HasTT]; exact h2⟩
    · cases hf
theorem trods_rep : ∀ (fs : List TT) (xs : List Field) (off n : Nat) (cs : List Value), TT.fitsL P fs xs off = true →
    (∀ (i : Nat) (f : Field), xs[i]? = some f → ∃ y, DataW.trod enc P w base (fun _ => true) held n f.type ((cs.drop f.offset).take (P.cellsOf f.type)) = some y) → cs.length = off + TT.sizes fs →
    ∃ pvs, RepL w (exIm w) pvs (cs.drop off) ∧ HasTTs fs pvs
  | [], [], off, n, cs, hf, h, hl => by
    simp only [TT.sizes] at hl
    refine ⟨[], ?_, by simp [HasTTs]⟩
    rw [List.drop_of_length_le (by omega)]
    exact .nil
  | [], _ :: _, _, _, _, hf, _, _ => by simp [TT.fitsL] at hf
  | _ :: _, [], _, _, _, hf, _, _ => by simp [TT.fitsL] at hf
  | f :: fs, x :: xs, off, n, cs, hf, h, hl => by
    simp only [TT.fitsL, Bool.and_eq_true] at hf
    obtain ⟨⟨⟨hf1, hf2⟩, hf3⟩, hf4⟩ := hf
    have e2 := Nat.eq_of_beq_eq_true hf2
    have e3 := Nat.eq_of_beq_eq_true hf3
    simp only [TT.sizes] at hl
    obtain ⟨y, hy⟩ := h 0 x (by simp)
    rw [e2, e3] at hy
    obtain ⟨a, h1, h2⟩ := trod_rep f x.type n _ y hf1 hy
    obtain ⟨b, h3, h4⟩ := trods_rep fs xs (off + f.size) n cs hf4 (fun i f hi => h (i + 1) f (by simpa using hi)) (by omega)
    refine ⟨a ++ b, ?_, by simp only [HasTTs]; exact ⟨a, b, rfl, h2, h4⟩⟩
    have : cs.drop off = (cs.drop off).take f.size ++ cs.drop (off + f.size) := by
      rw [← List.drop_drop, List.take_append_drop]
    rw [this]
    exact h1.append h3
end
end
end Go.Vl

namespace Go.Vl
open Go.RowKit

section
variable {H : Type} {enc : TypeId × Value → H} {P : Program} {W W' : World}

/-- One argument. -/
theorem arg_rep {tt : TT} {t : TypeId} {v : Value} {d : DataW H} {ps : List MemPlace} {b : Nat} (hf : tt.fits P t = true) (hok : Value.okWide P W .any b t v) (h : DataW.Trod enc P W 0 (fun _ => true) true t v d ps) :
    ∃ cs, HasTT tt cs ∧ Rep W (exIm W) (tt.mk cs) v := by
  obtain ⟨fuel, h⟩ := h
  obtain ⟨pvs, h1, h2⟩ := trod_rep tt t fuel _ _ hf h
  refine ⟨pvs, h2, ?_⟩
  have single : v.cells = #[v] → (∀ fs, tt ≠ .agg fs) → Rep W (exIm W) (tt.mk pvs) v := by
    intro hv hn
    rw [hv] at h1
    have hl := h1.length
    match pvs, hl with
    | [p], _ =>
      cases h1 with
      | cons _ _ _ _ h t =>
        cases tt with
        | agg fs => exact absurd rfl (hn fs)
        | _ => exact h
  cases tt with
  | bool =>
    simp only [TT.fits] at hf
    split at hf
    · rename_i ht; obtain ⟨x, rfl⟩ := WideShapes.okWide_bool ht hok; exact single rfl (by simp)
    · cases hf
  | int k =>
    simp only [TT.fits] at hf
    split at hf
    · rename_i ht; obtain ⟨x, rfl⟩ := WideShapes.okWide_int ht hok; exact single rfl (by simp)
    · cases hf
  | str =>
    simp only [TT.fits] at hf
    split at hf
    · rename_i ht; obtain ⟨x, rfl⟩ := WideShapes.okWide_string ht hok; exact single rfl (by simp)
    · cases hf
  | slc e =>
    simp only [TT.fits] at hf
    split at hf
    · rename_i te ht; obtain ⟨x, y, z, rfl⟩ := WideShapes.okWide_slice ht hok; exact single rfl (by simp)
    · cases hf
  | agg fs =>
    simp only [TT.fits] at hf
    split at hf
    · rename_i xs ht
      obtain ⟨cs, rfl, _⟩ := WideShapes.okWide_struct ht hok
      have := Rep.agg pvs _ h1
      simp only [Value.cells, Array.toArray_toList] at this
      exact this
    · cases hf

/-- What a law takes: values of its parameters' shapes. -/
def HasArgs : List TT → List PV → Prop
  | [], vs => vs = []
  | t :: ts, vs => ∃ c rest, vs = t.mk c :: rest ∧ HasTT t c ∧ HasArgs ts rest
def fitsAll (P : Program) : List TT → List TypeId → Bool
  | [], [] => true
  | tt :: tts, t :: ts => tt.fits P t && fitsAll P tts ts
  | _, _ => false

theorem args_rep {b : Nat} : ∀ (tts : List TT) (ts : List TypeId) (vs : List Value) (ds : List (DataW H)) (ps : List MemPlace), fitsAll P tts ts = true → (∀ (j : Nat) t v, ts[j]? = some t → vs[j]? = some v → Value.okWide P W .any b t v) →
    DataW.TrodAll enc P W 0 (fun _ => true) true ts vs ds ps → ∃ pvs, HasArgs tts pvs ∧ RepL W (exIm W) pvs vs ∧ ds.length = tts.length
  | [], [], [], [], _, _, _, _ => ⟨[], rfl, .nil, rfl⟩
  | tt :: tts, t :: ts, v :: vs, d :: ds, ps, hf, hok, h => by
    simp only [fitsAll, Bool.and_eq_true] at hf
    obtain ⟨p, q, h1, h2, _⟩ := h
    obtain ⟨c, h3, h4⟩ := arg_rep hf.1 (hok 0 t v rfl rfl) h1
    obtain ⟨pvs, h5, h6, h7⟩ := args_rep tts ts vs ds q hf.2 (fun j t v e1 e2 => hok (j + 1) t v (by simpa using e1) (by simpa using e2)) h2
    exact ⟨tt.mk c :: pvs, ⟨c, pvs, rfl, h3, h5⟩, .cons _ _ _ _ h4 h6, by simp [h7]⟩
  | [], _ :: _, _, _, _, hf, _, _ => by simp [fitsAll] at hf
  | _ :: _, [], _, _, _, hf, _, _ => by simp [fitsAll] at hf
  | [], [], [], _ :: _, _, _, _, h => h.elim
  | [], [], _ :: _, _, _, _, _, h => h.elim
  | _ :: _, _ :: _, [], _, _, _, _, h => h.elim
  | _ :: _, _ :: _, _ :: _, [], _, _, _, h => h.elim

theorem trodAll_stays {sp : Nat → Bool} (hl : laidOutB P = true) (hb : Below W.heap.size W W') : ∀ (ts : List TypeId) (vs : List Value) (ds : List (DataW H)) (ps : List MemPlace), (∀ t ∈ ts, P.readableRec t = true ∧ t < P.types.size) →
    DataW.TrodAll enc P W 0 (fun _ => true) true ts vs ds ps → (∀ p ∈ ps, p.block < W.heap.size) → (∀ p ∈ ps, sp p.block = true) → DataW.TrodAll enc P W' 0 sp true ts vs ds ps
  | [], [], [], _, _, h, _, _ => h
  | t :: ts, v :: vs, d :: ds, ps, ht, ⟨p, q, h1, h2, e⟩, hlt, hs => by
    subst e
    refine ⟨p, q, ?_, trodAll_stays hl hb ts vs ds q (fun t h => ht t (List.mem_cons_of_mem _ h)) h2 (fun x hx => hlt x (List.mem_append_right _ hx)) (fun x hx => hs x (List.mem_append_right _ hx)), rfl⟩
    exact WideElems.Trod_stays hl (ht t (by simp)).1 (ht t (by simp)).2 h1 (fun x hx => hb.same (hlt x (List.mem_append_left _ hx))) (fun x hx => hs x (List.mem_append_left _ hx))
  | [], [], _ :: _, _, _, h, _, _ => h.elim
  | [], _ :: _, _, _, _, h, _, _ => h.elim
  | _ :: _, [], _, _, _, h, _, _ => h.elim
  | _ :: _, _ :: _, [], _, _, h, _, _ => h.elim

/-- A law that answers true and changes nothing that was there. -/
theorem post_of_law {fn : Func} {s : ChangeSpec} {apart fresh handsOn again : Bool} {args : Array Value} {ds gs : List (DataW H)} {before : List MemPlace} {tb : TypeId} (hl : laidOutB P = true) (hvars : s.vars = []) (hres : fn.resultTypes = #[tb])
    (hbool : P.underlying tb = some .bool) (hts : ∀ t ∈ fn.params.toList, P.readableRec t = true ∧ t < P.types.size) (hW : DataW.Whole enc P fn.params.toList s.vars apart W args.toList ds gs before)
    (hs : s.fn H (ds ++ gs) = { results := [.lit (.bool true)], args := ds }) (hb : Below W.heap.size W W') : s.post enc P fn apart fresh handsOn again W args (.bool true) W' := by
  have hlt := hW.lt
  have hW' := hW
  obtain ⟨p, q, hA, hV, rfl, hz, hn⟩ := hW
  rw [hvars] at hV
  obtain ⟨rfl, rfl⟩ := ChangeShapes.trodVars_none hV
  have hargs : ∀ sp : Nat → Bool, (∀ x ∈ p, sp x.block = true) → DataW.TrodAll enc P W' 0 sp true fn.params.toList args.toList ds p := fun sp hsp =>
    trodAll_stays hl hb _ _ _ _ hts hA (fun x hx => hlt x (by simpa using hx)) hsp
  have hres' : ∀ (b : Nat) (sp : Nat → Bool) (hd : Bool), DataW.TrodAll enc P W' b sp hd fn.resultTypes.toList ((Value.bool true).resultList fn.resultTypes.size) [.lit (.bool true)] [] := by
    intro b sp hd
    rw [hres]
    exact ChangeShapes.trodAll_mk1 (shut_bool hbool true)
  have hok : ∀ (j : Nat) (t : TypeId) (r : Value), fn.resultTypes[j]? = some t → ((Value.bool true).resultList fn.resultTypes.size)[j]? = some r → Value.okWide P W' .any 0 t r := ok_one hres rfl (okWide_bool_mk hbool true)
  have hvs : ∀ sp : Nat → Bool, DataW.TrodVars enc P W' sp s.vars [] [] := fun sp => by rw [hvars]; rfl
  refine ⟨ds, [], p ++ [], [], p, [], hW', ?_, ?_, ?_, ?_, fun _ => ⟨hok, [.lit (.bool true)] ++ ds, [], ([] ++ p) ++ [], ⟨[] ++ p, [], ?_, hvs _, rfl, ?_, ?_⟩, ?_⟩⟩
  · rw [hs]; exact hres' _ _ _
  · rw [hs]; exact hargs _ fun x hx => by simpa using hlt x (by simpa using hx)
  · rw [hs]; exact hvs _
  · exact World.keptBut_mono (fun _ f => f.elim) (hb.frame fun _ => False)
  · exact ChangeShapes.trodAll_append (hargs _ fun _ _ => rfl) (hres' _ _ _)
  · intro b off hp
    have hp' : MemPlace.cell b off ∈ p := by simpa using hp
    have := hz b off (by simpa using hp')
    have hlt' := hlt _ (show MemPlace.cell b off ∈ p ++ [] by simpa using hp')
    rw [← this]
    exact hb.frozen hlt'
  · intro ha
    have := hn ha
    simpa using this
  · intro x hx _
    simpa using hx

/-- A law, over all that it can be given. -/
theorem law_lifted {a : Assume} {C : Checked} {os : Os} {f : FuncId} {fn : Func} {s : ChangeSpec} {conds : List PathCond} {apart fresh handsOn again : Bool} {tb : TypeId} (tts : List TT)
    (own : ownKnob C.prog.godebug = none) (started : os.Started) (noInit : C.prog.inits.idxOf? f = none) (hfn : C.prog.funcs[f]? = some fn)
    (witness : ∃ (w : World) (tape : Tape) (i : Input), w.os = os ∧ (w.forCall tape i).Shaped C.prog ∧ i.vars = [] ∧ Input.okWide C.prog (w.forCall tape i) .any w.heap.size f i ∧
      s.pre6 enc C.prog fn conds apart (w.forCall tape i).memory i.args ∧ a.holds C.prog (lone (Frame.enter C.prog f i.args .normal) [] (w.forCall tape i)))
    (hl : laidOutB C.prog = true) (hvars : s.vars = []) (hres : fn.resultTypes = #[tb]) (hbool : C.prog.underlying tb = some .bool) (hts : (fn.params.toList.all fun t => C.prog.readableRec t && decide (t < C.prog.types.size)) = true)
    (hfit : fitsAll C.prog tts fn.params.toList = true) (hs : ∀ ds : List (DataW H), ds.length = tts.length → s.fn H ds = { results := [.lit (.bool true)], args := ds })
    (hcl : callable C.prog f = true) (hnv : C.prog.globalNamed powName = none) (law : ∀ pvs, HasArgs tts pvs → SoundAt C.prog f pvs (.bool true)) :
    ReturnsInHanded a C os f .any (s.pre6 enc C.prog fn conds apart) (s.post enc C.prog fn apart fresh handsOn again) := by
  refine returnsInHanded_of_change own started noInit hfn witness ?_
  intro W base args ds gs before hval hW _ _
  have hW' := hW
  obtain ⟨p, q, hA, hV, rfl, hz, hn⟩ := hW
  rw [hvars] at hV
  obtain ⟨rfl, rfl⟩ := ChangeShapes.trodVars_none hV
  obtain ⟨pvs, h1, h2, h3⟩ := args_rep tts fn.params.toList args.toList ds p hfit (fun j t v e1 e2 => hval j t v (by simpa using e1) (by simpa using e2)) hA
  have hts' : ∀ t ∈ fn.params.toList, C.prog.readableRec t = true ∧ t < C.prog.types.size := by
    intro t ht
    have := List.all_eq_true.1 hts t ht
    simpa using this
  have hcall := ((law pvs h1).resolve_right (fun x => by rw [hcl] at x; cases x.1)).2 W (exIm W) args.toList W.heap.size (Nat.le_refl _) (fun g hg => by rw [hnv] at hg; cases hg) h2 (fun g j x => x)
  refine (by simpa using hcall : Calls C.prog f args W _).mono ?_
  rintro e W' ⟨v, rfl, hb, hr⟩
  have hv : v = .bool true := by cases hr; rfl
  subst hv
  exact ⟨_, rfl, post_of_law hl hvars hres hbool hts' hW' (by rw [List.append_nil]; exact hs ds h3) hb⟩
end
end Go.Vl

namespace Go.Vl
theorem rng_1 : List.range 1 = [0] := rfl
theorem rng_2 : List.range 2 = [0, 1] := rfl
theorem rng_3 : List.range 3 = [0, 1, 2] := rfl
theorem rng_4 : List.range 4 = [0, 1, 2, 3] := rfl
theorem rng_5 : List.range 5 = [0, 1, 2, 3, 4] := rfl
theorem rng_6 : List.range 6 = [0, 1, 2, 3, 4, 5] := rfl
theorem rng_7 : List.range 7 = [0, 1, 2, 3, 4, 5, 6] := rfl
theorem rng_8 : List.range 8 = [0, 1, 2, 3, 4, 5, 6, 7] := rfl
section
variable (cs : List PV) (b : Bool) (k : IntKind) (n : Int) (s : ByteArray) (e i o l : Nat) (f : FuncId) (a c : List PV)
theorem c_agg : (PV.agg cs).cells = cs := rfl
theorem c_bool : (PV.bool b).cells = [.bool b] := rfl
theorem c_int : (PV.int k n).cells = [.int k n] := rfl
theorem c_str : (PV.str s).cells = [.str s] := rfl
theorem c_nilS : PV.nilS.cells = [.nilS] := rfl
theorem c_nilF : PV.nilF.cells = [.nilF] := rfl
theorem c_nilI : PV.nilI.cells = [.nilI] := rfl
theorem c_slc : (PV.slc cs).cells = [.slc cs] := rfl
theorem c_tup : (PV.tup cs).cells = [.tup cs] := rfl
theorem c_rp : (PV.rp cs).cells = [.rp cs] := rfl
theorem c_bp : (PV.bp e i o l).cells = [.bp e i o l] := rfl
theorem c_bs : (PV.bs e i o l).cells = [.bs e i o l] := rfl
theorem c_fn : (PV.fn f a c).cells = [.fn f a c] := rfl
theorem k_agg : (PV.agg cs).okCell = false := rfl
theorem k_bool : (PV.bool b).okCell = true := rfl
theorem k_int : (PV.int k n).okCell = true := rfl
theorem k_str : (PV.str s).okCell = true := rfl
theorem k_nilS : PV.nilS.okCell = true := rfl
theorem k_nilF : PV.nilF.okCell = true := rfl
theorem k_nilI : PV.nilI.okCell = true := rfl
theorem k_slc : (PV.slc cs).okCell = true := rfl
theorem k_tup : (PV.tup cs).okCell = false := rfl
theorem k_rp : (PV.rp cs).okCell = true := rfl
theorem k_bp : (PV.bp e i o l).okCell = true := rfl
theorem k_bs : (PV.bs e i o l).okCell = true := rfl
theorem k_fn : (PV.fn f a c).okCell = true := rfl
end
attribute [go_sem] c_agg c_bool c_int c_str c_nilS c_nilF c_nilI c_slc c_tup c_rp c_bp c_bs c_fn k_agg k_bool k_int k_str k_nilS k_nilF k_nilI k_slc k_tup k_rp k_bp k_bs k_fn Int.toNat_natCast Int.toNat_zero Int.le_refl
theorem o_call0 (P : Program) (id : Nat) (bx : Bx) (fo : Operand) (xs0 : Array Operand) (ts : Array TypeId) (f : FuncId) (first cap args : List PV) : opVal P [] id (.call ⟨.value fo, xs0, ts⟩) (.fn f first cap :: args) bx =
    M.bind (escCL first) (fun x => .bind (esc1L args) fun y => .bind (escCL cap) fun z => .pure (.call f (x.1 ++ y.1 ++ z.1) (x.2 ++ y.2 ++ z.2))) bx := rfl
attribute [go_sem] o_call0
theorem toArr_none : (none : Option Operand).toArray = #[] := rfl
theorem toArr_some (x : Operand) : (some x).toArray = #[x] := rfl
attribute [go_sem] toArr_none toArr_some List.range_zero Nat.le_refl Nat.zero_le
attribute [go_sem] g_nil g_blk g_again g_skip g_label g_seq g_block g_exit gexit_blk gexit_code gexit_again gexit_nil
attribute [go_sem] g_ret g_cond gcond_true gcond_false g_region gops_nil gops_cons gwanted_false gwanted_true gvals_some gout_done gout_call
attribute [go_sem] gout_callB gout_yield gland_some drawQ_false vret_ret vret_normal backB_some o_move o_assign o_nilCheck_bp o_nilCheck_rp o_nilCheck_fn
attribute [go_sem] o_pick_t o_pick_f o_alloc o_box o_build o_buildSlice o_load_bp o_load_rp o_store o_bin o_not o_neg
attribute [go_sem] o_conv o_makeFunc o_makeSlice o_slice0 o_slice1 o_slice2 o_slice3 o_fieldAddr_bp o_fieldAddr_rp o_field o_indexAddr_bp o_indexAddr_rp
attribute [go_sem] o_indexAddr_bs o_indexAddr_slc o_index_agg o_index_str o_extract o_len o_append o_max o_min o_call o_lend o_copy
attribute [go_sem] o_clear o_yld b_add b_sub b_mul b_quo b_rem b_and b_or b_eql b_neq b_lss
attribute [go_sem] b_leq b_gtr b_geq b_shl b_shr b_str b_beq b_bne dstOk wantedPV guardTmp St.evs
attribute [go_sem] St.ev Op.operands Call.operands M.bind M.pure M.ofOpt M.ok M.soft M.hard of_put of_put_none of_var
attribute [go_sem] of_box of_setBox of_keep keepVars lkp constPV constCell constCells initVars effsOn_nil effsOn_cons Eff.on
attribute [go_sem] effAcc Eff.id Eff.hard resPV resCells resCell tupOf esc0 escL escC escCL esc1
attribute [go_sem] esc1L partPV Vl.newVar okCells    PV.putCells PV.one flatPV flat1 flat0 Box.soft
attribute [go_sem] List.toList_toArray List.getElem?_toArray List.getElem?_cons_zero List.getElem?_cons_succ Option.bind_some Option.map_some Option.bind_none Option.map_none List.map_cons List.map_nil List.append_nil List.nil_append
attribute [go_sem] List.cons_append decide_true decide_false if_true if_false true_and and_true Bool.and_true Bool.true_and Bool.and_self beq_self_eq_true List.all_cons
attribute [go_sem] List.all_nil List.length_cons List.length_nil Nat.zero_add Nat.add_zero Nat.zero_mul List.drop_zero List.contains_cons gt_iff_lt ge_iff_le Option.isNone_none Option.isNone_some
attribute [go_sem] Array.toList_empty Array.append_empty Array.empty_append List.size_toArray List.take_zero List.push_toArray List.append_toArray Option.isSome_some Option.isSome_none List.drop_succ_cons List.take_succ_cons List.take_nil
attribute [go_sem] List.drop_nil List.getElem_cons_zero List.getElem_cons_succ Nat.not_lt_zero Bool.false_eq_true Bool.true_eq_false not_true_eq_false not_false_eq_true if_neg Nat.lt_irrefl Bool.not_true Bool.not_false
attribute [go_sem] Bool.and_false Bool.false_and Bool.or_false Bool.or_true Bool.false_or Bool.true_or List.flatMap_cons List.flatMap_nil List.set_cons_zero List.set_cons_succ beq_true beq_false
attribute [go_sem] Bool.true_beq Bool.false_beq eq_self Bool.not_not ite_self ne_eq of_yld of_out of_yl slicePV boundsPV appendPV
attribute [go_sem] fillPV minMax shiftInt convM convPV isBytes copyPV clearPV Box.over eqCells lendCall lendL
attribute [go_sem] lend1 lentBoxes freeIds okMap rlk land landBoxes ren0 ren0L ren1 ren1L ren2
attribute [go_sem] flatB flatr flatr0 flatr1 flatc extCell Box.ext LENT YID List.zip_cons_cons List.zip_nil_left List.zip_nil_right
attribute [go_sem] b_nilnil b_slcnil b_bsnil nilCmp List.isEmpty_cons List.isEmpty_map
attribute [go_sem] rng_1 rng_2 rng_3 rng_4 rng_5 rng_6 rng_7 rng_8 Option.getD_some Option.getD_none

section
variable {vs vs' : List (Nat × PV)} {bs bs' : List (Nat × Box)} {o : List (List PV)} {y : Yl}
theorem le_nilG (t b esz : Nat) (ety : TypeId) (hbL : Nat.blt b LENT = true) (ht : lkp vs t = some .nilS) (hb : lkp bs b = none) (hz : 0 < esz) :
    Le (St.ofG vs bs o y) (St.ofG ((t, .bs b esz 0 0) :: vs) ((b, { els := [], esz := esz, ety := ety, fro := 0, live := true, arr := true }) :: bs) o y) := le_nil hbL ht hb hz
/-- A loop is come to with a slice that is nil. -/
theorem le_nil1 (t b esz : Nat) (ety : TypeId) (hbL : Nat.blt b LENT = true) (ht : lkp vs t = some .nilS) (hb : lkp bs b = none) (hz : 0 < esz) (θ : List (Nat × Nat)) (hθ : okTheta θ bs' = true)
    (hv : varsLe θ ((t, .bs b esz 0 0) :: vs) vs') (hbx : boxesLe θ ((b, { els := [], esz := esz, ety := ety, fro := 0, live := true, arr := true }) :: bs) bs') : Le (St.ofG vs bs o y) (St.ofG vs' bs' o y) :=
  (le_nilG t b esz ety hbL ht hb hz).trans (le_of hθ hv hbx)
end
end Go.Vl

namespace Go.Proofs.YtnpclmmmngmdkaaGreat
open Go.Vl

theorem mixed : Tryz.prog.follows .mixedOrders = true := by kernel_rfl
theorem T_ok3 : tyOk Tryz.prog 3 = true := by kernel_rfl
theorem T_agg3 : tyAgg Tryz.prog 3 = false := by kernel_rfl
theorem T_isinfo3 : (Tryz.prog.info? 3).isSome = true := by kernel_rfl
theorem T_info3 : tyInfo Tryz.prog 3 = some (1, 8) := by kernel_rfl
theorem T_cells3 : Tryz.prog.cellsOf 3 = 1 := by kernel_rfl
theorem T_zero3 : zeroPV Tryz.prog 3 = some (PV.int IntKind.i64 0) := by kernel_rfl
theorem T_int3 : Tryz.prog.underlying 3 = some (.int .i64) := by kernel_rfl
theorem T_ok4 : tyOk Tryz.prog 4 = true := by kernel_rfl
theorem T_agg4 : tyAgg Tryz.prog 4 = false := by kernel_rfl
theorem T_isinfo4 : (Tryz.prog.info? 4).isSome = true := by kernel_rfl
theorem T_info4 : tyInfo Tryz.prog 4 = some (1, 1) := by kernel_rfl
theorem T_cells4 : Tryz.prog.cellsOf 4 = 1 := by kernel_rfl
theorem T_zero4 : zeroPV Tryz.prog 4 = some (PV.bool Bool.false) := by kernel_rfl
theorem T_bool4 : Tryz.prog.underlying 4 = some .bool := by kernel_rfl
theorem T_ok5 : tyOk Tryz.prog 5 = true := by kernel_rfl
theorem T_agg5 : tyAgg Tryz.prog 5 = false := by kernel_rfl
theorem T_isinfo5 : (Tryz.prog.info? 5).isSome = true := by kernel_rfl
theorem T_info5 : tyInfo Tryz.prog 5 = some (1, 1) := by kernel_rfl
theorem T_cells5 : Tryz.prog.cellsOf 5 = 1 := by kernel_rfl
theorem T_zero5 : zeroPV Tryz.prog 5 = some (PV.int IntKind.u8 0) := by kernel_rfl
theorem T_int5 : Tryz.prog.underlying 5 = some (.int .u8) := by kernel_rfl
theorem T_ok9 : tyOk Tryz.prog 9 = true := by kernel_rfl
theorem T_agg9 : tyAgg Tryz.prog 9 = false := by kernel_rfl
theorem T_isinfo9 : (Tryz.prog.info? 9).isSome = true := by kernel_rfl
theorem T_info9 : tyInfo Tryz.prog 9 = some (1, 16) := by kernel_rfl
theorem T_cells9 : Tryz.prog.cellsOf 9 = 1 := by kernel_rfl
theorem T_zero9 : zeroPV Tryz.prog 9 = some (PV.str { data := { toList := [] } }) := by kernel_rfl
theorem T_str9 : Tryz.prog.underlying 9 = some .string := by kernel_rfl
theorem T_len9t (s : ByteArray) : lenPV Tryz.prog 9 (.str s) = some (.int .i64 s.size) := by simp only [lenPV, T_str9]
theorem T_ok22 : tyOk Tryz.prog 22 = true := by kernel_rfl
theorem T_agg22 : tyAgg Tryz.prog 22 = false := by kernel_rfl
theorem T_isinfo22 : (Tryz.prog.info? 22).isSome = true := by kernel_rfl
theorem T_info22 : tyInfo Tryz.prog 22 = some (1, 24) := by kernel_rfl
theorem T_cells22 : Tryz.prog.cellsOf 22 = 1 := by kernel_rfl
theorem T_zero22 : zeroPV Tryz.prog 22 = some PV.nilS := by kernel_rfl
theorem T_elem22 : tyElem Tryz.prog 22 = some 30 := by kernel_rfl
theorem T_under22 : Tryz.prog.underlying 22 = some (.slice 30) := by kernel_rfl
theorem T_len22s (es : List PV) : lenPV Tryz.prog 22 (.slc es) = some (.int .i64 es.length) := by simp only [lenPV, T_under22]
theorem T_len22n  : lenPV Tryz.prog 22 .nilS = some (.int .i64 0) := by simp only [lenPV, T_under22]
theorem T_len22b (b e o n : Nat) : lenPV Tryz.prog 22 (.bs b e o n) = some (.int .i64 n) := by simp only [lenPV, T_under22]
theorem T_ok25 : tyOk Tryz.prog 25 = true := by kernel_rfl
theorem T_agg25 : tyAgg Tryz.prog 25 = false := by kernel_rfl
theorem T_isinfo25 : (Tryz.prog.info? 25).isSome = true := by kernel_rfl
theorem T_info25 : tyInfo Tryz.prog 25 = some (1, 24) := by kernel_rfl
theorem T_cells25 : Tryz.prog.cellsOf 25 = 1 := by kernel_rfl
theorem T_zero25 : zeroPV Tryz.prog 25 = some PV.nilS := by kernel_rfl
theorem T_elem25 : tyElem Tryz.prog 25 = some 30 := by kernel_rfl
theorem T_under25 : Tryz.prog.underlying 25 = some (.slice 30) := by kernel_rfl
theorem T_len25s (es : List PV) : lenPV Tryz.prog 25 (.slc es) = some (.int .i64 es.length) := by simp only [lenPV, T_under25]
theorem T_len25n  : lenPV Tryz.prog 25 .nilS = some (.int .i64 0) := by simp only [lenPV, T_under25]
theorem T_len25b (b e o n : Nat) : lenPV Tryz.prog 25 (.bs b e o n) = some (.int .i64 n) := by simp only [lenPV, T_under25]
theorem T_ok26 : tyOk Tryz.prog 26 = true := by kernel_rfl
theorem T_agg26 : tyAgg Tryz.prog 26 = false := by kernel_rfl
theorem T_isinfo26 : (Tryz.prog.info? 26).isSome = true := by kernel_rfl
theorem T_info26 : tyInfo Tryz.prog 26 = some (1, 8) := by kernel_rfl
theorem T_cells26 : Tryz.prog.cellsOf 26 = 1 := by kernel_rfl
theorem T_zero26 : zeroPV Tryz.prog 26 = some (PV.int IntKind.i64 0) := by kernel_rfl
theorem T_int26 : Tryz.prog.underlying 26 = some (.int .i64) := by kernel_rfl
theorem T_ok30 : tyOk Tryz.prog 30 = true := by kernel_rfl
theorem T_agg30 : tyAgg Tryz.prog 30 = true := by kernel_rfl
theorem T_isinfo30 : (Tryz.prog.info? 30).isSome = true := by kernel_rfl
theorem T_info30 : tyInfo Tryz.prog 30 = some (2, 24) := by kernel_rfl
theorem T_cells30 : Tryz.prog.cellsOf 30 = 2 := by kernel_rfl
theorem T_zero30 : zeroPV Tryz.prog 30 = some (PV.agg [PV.bool Bool.false, PV.str { data := { toList := [] } }]) := by kernel_rfl
theorem T_build30 : buildable Tryz.prog 30 = true := by kernel_rfl
theorem T_f30_0 : tyField Tryz.prog 30 0 = some (0, 4, 1) := by kernel_rfl
theorem T_p30_0 : placePV Tryz.prog 30 0 = some (0, 1) := by kernel_rfl
theorem T_f30_1 : tyField Tryz.prog 30 1 = some (1, 9, 1) := by kernel_rfl
theorem T_p30_1 : placePV Tryz.prog 30 1 = some (1, 1) := by kernel_rfl
theorem T_eqs30 : eqShapeS Tryz.prog 30 = some [0, 2] := by kernel_rfl
theorem T_ok32 : tyOk Tryz.prog 32 = true := by kernel_rfl
theorem T_agg32 : tyAgg Tryz.prog 32 = true := by kernel_rfl
theorem T_isinfo32 : (Tryz.prog.info? 32).isSome = true := by kernel_rfl
theorem T_info32 : tyInfo Tryz.prog 32 = some (4, 48) := by kernel_rfl
theorem T_cells32 : Tryz.prog.cellsOf 32 = 4 := by kernel_rfl
theorem T_zero32 : zeroPV Tryz.prog 32 = some (PV.agg [PV.bool Bool.false, PV.str { data := { toList := [] } }, PV.bool Bool.false, PV.str { data := { toList := [] } }]) := by kernel_rfl
theorem T_build32 : buildable Tryz.prog 32 = true := by kernel_rfl
theorem T_f32_0 : tyField Tryz.prog 32 0 = some (0, 30, 2) := by kernel_rfl
theorem T_p32_0 : placePV Tryz.prog 32 0 = some (0, 2) := by kernel_rfl
theorem T_f32_1 : tyField Tryz.prog 32 1 = some (2, 30, 2) := by kernel_rfl
theorem T_p32_1 : placePV Tryz.prog 32 1 = some (2, 2) := by kernel_rfl
theorem T_eqs32 : eqShapeS Tryz.prog 32 = some [0, 2, 0, 2] := by kernel_rfl
theorem T_ok35 : tyOk Tryz.prog 35 = true := by kernel_rfl
theorem T_agg35 : tyAgg Tryz.prog 35 = false := by kernel_rfl
theorem T_isinfo35 : (Tryz.prog.info? 35).isSome = true := by kernel_rfl
theorem T_info35 : tyInfo Tryz.prog 35 = some (1, 24) := by kernel_rfl
theorem T_cells35 : Tryz.prog.cellsOf 35 = 1 := by kernel_rfl
theorem T_zero35 : zeroPV Tryz.prog 35 = some PV.nilS := by kernel_rfl
theorem T_elem35 : tyElem Tryz.prog 35 = some 3 := by kernel_rfl
theorem T_under35 : Tryz.prog.underlying 35 = some (.slice 3) := by kernel_rfl
theorem T_len35s (es : List PV) : lenPV Tryz.prog 35 (.slc es) = some (.int .i64 es.length) := by simp only [lenPV, T_under35]
theorem T_len35n  : lenPV Tryz.prog 35 .nilS = some (.int .i64 0) := by simp only [lenPV, T_under35]
theorem T_len35b (b e o n : Nat) : lenPV Tryz.prog 35 (.bs b e o n) = some (.int .i64 n) := by simp only [lenPV, T_under35]
theorem T_ok37 : tyOk Tryz.prog 37 = true := by kernel_rfl
theorem T_agg37 : tyAgg Tryz.prog 37 = true := by kernel_rfl
theorem T_isinfo37 : (Tryz.prog.info? 37).isSome = true := by kernel_rfl
theorem T_info37 : tyInfo Tryz.prog 37 = some (2, 32) := by kernel_rfl
theorem T_cells37 : Tryz.prog.cellsOf 37 = 2 := by kernel_rfl
theorem T_zero37 : zeroPV Tryz.prog 37 = some (PV.agg [PV.bool Bool.false, PV.nilS]) := by kernel_rfl
theorem T_build37 : buildable Tryz.prog 37 = true := by kernel_rfl
theorem T_f37_0 : tyField Tryz.prog 37 0 = some (0, 4, 1) := by kernel_rfl
theorem T_p37_0 : placePV Tryz.prog 37 0 = some (0, 1) := by kernel_rfl
theorem T_f37_1 : tyField Tryz.prog 37 1 = some (1, 35, 1) := by kernel_rfl
theorem T_p37_1 : placePV Tryz.prog 37 1 = some (1, 1) := by kernel_rfl
theorem T_ok39 : tyOk Tryz.prog 39 = true := by kernel_rfl
theorem T_agg39 : tyAgg Tryz.prog 39 = true := by kernel_rfl
theorem T_isinfo39 : (Tryz.prog.info? 39).isSome = true := by kernel_rfl
theorem T_info39 : tyInfo Tryz.prog 39 = some (4, 64) := by kernel_rfl
theorem T_cells39 : Tryz.prog.cellsOf 39 = 4 := by kernel_rfl
theorem T_zero39 : zeroPV Tryz.prog 39 = some (PV.agg [PV.bool Bool.false, PV.nilS, PV.bool Bool.false, PV.nilS]) := by kernel_rfl
theorem T_build39 : buildable Tryz.prog 39 = true := by kernel_rfl
theorem T_f39_0 : tyField Tryz.prog 39 0 = some (0, 37, 2) := by kernel_rfl
theorem T_p39_0 : placePV Tryz.prog 39 0 = some (0, 2) := by kernel_rfl
theorem T_f39_1 : tyField Tryz.prog 39 1 = some (2, 37, 2) := by kernel_rfl
theorem T_p39_1 : placePV Tryz.prog 39 1 = some (2, 2) := by kernel_rfl
theorem T_ok43 : tyOk Tryz.prog 43 = true := by kernel_rfl
theorem T_agg43 : tyAgg Tryz.prog 43 = false := by kernel_rfl
theorem T_isinfo43 : (Tryz.prog.info? 43).isSome = true := by kernel_rfl
theorem T_info43 : tyInfo Tryz.prog 43 = some (1, 24) := by kernel_rfl
theorem T_cells43 : Tryz.prog.cellsOf 43 = 1 := by kernel_rfl
theorem T_zero43 : zeroPV Tryz.prog 43 = some PV.nilS := by kernel_rfl
theorem T_elem43 : tyElem Tryz.prog 43 = some 37 := by kernel_rfl
theorem T_under43 : Tryz.prog.underlying 43 = some (.slice 37) := by kernel_rfl
theorem T_len43s (es : List PV) : lenPV Tryz.prog 43 (.slc es) = some (.int .i64 es.length) := by simp only [lenPV, T_under43]
theorem T_len43n  : lenPV Tryz.prog 43 .nilS = some (.int .i64 0) := by simp only [lenPV, T_under43]
theorem T_len43b (b e o n : Nat) : lenPV Tryz.prog 43 (.bs b e o n) = some (.int .i64 n) := by simp only [lenPV, T_under43]
theorem T_ok49 : tyOk Tryz.prog 49 = true := by kernel_rfl
theorem T_agg49 : tyAgg Tryz.prog 49 = false := by kernel_rfl
theorem T_isinfo49 : (Tryz.prog.info? 49).isSome = true := by kernel_rfl
theorem T_info49 : tyInfo Tryz.prog 49 = some (1, 24) := by kernel_rfl
theorem T_cells49 : Tryz.prog.cellsOf 49 = 1 := by kernel_rfl
theorem T_zero49 : zeroPV Tryz.prog 49 = some PV.nilS := by kernel_rfl
theorem T_elem49 : tyElem Tryz.prog 49 = some 37 := by kernel_rfl
theorem T_under49 : Tryz.prog.underlying 49 = some (.slice 37) := by kernel_rfl
theorem T_len49s (es : List PV) : lenPV Tryz.prog 49 (.slc es) = some (.int .i64 es.length) := by simp only [lenPV, T_under49]
theorem T_len49n  : lenPV Tryz.prog 49 .nilS = some (.int .i64 0) := by simp only [lenPV, T_under49]
theorem T_len49b (b e o n : Nat) : lenPV Tryz.prog 49 (.bs b e o n) = some (.int .i64 n) := by simp only [lenPV, T_under49]
theorem T_ok66 : tyOk Tryz.prog 66 = true := by kernel_rfl
theorem T_agg66 : tyAgg Tryz.prog 66 = false := by kernel_rfl
theorem T_isinfo66 : (Tryz.prog.info? 66).isSome = true := by kernel_rfl
theorem T_info66 : tyInfo Tryz.prog 66 = some (1, 24) := by kernel_rfl
theorem T_cells66 : Tryz.prog.cellsOf 66 = 1 := by kernel_rfl
theorem T_zero66 : zeroPV Tryz.prog 66 = some PV.nilS := by kernel_rfl
theorem T_elem66 : tyElem Tryz.prog 66 = some 32 := by kernel_rfl
theorem T_under66 : Tryz.prog.underlying 66 = some (.slice 32) := by kernel_rfl
theorem T_len66s (es : List PV) : lenPV Tryz.prog 66 (.slc es) = some (.int .i64 es.length) := by simp only [lenPV, T_under66]
theorem T_len66n  : lenPV Tryz.prog 66 .nilS = some (.int .i64 0) := by simp only [lenPV, T_under66]
theorem T_len66b (b e o n : Nat) : lenPV Tryz.prog 66 (.bs b e o n) = some (.int .i64 n) := by simp only [lenPV, T_under66]
theorem T_ok78 : tyOk Tryz.prog 78 = true := by kernel_rfl
theorem T_agg78 : tyAgg Tryz.prog 78 = false := by kernel_rfl
theorem T_isinfo78 : (Tryz.prog.info? 78).isSome = true := by kernel_rfl
theorem T_info78 : tyInfo Tryz.prog 78 = some (1, 24) := by kernel_rfl
theorem T_cells78 : Tryz.prog.cellsOf 78 = 1 := by kernel_rfl
theorem T_zero78 : zeroPV Tryz.prog 78 = some PV.nilS := by kernel_rfl
theorem T_elem78 : tyElem Tryz.prog 78 = some 30 := by kernel_rfl
theorem T_under78 : Tryz.prog.underlying 78 = some (.slice 30) := by kernel_rfl
theorem T_len78s (es : List PV) : lenPV Tryz.prog 78 (.slc es) = some (.int .i64 es.length) := by simp only [lenPV, T_under78]
theorem T_len78n  : lenPV Tryz.prog 78 .nilS = some (.int .i64 0) := by simp only [lenPV, T_under78]
theorem T_len78b (b e o n : Nat) : lenPV Tryz.prog 78 (.bs b e o n) = some (.int .i64 n) := by simp only [lenPV, T_under78]
theorem T_ok84 : tyOk Tryz.prog 84 = true := by kernel_rfl
theorem T_agg84 : tyAgg Tryz.prog 84 = false := by kernel_rfl
theorem T_isinfo84 : (Tryz.prog.info? 84).isSome = true := by kernel_rfl
theorem T_info84 : tyInfo Tryz.prog 84 = some (1, 24) := by kernel_rfl
theorem T_cells84 : Tryz.prog.cellsOf 84 = 1 := by kernel_rfl
theorem T_zero84 : zeroPV Tryz.prog 84 = some PV.nilS := by kernel_rfl
theorem T_elem84 : tyElem Tryz.prog 84 = some 78 := by kernel_rfl
theorem T_under84 : Tryz.prog.underlying 84 = some (.slice 78) := by kernel_rfl
theorem T_len84s (es : List PV) : lenPV Tryz.prog 84 (.slc es) = some (.int .i64 es.length) := by simp only [lenPV, T_under84]
theorem T_len84n  : lenPV Tryz.prog 84 .nilS = some (.int .i64 0) := by simp only [lenPV, T_under84]
theorem T_len84b (b e o n : Nat) : lenPV Tryz.prog 84 (.bs b e o n) = some (.int .i64 n) := by simp only [lenPV, T_under84]
theorem T_ok85 : tyOk Tryz.prog 85 = true := by kernel_rfl
theorem T_agg85 : tyAgg Tryz.prog 85 = false := by kernel_rfl
theorem T_isinfo85 : (Tryz.prog.info? 85).isSome = true := by kernel_rfl
theorem T_info85 : tyInfo Tryz.prog 85 = some (1, 8) := by kernel_rfl
theorem T_cells85 : Tryz.prog.cellsOf 85 = 1 := by kernel_rfl
theorem T_zero85 : zeroPV Tryz.prog 85 = some PV.nilF := by kernel_rfl
theorem T_ok104 : tyOk Tryz.prog 104 = true := by kernel_rfl
theorem T_agg104 : tyAgg Tryz.prog 104 = false := by kernel_rfl
theorem T_isinfo104 : (Tryz.prog.info? 104).isSome = true := by kernel_rfl
theorem T_info104 : tyInfo Tryz.prog 104 = some (1, 24) := by kernel_rfl
theorem T_cells104 : Tryz.prog.cellsOf 104 = 1 := by kernel_rfl
theorem T_zero104 : zeroPV Tryz.prog 104 = some PV.nilS := by kernel_rfl
theorem T_elem104 : tyElem Tryz.prog 104 = some 43 := by kernel_rfl
theorem T_under104 : Tryz.prog.underlying 104 = some (.slice 43) := by kernel_rfl
theorem T_len104s (es : List PV) : lenPV Tryz.prog 104 (.slc es) = some (.int .i64 es.length) := by simp only [lenPV, T_under104]
theorem T_len104n  : lenPV Tryz.prog 104 .nilS = some (.int .i64 0) := by simp only [lenPV, T_under104]
theorem T_len104b (b e o n : Nat) : lenPV Tryz.prog 104 (.bs b e o n) = some (.int .i64 n) := by simp only [lenPV, T_under104]
theorem T_ok114 : tyOk Tryz.prog 114 = true := by kernel_rfl
theorem T_agg114 : tyAgg Tryz.prog 114 = false := by kernel_rfl
theorem T_isinfo114 : (Tryz.prog.info? 114).isSome = true := by kernel_rfl
theorem T_info114 : tyInfo Tryz.prog 114 = some (1, 24) := by kernel_rfl
theorem T_cells114 : Tryz.prog.cellsOf 114 = 1 := by kernel_rfl
theorem T_zero114 : zeroPV Tryz.prog 114 = some PV.nilS := by kernel_rfl
theorem T_elem114 : tyElem Tryz.prog 114 = some 5 := by kernel_rfl
theorem T_under114 : Tryz.prog.underlying 114 = some (.slice 5) := by kernel_rfl
theorem T_len114s (es : List PV) : lenPV Tryz.prog 114 (.slc es) = some (.int .i64 es.length) := by simp only [lenPV, T_under114]
theorem T_len114n  : lenPV Tryz.prog 114 .nilS = some (.int .i64 0) := by simp only [lenPV, T_under114]
theorem T_len114b (b e o n : Nat) : lenPV Tryz.prog 114 (.bs b e o n) = some (.int .i64 n) := by simp only [lenPV, T_under114]
theorem T_ok119 : tyOk Tryz.prog 119 = true := by kernel_rfl
theorem T_agg119 : tyAgg Tryz.prog 119 = false := by kernel_rfl
theorem T_isinfo119 : (Tryz.prog.info? 119).isSome = true := by kernel_rfl
theorem T_info119 : tyInfo Tryz.prog 119 = some (1, 24) := by kernel_rfl
theorem T_cells119 : Tryz.prog.cellsOf 119 = 1 := by kernel_rfl
theorem T_zero119 : zeroPV Tryz.prog 119 = some PV.nilS := by kernel_rfl
theorem T_elem119 : tyElem Tryz.prog 119 = some 137 := by kernel_rfl
theorem T_under119 : Tryz.prog.underlying 119 = some (.slice 137) := by kernel_rfl
theorem T_len119s (es : List PV) : lenPV Tryz.prog 119 (.slc es) = some (.int .i64 es.length) := by simp only [lenPV, T_under119]
theorem T_len119n  : lenPV Tryz.prog 119 .nilS = some (.int .i64 0) := by simp only [lenPV, T_under119]
theorem T_len119b (b e o n : Nat) : lenPV Tryz.prog 119 (.bs b e o n) = some (.int .i64 n) := by simp only [lenPV, T_under119]
theorem T_ok121 : tyOk Tryz.prog 121 = true := by kernel_rfl
theorem T_agg121 : tyAgg Tryz.prog 121 = true := by kernel_rfl
theorem T_isinfo121 : (Tryz.prog.info? 121).isSome = true := by kernel_rfl
theorem T_info121 : tyInfo Tryz.prog 121 = some (2, 32) := by kernel_rfl
theorem T_cells121 : Tryz.prog.cellsOf 121 = 2 := by kernel_rfl
theorem T_zero121 : zeroPV Tryz.prog 121 = some (PV.agg [PV.bool Bool.false, PV.nilS]) := by kernel_rfl
theorem T_build121 : buildable Tryz.prog 121 = true := by kernel_rfl
theorem T_f121_0 : tyField Tryz.prog 121 0 = some (0, 4, 1) := by kernel_rfl
theorem T_p121_0 : placePV Tryz.prog 121 0 = some (0, 1) := by kernel_rfl
theorem T_f121_1 : tyField Tryz.prog 121 1 = some (1, 119, 1) := by kernel_rfl
theorem T_p121_1 : placePV Tryz.prog 121 1 = some (1, 1) := by kernel_rfl
theorem T_ok137 : tyOk Tryz.prog 137 = true := by kernel_rfl
theorem T_agg137 : tyAgg Tryz.prog 137 = false := by kernel_rfl
theorem T_isinfo137 : (Tryz.prog.info? 137).isSome = true := by kernel_rfl
theorem T_info137 : tyInfo Tryz.prog 137 = some (1, 8) := by kernel_rfl
theorem T_cells137 : Tryz.prog.cellsOf 137 = 1 := by kernel_rfl
theorem T_zero137 : zeroPV Tryz.prog 137 = some (PV.int IntKind.u64 0) := by kernel_rfl
theorem T_int137 : Tryz.prog.underlying 137 = some (.int .u64) := by kernel_rfl
theorem T_ok163 : tyOk Tryz.prog 163 = true := by kernel_rfl
theorem T_agg163 : tyAgg Tryz.prog 163 = false := by kernel_rfl
theorem T_isinfo163 : (Tryz.prog.info? 163).isSome = true := by kernel_rfl
theorem T_info163 : tyInfo Tryz.prog 163 = some (1, 16) := by kernel_rfl
theorem T_cells163 : Tryz.prog.cellsOf 163 = 1 := by kernel_rfl
theorem T_zero163 : zeroPV Tryz.prog 163 = some PV.nilI := by kernel_rfl
theorem T_ok164 : tyOk Tryz.prog 164 = true := by kernel_rfl
theorem T_agg164 : tyAgg Tryz.prog 164 = false := by kernel_rfl
theorem T_isinfo164 : (Tryz.prog.info? 164).isSome = true := by kernel_rfl
theorem T_info164 : tyInfo Tryz.prog 164 = some (1, 8) := by kernel_rfl
theorem T_cells164 : Tryz.prog.cellsOf 164 = 1 := by kernel_rfl
theorem T_zero164 : zeroPV Tryz.prog 164 = some (PV.int IntKind.u64 0) := by kernel_rfl
theorem T_int164 : Tryz.prog.underlying 164 = some (.int .u64) := by kernel_rfl
attribute [go_sem] T_ok3 T_agg3 T_isinfo3 T_info3 T_cells3 T_zero3 T_int3 T_ok4 T_agg4 T_isinfo4 T_info4 T_cells4 T_zero4 T_bool4 T_ok5 T_agg5
attribute [go_sem] T_isinfo5 T_info5 T_cells5 T_zero5 T_int5 T_ok9 T_agg9 T_isinfo9 T_info9 T_cells9 T_zero9 T_str9 T_len9t T_ok22 T_agg22 T_isinfo22
attribute [go_sem] T_info22 T_cells22 T_zero22 T_elem22 T_under22 T_len22s T_len22n T_len22b T_ok25 T_agg25 T_isinfo25 T_info25 T_cells25 T_zero25 T_elem25 T_under25
attribute [go_sem] T_len25s T_len25n T_len25b T_ok26 T_agg26 T_isinfo26 T_info26 T_cells26 T_zero26 T_int26 T_ok30 T_agg30 T_isinfo30 T_info30 T_cells30 T_zero30
attribute [go_sem] T_build30 T_f30_0 T_p30_0 T_f30_1 T_p30_1 T_eqs30 T_ok32 T_agg32 T_isinfo32 T_info32 T_cells32 T_zero32 T_build32 T_f32_0 T_p32_0 T_f32_1
attribute [go_sem] T_p32_1 T_eqs32 T_ok35 T_agg35 T_isinfo35 T_info35 T_cells35 T_zero35 T_elem35 T_under35 T_len35s T_len35n T_len35b T_ok37 T_agg37 T_isinfo37
attribute [go_sem] T_info37 T_cells37 T_zero37 T_build37 T_f37_0 T_p37_0 T_f37_1 T_p37_1 T_ok39 T_agg39 T_isinfo39 T_info39 T_cells39 T_zero39 T_build39 T_f39_0
attribute [go_sem] T_p39_0 T_f39_1 T_p39_1 T_ok43 T_agg43 T_isinfo43 T_info43 T_cells43 T_zero43 T_elem43 T_under43 T_len43s T_len43n T_len43b T_ok49 T_agg49
attribute [go_sem] T_isinfo49 T_info49 T_cells49 T_zero49 T_elem49 T_under49 T_len49s T_len49n T_len49b T_ok66 T_agg66 T_isinfo66 T_info66 T_cells66 T_zero66 T_elem66
attribute [go_sem] T_under66 T_len66s T_len66n T_len66b T_ok78 T_agg78 T_isinfo78 T_info78 T_cells78 T_zero78 T_elem78 T_under78 T_len78s T_len78n T_len78b T_ok84
attribute [go_sem] T_agg84 T_isinfo84 T_info84 T_cells84 T_zero84 T_elem84 T_under84 T_len84s T_len84n T_len84b T_ok85 T_agg85 T_isinfo85 T_info85 T_cells85 T_zero85
attribute [go_sem] T_ok104 T_agg104 T_isinfo104 T_info104 T_cells104 T_zero104 T_elem104 T_under104 T_len104s T_len104n T_len104b T_ok114 T_agg114 T_isinfo114 T_info114 T_cells114
attribute [go_sem] T_zero114 T_elem114 T_under114 T_len114s T_len114n T_len114b T_ok119 T_agg119 T_isinfo119 T_info119 T_cells119 T_zero119 T_elem119 T_under119 T_len119s T_len119n
attribute [go_sem] T_len119b T_ok121 T_agg121 T_isinfo121 T_info121 T_cells121 T_zero121 T_build121 T_f121_0 T_p121_0 T_f121_1 T_p121_1 T_ok137 T_agg137 T_isinfo137 T_info137
attribute [go_sem] T_cells137 T_zero137 T_int137 T_ok163 T_agg163 T_isinfo163 T_info163 T_cells163 T_zero163 T_ok164 T_agg164 T_isinfo164 T_info164 T_cells164 T_zero164 T_int164
end Go.Proofs.YtnpclmmmngmdkaaGreat

namespace Go.Dg

def digs (B n : Nat) : List Nat := if h : n = 0 ∨ B < 2 then [] else n % B :: digs B (n / B)
termination_by n
decreasing_by
  simp only [not_or, Nat.not_lt] at h
  exact Nat.div_lt_self (Nat.pos_of_ne_zero h.1) h.2

def val (B : Nat) : List Nat → Nat
  | [] => 0
  | d :: l => d + B * val B l

section
variable {B : Nat}
theorem digs_zero : digs B 0 = [] := by unfold digs; simp
theorem digs_succ (hB : 2 ≤ B) {n : Nat} (hn : n ≠ 0) : digs B n = n % B :: digs B (n / B) := by
  conv => lhs; unfold digs
  rw [dif_neg]
  simp only [not_or, Nat.not_lt]
  exact ⟨hn, hB⟩

theorem val_digs (hB : 2 ≤ B) (n : Nat) : val B (digs B n) = n := by
  induction n using Nat.strongRecOn with
  | _ n ih =>
    by_cases hn : n = 0
    · subst hn; rw [digs_zero]; rfl
    · rw [digs_succ hB hn]
      simp only [val]
      rw [ih _ (Nat.div_lt_self (Nat.pos_of_ne_zero hn) hB)]
      exact Nat.mod_add_div n B

theorem digs_get (hB : 2 ≤ B) (n k : Nat) : (digs B n)[k]? = if n / B ^ k = 0 then none else some (n / B ^ k % B) := by
  induction k generalizing n with
  | zero =>
    by_cases hn : n = 0
    · subst hn; simp [digs_zero]
    · rw [digs_succ hB hn]; simp [hn]
  | succ k ih =>
    by_cases hn : n = 0
    · subst hn; simp [digs_zero]
    · rw [digs_succ hB hn, List.getElem?_cons_succ, ih]
      have : n / B / B ^ k = n / B ^ (k + 1) := by rw [Nat.div_div_eq_div_mul, Nat.pow_succ, Nat.mul_comm]
      rw [this]

theorem digs_len (hB : 2 ≤ B) (n k : Nat) : k < (digs B n).length ↔ n / B ^ k ≠ 0 := by
  have := digs_get hB n k
  constructor
  · intro h hz
    rw [if_pos hz, List.getElem?_eq_none_iff] at this
    omega
  · intro h
    rw [if_neg h] at this
    exact (List.getElem?_eq_some_iff.1 this).1
theorem digs_len_le (hB : 2 ≤ B) (n k : Nat) : (digs B n).length ≤ k ↔ n < B ^ k := by
  have h := digs_len hB n k
  have hp : 0 < B ^ k := Nat.pow_pos (by omega)
  rw [← Nat.not_lt, h, Decidable.not_not, Nat.div_eq_zero_iff]
  omega
theorem lt_pow_len (hB : 2 ≤ B) (n : Nat) : n < B ^ (digs B n).length := (digs_len_le hB n _).1 (Nat.le_refl _)
theorem digs_get_lt (hB : 2 ≤ B) {n k : Nat} (h : k < (digs B n).length) : (digs B n)[k]? = some (n / B ^ k % B) := by
  rw [digs_get hB, if_neg ((digs_len hB n k).1 h)]
theorem digs_mem_lt (hB : 2 ≤ B) {n d : Nat} (h : d ∈ digs B n) : d < B := by
  obtain ⟨k, hk⟩ := List.mem_iff_getElem?.1 h
  rw [digs_get hB] at hk
  split at hk
  · cases hk
  · cases hk; exact Nat.mod_lt _ (by omega)
theorem digit_beyond (hB : 2 ≤ B) {n k : Nat} (h : (digs B n).length ≤ k) : n / B ^ k = 0 := by
  have := (digs_len_le hB n k).1 h
  exact Nat.div_eq_of_lt this
theorem digs_eq_nil (hB : 2 ≤ B) {n : Nat} : digs B n = [] ↔ n = 0 := by
  constructor
  · intro h; have := val_digs hB n; rw [h] at this; exact this.symm
  · rintro rfl; exact digs_zero

/-- The lowest digits. -/
def lows (B n i : Nat) : List Nat := (List.range i).map fun k => n / B ^ k % B
theorem lows_length (n i : Nat) : (lows B n i).length = i := by simp [lows]
theorem lows_succ (n i : Nat) : lows B n (i + 1) = lows B n i ++ [n / B ^ i % B] := by simp [lows, List.range_succ]
theorem lows_get (n i k : Nat) (h : k < i) : (lows B n i)[k]? = some (n / B ^ k % B) := by simp [lows, h]
theorem lows_cons (n i : Nat) : lows B n (i + 1) = n % B :: lows B (n / B) i := by
  simp only [lows, List.range_succ_eq_map, List.map_cons, Nat.pow_zero, Nat.div_one, List.map_map]
  congr 1
  apply List.map_congr_left
  intro k _
  simp only [Function.comp, Nat.succ_eq_add_one]
  rw [Nat.div_div_eq_div_mul, Nat.pow_succ, Nat.mul_comm]
theorem val_lows (hB : 0 < B) (n i : Nat) : val B (lows B n i) = n % B ^ i := by
  induction i generalizing n with
  | zero => simp [lows, val, Nat.mod_one]
  | succ i ih =>
    rw [lows_cons]
    simp only [val]
    rw [ih, Nat.pow_succ, Nat.mul_comm (B ^ i) B, Nat.mod_mul]
theorem lows_digs (hB : 2 ≤ B) (n : Nat) : lows B n (digs B n).length = digs B n := by
  apply List.ext_getElem?
  intro k
  by_cases hk : k < (digs B n).length
  · rw [lows_get _ _ _ hk, digs_get_lt hB hk]
  · rw [List.getElem?_eq_none (by rw [lows_length]; omega), List.getElem?_eq_none (by omega)]
/-- Without the zeros at the end. -/
def trimZ (l : List Nat) : List Nat := (l.reverse.dropWhile (· == 0)).reverse
theorem trimZ_snoc_zero (l : List Nat) : trimZ (l ++ [0]) = trimZ l := by simp [trimZ]
theorem trimZ_snoc (l : List Nat) {d : Nat} (h : d ≠ 0) : trimZ (l ++ [d]) = l ++ [d] := by simp [trimZ, h]
theorem trimZ_nil : trimZ [] = [] := rfl

theorem val_append (l m : List Nat) : val B (l ++ m) = val B l + B ^ l.length * val B m := by
  induction l with
  | nil => simp [val]
  | cons d l ih =>
    simp only [List.cons_append, val, ih, List.length_cons, Nat.pow_succ]
    rw [Nat.mul_add, Nat.add_assoc, ← Nat.mul_assoc, Nat.mul_comm B (B ^ l.length)]
theorem val_lt (hB : 0 < B) {l : List Nat} (h : ∀ d ∈ l, d < B) : val B l < B ^ l.length := by
  induction l with
  | nil => simp [val]
  | cons d l ih =>
    have h1 := ih fun x hx => h x (by simp [hx])
    have h2 := h d (by simp)
    simp only [val, List.length_cons, Nat.pow_succ]
    have : B * val B l + B ≤ B * B ^ l.length := by rw [← Nat.mul_succ]; exact Nat.mul_le_mul_left _ h1
    rw [Nat.mul_comm (B ^ l.length)]
    omega
theorem lows_val (hB : 2 ≤ B) {l : List Nat} (h : ∀ d ∈ l, d < B) : lows B (val B l) l.length = l := by
  induction l with
  | nil => rfl
  | cons d l ih =>
    have h2 := h d (by simp)
    rw [List.length_cons, lows_cons]
    simp only [val]
    rw [Nat.add_mul_mod_self_left, Nat.mod_eq_of_lt h2, Nat.add_mul_div_left _ _ (by omega), Nat.div_eq_of_lt h2, Nat.zero_add, ih fun x hx => h x (by simp [hx])]
theorem trimZ_eq (hB : 2 ≤ B) (l : List Nat) (h : ∀ d ∈ l, d < B) : trimZ l = digs B (val B l) := by
  have key : ∀ n, ∀ l : List Nat, l.length = n → (∀ d ∈ l, d < B) → trimZ l = digs B (val B l) := by
    intro n
    induction n with
    | zero => intro l hl _; rw [List.length_eq_zero_iff.1 hl]; simp [trimZ_nil, val, digs_zero]
    | succ n ih =>
      intro l hl h
      have hne : l ≠ [] := by rintro rfl; simp at hl
      have hcut := List.dropLast_concat_getLast hne
      generalize l.dropLast = m at hcut
      generalize l.getLast hne = d at hcut
      subst hcut
      have hm : m.length = n := by simpa using hl
      have hmd : ∀ x ∈ m, x < B := fun x hx => h x (by simp [hx])
      by_cases hd : d = 0
      · subst hd
        rw [trimZ_snoc_zero, ih m hm hmd, val_append]
        simp [val]
      · rw [trimZ_snoc m hd]
        have hlen : (digs B (val B (m ++ [d]))).length = (m ++ [d]).length := by
          apply Nat.le_antisymm
          · exact (digs_len_le hB _ _).2 (val_lt (by omega) h)
          · have : (m ++ [d]).length = m.length + 1 := by simp
            rw [this]
            apply (digs_len hB _ _).2
            rw [val_append]
            simp only [val, Nat.mul_zero, Nat.add_zero]
            rw [Nat.add_mul_div_left _ _ (Nat.pow_pos (by omega))]
            exact fun e => hd (Nat.eq_zero_of_add_eq_zero_left e)
        have := lows_digs hB (val B (m ++ [d]))
        rw [hlen, lows_val hB h] at this
        exact this
  exact key l.length l rfl h
theorem trimZ_lows (hB : 2 ≤ B) (n i : Nat) : trimZ (lows B n i) = digs B (n % B ^ i) := by
  rw [trimZ_eq hB, val_lows (by omega)]
  intro d hd
  simp only [lows, List.mem_map] at hd
  obtain ⟨k, _, rfl⟩ := hd
  exact Nat.mod_lt _ (by omega)
theorem trimZ_last {l : List Nat} (h : ∀ d, l.getLast? = some d → d ≠ 0) : trimZ l = l := by
  by_cases hne : l = []
  · subst hne; rfl
  · have hcut := List.dropLast_concat_getLast hne
    have hl : l.getLast? = some (l.getLast hne) := List.getLast?_eq_some_getLast hne
    have := h _ hl
    rw [← hcut]
    exact trimZ_snoc _ this
end
end Go.Dg

namespace Go.Proofs.YtnpclmmmngmdkaaGreat
open Go.Vl Go.RowKit Go.Dg

def di (l : List Nat) : PV := .slc (l.map fun d : Nat => PV.int .i64 (d : Int))
theorem di_get (l : List Nat) (k : Nat) : (l.map fun d : Nat => PV.int .i64 (d : Int))[k]? = l[k]?.map fun d : Nat => PV.int .i64 (d : Int) := List.getElem?_map
theorem di_all (l : List Nat) : ((l.map fun d : Nat => PV.int .i64 (d : Int)).all fun x => x.cells.length == 1) = true := by rw [List.all_map, List.all_eq_true]; intro d _; rfl
theorem wrapn {n : Nat} (h : n < 9223372036854775808) : IntKind.i64.wrap (n : Int) = n := wrap_i64 (by omega) (by omega)
theorem wrap_sub1 {n : Nat} (h : n < 9223372036854775808) : IntKind.i64.wrap (((n + 1 : Nat) : Int) - 1) = (n : Int) := by
  rw [wrap_i64 (by omega) (by omega)]; omega
theorem maxLen_lt : maxLen < 9223372036854775808 := by simp [maxLen]

theorem rtrim_v (l : List Nat) (hl : l.length ≤ maxLen) : SoundAt Tryz.prog 73 [di l] (di (trimZ l)) := by
  have hm := maxLen_lt
  refine sound_go (tb := []) 21 [.tmp 2] [0, 2, 14] mixed Tryz.func73 rfl (by kernel_rfl) (by kernel_rfl) (by kernel_rfl) (by kernel_rfl) ?_
  simp -implicitDefEqProofs only [go_sem, Nat.reduceAdd, Nat.reduceMul, Nat.reduceEqDiff, Nat.reduceLT, Nat.reduceLeDiff, Nat.reduceSub, Nat.reduceBEq, reduceIte, reduceCtorEq, Int.reduceEq, Int.reduceNe, Nat.reduceBneDiff, Int.reduceLE, Int.reduceLT, Int.reduceToNat, Int.reduceAdd, Int.reduceSub, Int.reduceMul, Int.reduceNeg, di]
  refine g_loop mixed (fun k : { k : Nat // k ≤ l.length ∧ trimZ (l.take k) = trimZ l } => St.of [(0, di (l.take k.1)), (2, .nilS)] []) (fun k => k.1) ⟨l.length, Nat.le_refl _, by rw [List.take_length]⟩ ?_ ?_
  · exact le_vars (by simp [varsLe, lkp, ren1, ren0, di])
  · rintro ⟨k, hk, ht⟩
    have hlen : (l.take k).length = k := by simp; omega
    cases k with
    | zero =>
      have h1 : ((0 : Int) < ((0 : Nat) : Int)) = False := by simp
      simp -implicitDefEqProofs only [go_sem, Nat.reduceAdd, Nat.reduceMul, Nat.reduceEqDiff, Nat.reduceLT, Nat.reduceLeDiff, Nat.reduceSub, Nat.reduceBEq, reduceIte, reduceCtorEq, Int.reduceEq, Int.reduceNe, Nat.reduceBneDiff, Int.reduceLE, Int.reduceLT, Int.reduceToNat, Int.reduceAdd, Int.reduceSub, Int.reduceMul, Int.reduceNeg, di, List.length_map, hlen, h1]
      rw [← ht]; rfl
    | succ k =>
      have h1 : ((0 : Int) < ((k + 1 : Nat) : Int)) = True := by simp
      have h2 : (0 ≤ (k : Int)) = True := by simp
      have hw := wrap_sub1 (n := k) (by omega)
      have hlt : k < l.length := by omega
      have hget : (l.take (k + 1))[k]? = some l[k] := by simp [hlt]
      have hcut : l.take (k + 1) = l.take k ++ [l[k]] := by rw [List.take_add_one]; simp [hlt]
      cases hd : ((l[k] : Int) == 0) with
      | true =>
        have hd0 : l[k] = 0 := by simpa using hd
        have h3 : ((k : Int) ≤ ((k + 1 : Nat) : Int)) = True := by simp; omega
        simp -implicitDefEqProofs only [go_sem, Nat.reduceAdd, Nat.reduceMul, Nat.reduceEqDiff, Nat.reduceLT, Nat.reduceLeDiff, Nat.reduceSub, Nat.reduceBEq, reduceIte, reduceCtorEq, Int.reduceEq, Int.reduceNe, Nat.reduceBneDiff, Int.reduceLE, Int.reduceLT, Int.reduceToNat, Int.reduceAdd, Int.reduceSub, Int.reduceMul, Int.reduceNeg, di, List.length_map, hlen, h1, h2, h3, hw, Int.toNat_natCast, di_get, hget, hd, di_all]
        refine ⟨⟨k, by omega, ?_⟩, by simp, ?_⟩
        · rw [← ht, hcut, hd0, trimZ_snoc_zero]
        · refine le_vars (by simp [varsLe, lkp, ren1, ren0, di]; rw [← List.map_take]; simp [List.take_take])
      | false =>
        have hd0 : l[k] ≠ 0 := by simpa using hd
        simp -implicitDefEqProofs only [go_sem, Nat.reduceAdd, Nat.reduceMul, Nat.reduceEqDiff, Nat.reduceLT, Nat.reduceLeDiff, Nat.reduceSub, Nat.reduceBEq, reduceIte, reduceCtorEq, Int.reduceEq, Int.reduceNe, Nat.reduceBneDiff, Int.reduceLE, Int.reduceLT, Int.reduceToNat, Int.reduceAdd, Int.reduceSub, Int.reduceMul, Int.reduceNeg, di, List.length_map, hlen, h1, h2, hw, Int.toNat_natCast, di_get, hget, hd]
        rw [← ht, hcut, trimZ_snoc _ hd0]
end Go.Proofs.YtnpclmmmngmdkaaGreat

namespace Go.Dg
section
variable {B : Nat}

/-- What is carried into a place of a sum. -/
def carry (B a b i : Nat) : Nat := (a % B ^ i + b % B ^ i) / B ^ i
theorem carry_zero (a b : Nat) : carry B a b 0 = 0 := by simp [carry, Nat.mod_one]
theorem carry_le (hB : 0 < B) (a b i : Nat) : carry B a b i ≤ 1 := by
  have hp : 0 < B ^ i := Nat.pow_pos hB
  have h1 := Nat.mod_lt a hp
  have h2 := Nat.mod_lt b hp
  unfold carry
  rw [Nat.div_le_iff_le_mul hp]
  omega
theorem add_step (hB : 0 < B) (a b i : Nat) : (a / B ^ i % B + b / B ^ i % B + carry B a b i) % B = (a + b) / B ^ i % B ∧ (a / B ^ i % B + b / B ^ i % B + carry B a b i) / B = carry B a b (i + 1) := by
  have hp : 0 < B ^ i := Nat.pow_pos hB
  unfold carry
  generalize hP : B ^ i = P at *
  have e1 : (a + b) / P = a / P + b / P + (a % P + b % P) / P := by
    conv => lhs; rw [← Nat.div_add_mod a P, ← Nat.div_add_mod b P]
    have : P * (a / P) + a % P + (P * (b / P) + b % P) = (a % P + b % P) + P * (a / P + b / P) := by rw [Nat.mul_add]; omega
    rw [this, Nat.add_mul_div_left _ _ hp]
    omega
  constructor
  · rw [e1]
    conv => rhs; rw [Nat.add_mod, Nat.add_mod (a / P)]
    conv => lhs; rw [Nat.add_mod, Nat.add_mod (a / P % B)]
    simp
  · have hP1 : B ^ (i + 1) = P * B := by rw [Nat.pow_succ, hP]
    rw [hP1, Nat.mod_mul, Nat.mod_mul]
    have : a % P + P * (a / P % B) + (b % P + P * (b / P % B)) = (a % P + b % P) + P * (a / P % B + b / P % B) := by rw [Nat.mul_add]; omega
    rw [this, ← Nat.div_div_eq_div_mul, Nat.add_mul_div_left _ _ hp]
    congr 1
    omega

theorem add_step' (hB : 0 < B) (a b i : Nat) : (carry B a b i + a / B ^ i % B + b / B ^ i % B) % B = (a + b) / B ^ i % B ∧ (carry B a b i + a / B ^ i % B + b / B ^ i % B) / B = carry B a b (i + 1) := by
  have h := add_step hB a b i
  have e : carry B a b i + a / B ^ i % B + b / B ^ i % B = a / B ^ i % B + b / B ^ i % B + carry B a b i := by omega
  rw [e]; exact h
theorem lows_done (hB : 2 ≤ B) {n i : Nat} (h1 : n < B ^ i) (h2 : ∀ j, j < i → n / B ^ j ≠ 0) : lows B n i = digs B n := by
  have hl : (digs B n).length = i := by
    apply Nat.le_antisymm ((digs_len_le hB n i).2 h1)
    rcases Nat.eq_zero_or_pos i with rfl | hi
    · exact Nat.zero_le _
    · have := (digs_len hB n (i - 1)).2 (h2 (i - 1) (by omega))
      omega
  rw [← hl, lows_digs hB]
theorem sum_done (hB : 2 ≤ B) {a b i : Nat} (ha : (digs B a).length ≤ i) (hb : (digs B b).length ≤ i) (hc : carry B a b i = 0) : a + b < B ^ i := by
  have h1 := (digs_len_le hB a i).1 ha
  have h2 := (digs_len_le hB b i).1 hb
  unfold carry at hc
  rw [Nat.mod_eq_of_lt h1, Nat.mod_eq_of_lt h2, Nat.div_eq_zero_iff] at hc
  have : 0 < B ^ i := Nat.pow_pos (by omega)
  omega
theorem sum_more (hB : 2 ≤ B) {a b i : Nat} (h : i < (digs B a).length ∨ i < (digs B b).length ∨ 0 < carry B a b i) : (a + b) / B ^ i ≠ 0 := by
  have hp : 0 < B ^ i := Nat.pow_pos (by omega)
  have hle : B ^ i ≤ a + b := by
    rcases h with h | h | h
    · have := (digs_len hB a i).1 h
      have := Nat.div_eq_zero_iff (a := a) (b := B ^ i)
      omega
    · have := (digs_len hB b i).1 h
      have := Nat.div_eq_zero_iff (a := b) (b := B ^ i)
      omega
    · unfold carry at h
      have h1 := Nat.mod_le a (B ^ i)
      have h2 := Nat.mod_le b (B ^ i)
      have h3 := Nat.div_eq_zero_iff (a := a % B ^ i + b % B ^ i) (b := B ^ i)
      omega
  have := Nat.div_eq_zero_iff (a := a + b) (b := B ^ i)
  omega
end
end Go.Dg
