/-
  A law's row from a contract of values.
-/
import Derived.Test.YtkajnimlfehmeaaUR
set_option linter.unusedSimpArgs false
set_option linter.unusedVariables false
namespace Go.Vl
open Go.RowKit

section
variable {H : Type} {enc : TypeId × Value → H} {P : Program} {W W' : World}

/-- One argument. -/
theorem arg_rep {tt : TT} {t : TypeId} {v : Value} {d : DataW H} {ps : List MemPlace} {b : Nat} (hf : tt.fits P t = true) (hok : Value.okWide P W .any b t v) (h : DataW.Trod enc P W 0 (fun _ => true) true t v d ps) :
    ∃ cs, HasTT tt cs ∧ Rep W (exIm W) (tt.mk cs) v := by
  obtain ⟨fuel, h⟩ := h
  obtain ⟨pvs, h1, h2⟩ := trod_rep tt t fuel _ _ hf h
  refine ⟨pvs, h2, ?_⟩
  have single : v.cells = #[v] → (∀ fs, tt ≠ .agg fs) → Rep W (exIm W) (tt.mk pvs) v := by
    intro hv hn
    rw [hv] at h1
    have hl := h1.length
    match pvs, hl with
    | [p], _ =>
      cases h1 with
      | cons _ _ _ _ h t =>
        cases tt with
        | agg fs => exact absurd rfl (hn fs)
        | _ => exact h
  cases tt with
  | bool =>
    simp only [TT.fits] at hf
    split at hf
    · rename_i ht; obtain ⟨x, rfl⟩ := WideShapes.okWide_bool ht hok; exact single rfl (by simp)
    · cases hf
  | int k =>
    simp only [TT.fits] at hf
    split at hf
    · rename_i ht; obtain ⟨x, rfl⟩ := WideShapes.okWide_int ht hok; exact single rfl (by simp)
    · cases hf
  | str =>
    simp only [TT.fits] at hf
    split at hf
    · rename_i ht; obtain ⟨x, rfl⟩ := WideShapes.okWide_string ht hok; exact single rfl (by simp)
    · cases hf
  | slc e =>
    simp only [TT.fits] at hf
    split at hf
    · rename_i te ht; obtain ⟨x, y, z, rfl⟩ := WideShapes.okWide_slice ht hok; exact single rfl (by simp)
    · cases hf
  | agg fs =>
    simp only [TT.fits] at hf
    split at hf
    · rename_i xs ht
      obtain ⟨cs, rfl, _⟩ := WideShapes.okWide_struct ht hok
      have := Rep.agg pvs _ h1
      simp only [Value.cells, Array.toArray_toList] at this
      exact this
    · cases hf

/-- What a law takes: values of its parameters' shapes. -/
def HasArgs : List TT → List PV → Prop
  | [], vs => vs = []
  | t :: ts, vs => ∃ c rest, vs = t.mk c :: rest ∧ HasTT t c ∧ HasArgs ts rest
def fitsAll (P : Program) : List TT → List TypeId → Bool
  | [], [] => true
  | tt :: tts, t :: ts => tt.fits P t && fitsAll P tts ts
  | _, _ => false

theorem args_rep {b : Nat} : ∀ (tts : List TT) (ts : List TypeId) (vs : List Value) (ds : List (DataW H)) (ps : List MemPlace), fitsAll P tts ts = true → (∀ (j : Nat) t v, ts[j]? = some t → vs[j]? = some v → Value.okWide P W .any b t v) →
    DataW.TrodAll enc P W 0 (fun _ => true) true ts vs ds ps → ∃ pvs, HasArgs tts pvs ∧ RepL W (exIm W) pvs vs ∧ ds.length = tts.length
  | [], [], [], [], _, _, _, _ => ⟨[], rfl, .nil, rfl⟩
  | tt :: tts, t :: ts, v :: vs, d :: ds, ps, hf, hok, h => by
    simp only [fitsAll, Bool.and_eq_true] at hf
    obtain ⟨p, q, h1, h2, _⟩ := h
    obtain ⟨c, h3, h4⟩ := arg_rep hf.1 (hok 0 t v rfl rfl) h1
    obtain ⟨pvs, h5, h6, h7⟩ := args_rep tts ts vs ds q hf.2 (fun j t v e1 e2 => hok (j + 1) t v (by simpa using e1) (by simpa using e2)) h2
    exact ⟨tt.mk c :: pvs, ⟨c, pvs, rfl, h3, h5⟩, .cons _ _ _ _ h4 h6, by simp [h7]⟩
  | [], _ :: _, _, _, _, hf, _, _ => by simp [fitsAll] at hf
  | _ :: _, [], _, _, _, hf, _, _ => by simp [fitsAll] at hf
  | [], [], [], _ :: _, _, _, _, h => h.elim
  | [], [], _ :: _, _, _, _, _, h => h.elim
  | _ :: _, _ :: _, [], _, _, _, _, h => h.elim
  | _ :: _, _ :: _, _ :: _, [], _, _, _, h => h.elim

theorem trodAll_stays {sp : Nat → Bool} (hl : laidOutB P = true) (hb : Below W.heap.size W W') : ∀ (ts : List TypeId) (vs : List Value) (ds : List (DataW H)) (ps : List MemPlace), (∀ t ∈ ts, P.readableRec t = true ∧ t < P.types.size) →
    DataW.TrodAll enc P W 0 (fun _ => true) true ts vs ds ps → (∀ p ∈ ps, p.block < W.heap.size) → (∀ p ∈ ps, sp p.block = true) → DataW.TrodAll enc P W' 0 sp true ts vs ds ps
  | [], [], [], _, _, h, _, _ => h
  | t :: ts, v :: vs, d :: ds, ps, ht, ⟨p, q, h1, h2, e⟩, hlt, hs => by
    subst e
    refine ⟨p, q, ?_, trodAll_stays hl hb ts vs ds q (fun t h => ht t (List.mem_cons_of_mem _ h)) h2 (fun x hx => hlt x (List.mem_append_right _ hx)) (fun x hx => hs x (List.mem_append_right _ hx)), rfl⟩
    exact WideElems.Trod_stays hl (ht t (by simp)).1 (ht t (by simp)).2 h1 (fun x hx => hb.same (hlt x (List.mem_append_left _ hx))) (fun x hx => hs x (List.mem_append_left _ hx))
  | [], [], _ :: _, _, _, h, _, _ => h.elim
  | [], _ :: _, _, _, _, h, _, _ => h.elim
  | _ :: _, [], _, _, _, h, _, _ => h.elim
  | _ :: _, _ :: _, [], _, _, h, _, _ => h.elim

/-- A law that answers true and changes nothing that was there. -/
theorem post_of_law {fn : Func} {s : ChangeSpec} {apart fresh handsOn again : Bool} {args : Array Value} {ds gs : List (DataW H)} {before : List MemPlace} {tb : TypeId} (hl : laidOutB P = true) (hvars : s.vars = []) (hres : fn.resultTypes = #[tb])
    (hbool : P.underlying tb = some .bool) (hts : ∀ t ∈ fn.params.toList, P.readableRec t = true ∧ t < P.types.size) (hW : DataW.Whole enc P fn.params.toList s.vars apart W args.toList ds gs before)
    (hs : s.fn H (ds ++ gs) = { results := [.lit (.bool true)], args := ds }) (hb : Below W.heap.size W W') : s.post enc P fn apart fresh handsOn again W args (.bool true) W' := by
  have hlt := hW.lt
  have hW' := hW
  obtain ⟨p, q, hA, hV, rfl, hz, hn⟩ := hW
  rw [hvars] at hV
  obtain ⟨rfl, rfl⟩ := ChangeShapes.trodVars_none hV
  have hargs : ∀ sp : Nat → Bool, (∀ x ∈ p, sp x.block = true) → DataW.TrodAll enc P W' 0 sp true fn.params.toList args.toList ds p := fun sp hsp =>
    trodAll_stays hl hb _ _ _ _ hts hA (fun x hx => hlt x (by simpa using hx)) hsp
  have hres' : ∀ (b : Nat) (sp : Nat → Bool) (hd : Bool), DataW.TrodAll enc P W' b sp hd fn.resultTypes.toList ((Value.bool true).resultList fn.resultTypes.size) [.lit (.bool true)] [] := by
    intro b sp hd
    rw [hres]
    exact ChangeShapes.trodAll_mk1 (shut_bool hbool true)
  have hok : ∀ (j : Nat) (t : TypeId) (r : Value), fn.resultTypes[j]? = some t → ((Value.bool true).resultList fn.resultTypes.size)[j]? = some r → Value.okWide P W' .any 0 t r := ok_one hres rfl (okWide_bool_mk hbool true)
  have hvs : ∀ sp : Nat → Bool, DataW.TrodVars enc P W' sp s.vars [] [] := fun sp => by rw [hvars]; rfl
  refine ⟨ds, [], p ++ [], [], p, [], hW', ?_, ?_, ?_, ?_, fun _ => ⟨hok, [.lit (.bool true)] ++ ds, [], ([] ++ p) ++ [], ⟨[] ++ p, [], ?_, hvs _, rfl, ?_, ?_⟩, ?_⟩⟩
  · rw [hs]; exact hres' _ _ _
  · rw [hs]; exact hargs _ fun x hx => by simpa using hlt x (by simpa using hx)
  · rw [hs]; exact hvs _
  · exact World.keptBut_mono (fun _ f => f.elim) (hb.frame fun _ => False)
  · exact ChangeShapes.trodAll_append (hargs _ fun _ _ => rfl) (hres' _ _ _)
  · intro b off hp
    have hp' : MemPlace.cell b off ∈ p := by simpa using hp
    have := hz b off (by simpa using hp')
    have hlt' := hlt _ (show MemPlace.cell b off ∈ p ++ [] by simpa using hp')
    rw [← this]
    exact hb.frozen hlt'
  · intro ha
    have := hn ha
    simpa using this
  · intro x hx _
    simpa using hx

/-- A law, over all that it can be given. -/
theorem law_lifted {a : Assume} {C : Checked} {os : Os} {f : FuncId} {fn : Func} {s : ChangeSpec} {conds : List PathCond} {apart fresh handsOn again : Bool} {tb : TypeId} (tts : List TT)
    (own : ownKnob C.prog.godebug = none) (started : os.Started) (noInit : C.prog.inits.idxOf? f = none) (hfn : C.prog.funcs[f]? = some fn)
    (witness : ∃ (w : World) (tape : Tape) (i : Input), w.os = os ∧ (w.forCall tape i).Shaped C.prog ∧ i.vars = [] ∧ Input.okWide C.prog (w.forCall tape i) .any w.heap.size f i ∧
      s.pre6 enc C.prog fn conds apart (w.forCall tape i).memory i.args ∧ a.holds C.prog (lone (Frame.enter C.prog f i.args .normal) [] (w.forCall tape i)))
    (hl : laidOutB C.prog = true) (hvars : s.vars = []) (hres : fn.resultTypes = #[tb]) (hbool : C.prog.underlying tb = some .bool) (hts : (fn.params.toList.all fun t => C.prog.readableRec t && decide (t < C.prog.types.size)) = true)
    (hfit : fitsAll C.prog tts fn.params.toList = true) (hs : ∀ ds : List (DataW H), ds.length = tts.length → s.fn H ds = { results := [.lit (.bool true)], args := ds })
    (law : ∀ pvs, HasArgs tts pvs → SoundAt C.prog f pvs (.bool true)) :
    ReturnsInHanded a C os f .any (s.pre6 enc C.prog fn conds apart) (s.post enc C.prog fn apart fresh handsOn again) := by
  refine returnsInHanded_of_change own started noInit hfn witness ?_
  intro W base args ds gs before hval hW _ _
  have hW' := hW
  obtain ⟨p, q, hA, hV, rfl, hz, hn⟩ := hW
  rw [hvars] at hV
  obtain ⟨rfl, rfl⟩ := ChangeShapes.trodVars_none hV
  obtain ⟨pvs, h1, h2, h3⟩ := args_rep tts fn.params.toList args.toList ds p hfit (fun j t v e1 e2 => hval j t v (by simpa using e1) (by simpa using e2)) hA
  have hts' : ∀ t ∈ fn.params.toList, C.prog.readableRec t = true ∧ t < C.prog.types.size := by
    intro t ht
    have := List.all_eq_true.1 hts t ht
    simpa using this
  have hcall := (law pvs h1).2 W (exIm W) args.toList h2 (fun g j x => x)
  refine (by simpa using hcall : Calls C.prog f args W _).mono ?_
  rintro e W' ⟨v, rfl, hb, hr⟩
  have hv : v = .bool true := by cases hr; rfl
  subst hv
  exact ⟨_, rfl, post_of_law hl hvars hres hbool hts' hW' (by rw [List.append_nil]; exact hs ds h3) hb⟩
end
end Go.Vl
