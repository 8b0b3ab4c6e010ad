/-
  The operations that make memory or write it.
-/
import Derived.Test.YtkajnimlfehmeaaUF
import Derived.Great.BuildSlice
set_option linter.unusedSimpArgs false
set_option linter.unusedVariables false
namespace Go.Vl
open Go.RowKit

/-- What an operation does: its value, and the world behind it. -/
def Does (C : Ctx) (st' : St) (a : Act) (w : World) (s : Sem Next) (v : PV) : Prop :=
  ∃ u w' ρ' im', (s.run C.P w = .ok (.value u) w' ∨ (s.run C.P w = .ok .skip w' ∧ u = undef)) ∧ Rel' C st' a w' ρ' im' ∧ LR w' im' ρ' v u

section
variable {C : Ctx} {st : St} {a : Act} {w : World} {ρ : Rho} {im : Im} {o : Oper}

theorem does_calm {v : PV} (h : Rel' C st a w ρ im) (hc : Calm C.P w im ρ a o v) : Does C (effsOn [] st) a w (execOp a.eval o) v := by
  obtain ⟨u, h1, h2⟩ := hc
  exact ⟨u, w, ρ, im, .inl h1, h, h2⟩

theorem LR.cells {v : PV} {u : Value} (h : LR w im ρ v u) (ho : okCells v.cells = true) : LRL w im ρ v.cells u.cells.toList := by
  have one : v.cells = [v] → LRL w im ρ v.cells u.cells.toList := by
    intro hv
    rw [hv] at ho ⊢
    have hu := h.oneCell (by simpa [okCells] using ho)
    have : u.cells = #[u] := by cases u <;> first | rfl | simp [Value.oneCell'] at hu
    rw [this]
    exact .cons _ _ _ _ h .nil
  cases v with
  | agg cs => obtain ⟨vs, rfl, hr⟩ := h.agg_inv; simpa [PV.cells, Value.cells] using hr
  | _ => exact one rfl

theorem Rep.cells {v : PV} {u : Value} (h : Rep w im v u) (ho : okCells v.cells = true) : RepL w im v.cells u.cells.toList := by
  have one : v.cells = [v] → RepL w im v.cells u.cells.toList := by
    intro hv
    rw [hv] at ho ⊢
    have hu := (LR.ext (ρ := fun _ => none) _ _ h).oneCell (by simpa [okCells] using ho)
    have : u.cells = #[u] := by cases u <;> first | rfl | simp [Value.oneCell'] at hu
    rw [this]
    exact .cons _ _ _ _ h .nil
  cases v with
  | agg cs => cases h with | agg _ vs hr => simpa [PV.cells, Value.cells] using hr
  | _ => exact one rfl

theorem does_newVar {id : Nat} (hidL : id < LENT) {T : TypeId} {v r : PV} {u : Value} {es : List Eff} {l : Acc} {s : Sem Next} (h : Rel' C st a w ρ im) (hv : LR w im ρ v u) (he : newVar id T v st.box = some (.done r es, l))
    (hs : s.run C.P w = .ok (.value (.pointer (some ⟨w.heap.size, 0, none⟩))) (w.alloc (.cells u.cells T))) : Does C (effsOn es st) a w s r := by
  unfold newVar at he
  obtain ⟨n, l1, l2, e1, e2, _⟩ := M.bind_some he
  obtain ⟨rfl, _⟩ := M.hard_some e1
  obtain ⟨_, l3, l4, e3, e4, _⟩ := M.bind_some e2
  obtain ⟨hc, _⟩ := M.ok_some e3
  obtain ⟨e5, _⟩ := M.pure_some e4
  cases e5
  simp only [Bool.and_eq_true, decide_eq_true_eq, Option.isNone_iff_eq_none] at hc
  have hcells := hv.cells hc.1.2
  obtain ⟨h1, h2, h3⟩ := h.newBox hidL hc.1.1 { els := [v], esz := v.cells.length, ety := T, fro := 0, live := true, arr := false } u.cells.toList [] rfl hc.2 (by simp) rfl (by simpa using hcells) (by simp)
    (hcells.oneCells hc.1.2)
  refine ⟨_, _, _, _, .inl hs, by simpa [effsOn, Eff.on] using h1, ?_⟩
  exact .bp id _ 0 0 w.heap.size 0 (upd_same _ _ _) (by simp)

theorem does_box {id : Nat} (hidL : id < LENT) {T : TypeId} {x : Operand} {v r : PV} {es : List Eff} {l : Acc} (ho : o.op = .box T x) (h : Rel' C st a w ρ im) (hv : LR w im ρ v (a.eval x)) (he : newVar id T v st.box = some (.done r es, l)) :
    Does C (effsOn es st) a w (execOp a.eval o) r :=
  does_newVar hidL h hv he (by simp [execOp, ho, Instr.box, newVar, newRow, Go.newVar])

theorem zeroPV_inv {P : Program} {T : TypeId} {z : PV} (h : zeroPV P T = some z) : ∃ i zv, P.info? T = some i ∧ i.zero = some zv ∧ constPV zv = some z := by
  unfold zeroPV at h
  split at h
  · rename_i i hi
    split at h
    · rename_i zv hz; exact ⟨i, zv, hi, hz, h⟩
    · cases h
  · cases h

theorem run_zeroValue' {P : Program} {T : TypeId} {i : TypeInfo} {z : Value} (hi : P.info? T = some i) (hz : i.zero = some z) : (zeroValue T).run P w = .ok z w := by simp [zeroValue, typeInfo, hi, hz]

theorem does_alloc {id : Nat} (hidL : id < LENT) {T : TypeId} {z r : PV} {es : List Eff} {l : Acc} (ho : o.op = .alloc T) (h : Rel' C st a w ρ im) (hz : zeroPV C.P T = some z) (he : newVar id T z st.box = some (.done r es, l)) :
    Does C (effsOn es st) a w (execOp a.eval o) r := by
  obtain ⟨i, zv, h1, h2, h3⟩ := zeroPV_inv hz
  exact does_newVar hidL h (.ext _ _ (constPV_rep h3)) he (by simp [execOp, ho, Instr.alloc, run_zeroValue' h1 h2, newRow, Go.newVar])

theorem fill_sim {place : Nat → Option (Nat × Nat)} : ∀ {ps : List (Nat × PV)} {us : List (Nat × Value)} {cs ds : List PV} {cells : Array Value}, LRL w im ρ cs cells.toList → ps.map (·.1) = us.map (·.1) →
    LRL w im ρ (ps.map (·.2)) (us.map (·.2)) → fillPV place cs ps = some ds → ∃ r, Instr.fill place cells us = some r ∧ LRL w im ρ ds r.toList
  | [], us, cs, ds, cells, hr, hm, _, he => by
    have : us = [] := by simpa using hm.symm
    subst this
    simp [fillPV] at he
    subst he
    exact ⟨cells, rfl, hr⟩
  | (i, v) :: ps, us, cs, ds, cells, hr, hm, hv, he => by
    cases us with
    | nil => simp at hm
    | cons p us =>
      obtain ⟨i', u⟩ := p
      simp only [List.map_cons, List.cons.injEq] at hm
      obtain ⟨rfl, hm⟩ := hm
      obtain ⟨u0, us0, hcons, hv1, hv2⟩ := hv.cons_inv
      simp only [List.map_cons, List.cons.injEq] at hcons
      obtain ⟨rfl, rfl⟩ := hcons
      unfold fillPV at he
      split at he
      · cases he
      · rename_i off size hp
        split at he
        · rename_i hc
          obtain ⟨hc1, hc2, hc3⟩ := hc
          have hcells := hv1.cells hc3
          have hul : u.cells.size = size := by rw [← hc1, hcells.length]; simp
          have hcl : cells.size = cs.length := by rw [hr.length]; simp
          obtain ⟨g1, g2⟩ := Great.foldl_set off u.cells.toList 0 cells
          have hfold : (u.cells.zipIdx.foldl (fun cs (x : Value × Nat) => cs.setIfInBounds (off + x.2) x.1) cells) = (cells.toList.take off ++ u.cells.toList ++ cells.toList.drop (off + size)).toArray := by
            rw [← Array.foldl_toList, Array.toList_zipIdx]
            apply Array.ext_getElem?
            intro k
            rw [g2 k]
            simp only [Nat.add_zero, Array.length_toList, hul, List.getElem?_toArray]
            by_cases x : off ≤ k ∧ k < off + size ∧ k < cells.size
            · rw [if_pos x, List.getElem?_append_left (by simp; omega), List.getElem?_append_right (by simp; omega)]
              congr 1; simp; omega
            · rw [if_neg x]
              have := splice_get cells.toList u.cells.toList off k (by simp; omega) (by simp; omega)
              simp only [Array.length_toList, hul] at this
              rw [this, Array.getElem?_toList]
          have hr' : LRL w im ρ (cs.take off ++ v.cells ++ cs.drop (off + size)) (cells.toList.take off ++ u.cells.toList ++ cells.toList.drop (off + size)).toArray.toList := by
            simpa using ((hr.take off).append hcells).append (hr.drop (off + size))
          obtain ⟨r, h1, h2⟩ := fill_sim hr' hm hv2 he
          refine ⟨r, ?_, h2⟩
          unfold Instr.fill
          simp only [hp]
          rw [if_neg (by simp; omega), hfold]
          exact h1
        · cases he

theorem mapM_places {P : Program} : ∀ (fs : List Field), (∀ f ∈ fs, (P.info? f.type).isSome = true) → ∃ places, fs.mapM (fun f : Field => (P.info? f.type).map fun i => (f.offset, i.size)) = some places ∧
    ∀ i : Nat, places[i]? = match fs[i]? with | some f => (match P.info? f.type with | some j => some (f.offset, j.size) | none => none) | none => none
  | [], _ => ⟨[], rfl, fun i => by simp⟩
  | f :: fs, h => by
    obtain ⟨ps, h1, h2⟩ := mapM_places fs (fun x hx => h x (by simp [hx]))
    obtain ⟨j, hj⟩ := Option.isSome_iff_exists.1 (h f (by simp))
    refine ⟨(f.offset, j.size) :: ps, by simp [List.mapM_cons, hj, h1], fun i => ?_⟩
    cases i with
    | zero => simp [hj]
    | succ i => simpa using h2 i

theorem fill_congr {p q : Nat → Option (Nat × Nat)} (h : ∀ i, p i = q i) : ∀ (us : List (Nat × Value)) (cells : Array Value), Instr.fill p cells us = Instr.fill q cells us := by
  have : p = q := funext h
  subst this
  exact fun _ _ => rfl

theorem does_build {T : TypeId} {parts : Array (Nat × Operand)} {vs cs : List PV} {z : PV} (ho : o.op = .build T parts) (h : Rel' C st a w ρ im)
    (hv : LRL w im ρ vs (o.op.operands.toList.map a.eval)) (hb : buildable C.P T = true) (hz : zeroPV C.P T = some z)
    (hf : fillPV (placePV C.P T) z.cells ((parts.toList.map (·.1)).zip vs) = some cs) : Does C (effsOn [] st) a w (execOp a.eval o) (.agg cs) := by
  obtain ⟨i, zv, h1, h2, h3⟩ := zeroPV_inv hz
  rw [ho] at hv
  simp only [Op.operands, List.map_map] at hv
  have hvl := hv.length
  simp at hvl
  have hzr : LRL w im ρ z.cells zv.cells.toList := by
    have hr := constPV_rep (w := w) (im := im) h3
    have hcc : ∀ zv z, constPV zv = some z → z.cells = [] ∨ okCells z.cells = true ∨ z = .tup [] := by
      intro zv z hh
      unfold constPV at hh
      split at hh
      · rename_i cs0
        cases e : constCells cs0.toList with
        | none => rw [e] at hh; cases hh
        | some xs =>
          rw [e] at hh; cases hh
          right; left
          have : ∀ (vs : List Value) (xs : List PV), constCells vs = some xs → okCells xs = true := by
            intro vs
            induction vs with
            | nil => intro xs hx; simp [constCells] at hx; subst hx; rfl
            | cons v vs ih =>
              intro xs hx
              unfold constCells at hx
              split at hx
              · rename_i x ys e1 e2
                cases hx
                have hxo : x.okCell = true := by
                  unfold constCell at e1
                  split at e1 <;> first | (cases e1; rfl) | (split at e1 <;> cases e1; rfl) | cases e1
                simp only [okCells, List.all_cons, hxo, Bool.true_and]
                exact ih _ e2
              · cases hx
          exact this _ _ e
      · split at hh
        · cases hh; right; right; rfl
        · cases hh
      · right; left
        unfold constCell at hh
        split at hh <;> first | (cases hh; rfl) | (split at hh <;> cases hh; rfl) | cases hh
    rcases hcc zv z h3 with e | e | e
    · cases z <;> simp [PV.cells] at e
      subst e
      cases hr with | agg _ vs hr => cases hr; simp [PV.cells, Value.cells]; exact .nil
    · exact (LR.ext _ _ hr).cells e
    · subst e
      cases hr with | tup _ vs hr => cases hr; simp [PV.cells, Value.cells]; exact .cons _ _ _ _ (.ext _ _ (.tup [] [] .nil)) .nil
  have hzip1 : ((parts.toList.map (·.1)).zip vs).map (·.1) = (parts.toList.map fun p => (p.1, a.eval p.2)).map (·.1) := by
    rw [List.map_fst_zip (by simp; omega)]; simp
  have hzip2 : LRL w im ρ (((parts.toList.map (·.1)).zip vs).map (·.2)) ((parts.toList.map fun p => (p.1, a.eval p.2)).map (·.2)) := by
    rw [List.map_snd_zip (by simp; omega)]
    simpa [Function.comp_def] using hv
  obtain ⟨r, hr1, hr2⟩ := fill_sim (place := placePV C.P T) hzr hzip1 hzip2 hf
  have hbuilt : C.P.built T (parts.map fun (i, x) => (i, a.eval x)).toList = some r := by
    unfold buildable at hb
    unfold Program.built
    split at hb
    · rename_i fs hfs
      obtain ⟨places, hp1, hp2⟩ := mapM_places (P := C.P) fs.toList (by
        intro f hf'
        simp only [Array.all_eq_true'] at hb
        exact hb f (by simpa using hf'))
      simp only [h1, hfs, h2, hp1]
      rw [fill_congr (q := placePV C.P T) (fun i => ?_)]
      · simpa using hr1
      · simp only [List.getElem?_toArray, hp2 i, placePV, hfs, Array.getElem?_toList]
        cases fs[i]? with
        | none => rfl
        | some f => cases C.P.info? f.type <;> rfl
    · rename_i n e hfs
      obtain ⟨j, hj⟩ := Option.isSome_iff_exists.1 hb
      simp only [h1, hfs, h2, hj]
      rw [fill_congr (q := placePV C.P T) (fun i => ?_)]
      · simpa using hr1
      · simp only [placePV, hfs, hj]
    · cases hb
  refine ⟨.agg r, w, ρ, im, .inl ?_, h, ?_⟩
  · have := run_build (P := C.P) w T (parts.map fun (i, x) => (i, a.eval x)) r hbuilt
    simp [execOp, ho, this]
  · have : r = r.toList.toArray := by simp
    rw [this]; exact .agg _ _ hr2

theorem does_load_bp {T : TypeId} {x : Operand} {b esz i off : Nat} {B : Box} {e v : PV} (ho : o.op = .load T x) (h : Rel' C st a w ρ im) (hx : LR w im ρ (.bp b esz i off) (a.eval x))
    (hB : st.box b = some B) (hz : B.esz = esz) (he : B.els[i]? = some e) (hv : partPV C.P T e.cells off = some v) : Does C (effsOn [] st) a w (execOp a.eval o) v := by
  obtain ⟨g, hg, ex⟩ := hx.bp_inv
  obtain ⟨hez, us, hr, _, hc⟩ := h.seen hg hB he
  have hul := hr.length
  obtain ⟨u, h1, h2⟩ := load_sim (P := C.P) (g := g) (p := i * B.esz) hr (fun j hj => hc j (by omega)) hv
  refine ⟨u, w, ρ, im, .inl ?_, h, h2⟩
  rw [hz] at h1
  simp [execOp, ho, ex, Instr.loadAt, Instr.sureAddr, h1]

theorem does_load_rp {T : TypeId} {x : Operand} {cs : List PV} {v : PV} (ho : o.op = .load T x) (h : Rel' C st a w ρ im) (hx : LR w im ρ (.rp cs) (a.eval x))
    (hv : partPV C.P T cs 0 = some v) : Does C (effsOn [] st) a w (execOp a.eval o) v := by
  have hr := hx.rp_inv
  generalize hu : a.eval x = u0 at *
  cases hr with
  | rp _ g off vs hi hc hr =>
    obtain ⟨u, h1, h2⟩ := load_sim (P := C.P) (w := w) (g := g) (p := off) (off := 0) (ρ := ρ) hr.toLRL (fun j hj => hc j hj) hv
    refine ⟨u, w, ρ, im, .inl ?_, h, h2⟩
    rw [Nat.add_zero] at h1
    simp [execOp, ho, hu, Instr.loadAt, Instr.sureAddr, h1]

end
end Go.Vl
