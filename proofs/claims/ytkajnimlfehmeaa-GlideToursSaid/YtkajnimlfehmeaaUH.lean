/-
  The operations that make memory or write it, II.
-/
import Derived.Test.YtkajnimlfehmeaaUG
set_option linter.unusedSimpArgs false
set_option linter.unusedVariables false
namespace Go.Vl
open Go.RowKit

section
variable {C : Ctx} {st : St} {a : Act} {w : World} {ρ : Rho} {im : Im} {o : Oper}

theorem RepL.flat_cells {w : World} {im : Im} : ∀ {vs : List PV} {us : List Value}, RepL w im vs us → (∀ e ∈ vs, okCells e.cells = true) → RepL w im (vs.flatMap PV.cells) (us.flatMap fun u => u.cells.toList)
  | _, _, .nil, _ => .nil
  | _, _, .cons v u vs us h t, ho => by
    simp only [List.flatMap_cons]
    exact (h.cells (ho v (by simp))).append (t.flat_cells fun e he => ho e (by simp [he]))

theorem okCells_flat {vs : List PV} (ho : ∀ e ∈ vs, okCells e.cells = true) : (vs.flatMap PV.cells).all PV.okCell = true := by
  simp only [List.all_eq_true, List.mem_flatMap]
  rintro x ⟨e, he, hx⟩
  exact List.all_eq_true.1 (ho e he) x hx

theorem does_buildSlice {tb : Tab} {id n : Nat} (hidL : id < LENT) {T : TypeId} {parts : Array (Nat × Operand)} {vs : List PV} {r : PV} {es : List Eff} {l : Acc} (ho : o.op = .buildSlice T n parts) (h : Rel' C st a w ρ im)
    (hv : LRL w im ρ vs (o.op.operands.toList.map a.eval)) (he : opVal C.P tb id o.op vs st.box = some (.done r es, l)) : Does C (effsOn es st) a w (execOp a.eval o) r := by
  rw [ho] at he hv
  simp only [opVal] at he
  obtain ⟨_, _, _, e1, e2, _⟩ := M.bind_some he
  obtain ⟨c1, _⟩ := M.ok_some e1
  obtain ⟨E, _, _, e3, e4, _⟩ := M.bind_some e2
  obtain ⟨c2, _⟩ := M.ofOpt_some e3
  obtain ⟨q, _, _, e5, e6, _⟩ := M.bind_some e4
  obtain ⟨c3, _⟩ := M.ofOpt_some e5
  obtain ⟨z, _, _, e7, e8, _⟩ := M.bind_some e6
  obtain ⟨c4, _⟩ := M.ofOpt_some e7
  obtain ⟨b, _, _, e9, e10, _⟩ := M.bind_some e8
  obtain ⟨rfl, _⟩ := M.hard_some e9
  obtain ⟨⟨ys, fs⟩, _, _, e11, e12, _⟩ := M.bind_some e10
  obtain ⟨_, _, _, e13, e14, _⟩ := M.bind_some e12
  obtain ⟨c5, _⟩ := M.ok_some e13
  obtain ⟨e15, _⟩ := M.pure_some e14
  cases e15
  simp only [Bool.and_eq_true, decide_eq_true_eq, beq_iff_eq, List.all_eq_true, Option.isNone_iff_eq_none] at c1 c5
  obtain ⟨⟨⟨⟨⟨d1, d2⟩, d3⟩, d4⟩, d5⟩, d6⟩ := c5
  obtain ⟨⟨c11, c12⟩, c13⟩ := c1
  obtain ⟨i, hi, hi1, hi2⟩ := tyInfo_inv c3
  obtain ⟨i', zv, hz1, hz2, hz3⟩ := zeroPV_inv c4
  rw [hi] at hz1; cases hz1
  have hT := tyElem_inv c2
  simp only [Op.operands, List.map_map] at hv
  obtain ⟨im1, g1, r1⟩ := esc1L_sim h (fun _ => rfl) hv e11
  have hus := r1.length
  rw [d3] at hus
  have hrl := r1.flat_cells fun e he => (d4 e he).2
  generalize husg : parts.toList.map (a.eval ∘ fun x => x.2) = us at *
  have hsize : ∀ u ∈ us, u.cells.size = q.1 := by
    have key : ∀ (vs : List PV) (us : List Value), RepL w im1 vs us → (∀ e ∈ vs, e.cells.length = q.1 ∧ okCells e.cells = true) → ∀ u ∈ us, u.cells.size = q.1 := by
      intro vs
      induction vs with
      | nil => intro us hr _ u hu; cases hr; simp at hu
      | cons v vs ih =>
        intro us hr ho u hu
        cases hr with
        | cons _ u0 _ us0 h0 t =>
          rcases List.mem_cons.1 hu with rfl | hu
          · have := (h0.cells (ho v (by simp)).2).length
            rw [(ho v (by simp)).1] at this
            simpa using this.symm
          · exact ih _ t (fun e he => ho e (by simp [he])) u hu
    exact key ys us r1 d4
  have hparts : (parts.map fun (i, x) => (i, a.eval x)).toList = (us.zipIdx 0).map fun x => (x.2, x.1) := by
    rw [← husg]
    apply List.ext_getElem?
    intro k
    simp only [Array.toList_map, List.getElem?_map, List.zipIdx_map, List.getElem?_zipIdx, Array.getElem?_toList]
    have hk : (parts.toList.map (·.1))[k]? = (List.range n)[k]? := by rw [c11]
    simp only [List.getElem?_map, Array.getElem?_toList] at hk
    cases hp : parts[k]? with
    | none => simp
    | some p =>
      rw [hp] at hk
      simp only [Option.map_some] at hk
      have hkn : k < n := by
        rcases Nat.lt_or_ge k n with x | x
        · exact x
        · rw [List.getElem?_eq_none (by simpa using x)] at hk; cases hk
      rw [List.getElem?_range hkn] at hk
      cases hk
      simp
  have hfill := Great.fill_whole (s := q.1) (by omega) us ((Array.range (n * i.size)).map (zv.cells[· % zv.cells.size]!)) hsize (by simp; rw [hi1, ← hus])
  have hnq : n * q.1 ≤ 1000 * 1000 := Nat.mul_le_mul c13 d6
  have hnp : 0 < n * q.1 := Nat.mul_pos c12 d5
  have hrun := run_buildSlice (P := C.P) w T E n (parts.map fun (i, x) => (i, a.eval x)) _ i zv hT hi hz2 (by rw [hi1]; omega) (by rw [hi1]; omega) (by rw [hparts, hi1]; rw [hi1] at hfill; exact hfill)
  have hok := okCells_flat fun e he => (d4 e he).2
  obtain ⟨h1, h2, h3⟩ := g1.rel.newBox hidL (g1.no id d1) { els := ys, esz := q.1, ety := E, fro := 0, live := true, arr := true } (us.flatMap fun u => u.cells.toList) [] rfl d5 (fun e he => (d4 e he).1) rfl
    hrl.toLRL (fun _ => hrl) (hrl.toLRL (ρ := ρ) |>.oneCells hok)
  have hul := hrl.length
  rw [flat_length (fun e he => (d4 e he).1), d3] at hul
  refine ⟨.slice (some ⟨w.heap.size, 0, none⟩) n n, w.alloc (.cells (us.flatMap fun v => v.cells.toList).toArray E), upd ρ id (some (some w.heap.size)), im1, .inl ?_, ?_, ?_⟩
  · simp [execOp, ho, hrun]
  · rw [effsOn_append]
    simpa [effsOn, Eff.on] using h1
  · exact .bs id q.1 0 n w.heap.size 0 n _ E (upd_same _ _ _) (heap_alloc_new w _) (by simp) (by simp [← hul]) (Nat.le_refl _) (by simp only [maxLen]; omega)

theorem run_storeVar {P : Program} {T : TypeId} {i : TypeInfo} {g p : Nat} {u : Value} {cur : Array Value} {t : TypeId} {w : World} (hi : P.info? T = some i) (hn : u.cells.size = i.size) (hg : w.heap[g]? = some (Obj.cells cur t (0, 0)))
    (hl : p + u.cells.size ≤ cur.size) (h1 : ∀ v ∈ u.cells.toList, v.oneCell' = true) :
    (storeVar T ⟨g, p, none⟩ u).run P w = .ok () (w.setRow g (cur.toList.take p ++ u.cells.toList ++ cur.toList.drop (p + u.cells.toList.length)).toArray) := by
  have := run_storeCells_at P g p t u.cells.toList 0 cur w hg (by simpa using hl) h1
  simp only [Nat.add_zero] at this
  simp [storeVar, run_sizeOf' hi, hn, this]

/-- Elements of a box overwritten, in the world. -/
theorem Rel'.over {C : Ctx} {st : St} {a : Act} {w : World} {ρ : Rho} {im : Im} (h : Rel' C st a w ρ im) {b g off : Nat} {B : Box} {xs : List PV} {us' : List Value}
    (hρ : ρ b = some (some g)) (hB : st.box b = some B) (hl : B.live = true) (hf : B.fro ≤ off) (hlen : off + xs.length ≤ B.els.length) (hxz : ∀ e ∈ xs, e.cells.length = B.esz)
    (hok : (xs.flatMap PV.cells).all PV.okCell = true) (hr : RepL w im (xs.flatMap PV.cells) us') :
    ∃ (cur : Array Value), w.heap[g]? = some (Obj.cells cur B.ety (0, 0)) ∧ off * B.esz + us'.length ≤ cur.size ∧
      Rel' C (st.setBox b (B.over off xs)) a (w.setRow g (cur.toList.take (off * B.esz) ++ us' ++ cur.toList.drop (off * B.esz + us'.length)).toArray) ρ im := by
  obtain ⟨h1, h2, h3, h4, cur, us, rest, h5, h6, h7, h8, h9, h10, h11⟩ := h.box b _ B hρ hB
  have hul : us.length = B.els.length * B.esz := by rw [← h7.length, flat_length h4]
  have hvl : us'.length = xs.length * B.esz := by rw [← hr.length, flat_length hxz]
  have hmul : off * B.esz + xs.length * B.esz ≤ B.els.length * B.esz := by rw [← Nat.add_mul]; exact Nat.mul_le_mul_right _ hlen
  have hpu : off * B.esz + us'.length ≤ us.length := by omega
  have hcs : cur.size = us.length + rest.length := by rw [← Array.length_toList, h6]; simp
  have hfi : B.fro * B.esz ≤ off * B.esz := Nat.mul_le_mul_right _ hf
  refine ⟨cur, h5, by omega, ?_⟩
  have hsz : (cur.toList.take (off * B.esz) ++ us' ++ cur.toList.drop (off * B.esz + us'.length)).toArray.size = cur.size := by simp; omega
  have hni : ∀ j, B.fro * B.esz ≤ j → ¬ im g j := h11 hl
  have hk : Keeps im w (w.setRow g (cur.toList.take (off * B.esz) ++ us' ++ cur.toList.drop (off * B.esz + us'.length)).toArray) := by
    refine Keeps.setRow h5 hsz ?_
    intro j hj
    have : j < B.fro * B.esz := by
      rcases Nat.lt_or_ge j (B.fro * B.esz) with x | x
      · exact x
      · exact absurd hj (hni j x)
    rw [List.getElem?_toArray, splice_get _ _ _ _ (by simp; omega) (.inl (by omega)), Array.getElem?_toList]
  have hg' := setRow_heap w g cur (cur.toList.take (off * B.esz) ++ us' ++ cur.toList.drop (off * B.esz + us'.length)).toArray B.ety _ h5
  have hflat : (B.over off xs).els.flatMap PV.cells = (B.els.flatMap PV.cells).take (off * B.esz) ++ xs.flatMap PV.cells ++ (B.els.flatMap PV.cells).drop (off * B.esz + us'.length) := by
    simp only [Box.over, List.flatMap_append]
    rw [hvl, flat_take off h4, ← Nat.add_mul, flat_drop (off + xs.length) h4]
  have hurest : (cur.toList.take (off * B.esz) ++ us' ++ cur.toList.drop (off * B.esz + us'.length)) = (us.take (off * B.esz) ++ us' ++ us.drop (off * B.esz + us'.length)) ++ rest := by
    rw [h6, List.take_append_of_le_length (by omega), List.drop_append_of_le_length (by omega)]
    simp
  have hell : (B.over off xs).els.length = B.els.length := by simp [Box.over]; omega
  refine ⟨h.step ⟨Lent.setRow ⟨b, hρ⟩ _ _, hk, fun _ x => .inl x, fun _ _ x => x, fun _ _ x => .inl x⟩ h.root.rho0, h.nt, dfr_keep hk h.dfr, ?_, ?_, ?_, ?_, ?_⟩
  · intro g' j x; rw [hk.cell g' j x]; exact h.imc g' j x
  · exact fun t v hv => (h.var t v hv).mono hk (fun _ _ x => x) (fun _ _ x => x)
  · intro b'
    by_cases x : b' = b
    · subst x; simp [St.setBox, upd_same, hρ]
    · simp [St.setBox, upd_other _ _ _ _ x, h.rho b']
  · intro b' x B' hx hB'
    by_cases eb : b' = b
    · subst eb
      simp only [St.setBox, upd_same, Option.some.injEq] at hB'
      rw [hρ] at hx
      cases hx
      subst hB'
      refine ⟨h1, by rw [hell]; exact h2, h3, ?_, _, us.take (off * B.esz) ++ us' ++ us.drop (off * B.esz + us'.length), rest, hg', ?_, ?_, ?_, ?_, ?_, ?_⟩
      · intro e' he'
        simp only [Box.over, List.mem_append] at he'
        rcases he' with (x | x) | x
        · exact h4 e' (List.mem_of_mem_take x)
        · exact hxz e' x
        · exact h4 e' (List.mem_of_mem_drop x)
      · simpa using hurest
      · rw [hflat]
        exact (((h7.take _).append hr.toLRL).append (h7.drop _)).mono hk (fun _ _ x => x) (fun _ _ x => x)
      · intro ha'
        rw [hflat]
        exact ((((h8 ha').take _).append hr).append ((h8 ha').drop _)).mono hk.cell (fun _ _ x => x)
      · intro u hu
        simp only [List.mem_append] at hu
        rcases hu with (hu | hu) | hu
        · exact h9 u (List.mem_of_mem_take hu)
        · exact (hr.toLRL (ρ := ρ)).oneCells hok u hu
        · exact h9 u (List.mem_of_mem_drop hu)
      · intro j hj hh
        refine h10 j ?_ hh
        simp at hj; omega
      · exact fun _ j hj => hni j hj
    · simp only [St.setBox, upd_other _ _ _ _ eb] at hB'
      refine (h.box b' x B' hx hB').mono hk (fun _ _ x => x) (fun _ _ _ _ x => x) (fun _ _ x => x) ?_
      intro hl' g' e'
      subst e'
      have : g' ≠ g := fun e => eb (h.inj b' b g' B' B hx (by rw [e]; exact hρ) hB' hB hl' hl)
      exact setRow_other w g g' _ this
  · intro b1 b2 g1 B1 B2 p1 p2 e1 e2 l1 l2
    have f : ∀ b0 B0, (st.setBox b (B.over off xs)).box b0 = some B0 → B0.live = true → ∃ B3, st.box b0 = some B3 ∧ B3.live = true := by
      intro b0 B0 e0 l0
      by_cases x : b0 = b
      · subst x; exact ⟨B, hB, hl⟩
      · simp only [St.setBox, upd_other _ _ _ _ x] at e0; exact ⟨B0, e0, l0⟩
    obtain ⟨B3, e3, l3⟩ := f b1 B1 e1 l1
    obtain ⟨B4, e4, l4⟩ := f b2 B2 e2 l2
    exact h.inj b1 b2 g1 B3 B4 p1 p2 e3 e4 l3 l4

theorem flatc_ok {v : PV} (h : flatc v = true) : v.okCell = true := by cases v <;> first | rfl | (simp [flatc] at h)
theorem flatc_repIm {w : World} {im im2 : Im} {v : PV} {u : Value} (hf : flatc v = true) (h : Rep w im v u) : Rep w im2 v u := by
  cases v <;> first
    | (simp [flatc] at hf; done)
    | (cases h <;> constructor)
theorem flatcL_repIm {w : World} {im im2 : Im} : ∀ {vs : List PV} {us : List Value}, vs.all flatc = true → RepL w im vs us → RepL w im2 vs us
  | [], _, _, .nil => .nil
  | v :: vs, _, hf, .cons _ u _ us h t => by
    simp only [List.all_cons, Bool.and_eq_true] at hf
    exact .cons _ _ _ _ (flatc_repIm hf.1 h) (flatcL_repIm hf.2 t)

theorem wr_on {st : St} {b i : Nat} {e : PV} {B : Box} (hB : st.box b = some B) : (Eff.wr b i e).on st = st.setBox b { B with els := B.els.set i e } := by simp [Eff.on, hB]

theorem eff_other (e : Eff) (st : St) {b : Nat} (h : e.id ≠ b) : (e.on st).box b = st.box b := by
  cases e <;> simp only [Eff.id] at h <;> simp only [Eff.on] <;> first
    | rfl
    | (simp only [St.setBox]; exact upd_other _ _ _ _ fun x => h x.symm)
    | (split
       · simp only [St.setBox]; exact upd_other _ _ _ _ fun x => h x.symm
       · rfl)
theorem effsOn_other : ∀ (es : List Eff) (st : St) {b : Nat}, (∀ e ∈ es, e.id ≠ b) → (effsOn es st).box b = st.box b
  | [], _, _, _ => rfl
  | e :: es, st, b, h => by
    rw [effsOn_cons, effsOn_other es _ fun x hx => h x (by simp [hx])]
    exact eff_other e st (h e (by simp))

theorem does_store {tb : Tab} {id : Nat} {T : TypeId} {x y : Operand} {b esz i off : Nat} {v r : PV} {es : List Eff} {l : Acc} (ho : o.op = .store T x y) (h : Rel' C st a w ρ im)
    (hx : LR w im ρ (.bp b esz i off) (a.eval x)) (hy : LR w im ρ v (a.eval y)) (he : opVal C.P tb id o.op [.bp b esz i off, v] st.box = some (.done r es, l)) : Does C (effsOn es st) a w (execOp a.eval o) r := by
  rw [ho] at he
  simp only [opVal] at he
  obtain ⟨Bo, _, _, e1, e2, _⟩ := M.bind_some he
  obtain ⟨rfl, _⟩ := M.hard_some e1
  obtain ⟨B, _, _, e3, e4, _⟩ := M.bind_some e2
  obtain ⟨hB, _⟩ := M.ofOpt_some e3
  obtain ⟨e, _, _, e5, e6, _⟩ := M.bind_some e4
  obtain ⟨hel, _⟩ := M.ofOpt_some e5
  obtain ⟨_, _, _, e7, e8, _⟩ := M.bind_some e6
  obtain ⟨c, _⟩ := M.ok_some e7
  simp only [Bool.and_eq_true, decide_eq_true_eq, beq_iff_eq] at c
  obtain ⟨⟨⟨⟨⟨⟨c0, c1⟩, c2⟩, c3⟩, c4⟩, c5⟩, c6⟩ := c
  subst c0
  obtain ⟨ti, hti⟩ := Option.isSome_iff_exists.1 c3
  rw [cellsOf_info hti] at c4
  obtain ⟨g, hg, ex⟩ := hx.bp_inv
  have hcells := hy.cells c5
  have hul : (a.eval y).cells.size = v.cells.length := by rw [hcells.length]; simp
  split at e8
  · rename_i harr
    obtain ⟨⟨ys, fs⟩, _, _, e9, e10, _⟩ := M.bind_some e8
    obtain ⟨_, _, _, e11, e12, _⟩ := M.bind_some e10
    obtain ⟨c7, _⟩ := M.ok_some e11
    obtain ⟨e13, _⟩ := M.pure_some e12
    cases e13
    obtain ⟨im1, g1, r1⟩ := escL_sim h (fun _ => rfl) hcells e9
    have hyl := r1.length
    simp only [Bool.and_eq_true, List.all_eq_true, bne_iff_ne] at c7
    have hB' : (effsOn fs st).box b = some B := by rw [effsOn_other _ _ c7.2]; exact hB
    obtain ⟨cur, k1, k2, k3⟩ := g1.rel.write (vs := ys) hg hB' c1 c2 hel (by rw [hyl, ← hcells.length]; exact c6) c7.1 r1.toLRL (fun _ => r1)
    have hrun := run_storeVar (P := C.P) (T := T) (u := a.eval y) hti (by omega) k1 (by simpa using k2) (hcells.oneCells c5)
    refine ⟨undef, w.setRow g (cur.toList.take (i * B.esz + off) ++ (a.eval y).cells.toList ++ cur.toList.drop (i * B.esz + off + (a.eval y).cells.toList.length)).toArray, ρ, im1, .inr ⟨?_, rfl⟩, ?_, ?_⟩
    · simp [execOp, ho, ex, Instr.storeAt, Instr.sureAddr, hrun]
    · rw [effsOn_append]
      simpa [effsOn_cons, effsOn_nil, wr_on hB'] using k3
    · exact .ext _ _ (.tup [] [] .nil)
  · rename_i harr
    obtain ⟨e13, _⟩ := M.pure_some e8
    cases e13
    obtain ⟨cur, k1, k2, k3⟩ := h.write hg hB c1 c2 hel c6 c5 hcells (by intro x; exact absurd x harr)
    have hrun := run_storeVar (P := C.P) (T := T) (u := a.eval y) hti (by omega) k1 (by simpa using k2) (hcells.oneCells c5)
    refine ⟨undef, w.setRow g (cur.toList.take (i * B.esz + off) ++ (a.eval y).cells.toList ++ cur.toList.drop (i * B.esz + off + (a.eval y).cells.toList.length)).toArray, ρ, im, .inr ⟨?_, rfl⟩, ?_, ?_⟩
    · simp [execOp, ho, ex, Instr.storeAt, Instr.sureAddr, hrun]
    · simpa [effsOn, wr_on hB] using k3
    · exact .ext _ _ (.tup [] [] .nil)

theorem does_makeSlice {tb : Tab} {id : Nat} (hidL : id < LENT) {T : TypeId} {x y : Operand} {k1 k2 : IntKind} {n c : Int} {r : PV} {es : List Eff} {l : Acc} (ho : o.op = .makeSlice T x y) (h : Rel' C st a w ρ im)
    (hx : LR w im ρ (.int k1 n) (a.eval x)) (hy : LR w im ρ (.int k2 c) (a.eval y)) (he : opVal C.P tb id o.op [.int k1 n, .int k2 c] st.box = some (.done r es, l)) : Does C (effsOn es st) a w (execOp a.eval o) r := by
  rw [ho] at he
  simp only [opVal] at he
  obtain ⟨E, _, _, e1, e2, _⟩ := M.bind_some he
  obtain ⟨c1, _⟩ := M.ofOpt_some e1
  obtain ⟨q, _, _, e3, e4, _⟩ := M.bind_some e2
  obtain ⟨c2, _⟩ := M.ofOpt_some e3
  obtain ⟨z, _, _, e5, e6, _⟩ := M.bind_some e4
  obtain ⟨c3, _⟩ := M.ofOpt_some e5
  obtain ⟨b, _, _, e7, e8, _⟩ := M.bind_some e6
  obtain ⟨rfl, _⟩ := M.hard_some e7
  obtain ⟨_, _, _, e9, e10, _⟩ := M.bind_some e8
  obtain ⟨c4, _⟩ := M.ok_some e9
  obtain ⟨e11, _⟩ := M.pure_some e10
  cases e11
  simp only [Bool.and_eq_true, decide_eq_true_eq, beq_iff_eq, Option.isNone_iff_eq_none] at c4
  obtain ⟨⟨⟨⟨⟨⟨⟨d1, d2⟩, d3⟩, d4⟩, d5⟩, d6⟩, d7⟩, d8⟩ := c4
  obtain ⟨i, hi, hi1, hi2⟩ := tyInfo_inv c2
  obtain ⟨i', zv, hz1, hz2, hz3⟩ := zeroPV_inv c3
  rw [hi] at hz1; cases hz1
  have hrun := run_make (P := C.P) w T E i zv (tyElem_inv c1) hi hz2 k1 k2 n c d5 d6 (by rw [hi2]; exact d7) d8
  have hrep := (constPV_rep (w := w) (im := im) hz3).cells d3
  have hzl := hrep.length
  rw [d2] at hzl
  have hzs : zv.cells.size = q.1 := by simpa using hzl.symm
  -- the made cells are the zero's, over and over
  have hmade : ∀ m, (madeCells zv.cells (m * q.1)).toList = (List.replicate m zv.cells.toList).flatten := by
    intro m
    apply List.ext_getElem?
    intro k
    have hget : ∀ m k, (List.replicate m zv.cells.toList).flatten[k]? = if k < m * q.1 then zv.cells[k % q.1]? else none := by
      intro m
      induction m with
      | zero => intro k; simp
      | succ m ih =>
        intro k
        rw [List.replicate_succ, List.flatten_cons]
        by_cases hk : k < q.1
        · rw [List.getElem?_append_left (by simp; omega), if_pos (by rw [Nat.succ_mul]; omega), Nat.mod_eq_of_lt hk, Array.getElem?_toList]
        · rw [List.getElem?_append_right (by simp; omega)]
          simp only [Array.length_toList, hzs]
          rw [ih, Nat.succ_mul]
          have : (k - q.1) % q.1 = k % q.1 := by
            conv => rhs; rw [← Nat.sub_add_cancel (Nat.le_of_not_lt hk), Nat.add_mod_right]
          rw [this]
          by_cases hk2 : k - q.1 < m * q.1
          · rw [if_pos hk2, if_pos (by omega)]
          · rw [if_neg hk2, if_neg (by omega)]
    rw [hget]
    simp only [madeCells, Array.toList_map, List.getElem?_map, Array.getElem?_toList, Array.getElem?_range]
    by_cases hk : k < m * q.1
    · have hlt : k % q.1 < zv.cells.size := by rw [hzs]; exact Nat.mod_lt _ d4
      simp [hk, hzs]
      rw [hzs] at hlt
      simp [hzs, hlt]
    · simp [hk]
  have hsplit : (madeCells zv.cells (c.toNat * i.size)) = ((List.replicate n.toNat zv.cells.toList).flatten ++ (List.replicate (c.toNat - n.toNat) zv.cells.toList).flatten).toArray := by
    apply Array.ext'
    rw [hi1, hmade]
    have : c.toNat = n.toNat + (c.toNat - n.toNat) := by omega
    rw [← List.flatten_append, List.replicate_append_replicate, ← this]
  have hrepl : ∀ m, RepL w im ((List.replicate m z).flatMap PV.cells) (List.replicate m zv.cells.toList).flatten := by
    intro m
    induction m with
    | zero => exact .nil
    | succ m ih =>
      rw [List.replicate_succ, List.replicate_succ, List.flatMap_cons, List.flatten_cons]
      exact hrep.append ih
  have hez : ∀ e ∈ List.replicate n.toNat z, e.cells.length = q.1 := fun e he => by rw [List.eq_of_mem_replicate he]; exact d2
  have hok := okCells_flat (vs := List.replicate n.toNat z) fun e he => by rw [List.eq_of_mem_replicate he]; exact d3
  obtain ⟨h1, h2, h3⟩ := h.newBox hidL d1 { els := List.replicate n.toNat z, esz := q.1, ety := E, fro := 0, live := true, arr := true } (List.replicate n.toNat zv.cells.toList).flatten (List.replicate (c.toNat - n.toNat) zv.cells.toList).flatten rfl d4 hez rfl
    (hrepl _).toLRL (fun _ => hrepl _) ((hrepl n.toNat).toLRL (ρ := ρ) |>.oneCells hok)
  rw [hsplit] at hrun
  have hfl : ∀ m, (List.replicate m zv.cells.toList).flatten.length = m * q.1 := by
    intro m; rw [← (hrepl m).length, flat_length (esz := q.1)]
    · simp
    · intro e he; rw [List.eq_of_mem_replicate he]; exact d2
  refine ⟨_, _, _, im, .inl (by simp [execOp, ho, hx.int_inv, hy.int_inv, hrun]; exact ⟨rfl, rfl⟩), by simpa [effsOn, Eff.on] using h1, ?_⟩
  have hmul : c.toNat * q.1 = n.toNat * q.1 + (c.toNat - n.toNat) * q.1 := by rw [← Nat.add_mul]; congr 1; omega
  refine .bs id q.1 0 n.toNat w.heap.size 0 c.toNat _ E (upd_same _ _ _) (heap_alloc_new w _) (by simp) ?_ (by omega) (by simp only [maxLen]; omega)
  have e1 := hfl n.toNat
  have e2 := hfl (c.toNat - n.toNat)
  simp only [List.size_toArray, List.length_append, e1, e2]
  omega

end
end Go.Vl
